/- The two functions that say whether two ends are the same. -/
import Derived.Test.YtmeblifndelpbaaDoorEq
import Derived.WalkSmall
namespace Go.Proofs.YtmeblifndelpbaaDoor
open Go.RowKit Go.Lib

theorem Reads.below {w W : World} {a : Option Addr} {n : Nat} {xs : List ByteArray} (h : Reads w a n xs) (hb : Below w.heap.size w W) : Reads W a n xs := by
  obtain ⟨h1, h2, h3⟩ := h
  refine ⟨h1, h2, h3.imp id fun ⟨b, o, e, k⟩ => ⟨b, o, e, fun j hj => ?_⟩⟩
  have hk := k j hj
  have hlt : b < w.heap.size := by
    by_cases hb : b < w.heap.size
    · exact hb
    · have : w.heap[b]? = none := by simp; omega
      simp [World.cell?, this] at hk
  rw [hb.cell (p := ⟨b, o + j, none⟩) hlt]; exact hk

theorem below_two {w : World} (o1 o2 : Obj) : Below w.heap.size w ((w.alloc o1).alloc o2) := ((Below.refl _ _).alloc (Nat.le_refl _) _).alloc (by simp) _
theorem equal_is {a1 a2 : Option Addr} {n c m d : Nat} {xs ys : List ByteArray} {w W : World} (h1 : Reads w a1 n xs) (h2 : Reads w a2 m ys) (hb : Below w.heap.size w W) {r : Bool} (hr : decide (xs = ys) = r) :
    Calls Tryd.prog 12 #[.slice a1 n c, .slice a2 m d] W fun e w' => e = .returned (.bool r) ∧ ∃ q, w' = W.drewN q := by
  subst hr; exact equal_any (h1.below hb) (h2.below hb)
theorem texts_is {a1 a2 : Option Addr} {n c m d : Nat} {xs ys : List ByteArray} {w W : World} (h1 : Reads w a1 n xs) (h2 : Reads w a2 m ys) (hb : Below w.heap.size w W) {r : Bool} (hr : decide (xs = ys) = r) :
    Calls Tryd.prog 13 #[.slice a1 n c, .slice a2 m d] W fun e w' => e = .returned (.bool r) ∧ ∃ q, w' = W.drewN q := by
  subst hr; exact texts_any (h1.below hb) (h2.below hb)

theorem equal_at {a1 a2 : Option Addr} {n c m d : Nat} {xs ys : List ByteArray} {w W : World} (h1 : Reads w a1 n xs) (h2 : Reads w a2 m ys) (hb : Below w.heap.size w W) {r : Bool} (hr : decide (xs = ys) = r) :
    Calls Tryd.prog 12 #[.slice a1 n c, .slice a2 m d] W fun e w' => e = .returned (.bool r) ∧ (∀ x, w'.cell? x = W.cell? x) ∧ Below w.heap.size w w' := by
  refine (equal_is h1 h2 hb hr).mono fun e w' ⟨he, q, hw⟩ => ⟨he, fun x => ?_, ?_⟩
  · subst hw; rfl
  · subst hw; exact below_drewN hb q

theorem texts_at {a1 a2 : Option Addr} {n c m d : Nat} {xs ys : List ByteArray} {w W : World} (h1 : Reads w a1 n xs) (h2 : Reads w a2 m ys) (hb : Below w.heap.size w W) {r : Bool} (hr : decide (xs = ys) = r) :
    Calls Tryd.prog 13 #[.slice a1 n c, .slice a2 m d] W fun e w' => e = .returned (.bool r) ∧ (∀ x, w'.cell? x = W.cell? x) ∧ Below w.heap.size w w' := by
  refine (texts_is h1 h2 hb hr).mono fun e w' ⟨he, q, hw⟩ => ⟨he, fun x => ?_, ?_⟩
  · subst hw; rfl
  · subst hw; exact below_drewN hb q

set_option maxHeartbeats 2000000 in
theorem same5 {a0 a1 a2 a3 b0 b1 b2 b3 : Option Addr} {n0 n1 n2 n3 m0 m1 m2 m3 c0 c1 c2 c3 d0 d1 d2 d3 : Nat} {x0 x1 x2 x3 y0 y1 y2 y3 : List ByteArray} {w : World}
    (hx0 : Reads w a0 n0 x0) (hx1 : Reads w a1 n1 x1) (hx2 : Reads w a2 n2 x2) (hx3 : Reads w a3 n3 x3) (hy0 : Reads w b0 m0 y0) (hy1 : Reads w b1 m1 y1) (hy2 : Reads w b2 m2 y2) (hy3 : Reads w b3 m3 y3) (r0 r1 r2 r3 : Bool)
    (e0 : decide (x0 = y0) = r0) (e1 : decide (x1 = y1) = r1) (e2 : decide (x2 = y2) = r2) (e3 : decide (x3 = y3) = r3) :
    Calls Tryd.prog 5 #[.agg #[.slice a0 n0 c0, .slice a1 n1 c1, .slice a2 n2 c2, .slice a3 n3 c3], .agg #[.slice b0 m0 d0, .slice b1 m1 d1, .slice b2 m2 d2, .slice b3 m3 d3]] w fun e w' => e = .returned (.bool (r0 && r1 && r2 && r3)) ∧ Below w.heap.size w w' := by
  cases r0
  · clear e1 e2 e3
    go_enter Tryd.func5, Tryd.ntmps5
    go_wp2_with (first | (go_at_call 12; with_reducible refine (equal_at hx0 hy0 (by first | assumption | exact below_two _ _) e0).mono ?_; rintro e w1 ⟨rfl, hc1, hb1⟩) | (go_at_call 12; with_reducible refine (equal_at hx1 hy1 (by first | assumption | exact below_two _ _) e1).mono ?_; rintro e w2 ⟨rfl, hc2, hb2⟩) | (go_at_call 12; with_reducible refine (equal_at hx2 hy2 (by first | assumption | exact below_two _ _) e2).mono ?_; rintro e w3 ⟨rfl, hc3, hb3⟩) | (go_at_call 12; with_reducible refine (equal_at hx3 hy3 (by first | assumption | exact below_two _ _) e3).mono ?_; rintro e w4 ⟨rfl, hc4, hb4⟩))
    go_ret
    exact ⟨rfl, by assumption⟩
  · cases r1
    · clear e2 e3
      go_enter Tryd.func5, Tryd.ntmps5
      go_wp2_with (first | (go_at_call 12; with_reducible refine (equal_at hx0 hy0 (by first | assumption | exact below_two _ _) e0).mono ?_; rintro e w1 ⟨rfl, hc1, hb1⟩) | (go_at_call 12; with_reducible refine (equal_at hx1 hy1 (by first | assumption | exact below_two _ _) e1).mono ?_; rintro e w2 ⟨rfl, hc2, hb2⟩) | (go_at_call 12; with_reducible refine (equal_at hx2 hy2 (by first | assumption | exact below_two _ _) e2).mono ?_; rintro e w3 ⟨rfl, hc3, hb3⟩) | (go_at_call 12; with_reducible refine (equal_at hx3 hy3 (by first | assumption | exact below_two _ _) e3).mono ?_; rintro e w4 ⟨rfl, hc4, hb4⟩))
      go_ret
      exact ⟨rfl, by assumption⟩
    · cases r2
      · clear e3
        go_enter Tryd.func5, Tryd.ntmps5
        go_wp2_with (first | (go_at_call 12; with_reducible refine (equal_at hx0 hy0 (by first | assumption | exact below_two _ _) e0).mono ?_; rintro e w1 ⟨rfl, hc1, hb1⟩) | (go_at_call 12; with_reducible refine (equal_at hx1 hy1 (by first | assumption | exact below_two _ _) e1).mono ?_; rintro e w2 ⟨rfl, hc2, hb2⟩) | (go_at_call 12; with_reducible refine (equal_at hx2 hy2 (by first | assumption | exact below_two _ _) e2).mono ?_; rintro e w3 ⟨rfl, hc3, hb3⟩) | (go_at_call 12; with_reducible refine (equal_at hx3 hy3 (by first | assumption | exact below_two _ _) e3).mono ?_; rintro e w4 ⟨rfl, hc4, hb4⟩))
        go_ret
        exact ⟨rfl, by assumption⟩
      · cases r3
        · go_enter Tryd.func5, Tryd.ntmps5
          go_wp2_with (first | (go_at_call 12; with_reducible refine (equal_at hx0 hy0 (by first | assumption | exact below_two _ _) e0).mono ?_; rintro e w1 ⟨rfl, hc1, hb1⟩) | (go_at_call 12; with_reducible refine (equal_at hx1 hy1 (by first | assumption | exact below_two _ _) e1).mono ?_; rintro e w2 ⟨rfl, hc2, hb2⟩) | (go_at_call 12; with_reducible refine (equal_at hx2 hy2 (by first | assumption | exact below_two _ _) e2).mono ?_; rintro e w3 ⟨rfl, hc3, hb3⟩) | (go_at_call 12; with_reducible refine (equal_at hx3 hy3 (by first | assumption | exact below_two _ _) e3).mono ?_; rintro e w4 ⟨rfl, hc4, hb4⟩))
          go_ret
          exact ⟨rfl, by assumption⟩
        · go_enter Tryd.func5, Tryd.ntmps5
          go_wp2_with (first | (go_at_call 12; with_reducible refine (equal_at hx0 hy0 (by first | assumption | exact below_two _ _) e0).mono ?_; rintro e w1 ⟨rfl, hc1, hb1⟩) | (go_at_call 12; with_reducible refine (equal_at hx1 hy1 (by first | assumption | exact below_two _ _) e1).mono ?_; rintro e w2 ⟨rfl, hc2, hb2⟩) | (go_at_call 12; with_reducible refine (equal_at hx2 hy2 (by first | assumption | exact below_two _ _) e2).mono ?_; rintro e w3 ⟨rfl, hc3, hb3⟩) | (go_at_call 12; with_reducible refine (equal_at hx3 hy3 (by first | assumption | exact below_two _ _) e3).mono ?_; rintro e w4 ⟨rfl, hc4, hb4⟩))
          go_ret
          exact ⟨rfl, by assumption⟩

set_option maxHeartbeats 2000000 in
theorem same6 {a0 a1 a2 a3 b0 b1 b2 b3 : Option Addr} {n0 n1 n2 n3 m0 m1 m2 m3 c0 c1 c2 c3 d0 d1 d2 d3 : Nat} {x0 x1 x2 x3 y0 y1 y2 y3 : List ByteArray} {w : World}
    (hx0 : Reads w a0 n0 x0) (hx1 : Reads w a1 n1 x1) (hx2 : Reads w a2 n2 x2) (hx3 : Reads w a3 n3 x3) (hy0 : Reads w b0 m0 y0) (hy1 : Reads w b1 m1 y1) (hy2 : Reads w b2 m2 y2) (hy3 : Reads w b3 m3 y3) (r0 r1 r2 r3 : Bool)
    (e0 : decide (x0 = y0) = r0) (e1 : decide (x1 = y1) = r1) (e2 : decide (x2 = y2) = r2) (e3 : decide (x3 = y3) = r3) :
    Calls Tryd.prog 6 #[.agg #[.slice a0 n0 c0, .slice a1 n1 c1, .slice a2 n2 c2, .slice a3 n3 c3], .agg #[.slice b0 m0 d0, .slice b1 m1 d1, .slice b2 m2 d2, .slice b3 m3 d3]] w fun e w' => e = .returned (.bool (r0 && r1 && r2 && r3)) ∧ Below w.heap.size w w' := by
  cases r0
  · clear e1 e2 e3
    go_enter Tryd.func6, Tryd.ntmps6
    go_wp2_with (first | (go_at_call 13; with_reducible refine (texts_at hx0 hy0 (by first | assumption | exact below_two _ _) e0).mono ?_; rintro e w1 ⟨rfl, hc1, hb1⟩) | (go_at_call 13; with_reducible refine (texts_at hx1 hy1 (by first | assumption | exact below_two _ _) e1).mono ?_; rintro e w2 ⟨rfl, hc2, hb2⟩) | (go_at_call 13; with_reducible refine (texts_at hx2 hy2 (by first | assumption | exact below_two _ _) e2).mono ?_; rintro e w3 ⟨rfl, hc3, hb3⟩) | (go_at_call 13; with_reducible refine (texts_at hx3 hy3 (by first | assumption | exact below_two _ _) e3).mono ?_; rintro e w4 ⟨rfl, hc4, hb4⟩))
    go_ret
    exact ⟨rfl, by assumption⟩
  · cases r1
    · clear e2 e3
      go_enter Tryd.func6, Tryd.ntmps6
      go_wp2_with (first | (go_at_call 13; with_reducible refine (texts_at hx0 hy0 (by first | assumption | exact below_two _ _) e0).mono ?_; rintro e w1 ⟨rfl, hc1, hb1⟩) | (go_at_call 13; with_reducible refine (texts_at hx1 hy1 (by first | assumption | exact below_two _ _) e1).mono ?_; rintro e w2 ⟨rfl, hc2, hb2⟩) | (go_at_call 13; with_reducible refine (texts_at hx2 hy2 (by first | assumption | exact below_two _ _) e2).mono ?_; rintro e w3 ⟨rfl, hc3, hb3⟩) | (go_at_call 13; with_reducible refine (texts_at hx3 hy3 (by first | assumption | exact below_two _ _) e3).mono ?_; rintro e w4 ⟨rfl, hc4, hb4⟩))
      go_ret
      exact ⟨rfl, by assumption⟩
    · cases r2
      · clear e3
        go_enter Tryd.func6, Tryd.ntmps6
        go_wp2_with (first | (go_at_call 13; with_reducible refine (texts_at hx0 hy0 (by first | assumption | exact below_two _ _) e0).mono ?_; rintro e w1 ⟨rfl, hc1, hb1⟩) | (go_at_call 13; with_reducible refine (texts_at hx1 hy1 (by first | assumption | exact below_two _ _) e1).mono ?_; rintro e w2 ⟨rfl, hc2, hb2⟩) | (go_at_call 13; with_reducible refine (texts_at hx2 hy2 (by first | assumption | exact below_two _ _) e2).mono ?_; rintro e w3 ⟨rfl, hc3, hb3⟩) | (go_at_call 13; with_reducible refine (texts_at hx3 hy3 (by first | assumption | exact below_two _ _) e3).mono ?_; rintro e w4 ⟨rfl, hc4, hb4⟩))
        go_ret
        exact ⟨rfl, by assumption⟩
      · cases r3
        · go_enter Tryd.func6, Tryd.ntmps6
          go_wp2_with (first | (go_at_call 13; with_reducible refine (texts_at hx0 hy0 (by first | assumption | exact below_two _ _) e0).mono ?_; rintro e w1 ⟨rfl, hc1, hb1⟩) | (go_at_call 13; with_reducible refine (texts_at hx1 hy1 (by first | assumption | exact below_two _ _) e1).mono ?_; rintro e w2 ⟨rfl, hc2, hb2⟩) | (go_at_call 13; with_reducible refine (texts_at hx2 hy2 (by first | assumption | exact below_two _ _) e2).mono ?_; rintro e w3 ⟨rfl, hc3, hb3⟩) | (go_at_call 13; with_reducible refine (texts_at hx3 hy3 (by first | assumption | exact below_two _ _) e3).mono ?_; rintro e w4 ⟨rfl, hc4, hb4⟩))
          go_ret
          exact ⟨rfl, by assumption⟩
        · go_enter Tryd.func6, Tryd.ntmps6
          go_wp2_with (first | (go_at_call 13; with_reducible refine (texts_at hx0 hy0 (by first | assumption | exact below_two _ _) e0).mono ?_; rintro e w1 ⟨rfl, hc1, hb1⟩) | (go_at_call 13; with_reducible refine (texts_at hx1 hy1 (by first | assumption | exact below_two _ _) e1).mono ?_; rintro e w2 ⟨rfl, hc2, hb2⟩) | (go_at_call 13; with_reducible refine (texts_at hx2 hy2 (by first | assumption | exact below_two _ _) e2).mono ?_; rintro e w3 ⟨rfl, hc3, hb3⟩) | (go_at_call 13; with_reducible refine (texts_at hx3 hy3 (by first | assumption | exact below_two _ _) e3).mono ?_; rintro e w4 ⟨rfl, hc4, hb4⟩))
          go_ret
          exact ⟨rfl, by assumption⟩

end Go.Proofs.YtmeblifndelpbaaDoor
