/- The law on ends that are the same: its walk. -/
import Derived.Test.YtmeblifndelpbaaDoorSf
import Derived.Test.YtmeblifndelpbaaDoorKn
import Derived.Deep.RegionHeld3
namespace Go.Proofs.YtmeblifndelpbaaDoor
open Go.RowKit Go.Lib

/-- A world behind the two boxes of the arguments, with them as they were. -/
def At (w W0 W : World) : Prop :=
  Below w.heap.size w W ∧ (∀ k, W.cell? ⟨w.heap.size, k, none⟩ = W0.cell? ⟨w.heap.size, k, none⟩) ∧ (∀ k, W.cell? ⟨w.heap.size + 1, k, none⟩ = W0.cell? ⟨w.heap.size + 1, k, none⟩) ∧ w.heap.size + 2 ≤ W.heap.size

theorem at_self (w : World) (o1 o2 : Obj) : At w ((w.alloc o1).alloc o2) ((w.alloc o1).alloc o2) :=
  ⟨below_two o1 o2, fun _ => rfl, fun _ => rfl, by simp⟩

theorem At.c {w W0 W : World} (h : At w W0 W) : ∀ k, W.cell? ⟨w.heap.size, k, none⟩ = W0.cell? ⟨w.heap.size, k, none⟩ := h.2.1
theorem At.d {w W0 W : World} (h : At w W0 W) : ∀ k, W.cell? ⟨w.heap.size + 1, k, none⟩ = W0.cell? ⟨w.heap.size + 1, k, none⟩ := h.2.2.1

theorem at_drew (w : World) (o1 o2 : Obj) : At w ((w.alloc o1).alloc o2) ((w.alloc o1).alloc o2).drew :=
  ⟨(below_two o1 o2).drew, fun _ => rfl, fun _ => rfl, by simp [World.drew]⟩

theorem At.on {w W0 W W' : World} (h : At w W0 W) (hb : Below W.heap.size W W') : At w W0 W' := by
  obtain ⟨h1, h2, h3, h4⟩ := h
  exact ⟨h1.trans (hb.mono h1.size), fun k => (hb.cell (p := ⟨w.heap.size, k, none⟩) (by show w.heap.size < _; omega)).trans (h2 k),
    fun k => (hb.cell (p := ⟨w.heap.size + 1, k, none⟩) (by show w.heap.size + 1 < _; omega)).trans (h3 k), Nat.le_trans h4 hb.size⟩

theorem known_in {w W0 W : World} (h : At w W0 W) : Calls Tryd.prog 4 #[] W fun e w' => e = .returned (.bool true) ∧ At w W0 w' :=
  (known_any W).mono fun _ _ ⟨he, hb⟩ => ⟨he, h.on hb⟩

section
variable {a0 a1 a2 a3 b0 b1 b2 b3 : Option Addr} {n0 n1 n2 n3 m0 m1 m2 m3 c0 c1 c2 c3 d0 d1 d2 d3 : Nat} {x0 x1 x2 x3 y0 y1 y2 y3 : List ByteArray} {w : World}

theorem same5_in {W0 W : World} (hx0 : Reads w a0 n0 x0) (hx1 : Reads w a1 n1 x1) (hx2 : Reads w a2 n2 x2) (hx3 : Reads w a3 n3 x3) (hy0 : Reads w b0 m0 y0) (hy1 : Reads w b1 m1 y1) (hy2 : Reads w b2 m2 y2) (hy3 : Reads w b3 m3 y3)
    {r : Bool} (hr : (decide (x0 = y0) && decide (x1 = y1) && decide (x2 = y2) && decide (x3 = y3)) = r) (h : At w W0 W) :
    Calls Tryd.prog 5 #[.agg #[.slice a0 n0 c0, .slice a1 n1 c1, .slice a2 n2 c2, .slice a3 n3 c3], .agg #[.slice b0 m0 d0, .slice b1 m1 d1, .slice b2 m2 d2, .slice b3 m3 d3]] W fun e w' => e = .returned (.bool r) ∧ At w W0 w' := by
  have hb := h.1
  refine (same5 (hx0.below hb) (hx1.below hb) (hx2.below hb) (hx3.below hb) (hy0.below hb) (hy1.below hb) (hy2.below hb) (hy3.below hb) _ _ _ _ rfl rfl rfl rfl).mono fun e w' ⟨he, h'⟩ => ⟨?_, h.on h'⟩
  rw [he, hr]

theorem same6_in {W0 W : World} (hx0 : Reads w a0 n0 x0) (hx1 : Reads w a1 n1 x1) (hx2 : Reads w a2 n2 x2) (hx3 : Reads w a3 n3 x3) (hy0 : Reads w b0 m0 y0) (hy1 : Reads w b1 m1 y1) (hy2 : Reads w b2 m2 y2) (hy3 : Reads w b3 m3 y3)
    {r : Bool} (hr : (decide (x0 = y0) && decide (x1 = y1) && decide (x2 = y2) && decide (x3 = y3)) = r) (h : At w W0 W) :
    Calls Tryd.prog 6 #[.agg #[.slice a0 n0 c0, .slice a1 n1 c1, .slice a2 n2 c2, .slice a3 n3 c3], .agg #[.slice b0 m0 d0, .slice b1 m1 d1, .slice b2 m2 d2, .slice b3 m3 d3]] W fun e w' => e = .returned (.bool r) ∧ At w W0 w' := by
  have hb := h.1
  refine (same6 (hx0.below hb) (hx1.below hb) (hx2.below hb) (hx3.below hb) (hy0.below hb) (hy1.below hb) (hy2.below hb) (hy3.below hb) _ _ _ _ rfl rfl rfl rfl).mono fun e w' ⟨he, h'⟩ => ⟨?_, h.on h'⟩
  rw [he, hr]

theorem same5_self {W0 W : World} (hx0 : Reads w a0 n0 x0) (hx1 : Reads w a1 n1 x1) (hx2 : Reads w a2 n2 x2) (hx3 : Reads w a3 n3 x3) (h : At w W0 W) :
    Calls Tryd.prog 5 #[.agg #[.slice a0 n0 c0, .slice a1 n1 c1, .slice a2 n2 c2, .slice a3 n3 c3], .agg #[.slice a0 n0 c0, .slice a1 n1 c1, .slice a2 n2 c2, .slice a3 n3 c3]] W fun e w' => e = .returned (.bool true) ∧ At w W0 w' :=
  same5_in hx0 hx1 hx2 hx3 hx0 hx1 hx2 hx3 (by simp) h

set_option maxHeartbeats 4000000 in
set_option maxRecDepth 100000 in
theorem walk_small (hx0 : Reads w a0 n0 x0) (hx1 : Reads w a1 n1 x1) (hx2 : Reads w a2 n2 x2) (hx3 : Reads w a3 n3 x3) (hy0 : Reads w b0 m0 y0) (hy1 : Reads w b1 m1 y1) (hy2 : Reads w b2 m2 y2) (hy3 : Reads w b3 m3 y3)
    (hA : n0 + n1 + n2 + n3 ≤ 40) (hB : m0 + m1 + m2 + m3 ≤ 40) :
    Calls Tryd.prog 3 #[.agg #[.slice a0 n0 c0, .slice a1 n1 c1, .slice a2 n2 c2, .slice a3 n3 c3], .agg #[.slice b0 m0 d0, .slice b1 m1 d1, .slice b2 m2 d2, .slice b3 m3 d3]] w fun e w' => e = .returned (.bool true) ∧ Below w.heap.size w w' := by
  have i1 : ¬ ((n0 : Int) + n1 + n2 + n3 > 40) := by omega
  have i2 : ¬ ((m0 : Int) + m1 + m2 + m3 > 40) := by omega
  generalize hr : (decide (x0 = y0) && decide (x1 = y1) && decide (x2 = y2) && decide (x3 = y3)) = r
  cases r
  · go_enter Tryd.func3, Tryd.ntmps3
    go_wp2
    go_region_held3 (fun W => W.cell? ⟨w.heap.size, 0, none⟩ = some (.slice a0 n0 c0) ∧ W.cell? ⟨w.heap.size, 1, none⟩ = some (.slice a1 n1 c1) ∧ W.cell? ⟨w.heap.size, 2, none⟩ = some (.slice a2 n2 c2) ∧ W.cell? ⟨w.heap.size, 3, none⟩ = some (.slice a3 n3 c3) ∧ W.cell? ⟨w.heap.size + 1, 0, none⟩ = some (.slice b0 m0 d0) ∧ W.cell? ⟨w.heap.size + 1, 1, none⟩ = some (.slice b1 m1 d1) ∧ W.cell? ⟨w.heap.size + 1, 2, none⟩ = some (.slice b2 m2 d2) ∧ W.cell? ⟨w.heap.size + 1, 3, none⟩ = some (.slice b3 m3 d3)) (go_keep) (first | (go_at_call 5; with_reducible refine (same5_in hx0 hx1 hx2 hx3 hy0 hy1 hy2 hy3 hr (by first | assumption | exact at_drew _ _ _)).mono ?_; rintro e w1 ⟨rfl, hat1⟩; have hc1 := At.c hat1; have hd1 := At.d hat1) | (go_at_call 6; with_reducible refine (same6_in hx0 hx1 hx2 hx3 hy0 hy1 hy2 hy3 hr (by first | assumption | exact at_drew _ _ _)).mono ?_; rintro e w2 ⟨rfl, hat2⟩; have hc2 := At.c hat2; have hd2 := At.d hat2) | (go_at_call 5; with_reducible refine (same5_self hx0 hx1 hx2 hx3 (by first | assumption | exact at_drew _ _ _)).mono ?_; rintro e w3 ⟨rfl, hat3⟩; have hc3 := At.c hat3; have hd3 := At.d hat3) | (go_at_call 4; with_reducible refine (known_in (by first | assumption | exact at_drew _ _ _)).mono ?_; rintro e w4 ⟨rfl, hat4⟩; have hc4 := At.c hat4; have hd4 := At.d hat4))
    go_wp2
    go_ret
    exact ⟨rfl, hat4.1⟩
  · go_enter Tryd.func3, Tryd.ntmps3
    go_wp2
    go_region_held3 (fun W => W.cell? ⟨w.heap.size, 0, none⟩ = some (.slice a0 n0 c0) ∧ W.cell? ⟨w.heap.size, 1, none⟩ = some (.slice a1 n1 c1) ∧ W.cell? ⟨w.heap.size, 2, none⟩ = some (.slice a2 n2 c2) ∧ W.cell? ⟨w.heap.size, 3, none⟩ = some (.slice a3 n3 c3) ∧ W.cell? ⟨w.heap.size + 1, 0, none⟩ = some (.slice b0 m0 d0) ∧ W.cell? ⟨w.heap.size + 1, 1, none⟩ = some (.slice b1 m1 d1) ∧ W.cell? ⟨w.heap.size + 1, 2, none⟩ = some (.slice b2 m2 d2) ∧ W.cell? ⟨w.heap.size + 1, 3, none⟩ = some (.slice b3 m3 d3)) (go_keep) (first | (go_at_call 5; with_reducible refine (same5_in hx0 hx1 hx2 hx3 hy0 hy1 hy2 hy3 hr (by first | assumption | exact at_drew _ _ _)).mono ?_; rintro e w1 ⟨rfl, hat1⟩; have hc1 := At.c hat1; have hd1 := At.d hat1) | (go_at_call 6; with_reducible refine (same6_in hx0 hx1 hx2 hx3 hy0 hy1 hy2 hy3 hr (by first | assumption | exact at_drew _ _ _)).mono ?_; rintro e w2 ⟨rfl, hat2⟩; have hc2 := At.c hat2; have hd2 := At.d hat2) | (go_at_call 5; with_reducible refine (same5_self hx0 hx1 hx2 hx3 (by first | assumption | exact at_drew _ _ _)).mono ?_; rintro e w3 ⟨rfl, hat3⟩; have hc3 := At.c hat3; have hd3 := At.d hat3) | (go_at_call 4; with_reducible refine (known_in (by first | assumption | exact at_drew _ _ _)).mono ?_; rintro e w4 ⟨rfl, hat4⟩; have hc4 := At.c hat4; have hd4 := At.d hat4))
    go_wp2
    go_ret
    exact ⟨rfl, hat4.1⟩

set_option maxHeartbeats 4000000 in
set_option maxRecDepth 100000 in
theorem walk_bigA (hA : 40 < n0 + n1 + n2 + n3) (k0 : n0 ≤ 140737488355328) (k1 : n1 ≤ 140737488355328) (k2 : n2 ≤ 140737488355328) (k3 : n3 ≤ 140737488355328) :
    Calls Tryd.prog 3 #[.agg #[.slice a0 n0 c0, .slice a1 n1 c1, .slice a2 n2 c2, .slice a3 n3 c3], .agg #[.slice b0 m0 d0, .slice b1 m1 d1, .slice b2 m2 d2, .slice b3 m3 d3]] w fun e w' => e = .returned (.bool true) ∧ Below w.heap.size w w' := by
  have i1 : (n0 : Int) + n1 + n2 + n3 > 40 := by omega
  go_enter Tryd.func3, Tryd.ntmps3
  go_wp2_with (go_at_call 4; with_reducible refine (known_in (by first | assumption | exact at_self _ _ _)).mono ?_; rintro e w4 ⟨rfl, hat4⟩)
  go_ret
  exact ⟨rfl, hat4.1⟩

set_option maxHeartbeats 4000000 in
set_option maxRecDepth 100000 in
theorem walk_bigB (hA : n0 + n1 + n2 + n3 ≤ 40) (hB : 40 < m0 + m1 + m2 + m3) (k0 : m0 ≤ 140737488355328) (k1 : m1 ≤ 140737488355328) (k2 : m2 ≤ 140737488355328) (k3 : m3 ≤ 140737488355328) :
    Calls Tryd.prog 3 #[.agg #[.slice a0 n0 c0, .slice a1 n1 c1, .slice a2 n2 c2, .slice a3 n3 c3], .agg #[.slice b0 m0 d0, .slice b1 m1 d1, .slice b2 m2 d2, .slice b3 m3 d3]] w fun e w' => e = .returned (.bool true) ∧ Below w.heap.size w w' := by
  have i1 : ¬ ((n0 : Int) + n1 + n2 + n3 > 40) := by omega
  have i2 : (m0 : Int) + m1 + m2 + m3 > 40 := by omega
  go_enter Tryd.func3, Tryd.ntmps3
  go_wp2_with (go_at_call 4; with_reducible refine (known_in (by first | assumption | exact at_self _ _ _)).mono ?_; rintro e w4 ⟨rfl, hat4⟩)
  go_ret
  exact ⟨rfl, hat4.1⟩

theorem walk (hx0 : Reads w a0 n0 x0) (hx1 : Reads w a1 n1 x1) (hx2 : Reads w a2 n2 x2) (hx3 : Reads w a3 n3 x3) (hy0 : Reads w b0 m0 y0) (hy1 : Reads w b1 m1 y1) (hy2 : Reads w b2 m2 y2) (hy3 : Reads w b3 m3 y3)
    (k0 : n0 ≤ 140737488355328) (k1 : n1 ≤ 140737488355328) (k2 : n2 ≤ 140737488355328) (k3 : n3 ≤ 140737488355328) (l0 : m0 ≤ 140737488355328) (l1 : m1 ≤ 140737488355328) (l2 : m2 ≤ 140737488355328) (l3 : m3 ≤ 140737488355328) :
    Calls Tryd.prog 3 #[.agg #[.slice a0 n0 c0, .slice a1 n1 c1, .slice a2 n2 c2, .slice a3 n3 c3], .agg #[.slice b0 m0 d0, .slice b1 m1 d1, .slice b2 m2 d2, .slice b3 m3 d3]] w fun e w' => e = .returned (.bool true) ∧ Below w.heap.size w w' := by
  by_cases hA : n0 + n1 + n2 + n3 ≤ 40
  · by_cases hB : m0 + m1 + m2 + m3 ≤ 40
    · exact walk_small hx0 hx1 hx2 hx3 hy0 hy1 hy2 hy3 hA hB
    · exact walk_bigB hA (by omega) l0 l1 l2 l3
  · exact walk_bigA (by omega) k0 k1 k2 k3
end
end Go.Proofs.YtmeblifndelpbaaDoor
