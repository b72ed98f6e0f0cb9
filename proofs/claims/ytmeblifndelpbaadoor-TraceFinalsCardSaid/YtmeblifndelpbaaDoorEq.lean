/- The two functions that say whether two lists of texts are the same. -/
import Derived.Test.YtmeblifndelpbaaDoorProg
import Derived.WalkKit
import Derived.ProofKit
import Derived.Deep.LoopGhost
import Derived.Deep.Draws
import Derived.Lib.Walk
import Derived.Lib.Slices
import Derived.Lib.SlicesS
import Derived.Lib.SlicesMore
namespace Go.Proofs.YtmeblifndelpbaaDoor
open Go.RowKit Go.Lib

/-- What a list of texts holds. -/
def Reads (w : World) (a : Option Addr) (n : Nat) (xs : List ByteArray) : Prop :=
  xs.length = n ∧ n ≤ 9223372036854775807 ∧ (n = 0 ∨ ∃ b o, a = some ⟨b, o, none⟩ ∧ ∀ j, j < n → w.cell? ⟨b, o + j, none⟩ = some (.string (xs.getD j ByteArray.empty)))

set_option maxHeartbeats 2000000 in
set_option maxRecDepth 100000 in
theorem equal_some (b1 o1 n c b2 o2 m d : Nat) (xs ys : List ByteArray) (w : World) (hx : n ≤ xs.length) (hy : m ≤ ys.length) (hbig : n ≤ 9223372036854775807) (hbig2 : m ≤ 9223372036854775807) (hc1 : ∀ j, j < xs.length → w.cell? ⟨b1, o1 + j, none⟩ = some (.string (xs.getD j ByteArray.empty))) (hc2 : ∀ j, j < ys.length → w.cell? ⟨b2, o2 + j, none⟩ = some (.string (ys.getD j ByteArray.empty))) :
    Calls Tryd.prog 12 #[.slice (some ⟨b1, o1, none⟩) n c, .slice (some ⟨b2, o2, none⟩) m d] w fun e w' => e = .returned (.bool (decide (xs.take n = ys.take m))) ∧ ∃ q, w' = w.drewN q := by
  by_cases hnm : n = m
  · subst hnm
    go_enter Tryd.func12, Tryd.ntmps12
    go_wp2
    go_loopg [13] n (fun g s13 wr => ∃ k q : Nat, k ≤ n ∧ n - k ≤ g ∧ s13 = .int .i64 k ∧ wr = w.drewN q ∧ ∀ j, j < k → xs.getD j ByteArray.empty = ys.getD j ByteArray.empty)
    case atStart => exact ⟨0, 0, Nat.zero_le _, by omega, rfl, rfl, fun j hj => absurd hj (Nat.not_lt_zero _)⟩
    case round =>
      obtain ⟨k, q, hk, hg, rfl, rfl, heq⟩ := hrel
      by_cases hlt : k < n
      · have g1 : w.cell? ⟨b1, o1 + k, none⟩ = some (.string (xs.getD k ByteArray.empty)) := hc1 k (by omega)
        have g2 : w.cell? ⟨b2, o2 + k, none⟩ = some (.string (ys.getD k ByteArray.empty)) := hc2 k (by omega)
        have A : Aside (∀ j, j < k → xs.getD j ByteArray.empty = ys.getD j ByteArray.empty) := heq
        clear heq hc1 hc2
        generalize hxk : xs.getD k ByteArray.empty = x at g1
        generalize hyk : ys.getD k ByteArray.empty = y at g2
        have B : Aside (xs.getD k ByteArray.empty = x ∧ ys.getD k ByteArray.empty = y) := ⟨hxk, hyk⟩
        clear hxk hyk
        by_cases hxy : x = y
        · subst hxy
          go_wp2_with fail
          go_region
          go_wp2
          go_roundg (n - (k + 1))
          case measure => omega
          case rel =>
            refine ⟨k + 1, q + 1, by omega, by omega, by go_num, rfl, fun j hj => ?_⟩
            by_cases e : j = k
            · subst e
              rw [B.out.1, B.out.2]
            · exact A.out j (by omega)
        · have hxy' : (x.toList == y.toList) = false := (Lib.bytes_beq_false_iff _ _).2 hxy
          go_wp2_with fail
          go_region
          go_wp2
          go_ret
          refine ⟨?_, q + 1, rfl⟩
          rw [decide_eq_false (Lib.take_ne_elem ByteArray.empty xs ys n k hlt (by rw [B.out.1, B.out.2]; exact hxy))]
          rfl
      · have : k = n := by omega
        subst this
        clear hc1 hc2
        go_wp2
        go_ret
        refine ⟨?_, q, rfl⟩
        rw [decide_eq_true (Lib.take_eq_all ByteArray.empty xs ys k hx hy heq)]
        rfl
  · have hnm' : ¬ (n : Int) = (m : Int) := by omega
    clear hc1 hc2
    go_enter Tryd.func12, Tryd.ntmps12
    go_wp2
    go_ret
    refine ⟨?_, 0, rfl⟩
    rw [decide_eq_false (Lib.take_ne_len xs ys n m hx hy hnm)]
    rfl

set_option maxHeartbeats 1000000 in
theorem equal_none (a1 a2 : Option Addr) (c m d : Nat) (w : World) (hbig2 : m ≤ 9223372036854775807) :
    Calls Tryd.prog 12 #[.slice a1 0 c, .slice a2 m d] w fun e w' => e = .returned (.bool (decide (m = 0))) ∧ w' = w := by
  by_cases hm : m = 0
  · subst hm
    go_enter Tryd.func12, Tryd.ntmps12
    go_wp2
    go_loopg [13] 0 (fun _ s13 wr => s13 = .int .i64 0 ∧ wr = w)
    case atStart => exact ⟨rfl, rfl⟩
    case round =>
      obtain ⟨rfl, rfl⟩ := hrel
      go_wp2
      go_ret
      exact ⟨rfl, rfl⟩
  · have hm' : ¬ (0 : Int) = (m : Int) := by omega
    go_enter Tryd.func12, Tryd.ntmps12
    go_wp2
    go_ret
    refine ⟨?_, rfl⟩
    rw [decide_eq_false hm]
    rfl

set_option maxHeartbeats 2000000 in
set_option maxRecDepth 100000 in
theorem texts_some (b1 o1 n c b2 o2 m d : Nat) (xs ys : List ByteArray) (w : World) (hx : n ≤ xs.length) (hy : m ≤ ys.length) (hbig : n ≤ 9223372036854775807) (hbig2 : m ≤ 9223372036854775807) (hc1 : ∀ j, j < xs.length → w.cell? ⟨b1, o1 + j, none⟩ = some (.string (xs.getD j ByteArray.empty))) (hc2 : ∀ j, j < ys.length → w.cell? ⟨b2, o2 + j, none⟩ = some (.string (ys.getD j ByteArray.empty))) :
    Calls Tryd.prog 13 #[.slice (some ⟨b1, o1, none⟩) n c, .slice (some ⟨b2, o2, none⟩) m d] w fun e w' => e = .returned (.bool (decide (xs.take n = ys.take m))) ∧ ∃ q, w' = w.drewN q := by
  by_cases hnm : n = m
  · subst hnm
    go_enter Tryd.func13, Tryd.ntmps13
    go_wp2
    go_loopg [5] n (fun g s13 wr => ∃ k q : Nat, k ≤ n ∧ n - k ≤ g ∧ s13 = .int .i64 k ∧ wr = w.drewN q ∧ ∀ j, j < k → xs.getD j ByteArray.empty = ys.getD j ByteArray.empty)
    case atStart => exact ⟨0, 0, Nat.zero_le _, by omega, rfl, rfl, fun j hj => absurd hj (Nat.not_lt_zero _)⟩
    case round =>
      obtain ⟨k, q, hk, hg, rfl, rfl, heq⟩ := hrel
      by_cases hlt : k < n
      · have g1 : w.cell? ⟨b1, o1 + k, none⟩ = some (.string (xs.getD k ByteArray.empty)) := hc1 k (by omega)
        have g2 : w.cell? ⟨b2, o2 + k, none⟩ = some (.string (ys.getD k ByteArray.empty)) := hc2 k (by omega)
        have A : Aside (∀ j, j < k → xs.getD j ByteArray.empty = ys.getD j ByteArray.empty) := heq
        clear heq hc1 hc2
        generalize hxk : xs.getD k ByteArray.empty = x at g1
        generalize hyk : ys.getD k ByteArray.empty = y at g2
        have B : Aside (xs.getD k ByteArray.empty = x ∧ ys.getD k ByteArray.empty = y) := ⟨hxk, hyk⟩
        clear hxk hyk
        by_cases hxy : x = y
        · subst hxy
          go_wp2_with fail
          go_region
          go_wp2
          go_roundg (n - (k + 1))
          case measure => omega
          case rel =>
            refine ⟨k + 1, q + 1, by omega, by omega, by go_num, rfl, fun j hj => ?_⟩
            by_cases e : j = k
            · subst e
              rw [B.out.1, B.out.2]
            · exact A.out j (by omega)
        · have hxy' : (x.toList == y.toList) = false := (Lib.bytes_beq_false_iff _ _).2 hxy
          go_wp2_with fail
          go_region
          go_wp2
          go_ret
          refine ⟨?_, q + 1, rfl⟩
          rw [decide_eq_false (Lib.take_ne_elem ByteArray.empty xs ys n k hlt (by rw [B.out.1, B.out.2]; exact hxy))]
          rfl
      · have : k = n := by omega
        subst this
        clear hc1 hc2
        go_wp2
        go_ret
        refine ⟨?_, q, rfl⟩
        rw [decide_eq_true (Lib.take_eq_all ByteArray.empty xs ys k hx hy heq)]
        rfl
  · have hnm' : ¬ (n : Int) = (m : Int) := by omega
    clear hc1 hc2
    go_enter Tryd.func13, Tryd.ntmps13
    go_wp2
    go_ret
    refine ⟨?_, 0, rfl⟩
    rw [decide_eq_false (Lib.take_ne_len xs ys n m hx hy hnm)]
    rfl

set_option maxHeartbeats 1000000 in
theorem texts_none (a1 a2 : Option Addr) (c m d : Nat) (w : World) (hbig2 : m ≤ 9223372036854775807) :
    Calls Tryd.prog 13 #[.slice a1 0 c, .slice a2 m d] w fun e w' => e = .returned (.bool (decide (m = 0))) ∧ w' = w := by
  by_cases hm : m = 0
  · subst hm
    go_enter Tryd.func13, Tryd.ntmps13
    go_wp2
    go_loopg [5] 0 (fun _ s13 wr => s13 = .int .i64 0 ∧ wr = w)
    case atStart => exact ⟨rfl, rfl⟩
    case round =>
      obtain ⟨rfl, rfl⟩ := hrel
      go_wp2
      go_ret
      exact ⟨rfl, rfl⟩
  · have hm' : ¬ (0 : Int) = (m : Int) := by omega
    go_enter Tryd.func13, Tryd.ntmps13
    go_wp2
    go_ret
    refine ⟨?_, rfl⟩
    rw [decide_eq_false hm]
    rfl


set_option maxHeartbeats 1000000 in
theorem equal_ne (a1 a2 : Option Addr) (n c m d : Nat) (w : World) (hnm : n ≠ m) :
    Calls Tryd.prog 12 #[.slice a1 n c, .slice a2 m d] w fun e w' => e = .returned (.bool false) ∧ w' = w := by
  have hnm' : ¬ (n : Int) = (m : Int) := by omega
  go_enter Tryd.func12, Tryd.ntmps12
  go_wp2
  go_ret
  exact ⟨rfl, rfl⟩

theorem equal_any {a1 a2 : Option Addr} {n c m d : Nat} {xs ys : List ByteArray} {w : World} (h1 : Reads w a1 n xs) (h2 : Reads w a2 m ys) :
    Calls Tryd.prog 12 #[.slice a1 n c, .slice a2 m d] w fun e w' => e = .returned (.bool (decide (xs = ys))) ∧ ∃ q, w' = w.drewN q := by
  obtain ⟨l1, s1, c1⟩ := h1
  obtain ⟨l2, s2, c2⟩ := h2
  by_cases hnm : n = m
  · by_cases hn : n = 0
    · subst hn
      refine (equal_none a1 a2 c m d w s2).mono fun e w' ⟨he, hw⟩ => ⟨?_, 0, hw⟩
      rw [he]
      have e1 : xs = [] := List.eq_nil_of_length_eq_zero l1
      have e2 : ys = [] := List.eq_nil_of_length_eq_zero (by omega)
      rw [e1, e2, decide_eq_true hnm.symm, decide_eq_true rfl]
    · obtain ⟨b1, o1, rfl, k1⟩ := c1.resolve_left hn
      obtain ⟨b2, o2, rfl, k2⟩ := c2.resolve_left (by omega)
      refine (equal_some b1 o1 n c b2 o2 m d xs ys w (by omega) (by omega) s1 s2 (fun j hj => k1 j (by omega)) (fun j hj => k2 j (by omega))).mono fun e w' ⟨he, hw⟩ => ⟨?_, hw⟩
      rw [he, List.take_of_length_le (by omega), List.take_of_length_le (by omega)]
  · refine (equal_ne a1 a2 n c m d w hnm).mono fun e w' ⟨he, hw⟩ => ⟨?_, 0, hw⟩
    rw [he, decide_eq_false fun e => hnm (by rw [← l1, ← l2, e])]


set_option maxHeartbeats 1000000 in
theorem texts_ne (a1 a2 : Option Addr) (n c m d : Nat) (w : World) (hnm : n ≠ m) :
    Calls Tryd.prog 13 #[.slice a1 n c, .slice a2 m d] w fun e w' => e = .returned (.bool false) ∧ w' = w := by
  have hnm' : ¬ (n : Int) = (m : Int) := by omega
  go_enter Tryd.func13, Tryd.ntmps13
  go_wp2
  go_ret
  exact ⟨rfl, rfl⟩

theorem texts_any {a1 a2 : Option Addr} {n c m d : Nat} {xs ys : List ByteArray} {w : World} (h1 : Reads w a1 n xs) (h2 : Reads w a2 m ys) :
    Calls Tryd.prog 13 #[.slice a1 n c, .slice a2 m d] w fun e w' => e = .returned (.bool (decide (xs = ys))) ∧ ∃ q, w' = w.drewN q := by
  obtain ⟨l1, s1, c1⟩ := h1
  obtain ⟨l2, s2, c2⟩ := h2
  by_cases hnm : n = m
  · by_cases hn : n = 0
    · subst hn
      refine (texts_none a1 a2 c m d w s2).mono fun e w' ⟨he, hw⟩ => ⟨?_, 0, hw⟩
      rw [he]
      have e1 : xs = [] := List.eq_nil_of_length_eq_zero l1
      have e2 : ys = [] := List.eq_nil_of_length_eq_zero (by omega)
      rw [e1, e2, decide_eq_true hnm.symm, decide_eq_true rfl]
    · obtain ⟨b1, o1, rfl, k1⟩ := c1.resolve_left hn
      obtain ⟨b2, o2, rfl, k2⟩ := c2.resolve_left (by omega)
      refine (texts_some b1 o1 n c b2 o2 m d xs ys w (by omega) (by omega) s1 s2 (fun j hj => k1 j (by omega)) (fun j hj => k2 j (by omega))).mono fun e w' ⟨he, hw⟩ => ⟨?_, hw⟩
      rw [he, List.take_of_length_le (by omega), List.take_of_length_le (by omega)]
  · refine (texts_ne a1 a2 n c m d w hnm).mono fun e w' ⟨he, hw⟩ => ⟨?_, 0, hw⟩
    rw [he, decide_eq_false fun e => hnm (by rw [← l1, ← l2, e])]

end Go.Proofs.YtmeblifndelpbaaDoor
