/- Laid by program out of its parts: TkN. -/
import Derived.Test.YtblcpogddmjonaaDoorTkM
import Derived.Test.YtblcpogddmjonaaDoorMk
import Derived.WalkKit
/- token.Words: the sorted words, out of the map. -/
open Go.RowKit Go.Maps Go.Sort Go.Shelf Go.Ev Go
set_option linter.unusedVariables false
set_option linter.unusedSimpArgs false
namespace Go.Proofs
set_option maxHeartbeats 1000000 in
theorem words_sorted (F K : Nat) {w : World} {es : List AEnt} {ks : List (List UInt8)} {ck : Nat}
    (hW : Calls Tryd.prog 24 #[] w fun e w' => ∃ b l ρ, e = .returned (.map (some b)) ∧ w.heap.size ≤ b ∧ w'.heap[b]? = some (.map l.toArray ck) ∧ ERL ρ es l ∧ RowKit.Below w.heap.size w w')
    (hkeys : es.map (fun a => keyT a.key) = ks.map some) (hnd : ks.Nodup) (hbd : (es.map (·.born)).Nodup) (hbc : ∀ n ∈ es.map (·.born), n < ck) (hs : ∀ s ∈ ks, s.length ≤ 1000) (hn : ks.length ≤ 1000)
    (hsz : Maps.size (keysD ks) ≤ 1000) :
    Calls Tryd.prog 16 #[] w fun e w' => ∃ (v : Value) (ss : List (List UInt8)), e = .returned v ∧ ss.Perm (strKeys (keysD ks)) ∧
      w'.ownsRow w.heap.size 9 1 v ss.length ((ss.mergeSort (fun x y => decide (x ≤ y))).map encStr) ∧ RowKit.Below w.heap.size w w' := by
  refine (callsIn_wide (n := 6)).1 ?_
  have hfK : Fence.wide.fn 36 := trivial
  have hfS : Fence.wide.fn 35 := trivial
  have hfW : Fence.wide.fn 24 := trivial
  refine callsIn_of_wp Tryd.func16 rfl trivial ?_ rfl
  simp only [Tryd.ntmps16, List.size_toArray, List.length_cons, List.length_nil, Nat.reduceAdd, Nat.reduceSub, Array.replicate_succ, Array.replicate_zero, List.push_toArray, List.append_toArray, List.nil_append, List.cons_append]
  gi_wp2_with (gi_at_call 24; refine (callsIn_wide.2 hW).mono ?_)
  rintro e w1 ⟨b, l, ρ, rfl, hb0, hb1, he, hbw⟩
  have hown := owns_of (P := Tryd.prog) (k := 9) Tryd.underlying9 hb1 he hkeys hnd hbd hbc hs hn
  gi_wp2_with (first
    | (gi_at_call 36; refine (Tryd.maps_Keys_36 _ _).mono ?_; rintro e w' ⟨rfl, rfl⟩)
    | (gi_at_call 35; refine (Tryd.slices_Sorted_keys_35_36 b _ _ _ w1 hown (by unfold maxLen; omega) (by omega)).mono ?_; rintro e w' ⟨v, ss, rfl, hS, hrow, hnil, hb⟩))
  go_ret
  have h1 := hbw.size
  exact ⟨v, ss, rfl, hS, ⟨hrow.1, hrow.2.imp id fun ⟨g, cap, cur, hv, hB, r⟩ => ⟨g, cap, cur, hv, Nat.le_trans (Nat.le_trans h1 (by simp)) hB, r⟩⟩, hbw.trans ((((Below.refl _ w1).alloc (Nat.le_refl _) _).trans (hb.mono (by simp))).mono h1)⟩
theorem words_row {w : World} {es : List AEnt} {ks ws : List (List UInt8)} {ck : Nat}
    (hW : Calls Tryd.prog 24 #[] w fun e w' => ∃ b l ρ, e = .returned (.map (some b)) ∧ w.heap.size ≤ b ∧ w'.heap[b]? = some (.map l.toArray ck) ∧ ERL ρ es l ∧ RowKit.Below w.heap.size w w')
    (hkeys : es.map (fun a => keyT a.key) = ks.map some) (hnd : ks.Nodup) (hbd : (es.map (·.born)).Nodup) (hbc : ∀ n ∈ es.map (·.born), n < ck) (hs : ∀ s ∈ ks, s.length ≤ 1000) (hn : ks.length ≤ 1000)
    (hsz : Maps.size (keysD ks) ≤ 1000) (hws : (strKeys (keysD ks)).mergeSort (fun x y => decide (x ≤ y)) = ws) :
    Calls Tryd.prog 16 #[] w fun e w' => ∃ v, e = .returned v ∧ w'.ownsRow w.heap.size 9 1 v ws.length (ws.map encStr) ∧ RowKit.Below w.heap.size w w' :=
  (words_sorted 0 0 hW hkeys hnd hbd hbc hs hn hsz).mono fun e w' ⟨v, ss, he, hp, hrow, hb⟩ => by
    have e1 : ss.mergeSort (fun x y => decide (x ≤ y)) = ws := (mergeSort_of_perm hp).trans hws
    have e2 : ss.length = ws.length := by rw [← e1]; exact (List.length_mergeSort _).symm
    rw [e1, e2] at hrow
    exact ⟨v, he, hrow, hb⟩
end Go.Proofs
