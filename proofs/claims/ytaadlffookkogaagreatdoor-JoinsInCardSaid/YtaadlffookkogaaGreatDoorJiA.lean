/- Laid by program out of its parts: JiA. -/
import Derived.Test.YtaadlffookkogaaGreatDoorMi
import Derived.Test.YtaadlffookkogaaGreatDoorMh
import Derived.KernelRfl
import Derived.Test.YtaadlffookkogaaGreatDoorProg
set_option linter.unusedVariables false
set_option linter.unusedSimpArgs false
set_option maxRecDepth 100000
set_option linter.unusedSimpArgs false
set_option linter.unusedVariables false
open Go Go.Ev
namespace Go.Proofs.YtaadlffookkogaaGreatDoor
theorem fol : Tryz.prog.follows .mixedOrders = true := by rfl
noncomputable def cx1 (tb : Tbl) (f0 r0 : Nat) (S : Stn) : Ctx := { P := Tryz.prog, tb := tb, lp := fun f r => cond (Nat.beq f f0) (cond (Nat.beq r r0) (some S) none) none, cut := fun _ _ => none }
noncomputable def cx2 (tb : Tbl) (f0 r0 : Nat) (S0 : Stn) (f1 r1 : Nat) (S1 : Stn) : Ctx := { P := Tryz.prog, tb := tb, lp := fun f r => cond (cond (Nat.beq f f0) (Nat.beq r r0) false) (some S0) (cond (cond (Nat.beq f f1) (Nat.beq r r1) false) (some S1) none), cut := fun _ _ => none }
/-- Rows of numbers. -/
def rI (L : List Int) : Nat → List AV := fun i => intRow .i64 (L.getD i 0)
def rII (C : List (List Int)) : Nat → List AV := fun i => intsRow .i64 (C.getD i [])
def oneI (l : List AV) : Int := match l with
  | [.int _ z] => z
  | _ => 0
def rowL (n : Nat) (f : Nat → List AV) : List Int := (List.range n).map fun i => oneI (f i)
def oneII (l : List AV) : List Int := match l with
  | [.vec _ n f] => rowL n f
  | _ => []
def rowLL (n : Nat) (f : Nat → List AV) : List (List Int) := (List.range n).map fun i => oneII (f i)
def hasR (L : List Int) (z : Int) : Bool := L.any fun x => decide (x = z)
def allR (c S : List Int) : Bool := S.all fun s => hasR c s
def inR' (C : List (List Int)) (S : List Int) : Bool := C.any fun c => allR c S
noncomputable def eHas : Tr AObj → List AV → Option Ct := fun _ args => match args with
  | [.vec 1 n f, .int .i64 z] => some (.need ((∃ L : List Int, n = L.length ∧ f = rI L) ∧ n ≤ 1000000) (.ret (.bool (bar (hasR (rowL n f) z)))))
  | _ => none
noncomputable def eIn : Tr AObj → List AV → Option Ct := fun _ args => match args with
  | [.vec 1 n f, .vec 1 m g] => some (.need (∃ (C : List (List Int)) (S : List Int), n = C.length ∧ f = rII C ∧ m = S.length ∧ g = rI S ∧ n ≤ 1000000 ∧ m ≤ 1000000 ∧ ∀ c ∈ C, c.length ≤ 1000000) (.ret (.bool (bar (inR' (rowLL n f) (rowL m g))))))
  | _ => none
/-- None of the first k is it. -/
structure NoI (L : List Int) (z : Int) (k : Nat) : Prop where
  le : k ≤ L.length
  no : ∀ j, j < k → L.getD j 0 ≠ z
noncomputable def SIdx (L : List Int) (z : Int) : Stn := thin Nat [0, 1, 7] (fun k => [(8, .int .i64 k)]) (fun _ => NoI L z) fun k => L.length - k
noncomputable def SHas (L : List Int) (z : Int) : Stn := thin Nat [0, 1] (fun k => [(5, .int .i64 k)]) (fun _ => NoI L z) fun k => L.length - k
/-- All of the first k are in c. -/
structure AllI' (c S : List Int) (k : Nat) : Prop where
  le : k ≤ S.length
  al : ∀ j, j < k → hasR c (S.getD j 0) = true
/-- None of the first k holds all. -/
structure NoC (C : List (List Int)) (S : List Int) (k : Nat) : Prop where
  le : k ≤ C.length
  no : ∀ j, j < k → allR (C.getD j []) S = false
noncomputable def SNM (c S : List Int) : Stn := thin Nat [0, 1, 7] (fun k => [(8, .int .i64 k)]) (fun _ => AllI' c S) fun k => S.length - k
noncomputable def SIn (C : List (List Int)) (S : List Int) : Stn := thin Nat [0, 1, 7] (fun k => [(8, .int .i64 k)]) (fun _ => NoC C S) fun k => C.length - k
/-- ContainsFunc of the sites, with the closure over c: is one of them not in c? -/
noncomputable def eNM : Tr AObj → List AV → Option Ct := fun _ args => match args with
  | [.vec 1 m g, .fn (.func 13) [] [.pv [.vec 1 n f]]] => some (.need (∃ c S : List Int, n = c.length ∧ f = rI c ∧ m = S.length ∧ g = rI S ∧ n ≤ 1000000 ∧ m ≤ 1000000) (.ret (.bool (bar (!allR (rowL n f) (rowL m g))))))
  | _ => none
/-- The second one's inner loop: all so far. -/
structure AllK (C : List (List Int)) (S : List Int) (o : Option AV) (x : Nat × Nat) : Prop where
  out : o = some (.int .i64 x.2)
  ox : x.2 < C.length
  le : x.1 ≤ S.length
noncomputable def SRo (C : List (List Int)) (S : List Int) : Stn := thin Nat [0, 1] (fun k => [(5, .int .i64 k)]) (fun _ => NoC C S) fun k => C.length - k
noncomputable def SRi (C : List (List Int)) (S : List Int) : Stn := thin (Nat × Nat) [0, 1, 5] (fun x => [(6, .bool (bar (allR (C.getD x.2 []) (S.take x.1)))), (7, .int .i64 x.1)]) (fun s => AllK C S (s.T.get 5)) fun x => S.length - x.1
noncomputable def eK (gz : Go.EvC.GZ) : Tr AObj → List AV → Option Ct := fun H args => match args with
  | [] => cond (selG gz H) (some (.need True (.ret (.bool true)))) none
  | _ => none
def gz0 : Go.EvC.GZ := [(0, .u8, [0, 1, 56, 2, 57, 49, 28, 3, 61, 58, 42, 50, 38, 29, 17, 4, 62, 47, 59, 36, 45, 43, 51, 22, 53, 39, 33, 30, 24, 18, 12, 5, 63, 55, 48, 27, 60, 41, 37, 16, 46, 35, 44, 21, 52, 32, 23, 11, 54, 26, 40, 15, 34, 20, 31, 10, 25, 14, 19, 9, 13, 8, 7, 6])]
/-- The first k are short. -/
structure ShortK (C : List (List Int)) (k : Nat) : Prop where
  le : k ≤ C.length
  sh : ∀ j, j < k → (C.getD j []).length ≤ 40
noncomputable def SLaw (C : List (List Int)) : Stn := thin Nat [0, 1] (fun k => [(5, .int .i64 k)]) (fun _ => ShortK C) fun k => C.length - k
noncomputable def cxLaw (gz : Go.EvC.GZ) (C : List (List Int)) : Ctx := cx1 [(4, eK gz), (5, eIn), (6, eIn)] 3 4 (SLaw C)

theorem rowL_rI (L : List Int) : rowL L.length (rI L) = L := by
  apply List.ext_getElem
  · simp [rowL]
  · intro i h1 h2
    simp [rowL, rI, oneI, intRow, List.getD_eq_getElem?_getD, List.getElem?_eq_getElem h2]
theorem rowLL_rII (C : List (List Int)) : rowLL C.length (rII C) = C := by
  apply List.ext_getElem
  · simp [rowLL]
  · intro i h1 h2
    have := rowL_rI C[i]
    simp [rowLL, rII, oneII, intsRow, List.getD_eq_getElem?_getD, List.getElem?_eq_getElem h2]
    exact this
theorem vm_rI (L : List Int) (i : Nat) : vmL [] (rI L i) (rI L i) := ⟨⟨rfl, rfl⟩, trivial⟩
theorem vm_rII (C : List (List Int)) (i : Nat) : vmL [] (rII C i) (rII C i) := ⟨⟨rfl, rfl, ⟨fun j _ => ⟨⟨rfl, rfl⟩, trivial⟩⟩⟩, trivial⟩
theorem NoI.zero (L : List Int) (z : Int) : NoI L z 0 := ⟨Nat.zero_le _, fun _ h => absurd h (Nat.not_lt_zero _)⟩
theorem NoI.succ {L : List Int} {z : Int} {k : Nat} (h : NoI L z k) (hk : k < L.length) (hn : L.getD k 0 ≠ z) : NoI L z (k + 1) := ⟨hk, fun j hj => by
  rcases Nat.lt_succ_iff_lt_or_eq.1 hj with h1 | rfl
  · exact h.no j h1
  · exact hn⟩
theorem NoI.has {L : List Int} {z : Int} {k : Nat} (hk : k < L.length) (hn : L.getD k 0 = z) : hasR L z = true := by
  unfold hasR
  rw [List.any_eq_true]
  refine ⟨L[k], List.getElem_mem hk, ?_⟩
  rw [List.getD_eq_getElem?_getD, List.getElem?_eq_getElem hk] at hn
  simpa using hn
theorem NoI.none {L : List Int} {z : Int} {k : Nat} (h : NoI L z k) (hk : k = L.length) : hasR L z = false := by
  unfold hasR
  rw [List.any_eq_false]
  intro x hx
  obtain ⟨j, hj, rfl⟩ := List.getElem_of_mem hx
  have := h.no j (by omega)
  rw [List.getD_eq_getElem?_getD, List.getElem?_eq_getElem hj] at this
  simpa using this

theorem rowL_rI' (L : List Int) : rowL L.length (fun i => [AV.int .i64 (L.getD i 0)]) = L := rowL_rI L

theorem runIdx_r : ∀ (L : List Int) (z : Int), Nat.le (List.length L) (1000000 : Nat) → (∃ (x0 : Nat), NoI L z x0 ∧ true = true ∧ ((true = true ∧ (0 : Int) = (↑x0 : Int)) ∧ (true = true ∧ List.length L = List.length L ∧ AllI fun (i : Nat) => Nat.le (Nat.succ i) (List.length L) → (true = true ∧ List.getD L i (0 : Int) = List.getD L i (0 : Int)) ∧ True) ∧ (true = true ∧ z = z) ∧ (true = true ∧ Int.ofNat (List.length L) = Int.ofNat (List.length L)) ∧ True) ∧ True) ∧ ∀ (x : Nat), NoI L z x → brP (ilt (↑x : Int) (Int.ofNat (List.length L))) (sdA (inB (↑x : Int) (List.length L)) (brP (ieq z (List.getD L (Int.toNat (↑x : Int)) (0 : Int))) ((!ilt (↑x : Int) (0 : Int)) = hasR L z) (sdA (inR IntKind.i64 ((↑x : Int) + (1 : Int))) (∃ (x' : Nat), NoI L z x' ∧ Nat.le (Nat.succ (List.length L - x')) (List.length L - x) ∧ true = true ∧ ((true = true ∧ (↑x : Int) + (1 : Int) = (↑x' : Int)) ∧ (true = true ∧ List.length L = List.length L ∧ AllI fun (i : Nat) => Nat.le (Nat.succ i) (List.length L) → (true = true ∧ List.getD L i (0 : Int) = List.getD L i (0 : Int)) ∧ True) ∧ (true = true ∧ z = z) ∧ (true = true ∧ Int.ofNat (List.length L) = Int.ofNat (List.length L)) ∧ True) ∧ True)))) (false = hasR L z)
:= by
  intro L z hl
  simp only [barr_eq, bar_eq, true_and, and_true, eq_self, implies_true, Nat.le_eq, cond_tf, cond_cf, nif_tf, Int.toNat_natCast, Int.ofNat_eq_natCast, Nat.ble_eq, Nat.ble_self_eq_true, Bool.true_and, Bool.and_true, Bool.and_self, Option.some.injEq, AV.int.injEq, rowB_self, allBR_self, Nat.mul_one, Nat.beq_refl, allI_true, cond_true, cond_false, ieq_self, Bool.not_true, Bool.not_false, decide_true, brP_f, brP_t, sdA_t, bytesL_packL, List.nil_append]
  refine ⟨⟨0, NoI.zero L z, rfl⟩, fun x hx => brP_of (fun h => ?_) (fun h => ?_)⟩
  · have hk : x < L.length := by have := ilt_iff.1 h; omega
    refine sdA_of (inB_iff.2 ⟨by omega, by omega⟩) (brP_of (fun he => ?_) (fun he => ?_))
    · rw [NoI.has hk (ieq_iff.1 he).symm, ilt_iffn.2 (by omega)]; rfl
    · have hl : L.length ≤ 1000000 := hl
      exact sdA_of (inR_i64.2 ⟨by omega, by omega⟩) ⟨x + 1, hx.succ hk (fun e => ieq_iffn.1 he e.symm), by omega, by simp⟩
  · have hk := ilt_iffn.1 h
    rw [hx.none (by have := hx.le; omega)]
theorem runIdx : ∀ (L : List Int) (z : Int), L.length ≤ 1000000 → (cRun (cx1 [] 36 2 (SIdx L z)) 60).call 14 [.vec 1 L.length (rI L), .int .i64 z] .leaf 0 (ResM Tryz.prog false (.bool (hasR L z))) :=
  Eq.mpr (by kernel_rfl) runIdx_r

theorem runHas_r : ∀ (L : List Int) (z : Int), Nat.le (List.length L) (1000000 : Nat) → (∃ (x0 : Nat), NoI L z x0 ∧ true = true ∧ ((true = true ∧ (0 : Int) = (↑x0 : Int)) ∧ (true = true ∧ List.length L = List.length L ∧ AllI fun (i : Nat) => Nat.le (Nat.succ i) (List.length L) → (true = true ∧ List.getD L i (0 : Int) = List.getD L i (0 : Int)) ∧ True) ∧ (true = true ∧ z = z) ∧ True) ∧ True) ∧ ∀ (x : Nat), NoI L z x → brP (ilt (↑x : Int) (Int.ofNat (List.length L))) (sdA (inB (↑x : Int) (List.length L)) (brP (ieq (List.getD L (Int.toNat (↑x : Int)) (0 : Int)) z) (true = hasR L z) (sdA (inR IntKind.i64 ((↑x : Int) + (1 : Int))) (∃ (x' : Nat), NoI L z x' ∧ Nat.le (Nat.succ (List.length L - x')) (List.length L - x) ∧ true = true ∧ ((true = true ∧ (↑x : Int) + (1 : Int) = (↑x' : Int)) ∧ (true = true ∧ List.length L = List.length L ∧ AllI fun (i : Nat) => Nat.le (Nat.succ i) (List.length L) → (true = true ∧ List.getD L i (0 : Int) = List.getD L i (0 : Int)) ∧ True) ∧ (true = true ∧ z = z) ∧ True) ∧ True)))) (false = hasR L z)
:= by
  intro L z hl
  simp only [barr_eq, bar_eq, true_and, and_true, eq_self, implies_true, Nat.le_eq, cond_tf, cond_cf, nif_tf, Int.toNat_natCast, Int.ofNat_eq_natCast, Nat.ble_eq, Nat.ble_self_eq_true, Bool.true_and, Bool.and_true, Bool.and_self, Option.some.injEq, AV.int.injEq, rowB_self, allBR_self, Nat.mul_one, Nat.beq_refl, allI_true, cond_true, cond_false, ieq_self, Bool.not_true, Bool.not_false, decide_true, brP_f, brP_t, sdA_t, bytesL_packL, List.nil_append]
  refine ⟨⟨0, NoI.zero L z, rfl⟩, fun x hx => brP_of (fun h => ?_) (fun h => ?_)⟩
  · have hk : x < L.length := by have := ilt_iff.1 h; omega
    refine sdA_of (inB_iff.2 ⟨by omega, by omega⟩) (brP_of (fun he => ?_) (fun he => ?_))
    · rw [NoI.has hk (ieq_iff.1 he)]
    · have hl : L.length ≤ 1000000 := hl
      exact sdA_of (inR_i64.2 ⟨by omega, by omega⟩) ⟨x + 1, hx.succ hk (ieq_iffn.1 he), by omega, by simp⟩
  · have hk := ilt_iffn.1 h
    rw [hx.none (by have := hx.le; omega)]
theorem runHas : ∀ (L : List Int) (z : Int), L.length ≤ 1000000 → (cRun (cx1 [] 15 2 (SHas L z)) 60).call 15 [.vec 1 L.length (rI L), .int .i64 z] .leaf 0 (ResM Tryz.prog false (.bool (hasR L z))) :=
  Eq.mpr (by kernel_rfl) runHas_r

theorem AllI'.zero (c S : List Int) : AllI' c S 0 := ⟨Nat.zero_le _, fun _ h => absurd h (Nat.not_lt_zero _)⟩
theorem AllI'.succ {c S : List Int} {k : Nat} (h : AllI' c S k) (hk : k < S.length) (hn : hasR c (S.getD k 0) = true) : AllI' c S (k + 1) := ⟨hk, fun j hj => by
  rcases Nat.lt_succ_iff_lt_or_eq.1 hj with h1 | rfl
  · exact h.al j h1
  · exact hn⟩
theorem allR_miss {c S : List Int} {k : Nat} (hk : k < S.length) (hn : hasR c (S.getD k 0) = false) : allR c S = false := by
  unfold allR
  rw [List.all_eq_false]
  rw [List.getD_eq_getElem?_getD, List.getElem?_eq_getElem hk] at hn
  exact ⟨S[k], List.getElem_mem hk, by simpa using hn⟩
theorem AllI'.all {c S : List Int} {k : Nat} (h : AllI' c S k) (hk : k = S.length) : allR c S = true := by
  unfold allR
  rw [List.all_eq_true]
  intro x hx
  obtain ⟨j, hj, rfl⟩ := List.getElem_of_mem hx
  have := h.al j (by omega)
  rw [List.getD_eq_getElem?_getD, List.getElem?_eq_getElem hj] at this
  simpa using this
theorem NoC.zero (C : List (List Int)) (S : List Int) : NoC C S 0 := ⟨Nat.zero_le _, fun _ h => absurd h (Nat.not_lt_zero _)⟩
theorem NoC.succ {C : List (List Int)} {S : List Int} {k : Nat} (h : NoC C S k) (hk : k < C.length) (hn : allR (C.getD k []) S = false) : NoC C S (k + 1) := ⟨hk, fun j hj => by
  rcases Nat.lt_succ_iff_lt_or_eq.1 hj with h1 | rfl
  · exact h.no j h1
  · exact hn⟩
theorem getD_mem {C : List (List Int)} {k : Nat} (hk : k < C.length) : C.getD k [] ∈ C := by
  rw [List.getD_eq_getElem?_getD, List.getElem?_eq_getElem hk]
  exact List.getElem_mem hk
theorem inR_has {C : List (List Int)} {S : List Int} {k : Nat} (hk : k < C.length) (hn : allR (C.getD k []) S = true) : inR' C S = true := by
  unfold inR'
  rw [List.any_eq_true]
  exact ⟨_, getD_mem hk, hn⟩
theorem NoC.none {C : List (List Int)} {S : List Int} {k : Nat} (h : NoC C S k) (hk : k = C.length) : inR' C S = false := by
  unfold inR'
  rw [List.any_eq_false]
  intro x hx
  obtain ⟨j, hj, rfl⟩ := List.getElem_of_mem hx
  have := h.no j (by omega)
  rw [List.getD_eq_getElem?_getD, List.getElem?_eq_getElem hj] at this
  simpa using this

theorem runNM_r : ∀ (c S : List Int), Nat.le (List.length c) (1000000 : Nat) → Nat.le (List.length S) (1000000 : Nat) → (∃ (x0 : Nat), AllI' c S x0 ∧ true = true ∧ ((true = true ∧ (0 : Int) = (↑x0 : Int)) ∧ (true = true ∧ List.length S = List.length S ∧ AllI fun (i : Nat) => Nat.le (Nat.succ i) (List.length S) → (true = true ∧ List.getD S i (0 : Int) = List.getD S i (0 : Int)) ∧ True) ∧ (true = true ∧ True ∧ ((true = true ∧ List.length c = List.length c ∧ AllI fun (i : Nat) => Nat.le (Nat.succ i) (List.length c) → (true = true ∧ List.getD c i (0 : Int) = List.getD c i (0 : Int)) ∧ True) ∧ True) ∧ True) ∧ (true = true ∧ Int.ofNat (List.length S) = Int.ofNat (List.length S)) ∧ True) ∧ True) ∧ ∀ (x : Nat), AllI' c S x → brP (ilt (↑x : Int) (Int.ofNat (List.length S))) (sdA (inB (↑x : Int) (List.length S)) (((∃ (L : List Int), List.length c = List.length L ∧ rI c = rI L) ∧ Nat.le (List.length c) (1000000 : Nat)) ∧ brP (!bar (hasR (rowL (List.length c) (rI c)) (List.getD S (Int.toNat (↑x : Int)) (0 : Int)))) ((!ilt (↑x : Int) (0 : Int)) = !allR c S) (sdA (inR IntKind.i64 ((↑x : Int) + (1 : Int))) (∃ (x' : Nat), AllI' c S x' ∧ Nat.le (Nat.succ (List.length S - x')) (List.length S - x) ∧ true = true ∧ ((true = true ∧ (↑x : Int) + (1 : Int) = (↑x' : Int)) ∧ (true = true ∧ List.length S = List.length S ∧ AllI fun (i : Nat) => Nat.le (Nat.succ i) (List.length S) → (true = true ∧ List.getD S i (0 : Int) = List.getD S i (0 : Int)) ∧ True) ∧ (true = true ∧ True ∧ ((true = true ∧ List.length c = List.length c ∧ AllI fun (i : Nat) => Nat.le (Nat.succ i) (List.length c) → (true = true ∧ List.getD c i (0 : Int) = List.getD c i (0 : Int)) ∧ True) ∧ True) ∧ True) ∧ (true = true ∧ Int.ofNat (List.length S) = Int.ofNat (List.length S)) ∧ True) ∧ True)))) (false = !allR c S)
:= by
  intro c S hc hs
  simp only [barr_eq, bar_eq, true_and, and_true, eq_self, implies_true, Nat.le_eq, cond_tf, cond_cf, nif_tf, Int.toNat_natCast, Int.ofNat_eq_natCast, Nat.ble_eq, Nat.ble_self_eq_true, Bool.true_and, Bool.and_true, Bool.and_self, Option.some.injEq, AV.int.injEq, rowB_self, allBR_self, Nat.mul_one, Nat.beq_refl, allI_true, cond_true, cond_false, ieq_self, Bool.not_true, Bool.not_false, decide_true, brP_f, brP_t, sdA_t, bytesL_packL, List.nil_append]
  have hc : c.length ≤ 1000000 := hc
  have hs : S.length ≤ 1000000 := hs
  refine ⟨⟨0, AllI'.zero c S, rfl⟩, fun x hx => brP_of (fun h => ?_) (fun h => ?_)⟩
  · have hk : x < S.length := by have := ilt_iff.1 h; omega
    refine sdA_of (inB_iff.2 ⟨by omega, by omega⟩) ⟨⟨⟨c, rfl, rfl⟩, hc⟩, ?_⟩
    rw [rowL_rI]
    refine brP_of (fun he => ?_) (fun he => ?_)
    · rw [allR_miss hk (by simpa using he), ilt_iffn.2 (by omega)]
    · exact sdA_of (inR_i64.2 ⟨by omega, by omega⟩) ⟨x + 1, hx.succ hk (by simpa using he), by omega, by simp⟩
  · have hk := ilt_iffn.1 h
    rw [hx.all (by have := hx.le; omega)]
    rfl
theorem runNM : ∀ c S : List Int, c.length ≤ 1000000 → S.length ≤ 1000000 → (cRun (cx1 [(14, eHas)] 35 2 (SNM c S)) 60).call 12 [.vec 1 S.length (rI S), .fn (.func 13) [] [.pv [.vec 1 c.length (rI c)]]] .leaf 0 (ResM Tryz.prog false (.bool (!allR c S))) :=
  Eq.mpr (by kernel_rfl) runNM_r

def JiA_runIn_k0 : List (List Int) → Prop := fun (C : List (List Int)) => (true = true ∧ List.length C = List.length C ∧ AllI fun (i : Nat) => Nat.le (Nat.succ i) (List.length C) → (true = true ∧ List.length (List.getD C i []) = List.length (List.getD C i []) ∧ AllI fun (i_1 : Nat) => Nat.le (Nat.succ i_1) (List.length (List.getD C i [])) → (true = true ∧ List.getD (List.getD C i []) i_1 (0 : Int) = List.getD (List.getD C i []) i_1 (0 : Int)) ∧ True) ∧ True) ∧ (true = true ∧ True ∧ (some (0 : Nat) = some (0 : Nat) ∧ true = true) ∧ True) ∧ (true = true ∧ Int.ofNat (List.length C) = Int.ofNat (List.length C)) ∧ True
theorem runIn_r : ∀ (C : List (List Int)) (S : List Int), Nat.le (List.length C) (1000000 : Nat) → Nat.le (List.length S) (1000000 : Nat) → (∀ (c : List Int), List.Mem c C → Nat.le (List.length c) (1000000 : Nat)) → (∃ (x0 : Nat), NoC C S x0 ∧ true = true ∧ ((true = true ∧ (0 : Int) = (↑x0 : Int)) ∧ JiA_runIn_k0 C) ∧ (true = true ∧ true = true ∧ true = true ∧ true = true ∧ True ∧ true = true ∧ List.length S = List.length S ∧ AllI fun (i : Nat) => Nat.le (Nat.succ i) (List.length S) → (true = true ∧ List.getD S i (0 : Int) = List.getD S i (0 : Int)) ∧ True) ∧ True) ∧ ∀ (x : Nat), NoC C S x → brP (ilt (↑x : Int) (Int.ofNat (List.length C))) (sdA (inB (↑x : Int) (List.length C)) ((∃ (c : List Int), ∃ (S_1 : List Int), List.length (List.getD C (Int.toNat (↑x : Int)) []) = List.length c ∧ (fun (i : Nat) => [AV.int IntKind.i64 (List.getD (List.getD C (Int.toNat (↑x : Int)) []) i (0 : Int))]) = rI c ∧ List.length S = List.length S_1 ∧ rI S = rI S_1 ∧ Nat.le (List.length (List.getD C (Int.toNat (↑x : Int)) [])) (1000000 : Nat) ∧ Nat.le (List.length S) (1000000 : Nat)) ∧ brP (!bar !allR (rowL (List.length (List.getD C (Int.toNat (↑x : Int)) [])) fun (i : Nat) => [AV.int IntKind.i64 (List.getD (List.getD C (Int.toNat (↑x : Int)) []) i (0 : Int))]) (rowL (List.length S) (rI S))) ((!ilt (↑x : Int) (0 : Int)) = inR' C S) (sdA (inR IntKind.i64 ((↑x : Int) + (1 : Int))) (∃ (x' : Nat), NoC C S x' ∧ Nat.le (Nat.succ (List.length C - x')) (List.length C - x) ∧ true = true ∧ ((true = true ∧ (↑x : Int) + (1 : Int) = (↑x' : Int)) ∧ JiA_runIn_k0 C) ∧ (true = true ∧ true = true ∧ true = true ∧ true = true ∧ True ∧ true = true ∧ List.length S = List.length S ∧ AllI fun (i : Nat) => Nat.le (Nat.succ i) (List.length S) → (true = true ∧ List.getD S i (0 : Int) = List.getD S i (0 : Int)) ∧ True) ∧ True)))) (false = inR' C S)
:= by
  intro C S hC hS hc
  simp only [barr_eq, bar_eq, true_and, and_true, eq_self, implies_true, Nat.le_eq, cond_tf, cond_cf, nif_tf, Int.toNat_natCast, Int.ofNat_eq_natCast, Nat.ble_eq, Nat.ble_self_eq_true, Bool.true_and, Bool.and_true, Bool.and_self, Option.some.injEq, AV.int.injEq, rowB_self, allBR_self, Nat.mul_one, Nat.beq_refl, allI_true, cond_true, cond_false, ieq_self, Bool.not_true, Bool.not_false, decide_true, brP_f, brP_t, sdA_t, bytesL_packL, List.nil_append, JiA_runIn_k0]
  have hC : C.length ≤ 1000000 := hC
  have hS : S.length ≤ 1000000 := hS
  refine ⟨⟨0, NoC.zero C S, rfl⟩, fun x hx => brP_of (fun h => ?_) (fun h => ?_)⟩
  · have hk : x < C.length := by have := ilt_iff.1 h; omega
    refine sdA_of (inB_iff.2 ⟨by omega, by omega⟩) ⟨⟨C.getD x [], S, rfl, rfl, rfl, rfl, hc _ (getD_mem hk), hS⟩, ?_⟩
    rw [rowL_rI, rowL_rI', Bool.not_not]
    refine brP_of (fun he => ?_) (fun he => ?_)
    · rw [inR_has hk he, ilt_iffn.2 (by omega)]; rfl
    · exact sdA_of (inR_i64.2 ⟨by omega, by omega⟩) ⟨x + 1, hx.succ hk he, by omega, by simp⟩
  · have hk := ilt_iffn.1 h
    rw [hx.none (by have := hx.le; omega)]
theorem runIn : ∀ (C : List (List Int)) (S : List Int), C.length ≤ 1000000 → S.length ≤ 1000000 → (∀ c ∈ C, c.length ≤ 1000000) → (cRun (cx1 [(12, eNM)] 34 2 (SIn C S)) 60).call 5 [.vec 1 C.length (rII C), .vec 1 S.length (rI S)] .leaf 0 (ResM Tryz.prog false (.bool (inR' C S))) :=
  Eq.mpr (by kernel_rfl) runIn_r

theorem allR_take {c S : List Int} {k : Nat} (hk : k < S.length) : allR c (S.take (k + 1)) = (allR c (S.take k) && hasR c (S.getD k 0)) := by
  unfold allR
  rw [List.take_succ_eq_append_getElem hk, List.all_append, List.getD_eq_getElem?_getD, List.getElem?_eq_getElem hk]
  simp

def JiA_runRef_k0 : List (List Int) → List Int → Prop := fun (C : List (List Int)) (S : List Int) => (true = true ∧ List.length C = List.length C ∧ AllI fun (i : Nat) => Nat.le (Nat.succ i) (List.length C) → (true = true ∧ List.length (List.getD C i []) = List.length (List.getD C i []) ∧ AllI fun (i_1 : Nat) => Nat.le (Nat.succ i_1) (List.length (List.getD C i [])) → (true = true ∧ List.getD (List.getD C i []) i_1 (0 : Int) = List.getD (List.getD C i []) i_1 (0 : Int)) ∧ True) ∧ True) ∧ (true = true ∧ List.length S = List.length S ∧ AllI fun (i : Nat) => Nat.le (Nat.succ i) (List.length S) → (true = true ∧ List.getD S i (0 : Int) = List.getD S i (0 : Int)) ∧ True) ∧ True
theorem runRef_r : ∀ (C : List (List Int)) (S : List Int), Nat.le (List.length C) (1000000 : Nat) → Nat.le (List.length S) (1000000 : Nat) → (∀ (c : List Int), List.Mem c C → Nat.le (List.length c) (1000000 : Nat)) → (∃ (x0 : Nat), NoC C S x0 ∧ true = true ∧ ((true = true ∧ (0 : Int) = (↑x0 : Int)) ∧ JiA_runRef_k0 C S) ∧ True) ∧ ∀ (x : Nat), NoC C S x → brP (ilt (↑x : Int) (Int.ofNat (List.length C))) ((∃ (x0 : Nat × Nat), AllK C S (some (AV.int IntKind.i64 (↑x : Int))) x0 ∧ true = true ∧ (true = bar (allR (List.getD C (Prod.snd x0) []) (List.take (Prod.fst x0) S)) ∧ (true = true ∧ (0 : Int) = (↑(Prod.fst x0) : Int)) ∧ (true = true ∧ List.length C = List.length C ∧ AllI fun (i : Nat) => Nat.le (Nat.succ i) (List.length C) → (true = true ∧ List.length (List.getD C i []) = List.length (List.getD C i []) ∧ AllI fun (i_1 : Nat) => Nat.le (Nat.succ i_1) (List.length (List.getD C i [])) → (true = true ∧ List.getD (List.getD C i []) i_1 (0 : Int) = List.getD (List.getD C i []) i_1 (0 : Int)) ∧ True) ∧ True) ∧ (true = true ∧ List.length S = List.length S ∧ AllI fun (i : Nat) => Nat.le (Nat.succ i) (List.length S) → (true = true ∧ List.getD S i (0 : Int) = List.getD S i (0 : Int)) ∧ True) ∧ (true = true ∧ (↑x : Int) = (↑x : Int)) ∧ True) ∧ True) ∧ ∀ (x_1 : Nat × Nat), AllK C S (some (AV.int IntKind.i64 (↑x : Int))) x_1 → brP (ilt (↑(Prod.fst x_1) : Int) (Int.ofNat (List.length S))) (brP (bar (allR (List.getD C (Prod.snd x_1) []) (List.take (Prod.fst x_1) S))) (sdA (inB (↑x : Int) (List.length C)) (sdA (inB (↑(Prod.fst x_1) : Int) (List.length S)) (((∃ (L : List Int), List.length (List.getD C (Int.toNat (↑x : Int)) []) = List.length L ∧ (fun (i : Nat) => [AV.int IntKind.i64 (List.getD (List.getD C (Int.toNat (↑x : Int)) []) i (0 : Int))]) = rI L) ∧ Nat.le (List.length (List.getD C (Int.toNat (↑x : Int)) [])) (1000000 : Nat)) ∧ (((True ∧ True ∧ True) ∧ True) ∧ ((True ∧ True ∧ True) ∧ True) ∧ True) ∧ sdA (inR IntKind.i64 ((↑(Prod.fst x_1) : Int) + (1 : Int))) (∃ (x' : Nat × Nat), AllK C S (some (AV.int IntKind.i64 (↑x : Int))) x' ∧ Nat.le (Nat.succ (List.length S - Prod.fst x')) (List.length S - Prod.fst x_1) ∧ true = true ∧ (bar (hasR (rowL (List.length (List.getD C (Int.toNat (↑x : Int)) [])) fun (i : Nat) => [AV.int IntKind.i64 (List.getD (List.getD C (Int.toNat (↑x : Int)) []) i (0 : Int))]) (List.getD S (Int.toNat (↑(Prod.fst x_1) : Int)) (0 : Int))) = bar (allR (List.getD C (Prod.snd x') []) (List.take (Prod.fst x') S)) ∧ (true = true ∧ (↑(Prod.fst x_1) : Int) + (1 : Int) = (↑(Prod.fst x') : Int)) ∧ (true = true ∧ List.length C = List.length C ∧ AllI fun (i : Nat) => Nat.le (Nat.succ i) (List.length C) → (true = true ∧ List.length (List.getD C i []) = List.length (List.getD C i []) ∧ AllI fun (i_1 : Nat) => Nat.le (Nat.succ i_1) (List.length (List.getD C i [])) → (true = true ∧ List.getD (List.getD C i []) i_1 (0 : Int) = List.getD (List.getD C i []) i_1 (0 : Int)) ∧ True) ∧ True) ∧ (true = true ∧ List.length S = List.length S ∧ AllI fun (i : Nat) => Nat.le (Nat.succ i) (List.length S) → (true = true ∧ List.getD S i (0 : Int) = List.getD S i (0 : Int)) ∧ True) ∧ (true = true ∧ (↑x : Int) = (↑x : Int)) ∧ True) ∧ True)))) (((True ∧ True) ∧ True) ∧ sdA (inR IntKind.i64 ((↑(Prod.fst x_1) : Int) + (1 : Int))) (∃ (x' : Nat × Nat), AllK C S (some (AV.int IntKind.i64 (↑x : Int))) x' ∧ Nat.le (Nat.succ (List.length S - Prod.fst x')) (List.length S - Prod.fst x_1) ∧ true = true ∧ (false = bar (allR (List.getD C (Prod.snd x') []) (List.take (Prod.fst x') S)) ∧ (true = true ∧ (↑(Prod.fst x_1) : Int) + (1 : Int) = (↑(Prod.fst x') : Int)) ∧ (true = true ∧ List.length C = List.length C ∧ AllI fun (i : Nat) => Nat.le (Nat.succ i) (List.length C) → (true = true ∧ List.length (List.getD C i []) = List.length (List.getD C i []) ∧ AllI fun (i_1 : Nat) => Nat.le (Nat.succ i_1) (List.length (List.getD C i [])) → (true = true ∧ List.getD (List.getD C i []) i_1 (0 : Int) = List.getD (List.getD C i []) i_1 (0 : Int)) ∧ True) ∧ True) ∧ (true = true ∧ List.length S = List.length S ∧ AllI fun (i : Nat) => Nat.le (Nat.succ i) (List.length S) → (true = true ∧ List.getD S i (0 : Int) = List.getD S i (0 : Int)) ∧ True) ∧ (true = true ∧ (↑x : Int) = (↑x : Int)) ∧ True) ∧ True))) (brP (bar (allR (List.getD C (Prod.snd x_1) []) (List.take (Prod.fst x_1) S))) (true = inR' C S) (sdA (inR IntKind.i64 ((↑x : Int) + (1 : Int))) (∃ (x' : Nat), NoC C S x' ∧ Nat.le (Nat.succ (List.length C - x')) (List.length C - x) ∧ true = true ∧ ((true = true ∧ (↑x : Int) + (1 : Int) = (↑x' : Int)) ∧ JiA_runRef_k0 C S) ∧ True)))) (false = inR' C S)
:= by
  intro C S hC hS hc
  simp only [barr_eq, bar_eq, true_and, and_true, eq_self, implies_true, Nat.le_eq, cond_tf, cond_cf, nif_tf, Int.toNat_natCast, Int.ofNat_eq_natCast, Nat.ble_eq, Nat.ble_self_eq_true, Bool.true_and, Bool.and_true, Bool.and_self, Option.some.injEq, AV.int.injEq, rowB_self, allBR_self, Nat.mul_one, Nat.beq_refl, allI_true, cond_true, cond_false, ieq_self, Bool.not_true, Bool.not_false, decide_true, brP_f, brP_t, sdA_t, bytesL_packL, List.nil_append, JiA_runRef_k0]
  have hC : C.length ≤ 1000000 := hC
  have hS : S.length ≤ 1000000 := hS
  refine ⟨⟨0, NoC.zero C S, rfl⟩, fun x hx => brP_of (fun h => ?_) (fun h => ?_)⟩
  · have hk : x < C.length := by have := ilt_iff.1 h; omega
    have hm : (C.getD x []).length ≤ 1000000 := hc _ (getD_mem hk)
    refine ⟨⟨(0, x), ⟨rfl, hk, Nat.zero_le _⟩, by simp [allR], rfl⟩, fun y hy => ?_⟩
    obtain ⟨j, x'⟩ := y
    obtain ⟨ho, _, hj⟩ := hy
    have hxx : x' = x := by
      injection ho with ho
      injection ho with _ ho
      simp only at ho
      omega
    subst hxx
    simp only at hj ⊢
    refine brP_of (fun h1 => ?_) (fun h1 => ?_)
    · have hj' : j < S.length := by have := ilt_iff.1 h1; omega
      refine brP_of (fun h2 => ?_) (fun h2 => ?_)
      · refine sdA_of (inB_iff.2 ⟨by omega, by omega⟩) (sdA_of (inB_iff.2 ⟨by omega, by omega⟩) ⟨⟨⟨C.getD x' [], rfl, rfl⟩, hm⟩, sdA_of (inR_i64.2 ⟨by omega, by omega⟩) ⟨(j + 1, x'), ⟨rfl, hk, hj'⟩, by simp only; omega, ?_, by simp⟩⟩)
        rw [rowL_rI']
        simp only
        rw [allR_take hj', h2, Bool.true_and]
      · refine sdA_of (inR_i64.2 ⟨by omega, by omega⟩) ⟨(j + 1, x'), ⟨rfl, hk, hj'⟩, by simp only; omega, ?_, by simp⟩
        simp only
        rw [allR_take hj', h2, Bool.false_and]
    · have hj' := ilt_iffn.1 h1
      rw [List.take_of_length_le (show S.length ≤ j by omega)]
      exact brP_of (fun h2 => (inR_has hk h2).symm) (fun h2 => sdA_of (inR_i64.2 ⟨by omega, by omega⟩) ⟨x' + 1, hx.succ hk h2, by omega, by simp⟩)
  · have hk := ilt_iffn.1 h
    rw [hx.none (by have := hx.le; omega)]
theorem runRef : ∀ (C : List (List Int)) (S : List Int), C.length ≤ 1000000 → S.length ≤ 1000000 → (∀ c ∈ C, c.length ≤ 1000000) → (cRun (cx2 [(15, eHas)] 6 2 (SRo C S) 6 6 (SRi C S)) 60).call 6 [.vec 1 C.length (rII C), .vec 1 S.length (rI S)] .leaf 0 (ResM Tryz.prog false (.bool (inR' C S))) :=
  Eq.mpr (by kernel_rfl) runRef_r

def JiA_runLaw_k0 : List (List Int) → List Int → Prop := fun (C : List (List Int)) (S : List Int) => (true = true ∧ List.length C = List.length C ∧ AllI fun (i : Nat) => Nat.le (Nat.succ i) (List.length C) → (true = true ∧ List.length (List.getD C i []) = List.length (List.getD C i []) ∧ AllI fun (i_1 : Nat) => Nat.le (Nat.succ i_1) (List.length (List.getD C i [])) → (true = true ∧ List.getD (List.getD C i []) i_1 (0 : Int) = List.getD (List.getD C i []) i_1 (0 : Int)) ∧ True) ∧ True) ∧ (true = true ∧ List.length S = List.length S ∧ AllI fun (i : Nat) => Nat.le (Nat.succ i) (List.length S) → (true = true ∧ List.getD S i (0 : Int) = List.getD S i (0 : Int)) ∧ True) ∧ True
theorem runLaw_r : ∀ (C : List (List Int)) (S : List Int), brP (ilt (20 : Int) (Int.ofNat (List.length C))) (True ∧ true = true) (brP (ilt (40 : Int) (Int.ofNat (List.length S))) (True ∧ true = true) ((∃ (x0 : Nat), ShortK C x0 ∧ true = true ∧ ((true = true ∧ (0 : Int) = (↑x0 : Int)) ∧ JiA_runLaw_k0 C S) ∧ (true = true ∧ List.map (fun (z : Int) => AV.int IntKind.u8 z) [(0 : Int), (1 : Int), (56 : Int), (2 : Int), (57 : Int), (49 : Int), (28 : Int), (3 : Int), (61 : Int), (58 : Int), (42 : Int), (50 : Int), (38 : Int), (29 : Int), (17 : Int), (4 : Int), (62 : Int), (47 : Int), (59 : Int), (36 : Int), (45 : Int), (43 : Int), (51 : Int), (22 : Int), (53 : Int), (39 : Int), (33 : Int), (30 : Int), (24 : Int), (18 : Int), (12 : Int), (5 : Int), (63 : Int), (55 : Int), (48 : Int), (27 : Int), (60 : Int), (41 : Int), (37 : Int), (16 : Int), (46 : Int), (35 : Int), (44 : Int), (21 : Int), (52 : Int), (32 : Int), (23 : Int), (11 : Int), (54 : Int), (26 : Int), (40 : Int), (15 : Int), (34 : Int), (20 : Int), (31 : Int), (10 : Int), (25 : Int), (14 : Int), (19 : Int), (9 : Int), (13 : Int), (8 : Int), (7 : Int), (6 : Int)] = List.map (fun (z : Int) => AV.int IntKind.u8 z) [(0 : Int), (1 : Int), (56 : Int), (2 : Int), (57 : Int), (49 : Int), (28 : Int), (3 : Int), (61 : Int), (58 : Int), (42 : Int), (50 : Int), (38 : Int), (29 : Int), (17 : Int), (4 : Int), (62 : Int), (47 : Int), (59 : Int), (36 : Int), (45 : Int), (43 : Int), (51 : Int), (22 : Int), (53 : Int), (39 : Int), (33 : Int), (30 : Int), (24 : Int), (18 : Int), (12 : Int), (5 : Int), (63 : Int), (55 : Int), (48 : Int), (27 : Int), (60 : Int), (41 : Int), (37 : Int), (16 : Int), (46 : Int), (35 : Int), (44 : Int), (21 : Int), (52 : Int), (32 : Int), (23 : Int), (11 : Int), (54 : Int), (26 : Int), (40 : Int), (15 : Int), (34 : Int), (20 : Int), (31 : Int), (10 : Int), (25 : Int), (14 : Int), (19 : Int), (9 : Int), (13 : Int), (8 : Int), (7 : Int), (6 : Int)]) ∧ True) ∧ ∀ (x : Nat), ShortK C x → brP (ilt (↑x : Int) (Int.ofNat (List.length C))) (sdA (inB (↑x : Int) (List.length C)) (brP (ilt (40 : Int) (Int.ofNat (List.length (List.getD C (Int.toNat (↑x : Int)) [])))) (True ∧ true = true) (sdA (inR IntKind.i64 ((↑x : Int) + (1 : Int))) (∃ (x' : Nat), ShortK C x' ∧ Nat.le (Nat.succ (List.length C - x')) (List.length C - x) ∧ true = true ∧ ((true = true ∧ (↑x : Int) + (1 : Int) = (↑x' : Int)) ∧ JiA_runLaw_k0 C S) ∧ (true = true ∧ List.map (fun (z : Int) => AV.int IntKind.u8 z) [(0 : Int), (1 : Int), (56 : Int), (2 : Int), (57 : Int), (49 : Int), (28 : Int), (3 : Int), (61 : Int), (58 : Int), (42 : Int), (50 : Int), (38 : Int), (29 : Int), (17 : Int), (4 : Int), (62 : Int), (47 : Int), (59 : Int), (36 : Int), (45 : Int), (43 : Int), (51 : Int), (22 : Int), (53 : Int), (39 : Int), (33 : Int), (30 : Int), (24 : Int), (18 : Int), (12 : Int), (5 : Int), (63 : Int), (55 : Int), (48 : Int), (27 : Int), (60 : Int), (41 : Int), (37 : Int), (16 : Int), (46 : Int), (35 : Int), (44 : Int), (21 : Int), (52 : Int), (32 : Int), (23 : Int), (11 : Int), (54 : Int), (26 : Int), (40 : Int), (15 : Int), (34 : Int), (20 : Int), (31 : Int), (10 : Int), (25 : Int), (14 : Int), (19 : Int), (9 : Int), (13 : Int), (8 : Int), (7 : Int), (6 : Int)] = List.map (fun (z : Int) => AV.int IntKind.u8 z) [(0 : Int), (1 : Int), (56 : Int), (2 : Int), (57 : Int), (49 : Int), (28 : Int), (3 : Int), (61 : Int), (58 : Int), (42 : Int), (50 : Int), (38 : Int), (29 : Int), (17 : Int), (4 : Int), (62 : Int), (47 : Int), (59 : Int), (36 : Int), (45 : Int), (43 : Int), (51 : Int), (22 : Int), (53 : Int), (39 : Int), (33 : Int), (30 : Int), (24 : Int), (18 : Int), (12 : Int), (5 : Int), (63 : Int), (55 : Int), (48 : Int), (27 : Int), (60 : Int), (41 : Int), (37 : Int), (16 : Int), (46 : Int), (35 : Int), (44 : Int), (21 : Int), (52 : Int), (32 : Int), (23 : Int), (11 : Int), (54 : Int), (26 : Int), (40 : Int), (15 : Int), (34 : Int), (20 : Int), (31 : Int), (10 : Int), (25 : Int), (14 : Int), (19 : Int), (9 : Int), (13 : Int), (8 : Int), (7 : Int), (6 : Int)]) ∧ True)))) ((∃ (C_1 : List (List Int)), ∃ (S_1 : List Int), List.length C = List.length C_1 ∧ rII C = rII C_1 ∧ List.length S = List.length S_1 ∧ rI S = rI S_1 ∧ Nat.le (List.length C) (1000000 : Nat) ∧ Nat.le (List.length S) (1000000 : Nat) ∧ ∀ (c : List Int), List.Mem c C_1 → Nat.le (List.length c) (1000000 : Nat)) ∧ (∃ (C_1 : List (List Int)), ∃ (S_1 : List Int), List.length C = List.length C_1 ∧ rII C = rII C_1 ∧ List.length S = List.length S_1 ∧ rI S = rI S_1 ∧ Nat.le (List.length C) (1000000 : Nat) ∧ Nat.le (List.length S) (1000000 : Nat) ∧ ∀ (c : List Int), List.Mem c C_1 → Nat.le (List.length c) (1000000 : Nat)) ∧ brP (bif bar (inR' (rowLL (List.length C) (rII C)) (rowL (List.length S) (rI S))) then bar (inR' (rowLL (List.length C) (rII C)) (rowL (List.length S) (rI S))) else !bar (inR' (rowLL (List.length C) (rII C)) (rowL (List.length S) (rI S)))) (True ∧ true = true) (false = true))))
:= by
  intro C S
  simp only [barr_eq, bar_eq, true_and, and_true, eq_self, implies_true, Nat.le_eq, cond_tf, cond_cf, nif_tf, Int.toNat_natCast, Int.ofNat_eq_natCast, Nat.ble_eq, Nat.ble_self_eq_true, Bool.true_and, Bool.and_true, Bool.and_self, Option.some.injEq, AV.int.injEq, rowB_self, allBR_self, Nat.mul_one, Nat.beq_refl, allI_true, cond_true, cond_false, ieq_self, Bool.not_true, Bool.not_false, decide_true, brP_f, brP_t, sdA_t, bytesL_packL, List.nil_append, JiA_runLaw_k0]
  refine brP_of (fun _ => trivial) (fun h => brP_of (fun _ => trivial) (fun h' => ?_))
  have hC : C.length ≤ 20 := by have := ilt_iffn.1 h; omega
  have hS : S.length ≤ 40 := by have := ilt_iffn.1 h'; omega
  refine ⟨⟨0, ⟨Nat.zero_le _, fun _ h => absurd h (Nat.not_lt_zero _)⟩, rfl⟩, fun x hx => brP_of (fun h1 => ?_) (fun h1 => ?_)⟩
  · have hk : x < C.length := by have := ilt_iff.1 h1; omega
    refine sdA_of (inB_iff.2 ⟨by omega, by omega⟩) (brP_of (fun _ => trivial) (fun h2 => sdA_of (inR_i64.2 ⟨by omega, by omega⟩) ⟨x + 1, ⟨hk, fun j hj => ?_⟩, by omega, by simp⟩))
    rcases Nat.lt_succ_iff_lt_or_eq.1 hj with h3 | rfl
    · exact hx.sh j h3
    · have := ilt_iffn.1 h2; omega
  · have hk := ilt_iffn.1 h1
    have hm : ∀ c : List Int, List.Mem c C → c.length ≤ 1000000 := fun c hc => by
      obtain ⟨j, hj, rfl⟩ := List.getElem_of_mem (show c ∈ C from hc)
      have := hx.sh j (by omega)
      rw [List.getD_eq_getElem?_getD, List.getElem?_eq_getElem hj] at this
      simp at this
      omega
    have pr : ∃ (C_1 : List (List Int)) (S_1 : List Int), C.length = C_1.length ∧ rII C = rII C_1 ∧ S.length = S_1.length ∧ rI S = rI S_1 ∧ C.length ≤ 1000000 ∧ S.length ≤ 1000000 ∧ ∀ c : List Int, List.Mem c C_1 → c.length ≤ 1000000 :=
      ⟨C, S, rfl, rfl, rfl, rfl, by omega, by omega, hm⟩
    refine ⟨pr, pr, ?_⟩
    generalize inR' (rowLL C.length (rII C)) (rowL S.length (rI S)) = b
    cases b <;> simp [brP_iff]
theorem runLaw : ∀ (C : List (List Int)) (S : List Int), (cRun (cxLaw gz0 C) 60).call 3 [.vec 1 C.length (rII C), .vec 1 S.length (rI S)] (mkH (gzT gz0)) 1 (ResM Tryz.prog false (.bool true)) :=
  Eq.mpr (by kernel_rfl) runLaw_r

theorem okContains : EntOK Tryz.prog 14 eHas := by
  refine ent_of2 (gl := []) (ng := 0) gl0 fun H args ct hct => ?_
  unfold eHas at hct
  split at hct
  · rename_i n f z
    injection hct with hct; subst hct
    refine ⟨gl0, _, _, rfl, ?_⟩
    rintro ⟨⟨L, rfl, rfl⟩, hl⟩
    rw [rowL_rI, bar_eq]
    exact ⟨⟨⟨rfl, rfl, ⟨fun i _ => vm_rI L i⟩⟩, ⟨rfl, rfl⟩, trivial⟩, _, 60, rfl, fol, tb_nil, runIdx L z hl⟩
  · cases hct
theorem okHas : EntOK Tryz.prog 15 eHas := by
  refine ent_of2 (gl := []) (ng := 0) gl0 fun H args ct hct => ?_
  unfold eHas at hct
  split at hct
  · rename_i n f z
    injection hct with hct; subst hct
    refine ⟨gl0, _, _, rfl, ?_⟩
    rintro ⟨⟨L, rfl, rfl⟩, hl⟩
    rw [rowL_rI, bar_eq]
    exact ⟨⟨⟨rfl, rfl, ⟨fun i _ => vm_rI L i⟩⟩, ⟨rfl, rfl⟩, trivial⟩, _, 60, rfl, fol, tb_nil, runHas L z hl⟩
  · cases hct
theorem okNM : EntOK Tryz.prog 12 eNM := by
  refine ent_of2 (gl := []) (ng := 0) gl0 fun H args ct hct => ?_
  unfold eNM at hct
  split at hct
  · rename_i m g n f
    injection hct with hct; subst hct
    refine ⟨gl0, _, _, rfl, ?_⟩
    rintro ⟨c, S, rfl, rfl, rfl, rfl, hc, hs⟩
    rw [rowL_rI, rowL_rI, bar_eq]
    exact ⟨⟨⟨rfl, rfl, ⟨fun i _ => vm_rI S i⟩⟩, ⟨rfl, trivial, ⟨⟨⟨rfl, rfl, ⟨fun i _ => vm_rI c i⟩⟩, trivial⟩, trivial⟩⟩, trivial⟩, _, 60, rfl, fol, tb_cons okContains tb_nil, runNM c S hc hs⟩
  · cases hct
theorem okIn : EntOK Tryz.prog 5 eIn := by
  refine ent_of2 (gl := []) (ng := 0) gl0 fun H args ct hct => ?_
  unfold eIn at hct
  split at hct
  · rename_i n f m g
    injection hct with hct; subst hct
    refine ⟨gl0, _, _, rfl, ?_⟩
    rintro ⟨C, S, rfl, rfl, rfl, rfl, hC, hS, hc⟩
    rw [rowL_rI, rowLL_rII, bar_eq]
    exact ⟨⟨⟨rfl, rfl, ⟨fun i _ => vm_rII C i⟩⟩, ⟨rfl, rfl, ⟨fun i _ => vm_rI S i⟩⟩, trivial⟩, _, 60, rfl, fol, tb_cons okNM tb_nil, runIn C S hC hS hc⟩
  · cases hct
theorem okRef : EntOK Tryz.prog 6 eIn := by
  refine ent_of2 (gl := []) (ng := 0) gl0 fun H args ct hct => ?_
  unfold eIn at hct
  split at hct
  · rename_i n f m g
    injection hct with hct; subst hct
    refine ⟨gl0, _, _, rfl, ?_⟩
    rintro ⟨C, S, rfl, rfl, rfl, rfl, hC, hS, hc⟩
    rw [rowL_rI, rowLL_rII, bar_eq]
    exact ⟨⟨⟨rfl, rfl, ⟨fun i _ => vm_rII C i⟩⟩, ⟨rfl, rfl, ⟨fun i _ => vm_rI S i⟩⟩, trivial⟩, _, 60, rfl, fol, tb_cons okHas tb_nil, runRef C S hC hS hc⟩
  · cases hct
theorem okLaw (hk : EntOK Tryz.prog 4 (eK gz0)) : EntOK Tryz.prog 3 (fun H args => match args with
    | [.vec 1 n f, .vec 1 m g] => cond (selG gz0 H) (some (.need (∃ (C : List (List Int)) (S : List Int), n = C.length ∧ f = rII C ∧ m = S.length ∧ g = rI S) (.ret (.bool true)))) none
    | _ => none) := by
  refine ent_of2 (gl := gzT gz0) (ng := 1) (gzT_gl gz0) fun H args ct hct => ?_
  split at hct
  · rename_i n f m g
    cases hs : selG gz0 H with
    | false => rw [hs] at hct; cases hct
    | true =>
      rw [hs] at hct
      injection hct with hct; subst hct
      refine ⟨selG_gl hs, _, _, rfl, ?_⟩
      rintro ⟨C, S, rfl, rfl, rfl, rfl⟩
      exact ⟨⟨⟨rfl, rfl, ⟨fun i _ => vm_rII C i⟩⟩, ⟨rfl, rfl, ⟨fun i _ => vm_rI S i⟩⟩, trivial⟩, cxLaw gz0 C, 60, rfl, fol, tb_cons hk (tb_cons okIn (tb_cons okRef tb_nil)), runLaw C S⟩
  · cases hct

end Go.Proofs.YtaadlffookkogaaGreatDoor
