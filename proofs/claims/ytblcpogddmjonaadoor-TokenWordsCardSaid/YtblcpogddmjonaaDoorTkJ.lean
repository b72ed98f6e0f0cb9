/- Laid by program out of its parts: TkJ. -/
import Derived.Test.YtblcpogddmjonaaDoorTkI
set_option maxRecDepth 100000
set_option linter.unusedSimpArgs false
set_option linter.unusedVariables false
open Go Go.Ev
namespace Go.Proofs.Tk
noncomputable def e10 : Tr AObj → List AV → Option Ct := fun _ args => match args with
  | [.bv l] => some (.need (l.length ≤ 1000000) (.ret (scanAV l)))
  | _ => none
noncomputable def tbF : Tbl := (9, e9) :: (10, e10) :: tbE
noncomputable def eT : Tr AObj → List AV → Option Ct := fun H args => match args with
  | [] => cond (globB H) (some (.need True (.ret (.bool true)))) none
  | _ => none
noncomputable def tbK : Tbl := (8, eT) :: tbF
noncomputable def eL1 : Tr AObj → List AV → Option Ct := fun H args => match args with
  | [.bv l] => cond (globB H) (some (.need True (.ret (.bool true)))) none
  | _ => none
noncomputable def L3 (l : List UInt8) : Stn := thin Nat [4, 6] (fun i => [(8, .int .i64 i)]) (fun _ i => i ≤ (scanR l).1.length) fun i => (scanR l).1.length - i
noncomputable def L11 (l : List UInt8) : Stn := thin Nat [0, 1] (fun i => [(5, .int .i64 i)]) (fun _ i => i ≤ (scanR l).2.length) fun i => (scanR l).2.length - i
noncomputable def cx3 (l : List UInt8) : Ctx := { P := Tryd.prog, tb := tbK, lp := fun f r => cond (Nat.beq f 3) (cond (Nat.beq r 9) (some (L3 l)) none) (cond (Nat.beq f 11) (cond (Nat.beq r 4) (some (L11 l)) none) none), cut := fun _ _ => none }

theorem ok10 : EntOK Tryd.prog 10 e10 := by
  refine ent_of2 (gl := []) (ng := 0) gl0 fun H args ct hct => ?_
  unfold e10 at hct
  split at hct
  · rename_i l
    injection hct with hct; subst hct
    exact ⟨gl0, _, _, rfl, fun hp => ⟨⟨rfl, trivial⟩, cx10 l, 200, rfl, fol, tbE_ok, run10 l hp⟩⟩
  · cases hct
theorem tbF_ok : TbOK Tryd.prog tbF := tb_cons ok9 <| tb_cons ok10 tbE_ok

theorem rowB_self (l : List UInt8) : rowB l.length (byteRow l) = l := by
  unfold rowB byteRow byteO
  apply List.ext_getElem
  · simp
  · intro i h1 h2
    simp at h1 ⊢
    simp [h1]
theorem allBR_self (l : List UInt8) : allBR l.length (byteRow l) = true := decide_eq_true fun i _ => by
  unfold byteRow isBR
  exact inR_u8.2 (by have := (l.getD i 0).toNat_lt; omega)
theorem brP_f {K L : Prop} : brP false K L = L := rfl
theorem brP_t {K L : Prop} : brP true K L = K := rfl
theorem sdA_t {K : Prop} : sdA true K = K := rfl
theorem scn_len : ∀ (n : Nat) (l : List UInt8) (line col : Int), l.length ≤ n → (scn l line col).1.length ≤ l.length ∧ (scn l line col).2.length ≤ l.length
  | _, [], _, _, _ => ⟨Nat.le_refl _, Nat.le_refl _⟩
  | 0, b :: t, _, _, h => by simp at h
  | n + 1, b :: t, line, col, h => by
    have hn := nxT_pos b t
    simp only [List.length_cons] at h hn
    have hl : ((b :: t).drop (nxT (b :: t)).2).length = t.length + 1 - (nxT (b :: t)).2 := by rw [List.length_drop, List.length_cons]
    obtain ⟨h1, h2⟩ := scn_len n ((b :: t).drop (nxT (b :: t)).2) (if b = 10 then line + 1 else line) (if b = 10 then 1 else col + (nxT (b :: t)).2) (by omega)
    obtain ⟨o1, o2⟩ := oneT_len b t line col
    rw [scn_cons]
    simp only [List.length_append, List.length_cons]
    omega
theorem scanR_len (l : List UInt8) : (scanR l).1.length ≤ l.length ∧ (scanR l).2.length ≤ l.length := scn_len l.length l 1 1 (Nat.le_refl _)
theorem allI_true : (AllI fun _ => True) = True := eq_true ⟨fun _ => trivial⟩
theorem ieq_self (z : Int) : ieq z z = true := by rw [ieq_eq]; simp

theorem run8_r : Nat.le (8 : Nat) (1000000 : Nat) ∧ Nat.le (3 : Nat) (1000000 : Nat) ∧ Nat.le (1 : Nat) (1000000 : Nat) ∧ true = true
:= by
  exact ⟨Nat.le_of_ble_eq_true rfl, Nat.le_of_ble_eq_true rfl, Nat.le_of_ble_eq_true rfl, rfl⟩
theorem run8 : (cRun (cxA tbF) 200).call 8 [] (mkH glT) 4 (ResM Tryd.prog false (.bool true)) :=
  Eq.mpr (by kernel_rfl) run8_r

theorem run3_r : ∀ (l : List UInt8), brP (ilt (5000 : Int) (Int.ofNat (List.length l))) (True ∧ true = true) (sdA (decide (List.length l ≤ (9223372036854775807 : Nat) ∧ List.length l * (1 : Nat) ≤ (140737488355328 : Nat))) (sdA (bif bif Nat.ble (List.length l * (1 : Nat)) (List.length l * (1 : Nat)) then allBR (List.length l) (byteRow l) else false then true else false) (sdA (bif bif bif Nat.beq (List.length l) (List.length l) then true else false then true else false then bif bif bif bif Nat.beq (List.length l) (List.length l) then true else false then true else false then true else false then bif Nat.beq (List.length l) (List.length l) then true else false else false else false) (Nat.le (List.length (rowB (List.length l) (byteRow l))) (1000000 : Nat) ∧ Nat.le (List.length l) (1000000 : Nat) ∧ brP (!decide (rowB (List.length l) (byteRow l) = l)) (false = true) (brP (!ieq (Int.ofNat (List.length (Prod.snd (scanR (rowB (List.length l) (byteRow l)))))) (Int.ofNat (List.length (Prod.snd (scanR l))))) (false = true) ((∃ (x0 : Nat), Nat.le x0 (List.length (Prod.snd (scanR l))) ∧ true = true ∧ ((true = true ∧ (0 : Int) = (↑x0 : Int)) ∧ (true = true ∧ List.length (Prod.snd (scanR (rowB (List.length l) (byteRow l)))) = List.length (Prod.snd (scanR (rowB (List.length l) (byteRow l)))) ∧ AllI fun (i : Nat) => i < List.length (Prod.snd (scanR (rowB (List.length l) (byteRow l)))) → (true = true ∧ Dg.line (List.getD (Prod.snd (scanR (rowB (List.length l) (byteRow l)))) i d0) = Dg.line (List.getD (Prod.snd (scanR (rowB (List.length l) (byteRow l)))) i d0)) ∧ (true = true ∧ Dg.col (List.getD (Prod.snd (scanR (rowB (List.length l) (byteRow l)))) i d0) = Dg.col (List.getD (Prod.snd (scanR (rowB (List.length l) (byteRow l)))) i d0)) ∧ (true = true ∧ Dg.err (List.getD (Prod.snd (scanR (rowB (List.length l) (byteRow l)))) i d0) = Dg.err (List.getD (Prod.snd (scanR (rowB (List.length l) (byteRow l)))) i d0)) ∧ True) ∧ (true = true ∧ List.length (Prod.snd (scanR l)) = List.length (Prod.snd (scanR l)) ∧ AllI fun (i : Nat) => i < List.length (Prod.snd (scanR l)) → (true = true ∧ Dg.line (List.getD (Prod.snd (scanR l)) i d0) = Dg.line (List.getD (Prod.snd (scanR l)) i d0)) ∧ (true = true ∧ Dg.col (List.getD (Prod.snd (scanR l)) i d0) = Dg.col (List.getD (Prod.snd (scanR l)) i d0)) ∧ (true = true ∧ Dg.err (List.getD (Prod.snd (scanR l)) i d0) = Dg.err (List.getD (Prod.snd (scanR l)) i d0)) ∧ True) ∧ True) ∧ (true = true ∧ asciiTab = asciiTab) ∧ True) ∧ ∀ (x : Nat), Nat.le x (List.length (Prod.snd (scanR l))) → brP (ilt (↑x : Int) (Int.ofNat (List.length (Prod.snd (scanR (rowB (List.length l) (byteRow l))))))) (sdA (inB (↑x : Int) (List.length (Prod.snd (scanR (rowB (List.length l) (byteRow l)))))) (sdA (inB (↑x : Int) (List.length (Prod.snd (scanR l)))) ((((True ∧ True ∧ True) ∧ True) ∧ True) ∧ brP (!(ieq (Dg.line (List.getD (Prod.snd (scanR (rowB (List.length l) (byteRow l)))) (Int.toNat (↑x : Int)) d0)) (Dg.line (List.getD (Prod.snd (scanR l)) (Int.toNat (↑x : Int)) d0)) && (ieq (Dg.col (List.getD (Prod.snd (scanR (rowB (List.length l) (byteRow l)))) (Int.toNat (↑x : Int)) d0)) (Dg.col (List.getD (Prod.snd (scanR l)) (Int.toNat (↑x : Int)) d0)) && (ieq (Dg.err (List.getD (Prod.snd (scanR (rowB (List.length l) (byteRow l)))) (Int.toNat (↑x : Int)) d0)) (Dg.err (List.getD (Prod.snd (scanR l)) (Int.toNat (↑x : Int)) d0)) && true)))) (false = true) (sdA (inR IntKind.i64 ((↑x : Int) + (1 : Int))) (∃ (x' : Nat), Nat.le x' (List.length (Prod.snd (scanR l))) ∧ Nat.le (Nat.succ (List.length (Prod.snd (scanR l)) - x')) (List.length (Prod.snd (scanR l)) - x) ∧ true = true ∧ ((true = true ∧ (↑x : Int) + (1 : Int) = (↑x' : Int)) ∧ (true = true ∧ List.length (Prod.snd (scanR (rowB (List.length l) (byteRow l)))) = List.length (Prod.snd (scanR (rowB (List.length l) (byteRow l)))) ∧ AllI fun (i : Nat) => i < List.length (Prod.snd (scanR (rowB (List.length l) (byteRow l)))) → (true = true ∧ Dg.line (List.getD (Prod.snd (scanR (rowB (List.length l) (byteRow l)))) i d0) = Dg.line (List.getD (Prod.snd (scanR (rowB (List.length l) (byteRow l)))) i d0)) ∧ (true = true ∧ Dg.col (List.getD (Prod.snd (scanR (rowB (List.length l) (byteRow l)))) i d0) = Dg.col (List.getD (Prod.snd (scanR (rowB (List.length l) (byteRow l)))) i d0)) ∧ (true = true ∧ Dg.err (List.getD (Prod.snd (scanR (rowB (List.length l) (byteRow l)))) i d0) = Dg.err (List.getD (Prod.snd (scanR (rowB (List.length l) (byteRow l)))) i d0)) ∧ True) ∧ (true = true ∧ List.length (Prod.snd (scanR l)) = List.length (Prod.snd (scanR l)) ∧ AllI fun (i : Nat) => i < List.length (Prod.snd (scanR l)) → (true = true ∧ Dg.line (List.getD (Prod.snd (scanR l)) i d0) = Dg.line (List.getD (Prod.snd (scanR l)) i d0)) ∧ (true = true ∧ Dg.col (List.getD (Prod.snd (scanR l)) i d0) = Dg.col (List.getD (Prod.snd (scanR l)) i d0)) ∧ (true = true ∧ Dg.err (List.getD (Prod.snd (scanR l)) i d0) = Dg.err (List.getD (Prod.snd (scanR l)) i d0)) ∧ True) ∧ True) ∧ (true = true ∧ asciiTab = asciiTab) ∧ True))))) (brP (!ieq (Int.ofNat (List.length (Prod.fst (scanR (rowB (List.length l) (byteRow l)))))) (Int.ofNat (List.length (Prod.fst (scanR l))))) (false = true) ((∃ (x0 : Nat), Nat.le x0 (List.length (Prod.fst (scanR l))) ∧ true = true ∧ ((true = true ∧ (0 : Int) = (↑x0 : Int)) ∧ (true = true ∧ List.length (Prod.fst (scanR (rowB (List.length l) (byteRow l)))) = List.length (Prod.fst (scanR (rowB (List.length l) (byteRow l)))) ∧ AllI fun (i : Nat) => i < List.length (Prod.fst (scanR (rowB (List.length l) (byteRow l)))) → (true = true ∧ Tok.kind (List.getD (Prod.fst (scanR (rowB (List.length l) (byteRow l)))) i t0) = Tok.kind (List.getD (Prod.fst (scanR (rowB (List.length l) (byteRow l)))) i t0)) ∧ Tok.text (List.getD (Prod.fst (scanR (rowB (List.length l) (byteRow l)))) i t0) = Tok.text (List.getD (Prod.fst (scanR (rowB (List.length l) (byteRow l)))) i t0) ∧ (true = true ∧ Tok.num (List.getD (Prod.fst (scanR (rowB (List.length l) (byteRow l)))) i t0) = Tok.num (List.getD (Prod.fst (scanR (rowB (List.length l) (byteRow l)))) i t0)) ∧ (true = true ∧ Tok.line (List.getD (Prod.fst (scanR (rowB (List.length l) (byteRow l)))) i t0) = Tok.line (List.getD (Prod.fst (scanR (rowB (List.length l) (byteRow l)))) i t0)) ∧ (true = true ∧ Tok.col (List.getD (Prod.fst (scanR (rowB (List.length l) (byteRow l)))) i t0) = Tok.col (List.getD (Prod.fst (scanR (rowB (List.length l) (byteRow l)))) i t0)) ∧ True) ∧ (true = true ∧ List.length (Prod.fst (scanR l)) = List.length (Prod.fst (scanR l)) ∧ AllI fun (i : Nat) => i < List.length (Prod.fst (scanR l)) → (true = true ∧ Tok.kind (List.getD (Prod.fst (scanR l)) i t0) = Tok.kind (List.getD (Prod.fst (scanR l)) i t0)) ∧ Tok.text (List.getD (Prod.fst (scanR l)) i t0) = Tok.text (List.getD (Prod.fst (scanR l)) i t0) ∧ (true = true ∧ Tok.num (List.getD (Prod.fst (scanR l)) i t0) = Tok.num (List.getD (Prod.fst (scanR l)) i t0)) ∧ (true = true ∧ Tok.line (List.getD (Prod.fst (scanR l)) i t0) = Tok.line (List.getD (Prod.fst (scanR l)) i t0)) ∧ (true = true ∧ Tok.col (List.getD (Prod.fst (scanR l)) i t0) = Tok.col (List.getD (Prod.fst (scanR l)) i t0)) ∧ True) ∧ True) ∧ (true = true ∧ asciiTab = asciiTab) ∧ True) ∧ ∀ (x : Nat), Nat.le x (List.length (Prod.fst (scanR l))) → brP (ilt (↑x : Int) (Int.ofNat (List.length (Prod.fst (scanR (rowB (List.length l) (byteRow l))))))) (sdA (inB (↑x : Int) (List.length (Prod.fst (scanR (rowB (List.length l) (byteRow l)))))) (sdA (inB (↑x : Int) (List.length (Prod.fst (scanR l)))) ((((True ∧ True ∧ True) ∧ True) ∧ True) ∧ brP (!(ieq (Tok.kind (List.getD (Prod.fst (scanR (rowB (List.length l) (byteRow l)))) (Int.toNat (↑x : Int)) t0)) (Tok.kind (List.getD (Prod.fst (scanR l)) (Int.toNat (↑x : Int)) t0)) && (decide (Tok.text (List.getD (Prod.fst (scanR (rowB (List.length l) (byteRow l)))) (Int.toNat (↑x : Int)) t0) = Tok.text (List.getD (Prod.fst (scanR l)) (Int.toNat (↑x : Int)) t0)) && (ieq (Tok.num (List.getD (Prod.fst (scanR (rowB (List.length l) (byteRow l)))) (Int.toNat (↑x : Int)) t0)) (Tok.num (List.getD (Prod.fst (scanR l)) (Int.toNat (↑x : Int)) t0)) && (ieq (Tok.line (List.getD (Prod.fst (scanR (rowB (List.length l) (byteRow l)))) (Int.toNat (↑x : Int)) t0)) (Tok.line (List.getD (Prod.fst (scanR l)) (Int.toNat (↑x : Int)) t0)) && (ieq (Tok.col (List.getD (Prod.fst (scanR (rowB (List.length l) (byteRow l)))) (Int.toNat (↑x : Int)) t0)) (Tok.col (List.getD (Prod.fst (scanR l)) (Int.toNat (↑x : Int)) t0)) && true)))))) (false = true) (sdA (inR IntKind.i64 ((↑x : Int) + (1 : Int))) (∃ (x' : Nat), Nat.le x' (List.length (Prod.fst (scanR l))) ∧ Nat.le (Nat.succ (List.length (Prod.fst (scanR l)) - x')) (List.length (Prod.fst (scanR l)) - x) ∧ true = true ∧ ((true = true ∧ (↑x : Int) + (1 : Int) = (↑x' : Int)) ∧ (true = true ∧ List.length (Prod.fst (scanR (rowB (List.length l) (byteRow l)))) = List.length (Prod.fst (scanR (rowB (List.length l) (byteRow l)))) ∧ AllI fun (i : Nat) => i < List.length (Prod.fst (scanR (rowB (List.length l) (byteRow l)))) → (true = true ∧ Tok.kind (List.getD (Prod.fst (scanR (rowB (List.length l) (byteRow l)))) i t0) = Tok.kind (List.getD (Prod.fst (scanR (rowB (List.length l) (byteRow l)))) i t0)) ∧ Tok.text (List.getD (Prod.fst (scanR (rowB (List.length l) (byteRow l)))) i t0) = Tok.text (List.getD (Prod.fst (scanR (rowB (List.length l) (byteRow l)))) i t0) ∧ (true = true ∧ Tok.num (List.getD (Prod.fst (scanR (rowB (List.length l) (byteRow l)))) i t0) = Tok.num (List.getD (Prod.fst (scanR (rowB (List.length l) (byteRow l)))) i t0)) ∧ (true = true ∧ Tok.line (List.getD (Prod.fst (scanR (rowB (List.length l) (byteRow l)))) i t0) = Tok.line (List.getD (Prod.fst (scanR (rowB (List.length l) (byteRow l)))) i t0)) ∧ (true = true ∧ Tok.col (List.getD (Prod.fst (scanR (rowB (List.length l) (byteRow l)))) i t0) = Tok.col (List.getD (Prod.fst (scanR (rowB (List.length l) (byteRow l)))) i t0)) ∧ True) ∧ (true = true ∧ List.length (Prod.fst (scanR l)) = List.length (Prod.fst (scanR l)) ∧ AllI fun (i : Nat) => i < List.length (Prod.fst (scanR l)) → (true = true ∧ Tok.kind (List.getD (Prod.fst (scanR l)) i t0) = Tok.kind (List.getD (Prod.fst (scanR l)) i t0)) ∧ Tok.text (List.getD (Prod.fst (scanR l)) i t0) = Tok.text (List.getD (Prod.fst (scanR l)) i t0) ∧ (true = true ∧ Tok.num (List.getD (Prod.fst (scanR l)) i t0) = Tok.num (List.getD (Prod.fst (scanR l)) i t0)) ∧ (true = true ∧ Tok.line (List.getD (Prod.fst (scanR l)) i t0) = Tok.line (List.getD (Prod.fst (scanR l)) i t0)) ∧ (true = true ∧ Tok.col (List.getD (Prod.fst (scanR l)) i t0) = Tok.col (List.getD (Prod.fst (scanR l)) i t0)) ∧ True) ∧ True) ∧ (true = true ∧ asciiTab = asciiTab) ∧ True))))) (True ∧ true = true)))))))))
:= by
  intro l
  simp only [barr_eq, bar_eq, true_and, and_true, eq_self, implies_true, Nat.le_eq, cond_tf, cond_cf, Int.toNat_natCast, Int.ofNat_eq_natCast, Nat.ble_eq, Nat.ble_self_eq_true, Bool.true_and, Bool.and_true, Bool.and_self, Option.some.injEq, AV.int.injEq, rowB_self, allBR_self, Nat.mul_one, Nat.beq_refl, allI_true, cond_true, cond_false, ieq_self, Bool.not_true, Bool.not_false, decide_true, brP_f, brP_t, sdA_t]
  obtain ⟨n1, n2⟩ := scanR_len l
  refine brP_of (fun _ => trivial) fun h5 => ?_
  rw [ilt_iffn] at h5
  refine sdA_of (decide_eq_true ⟨by omega, by omega⟩) ⟨by omega, by omega, ⟨0, Nat.zero_le _, rfl⟩, fun x hx => brP_of (fun h => ?_) fun h => ⟨⟨0, Nat.zero_le _, rfl⟩, fun x hx => brP_of (fun h => ?_) fun h => trivial⟩⟩
  · rw [ilt_iff] at h
    exact sdA_of (inB_iff.2 (by omega)) (sdA_of (inB_iff.2 (by omega)) (sdA_of (inR_i64.2 (by omega)) ⟨x + 1, by omega, by omega, by omega⟩))
  · rw [ilt_iff] at h
    exact sdA_of (inB_iff.2 (by omega)) (sdA_of (inB_iff.2 (by omega)) (sdA_of (inR_i64.2 (by omega)) ⟨x + 1, by omega, by omega, by omega⟩))
theorem run3 : ∀ (l : List UInt8), (cRun (cx3 l) 200).call 3 [.bv l] (mkH glT) 4 (ResM Tryd.prog false (.bool true)) :=
  Eq.mpr (by kernel_rfl) run3_r

theorem ok8 : EntOK Tryd.prog 8 eT := by
  refine ent_of2 (gl := glT) (ng := 4) glT_gl fun H args ct hct => ?_
  unfold eT at hct
  split at hct
  · cases hg : globB H with
    | true =>
      rw [hg] at hct
      injection hct with hct; subst hct
      exact ⟨globB_ok hg, _, _, rfl, fun hp => ⟨trivial, cxA tbF, 200, rfl, fol, tbF_ok, run8⟩⟩
    | false => rw [hg] at hct; cases hct
  · cases hct
theorem tbK_ok : TbOK Tryd.prog tbK := tb_cons ok8 tbF_ok
theorem ok3 : EntOK Tryd.prog 3 eL1 := by
  refine ent_of2 (gl := glT) (ng := 4) glT_gl fun H args ct hct => ?_
  unfold eL1 at hct
  split at hct
  · rename_i l
    cases hg : globB H with
    | true =>
      rw [hg] at hct
      injection hct with hct; subst hct
      exact ⟨globB_ok hg, _, _, rfl, fun hp => ⟨⟨rfl, trivial⟩, cx3 l, 200, rfl, fol, tbK_ok, run3 l⟩⟩
    | false => rw [hg] at hct; cases hct
  · cases hct

end Go.Proofs.Tk
