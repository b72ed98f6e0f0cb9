/- Laid by program out of its parts: TkH. -/
import Derived.Test.YtblcpogddmjonaaDoorTkG
set_option maxRecDepth 100000
set_option linter.unusedSimpArgs false
set_option linter.unusedVariables false
open Go Go.Ev
namespace Go.Proofs.Tk
noncomputable def tbE : Tbl := (29, e29) :: (21, e20) :: (22, e22) :: tbD
structure X9 where
  rest : List UInt8
  line : Int
  col : Int
  out : List Tok
  wrong : List Dg
/-- What is known at the head of the loop. -/
structure I9 (l : List UInt8) (x : X9) : Prop where
  le : x.rest.length ≤ l.length
  line1 : 1 ≤ x.line
  line2 : x.line + x.rest.length ≤ l.length + 1
  col1 : 1 ≤ x.col
  col2 : x.col + x.rest.length ≤ l.length + 1
  out : x.out.length + x.rest.length ≤ l.length
  wrong : x.wrong.length + x.rest.length ≤ l.length
  ans : (x.out ++ (scn x.rest x.line x.col).1, x.wrong ++ (scn x.rest x.line x.col).2) = scanR l
noncomputable def S9 (l : List UInt8) : Stn := {
  X := X9,
  T := fun _ n0 x => [(0, .bv x.rest), (2, .slg (n0 + 2) x.out.length 5), (3, .slg (n0 + 3) x.wrong.length 3), (4, wordM), (5, .ptr n0 0), (6, .ptr (n0 + 1) 0), (7, .fn (.func 25) [] [.ptr n0 0, .ptr (n0 + 1) 0])],
  H := fun _ n0 x => [(n0, .cells 3 .leaf (.per [.int .i64 x.line]) 1 false), (n0 + 1, .cells 3 .leaf (.per [.int .i64 x.col]) 1 false),
    (n0 + 2, .cells 31 .leaf (.rows 5 fun k => tokRow (x.out.getD k t0)) (x.out.length * 5) true), (n0 + 3, .cells 35 .leaf (.rows 3 fun k => dgRow (x.wrong.getD k d0)) (x.wrong.length * 3) true)],
  nx := fun _ n0 => n0 + 4,
  I := fun _ => I9 l,
  m := fun x => x.rest.length }
structure X14 where
  b : UInt8
  t : List UInt8
  line : Int
  col : Int
  out0 : List Tok
  wrong0 : List Dg
def X14.x9 (x : X14) : X9 := ⟨x.b :: x.t, x.line, x.col, x.out0, x.wrong0⟩
def X14.out (x : X14) : List Tok := x.out0 ++ (oneT x.b x.t x.line x.col).1
def X14.wrong (x : X14) : List Dg := x.wrong0 ++ (oneT x.b x.t x.line x.col).2
noncomputable def C14 (l : List UInt8) : Stn := {
  X := X14,
  T := fun _ n0 x => [(0, .bv (x.b :: x.t)), (2, .slg (n0 + 2) x.out.length 5), (3, .slg (n0 + 3) x.wrong.length 3), (4, wordM), (5, .ptr n0 0), (6, .ptr (n0 + 1) 0), (7, .fn (.func 25) [] [.ptr n0 0, .ptr (n0 + 1) 0]), (9, .int .i64 (nxT (x.b :: x.t)).2)],
  H := fun _ n0 x => [(n0, .cells 3 .leaf (.per [.int .i64 x.line]) 1 false), (n0 + 1, .cells 3 .leaf (.per [.int .i64 x.col]) 1 false),
    (n0 + 2, .cells 31 .leaf (.rows 5 fun k => tokRow (x.out.getD k t0)) (x.out.length * 5) true), (n0 + 3, .cells 35 .leaf (.rows 3 fun k => dgRow (x.wrong.getD k d0)) (x.wrong.length * 3) true)],
  nx := fun _ n0 => n0 + 4,
  I := fun s x => I9 l x.x9 ∧ s.T.get 0 = some (.bv (x.b :: x.t)),
  m := fun _ => 0 }
noncomputable def cx9 (l : List UInt8) : Ctx := { P := Tryd.prog, tb := tbE, lp := fun f r => cond (Nat.beq f 9) (cond (Nat.beq r 4) (some (S9 l)) none) none, cut := fun f r => cond (Nat.beq f 9) (cond (Nat.beq r 14) (some (C14 l)) none) none }
noncomputable def toksAV (l : List Tok) : AV := .vec 5 l.length fun k => tokRow (l.getD k t0)
noncomputable def dgsAV (l : List Dg) : AV := .vec 3 l.length fun k => dgRow (l.getD k d0)
noncomputable def scanAV (l : List UInt8) : AV := .tup [toksAV (scanR l).1, dgsAV (scanR l).2]
noncomputable def e9 : Tr AObj → List AV → Option Ct := fun H args => match args with
  | [.bv l] => cond (globB H) (some (.need (l.length ≤ 1000000) (.ret (scanAV l)))) none
  | _ => none

theorem tbE_ok : TbOK Tryd.prog tbE := tb_cons ok29 <| tb_cons ok21 <| tb_cons ok22 tbD_ok
theorem cond_tf (b : Bool) : (bif b then true else false) = b := by cases b <;> rfl
theorem cond_cf (b c : Bool) : (bif b then c else false) = (b && c) := by cases b <;> rfl
theorem vm_tok (σ : List (Nat × Nat)) (t : Tok) : vmL σ (tokRow t) (tokRow t) := ⟨⟨rfl, rfl⟩, rfl, ⟨rfl, rfl⟩, ⟨rfl, rfl⟩, ⟨rfl, rfl⟩, trivial⟩
theorem vm_dg (σ : List (Nat × Nat)) (t : Dg) : vmL σ (dgRow t) (dgRow t) := ⟨⟨rfl, rfl⟩, ⟨rfl, rfl⟩, ⟨rfl, rfl⟩, trivial⟩
theorem rows_app {α : Type} {row : α → List AV} {d : α} {σ : List (Nat × Nat)} (hv : ∀ t, vmL σ (row t) (row t)) {out : List α} {t : α} {g : Nat → List AV} (hg : g 0 = row t) {e n : Nat} (hn : n = out.length + 1) :
    AllI fun i => i * e < n * e → vmL σ (row ((out ++ [t]).getD i d)) (appF out.length (fun k => row (out.getD k d)) g i) := ⟨fun i hi => by
  have hi : i < n := Nat.lt_of_mul_lt_mul_right hi
  unfold appF
  by_cases h : i < out.length
  · rw [show Nat.blt i out.length = true by simpa [Nat.blt_eq] using h, cond_true, show (out ++ [t]).getD i d = out.getD i d by simp [List.getD_eq_getElem?_getD, List.getElem?_append_left h]]
    exact hv _
  · obtain rfl : i = out.length := by omega
    rw [show Nat.blt out.length out.length = false by exact Bool.eq_false_iff.2 fun hb => h (by simp [Nat.blt_eq] at hb), cond_false, Nat.sub_self, hg, show (out ++ [t]).getD out.length d = t by simp [List.getD_eq_getElem?_getD]]
    exact hv _⟩
theorem rows_same {α : Type} {row : α → List AV} {d : α} {σ : List (Nat × Nat)} (hv : ∀ t, vmL σ (row t) (row t)) {out out' : List α} (h : out = out') {e n : Nat} :
    AllI fun i => i * e < n → vmL σ (row (out.getD i d)) (row (out'.getD i d)) := ⟨fun i _ => by subst h; exact hv _⟩
theorem word_facts : ((∀ k : SKey, wHas k = wHas k) ∧ (∀ k : SKey, bar (wHas k) = bar (wHas k) ∧ True) ∧ ∀ k : SKey, wHas k = false → wVal k = AV.agg [AV.bool false]) :=
  ⟨fun _ => rfl, fun _ => ⟨rfl, trivial⟩, fun k hk => by cases k with
    | str l => rw [wHas_str] at hk; rw [wVal_str, bar_eq, hk]
    | int n => unfold wVal; rw [wHas_int, bar_eq]⟩

theorem good_tok (l : List Tok) (n : Nat) : goodR 5 n (fun k => tokRow (l.getD k t0)) = true := decide_eq_true fun _ _ => rfl
theorem good_dg (l : List Dg) (n : Nat) : goodR 3 n (fun k => dgRow (l.getD k d0)) = true := decide_eq_true fun _ _ => rfl
theorem out_of {b : UInt8} {t : List UInt8} {line col : Int} {out : List Tok} {wrong : List Dg} {a : List Tok} {c : List Dg} (h : oneT b t line col = (a, c)) :
    X14.out ⟨b, t, line, col, out, wrong⟩ = out ++ a ∧ X14.wrong ⟨b, t, line, col, out, wrong⟩ = wrong ++ c := by
  constructor
  · show out ++ (oneT b t line col).1 = _; rw [h]
  · show wrong ++ (oneT b t line col).2 = _; rw [h]
theorem oneT_len (b : UInt8) (t : List UInt8) (line col : Int) : (oneT b t line col).1.length ≤ 1 ∧ (oneT b t line col).2.length ≤ 1 := by
  unfold oneT
  dsimp only
  split
  · exact ⟨Nat.le_refl _, by dsimp only; split <;> simp⟩
  · exact ⟨Nat.zero_le _, by dsimp only; split <;> simp⟩
theorem I9.step {l : List UInt8} {b : UInt8} {t : List UInt8} {line col : Int} {out : List Tok} {wrong : List Dg} (h : I9 l ⟨b :: t, line, col, out, wrong⟩) :
    I9 l ⟨(b :: t).drop (nxT (b :: t)).2, if b = 10 then line + 1 else line, if b = 10 then 1 else col + (nxT (b :: t)).2, out ++ (oneT b t line col).1, wrong ++ (oneT b t line col).2⟩ := by
  obtain ⟨h1, h2, h3, h4, h5, h6, h7, h8⟩ := h
  obtain ⟨n1, n2⟩ := nxT_pos b t
  obtain ⟨o1, o2⟩ := oneT_len b t line col
  simp only [List.length_cons] at h1 h2 h3 h4 h5 h6 h7 n2
  have hl : ((b :: t).drop (nxT (b :: t)).2).length = t.length + 1 - (nxT (b :: t)).2 := by rw [List.length_drop, List.length_cons]
  refine ⟨?_, ?_, ?_, ?_, ?_, ?_, ?_, ?_⟩
  · simp only [hl]; omega
  · simp only; split <;> omega
  · simp only [hl]; split <;> omega
  · simp only; split <;> omega
  · simp only [hl]; split <;> omega
  · simp only [hl, List.length_append]; omega
  · simp only [hl, List.length_append]; omega
  · rw [← h8, scn_cons]
    simp only [List.append_assoc]

theorem run9_r : ∀ (l : List UInt8), Nat.le (List.length l) (1000000 : Nat) → True ∧ (∃ (x0 : X9), I9 l x0 ∧ true = true ∧ (l = X9.rest x0 ∧ List.length (X9.out x0) = (0 : Nat) ∧ List.length (X9.wrong x0) = (0 : Nat) ∧ ((∀ (k : SKey), wHas k = wHas k) ∧ (∀ (k : SKey), bar (wHas k) = bar (wHas k) ∧ True) ∧ ∀ (k : SKey), wHas k = false → wVal k = AV.agg [AV.bool false]) ∧ (some (6 : Nat) = some (6 : Nat) ∧ true = true) ∧ (some (7 : Nat) = some (7 : Nat) ∧ true = true) ∧ (true = true ∧ True ∧ (some (6 : Nat) = some (6 : Nat) ∧ true = true) ∧ (some (7 : Nat) = some (7 : Nat) ∧ true = true) ∧ True) ∧ True) ∧ (true = true ∧ true = true ∧ true = true ∧ true = true ∧ True ∧ true = true ∧ (1 : Int) = X9.line x0) ∧ (true = true ∧ true = true ∧ true = true ∧ true = true ∧ True ∧ true = true ∧ (1 : Int) = X9.col x0) ∧ (true = true ∧ True) ∧ (true = true ∧ True) ∧ True) ∧ ∀ (x : X9), I9 l x → brP (ilt (0 : Int) (Int.ofNat (List.length (X9.rest x)))) (((X9.rest x = [] → False) ∧ Nat.le (List.length (X9.rest x)) (1000000 : Nat)) ∧ brP (ilt (0 : Int) (barr (Prod.fst (nxT (X9.rest x))))) (sdA (bif inL (↑(barr (Prod.snd (nxT (X9.rest x)))) : Int) (List.length (X9.rest x)) then true else false) ((wHas = wHas ∧ wVal = wVal ∧ AV.agg [AV.bool false] = AV.agg [AV.bool false] ∧ Nat.le (List.length (List.take (Int.toNat (↑(barr (Prod.snd (nxT (X9.rest x)))) : Int)) (X9.rest x))) (1000000 : Nat)) ∧ (((True ∧ True ∧ True) ∧ True) ∧ ((True ∧ True ∧ True) ∧ True) ∧ ((AV.int IntKind.i64 (X9.col x) = AV.int IntKind.i64 (X9.col x) ∧ True ∧ True) ∧ True) ∧ True) ∧ sdA (bif bif Nat.ble (List.length (X9.out x) * (5 : Nat)) (List.length (X9.out x) * (5 : Nat)) then true else false then decide (List.length (X9.out x) + (1 : Nat) ≤ (9223372036854775807 : Nat) ∧ (List.length (X9.out x) + (1 : Nat)) * (48 : Nat) ≤ (140737488355328 : Nat)) else false) (brP (!ieq (barr (Prod.snd (Prod.snd (madeT (barr (Prod.fst (nxT (X9.rest x)))) (List.take (Int.toNat (↑(barr (Prod.snd (nxT (X9.rest x)))) : Int)) (X9.rest x)))))) (0 : Int)) (sdA (bif bif Nat.ble (List.length (X9.wrong x) * (3 : Nat)) (List.length (X9.wrong x) * (3 : Nat)) then true else false then decide (List.length (X9.wrong x) + (1 : Nat) ≤ (9223372036854775807 : Nat) ∧ (List.length (X9.wrong x) + (1 : Nat)) * (24 : Nat) ≤ (140737488355328 : Nat)) else false) (∃ (x_1 : X14), (I9 l (X14.x9 x_1) ∧ some (AV.bv (X9.rest x)) = some (AV.bv (X14.b x_1 :: X14.t x_1))) ∧ true = true ∧ (X9.rest x = X14.b x_1 :: X14.t x_1 ∧ (some (21 : Nat) = some (21 : Nat) ∧ List.length (X9.out x) + (1 : Nat) = List.length (X14.out x_1) ∧ true = true) ∧ (some (23 : Nat) = some (23 : Nat) ∧ List.length (X9.wrong x) + (1 : Nat) = List.length (X14.wrong x_1) ∧ true = true) ∧ ((∀ (k : SKey), wHas k = wHas k) ∧ (∀ (k : SKey), bar (wHas k) = bar (wHas k) ∧ True) ∧ ∀ (k : SKey), wHas k = false → wVal k = AV.agg [AV.bool false]) ∧ (some (4 : Nat) = some (4 : Nat) ∧ true = true) ∧ (some (5 : Nat) = some (5 : Nat) ∧ true = true) ∧ (true = true ∧ True ∧ (some (4 : Nat) = some (4 : Nat) ∧ true = true) ∧ (some (5 : Nat) = some (5 : Nat) ∧ true = true) ∧ True) ∧ (true = true ∧ (↑(barr (Prod.snd (nxT (X9.rest x)))) : Int) = (↑(Prod.snd (nxT (X14.b x_1 :: X14.t x_1))) : Int)) ∧ True) ∧ (true = true ∧ true = true ∧ true = true ∧ true = true ∧ True ∧ true = true ∧ X9.line x = X14.line x_1) ∧ (true = true ∧ true = true ∧ true = true ∧ true = true ∧ True ∧ true = true ∧ X9.col x = X14.col x_1) ∧ (true = true ∧ true = true ∧ true = true ∧ true = true ∧ (List.length (X9.out x) + (1 : Nat)) * (5 : Nat) = List.length (X14.out x_1) * (5 : Nat) ∧ AllI fun (i : Nat) => i * (5 : Nat) < (List.length (X9.out x) + (1 : Nat)) * (5 : Nat) → vmL [((5 : Nat), (5 : Nat)), ((4 : Nat), (4 : Nat)), ((7 : Nat), (23 : Nat)), ((6 : Nat), (21 : Nat)), ((0 : Nat), (0 : Nat)), ((1 : Nat), (1 : Nat)), ((2 : Nat), (2 : Nat)), ((3 : Nat), (3 : Nat))] (tokRow (List.getD (X14.out x_1) i t0)) (appF (List.length (X9.out x)) (fun (k : Nat) => tokRow (List.getD (X9.out x) k t0)) (fun (x_2 : Nat) => [AV.int IntKind.i64 (barr (Prod.fst (madeT (barr (Prod.fst (nxT (X9.rest x)))) (List.take (Int.toNat (↑(barr (Prod.snd (nxT (X9.rest x)))) : Int)) (X9.rest x))))), AV.bs (List.take (Int.toNat (↑(barr (Prod.snd (nxT (X9.rest x)))) : Int)) (X9.rest x)), AV.int IntKind.i64 (barr (Prod.fst (Prod.snd (madeT (barr (Prod.fst (nxT (X9.rest x)))) (List.take (Int.toNat (↑(barr (Prod.snd (nxT (X9.rest x)))) : Int)) (X9.rest x)))))), AV.int IntKind.i64 (X9.line x), AV.int IntKind.i64 (X9.col x)]) i)) ∧ (true = true ∧ true = true ∧ true = true ∧ true = true ∧ (List.length (X9.wrong x) + (1 : Nat)) * (3 : Nat) = List.length (X14.wrong x_1) * (3 : Nat) ∧ AllI fun (i : Nat) => i * (3 : Nat) < (List.length (X9.wrong x) + (1 : Nat)) * (3 : Nat) → vmL [((5 : Nat), (5 : Nat)), ((4 : Nat), (4 : Nat)), ((7 : Nat), (23 : Nat)), ((6 : Nat), (21 : Nat)), ((0 : Nat), (0 : Nat)), ((1 : Nat), (1 : Nat)), ((2 : Nat), (2 : Nat)), ((3 : Nat), (3 : Nat))] (dgRow (List.getD (X14.wrong x_1) i d0)) (appF (List.length (X9.wrong x)) (fun (k : Nat) => dgRow (List.getD (X9.wrong x) k d0)) (fun (x_2 : Nat) => [AV.int IntKind.i64 (X9.line x), AV.int IntKind.i64 (X9.col x), AV.int IntKind.i64 (barr (Prod.snd (Prod.snd (madeT (barr (Prod.fst (nxT (X9.rest x)))) (List.take (Int.toNat (↑(barr (Prod.snd (nxT (X9.rest x)))) : Int)) (X9.rest x))))))]) i)) ∧ True)) (∃ (x_1 : X14), (I9 l (X14.x9 x_1) ∧ some (AV.bv (X9.rest x)) = some (AV.bv (X14.b x_1 :: X14.t x_1))) ∧ true = true ∧ (X9.rest x = X14.b x_1 :: X14.t x_1 ∧ (some (21 : Nat) = some (21 : Nat) ∧ List.length (X9.out x) + (1 : Nat) = List.length (X14.out x_1) ∧ true = true) ∧ (some (7 : Nat) = some (7 : Nat) ∧ List.length (X9.wrong x) = List.length (X14.wrong x_1) ∧ true = true) ∧ ((∀ (k : SKey), wHas k = wHas k) ∧ (∀ (k : SKey), bar (wHas k) = bar (wHas k) ∧ True) ∧ ∀ (k : SKey), wHas k = false → wVal k = AV.agg [AV.bool false]) ∧ (some (4 : Nat) = some (4 : Nat) ∧ true = true) ∧ (some (5 : Nat) = some (5 : Nat) ∧ true = true) ∧ (true = true ∧ True ∧ (some (4 : Nat) = some (4 : Nat) ∧ true = true) ∧ (some (5 : Nat) = some (5 : Nat) ∧ true = true) ∧ True) ∧ (true = true ∧ (↑(barr (Prod.snd (nxT (X9.rest x)))) : Int) = (↑(Prod.snd (nxT (X14.b x_1 :: X14.t x_1))) : Int)) ∧ True) ∧ (true = true ∧ true = true ∧ true = true ∧ true = true ∧ True ∧ true = true ∧ X9.line x = X14.line x_1) ∧ (true = true ∧ true = true ∧ true = true ∧ true = true ∧ True ∧ true = true ∧ X9.col x = X14.col x_1) ∧ (true = true ∧ true = true ∧ true = true ∧ true = true ∧ (List.length (X9.out x) + (1 : Nat)) * (5 : Nat) = List.length (X14.out x_1) * (5 : Nat) ∧ AllI fun (i : Nat) => i * (5 : Nat) < (List.length (X9.out x) + (1 : Nat)) * (5 : Nat) → vmL [((5 : Nat), (5 : Nat)), ((4 : Nat), (4 : Nat)), ((7 : Nat), (7 : Nat)), ((6 : Nat), (21 : Nat)), ((0 : Nat), (0 : Nat)), ((1 : Nat), (1 : Nat)), ((2 : Nat), (2 : Nat)), ((3 : Nat), (3 : Nat))] (tokRow (List.getD (X14.out x_1) i t0)) (appF (List.length (X9.out x)) (fun (k : Nat) => tokRow (List.getD (X9.out x) k t0)) (fun (x_2 : Nat) => [AV.int IntKind.i64 (barr (Prod.fst (madeT (barr (Prod.fst (nxT (X9.rest x)))) (List.take (Int.toNat (↑(barr (Prod.snd (nxT (X9.rest x)))) : Int)) (X9.rest x))))), AV.bs (List.take (Int.toNat (↑(barr (Prod.snd (nxT (X9.rest x)))) : Int)) (X9.rest x)), AV.int IntKind.i64 (barr (Prod.fst (Prod.snd (madeT (barr (Prod.fst (nxT (X9.rest x)))) (List.take (Int.toNat (↑(barr (Prod.snd (nxT (X9.rest x)))) : Int)) (X9.rest x)))))), AV.int IntKind.i64 (X9.line x), AV.int IntKind.i64 (X9.col x)]) i)) ∧ (true = true ∧ true = true ∧ true = true ∧ true = true ∧ List.length (X9.wrong x) * (3 : Nat) = List.length (X14.wrong x_1) * (3 : Nat) ∧ AllI fun (i : Nat) => i * (3 : Nat) < List.length (X9.wrong x) * (3 : Nat) → vmL [((5 : Nat), (5 : Nat)), ((4 : Nat), (4 : Nat)), ((7 : Nat), (7 : Nat)), ((6 : Nat), (21 : Nat)), ((0 : Nat), (0 : Nat)), ((1 : Nat), (1 : Nat)), ((2 : Nat), (2 : Nat)), ((3 : Nat), (3 : Nat))] (dgRow (List.getD (X14.wrong x_1) i d0)) (dgRow (List.getD (X9.wrong x) i d0))) ∧ True)))) (sdA (inB (0 : Int) (List.length (X9.rest x))) (True ∧ brP (!bar (blankI (↑(UInt8.toNat (List.getD (X9.rest x) (0 : Nat) (0 : UInt8))) : Int))) (sdA (bif bif Nat.ble (List.length (X9.wrong x) * (3 : Nat)) (List.length (X9.wrong x) * (3 : Nat)) then true else false then decide (List.length (X9.wrong x) + (1 : Nat) ≤ (9223372036854775807 : Nat) ∧ (List.length (X9.wrong x) + (1 : Nat)) * (24 : Nat) ≤ (140737488355328 : Nat)) else false) (∃ (x_1 : X14), (I9 l (X14.x9 x_1) ∧ some (AV.bv (X9.rest x)) = some (AV.bv (X14.b x_1 :: X14.t x_1))) ∧ true = true ∧ (X9.rest x = X14.b x_1 :: X14.t x_1 ∧ (some (6 : Nat) = some (6 : Nat) ∧ List.length (X9.out x) = List.length (X14.out x_1) ∧ true = true) ∧ (some (13 : Nat) = some (13 : Nat) ∧ List.length (X9.wrong x) + (1 : Nat) = List.length (X14.wrong x_1) ∧ true = true) ∧ ((∀ (k : SKey), wHas k = wHas k) ∧ (∀ (k : SKey), bar (wHas k) = bar (wHas k) ∧ True) ∧ ∀ (k : SKey), wHas k = false → wVal k = AV.agg [AV.bool false]) ∧ (some (4 : Nat) = some (4 : Nat) ∧ true = true) ∧ (some (5 : Nat) = some (5 : Nat) ∧ true = true) ∧ (true = true ∧ True ∧ (some (4 : Nat) = some (4 : Nat) ∧ true = true) ∧ (some (5 : Nat) = some (5 : Nat) ∧ true = true) ∧ True) ∧ (true = true ∧ (↑(barr (Prod.snd (nxT (X9.rest x)))) : Int) = (↑(Prod.snd (nxT (X14.b x_1 :: X14.t x_1))) : Int)) ∧ True) ∧ (true = true ∧ true = true ∧ true = true ∧ true = true ∧ True ∧ true = true ∧ X9.line x = X14.line x_1) ∧ (true = true ∧ true = true ∧ true = true ∧ true = true ∧ True ∧ true = true ∧ X9.col x = X14.col x_1) ∧ (true = true ∧ true = true ∧ true = true ∧ true = true ∧ List.length (X9.out x) * (5 : Nat) = List.length (X14.out x_1) * (5 : Nat) ∧ AllI fun (i : Nat) => i * (5 : Nat) < List.length (X9.out x) * (5 : Nat) → vmL [((5 : Nat), (5 : Nat)), ((4 : Nat), (4 : Nat)), ((7 : Nat), (13 : Nat)), ((6 : Nat), (6 : Nat)), ((0 : Nat), (0 : Nat)), ((1 : Nat), (1 : Nat)), ((2 : Nat), (2 : Nat)), ((3 : Nat), (3 : Nat))] (tokRow (List.getD (X14.out x_1) i t0)) (tokRow (List.getD (X9.out x) i t0))) ∧ (true = true ∧ true = true ∧ true = true ∧ true = true ∧ (List.length (X9.wrong x) + (1 : Nat)) * (3 : Nat) = List.length (X14.wrong x_1) * (3 : Nat) ∧ AllI fun (i : Nat) => i * (3 : Nat) < (List.length (X9.wrong x) + (1 : Nat)) * (3 : Nat) → vmL [((5 : Nat), (5 : Nat)), ((4 : Nat), (4 : Nat)), ((7 : Nat), (13 : Nat)), ((6 : Nat), (6 : Nat)), ((0 : Nat), (0 : Nat)), ((1 : Nat), (1 : Nat)), ((2 : Nat), (2 : Nat)), ((3 : Nat), (3 : Nat))] (dgRow (List.getD (X14.wrong x_1) i d0)) (appF (List.length (X9.wrong x)) (fun (k : Nat) => dgRow (List.getD (X9.wrong x) k d0)) (fun (x_2 : Nat) => [AV.int IntKind.i64 (X9.line x), AV.int IntKind.i64 (X9.col x), AV.int IntKind.i64 (3 : Int)]) i)) ∧ True)) (∃ (x_1 : X14), (I9 l (X14.x9 x_1) ∧ some (AV.bv (X9.rest x)) = some (AV.bv (X14.b x_1 :: X14.t x_1))) ∧ true = true ∧ (X9.rest x = X14.b x_1 :: X14.t x_1 ∧ (some (6 : Nat) = some (6 : Nat) ∧ List.length (X9.out x) = List.length (X14.out x_1) ∧ true = true) ∧ (some (7 : Nat) = some (7 : Nat) ∧ List.length (X9.wrong x) = List.length (X14.wrong x_1) ∧ true = true) ∧ ((∀ (k : SKey), wHas k = wHas k) ∧ (∀ (k : SKey), bar (wHas k) = bar (wHas k) ∧ True) ∧ ∀ (k : SKey), wHas k = false → wVal k = AV.agg [AV.bool false]) ∧ (some (4 : Nat) = some (4 : Nat) ∧ true = true) ∧ (some (5 : Nat) = some (5 : Nat) ∧ true = true) ∧ (true = true ∧ True ∧ (some (4 : Nat) = some (4 : Nat) ∧ true = true) ∧ (some (5 : Nat) = some (5 : Nat) ∧ true = true) ∧ True) ∧ (true = true ∧ (↑(barr (Prod.snd (nxT (X9.rest x)))) : Int) = (↑(Prod.snd (nxT (X14.b x_1 :: X14.t x_1))) : Int)) ∧ True) ∧ (true = true ∧ true = true ∧ true = true ∧ true = true ∧ True ∧ true = true ∧ X9.line x = X14.line x_1) ∧ (true = true ∧ true = true ∧ true = true ∧ true = true ∧ True ∧ true = true ∧ X9.col x = X14.col x_1) ∧ (true = true ∧ true = true ∧ true = true ∧ true = true ∧ List.length (X9.out x) * (5 : Nat) = List.length (X14.out x_1) * (5 : Nat) ∧ AllI fun (i : Nat) => i * (5 : Nat) < List.length (X9.out x) * (5 : Nat) → vmL [((5 : Nat), (5 : Nat)), ((4 : Nat), (4 : Nat)), ((7 : Nat), (7 : Nat)), ((6 : Nat), (6 : Nat)), ((0 : Nat), (0 : Nat)), ((1 : Nat), (1 : Nat)), ((2 : Nat), (2 : Nat)), ((3 : Nat), (3 : Nat))] (tokRow (List.getD (X14.out x_1) i t0)) (tokRow (List.getD (X9.out x) i t0))) ∧ (true = true ∧ true = true ∧ true = true ∧ true = true ∧ List.length (X9.wrong x) * (3 : Nat) = List.length (X14.wrong x_1) * (3 : Nat) ∧ AllI fun (i : Nat) => i * (3 : Nat) < List.length (X9.wrong x) * (3 : Nat) → vmL [((5 : Nat), (5 : Nat)), ((4 : Nat), (4 : Nat)), ((7 : Nat), (7 : Nat)), ((6 : Nat), (6 : Nat)), ((0 : Nat), (0 : Nat)), ((1 : Nat), (1 : Nat)), ((2 : Nat), (2 : Nat)), ((3 : Nat), (3 : Nat))] (dgRow (List.getD (X14.wrong x_1) i d0)) (dgRow (List.getD (X9.wrong x) i d0))) ∧ True))) ∧ ∀ (x_1 : X14), I9 l (X14.x9 x_1) ∧ some (AV.bv (X9.rest x)) = some (AV.bv (X14.b x_1 :: X14.t x_1)) → sdA (bif inL (↑(Prod.snd (nxT (X14.b x_1 :: X14.t x_1))) : Int) (List.length (X14.b x_1 :: X14.t x_1)) then true else false) (True ∧ brP (ilt (0 : Int) (↑(Lib.countByte (List.take (Int.toNat (↑(Prod.snd (nxT (X14.b x_1 :: X14.t x_1))) : Int)) (X14.b x_1 :: X14.t x_1)) (UInt8.ofNat (10 : Nat))) : Int)) (sdA (inR IntKind.i64 (X14.line x_1 + (↑(Lib.countByte (List.take (Int.toNat (↑(Prod.snd (nxT (X14.b x_1 :: X14.t x_1))) : Int)) (X14.b x_1 :: X14.t x_1)) (UInt8.ofNat (10 : Nat))) : Int))) (Nat.le (List.length (List.take (Int.toNat (↑(Prod.snd (nxT (X14.b x_1 :: X14.t x_1))) : Int)) (X14.b x_1 :: X14.t x_1))) (1000000 : Nat) ∧ sdA (inR IntKind.i64 (lastI (List.take (Int.toNat (↑(Prod.snd (nxT (X14.b x_1 :: X14.t x_1))) : Int)) (X14.b x_1 :: X14.t x_1)) (10 : Int) (List.length (List.take (Int.toNat (↑(Prod.snd (nxT (X14.b x_1 :: X14.t x_1))) : Int)) (X14.b x_1 :: X14.t x_1))) + (1 : Int))) (sdA (inL (lastI (List.take (Int.toNat (↑(Prod.snd (nxT (X14.b x_1 :: X14.t x_1))) : Int)) (X14.b x_1 :: X14.t x_1)) (10 : Int) (List.length (List.take (Int.toNat (↑(Prod.snd (nxT (X14.b x_1 :: X14.t x_1))) : Int)) (X14.b x_1 :: X14.t x_1))) + (1 : Int)) (List.length (List.take (Int.toNat (↑(Prod.snd (nxT (X14.b x_1 :: X14.t x_1))) : Int)) (X14.b x_1 :: X14.t x_1)))) (sdA (inR IntKind.i64 ((1 : Int) + Int.ofNat (List.length (List.drop (Int.toNat (lastI (List.take (Int.toNat (↑(Prod.snd (nxT (X14.b x_1 :: X14.t x_1))) : Int)) (X14.b x_1 :: X14.t x_1)) (10 : Int) (List.length (List.take (Int.toNat (↑(Prod.snd (nxT (X14.b x_1 :: X14.t x_1))) : Int)) (X14.b x_1 :: X14.t x_1))) + (1 : Int))) (List.take (Int.toNat (↑(Prod.snd (nxT (X14.b x_1 :: X14.t x_1))) : Int)) (X14.b x_1 :: X14.t x_1)))))) (sdA (inL (↑(Prod.snd (nxT (X14.b x_1 :: X14.t x_1))) : Int) (List.length (X14.b x_1 :: X14.t x_1))) (∃ (x' : X9), I9 l x' ∧ Nat.le (Nat.succ (List.length (X9.rest x'))) (List.length (X9.rest x)) ∧ true = true ∧ (List.drop (Int.toNat (↑(Prod.snd (nxT (X14.b x_1 :: X14.t x_1))) : Int)) (X14.b x_1 :: X14.t x_1) = X9.rest x' ∧ (some (6 : Nat) = some (6 : Nat) ∧ List.length (X14.out x_1) = List.length (X9.out x') ∧ true = true) ∧ (some (7 : Nat) = some (7 : Nat) ∧ List.length (X14.wrong x_1) = List.length (X9.wrong x') ∧ true = true) ∧ ((∀ (k : SKey), wHas k = wHas k) ∧ (∀ (k : SKey), bar (wHas k) = bar (wHas k) ∧ True) ∧ ∀ (k : SKey), wHas k = false → wVal k = AV.agg [AV.bool false]) ∧ (some (4 : Nat) = some (4 : Nat) ∧ true = true) ∧ (some (5 : Nat) = some (5 : Nat) ∧ true = true) ∧ (true = true ∧ True ∧ (some (4 : Nat) = some (4 : Nat) ∧ true = true) ∧ (some (5 : Nat) = some (5 : Nat) ∧ true = true) ∧ True) ∧ True) ∧ (true = true ∧ true = true ∧ true = true ∧ true = true ∧ True ∧ true = true ∧ X14.line x_1 + (↑(Lib.countByte (List.take (Int.toNat (↑(Prod.snd (nxT (X14.b x_1 :: X14.t x_1))) : Int)) (X14.b x_1 :: X14.t x_1)) (UInt8.ofNat (10 : Nat))) : Int) = X9.line x') ∧ (true = true ∧ true = true ∧ true = true ∧ true = true ∧ True ∧ true = true ∧ (1 : Int) + Int.ofNat (List.length (List.drop (Int.toNat (lastI (List.take (Int.toNat (↑(Prod.snd (nxT (X14.b x_1 :: X14.t x_1))) : Int)) (X14.b x_1 :: X14.t x_1)) (10 : Int) (List.length (List.take (Int.toNat (↑(Prod.snd (nxT (X14.b x_1 :: X14.t x_1))) : Int)) (X14.b x_1 :: X14.t x_1))) + (1 : Int))) (List.take (Int.toNat (↑(Prod.snd (nxT (X14.b x_1 :: X14.t x_1))) : Int)) (X14.b x_1 :: X14.t x_1)))) = X9.col x') ∧ (true = true ∧ true = true ∧ true = true ∧ true = true ∧ List.length (X14.out x_1) * (5 : Nat) = List.length (X9.out x') * (5 : Nat) ∧ AllI fun (i : Nat) => i * (5 : Nat) < List.length (X14.out x_1) * (5 : Nat) → vmL [((5 : Nat), (5 : Nat)), ((4 : Nat), (4 : Nat)), ((7 : Nat), (7 : Nat)), ((6 : Nat), (6 : Nat)), ((0 : Nat), (0 : Nat)), ((1 : Nat), (1 : Nat)), ((2 : Nat), (2 : Nat)), ((3 : Nat), (3 : Nat))] (tokRow (List.getD (X9.out x') i t0)) (tokRow (List.getD (X14.out x_1) i t0))) ∧ (true = true ∧ true = true ∧ true = true ∧ true = true ∧ List.length (X14.wrong x_1) * (3 : Nat) = List.length (X9.wrong x') * (3 : Nat) ∧ AllI fun (i : Nat) => i * (3 : Nat) < List.length (X14.wrong x_1) * (3 : Nat) → vmL [((5 : Nat), (5 : Nat)), ((4 : Nat), (4 : Nat)), ((7 : Nat), (7 : Nat)), ((6 : Nat), (6 : Nat)), ((0 : Nat), (0 : Nat)), ((1 : Nat), (1 : Nat)), ((2 : Nat), (2 : Nat)), ((3 : Nat), (3 : Nat))] (dgRow (List.getD (X9.wrong x') i d0)) (dgRow (List.getD (X14.wrong x_1) i d0))) ∧ True)))))) (sdA (inR IntKind.i64 (X14.col x_1 + Int.ofNat (List.length (List.take (Int.toNat (↑(Prod.snd (nxT (X14.b x_1 :: X14.t x_1))) : Int)) (X14.b x_1 :: X14.t x_1))))) (sdA (inL (↑(Prod.snd (nxT (X14.b x_1 :: X14.t x_1))) : Int) (List.length (X14.b x_1 :: X14.t x_1))) (∃ (x' : X9), I9 l x' ∧ Nat.le (Nat.succ (List.length (X9.rest x'))) (List.length (X9.rest x)) ∧ true = true ∧ (List.drop (Int.toNat (↑(Prod.snd (nxT (X14.b x_1 :: X14.t x_1))) : Int)) (X14.b x_1 :: X14.t x_1) = X9.rest x' ∧ (some (6 : Nat) = some (6 : Nat) ∧ List.length (X14.out x_1) = List.length (X9.out x') ∧ true = true) ∧ (some (7 : Nat) = some (7 : Nat) ∧ List.length (X14.wrong x_1) = List.length (X9.wrong x') ∧ true = true) ∧ ((∀ (k : SKey), wHas k = wHas k) ∧ (∀ (k : SKey), bar (wHas k) = bar (wHas k) ∧ True) ∧ ∀ (k : SKey), wHas k = false → wVal k = AV.agg [AV.bool false]) ∧ (some (4 : Nat) = some (4 : Nat) ∧ true = true) ∧ (some (5 : Nat) = some (5 : Nat) ∧ true = true) ∧ (true = true ∧ True ∧ (some (4 : Nat) = some (4 : Nat) ∧ true = true) ∧ (some (5 : Nat) = some (5 : Nat) ∧ true = true) ∧ True) ∧ True) ∧ (true = true ∧ true = true ∧ true = true ∧ true = true ∧ True ∧ true = true ∧ X14.line x_1 = X9.line x') ∧ (true = true ∧ true = true ∧ true = true ∧ true = true ∧ True ∧ true = true ∧ X14.col x_1 + Int.ofNat (List.length (List.take (Int.toNat (↑(Prod.snd (nxT (X14.b x_1 :: X14.t x_1))) : Int)) (X14.b x_1 :: X14.t x_1))) = X9.col x') ∧ (true = true ∧ true = true ∧ true = true ∧ true = true ∧ List.length (X14.out x_1) * (5 : Nat) = List.length (X9.out x') * (5 : Nat) ∧ AllI fun (i : Nat) => i * (5 : Nat) < List.length (X14.out x_1) * (5 : Nat) → vmL [((5 : Nat), (5 : Nat)), ((4 : Nat), (4 : Nat)), ((7 : Nat), (7 : Nat)), ((6 : Nat), (6 : Nat)), ((0 : Nat), (0 : Nat)), ((1 : Nat), (1 : Nat)), ((2 : Nat), (2 : Nat)), ((3 : Nat), (3 : Nat))] (tokRow (List.getD (X9.out x') i t0)) (tokRow (List.getD (X14.out x_1) i t0))) ∧ (true = true ∧ true = true ∧ true = true ∧ true = true ∧ List.length (X14.wrong x_1) * (3 : Nat) = List.length (X9.wrong x') * (3 : Nat) ∧ AllI fun (i : Nat) => i * (3 : Nat) < List.length (X14.wrong x_1) * (3 : Nat) → vmL [((5 : Nat), (5 : Nat)), ((4 : Nat), (4 : Nat)), ((7 : Nat), (7 : Nat)), ((6 : Nat), (6 : Nat)), ((0 : Nat), (0 : Nat)), ((1 : Nat), (1 : Nat)), ((2 : Nat), (2 : Nat)), ((3 : Nat), (3 : Nat))] (dgRow (List.getD (X9.wrong x') i d0)) (dgRow (List.getD (X14.wrong x_1) i d0))) ∧ True))))) (sdA (bif bif Nat.ble (List.length (X9.out x) * (5 : Nat)) (List.length (X9.out x) * (5 : Nat)) then goodR (5 : Nat) (List.length (X9.out x)) fun (k : Nat) => tokRow (List.getD (X9.out x) k t0) else false then bif bif Nat.ble (List.length (X9.wrong x) * (3 : Nat)) (List.length (X9.wrong x) * (3 : Nat)) then goodR (3 : Nat) (List.length (X9.wrong x)) fun (k : Nat) => dgRow (List.getD (X9.wrong x) k d0) else false then true else false else false) ((true = true ∧ List.length (X9.out x) = List.length (Prod.fst (scanR l)) ∧ AllI fun (i : Nat) => i < List.length (X9.out x) → (true = true ∧ Tok.kind (List.getD (X9.out x) i t0) = Tok.kind (List.getD (Prod.fst (scanR l)) i t0)) ∧ Tok.text (List.getD (X9.out x) i t0) = Tok.text (List.getD (Prod.fst (scanR l)) i t0) ∧ (true = true ∧ Tok.num (List.getD (X9.out x) i t0) = Tok.num (List.getD (Prod.fst (scanR l)) i t0)) ∧ (true = true ∧ Tok.line (List.getD (X9.out x) i t0) = Tok.line (List.getD (Prod.fst (scanR l)) i t0)) ∧ (true = true ∧ Tok.col (List.getD (X9.out x) i t0) = Tok.col (List.getD (Prod.fst (scanR l)) i t0)) ∧ True) ∧ (true = true ∧ List.length (X9.wrong x) = List.length (Prod.snd (scanR l)) ∧ AllI fun (i : Nat) => i < List.length (X9.wrong x) → (true = true ∧ Dg.line (List.getD (X9.wrong x) i d0) = Dg.line (List.getD (Prod.snd (scanR l)) i d0)) ∧ (true = true ∧ Dg.col (List.getD (X9.wrong x) i d0) = Dg.col (List.getD (Prod.snd (scanR l)) i d0)) ∧ (true = true ∧ Dg.err (List.getD (X9.wrong x) i d0) = Dg.err (List.getD (Prod.snd (scanR l)) i d0)) ∧ True) ∧ True))
:= by
  intro l hl
  simp only [barr_eq, bar_eq, true_and, and_true, eq_self, implies_true, Nat.le_eq, cond_tf, cond_cf, Int.toNat_natCast, Int.ofNat_eq_natCast, Nat.ble_eq, Nat.ble_self_eq_true, Bool.true_and] at hl ⊢
  have word := word_facts.2.2
  refine ⟨⟨⟨l, 1, 1, [], []⟩, ⟨Nat.le_refl _, Int.le_refl 1, by simp only; omega, Int.le_refl 1, by simp only; omega, by simp, by simp, rfl⟩, ⟨rfl, rfl, rfl, word⟩, rfl, rfl⟩, fun x hx => ?_⟩
  obtain ⟨rest, line, col, out, wrong⟩ := x
  have hI := hx
  obtain ⟨h1, h2, h3, h4, h5, h6, h7, h8⟩ := hx
  simp only at h1 h2 h3 h4 h5 h6 h7 h8 ⊢
  refine brP_of (fun hr => ?_) fun hr => ?_
  · cases rest with
    | nil => rw [ilt_iff] at hr; simp at hr
    | cons b t =>
      obtain ⟨n1, n2⟩ := nxT_pos b t
      have hin : (inL ((nxT (b :: t)).2 : Int) (b :: t).length && true) = true := by rw [Bool.and_true]; exact inL_iff.2 (by omega)
      have hin' : inL ((nxT (b :: t)).2 : Int) (b :: t).length = true := inL_iff.2 (by omega)
      have htl : (List.take (nxT (b :: t)).2 (b :: t)).length = (nxT (b :: t)).2 := by rw [List.length_take]; omega
      have ha : ∀ (n k : Nat), n ≤ 1000000 → k ≤ 48 → decide (n + 1 ≤ 9223372036854775807 ∧ (n + 1) * k ≤ 140737488355328) = true := fun n k hn hk => decide_eq_true ⟨by omega, by
        have := Nat.mul_le_mul_left (n + 1) hk
        omega⟩
      refine ⟨⟨fun h => (by cases h), by omega⟩, brP_of (fun hk => ?_) fun hk => ?_, fun y hy => ?_⟩
      · rw [ilt_iff] at hk
        refine sdA_of hin ⟨by omega, sdA_of (ha _ _ (by omega) (by decide)) (brP_of (fun he => ?_) fun he => ?_)⟩
        · have he : ¬ (madeT (nxT (b :: t)).1 (List.take (nxT (b :: t)).2 (b :: t))).2.2 = 0 := by rw [ieq_eq] at he; simpa using he
          have ho : oneT b t line col = ([⟨(madeT (nxT (b :: t)).1 (List.take (nxT (b :: t)).2 (b :: t))).1, List.take (nxT (b :: t)).2 (b :: t), (madeT (nxT (b :: t)).1 (List.take (nxT (b :: t)).2 (b :: t))).2.1, line, col⟩], [⟨line, col, (madeT (nxT (b :: t)).1 (List.take (nxT (b :: t)).2 (b :: t))).2.2⟩]) := by
            unfold oneT
            dsimp only
            rw [if_pos hk, if_neg he]
          obtain ⟨e1, e2⟩ := out_of (out := out) (wrong := wrong) ho
          (try rw [List.append_nil] at e1)
          (try rw [List.append_nil] at e2)
          refine sdA_of (ha _ _ (by omega) (by decide)) ⟨⟨b, t, line, col, out, wrong⟩, ⟨hI, rfl⟩, ⟨rfl, ?_, ?_, word, rfl⟩, rfl, rfl, ⟨?_, ?_⟩, ?_, ?_⟩
          · rw [e1]; simp
          · rw [e2]; simp
          · rw [e1]; simp
          · rw [e1]; exact rows_app (vm_tok _) rfl rfl
          · rw [e2]; simp
          · rw [e2]; exact rows_app (vm_dg _) rfl rfl
        · have he : (madeT (nxT (b :: t)).1 (List.take (nxT (b :: t)).2 (b :: t))).2.2 = 0 := by rw [ieq_eq] at he; simpa using he
          have ho : oneT b t line col = ([⟨(madeT (nxT (b :: t)).1 (List.take (nxT (b :: t)).2 (b :: t))).1, List.take (nxT (b :: t)).2 (b :: t), (madeT (nxT (b :: t)).1 (List.take (nxT (b :: t)).2 (b :: t))).2.1, line, col⟩], []) := by
            unfold oneT
            dsimp only
            rw [if_pos hk, if_pos he]
          obtain ⟨e1, e2⟩ := out_of (out := out) (wrong := wrong) ho
          (try rw [List.append_nil] at e1)
          (try rw [List.append_nil] at e2)
          refine ⟨⟨b, t, line, col, out, wrong⟩, ⟨hI, rfl⟩, ⟨rfl, ?_, ?_, word, rfl⟩, rfl, rfl, ⟨?_, ?_⟩, ?_, ?_⟩
          · rw [e1]; simp
          · rw [e2]
          · rw [e1]; simp
          · rw [e1]; exact rows_app (vm_tok _) rfl rfl
          · rw [e2]
          · rw [e2]; exact rows_same (vm_dg _) rfl
      · rw [ilt_iffn] at hk
        refine sdA_of (inB_iff.2 (by simp)) (brP_of (fun he => ?_) fun he => ?_)
        · have ho : oneT b t line col = ([], [⟨line, col, 3⟩]) := by
            unfold oneT
            dsimp only
            rw [if_neg (by omega), if_neg (by simpa using he)]
          obtain ⟨e1, e2⟩ := out_of (out := out) (wrong := wrong) ho
          (try rw [List.append_nil] at e1)
          (try rw [List.append_nil] at e2)
          refine sdA_of (ha _ _ (by omega) (by decide)) ⟨⟨b, t, line, col, out, wrong⟩, ⟨hI, rfl⟩, ⟨rfl, ?_, ?_, word, rfl⟩, rfl, rfl, ⟨?_, ?_⟩, ?_, ?_⟩
          · rw [e1]
          · rw [e2]; simp
          · rw [e1]
          · rw [e1]; exact rows_same (vm_tok _) rfl
          · rw [e2]; simp
          · rw [e2]; exact rows_app (vm_dg _) rfl rfl
        · have ho : oneT b t line col = ([], []) := by
            unfold oneT
            dsimp only
            rw [if_neg (by omega), if_pos (by simpa using he)]
          obtain ⟨e1, e2⟩ := out_of (out := out) (wrong := wrong) ho
          (try rw [List.append_nil] at e1)
          (try rw [List.append_nil] at e2)
          refine ⟨⟨b, t, line, col, out, wrong⟩, ⟨hI, rfl⟩, ⟨rfl, ?_, ?_, word, rfl⟩, rfl, rfl, ⟨?_, ?_⟩, ?_, ?_⟩
          · rw [e1]
          · rw [e2]
          · rw [e1]
          · rw [e1]; exact rows_same (vm_tok _) rfl
          · rw [e2]
          · rw [e2]; exact rows_same (vm_dg _) rfl
      · obtain ⟨b', t', line', col', out', wrong'⟩ := y
        obtain ⟨hI', he⟩ := hy
        injection he with he
        injection he with he
        injection he with he1 he2
        subst he1; subst he2
        have hst := I9.step hI'
        obtain ⟨g1, g2, g3, g4, g5, g6, g7, g8⟩ := hI'
        simp only [List.length_cons, X14.x9] at g1 g2 g3 g4 g5 g6 g7
        by_cases hb : b = 10
        · subst hb
          have hc : Lib.countByte [10] (UInt8.ofNat 10) = 1 := by decide
          have hla : lastI [10] 10 1 = 0 := by decide
          rw [if_pos rfl, if_pos rfl, nxT_ten] at hst
          simp only [tk10]
          simp only [nxT_ten, hc, List.length_singleton, hla]
          refine sdA_of (by rw [Bool.and_true]; exact inL_iff.2 (by simp; omega)) (brP_of (fun _ => ?_) fun h => absurd h (by decide))
          refine sdA_of (inR_i64.2 (by omega)) ⟨by decide, sdA_of (by decide) (sdA_of (by decide) (sdA_of (by decide) (sdA_of (inL_iff.2 (by simp; omega)) ?_)))⟩
          refine ⟨_, hst, by simp, ⟨rfl, rfl, rfl, word⟩, rfl, rfl, ⟨rfl, rows_same (vm_tok _) rfl⟩, rfl, rows_same (vm_dg _) rfl⟩
        · have hc : Lib.countByte ((b :: t).take (nxT (b :: t)).2) (UInt8.ofNat 10) = 0 := cnt0 hb
          rw [if_neg hb, if_neg hb] at hst
          simp only [hc, htl]
          refine sdA_of hin (brP_of (fun h => absurd h (by decide)) fun _ => ?_)
          simp only [List.length_cons] at n2
          refine sdA_of (inR_i64.2 (by omega)) (sdA_of hin' ⟨_, hst, ?_, ⟨rfl, rfl, rfl, word⟩, rfl, rfl, ⟨rfl, rows_same (vm_tok _) rfl⟩, rfl, rows_same (vm_dg _) rfl⟩)
          simp only [List.length_drop, List.length_cons]; omega
  · obtain rfl : rest = [] := by rw [ilt_iffn] at hr; cases rest with | nil => rfl | cons b t => simp at hr; omega
    rw [scn_nil, List.append_nil, List.append_nil] at h8
    rw [good_tok, good_dg, ← h8]
    exact sdA_of rfl ⟨⟨rfl, ⟨fun _ _ => ⟨rfl, rfl, rfl, rfl, rfl⟩⟩⟩, rfl, ⟨fun _ _ => ⟨rfl, rfl, rfl⟩⟩⟩
theorem run9 : ∀ (l : List UInt8), l.length ≤ 1000000 → (cRun (cx9 l) 100).call 9 [.bv l] (mkH glT) 4 (ResM Tryd.prog false (scanAV l)) :=
  Eq.mpr (by kernel_rfl) run9_r

theorem ok9 : EntOK Tryd.prog 9 e9 := by
  refine ent_of2 (gl := glT) (ng := 4) glT_gl fun H args ct hct => ?_
  unfold e9 at hct
  split at hct
  · rename_i l
    cases hg : globB H with
    | true =>
      rw [hg] at hct
      injection hct with hct; subst hct
      exact ⟨globB_ok hg, _, _, rfl, fun hp => ⟨⟨rfl, trivial⟩, cx9 l, 100, rfl, fol, tbE_ok, run9 l hp⟩⟩
    | false => rw [hg] at hct; cases hct
  · cases hct

end Go.Proofs.Tk
