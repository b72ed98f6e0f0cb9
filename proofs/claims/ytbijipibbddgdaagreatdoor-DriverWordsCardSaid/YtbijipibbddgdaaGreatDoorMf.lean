/- Laid by program out of its parts: SxO, SxP, SxQ, SxR, SxS. -/
import Derived.Test.YtbijipibbddgdaaGreatDoorMe
import Derived.Test.YtbijipibbddgdaaGreatDoorMg
import Derived.ChangeSlices
import Derived.OpenShut
set_option linter.unusedVariables false
set_option linter.unusedSimpArgs false
section
/- The symbolic layer, part O: a contract at a call from outside: every block that is there stays as it is. -/
namespace Go.Ev
open Go.RowKit Go.ChangeShapes

/-- Every block that is there, as a content. -/
def wRen (w : World) : Ren := ⟨fun _ => none, fun b => w.heap[b]?⟩

theorem ent_law {P : Program} {g : FuncId} {ent : Tr AObj → List AV → Option Ct} (hent : EntOK P g ent) {H : Tr AObj} {args : List AV} {ct : Ct} {b : Bool} (hct : ent H args = some ct)
    (hout : ctOut ct = some (false, .bool b)) {W : World} {vs : List Value} (hvs : VRL (wRen W) args vs) (hG : ∀ g l, H.get g = some (.glob l) → ∃ cs e fz, W.heap[g]? = some (.cells cs e fz) ∧ ∀ ρ', VRL ρ' l cs.toList) :
    Calls P g vs.toArray W fun e w' => e = .returned (.bool b) ∧ RowKit.Below W.heap.size W w' := by
  have r : Rel ⟨W.tape, W.os, W.output, fun b => W.heap[b]?, fun _ => true⟩ (fun b => W.heap[b]?) 0 (wRen W) (Tr.leaf : Tr AObj).get W :=
    ⟨rfl, rfl, rfl, fun b o hb => hb, fun i o b hi => (by rw [Tr.get_leaf] at hi; cases hi), fun i o b hi => (by rw [Tr.get_leaf] at hi; cases hi),
      fun i j o o' b b' hi => (by rw [Tr.get_leaf] at hi; cases hi), fun _ _ => rfl, fun i o hi => (by rw [Tr.get_leaf] at hi; cases hi), fun _ _ h => h, fun _ _ h => h, fun i o b hi => (by rw [Tr.get_leaf] at hi; cases hi), fun _ _ _ _ _ => rfl⟩
  have hcall := hent H args ct hct false (.bool b) hout ⟨W.tape, W.os, W.output, fun b => W.heap[b]?, fun _ => true⟩ _ _ W 0 .leaf hG r
  have hc' : Calls P g vs.toArray W _ := callsIn_wide.1 (hcall.2 vs hvs)
  refine hc'.mono fun e w' hE => ?_
  obtain ⟨u, ρ', he, _, hr, hv⟩ := hE
  cases hv
  refine ⟨he, hr.os, hr.tape, hr.output, ?_, fun k hk => ?_⟩
  · by_cases h0 : W.heap.size = 0
    · omega
    · have hlt : W.heap.size - 1 < W.heap.size := by omega
      have := hr.fr (W.heap.size - 1) _ (Array.getElem?_eq_getElem hlt)
      have := lt_of_heap this
      omega
  · rw [Array.getElem?_eq_getElem hk]
    exact hr.fr k _ (Array.getElem?_eq_getElem hk)
/-- A contract whose arguments are contents only where it asks so. -/
theorem ent_of2 {P : Program} {g : FuncId} {ent : Tr AObj → List AV → Option Ct} {gl : List (Nat × AObj)} {ng : Nat} (hgl : ∀ p ∈ gl, isGl p.2 = true)
    (h : ∀ H args ct, ent H args = some ct → (∀ p ∈ gl, H.get p.1 = some p.2) ∧ ∃ pre v, ct = .need pre (.ret v) ∧
      (pre → vmL [] args args ∧ ∃ (cx : Ctx) (n : Nat), cx.P = P ∧ P.follows .mixedOrders = true ∧ TbOK P cx.tb ∧ (cRun cx n).call g args (mkH gl) ng (ResM P false v))) : EntOK P g ent := by
  intro H args ct hct p v hout
  obtain ⟨h1, pre, v', h3, h4⟩ := h H args ct hct
  subst h3
  have ho : (open Classical in if pre then some (false, v') else none) = some (p, v) := hout
  by_cases hp : pre
  · rw [if_pos hp] at ho
    injection ho with ho; injection ho with ho1 ho2
    obtain ⟨h2, cx, n, e1, e2, e3, e4⟩ := h4 hp
    subst e1
    exact ent_ok (cRun_ok e2 e3 n) (ent := fun H' args' => open Classical in if H' = H ∧ args' = args then some (.ret v') else none) hgl (fun H' args' ct' hct' => by
      classical
      by_cases hh : H' = H ∧ args' = args
      · rw [if_pos hh] at hct'
        injection hct' with hct'
        obtain ⟨rfl, rfl⟩ := hh
        refine ⟨h1, h2, fun p' v'' hout' => ?_⟩
        rw [← hct'] at hout'
        injection hout' with hout'
        injection hout' with ha hb
        subst ha; subst hb; exact e4
      · rw [if_neg hh] at hct'; cases hct') H args (.ret v') (if_pos ⟨rfl, rfl⟩) p v (by rw [← ho1, ← ho2]; rfl)
  · rw [if_neg hp] at ho; cases ho
end Go.Ev
end

section
/- The symbolic layer, part P: what a call from outside hands over, as a content. -/
namespace Go.Ev
open Go.ChangeShapes Go.WideShapes

theorem ctOut_of {p : Prop} {v : AV} (h : p) : ctOut (.need p (.ret v)) = some (false, v) := if_pos h

/-- A slice of bytes is a content. -/
theorem bytes_arg {H : Type} {enc : TypeId × Value → H} {P : Program} {w : World} {t el n : Nat} {v : Value} {x : DataW H × List MemPlace} (ht : P.underlying t = some (.slice el)) (he : P.underlying el = some (.int .u8)) (hc : P.cellsOf el = 1)
    (h : DataW.trod enc P w 0 (fun _ => true) true n t [v] = some x) : ∃ l : List UInt8, VR (wRen w) (.bv l) v := by
  rcases open_ints ht he hc h with ⟨hcs, rfl⟩ | ⟨a, len, cap, zs, hcs, _, hl, hm, hz, rfl, hcell, hwf⟩
  · injection hcs with hv _
    subst hv
    exact ⟨[], .bvz [] rfl _ _⟩
  · injection hcs with hv _
    subst hv
    rw [if_pos rfl] at hz
    by_cases h0 : len = 0
    · subst h0; exact ⟨[], .bvz [] rfl _ _⟩
    · have hs : a.spot = none := by simpa [Addr.add] using World.cell?_spot (hcell 0 (by omega))
      obtain ⟨b, o, s⟩ := a
      simp only at hs
      subst hs
      refine ⟨(zs.take len).map fun z => UInt8.ofNat z.toNat, ?_⟩
      have hlen : ((zs.take len).map fun z => UInt8.ofNat z.toNat).length = len := by simp; omega
      have hcell0 := hcell 0 (by omega)
      have hob : ∃ cs e fz, w.heap[b]? = some (.cells cs e fz) := by
        simp only [World.cell?, Addr.add] at hcell0
        split at hcell0
        · exact ⟨_, _, _, by assumption⟩
        · cases hcell0
      obtain ⟨cs, e, fz, hh⟩ := hob
      have key := VR.bv (ρ := wRen w) ((zs.take len).map fun z => UInt8.ofNat z.toNat) b o cap cs e fz hh (by rw [hlen]; exact hl) fun i hi => by
        rw [hlen] at hi
        have h1 := hcell i (by omega)
        have hw := hwf (zs.getD i 0) (by rw [List.getD_eq_getElem?_getD, List.getElem?_eq_getElem (by omega)]; exact List.getElem_mem _)
        have hw2 : IntKind.u8.min ≤ zs.getD i 0 ∧ zs.getD i 0 ≤ IntKind.u8.max := by simpa [Lit.wf] using hw
        rw [show IntKind.u8.min = 0 by decide, show IntKind.u8.max = 255 by decide] at hw2
        have h1' : w.cell? ⟨b, o + i, none⟩ = some (.int .u8 (zs.getD i 0)) := by
          rw [← h1]
          by_cases hi0 : i = 0
          · subst hi0; simp [Addr.add]
          · simp [Addr.add, hi0]
        simp only [World.cell?, hh] at h1'
        rw [show cs[o + i]? = some (.int .u8 (zs.getD i 0)) by simpa using h1']
        have e1 : ((zs.take len).map fun z => UInt8.ofNat z.toNat).getD i 0 = UInt8.ofNat (zs.getD i 0).toNat := by
          have hi2 : i < (zs.take len).length := by simp; omega
          simp only [List.getD_eq_getElem?_getD, List.getElem?_map, List.getElem?_eq_getElem hi2, Option.map_some, Option.getD_some, List.getElem_take, List.getElem?_eq_getElem (show i < zs.length by omega)]
        rw [e1]
        generalize zs.getD i 0 = z at hw2
        have hz : (UInt8.ofNat z.toNat).toNat = z.toNat := by
          rw [UInt8.toNat_ofNat']
          exact Nat.mod_eq_of_lt (by omega)
        rw [hz, Int.toNat_of_nonneg hw2.1]
      rw [hlen] at key
      exact key
end Go.Ev
end

section
/- The symbolic layer, part Q: a contract of the kit's own as a contract of contents. -/
namespace Go.Ev
open Go.RowKit

theorem rel_below {E : Env} {F : Nat → Option Obj} {nx : Nat} {ρ : Ren} {h : Nat → Option AObj} {w w' : World} (r : Rel E F nx ρ h w) (hb : RowKit.Below w.heap.size w w') : Rel E F (nx + 1) ρ h w' := by
  have hp : ∀ b o, w.heap[b]? = some o → w'.heap[b]? = some o := fun b o hbo => by rw [hb.block b (lt_of_heap hbo)]; exact hbo
  exact ⟨hb.tape.trans r.tape, hb.os.trans r.os, hb.output.trans r.output, fun b o h => hp b o (r.fr b o h), fun i o b hi h => let ⟨c, h1, h2⟩ := r.ob i o b hi h; ⟨c, hp _ _ h1, h2⟩, r.dj, r.inj,
    fun i hi => r.new i (Nat.le_of_succ_le hi), r.gl, r.bs, fun b o h => hp b o (r.st b o h), r.sd, r.sf⟩

theorem ent_of_calls {P : Program} {g : FuncId} {ent : Tr AObj → List AV → Option Ct} (hfn : ∃ fn c, P.funcs[g]? = some fn ∧ (fn.name == "runtime.NumGoroutine") = false ∧ fn.body = some c)
    (h : ∀ H args ct, ent H args = some ct → ∃ pre v, ct = .need pre (.ret v) ∧ (pre → ∀ (ρ : Ren) (w : World) (vs : List Value), (∀ b o, ρ.st b = some o → w.heap[b]? = some o) → VRL ρ args vs →
      Calls P g vs.toArray w fun e w' => ∃ u, e = .returned u ∧ VR ρ v u ∧ RowKit.Below w.heap.size w w')) : EntOK P g ent := by
  intro H args ct hct p v hout E F ρ w nx H' hG r
  obtain ⟨pre, v', rfl, h2⟩ := h H args ct hct
  obtain ⟨hp, rfl, rfl⟩ := ctOut_need hout
  refine ⟨hfn, fun vs hvs => callsIn_wide.2 ((h2 hp ρ w vs r.st hvs).mono fun e w' ⟨u, he, hv, hb⟩ => ?_)⟩
  exact ⟨u, ρ, he, ⟨Ren.le_refl ρ, fun _ _ => rfl, Nat.le_succ _⟩, rel_below r hb, hv⟩

/-! ### texts in a row -/
def txtO (l : List AV) : List UInt8 := match l with
  | [.bs s] => s
  | _ => []
def isTx (l : List AV) : Bool := match l with
  | [.bs _] => true
  | _ => false
def rowTx (n : Nat) (f : Nat → List AV) : List (List UInt8) := (List.range n).map fun i => txtO (f i)
def allTx (n : Nat) (f : Nat → List AV) : Bool := decide (∀ i, i < n → isTx (f i) = true)
theorem isTx_val {ρ : Ren} {l : List AV} {vs : List Value} (h : isTx l = true) (hv : VRL ρ l vs) : vs = [.string ⟨(txtO l).toArray⟩] := by
  unfold isTx at h
  split at h
  · cases hv with
    | cons _ _ _ _ h1 h2 => cases h1; cases h2; rfl
  · cases h
/-- A row of texts in memory. -/
theorem vec_texts {ρ : Ren} {w : World} (hst : ∀ b o, ρ.st b = some o → w.heap[b]? = some o) {n : Nat} {f : Nat → List AV} {v : Value} (h : VR ρ (.vec 1 n f) v) (hb : allTx n f = true) :
    (n = 0 ∧ ∃ base cap, v = .slice base 0 cap) ∨ ∃ b o cap, v = .slice (some ⟨b, o, none⟩) n cap ∧ n ≤ cap ∧ b < w.heap.size ∧ ∀ (j : Nat) x, ((rowTx n f).map fun l : List UInt8 => (⟨l.toArray⟩ : ByteArray))[j]? = some x → w.cell? ⟨b, o + j, none⟩ = some (.string x) := by
  unfold allTx at hb
  simp only [decide_eq_true_eq] at hb
  cases h with
  | vecz _ _ _ h0 base cap => exact .inl ⟨h0, base, cap, rfl⟩
  | vec _ _ _ b o cap cs el fz g hs he hcap hv hc =>
    refine .inr ⟨b, o, cap, rfl, hcap, lt_of_heap (hst _ _ hs), fun j x hx => ?_⟩
    simp only [rowTx, List.map_map, List.getElem?_map, Option.map_eq_some_iff] at hx
    obtain ⟨i, hi, hx⟩ := hx
    obtain ⟨hin, rfl⟩ := List.getElem?_eq_some_iff.1 hi
    simp only [List.length_range] at hin
    simp only [List.getElem_range] at hx
    have h1 := isTx_val (hb j hin) (hv j hin)
    have h2 := hc j hin 0 _ (by rw [h1]; rfl)
    simp only [World.cell?, hst _ _ hs]
    rw [← hx]
    simpa using h2
end Go.Ev
end

section
/- The symbolic layer, part R: closed contents beside one another; a contract at closed arguments; a contract out of the evaluator's word. -/
namespace Go.Ev
open Go.RowKit

noncomputable def eqLs (rec : AV → AV → Bool) (l m : List AV) : Bool :=
  List.rec (motive := fun _ => List AV → Bool) (fun m => List.rec (motive := fun _ => Bool) true (fun _ _ _ => false) m)
    (fun x _ ih m => List.rec (motive := fun _ => Bool) false (fun y m _ => cond (rec x y) (ih m) false) m) l m
noncomputable def eqS1 (rec : AV → AV → Bool) (a b : AV) : Bool := match a with
  | .bool p => match b with
    | .bool q => decide (q = p)
    | _ => false
  | .int k m => match b with
    | .int k' n => cond (ikEq k k') (ieq n m) false
    | _ => false
  | .str m n => match b with
    | .str m' n' => cond (Nat.beq m' m) (Nat.beq n' n) false
    | _ => false
  | .bs l => match b with
    | .bs l' => decide (l' = l)
    | .str m n => decide (bytesL m n = l)
    | _ => false
  | .bv l => match b with
    | .bv l' => decide (l' = l)
    | .sl0 => decide (l = [])
    | _ => false
  | .vec e n f => match b with
    | .vec e' n' f' => cond (Nat.beq e e') (cond (Nat.beq n' n) ((List.range n').all fun i => eqLs rec (f i) (f' i)) false) false
    | .sl0 => Nat.beq n 0
    | _ => false
  | .agg l => match b with
    | .agg l' => eqLs rec l l'
    | _ => false
  | .tup l => match b with
    | .tup l' => eqLs rec l l'
    | _ => false
  | .ptr0 => match b with
    | .ptr0 => true
    | _ => false
  | .sl0 => match b with
    | .sl0 => true
    | _ => false
  | _ => false
noncomputable def eqN (k : Nat) : AV → AV → Bool := Nat.rec (motive := fun _ => AV → AV → Bool) (fun _ _ => false) (fun _ ih => eqS1 ih) k
noncomputable def eqA (a b : AV) : Bool := eqN 12 a b
noncomputable def eqLA (l m : List AV) : Bool := eqLs (eqN 12) l m

theorem eqLs_vm {rec : AV → AV → Bool} (hrec : ∀ a b, rec a b = true → vmP [] a b) : ∀ {l m : List AV}, eqLs rec l m = true → vmL [] l m
  | [], [], _ => trivial
  | [], _ :: _, h => by cases h
  | _ :: _, [], h => by cases h
  | x :: l, y :: m, h => by
    obtain ⟨h1, h2⟩ := cond_and (show cond (rec x y) (eqLs rec l m) false = true from h)
    exact ⟨hrec _ _ h1, eqLs_vm hrec h2⟩
theorem eqS1_vm {rec : AV → AV → Bool} (hrec : ∀ a b, rec a b = true → vmP [] a b) : ∀ a b, eqS1 rec a b = true → vmP [] a b := fun a b h => by
  cases a <;> first | (cases h; done) | skip
  all_goals (cases b <;> first | (cases h; done) | skip)
  all_goals simp only [eqS1] at h
  all_goals rw [vmP]
  · simpa using h
  · obtain ⟨h1, h2⟩ := cond_and h
    exact ⟨h1, by simpa [ieq_eq] using h2⟩
  · obtain ⟨h1, h2⟩ := cond_and h
    rw [Nat.beq_eq] at h1 h2
    exact ⟨h1, h2⟩
  all_goals first
    | trivial
    | (simpa using h; done)
    | exact eqLs_vm hrec h
    | (rw [Nat.beq_eq] at h; exact h)
    | skip
  obtain ⟨h1, h2⟩ := cond_and h
  obtain ⟨h2, h3⟩ := cond_and h2
  rw [Nat.beq_eq] at h2
  refine ⟨h1, h2, ⟨fun i hi => eqLs_vm hrec ?_⟩⟩
  exact List.all_eq_true.1 h3 i (List.mem_range.2 hi)
theorem eqN_vm : ∀ k a b, eqN k a b = true → vmP [] a b
  | 0, _, _, h => by cases h
  | k + 1, a, b, h => eqS1_vm (eqN_vm k) a b h

/-- A value that is as expected, by reckoning. -/
noncomputable def ResB (P : Program) (c : AV) (r : CR) : Prop :=
  match r with
  | .mk v H _ => okP (frz P H v) fun q => sdA q.1 (sdA (eqA c q.2.1) True)
  | _ => False

/-- A contract at closed arguments. -/
theorem ent_lit {P : Program} {call : FuncId → List AV → Tr AObj → Nat → KC → Prop} (hcall : CallKOK P call) {g : FuncId} {lit : List AV} {res : AV} {gl : List (Nat × AObj)} {ng : Nat}
    {sel : Tr AObj → Bool} (hsel : ∀ H, sel H = true → ∀ p ∈ gl, H.get p.1 = some p.2) (hres : vmP [] res res) (hrun : call g lit (mkH gl) ng (ResB P res)) :
    EntOK P g (fun H args => cond (cond (eqLA lit args) (sel H) false) (some (.need True (.ret res))) none) := by
  intro H args ct hct p v hout E F ρ w nx H' hG r
  dsimp only at hct
  cases hb : cond (eqLA lit args) (sel H) false with
  | false => rw [hb] at hct; cases hct
  | true =>
  rw [hb] at hct
  injection hct with hct; subst hct
  obtain ⟨_, rfl, rfl⟩ := ctOut_need hout
  obtain ⟨h1, h2⟩ := cond_and hb
  have hH := hsel H h2
  have hvm : vmL [] lit args := eqLs_vm (eqN_vm 12) h1
  have r0 : Rel (guardE E ρ) (fun b => w.heap[b]?) ng ⟨fun _ => none, ρ.st⟩ (mkH gl).get w :=
    ⟨r.tape, r.os, r.output, fun _ _ h => h, fun _ _ _ _ h => (by cases h), fun _ _ _ _ h => (by cases h), fun _ _ _ _ _ _ _ _ h => (by cases h), fun _ _ => rfl,
      fun g l hg => hG g l (hH _ (mkH_get hg)), fun b o hb => r.fr b o (r.bs b o hb), r.st, fun _ _ _ _ h => (by cases h), fun b o o' _ hs => (by simp [guardE]; exact fun e => by rw [show ρ.st b = some o' from hs] at e; cases e)⟩
  have hok := hcall g lit (mkH gl) ng _ hrun _ _ _ w r0
  refine ⟨hok.1, fun vs hvs => CallsIn.mono (hok.2 vs (vmL_rel (ρ := ρ) (ρ2 := ⟨fun _ => none, ρ.st⟩) (vm_free fun _ _ h => h) _ _ _ hvm hvs)) fun e w' he => ?_⟩
  obtain ⟨q, hq, hend⟩ := he
  cases q with
  | mk v' H1 n1 =>
    obtain ⟨u, ρ1, rfl, hx, r1, hv⟩ := hend
    obtain ⟨z, hz, hz2⟩ := okP_some (show okP (frz P H1 v') _ from hq)
    obtain ⟨hz3, hz4⟩ := sdA_iff.1 hz2
    obtain ⟨hz5, _⟩ := sdA_iff.1 hz4
    obtain ⟨b, c', fz, ids⟩ := z
    simp only at hz3 hz5; subst hz3
    obtain ⟨hids, _, hval⟩ := frz_sound r1 v' c' fz ids hz
    have hc := hval ids hids (fun _ h => h) u hv
    have hle := (frzR_rel r1 hids).1.le
    have hv2 := vm_rel (ρ := frzR ρ1 w' ids) (ρ2 := frzR ρ1 w' ids) (vm_free fun _ _ h => h) _ _ _ (eqN_vm 12 _ _ hz5) hc
    obtain ⟨ρ', g1, g2, g3⟩ := frz_end r hx.le.st r1 hids hv2 hres
    exact ⟨u, ρ', rfl, g1, g2, g3⟩
  | pan _ _ _ => exact hq.elim
  | dfr _ _ _ _ => exact hq.elim

/-- A contract of a function without arguments that answers a bool, out of the evaluator's word. -/
theorem ent_says {P : Program} (hm : P.follows .mixedOrders = true) {rounds n : Nat} {g : FuncId} {b : Bool} (hfn : ∃ fn c, P.funcs[g]? = some fn ∧ (fn.name == "runtime.NumGoroutine") = false ∧ fn.body = some c)
    (h : says ((evs P rounds n).call (.fn g []) .leaf 0) b = true) {sel : Tr AObj → Bool} :
    EntOK P g (fun H args => match args with
      | [] => cond (sel H) (some (.need True (.ret (.bool b)))) none
      | _ => none) :=
  ent_of_calls hfn fun H args ct hct => by
    split at hct
    · cases hs : sel H with
      | false => rw [hs] at hct; cases hct
      | true =>
        rw [hs] at hct
        injection hct with hct
        exact ⟨True, _, hct.symm, fun _ ρ w vs _ hvs => (ev_bool hm h (vs := vs) (by cases hvs; exact .nil) w).mono fun e w' ⟨he, hb⟩ => ⟨_, he, .bool b, hb⟩⟩
    · cases hct
end Go.Ev
end

section
/- The symbolic layer, part S: a slice of structs that a call from outside hands over, as a content. -/
namespace Go.Ev
open Go.ChangeShapes Go.WideShapes

theorem addr_off (b o k : Nat) : (⟨b, o, none⟩ : Addr).add k = ⟨b, o + k, none⟩ := by
  by_cases h : k = 0
  · subst h; simp [Addr.add]
  · simp [Addr.add, h]

theorem vec_arg {α : Type} {row : α → List AV} {vals : α → List Value} {d : α} {esz : Nat} (he : 0 < esz) {H : Type} {enc : TypeId × Value → H} {P : Program} {w : World} {t e n : Nat} {v : Value} {x : DataW H × List MemPlace}
    (ht : P.underlying t = some (.slice e)) (hc : P.cellsOf e = esz) (hrow : ∀ cs m x, DataW.trod enc P w 0 (fun _ => true) true m e cs = some x → ∃ a : α, cs = vals a) (hrel : ∀ a, VRL (wRen w) (row a) (vals a)) (hlen : ∀ a, (vals a).length = esz)
    (h : DataW.trod enc P w 0 (fun _ => true) true n t [v] = some x) : ∃ l : List α, VR (wRen w) (.vec esz l.length fun k => row (l.getD k d)) v := by
  rcases DataW.trod_slice ht h with ⟨hcs, rfl⟩ | ⟨a, len, cap, elems, rest, m, _, hcs, rfl, _, hl, hm, hel, hget, _, _⟩
  · injection hcs with hv _
    subst hv
    exact ⟨[], .vecz _ _ _ rfl _ _⟩
  · injection hcs with hv _
    subst hv
    by_cases h0 : len = 0
    · subst h0; exact ⟨[], .vecz _ _ _ rfl _ _⟩
    · have key : ∀ i, ∃ y : α, i < len → w.cells? 0 (a.add (i * esz)) esz = some (vals y) := fun i => by
        by_cases hi : i < len
        · have h1 := hget i hi
          rw [hc, List.getElem?_eq_getElem (by omega)] at h1
          obtain ⟨cs, h2, h3⟩ := Option.bind_eq_some_iff.1 h1
          obtain ⟨y, rfl⟩ := hrow cs _ _ h3
          exact ⟨y, fun _ => h2⟩
        · exact ⟨d, fun h => absurd h hi⟩
      let fn : Nat → α := fun i => Classical.choose (key i)
      have hfn : ∀ i, i < len → w.cells? 0 (a.add (i * esz)) esz = some (vals (fn i)) := fun i hi => Classical.choose_spec (key i) hi
      have hcell : ∀ i, i < len → ∀ j, j < esz → w.cell? ((a.add (i * esz)).add j) = (vals (fn i))[j]? := fun i hi j hj => (World.cells?_some (hfn i hi)).2.2 j hj
      have h00 := hcell 0 (by omega) 0 he
      rw [Nat.zero_mul] at h00
      have hv0 : (vals (fn 0))[0]? = some ((vals (fn 0))[0]'(by rw [hlen]; exact he)) := List.getElem?_eq_getElem _
      rw [hv0] at h00
      have hs : a.spot = none := by simpa [Addr.add] using World.cell?_spot h00
      obtain ⟨b, o, s⟩ := a
      simp only at hs
      subst hs
      rw [addr_off, addr_off] at h00
      have hob : ∃ cs el fz, w.heap[b]? = some (.cells cs el fz) := by
        simp only [World.cell?] at h00
        split at h00
        · exact ⟨_, _, _, by assumption⟩
        · cases h00
      obtain ⟨cs, el, fz, hh⟩ := hob
      have hll : ((List.range len).map fn).length = len := by simp
      have hgd : ∀ i, i < len → ((List.range len).map fn).getD i d = fn i := fun i hi => by simp [List.getD_eq_getElem?_getD, hi]
      refine ⟨(List.range len).map fn, ?_⟩
      rw [hll]
      refine .vec esz len _ b o cap cs el fz (fun i => vals (fn i)) hh he hl (fun i hi => ?_) fun i hi j u hj => ?_
      · rw [hgd i hi]; exact hrel _
      · have hj' : j < esz := by rw [← hlen (fn i)]; exact (List.getElem?_eq_some_iff.1 hj).1
        have h1 := hcell i hi j hj'
        rw [hj, addr_off, addr_off] at h1
        simp only [World.cell?, hh] at h1
        simpa using h1
end Go.Ev
end
