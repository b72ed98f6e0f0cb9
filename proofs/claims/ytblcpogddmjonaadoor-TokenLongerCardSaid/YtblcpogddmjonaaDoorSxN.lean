/- The symbolic layer, part N: a function that answers a new map: by content. -/
import Derived.Test.YtblcpogddmjonaaDoorSxM
set_option linter.unusedVariables false
set_option linter.unusedSimpArgs false
namespace Go.Ev

/-- A map that was made, by content: texts as keys. -/
noncomputable def ResMap (has : SKey → Bool) (val : SKey → AV) (z : AV) (r : CR) : Prop :=
  match r with
  | .mk (.map id) H _ => okP (H.get id) fun o => match o with
    | .map es _ => ∀ l, sFind .string (.str l) z es = some (has (.str l), val (.str l))
    | _ => False
  | _ => False

theorem ctOut_need {pre : Prop} {v w : AV} {p : Bool} (h : ctOut (.need pre (.ret v)) = some (p, w)) : pre ∧ false = p ∧ v = w := by
  have ho : (open Classical in if pre then some (false, v) else none) = some (p, w) := h
  by_cases hp : pre
  · rw [if_pos hp] at ho
    injection ho with ho; injection ho with ho1 ho2
    exact ⟨hp, ho1, ho2⟩
  · rw [if_neg hp] at ho; cases ho

theorem frz_end {E : Env} {F : Nat → Option Obj} {nx : Nat} {ρ : Ren} {H : Tr AObj} {w : World} (r : Rel E F nx ρ H.get w) {n1 : Nat} {ρ1 : Ren} {H1 : Tr AObj} {w' : World} {c : AV} {u : Value}
    (hst : ∀ b o, ρ.st b = some o → ρ1.st b = some o) (r1 : Rel (guardE E ρ) (fun b => w.heap[b]?) n1 ρ1 H1.get w') {ids : List Nat} (hids : idsOK H1 ids) (hv : VR (frzR ρ1 w' ids) c u) (hc : vmP [] c c) :
    ∃ ρ', RX nx (nx + 1) ρ ρ' ∧ Rel E F (nx + 1) ρ' H.get w' ∧ VR ρ' c u := by
  obtain ⟨hx, r2⟩ := frzR_rel r1 hids
  generalize frzR ρ1 w' ids = ρ2 at hx r2 hv
  have hst2 : ∀ b o, ρ.st b = some o → ρ2.st b = some o := fun b o h => hx.le.st b o (hst b o h)
  have hle : ρ.le ⟨ρ.nm, ρ2.st⟩ := ⟨fun _ _ h => h, hst2⟩
  have hheap : ∀ b o, w.heap[b]? = some o → w'.heap[b]? = some o := r2.fr
  have hfs : ∀ b o o', w.heap[b]? = some o → ρ2.st b = some o' → ρ.st b ≠ none := fun b o o' h1 h2 => by
    have := r2.sf b o o' h1 h2
    simpa [guardE] using this
  refine ⟨⟨ρ.nm, ρ2.st⟩, ⟨hle, fun _ _ => rfl, Nat.le_succ _⟩, ⟨r2.tape, r2.os, r2.output, fun b o hb => hheap b o (r.fr b o hb), fun i o b hi hb => ?_, r.dj, r.inj, fun i hi => r.new i (Nat.le_of_succ_le hi), r.gl, r.bs, r2.st, fun i o b hi hb => ?_, fun b o o' hF hs => ?_⟩,
    vm_rel (ρ := ρ2) (ρ2 := ⟨ρ.nm, ρ2.st⟩) (vm_free fun _ _ h => h) c c u hc hv⟩
  · obtain ⟨oc, h4, h5⟩ := r.ob i o b hi hb
    exact ⟨oc, hheap _ _ h4, h5.mono hle⟩
  · obtain ⟨oc, h4, h5⟩ := r.ob i o b hi hb
    cases hs : ρ2.st b.b with
    | none => rfl
    | some o' => exact absurd (r.sd i o b hi hb) (hfs b.b oc o' h4 hs)
  · have := hfs b o o' (r.fr b o hF) hs
    cases hs' : ρ.st b with
    | none => exact absurd hs' this
    | some o'' => exact r.sf b o o'' hF hs'

theorem map_end {E : Env} {F : Nat → Option Obj} {n1 : Nat} {ρ1 : Ren} {H1 : Tr AObj} {w' : World} {has : SKey → Bool} {val : SKey → AV} {z : AV} {id : Nat} {u : Value} (hz : ∃ zv, ∀ ρ, VR ρ z zv)
    (hzk : ∀ k, has k = false → val k = z) (hint : ∀ n, has (.int n) = false) (r1 : Rel E F n1 ρ1 H1.get w') (hv : VR ρ1 (.map id) u) (h : ResMap has val z (.mk (.map id) H1 n1)) : idsOK H1 [id] ∧ VR (frzR ρ1 w' [id]) (.mapv has val z) u := by
  obtain ⟨o, ho, h1⟩ := okP_some (show okP (H1.get id) _ from h)
  cases hv with
  | map _ b hb =>
    split at h1
    · rename_i es ck
      have hids : idsOK H1 [id] := fun i hi => by simp only [List.mem_singleton] at hi; subst hi; exact ⟨_, ho⟩
      have hle := (frzR_rel r1 hids).1.le
      obtain ⟨c, hc, hor⟩ := r1.ob _ _ b ho hb
      obtain ⟨zv, hzv⟩ := hz
      cases hor with
      | map _ _ l hl =>
        have hst : (frzR ρ1 w' [id]).st b.b = some (.map l.toArray ck) := (frzR_block (List.mem_singleton.2 rfl) hb).trans hc
        have key : ∀ s : List UInt8, ∃ v, VR ρ1 (val (.str s)) v ∧ (if has (.str s) then ∃ j, Instr.findNow .string (.string ⟨s.toArray⟩) l 0 = some (some (j, v)) else Instr.findNow .string (.string ⟨s.toArray⟩) l 0 = some none ∧ v = zv) := fun s =>
          sFind_sound (.str s) (hzv ρ1) hl 0 _ (h1 s)
        refine ⟨hids, .mapv has val z b.b l.toArray ck (fun k => match k with | .str s => Classical.choose (key s) | .int _ => zv) hst (fun k u hk hf => ?_) (fun k u hk hf => ?_) hzk fun k hk => ?_⟩
        · cases hk with
          | str s =>
            obtain ⟨v, _, h3⟩ := key s
            rw [hf, if_neg (by simp)] at h3
            exact h3.1
        · cases hk with
          | str s =>
            have h3 := (Classical.choose_spec (key s)).2
            show ∃ j, Instr.findNow .string (.string ⟨s.toArray⟩) l 0 = some (some (j, Classical.choose (key s)))
            generalize Classical.choose (key s) = y at h3 ⊢
            rw [hf, if_pos rfl] at h3
            exact h3
        · cases k with
          | str s => exact (Classical.choose_spec (key s)).1.mono hle
          | int n => rw [hint n] at hk; cases hk
    · exact h1.elim

/-- A function without arguments that answers a new map. -/
theorem ent_map {P : Program} {call : FuncId → List AV → Tr AObj → Nat → KC → Prop} (hcall : CallKOK P call) {g : FuncId} {has : SKey → Bool} {val : SKey → AV} {z : AV} {gl : List (Nat × AObj)} {ng : Nat}
    (hgl : ∀ p ∈ gl, isGl p.2 = true) (hz : ∃ zv, ∀ ρ, VR ρ z zv) (hzk : ∀ k, has k = false → val k = z) (hint : ∀ n, has (.int n) = false) (hvk : ∀ k, vmP [] (val k) (val k))
    {ent : Tr AObj → List AV → Option Ct} (hent : ∀ H args ct, ent H args = some ct → args = [] ∧ (∀ p ∈ gl, H.get p.1 = some p.2) ∧ ct = .need True (.ret (.mapv has val z)))
    (hrun : call g [] (mkH gl) ng (ResMap has val z)) : EntOK P g ent := by
  intro H args ct hct p v hout E F ρ w nx H' hG r
  obtain ⟨rfl, hH, rfl⟩ := hent H args ct hct
  obtain ⟨_, rfl, rfl⟩ := ctOut_need hout
  have r0 : Rel (guardE E ρ) (fun b => w.heap[b]?) ng ⟨fun _ => none, ρ.st⟩ (mkH gl).get w :=
    ⟨r.tape, r.os, r.output, fun _ _ h => h, fun _ _ _ _ h => (by cases h), fun _ _ _ _ h => (by cases h), fun _ _ _ _ _ _ _ _ h => (by cases h), fun _ _ => rfl,
      fun g l hg => hG g l (hH _ (mkH_get hg)), fun b o hb => r.fr b o (r.bs b o hb), r.st, fun _ _ _ _ h => (by cases h), fun b o o' _ hs => (by simp [guardE]; exact fun e => by rw [show ρ.st b = some o' from hs] at e; cases e)⟩
  have hok := hcall g [] (mkH gl) ng _ hrun _ _ _ w r0
  refine ⟨hok.1, fun vs hvs => CallsIn.mono (hok.2 vs (by cases hvs; exact .nil)) fun e w' he => ?_⟩
  obtain ⟨res, hres, hend⟩ := he
  cases res with
  | mk v' H1 n1 =>
    obtain ⟨u, ρ1, rfl, hx, r1, hv⟩ := hend
    cases v' <;> first | exact hres.elim | skip
    rename_i id
    obtain ⟨h4, h5⟩ := map_end hz hzk hint r1 hv hres
    obtain ⟨ρ', h1, h2, h3⟩ := frz_end r hx.le.st r1 h4 h5 (by rw [vmP]; exact ⟨fun _ => rfl, hvk, hzk⟩)
    exact ⟨u, ρ', rfl, h1, h2, h3⟩
  | pan _ _ _ => exact hres.elim
  | dfr _ _ _ _ => exact hres.elim
end Go.Ev
