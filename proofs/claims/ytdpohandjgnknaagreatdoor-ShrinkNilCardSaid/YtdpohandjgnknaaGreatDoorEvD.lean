/- The evaluator, part D: more operations that read at most. -/
import Derived.Test.YtdpohandjgnknaaGreatDoorEvC
namespace Go.Ev

/-! ### two operands -/
def plain : AV → AV → Bool
  | .int _ _, .int _ _ => false
  | .str _ _, .str _ _ => false
  | _, _ => true

theorem binOp_eql {ρ : Ren} {a b : AV} {u v : Value} (hx : VR ρ a u) (hy : VR ρ b v) (hp : plain a b = true) (t : TypeId) :
    binOp .eql t u v = (do pure (.bool (← Op.equal t u v))) := by
  cases hx <;> cases hy <;> first | rfl | (simp [plain] at hp; done)
theorem binOp_neq {ρ : Ren} {a b : AV} {u v : Value} (hx : VR ρ a u) (hy : VR ρ b v) (hp : plain a b = true) (t : TypeId) :
    binOp .neq t u v = (do pure (.bool (!(← Op.equal t u v)))) := by
  cases hx <;> cases hy <;> first | rfl | (simp [plain] at hp; done)

def isConstO : Operand → Bool
  | .const _ => true
  | _ => false

def eqOp : BinOp → Bool
  | .eql | .neq => true
  | _ => false

/-- The guard ahead of == lets through. -/
def evGuard (P : Program) (op : BinOp) (t : TypeId) (cx cy : Bool) (a b : AV) : Bool :=
  match a, b with
  | .iface0, .iface0 => !eqOp op || cx || cy
  | .agg _, .agg _ => !eqOp op || !P.eqGuardType P.depth t
  | _, _ => true

theorem evGuard_sound {P : Program} {ρ : Ren} {op : BinOp} {t : TypeId} {x y : Operand} {a b : AV} {u v : Value} (hx : VR ρ a u) (hy : VR ρ b v)
    (h : evGuard P op t (isConstO x) (isConstO y) a b = true) (w : World) : (eqGuard op t x y u v).run P w = .ok () w := by
  cases op
  case eql =>
    cases hx <;> cases hy <;> first
      | (simp [eqGuard]; done)
      | skip
    · cases x <;> cases y <;> first | (simp [evGuard, eqOp, isConstO] at h; done) | simp [eqGuard]
    · simp only [evGuard, eqOp, Bool.not_true, Bool.false_or] at h
      have hm : P.eqGuardType P.depth t = false := by simpa using h
      exact run_eqGuard_agg w .eql t x y _ _ hm
  case neq =>
    cases hx <;> cases hy <;> first
      | (simp [eqGuard]; done)
      | skip
    · cases x <;> cases y <;> first | (simp [evGuard, eqOp, isConstO] at h; done) | simp [eqGuard]
    · simp only [evGuard, eqOp, Bool.not_true, Bool.false_or] at h
      have hm : P.eqGuardType P.depth t = false := by simpa using h
      exact run_eqGuard_agg w .neq t x y _ _ hm
  all_goals simp [eqGuard]

noncomputable def evBin (P : Program) (op : BinOp) (t : TypeId) (cx cy : Bool) (a b : AV) : Option AV :=
  gd (evGuard P op t cx cy a b) (match a, b with
    | .int k m, .int k' n => match op with
      | .shl => evShift .shl k m n
      | .shr => evShift .shr k m n
      | op => gd (ikEq k k') (evInt op k m n)
    | .str l n, .str l' n' => evStr op l n l' n'
    | a, b => gd (plain a b) (match op with
      | .eql => ob (evEq P 8 t a b) fun r => some (.bool r)
      | .neq => ob (evEq P 8 t a b) fun r => some (.bool (!r))
      | _ => none))

theorem evInt_sound {P : Program} {ρ : Ren} {op : BinOp} {t : TypeId} {k : IntKind} {m n : Int} {r : AV} (hs : op ≠ .shl) (hs' : op ≠ .shr) (h : evInt op k m n = some r) (w : World) :
    ∃ u, (binOp op t (.int k m) (.int k n)).run P w = .ok u w ∧ VR ρ r u := by
  cases op <;> simp only [evInt, fI_eq, wr_eq, ieq_eq, ilt_eq] at h <;> first
    | (exact absurd rfl hs)
    | (exact absurd rfl hs')
    | (injection h with h; subst h; refine ⟨_, ?_, VR.int _ _⟩; simp [binOp, Op.intArith, Op.intBits]; done)
    | (injection h with h; subst h; refine ⟨_, ?_, VR.bool _⟩; simp [binOp, Op.intCmp]; done)
    | skip
  · have h0 := gd_some.1 h; clear h; obtain ⟨hz, h⟩ := h0
    injection h with h; subst h
    have hn : n ≠ 0 := by simpa using hz
    exact ⟨_, by simp [binOp, Op.intDiv, hn], VR.int _ _⟩
  · have h0 := gd_some.1 h; clear h; obtain ⟨hz, h⟩ := h0
    injection h with h; subst h
    have hn : n ≠ 0 := by simpa using hz
    exact ⟨_, by simp [binOp, Op.intDiv, hn], VR.int _ _⟩
  all_goals
    injection h with h; subst h
    refine ⟨_, ?_, VR.bool _⟩
    simp [binOp, Op.intCmp]
    try rfl
    try (by_cases hh : m < n <;> by_cases hh' : n < m <;> simp [hh, hh'] <;> omega)

theorem evShift_sound {P : Program} {ρ : Ren} {op : BinOp} {t : TypeId} {k k' : IntKind} {m n : Int} {r : AV} (h : evShift op k m n = some r) (w : World) :
    ∃ u, (binOp op t (.int k m) (.int k' n)).run P w = .ok u w ∧ VR ρ r u := by
  unfold evShift at h
  have h0 := gd_some.1 h; clear h; obtain ⟨hz, h⟩ := h0
  have hn : ¬ n < 0 := by simpa [ilt_eq] using hz
  split at h
  · rw [fI_eq] at h
    injection h with h; subst h
    exact ⟨_, by simp [binOp, Op.shift, hn], VR.int _ _⟩
  · rw [fI_eq] at h
    injection h with h; subst h
    exact ⟨_, by simp [binOp, Op.shift, hn], VR.int _ _⟩
  · cases h

theorem evStr_sound {P : Program} {ρ : Ren} {op : BinOp} {t : TypeId} {l n l' n' : Nat} {r : AV} (h1 : n < 256 ^ l) (h2 : n' < 256 ^ l') (h : evStr op l n l' n' = some r) (w : World) :
    ∃ u, (binOp op t (.string (bstr l n)) (.string (bstr l' n'))).run P w = .ok u w ∧ VR ρ r u := by
  cases op <;> simp only [evStr, fN_eq, ← bstr_beq h1 h2] at h <;> first
    | (cases h; done)
    | (injection h with h; subst h; refine ⟨_, ?_, VR.bool _⟩; simp only [binOp, Op.stringOp, sltF_eq, bstr_toList, Sem.run_pure]; done)
    | skip
  · have h0 := gd_some.1 h; clear h; obtain ⟨hb, h⟩ := h0
    injection h with h; subst h
    rw [nblt_eq] at hb
    have hb' : l + l' < 9223372036854775808 := by simpa using hb
    refine ⟨_, ?_, VR.str _ _ ?_⟩
    · have : ¬ (((bstr l n).size + (bstr l' n').size : Nat) : Int) > IntKind.i64.max := by
        rw [bstr_size, bstr_size]
        show ¬ ((l + l' : Nat) : Int) > 9223372036854775807
        omega
      simp only [binOp, Op.stringOp, this, if_false, bstr_append _ _ _ _ h1, Sem.run_pure]
    · rw [Nat.pow_add]
      have : n' + 1 ≤ 256 ^ l' := h2
      calc n + n' * 256 ^ l < 256 ^ l + n' * 256 ^ l := by omega
        _ = (n' + 1) * 256 ^ l := by rw [Nat.add_mul, Nat.one_mul, Nat.add_comm]
        _ ≤ 256 ^ l' * 256 ^ l := Nat.mul_le_mul_right _ this
        _ = 256 ^ l * 256 ^ l' := Nat.mul_comm _ _

theorem evBin_sound {P : Program} {ρ : Ren} {op : BinOp} {t : TypeId} {x y : Operand} {a b r : AV} {u v : Value} (hx : VR ρ a u) (hy : VR ρ b v)
    (h : evBin P op t (isConstO x) (isConstO y) a b = some r) (w : World) :
    ∃ z, (do eqGuard op t x y u v; binOp op t u v : Sem Value).run P w = .ok z w ∧ VR ρ r z := by
  have h0 := gd_some.1 h; clear h; obtain ⟨hg, h⟩ := h0
  have hgr := evGuard_sound hx hy hg w
  have fin : (∃ z, (binOp op t u v).run P w = .ok z w ∧ VR ρ r z) → ∃ z, (do eqGuard op t x y u v; binOp op t u v : Sem Value).run P w = .ok z w ∧ VR ρ r z := by
    rintro ⟨z, h1, h2⟩
    exact ⟨z, by simp [hgr, h1], h2⟩
  apply fin
  split at h
  · cases hx; cases hy
    split at h
    · exact evShift_sound h w
    · exact evShift_sound h w
    · rename_i hn1 hn2
      have h0 := gd_some.1 h; clear h; obtain ⟨hk, h⟩ := h0
      have := ikEq_eq hk; subst this
      exact evInt_sound (fun e => hn1 e) (fun e => hn2 e) h w
  · cases hx with
    | str _ _ h1 => cases hy with
      | str _ _ h2 => exact evStr_sound h1 h2 h w
  · have h0 := gd_some.1 h; clear h; obtain ⟨hp, h⟩ := h0
    split at h
    · have h0 := ob_some.1 h; clear h; obtain ⟨q, hq, h⟩ := h0
      injection h with h; subst h
      have := evEq_sound (w := w) 8 10000 (by omega) t _ _ q u v hq hx hy
      exact ⟨.bool q, by rw [binOp_eql hx hy hp]; simp [Op.equal, Op.maxDepth, this], .bool _⟩
    · have h0 := ob_some.1 h; clear h; obtain ⟨q, hq, h⟩ := h0
      injection h with h; subst h
      have := evEq_sound (w := w) 8 10000 (by omega) t _ _ q u v hq hx hy
      exact ⟨.bool (!q), by rw [binOp_neq hx hy hp]; simp [Op.equal, Op.maxDepth, this], .bool _⟩
    · cases h

/-! ### places -/
noncomputable def evField (P : Program) (t : TypeId) (x : AV) (f : Nat) : Option AV :=
  ob (P.underlying t) fun d => match d, x with
    | .struct fs, .agg cs => ob (fs[f]?) fun fd => evPart P fd.type cs fd.offset
    | _, _ => none
theorem evField_sound {P : Program} {ρ : Ren} {t : TypeId} {x r : AV} {f : Nat} {u : Value} (hx : VR ρ x u) (h : evField P t x f = some r) (w : World) :
    ∃ v, (Instr.field t u f).run P w = .ok v w ∧ VR ρ r v := by
  have h0 := ob_some.1 h; clear h; obtain ⟨d, hd, h⟩ := h0
  split at h
  · have h0 := ob_some.1 h; clear h; obtain ⟨fd, hf, h⟩ := h0
    cases hx with
    | agg _ vs hvs =>
      obtain ⟨v, h1, h2⟩ := evPart_sound hvs h w
      exact ⟨v, by simp [Instr.field, run_underlying hd, hf, asAgg, h1], h2⟩
  · cases h

noncomputable def evFieldAddr (P : Program) (t : TypeId) (x : AV) (f : Nat) : Option AV :=
  match x with
  | .ptr id off => ob (P.underlying t) fun d => match d with
    | .struct fs => ob (fs[f]?) fun fd => ob (P.underlying fd.type) fun _ => gd (!Nat.beq (P.cellsOf fd.type) 0) (fN (off + fd.offset) fun o => some (.ptr id o))
    | _ => none
  | _ => none
theorem evFieldAddr_sound {P : Program} {ρ : Ren} {t : TypeId} {x r : AV} {f : Nat} {u : Value} (hx : VR ρ x u) (h : evFieldAddr P t x f = some r) (w : World) :
    ∃ v, (Instr.fieldAt t u f).run P w = .ok v w ∧ VR ρ r v := by
  unfold evFieldAddr at h
  split at h
  · cases hx with
    | ptr id off b hb =>
      have h0 := ob_some.1 h; clear h; obtain ⟨d, hd, h⟩ := h0
      split at h
      · have h0 := ob_some.1 h; clear h; obtain ⟨fd, hf, h⟩ := h0
        obtain ⟨d', hd', h⟩ := ob_some.1 h
        have h0 := gd_some.1 h; clear h; obtain ⟨hz, h⟩ := h0
        rw [fN_eq] at h
        injection h with h; subst h
        have hz' : P.cellsOf fd.type ≠ 0 := fun hh => by rw [hh] at hz; simp at hz
        refine ⟨_, ?_, .ptr _ _ b hb⟩
        simp [Instr.fieldAt, run_underlying hd, hf, Instr.sureAddr, fieldPlace, run_sizeOf' hd', hz', addr_add, Nat.add_assoc]
      · cases h
  · cases h

noncomputable def evIndexAddr (P : Program) (t : TypeId) (x ix : AV) : Option AV :=
  match ix with
  | .int _ (.ofNat i) => ob (P.underlying t) fun d => match d, x with
    | .slice e, .sl id off len _ => gd (Nat.blt i len) (ob (P.underlying e) fun _ => fN (off + i * P.cellsOf e) fun o => some (.ptr id o))
    | .slice e, .slo id off len _ => gd (Nat.blt i len) (ob (P.underlying e) fun _ => fN (off + i * P.cellsOf e) fun o => some (.ptr id o))
    | .array len e, .ptr id off => gd (Nat.blt i len) (ob (P.underlying e) fun _ => fN (off + i * P.cellsOf e) fun o => some (.ptr id o))
    | .array len e, .gptr g off => gd (Nat.blt i len) (ob (P.underlying e) fun _ => fN (off + i * P.cellsOf e) fun o => some (.gptr g o))
    | _, _ => none
  | _ => none
theorem evIndexAddr_sound {P : Program} {ρ : Ren} {t : TypeId} {x ix r : AV} {u v : Value} (hx : VR ρ x u) (hi : VR ρ ix v) (h : evIndexAddr P t x ix = some r) (w : World) :
    ∃ z, (Instr.indexAt t u v).run P w = .ok z w ∧ VR ρ r z := by
  unfold evIndexAddr at h
  split at h
  · rename_i k i
    cases hi
    have h0 := ob_some.1 h; clear h; obtain ⟨d, hd, h⟩ := h0
    split at h
    · have h0 := gd_some.1 h; clear h; obtain ⟨hlt, h⟩ := h0
      have h0 := ob_some.1 h; clear h; obtain ⟨de, hde, h⟩ := h0
      rw [fN_eq] at h
      injection h with h; subst h
      rw [Nat.blt_eq] at hlt
      cases hx with
      | sl id off len cap b hb =>
        refine ⟨_, ?_, .ptr _ _ b hb⟩
        simp [Instr.indexAt, asIntOf, run_underlying hd, run_sizeOf' hde, hlt, addr_add, Nat.add_assoc]
    · have h0 := gd_some.1 h; clear h; obtain ⟨hlt, h⟩ := h0
      have h0 := ob_some.1 h; clear h; obtain ⟨de, hde, h⟩ := h0
      rw [fN_eq] at h
      injection h with h; subst h
      rw [Nat.blt_eq] at hlt
      cases hx with
      | slo id off len esz b hb he hl =>
        refine ⟨_, ?_, .ptr _ _ b hb⟩
        simp [Instr.indexAt, asIntOf, run_underlying hd, run_sizeOf' hde, hlt, addr_add, Nat.add_assoc]
    · have h0 := gd_some.1 h; clear h; obtain ⟨hlt, h⟩ := h0
      have h0 := ob_some.1 h; clear h; obtain ⟨de, hde, h⟩ := h0
      rw [fN_eq] at h
      injection h with h; subst h
      rw [Nat.blt_eq] at hlt
      cases hx with
      | ptr id off b hb =>
        refine ⟨_, ?_, .ptr _ _ b hb⟩
        simp [Instr.indexAt, asIntOf, run_underlying hd, run_sizeOf' hde, hlt, addr_add, Nat.add_assoc, Instr.sureAddr]
    · have h0 := gd_some.1 h; clear h; obtain ⟨hlt, h⟩ := h0
      have h0 := ob_some.1 h; clear h; obtain ⟨de, hde, h⟩ := h0
      rw [fN_eq] at h
      injection h with h; subst h
      rw [Nat.blt_eq] at hlt
      cases hx with
      | gptr g off =>
        refine ⟨_, ?_, .gptr _ _⟩
        simp [Instr.indexAt, asIntOf, run_underlying hd, run_sizeOf' hde, hlt, addr_add, Instr.sureAddr]
    · cases h
  · cases h

noncomputable def evIndex (P : Program) (t : TypeId) (x ix : AV) : Option AV :=
  match ix with
  | .int _ (.ofNat i) => ob (P.underlying t) fun d => match d, x with
    | .string, .str l n => gd (Nat.blt i l) (fN (n / 256 ^ i % 256) fun c => some (.int .u8 (.ofNat c)))
    | .array len e, .agg cs => gd (Nat.blt i len) (ob (P.underlying e) fun _ => evPart P e cs (i * P.cellsOf e))
    | _, _ => none
  | _ => none
theorem evIndex_sound {P : Program} {ρ : Ren} {t : TypeId} {x ix r : AV} {u v : Value} (hx : VR ρ x u) (hi : VR ρ ix v) (h : evIndex P t x ix = some r) (w : World) :
    ∃ z, (Instr.index t u v).run P w = .ok z w ∧ VR ρ r z := by
  unfold evIndex at h
  split at h
  · rename_i k i
    cases hi
    have h0 := ob_some.1 h; clear h; obtain ⟨d, hd, h⟩ := h0
    split at h
    · rename_i l n
      have h0 := gd_some.1 h; clear h; obtain ⟨hlt, h⟩ := h0
      rw [fN_eq] at h
      injection h with h; subst h
      rw [Nat.blt_eq] at hlt
      cases hx with
      | str _ _ hn =>
        refine ⟨.int .u8 (Int.ofNat (n / 256 ^ i % 256)), ?_, .int _ _⟩
        have hsz := bstr_size l n
        have hg : ((bstr l n)[i]'(by rw [hsz]; exact hlt)) = UInt8.ofNat (n / 256 ^ i) := by
          have h1 := bytesL_get l n i hlt
          rw [← bstr_data] at h1
          have h2 : (bstr l n).data.toList[i]? = some ((bstr l n)[i]'(by rw [hsz]; exact hlt)) := by
            rw [List.getElem?_eq_getElem (by rw [bstr_data, bytesL_length]; exact hlt)]
            rfl
          rw [h1] at h2
          exact (Option.some.inj h2).symm
        rw [run_index_string w t (bstr l n) k (Int.ofNat i) hd, dif_pos (by rw [hsz]; simp; exact hlt)]
        simp [hg]
    · have h0 := gd_some.1 h; clear h; obtain ⟨hlt, h⟩ := h0
      have h0 := ob_some.1 h; clear h; obtain ⟨de, hde, h⟩ := h0
      rw [Nat.blt_eq] at hlt
      cases hx with
      | agg _ vs hvs =>
        obtain ⟨z, h1, h2⟩ := evPart_sound hvs h w
        exact ⟨z, by simp [Instr.index, asIntOf, run_underlying hd, run_sizeOf' hde, hlt, h1], h2⟩
    · cases h
  · cases h

noncomputable def evExtract (x : AV) (i : Nat) : Option AV :=
  match x with
  | .tup vs => vs[i]?
  | _ => none
theorem evExtract_sound {P : Program} {ρ : Ren} {x r : AV} {i : Nat} {u : Value} (hx : VR ρ x u) (h : evExtract x i = some r) (w : World) :
    ∃ z, (Instr.extract u i).run P w = .ok z w ∧ VR ρ r z := by
  unfold evExtract at h
  split at h
  · cases hx with
    | tup _ vs hvs =>
      obtain ⟨v, hv, hr⟩ := hvs.get i r h
      exact ⟨v, by simp [Instr.extract, hv], hr⟩
  · cases h

end Go.Ev
