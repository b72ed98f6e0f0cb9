/- The symbolic layer, part A: operations that read at most, over content values: a side condition, and the value. -/
import Derived.Test.YtblcpogddmjonaaDoorEvG
set_option linter.unusedVariables false
set_option linter.unusedSimpArgs false
namespace Go.Ev

def lowR : IntKind → Int
  | .i8 => -128 | .i16 => -32768 | .i32 => -2147483648 | .i64 => -9223372036854775808 | _ => 0
def topR : IntKind → Int
  | .i8 => 127 | .i16 => 32767 | .i32 => 2147483647 | .i64 => 9223372036854775807 | .u8 => 255 | .u16 => 65535 | .u32 => 4294967295 | .u64 => 18446744073709551615
/-- Within a kind's range; at a place; at most. -/
def inR (k : IntKind) (n : Int) : Bool := cond (ilt n (lowR k)) false (!(ilt (topR k) n))
theorem inR_iff {k : IntKind} {n : Int} : inR k n = true ↔ lowR k ≤ n ∧ n ≤ topR k := by
  unfold inR
  rw [ilt_eq, ilt_eq]
  by_cases h : n < lowR k
  · rw [decide_eq_true h]; simp; omega
  · rw [decide_eq_false h]; simp; omega
def inB (n : Int) (len : Nat) : Bool := decide (0 ≤ n ∧ n < (len : Int))
def inL (n : Int) (len : Nat) : Bool := decide (0 ≤ n ∧ n ≤ (len : Int))

theorem wrap_inR {k : IntKind} {n : Int} (h : inR k n = true) : k.wrap n = n := by
  rw [inR_iff] at h
  cases k <;> simp only [lowR, topR] at h <;> simp only [IntKind.wrap, IntKind.bits, IntKind.signed] <;> simp <;> omega

abbrev SV := Option (Bool × AV)

/-! ### numbers -/
noncomputable def sInt (op : BinOp) (k : IntKind) (a b : Int) : SV :=
  match op with
  | .add => some (inR k (a + b), .int k (a + b))
  | .sub => some (inR k (a - b), .int k (a - b))
  | .mul => some (inR k (a * b), .int k (a * b))
  | .quo => some (cond (ieq b 0) false (inR k (a.tdiv b)), .int k (a.tdiv b))
  | .rem => some (!ieq b 0, .int k (a.tmod b))
  | .and => some (true, .int k (k.wrap (BitVec.ofInt k.bits a &&& BitVec.ofInt k.bits b).toNat))
  | .or => some (true, .int k (k.wrap (BitVec.ofInt k.bits a ||| BitVec.ofInt k.bits b).toNat))
  | .xor => some (true, .int k (k.wrap (BitVec.ofInt k.bits a ^^^ BitVec.ofInt k.bits b).toNat))
  | .andNot => some (true, .int k (k.wrap (BitVec.ofInt k.bits a &&& ~~~(BitVec.ofInt k.bits b)).toNat))
  | _ => none

theorem sInt_ev {op : BinOp} {k : IntKind} {a b : Int} {r : AV} (h : sInt op k a b = some (true, r)) : evInt op k a b = some r ∧ op ≠ .shl ∧ op ≠ .shr := by
  cases op <;> simp only [sInt] at h <;> first | (cases h; done) | skip
  all_goals
    injection h with h; injection h with h1 h2; subst h2
    refine ⟨?_, by simp, by simp⟩
    unfold evInt
    simp only [fI_eq, wr_eq]
  · rw [wrap_inR h1]
  · rw [wrap_inR h1]
  · rw [wrap_inR h1]
  · cases hb : ieq b 0 with
    | true => rw [hb] at h1; cases h1
    | false =>
      rw [hb, cond_false] at h1
      rw [wrap_inR h1]; rfl
  · rw [h1]; rfl

noncomputable def sShift (op : BinOp) (k : IntKind) (a b : Int) : SV :=
  match op with
  | .shl => some (cond (ilt b 0) false (inR k (a * 2 ^ (min b.toNat k.bits))), .int k (a * 2 ^ (min b.toNat k.bits)))
  | .shr => some (!ilt b 0, .int k (a.fdiv (2 ^ (min b.toNat k.bits))))
  | _ => none

theorem sShift_ev {op : BinOp} {k : IntKind} {a b : Int} {r : AV} (h : sShift op k a b = some (true, r)) : evShift op k a b = some r := by
  cases op <;> simp only [sShift] at h <;> first | (cases h; done) | skip
  all_goals
    injection h with h; injection h with h1 h2; subst h2
    unfold evShift
    simp only [fI_eq]
  · cases hb : ilt b 0 with
    | true => rw [hb] at h1; cases h1
    | false =>
      rw [hb, cond_false] at h1
      rw [wrap_inR h1]; rfl
  · rw [h1]; rfl

/-! ### texts -/
noncomputable def strL (a : AV) : Option (List UInt8) :=
  match a with
  | .bs l => some l
  | .str len n => some (bytesL len n)
  | _ => none
theorem strL_val {ρ : Ren} {a : AV} {l : List UInt8} {v : Value} (h : VR ρ a v) (hl : strL a = some l) : v = .string ⟨l.toArray⟩ := by
  cases h <;> first | (cases hl; done) | skip
  · injection hl with hl; subst hl; rfl
  · injection hl with hl; subst hl; rfl

noncomputable def sStr (op : BinOp) (l l' : List UInt8) : SV :=
  match op with
  | .add => some (decide (l.length + l'.length ≤ 9223372036854775807), .bs (l ++ l'))
  | .eql => some (true, .bool (decide (l = l')))
  | .neq => some (true, .bool (!decide (l = l')))
  | .lss => some (true, .bool (Op.bytesLess l l'))
  | .leq => some (true, .bool (Op.bytesLess l l' || decide (l = l')))
  | .gtr => some (true, .bool (!(Op.bytesLess l l' || decide (l = l'))))
  | .geq => some (true, .bool (!Op.bytesLess l l'))
  | _ => none

theorem toList_mk (l : List UInt8) : (ByteArray.mk l.toArray).toList = l := by
  rw [ByteArray.toList_eq]

theorem sStr_sound {P : Program} {ρ : Ren} {op : BinOp} {t : TypeId} {l l' : List UInt8} {r : AV} (h : sStr op l l' = some (true, r)) (w : World) :
    ∃ u, (binOp op t (.string ⟨l.toArray⟩) (.string ⟨l'.toArray⟩)).run P w = .ok u w ∧ VR ρ r u := by
  have hb : (l == l') = decide (l = l') := by
    by_cases h : l = l' <;> simp [h]
  cases op <;> simp only [sStr] at h <;> first | (cases h; done) | skip
  all_goals
    injection h with h; injection h with h1 h2; subst h2
  · simp only [decide_eq_true_eq] at h1
    refine ⟨.string ⟨(l ++ l').toArray⟩, ?_, .bs _⟩
    have : ¬ (((ByteArray.mk l.toArray).size + (ByteArray.mk l'.toArray).size : Nat) : Int) > IntKind.i64.max := by
      show ¬ ((l.toArray.size + l'.toArray.size : Nat) : Int) > 9223372036854775807
      simp; omega
    have e : ByteArray.mk l.toArray ++ ByteArray.mk l'.toArray = ⟨(l ++ l').toArray⟩ := by
      apply ByteArray.ext
      simp
    simp only [binOp, Op.stringOp, this, if_false, e, Sem.run_pure]
  all_goals
    refine ⟨_, ?_, .bool _⟩
    simp only [binOp, Op.stringOp, toList_mk, hb, Sem.run_pure]

/-! ### two values beside one another -/
noncomputable def sEqF (P : Program) (eq : TypeId → AV → AV → Option Bool) (xs ys : List AV) (fs : List Field) : Option Bool :=
  List.rec (motive := fun _ => Option Bool) (some true)
    (fun f _ ih => cond (decide (f.name = "_")) ih (ob (evPart P f.type xs f.offset) fun a => ob (evPart P f.type ys f.offset) fun b => ob (eq f.type a b) fun r => ob ih fun q => some (r && q))) fs

theorem sEqF_ev {P : Program} {eq : TypeId → AV → AV → Option Bool} {xs ys : List AV} : ∀ {fs : List Field} {b : Bool}, sEqF P eq xs ys fs = some b → evEqF P eq xs ys fs = some b
  | [], b, h => h
  | f :: fs, b, h => by
    have h' : (cond (decide (f.name = "_")) (sEqF P eq xs ys fs) (ob (evPart P f.type xs f.offset) fun a => ob (evPart P f.type ys f.offset) fun b => ob (eq f.type a b) fun r => ob (sEqF P eq xs ys fs) fun q => some (r && q))) = some b := h
    show (cond (decide (f.name = "_")) (evEqF P eq xs ys fs) (ob (evPart P f.type xs f.offset) fun a => ob (evPart P f.type ys f.offset) fun b => ob (eq f.type a b) fun r => cond r (evEqF P eq xs ys fs) (some false))) = some b
    cases hn : decide (f.name = "_") with
    | true => rw [hn] at h'; exact sEqF_ev h'
    | false =>
      rw [hn, cond_false] at h'
      obtain ⟨a, ha, h1⟩ := ob_some.1 h'
      obtain ⟨a', ha', h2⟩ := ob_some.1 h1
      obtain ⟨r, hr, h3⟩ := ob_some.1 h2
      obtain ⟨q, hq, h4⟩ := ob_some.1 h3
      injection h4 with h4; subst h4
      rw [cond_false]
      refine ob_some.2 ⟨a, ha, ob_some.2 ⟨a', ha', ob_some.2 ⟨r, hr, ?_⟩⟩⟩
      cases r with
      | true => rw [cond_true, sEqF_ev hq]; rfl
      | false => rfl

noncomputable def sEq (P : Program) (f : Nat) : TypeId → AV → AV → Option Bool :=
  Nat.rec (motive := fun _ => TypeId → AV → AV → Option Bool) (fun _ _ _ => none)
    (fun _ ih t x y => ob (P.underlying t) fun d =>
      match d, x, y with
      | .bool, .bool a, .bool b => some (cond a b (!b))
      | .int _, .int k a, .int k' b => gd (ikEq k k') (some (ieq a b))
      | .string, x, y => ob (strL x) fun l => ob (strL y) fun l' => some (decide (l = l'))
      | .pointer _, .ptr0, .ptr0 => some true
      | .pointer _, .ptr0, .ptr _ _ => some false
      | .pointer _, .ptr _ _, .ptr0 => some false
      | .pointer _, .ptr0, .pv _ => some false
      | .pointer _, .pv _, .ptr0 => some false
      | .pointer _, .ptr0, .pel _ _ _ _ => some false
      | .pointer _, .pel _ _ _ _, .ptr0 => some false
      | .map _ _, .map0, .mapv _ _ _ => some false
      | .map _ _, .mapv _ _ _, .map0 => some false
      | .struct fs, .agg xs, .agg ys => gd (!P.stoodInHeld t) (sEqF P ih xs ys fs.toList)
      | _, _, _ => none) f

theorem sEq_sound {P : Program} {ρ : Ren} {w : World} : ∀ (f D : Nat), f ≤ D → ∀ (t : TypeId) (x y : AV) (b : Bool) (u v : Value), sEq P f t x y = some b →
    VR ρ x u → VR ρ y v → (Op.equalIn D t u v).run P w = .ok b w := by
  intro f
  induction f with
  | zero => intro D _ t x y b u v h; cases h
  | succ f ih =>
    intro D hD t x y b u v h hx hy
    obtain ⟨D', rfl⟩ : ∃ D', D = D' + 1 := ⟨D - 1, by omega⟩
    obtain ⟨d, hd, h1⟩ := ob_some.1 (show (ob (P.underlying t) fun d => _) = some b from h)
    clear h
    have one : ∀ r : Bool, evEq P 1 t x y = some r → (Op.equalIn (D' + 1) t u v).run P w = .ok r w := fun r hr => evEq_sound 1 (D' + 1) (by omega) t x y r u v hr hx hy
    split at h1
    · exact one b (by show (ob (P.underlying t) fun d => _) = _; rw [hd]; exact h1)
    · exact one b (by show (ob (P.underlying t) fun d => _) = _; rw [hd]; exact h1)
    · obtain ⟨l, hl, h2⟩ := ob_some.1 h1
      obtain ⟨l', hl', h3⟩ := ob_some.1 h2
      injection h3 with h3; subst h3
      rw [strL_val hx hl, strL_val hy hl']
      have hb : (l == l') = decide (l = l') := by by_cases h : l = l' <;> simp [h]
      simp [Op.equalIn, run_underlying hd, beq_toListBytes, toList_mk, hb]
    · exact one b (by show (ob (P.underlying t) fun d => _) = _; rw [hd]; exact h1)
    · exact one b (by show (ob (P.underlying t) fun d => _) = _; rw [hd]; exact h1)
    · exact one b (by show (ob (P.underlying t) fun d => _) = _; rw [hd]; exact h1)
    all_goals first
      | (injection h1 with h1; subst h1; cases hx; cases hy; simp [Op.equalIn, run_underlying hd]; done)
      | skip
    · obtain ⟨hs, h2⟩ := gd_some.1 h1
      cases hx with
      | agg _ us hus => cases hy with
        | agg _ vs hvs =>
          have hs' : P.stoodInHeld t = false := by simpa using hs
          have hfs := fieldsOf_eq hd
          rw [run_equalIn_struct w D' t us.toArray vs.toArray (by rw [hfs]; exact hd) hs', hfs]
          exact eqFields_sound (fun t x y b u v h1 h2 h3 => ih D' (by omega) t x y b u v h1 h2 h3) hus hvs _ _ (sEqF_ev h2)
    · cases h1

noncomputable def sNilS (P : Program) (t : TypeId) (n : Nat) (neg : Bool) : SV := ob (P.underlying t) fun d => match d with
  | .slice _ => some (Nat.blt 0 n, .bool neg)
  | _ => none

noncomputable def sNilB (P : Program) (t : TypeId) (neg : Bool) (a b : AV) : SV :=
  match a, b with
  | .sl0, .vec _ n _ => sNilS P t n neg
  | .vec _ n _, .sl0 => sNilS P t n neg
  | .sl0, .bv l => sNilS P t l.length neg
  | .bv l, .sl0 => sNilS P t l.length neg
  | .sl0, .slg _ n _ => sNilS P t n neg
  | .slg _ n _, .sl0 => sNilS P t n neg
  | a, b => ob (sEq P 8 t a b) fun r => some (true, .bool (cond neg (!r) r))

theorem sNilB_sound {P : Program} {ρ : Ren} {t : TypeId} {neg : Bool} {a b r : AV} {u v : Value} (hx : VR ρ a u) (hy : VR ρ b v) (h : sNilB P t neg a b = some (true, r)) (w : World) :
    ∃ q, (Op.equal t u v).run P w = .ok q w ∧ r = .bool (cond neg (!q) q) := by
  have hnil : ∀ n, sNilS P t n neg = some (true, r) → (∃ e, P.underlying t = some (.slice e)) ∧ 0 < n ∧ r = .bool neg := fun n hn => by
    obtain ⟨d, hd, h1⟩ := ob_some.1 hn
    cases d <;> first | (cases h1; done) | skip
    injection h1 with h1; injection h1 with h1 h2
    exact ⟨⟨_, hd⟩, by rwa [Nat.blt_eq] at h1, h2.symm⟩
  have key : ∀ (base : Addr) (n c : Nat) e, P.underlying t = some (.slice e) → (Op.equal t (.slice none 0 0) (.slice (some base) n c)).run P w = .ok false w ∧ (Op.equal t (.slice (some base) n c) (.slice none 0 0)).run P w = .ok false w := fun base n c e hd => by
    have h2 : ∀ D, (Op.equalIn (D + 1) t (.slice none 0 0) (.slice (some base) n c)).run P w = .ok false w ∧ (Op.equalIn (D + 1) t (.slice (some base) n c) (.slice none 0 0)).run P w = .ok false w := fun D => by
      constructor <;> simp [Op.equalIn, run_underlying hd]
    exact h2 (Op.maxDepth - 1)
  unfold sNilB at h
  split at h
  · obtain ⟨⟨e, he⟩, hn, rfl⟩ := hnil _ h
    cases hx
    cases hy with
    | vec => exact ⟨false, (key _ _ _ e he).1, by cases neg <;> rfl⟩
    | vecz => omega
  · obtain ⟨⟨e, he⟩, hn, rfl⟩ := hnil _ h
    cases hy
    cases hx with
    | vec => exact ⟨false, (key _ _ _ e he).2, by cases neg <;> rfl⟩
    | vecz => omega
  · obtain ⟨⟨e, he⟩, hn, rfl⟩ := hnil _ h
    cases hx
    cases hy with
    | bv => exact ⟨false, (key _ _ _ e he).1, by cases neg <;> rfl⟩
    | bvz _ h0 => subst h0; simp at hn
  · obtain ⟨⟨e, he⟩, hn, rfl⟩ := hnil _ h
    cases hy
    cases hx with
    | bv => exact ⟨false, (key _ _ _ e he).2, by cases neg <;> rfl⟩
    | bvz _ h0 => subst h0; simp at hn
  · obtain ⟨⟨e, he⟩, hn, rfl⟩ := hnil _ h
    cases hx
    cases hy with
    | slg => exact ⟨false, (key _ _ _ e he).1, by cases neg <;> rfl⟩
    | slg0 => omega
  · obtain ⟨⟨e, he⟩, hn, rfl⟩ := hnil _ h
    cases hy
    cases hx with
    | slg => exact ⟨false, (key _ _ _ e he).2, by cases neg <;> rfl⟩
    | slg0 => omega
  · obtain ⟨q, hq, h1⟩ := ob_some.1 h
    injection h1 with h1; injection h1 with _ h2
    exact ⟨q, sEq_sound 8 Op.maxDepth (by decide) t _ _ q u v hq hx hy, h2.symm⟩

/-- A comparison, an operation of two. -/
noncomputable def sBin (P : Program) (op : BinOp) (t : TypeId) (cx cy : Bool) (a b : AV) : SV :=
  gd (evGuard P op t cx cy a b) (match a, b with
    | .int k m, .int k' n => match op with
      | .shl => sShift .shl k m n
      | .shr => sShift .shr k m n
      | op => gd (ikEq k k') (sInt op k m n)
    | .str _ _, .str _ _ => none
    | .bs l, b => ob (strL b) fun l' => sStr op l l'
    | a, .bs l' => ob (strL a) fun l => sStr op l l'
    | a, b => match op with
      | .eql => sNilB P t false a b
      | .neq => sNilB P t true a b
      | _ => none)

theorem sBin_sound {P : Program} {ρ : Ren} {op : BinOp} {t : TypeId} {x y : Operand} {a b r : AV} {u v : Value} (hx : VR ρ a u) (hy : VR ρ b v)
    (h : sBin P op t (isConstO x) (isConstO y) a b = some (true, r)) (w : World) :
    ∃ z, (do eqGuard op t x y u v; binOp op t u v : Sem Value).run P w = .ok z w ∧ VR ρ r z := by
  obtain ⟨hg, h1⟩ := gd_some.1 h
  have hgr := evGuard_sound hx hy hg w
  suffices hs : ∃ z, (binOp op t u v).run P w = .ok z w ∧ VR ρ r z by
    obtain ⟨z, h2, h3⟩ := hs
    exact ⟨z, by simp only [Sem.run_bind, hgr, Result.andThen_ok, h2], h3⟩
  clear h hgr
  split at h1
  · split at h1
    · cases hx; cases hy
      exact evShift_sound (sShift_ev h1) w
    · cases hx; cases hy
      exact evShift_sound (sShift_ev h1) w
    · obtain ⟨hk, h2⟩ := gd_some.1 h1
      have := ikEq_eq hk; subst this
      cases hx; cases hy
      obtain ⟨h3, h4, h5⟩ := sInt_ev h2
      exact evInt_sound h4 h5 h3 w
  · cases h1
  · obtain ⟨l', hl', h2⟩ := ob_some.1 h1
    rw [strL_val hy hl']
    cases hx
    exact sStr_sound h2 w
  · obtain ⟨l, hl, h2⟩ := ob_some.1 h1
    rw [strL_val hx hl]
    cases hy
    exact sStr_sound h2 w
  · have hpl : plain a b = true := by
      unfold plain
      split <;> simp_all <;> (rename_i hh; exact hh _ _ _ _ rfl rfl rfl rfl)
    split at h1
    · obtain ⟨q, h2, rfl⟩ := sNilB_sound hx hy h1 w
      refine ⟨.bool q, ?_, .bool _⟩
      rw [binOp_eql hx hy hpl]
      simp only [Sem.run_bind, h2, Result.andThen_ok, Sem.run_pure]
    · obtain ⟨q, h2, rfl⟩ := sNilB_sound hx hy h1 w
      refine ⟨.bool (!q), ?_, .bool _⟩
      rw [binOp_neq hx hy hpl]
      simp only [Sem.run_bind, h2, Result.andThen_ok, Sem.run_pure]
    · cases h1
end Go.Ev
