/- The evaluator, part B: numbers, texts, constants, types; operations that only compute. -/
import Derived.Test.YtdpohandjgnknaaGreatDoorEvA
import Derived.Laws.StructEq
import Derived.Laws.Slices
import Derived.Lib.Strings
import Derived.ChangeKeysEq
namespace Go.Ev

/-! ### small words -/
noncomputable def ob {α β : Type} (x : Option α) (f : α → Option β) : Option β := Option.rec (motive := fun _ => Option β) none f x
def gd {β : Type} (b : Bool) (x : Option β) : Option β := cond b x none
theorem ob_some {α β : Type} {x : Option α} {f : α → Option β} {y : β} : ob x f = some y ↔ ∃ a, x = some a ∧ f a = some y := by
  cases x with
  | none => simp [ob]
  | some a => simp [ob]
theorem gd_some {β : Type} {b : Bool} {x : Option β} {y : β} : gd b x = some y ↔ b = true ∧ x = some y := by
  cases b <;> simp [gd]

noncomputable def fN {β : Type} (n : Nat) (k : Nat → β) : β := Nat.rec (motive := fun _ => β) (k 0) (fun m _ => k (Nat.succ m)) n
theorem fN_eq {β : Type} (n : Nat) (k : Nat → β) : fN n k = k n := by cases n <;> rfl
noncomputable def fI {β : Type} (n : Int) (k : Int → β) : β :=
  Int.rec (motive := fun _ => β) (fun m => fN m fun m => k (Int.ofNat m)) (fun m => fN m fun m => k (Int.negSucc m)) n
theorem fI_eq {β : Type} (n : Int) (k : Int → β) : fI n k = k n := by
  cases n with
  | ofNat m => exact fN_eq m fun m => k (Int.ofNat m)
  | negSucc m => exact fN_eq m fun m => k (Int.negSucc m)

def ikN : IntKind → Nat
  | .i8 => 0 | .i16 => 1 | .i32 => 2 | .i64 => 3 | .u8 => 4 | .u16 => 5 | .u32 => 6 | .u64 => 7
def ikEq (a b : IntKind) : Bool := Nat.beq (ikN a) (ikN b)
theorem ikEq_eq {a b : IntKind} (h : ikEq a b = true) : a = b := by
  cases a <;> cases b <;> first | rfl | (exact absurd h (by decide))

def ieq : Int → Int → Bool
  | .ofNat a, .ofNat b => Nat.beq a b
  | .negSucc a, .negSucc b => Nat.beq a b
  | _, _ => false
def ilt : Int → Int → Bool
  | .ofNat a, .ofNat b => Nat.blt a b
  | .negSucc _, .ofNat _ => true
  | .ofNat _, .negSucc _ => false
  | .negSucc a, .negSucc b => Nat.blt b a
theorem nbeq_eq (a b : Nat) : Nat.beq a b = (a == b) := by
  rw [Bool.eq_iff_iff, Nat.beq_eq]; simp
theorem nblt_eq (a b : Nat) : Nat.blt a b = decide (a < b) := by
  rw [Bool.eq_iff_iff, Nat.blt_eq]; simp
theorem ieq_eq (a b : Int) : ieq a b = (a == b) := by
  cases a with
  | ofNat a => cases b with
    | ofNat b =>
      rw [Bool.eq_iff_iff]
      simp only [ieq, Nat.beq_eq, beq_iff_eq]
      simp only [Int.ofNat_eq_natCast]; omega
    | negSucc b => simp [ieq]
  | negSucc a => cases b with
    | ofNat b => simp [ieq]
    | negSucc b =>
      rw [Bool.eq_iff_iff]
      simp only [ieq, Nat.beq_eq, beq_iff_eq]
      simp
theorem ilt_eq (a b : Int) : ilt a b = decide (a < b) := by
  cases a with
  | ofNat a => cases b with
    | ofNat b => simp only [ilt, nblt_eq]; simp
    | negSucc b => simp [ilt]; omega
  | negSucc a => cases b with
    | ofNat b => simp [ilt]; omega
    | negSucc b => simp only [ilt, nblt_eq]; rw [decide_eq_decide]; omega

theorem wrap_i64 {n : Int} (h1 : -9223372036854775808 ≤ n) (h2 : n < 9223372036854775808) : IntKind.i64.wrap n = n := by
  simp only [IntKind.wrap, IntKind.bits, IntKind.signed, Bool.true_and]
  by_cases h : 0 ≤ n
  · rw [if_neg (by simp; omega)]; omega
  · rw [if_pos (by simp; omega)]; omega
theorem wrap_u8 {n : Int} (h1 : 0 ≤ n) (h2 : n < 256) : IntKind.u8.wrap n = n := by
  simp [IntKind.wrap, IntKind.bits, IntKind.signed]; omega

/-- The wrap, with a short way where nothing is to do. -/
def wr (k : IntKind) (n : Int) : Int :=
  match k, n with
  | .i64, .ofNat m => cond (Nat.blt m 9223372036854775808) (.ofNat m) (k.wrap n)
  | .i64, .negSucc m => cond (Nat.blt m 9223372036854775808) (.negSucc m) (k.wrap n)
  | .u8, .ofNat m => cond (Nat.blt m 256) (.ofNat m) (k.wrap n)
  | k, n => k.wrap n
theorem wr_eq (k : IntKind) (n : Int) : wr k n = k.wrap n := by
  unfold wr
  split
  · rename_i m
    rw [nblt_eq]
    by_cases h : m < 9223372036854775808
    · rw [decide_eq_true h, cond_true, wrap_i64]
      · simp only [Int.ofNat_eq_natCast]; omega
      · simp only [Int.ofNat_eq_natCast]; omega
    · rw [decide_eq_false h, cond_false]
  · rename_i m
    rw [nblt_eq]
    by_cases h : m < 9223372036854775808
    · rw [decide_eq_true h, cond_true, wrap_i64] <;> omega
    · rw [decide_eq_false h, cond_false]
  · rename_i m
    rw [nblt_eq]
    by_cases h : m < 256
    · rw [decide_eq_true h, cond_true, wrap_u8]
      · simp only [Int.ofNat_eq_natCast]; omega
      · simp only [Int.ofNat_eq_natCast]; omega
    · rw [decide_eq_false h, cond_false]
  · rfl

/-! ### texts -/
theorem bytesL_length : ∀ (l n : Nat), (bytesL l n).length = l
  | 0, _ => rfl
  | l + 1, n => by simp [bytesL, bytesL_length l]
theorem bstr_size (l n : Nat) : (bstr l n).size = l := by
  show (bytesL l n).toArray.size = l
  simp [bytesL_length]
theorem bstr_data (l n : Nat) : (bstr l n).data.toList = bytesL l n := rfl
theorem bstr_toList (l n : Nat) : (bstr l n).toList = bytesL l n := by rw [ByteArray.toList_eq, bstr_data]

theorem u8_ofNat_toNat (n : Nat) : (UInt8.ofNat n).toNat = n % 256 := by simp

theorem bytesL_inj : ∀ (l n m : Nat), n < 256 ^ l → m < 256 ^ l → bytesL l n = bytesL l m → n = m
  | 0, n, m, hn, hm, _ => by simp at hn hm; omega
  | l + 1, n, m, hn, hm, h => by
    simp only [bytesL, List.cons.injEq] at h
    have h1 : n % 256 = m % 256 := by rw [← u8_ofNat_toNat, ← u8_ofNat_toNat, h.1]
    have h2 := bytesL_inj l (n / 256) (m / 256) (Nat.div_lt_of_lt_mul (by rw [Nat.pow_succ] at hn; omega)) (Nat.div_lt_of_lt_mul (by rw [Nat.pow_succ] at hm; omega)) h.2
    omega

theorem bytesL_get : ∀ (l n i : Nat), i < l → (bytesL l n)[i]? = some (UInt8.ofNat (n / 256 ^ i))
  | 0, _, _, h => by omega
  | l + 1, n, 0, _ => by simp [bytesL]
  | l + 1, n, i + 1, h => by
    simp only [bytesL, List.getElem?_cons_succ]
    rw [bytesL_get l (n / 256) i (by omega), Nat.div_div_eq_div_mul, Nat.pow_succ, Nat.mul_comm]

theorem bytesL_append : ∀ (l n l' n' : Nat), n < 256 ^ l → bytesL (l + l') (n + n' * 256 ^ l) = bytesL l n ++ bytesL l' n'
  | 0, n, l', n', h => by
    have : n = 0 := by simpa using h
    simp [bytesL, this]
  | l + 1, n, l', n', h => by
    rw [show l + 1 + l' = (l + l') + 1 by omega]
    simp only [bytesL, List.cons_append]
    have e1 : n' * 256 ^ (l + 1) = 256 * (n' * 256 ^ l) := by rw [Nat.pow_succ]; ac_rfl
    have e2 : (n + n' * 256 ^ (l + 1)) / 256 = n / 256 + n' * 256 ^ l := by rw [e1]; omega
    have e3 : UInt8.ofNat (n + n' * 256 ^ (l + 1)) = UInt8.ofNat n := by
      apply UInt8.toNat_inj.1
      rw [u8_ofNat_toNat, u8_ofNat_toNat, e1]; omega
    rw [e2, e3, bytesL_append l (n / 256) l' n' (Nat.div_lt_of_lt_mul (by rw [Nat.pow_succ] at h; omega))]

theorem bytesL_drop : ∀ (k l n : Nat), (bytesL l n).drop k = bytesL (l - k) (n / 256 ^ k)
  | 0, l, n => by simp
  | k + 1, 0, n => by simp [bytesL]
  | k + 1, l + 1, n => by
    simp only [bytesL, List.drop_succ_cons]
    rw [bytesL_drop k l (n / 256), Nat.div_div_eq_div_mul, Nat.pow_succ, Nat.mul_comm, show l + 1 - (k + 1) = l - k by omega]

theorem bytesL_take : ∀ (k l n : Nat), k ≤ l → (bytesL l n).take k = bytesL k (n % 256 ^ k)
  | 0, l, n, _ => by simp [bytesL]
  | k + 1, 0, n, h => by omega
  | k + 1, l + 1, n, h => by
    simp only [bytesL, List.take_succ_cons]
    have e1 : UInt8.ofNat (n % 256 ^ (k + 1)) = UInt8.ofNat n := by
      apply UInt8.toNat_inj.1
      rw [u8_ofNat_toNat, u8_ofNat_toNat, Nat.pow_succ, Nat.mul_comm, Nat.mod_mul_right_mod]
    have e2 : n % 256 ^ (k + 1) / 256 = n / 256 % 256 ^ k := by
      rw [Nat.pow_succ, Nat.mul_comm, Nat.mod_mul_right_div_self]
    rw [bytesL_take k l (n / 256) (by omega), e1, e2]

theorem bstr_append (l n l' n' : Nat) (h : n < 256 ^ l) : bstr l n ++ bstr l' n' = bstr (l + l') (n + n' * 256 ^ l) := by
  have : (bstr l n ++ bstr l' n').data = (bstr (l + l') (n + n' * 256 ^ l)).data := by
    rw [ByteArray.data_append]
    show (bytesL l n).toArray ++ (bytesL l' n').toArray = (bytesL (l + l') (n + n' * 256 ^ l)).toArray
    rw [bytesL_append _ _ _ _ h]; simp
  cases h1 : (bstr l n ++ bstr l' n'); cases h2 : bstr (l + l') (n + n' * 256 ^ l)
  rw [h1, h2] at this; simpa using this

theorem bstr_extract (l n a b : Nat) (hb : b ≤ l) (_ha : a ≤ b) : (bstr l n).extract a b = bstr (b - a) (n / 256 ^ a % 256 ^ (b - a)) := by
  have h : ((bstr l n).extract a b).data.toList = bytesL (b - a) (n / 256 ^ a % 256 ^ (b - a)) := by
    rw [Lib.extract_data, bstr_data]
    rw [List.take_drop, show a + (b - a) = b by omega] at *
    rw [show (List.take b (bytesL l n)).drop a = ((bytesL l n).drop a).take (b - a) by rw [List.drop_take]]
    rw [bytesL_drop, bytesL_take _ _ _ (by omega)]
  cases hx : (bstr l n).extract a b with
  | mk d =>
    rw [hx] at h
    unfold bstr
    rw [← h]
/-- Bytes, packed. -/
noncomputable def packL (l : List UInt8) : Nat := List.rec (motive := fun _ => Nat) 0 (fun c _ ih => c.toNat + 256 * ih) l
theorem packL_lt : ∀ (l : List UInt8), packL l < 256 ^ l.length
  | [] => by simp [packL]
  | c :: l => by
    have h := packL_lt l
    have hc := c.toNat_lt
    show c.toNat + 256 * packL l < 256 ^ (l.length + 1)
    rw [Nat.pow_succ]; omega
theorem bytesL_packL : ∀ (l : List UInt8), bytesL l.length (packL l) = l
  | [] => rfl
  | c :: l => by
    have hc := c.toNat_lt
    show UInt8.ofNat (c.toNat + 256 * packL l) :: bytesL l.length ((c.toNat + 256 * packL l) / 256) = c :: l
    have e : (c.toNat + 256 * packL l) / 256 = packL l := by omega
    have e2 : UInt8.ofNat (c.toNat + 256 * packL l) = c := by
      apply UInt8.toNat_inj.1
      rw [u8_ofNat_toNat]; omega
    rw [e, e2, bytesL_packL l]

def sltF : Nat → Nat → Nat → Nat → Bool
  | _, _, 0, _ => false
  | 0, _, _ + 1, _ => true
  | l + 1, n, l' + 1, n' => cond (Nat.blt (n % 256) (n' % 256)) true (cond (Nat.beq (n % 256) (n' % 256)) (sltF l (n / 256) l' (n' / 256)) false)
theorem sltF_eq : ∀ (l n l' n' : Nat), sltF l n l' n' = Op.bytesLess (bytesL l n) (bytesL l' n')
  | l, n, 0, _ => by cases l <;> simp [sltF, bytesL, Op.bytesLess]
  | 0, n, l' + 1, n' => by simp [sltF, bytesL, Op.bytesLess]
  | l + 1, n, l' + 1, n' => by
    simp only [sltF, bytesL, Op.bytesLess]
    rw [sltF_eq l (n / 256) l' (n' / 256)]
    have e1 : decide (UInt8.ofNat n < UInt8.ofNat n') = Nat.blt (n % 256) (n' % 256) := by
      rw [Bool.eq_iff_iff]
      simp [UInt8.lt_iff_toNat_lt, Nat.blt_eq]
    have e2 : (UInt8.ofNat n == UInt8.ofNat n') = Nat.beq (n % 256) (n' % 256) := by
      rw [Bool.eq_iff_iff, beq_iff_eq, Nat.beq_eq, ← UInt8.toNat_inj]
      simp
    rw [e1, e2]
    cases Nat.blt (n % 256) (n' % 256) <;> cases Nat.beq (n % 256) (n' % 256) <;> simp

/-! ### constants -/
noncomputable def ofScalar : Value → Option AV
  | .bool b => some (.bool b)
  | .int k n => some (.int k n)
  | .string s => some (.str s.data.toList.length (packL s.data.toList))
  | .pointer none => some .ptr0
  | .slice none 0 0 => some .sl0
  | .map none => some .map0
  | .nilFunc => some .fn0
  | .nilIface => some .iface0
  | .chan none => some .chan0
  | _ => none
noncomputable def ofScalars (l : List Value) : Option (List AV) :=
  List.rec (motive := fun _ => Option (List AV)) (some []) (fun v _ ih => ob (ofScalar v) fun a => ob ih fun r => some (a :: r)) l
noncomputable def ofValue : Value → Option AV
  | .agg cs => (ofScalars cs.toList).map .agg
  | .tuple vs => match vs.toList with
    | [] => some (.tup [])
    | _ => none
  | v => ofScalar v

theorem bstr_packL (s : ByteArray) : bstr s.data.toList.length (packL s.data.toList) = s := by
  unfold bstr; rw [bytesL_packL]

theorem ofScalar_rel {ρ : Ren} {v : Value} {a : AV} (h : ofScalar v = some a) : VR ρ a v := by
  unfold ofScalar at h
  split at h <;> first | (cases h; done) | skip
  all_goals (injection h with h; subst h)
  · exact .bool _
  · exact .int _ _
  · rename_i s
    have := VR.str (ρ := ρ) s.data.toList.length (packL s.data.toList) (packL_lt _)
    rwa [bstr_packL] at this
  · exact .ptr0
  · exact .sl0
  · exact .map0
  · exact .fn0
  · exact .iface0
  · exact .chan0
theorem ofScalars_rel {ρ : Ren} : ∀ {l : List Value} {r : List AV}, ofScalars l = some r → VRL ρ r l
  | [], r, h => by injection h with h; subst h; exact .nil
  | v :: l, r, h => by
    obtain ⟨a, ha, h⟩ := ob_some.1 (show ob (ofScalar v) (fun a => ob (ofScalars l) fun r => some (a :: r)) = some r from h)
    obtain ⟨r', hr, h⟩ := ob_some.1 h
    injection h with h; subst h
    exact .cons _ _ _ _ (ofScalar_rel ha) (ofScalars_rel hr)
theorem ofValue_rel {ρ : Ren} {v : Value} {a : AV} (h : ofValue v = some a) : VR ρ a v := by
  unfold ofValue at h
  split at h
  · rename_i cs
    obtain ⟨r, hr, h⟩ := Option.map_eq_some_iff.1 h
    subst h
    exact .agg _ _ (ofScalars_rel hr)
  · rename_i vs
    split at h
    · rename_i hv
      injection h with h; subst h
      have : vs = #[] := by simpa using hv
      subst this
      exact .tup _ _ .nil
    · cases h
  · exact ofScalar_rel h

/-- What an operand is. -/
noncomputable def opd (T : Tr AV) : Operand → Option AV
  | .tmp t => T.get t
  | .const v => ofValue v
  | .func f => some (.fn (.func f) [] [])
  | .global g => some (.gptr g 0)

/-- The operands' values stand for what the frame gives. -/
def XR (ρ : Ren) (X : Operand → Option AV) (f : Operand → Value) : Prop := ∀ x a, X x = some a → VR ρ a (f x)

theorem TR.xr {ρ : Ren} {T : Tr AV} {a : Act} (h : TR ρ T a.tmps) : XR ρ (opd T) a.eval := by
  intro x v hx
  cases x with
  | tmp t =>
    obtain ⟨u, h1, h2⟩ := h t v hx
    have : a.eval (.tmp t) = u := by simp [Act.eval, h1]
    rw [this]; exact h2
  | const c => exact ofValue_rel hx
  | func f =>
    injection hx with hx; subst hx
    exact .fn (.func f) [] [] [] [] .nil .nil
  | global g =>
    injection hx with hx; subst hx
    exact .gptr g 0

/-! ### whole and part -/
def natI (n : Nat) : AV := .int .i64 (.ofNat n)

noncomputable def evUn (op : UnOp) (x : AV) : Option AV :=
  match op, x with
  | .not, .bool b => some (.bool (!b))
  | .neg, .int k n => fI (wr k (0 - n)) fun r => some (.int k r)
  | _, _ => none
theorem evUn_sound {P : Program} {ρ : Ren} {op : UnOp} {x r : AV} {v : Value} (h : evUn op x = some r) (hx : VR ρ x v) (w : World) :
    ∃ u, (Op.unary op v).run P w = .ok u w ∧ VR ρ r u := by
  unfold evUn at h
  split at h
  · injection h with h; subst h; cases hx
    exact ⟨_, by simp [Op.unary], .bool _⟩
  · rw [fI_eq] at h
    injection h with h; subst h; cases hx
    refine ⟨_, by simp [Op.unary, Op.intArith]; rfl, ?_⟩
    rw [wr_eq, Int.zero_sub]; exact .int _ _
  · cases h

noncomputable def evInt (op : BinOp) (k : IntKind) (a b : Int) : Option AV :=
  match op with
  | .add => fI (wr k (a + b)) fun n => some (.int k n)
  | .sub => fI (wr k (a - b)) fun n => some (.int k n)
  | .mul => fI (wr k (a * b)) fun n => some (.int k n)
  | .quo => gd (!ieq b 0) (fI (k.wrap (a.tdiv b)) fun n => some (.int k n))
  | .rem => gd (!ieq b 0) (fI (a.tmod b) fun n => some (.int k n))
  | .and => fI (k.wrap (BitVec.ofInt k.bits a &&& BitVec.ofInt k.bits b).toNat) fun n => some (.int k n)
  | .or => fI (k.wrap (BitVec.ofInt k.bits a ||| BitVec.ofInt k.bits b).toNat) fun n => some (.int k n)
  | .xor => fI (k.wrap (BitVec.ofInt k.bits a ^^^ BitVec.ofInt k.bits b).toNat) fun n => some (.int k n)
  | .andNot => fI (k.wrap (BitVec.ofInt k.bits a &&& ~~~(BitVec.ofInt k.bits b)).toNat) fun n => some (.int k n)
  | .eql => some (.bool (ieq a b))
  | .neq => some (.bool (!ieq a b))
  | .lss => some (.bool (ilt a b))
  | .leq => some (.bool (!ilt b a))
  | .gtr => some (.bool (ilt b a))
  | .geq => some (.bool (!ilt a b))
  | .shl | .shr => none

noncomputable def evShift (op : BinOp) (k : IntKind) (a b : Int) : Option AV :=
  gd (!ilt b 0) (match op with
  | .shl => fI (k.wrap (a * 2 ^ (min b.toNat k.bits))) fun n => some (.int k n)
  | .shr => fI (a.fdiv (2 ^ (min b.toNat k.bits))) fun n => some (.int k n)
  | _ => none)

noncomputable def evStr (op : BinOp) (l n l' n' : Nat) : Option AV :=
  match op with
  | .add => gd (Nat.blt (l + l') 9223372036854775808) (fN (l + l') fun sl => fN (n + n' * 256 ^ l) fun sn => some (.str sl sn))
  | .eql => some (.bool (cond (Nat.beq l l') (Nat.beq n n') false))
  | .neq => some (.bool (!(cond (Nat.beq l l') (Nat.beq n n') false)))
  | .lss => some (.bool (sltF l n l' n'))
  | .leq => some (.bool (sltF l n l' n' || cond (Nat.beq l l') (Nat.beq n n') false))
  | .gtr => some (.bool (!(sltF l n l' n' || cond (Nat.beq l l') (Nat.beq n n') false)))
  | .geq => some (.bool (!sltF l n l' n'))
  | _ => none

end Go.Ev
