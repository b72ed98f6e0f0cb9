/- The evaluator, part E: slices of slices, conversions, lookups, lengths; all operations that read at most. -/
import Derived.Test.YtdpohandjgnknaaGreatDoorEvD
namespace Go.Ev

/-! ### lists of operands -/
noncomputable def xsL (X : Operand → Option AV) (l : List Operand) : Option (List AV) :=
  List.rec (motive := fun _ => Option (List AV)) (some []) (fun x _ ih => ob (X x) fun a => ob ih fun r => some (a :: r)) l
theorem xsL_sound {ρ : Ren} {X : Operand → Option AV} {f : Operand → Value} (hX : XR ρ X f) : ∀ {l : List Operand} {r : List AV}, xsL X l = some r → VRL ρ r (l.map f)
  | [], r, h => by injection h with h; subst h; exact .nil
  | x :: l, r, h => by
    obtain ⟨a, ha, h⟩ := ob_some.1 (show ob (X x) (fun a => ob (xsL X l) fun r => some (a :: r)) = some r from h)
    obtain ⟨r', hr, h⟩ := ob_some.1 h
    injection h with h; subst h
    exact .cons _ _ _ _ (hX _ _ ha) (xsL_sound hX hr)

/-! ### bounds of a slice -/
noncomputable def avNat : AV → Option Nat
  | .int _ (.ofNat i) => some i
  | _ => none
theorem avNat_some {a : AV} {i : Nat} (h : avNat a = some i) : ∃ k, a = .int k (Int.ofNat i) := by
  unfold avNat at h
  split at h
  · injection h with h; subst h; exact ⟨_, rfl⟩
  · cases h
/-- An operand that may be missing: a bound, at most lim. -/
noncomputable def evB (X : Operand → Option AV) (x : Option Operand) (dflt lim : Nat) : Option Nat :=
  match x with
  | none => some dflt
  | some o => ob (X o) fun a => ob (avNat a) fun i => gd (Nat.ble i lim) (some i)
theorem evB_some {X : Operand → Option AV} {o : Operand} {d lim i : Nat} (h : evB X (some o) d lim = some i) : i ≤ lim ∧ ∃ k, X o = some (.int k (Int.ofNat i)) := by
  obtain ⟨a, ha, h1⟩ := ob_some.1 (show (ob (X o) fun a => ob (avNat a) fun i => gd (Nat.ble i lim) (some i)) = some i from h)
  obtain ⟨j, hj, h2⟩ := ob_some.1 h1
  obtain ⟨hle, h3⟩ := gd_some.1 h2
  injection h3 with h3; subst h3
  obtain ⟨k, hk⟩ := avNat_some hj
  exact ⟨by rwa [Nat.ble_eq] at hle, k, by rw [ha, hk]⟩
theorem evB_sound {P : Program} {ρ : Ren} {X : Operand → Option AV} {f : Operand → Value} (hX : XR ρ X f) {o : Operand} {d lim i : Nat} (h : evB X (some o) d lim = some i) (w : World)
    (y : Nat) (hy : lim ≤ y) (code : BoundsCode) : (Instr.sliceBound (f o) y code).run P w = .ok i w := by
  obtain ⟨hle, k, hk⟩ := evB_some h
  have hr := hX _ _ hk
  generalize f o = v at hr
  cases hr
  have : ((i : Int) ≤ (y : Int)) := by omega
  simp [Instr.sliceBound, asIntOf]
  omega

def hiLim (mx : Option Operand) (m lim : Nat) : Nat :=
  match mx with
  | some _ => m
  | none => lim

/-- The three bounds: of len, cap; what is asked must lie within lim. -/
theorem sliceBounds_sound {P : Program} {ρ : Ren} {X : Operand → Option AV} {f : Operand → Value} (hX : XR ρ X f) {lo hi mx : Option Operand} {len cap lim l h m : Nat} (isS : Bool)
    (hmx : evB X mx cap lim = some m) (hlim : lim ≤ cap) (hhi : evB X hi len (hiLim mx m lim) = some h) (hlo : evB X lo 0 h = some l)
    (hno : mx.isSome = true → hi.isSome = true) (w : World) :
    (Instr.sliceBounds isS len cap (lo.map f) (hi.map f) (mx.map f)).run P w = .ok (l, h, m) w := by
  unfold Instr.sliceBounds
  cases mx with
  | none =>
    injection hmx with hmx; subst hmx
    cases hi with
    | none =>
      injection hhi with hhi; subst hhi
      cases lo with
      | none => injection hlo with hlo; subst hlo; simp
      | some o => simp [evB_sound hX hlo w _ (Nat.le_refl _)]
    | some oh =>
      have e1 := fun c => evB_sound (P := P) hX hhi w cap hlim c
      cases lo with
      | none => injection hlo with hlo; subst hlo; simp [e1]
      | some o => simp [e1, evB_sound hX hlo w _ (Nat.le_refl _)]
  | some om =>
    have e0 := fun c => evB_sound (P := P) hX hmx w cap hlim c
    cases hi with
    | none => exact absurd (hno rfl) (by simp)
    | some oh =>
      have e1 := fun c => evB_sound (P := P) hX hhi w m (Nat.le_refl _) c
      cases lo with
      | none => injection hlo with hlo; subst hlo; simp [e0, e1]
      | some o => simp [e0, e1, evB_sound hX hlo w _ (Nat.le_refl _)]

noncomputable def evSlice (P : Program) (X : Operand → Option AV) (t : TypeId) (x : AV) (lo hi mx : Option Operand) : Option AV :=
  ob (P.underlying t) fun d => gd (!mx.isSome || hi.isSome) (match d, x with
    | .string, .str len n => gd (!mx.isSome) (ob (evB X hi len len) fun h => ob (evB X lo 0 h) fun l =>
        fN (n / 256 ^ l % 256 ^ (h - l)) fun s => some (.str (h - l) s))
    | .slice e, .sl id off len cap => ob (P.underlying e) fun _ => ob (evB X mx cap cap) fun m => ob (evB X hi len (hiLim mx m cap)) fun h => ob (evB X lo 0 h) fun l =>
        cond (Nat.beq m l) (fN (h - l) fun n' => some (.sl id off n' 0)) (fN (off + l * P.cellsOf e) fun o => fN (h - l) fun n' => fN (m - l) fun c' => some (.sl id o n' c'))
    | .slice e, .slo id off len esz => ob (P.underlying e) fun _ => gd (Nat.beq (P.cellsOf e) esz) (match mx with
        | none => ob (evB X hi len len) fun h => ob (evB X lo 0 h) fun l => cond (Nat.blt l len || Nat.beq l 0)
            (fN (off + l * esz) fun o => fN (h - l) fun n' => some (.slo id o n' esz)) (some (.sle id))
        | some _ => ob (evB X mx 0 len) fun m => ob (evB X hi len m) fun h => ob (evB X lo 0 h) fun l =>
            cond (Nat.beq m l) (fN (h - l) fun n' => some (.sl id off n' 0)) (fN (off + l * esz) fun o => fN (h - l) fun n' => fN (m - l) fun c' => some (.sl id o n' c')))
    | .slice e, .sle id => ob (P.underlying e) fun _ => gd (!mx.isSome) (ob (evB X hi 0 0) fun h => ob (evB X lo 0 h) fun _ => some (.sle id))
    | .slice e, .sl0 => ob (P.underlying e) fun _ => ob (evB X mx 0 0) fun m => ob (evB X hi 0 (hiLim mx m 0)) fun h => ob (evB X lo 0 h) fun _ => some .sl0
    | .array n e, .ptr id off => ob (P.underlying e) fun _ => ob (evB X mx n n) fun m => ob (evB X hi n (hiLim mx m n)) fun h => ob (evB X lo 0 h) fun l =>
        cond (Nat.beq m l) (fN (h - l) fun n' => some (.sl id off n' 0)) (fN (off + l * P.cellsOf e) fun o => fN (h - l) fun n' => fN (m - l) fun c' => some (.sl id o n' c'))
    | _, _ => none)

theorem evB_le {X : Operand → Option AV} {x : Option Operand} {d lim i : Nat} (hd : d ≤ lim) (h : evB X x d lim = some i) : i ≤ lim := by
  cases x with
  | none => injection h with h; omega
  | some o => exact (evB_some h).1

theorem sl_of {ρ : Ren} {id off l m n' esz : Nat} {b : Blk} {r : AV} (hb : ρ id = some b)
    (h : cond (Nat.beq m l) (fN n' fun n' => some (AV.sl id off n' 0)) (fN (off + l * esz) fun o => fN n' fun n' => fN (m - l) fun c' => some (AV.sl id o n' c')) = some r) :
    VR ρ r (.slice (some (if m = l then ⟨b.b, b.ob + off, none⟩ else ⟨b.b, b.ob + (off + l * esz), none⟩)) n' (m - l)) := by
  simp only [fN_eq] at h
  cases hm : Nat.beq m l with
  | true =>
    rw [hm, cond_true] at h
    injection h with h; subst h
    rw [Nat.beq_eq] at hm; subst hm
    rw [if_pos rfl, Nat.sub_self]
    exact .sl _ _ _ _ b hb
  | false =>
    rw [hm, cond_false] at h
    injection h with h; subst h
    have : m ≠ l := fun e => by rw [← Nat.beq_eq, hm] at e; cases e
    rw [if_neg this]
    exact .sl _ _ _ _ b hb

set_option maxHeartbeats 1000000 in
theorem evSlice_sound {P : Program} {ρ : Ren} {X : Operand → Option AV} {f : Operand → Value} (hX : XR ρ X f) {t : TypeId} {x r : AV} {lo hi mx : Option Operand} {u : Value} (hx : VR ρ x u)
    (h : evSlice P X t x lo hi mx = some r) (w : World) : ∃ z, (Instr.sliceAt t u (lo.map f) (hi.map f) (mx.map f)).run P w = .ok z w ∧ VR ρ r z := by
  obtain ⟨d, hd, h1⟩ := ob_some.1 h
  clear h
  obtain ⟨hno0, h2⟩ := gd_some.1 h1
  clear h1
  have hno : mx.isSome = true → hi.isSome = true := by
    intro hm; rw [hm] at hno0; simpa using hno0
  split at h2
  · obtain ⟨hmx, h3⟩ := gd_some.1 h2
    obtain ⟨ih, hih, h4⟩ := ob_some.1 h3
    obtain ⟨il, hil, h5⟩ := ob_some.1 h4
    clear h2 h3 h4
    rw [fN_eq] at h5
    injection h5 with h5; subst h5
    cases mx with
    | some _ => simp at hmx
    | none =>
      cases hx with
      | str _ _ hn =>
        rename_i len n
        have hb := sliceBounds_sound (P := P) hX (lo := lo) (hi := hi) (mx := none) (len := len) (cap := len) (lim := len) false rfl (Nat.le_refl _) hih hil (by simp) w
        have h1 := evB_le (Nat.le_refl _) hih
        have h2 := evB_le (Nat.zero_le _) hil
        refine ⟨_, ?_, .str _ _ (Nat.mod_lt _ (Nat.pow_pos (by decide)))⟩
        have hb' : (Instr.sliceBounds false (bstr len n).size (bstr len n).size (lo.map f) (hi.map f) none).run P w = .ok (il, ih, len) w := by
          rw [bstr_size]; exact hb
        simp [Instr.sliceAt, Instr.slice, run_underlying hd, hb', bstr_extract _ _ _ _ h1 h2]
  · obtain ⟨de, hde, h3⟩ := ob_some.1 h2
    obtain ⟨m, hm, h4⟩ := ob_some.1 h3
    obtain ⟨ih, hih, h5⟩ := ob_some.1 h4
    obtain ⟨il, hil, h6⟩ := ob_some.1 h5
    clear h2 h3 h4 h5
    cases hx with
    | sl _ _ _ _ b hb =>
      have hbs := sliceBounds_sound (P := P) hX true hm (Nat.le_refl _) hih hil hno w
      refine ⟨_, ?_, sl_of hb h6⟩
      simp [Instr.sliceAt, Instr.slice, run_underlying hd, hbs, run_sizeOf' hde, addr_add, Nat.add_assoc]
      split <;> simp
  · obtain ⟨de, hde, h3⟩ := ob_some.1 h2
    obtain ⟨hez, h4⟩ := gd_some.1 h3
    clear h2 h3
    rw [Nat.beq_eq] at hez
    cases hx with
    | slo _ _ _ _ b hb he hl =>
      rename_i e id off len esz
      have hcap : len ≤ (b.cap - off) / esz := by
        rw [Nat.le_div_iff_mul_le he]; omega
      split at h4
      · obtain ⟨ih, hih, h5⟩ := ob_some.1 h4
        obtain ⟨il, hil, h6⟩ := ob_some.1 h5
        clear h4 h5
        have hbs := sliceBounds_sound (P := P) hX (lo := lo) (hi := hi) (mx := none) (len := len) (cap := (b.cap - off) / esz) (lim := len) true rfl hcap hih hil (by simp) w
        simp only [Option.map_none] at hbs
        have h1 := evB_le (Nat.le_refl _) hih
        have h2 := evB_le (Nat.zero_le _) hil
        cases hlt0 : (Nat.blt il len || Nat.beq il 0) with
        | true =>
          rw [hlt0, cond_true] at h6
          have hlt := hlt0
          simp only [fN_eq] at h6
          injection h6 with h6; subst h6
          have hm1 : il * esz ≤ ih * esz := Nat.mul_le_mul_right _ h2
          have hm2 : ih * esz ≤ len * esz := Nat.mul_le_mul_right _ h1
          have hm3 : (ih - il) * esz = ih * esz - il * esz := Nat.sub_mul _ _ _
          have hv := VR.slo (ρ := ρ) id (off + il * esz) (ih - il) esz b hb he (by omega)
          have hc : (b.cap - (off + il * esz)) / esz = (b.cap - off) / esz - il := by
            rw [show b.cap - (off + il * esz) = b.cap - off - il * esz by omega, Nat.mul_comm, Nat.sub_mul_div]
          rw [hc] at hv
          refine ⟨_, ?_, hv⟩
          by_cases h0 : (b.cap - off) / esz = il
          · have : il = 0 := by
              rcases Bool.or_eq_true _ _ ▸ hlt with h | h
              · rw [Nat.blt_eq] at h; omega
              · rwa [Nat.beq_eq] at h
            subst this
            simp [Instr.sliceAt, Instr.slice, run_underlying hd, hbs, run_sizeOf' hde, addr_add, Nat.add_assoc, hez]
          · simp [Instr.sliceAt, Instr.slice, run_underlying hd, hbs, run_sizeOf' hde, addr_add, Nat.add_assoc, hez, h0]
        | false =>
          rw [hlt0, cond_false] at h6
          injection h6 with h6; subst h6
          have hz : ¬ il < len := fun hh => by rw [← Nat.blt_eq] at hh; rw [hh] at hlt0; cases hlt0
          have e1 : ih - il = 0 := by omega
          refine ⟨.slice (some ⟨b.b, if (b.cap - off) / esz = il then b.ob + off else b.ob + (off + il * esz), none⟩) 0 ((b.cap - off) / esz - il), ?_, .sle _ _ _ _ hb⟩
          by_cases h0 : (b.cap - off) / esz = il
          · rw [h0] at hbs
            simp [Instr.sliceAt, Instr.slice, run_underlying hd, hbs, run_sizeOf' hde, addr_add, Nat.add_assoc, hez, h0, e1]
          · simp [Instr.sliceAt, Instr.slice, run_underlying hd, hbs, run_sizeOf' hde, addr_add, Nat.add_assoc, hez, h0, e1]
      · rename_i om
        obtain ⟨m, hm, h5⟩ := ob_some.1 h4
        obtain ⟨ih, hih, h6⟩ := ob_some.1 h5
        obtain ⟨il, hil, h7⟩ := ob_some.1 h6
        clear h4 h5 h6
        have hm' : evB X (some om) ((b.cap - off) / esz) len = some m := hm
        have hbs := sliceBounds_sound (P := P) hX (len := len) true hm' hcap hih hil hno w
        refine ⟨_, ?_, sl_of hb h7⟩
        simp only [Option.map_some] at hbs
        simp [Instr.sliceAt, Instr.slice, run_underlying hd, hbs, run_sizeOf' hde, addr_add, Nat.add_assoc, hez]
        split <;> simp
  · obtain ⟨de, hde, h3⟩ := ob_some.1 h2
    obtain ⟨hmx, h4⟩ := gd_some.1 h3
    obtain ⟨ih, hih, h5⟩ := ob_some.1 h4
    obtain ⟨il, hil, h6⟩ := ob_some.1 h5
    clear h2 h3 h4 h5
    injection h6 with h6; subst h6
    cases mx with
    | some _ => simp at hmx
    | none =>
      cases hx with
      | sle _ b o c hb =>
        have hbs := sliceBounds_sound (P := P) hX (lo := lo) (hi := hi) (mx := none) (len := 0) (cap := c) (lim := 0) true rfl (Nat.zero_le _) hih hil (by simp) w
        simp only [Option.map_none] at hbs
        have h1 := evB_le (Nat.le_refl _) hih
        have h2 := evB_le (Nat.zero_le _) hil
        have e1 : ih = 0 := by omega
        have e2 : il = 0 := by omega
        subst e1; subst e2
        refine ⟨.slice (some ⟨b.b, o, none⟩) 0 c, ?_, .sle _ _ _ _ hb⟩
        simp [Instr.sliceAt, Instr.slice, run_underlying hd, hbs, run_sizeOf' hde, addr_add]
  · obtain ⟨de, hde, h3⟩ := ob_some.1 h2
    obtain ⟨m, hm, h4⟩ := ob_some.1 h3
    obtain ⟨ih, hih, h5⟩ := ob_some.1 h4
    obtain ⟨il, hil, h6⟩ := ob_some.1 h5
    clear h2 h3 h4 h5
    injection h6 with h6; subst h6
    cases hx
    have hbs := sliceBounds_sound (P := P) hX true hm (Nat.le_refl _) hih hil hno w
    have h1 := evB_le (Nat.le_refl _) hm
    have h2 : ih ≤ 0 := by
      cases mx with
      | none => exact evB_le (Nat.le_refl _) hih
      | some _ => exact Nat.le_trans (evB_le (Nat.zero_le _) hih) h1
    have h3 := evB_le (Nat.zero_le _) hil
    have e1 : m = 0 := by omega
    have e2 : ih = 0 := by omega
    have e3 : il = 0 := by omega
    subst e1; subst e2; subst e3
    refine ⟨_, ?_, .sl0⟩
    simp [Instr.sliceAt, Instr.slice, run_underlying hd, hbs, run_sizeOf' hde]
  · obtain ⟨de, hde, h3⟩ := ob_some.1 h2
    obtain ⟨m, hm, h4⟩ := ob_some.1 h3
    obtain ⟨ih, hih, h5⟩ := ob_some.1 h4
    obtain ⟨il, hil, h6⟩ := ob_some.1 h5
    clear h2 h3 h4 h5
    cases hx with
    | ptr _ _ b hb =>
      have hbs := sliceBounds_sound (P := P) hX false hm (Nat.le_refl _) hih hil hno w
      refine ⟨_, ?_, sl_of hb h6⟩
      simp [Instr.sliceAt, Instr.sureAddr, run_underlying hd, hbs, run_sizeOf' hde, addr_add, Nat.add_assoc]
  · cases h2

/-! ### conversions -/
noncomputable def evConv (P : Program) (src dst : TypeId) (x : AV) : Option AV :=
  ob (P.underlying src) fun _ => ob (P.underlying dst) fun d => match d, x with
    | .int k, .int _ n => fI (wr k n) fun r => some (.int k r)
    | .string, .str l n => some (.str l n)
    | _, _ => none
theorem evConv_sound {P : Program} {ρ : Ren} {src dst : TypeId} {x r : AV} {u : Value} (hx : VR ρ x u) (h : evConv P src dst x = some r) (w : World) :
    ∃ z, (convert src dst u).run P w = .ok z w ∧ VR ρ r z := by
  obtain ⟨ds, hds, h1⟩ := ob_some.1 h
  obtain ⟨dd, hdd, h2⟩ := ob_some.1 h1
  clear h h1
  split at h2
  · rw [fI_eq, wr_eq] at h2
    injection h2 with h2; subst h2
    cases hx
    exact ⟨_, by simp [convert, run_underlying hds, run_underlying hdd, Conv.intToInt], .int _ _⟩
  · injection h2 with h2; subst h2
    cases hx with
    | str _ _ hn => exact ⟨_, by simp [convert, run_underlying hds, run_underlying hdd], .str _ _ hn⟩
  · cases h2

/-! ### maps -/
noncomputable def sameK (kd : TypeDesc) (a b : AV) : Option Bool :=
  match kd, a, b with
  | .int _, .int k a, .int k' b => gd (ikEq k k') (some (ieq a b))
  | .string, .str l n, .str l' n' => some (cond (Nat.beq l l') (Nat.beq n n') false)
  | .bool, .bool a, .bool b => some (cond a b (!b))
  | _, _, _ => none
theorem sameK_sound {ρ : Ren} {kd : TypeDesc} {a b : AV} {u v : Value} {r : Bool} (ha : VR ρ a u) (hb : VR ρ b v) (h : sameK kd a b = some r) : Instr.sameNow kd u v = some r := by
  unfold sameK at h
  split at h
  · obtain ⟨hk, h1⟩ := gd_some.1 h
    clear h
    have hk' := ikEq_eq hk
    subst hk'
    injection h1 with h1; subst h1
    cases ha; cases hb
    simp [Instr.sameNow, ieq_eq]
  · injection h with h; subst h
    cases ha with
    | str _ _ h1 => cases hb with
      | str _ _ h2 => rw [← bstr_beq h1 h2]; simp [Instr.sameNow, beq_toListBytes]
  · injection h with h; subst h
    cases ha; cases hb
    rename_i a b
    cases a <;> cases b <;> rfl
  · cases h

/-- Where a key stands among entries. -/
noncomputable def findK (kd : TypeDesc) (k : AV) (es : List AEnt) : Nat → Option (Option (Nat × AV)) :=
  List.rec (motive := fun _ => Nat → Option (Option (Nat × AV))) (fun _ => some none)
    (fun e _ ih i => ob (sameK kd k e.key) fun r => cond r (some (some (i, e.val))) (ih (i + 1))) es
theorem findK_sound {ρ : Ren} {kd : TypeDesc} {k : AV} {u : Value} (hk : VR ρ k u) : ∀ {es : List AEnt} {l : List MapEntry}, ERL ρ es l → ∀ (i : Nat) (r : Option (Nat × AV)),
    findK kd k es i = some r → ∃ r', Instr.findNow kd u l i = some r' ∧ (match r with | none => r' = none | some (j, a) => ∃ v, r' = some (j, v) ∧ VR ρ a v)
  | _, _, .nil, i, r, h => by injection h with h; subst h; exact ⟨none, rfl, rfl⟩
  | _, _, .cons e m es l he hs, i, r, h => by
    obtain ⟨s, hs', h1⟩ := ob_some.1 (show ob (sameK kd k e.key) (fun r => cond r (some (some (i, e.val))) (findK kd k es (i + 1))) = some r from h)
    have hn := sameK_sound hk he.1 hs'
    cases s with
    | true =>
      injection h1 with h1; subst h1
      exact ⟨some (i, m.val), by simp [Instr.findNow, hn], m.val, rfl, he.2.1⟩
    | false =>
      obtain ⟨r', h2, h3⟩ := findK_sound hk hs (i + 1) r h1
      exact ⟨r', by simp [Instr.findNow, hn, h2], h3⟩

def keyD : TypeDesc → Bool
  | .int _ | .string | .bool => true
  | _ => false

theorem checkKey_plain {P : Program} {t : TypeId} {d : TypeDesc} (hd : P.underlying t = some d) (hk : keyD d = true) (e : Bool) (n : Nat) (v : Value) (w : World) :
    (Instr.checkKey e (n + 1) t v).run P w = .ok () w := by
  cases d <;> first | (cases hk; done) | (simp [Instr.checkKey, run_underlying hd])

noncomputable def zeroAV (P : Program) (t : TypeId) : Option AV := ob (P.info? t) fun i => ob i.zero fun z => ofValue z
theorem zeroAV_sound {P : Program} {t : TypeId} {a : AV} (h : zeroAV P t = some a) (w : World) : ∃ z, (zeroValue t).run P w = .ok z w ∧ ∀ ρ : Ren, VR ρ a z := by
  obtain ⟨i, hi, h1⟩ := ob_some.1 h
  obtain ⟨z, hz, h2⟩ := ob_some.1 h1
  exact ⟨z, by simp [zeroValue, run_typeInfo w hi, hz], fun ρ => ofValue_rel h2⟩

noncomputable def evLookup (P : Program) (H : Tr AObj) (t : TypeId) (m k : AV) (ok : Bool) : Option AV :=
  ob (P.underlying t) fun d => match d with
    | .map key elem => ob (P.underlying key) fun kd => gd (keyD kd) (ob (match m with
        | .map0 => some []
        | .map id => ob (H.get id) fun o => match o with
          | .map es _ => some es
          | _ => none
        | _ => none) fun es => ob (findK kd k es 0) fun r => ob (match r with
          | some (_, v) => some (v, true)
          | none => ob (zeroAV P elem) fun z => some (z, false)) fun p => some (cond ok (.tup [p.1, .bool p.2]) p.1))
    | _ => none

theorem evLookup_sound {P : Program} {E : Env} {F : Nat → Option Obj} {nx : Nat} {ρ : Ren} {h : Nat → Option AObj} {w : World} {H : Tr AObj} (r : Rel E F nx ρ h w) (hs : HS ρ H h)
    {t : TypeId} {m k a : AV} {ok : Bool} {u v : Value} (hm : VR ρ m u) (hk : VR ρ k v) (hev : evLookup P H t m k ok = some a) : ∃ z, (Instr.lookup t u v ok).run P w = .ok z w ∧ VR ρ a z := by
  obtain ⟨d, hd, h1⟩ := ob_some.1 hev
  clear hev
  split at h1
  · rename_i key elem
    obtain ⟨kd, hkd, h2⟩ := ob_some.1 h1
    obtain ⟨hkk, h3⟩ := gd_some.1 h2
    obtain ⟨es, hes, h4⟩ := ob_some.1 h3
    obtain ⟨fr, hfr, h5⟩ := ob_some.1 h4
    obtain ⟨p, hp, h6⟩ := ob_some.1 h5
    clear h1 h2 h3 h4 h5
    injection h6 with h6; subst h6
    have fin : ∀ l : List MapEntry, ERL ρ es l → (u = .map none ∧ l = [] ∨ ∃ b clock, u = .map (some b) ∧ w.heap[b]? = some (.map l.toArray clock)) →
        ∃ z, (Instr.lookup t u v ok).run P w = .ok z w ∧ VR ρ (cond ok (.tup [p.1, .bool p.2]) p.1) z := by
      intro l hl hu
      obtain ⟨r', hfn, hr'⟩ := findK_sound hk hl 0 fr hfr
      have hck := fun e => checkKey_plain (P := P) hkd hkk e 9999 v w
      split at hp
      · rename_i j val
        injection hp with hp; subst hp
        obtain ⟨z, hz, hzr⟩ := hr'
        subst hz
        cases ok with
        | true =>
          refine ⟨.tuple #[z, .bool true], ?_, .tup _ [z, .bool true] (.cons _ _ _ _ hzr (.cons _ _ _ _ (.bool true) .nil))⟩
          rcases hu with ⟨rfl, rfl⟩ | ⟨b, clock, rfl, hb⟩
          · simp [Instr.lookup, run_underlying hd, hck, Instr.findKey, run_underlying hkd, hfn]
          · simp [Instr.lookup, run_underlying hd, hck, Instr.findKey, run_underlying hkd, hfn, getObj, Sem.run, hb]
        | false =>
          refine ⟨z, ?_, hzr⟩
          rcases hu with ⟨rfl, rfl⟩ | ⟨b, clock, rfl, hb⟩
          · simp [Instr.lookup, run_underlying hd, hck, Instr.findKey, run_underlying hkd, hfn]
          · simp [Instr.lookup, run_underlying hd, hck, Instr.findKey, run_underlying hkd, hfn, getObj, Sem.run, hb]
      · obtain ⟨z, hz, h8⟩ := ob_some.1 hp
        injection h8 with h8; subst h8
        have hr0 : r' = none := hr'
        subst hr0
        obtain ⟨zv, hzv, hzr⟩ := zeroAV_sound hz w
        cases ok with
        | true =>
          refine ⟨.tuple #[zv, .bool false], ?_, .tup _ [zv, .bool false] (.cons _ _ _ _ (hzr ρ) (.cons _ _ _ _ (.bool false) .nil))⟩
          rcases hu with ⟨rfl, rfl⟩ | ⟨b, clock, rfl, hb⟩
          · simp [Instr.lookup, run_underlying hd, hck, Instr.findKey, run_underlying hkd, hfn, hzv]
          · simp [Instr.lookup, run_underlying hd, hck, Instr.findKey, run_underlying hkd, hfn, getObj, Sem.run, hb, hzv]
        | false =>
          refine ⟨zv, ?_, hzr ρ⟩
          rcases hu with ⟨rfl, rfl⟩ | ⟨b, clock, rfl, hb⟩
          · simp [Instr.lookup, run_underlying hd, hck, Instr.findKey, run_underlying hkd, hfn, hzv]
          · simp [Instr.lookup, run_underlying hd, hck, Instr.findKey, run_underlying hkd, hfn, getObj, Sem.run, hb, hzv]
    split at hes
    · injection hes with hes; subst hes
      cases hm
      exact fin [] .nil (.inl ⟨rfl, rfl⟩)
    · obtain ⟨o, ho, h7⟩ := ob_some.1 hes
      cases hm with
      | map _ b hb =>
        obtain ⟨c, hc, hor⟩ := r.ob _ o b (hs _ o ho (.inl ⟨b, hb⟩)) hb
        split at h7
        · injection h7 with h7; subst h7
          cases hor with
          | map es clock l hl => exact fin l hl (.inr ⟨_, _, rfl, hc⟩)
        · cases h7
    · cases hes
  · cases h1

end Go.Ev
