/- The symbolic layer, part C: conversions, maps, calls of the library without a text; all operations that read at most. -/
import Derived.Test.YtblcpogddmjonaaDoorSxB
set_option linter.unusedVariables false
set_option linter.unusedSimpArgs false
namespace Go.Ev

mutual
def avEq : AV → AV → Bool
  | .bool a, .bool b => cond a b (!b)
  | .int k a, .int k' b => cond (ikEq k k') (ieq a b) false
  | .str l n, .str l' n' => cond (Nat.beq l l') (Nat.beq n n') false
  | .ptr0, .ptr0 => true
  | .ptr i o, .ptr j p => cond (Nat.beq i j) (Nat.beq o p) false
  | .sl0, .sl0 => true
  | .sl i o n c, .sl j p m d => cond (Nat.beq i j) (cond (Nat.beq o p) (cond (Nat.beq n m) (Nat.beq c d) false) false) false
  | .slo i o n c, .slo j p m d => cond (Nat.beq i j) (cond (Nat.beq o p) (cond (Nat.beq n m) (Nat.beq c d) false) false) false
  | .sle i, .sle j => Nat.beq i j
  | .map0, .map0 => true
  | .map i, .map j => Nat.beq i j
  | .fn0, .fn0 => true
  | .yld i, .yld j => Nat.beq i j
  | .fn (.func f) a c, .fn (.func g) b d => cond (Nat.beq f g) (cond (avEqL a b) (avEqL c d) false) false
  | .iface t v, .iface u x => cond (Nat.beq t u) (avEq v x) false
  | .iface0, .iface0 => true
  | .agg l, .agg m => avEqL l m
  | .tup l, .tup m => avEqL l m
  | _, _ => false
def avEqL : List AV → List AV → Bool
  | [], [] => true
  | a :: l, b :: m => cond (avEq a b) (avEqL l m) false
  | _, _ => false
end

theorem cond_and {a b : Bool} (h : cond a b false = true) : a = true ∧ b = true := by
  cases a <;> cases b <;> first | exact ⟨rfl, rfl⟩ | cases h

mutual
theorem avEq_eq : ∀ (a b : AV), avEq a b = true → a = b
  | .bool a, b, h => by
    cases b <;> first | (simp [avEq] at h; done) | skip
    rename_i b; cases a <;> cases b <;> first | rfl | (simp [avEq] at h; done)
  | .int k a, b, h => by
    cases b <;> first | (simp [avEq] at h; done) | skip
    rw [avEq] at h
    obtain ⟨h1, h2⟩ := cond_and h
    rw [ieq_eq] at h2
    rw [ikEq_eq h1, eq_of_beq h2]
  | .str l n, b, h => by
    cases b <;> first | (simp [avEq] at h; done) | skip
    rw [avEq] at h
    obtain ⟨h1, h2⟩ := cond_and h
    rw [Nat.beq_eq] at h1 h2
    rw [h1, h2]
  | .ptr0, b, h => by cases b <;> first | rfl | (simp [avEq] at h; done)
  | .ptr i o, b, h => by
    cases b <;> first | (simp [avEq] at h; done) | skip
    rw [avEq] at h
    obtain ⟨h1, h2⟩ := cond_and h
    rw [Nat.beq_eq] at h1 h2
    rw [h1, h2]
  | .sl0, b, h => by cases b <;> first | rfl | (simp [avEq] at h; done)
  | .sl i o n c, b, h => by
    cases b <;> first | (simp [avEq] at h; done) | skip
    rw [avEq] at h
    obtain ⟨h1, h2⟩ := cond_and h
    obtain ⟨h2, h3⟩ := cond_and h2
    obtain ⟨h3, h4⟩ := cond_and h3
    rw [Nat.beq_eq] at h1 h2 h3 h4
    rw [h1, h2, h3, h4]
  | .slo i o n c, b, h => by
    cases b <;> first | (simp [avEq] at h; done) | skip
    rw [avEq] at h
    obtain ⟨h1, h2⟩ := cond_and h
    obtain ⟨h2, h3⟩ := cond_and h2
    obtain ⟨h3, h4⟩ := cond_and h3
    rw [Nat.beq_eq] at h1 h2 h3 h4
    rw [h1, h2, h3, h4]
  | .sle i, b, h => by
    cases b <;> first | (simp [avEq] at h; done) | skip
    rw [avEq, Nat.beq_eq] at h; rw [h]
  | .map0, b, h => by cases b <;> first | rfl | (simp [avEq] at h; done)
  | .map i, b, h => by
    cases b <;> first | (simp [avEq] at h; done) | skip
    rw [avEq, Nat.beq_eq] at h; rw [h]
  | .fn0, b, h => by cases b <;> first | rfl | (simp [avEq] at h; done)
  | .yld i, b, h => by
    cases b <;> first | (simp [avEq] at h; done) | skip
    rw [avEq, Nat.beq_eq] at h; rw [h]
  | .fn f a c, b, h => by
    cases b <;> first | (cases f <;> simp [avEq] at h; done) | skip
    rename_i g b d
    cases f <;> cases g <;> first | (simp [avEq] at h; done) | skip
    rw [avEq] at h
    obtain ⟨h1, h2⟩ := cond_and h
    obtain ⟨h2, h3⟩ := cond_and h2
    rw [Nat.beq_eq] at h1
    rw [h1, avEqL_eq a b h2, avEqL_eq c d h3]
  | .iface t v, b, h => by
    cases b <;> first | (simp [avEq] at h; done) | skip
    rw [avEq] at h
    obtain ⟨h1, h2⟩ := cond_and h
    rw [Nat.beq_eq] at h1
    rw [h1, avEq_eq v _ h2]
  | .iface0, b, h => by cases b <;> first | rfl | (simp [avEq] at h; done)
  | .agg l, b, h => by
    cases b <;> first | (simp [avEq] at h; done) | skip
    rw [avEq] at h
    rw [avEqL_eq l _ h]
  | .tup l, b, h => by
    cases b <;> first | (simp [avEq] at h; done) | skip
    rw [avEq] at h
    rw [avEqL_eq l _ h]
theorem avEqL_eq : ∀ (a b : List AV), avEqL a b = true → a = b
  | [], b, h => by cases b <;> first | rfl | (simp [avEqL] at h; done)
  | a :: l, b, h => by
    cases b with
    | nil => simp [avEqL] at h
    | cons b m =>
      rw [avEqL] at h
      obtain ⟨h1, h2⟩ := cond_and h
      rw [avEq_eq a b h1, avEqL_eq l m h2]
end


/-! ### bytes in memory -/
def byteO (l : List AV) : UInt8 := match l with
  | [.int _ n] => UInt8.ofNat n.toNat
  | _ => 0
def isB (l : List AV) : Bool := match l with
  | [.int .u8 _] => true
  | _ => false
/-- The bytes of n elements of one cell. -/
def rowB (n : Nat) (f : Nat → List AV) : List UInt8 := (List.range n).map fun i => byteO (f i)
def allB (n : Nat) (f : Nat → List AV) : Bool := decide (∀ i, i < n → isB (f i) = true)

/-- Such bytes stand where a slice points to. -/
def BytesIn (w : World) (u : Value) (l : List UInt8) : Prop :=
  (∃ base c, u = .slice base 0 c ∧ l = []) ∨ ∃ (ad : Addr) (c : Nat) (ns : List Int), u = .slice (some ad) l.length c ∧ l = ns.map (fun n => UInt8.ofNat n.toNat) ∧ ∀ j v, (ns.map (Value.int .u8))[j]? = some v → w.cell? (ad.add j) = some v

noncomputable def bytesA (H : Tr AObj) (x : AV) : Option (Bool × List UInt8) :=
  match x with
  | .bv l => some (true, l)
  | .vec esz n f => gd (Nat.beq esz 1) (some (allB n f, rowB n f))
  | .slg id n esz => gd (Nat.beq esz 1) (ob (H.get id) fun o => match o with
    | .cells _ c z N _ => match c, z with
      | .leaf, .rows e f => gd (Nat.beq e 1) (some (cond (Nat.ble n N) (allB n f) false, rowB n f))
      | _, _ => none
    | _ => none)
  | .sl0 => some (true, [])
  | .sle _ => some (true, [])
  | .sl id off n _ => ob (evCells H id off n) fun l => gd (l.all fun a => isB [a]) (some (true, l.map fun a => byteO [a]))
  | .slo id off n _ => ob (evCells H id off n) fun l => gd (l.all fun a => isB [a]) (some (true, l.map fun a => byteO [a]))
  | _ => none

theorem isB_val {ρ : Ren} {l : List AV} {vs : List Value} (h : isB l = true) (hv : VRL ρ l vs) : ∃ n, vs = [.int .u8 n] ∧ byteO l = UInt8.ofNat n.toNat := by
  unfold isB at h
  split at h
  · cases hv with
    | cons _ _ _ _ h1 h2 => cases h1; cases h2; exact ⟨_, rfl, rfl⟩
  · cases h

theorem bytes_of_list {ρ : Ren} : ∀ {l : List AV} {vs : List Value}, VRL ρ l vs → (l.all fun a => isB [a]) = true → ∃ ns : List Int, vs = ns.map (Value.int .u8) ∧ (l.map fun a => byteO [a]) = ns.map fun n => UInt8.ofNat n.toNat
  | _, _, .nil, _ => ⟨[], rfl, rfl⟩
  | _, _, .cons a v l vs h hs, hb => by
    simp only [List.all_cons, Bool.and_eq_true] at hb
    obtain ⟨n, h1, h2⟩ := isB_val hb.1 (.cons _ _ _ _ h .nil)
    injection h1 with h1
    obtain ⟨ns, h3, h4⟩ := bytes_of_list hs hb.2
    exact ⟨n :: ns, by simp [h1, h3], by simp [h2, h4]⟩

theorem rows_list {w : World} {n : Nat} {f : Nat → List AV} {ad : Addr} (hb : allB n f = true) (h : ∀ i, i < n → ∃ v, (∃ m, v = Value.int .u8 m ∧ byteO (f i) = UInt8.ofNat m.toNat) ∧ w.cell? (ad.add i) = some v) :
    ∃ ns : List Int, ns.length = n ∧ rowB n f = ns.map (fun n => UInt8.ofNat n.toNat) ∧ ∀ j v, (ns.map (Value.int .u8))[j]? = some v → w.cell? (ad.add j) = some v := by
  classical
  have hm : ∀ i, ∃ m : Int, i < n → byteO (f i) = UInt8.ofNat m.toNat ∧ w.cell? (ad.add i) = some (.int .u8 m) := fun i => by
    by_cases hi : i < n
    · obtain ⟨v, ⟨m, rfl, h2⟩, h3⟩ := h i hi
      exact ⟨m, fun _ => ⟨h2, h3⟩⟩
    · exact ⟨0, fun h => absurd h hi⟩
  refine ⟨(List.range n).map fun i => Classical.choose (hm i), by simp, ?_, fun j v hj => ?_⟩
  · unfold rowB
    rw [List.map_map]
    apply List.map_congr_left
    intro i hi
    rw [List.mem_range] at hi
    exact (Classical.choose_spec (hm i) hi).1
  · rw [List.map_map, List.getElem?_map] at hj
    cases hr : (List.range n)[j]? with
    | none => rw [hr] at hj; cases hj
    | some i =>
      rw [hr] at hj
      obtain ⟨hlt, rfl⟩ := List.getElem?_eq_some_iff.1 hr
      injection hj with hj; subst hj
      simp only [List.length_range] at hlt
      have := (Classical.choose_spec (hm j) hlt).2
      simpa using this

theorem bytesA_sound {E : Env} {F : Nat → Option Obj} {nx : Nat} {ρ : Ren} {h : Nat → Option AObj} {w : World} {H : Tr AObj} (r : Rel E F nx ρ h w) (hs : HS ρ H h)
    {x : AV} {u : Value} {l : List UInt8} (hx : VR ρ x u) (hev : bytesA H x = some (true, l)) : BytesIn w u l := by
  unfold bytesA at hev
  split at hev
  · rename_i L
    injection hev with hev; injection hev with _ hev; subst hev
    cases hx with
    | bv _ b o cap cs el fz hst hcap hc =>
      refine .inr ⟨⟨b, o, none⟩, cap, L.map (fun b => (b.toNat : Int)), rfl, ?_, fun j v hj => ?_⟩
      · rw [List.map_map]
        conv => lhs; rw [← List.map_id L]
        apply List.map_congr_left
        intro b _
        simp
      · rw [List.map_map, List.getElem?_map] at hj
        cases hr : L[j]? with
        | none => rw [hr] at hj; cases hj
        | some b' =>
          rw [hr] at hj
          injection hj with hj; subst hj
          obtain ⟨hlt, rfl⟩ := List.getElem?_eq_some_iff.1 hr
          have := hc j hlt
          rw [show L.getD j 0 = L[j] by simp [List.getD, hlt]] at this
          rw [addr_add]
          exact st_cell r hst this
    | bvz _ hl base cap => exact .inl ⟨base, cap, rfl, hl⟩
  · rename_i esz n f
    obtain ⟨he, h1⟩ := gd_some.1 hev
    rw [Nat.beq_eq] at he; subst he
    injection h1 with h1; injection h1 with h1 h2; subst h2
    have hall := h1
    unfold allB at h1
    simp only [decide_eq_true_eq] at h1
    cases hx with
    | vec _ _ _ b o cap cs el fz g hst he hcap hv hc =>
      obtain ⟨ns, h2, h3, h4⟩ := rows_list (w := w) (ad := ⟨b, o, none⟩) hall fun i hi => by
        obtain ⟨m, h5, h6⟩ := isB_val (h1 i hi) (hv i hi)
        refine ⟨.int .u8 m, ⟨m, rfl, h6⟩, ?_⟩
        have := hc i hi 0 (.int .u8 m) (by rw [h5]; rfl)
        rw [addr_add]
        exact st_cell r hst (by simpa using this)
      have hl : (rowB n f).length = n := by simp [rowB]
      exact .inr ⟨⟨b, o, none⟩, cap, ns, by rw [hl], h3, h4⟩
    | vecz _ _ _ hn base cap => subst hn; exact .inl ⟨base, cap, rfl, rfl⟩
  · rename_i id n esz
    obtain ⟨he, h1⟩ := gd_some.1 hev
    rw [Nat.beq_eq] at he; subst he
    obtain ⟨o, ho, h2⟩ := ob_some.1 h1
    clear hev h1
    split at h2
    · rename_i elem c z N op
      split at h2
      · rename_i e f
        obtain ⟨he, h3⟩ := gd_some.1 h2
        rw [Nat.beq_eq] at he; subst he
        obtain ⟨e1, e2, rfl⟩ := two_true h3
        rw [Nat.ble_eq] at e1
        have hall := e2
        unfold allB at e2
        simp only [decide_eq_true_eq] at e2
        cases hx with
        | slg _ _ _ b hb _ hl =>
          obtain ⟨ns, h4, h5, h6⟩ := rows_list (w := w) (ad := ⟨b.b, b.ob, none⟩) hall fun i hi => by
            have h7 := e2 i hi
            obtain ⟨x, hfx⟩ : ∃ x, f i = [x] := by
              unfold isB at h7
              split at h7
              · rename_i hfi; exact ⟨_, hfi⟩
              · cases h7
            have h8 : cellOf .leaf (.rows 1 f) i = some x := by
              rw [cellOf_leaf, rows_at (i := i) (j := 0) (by decide) i (by omega), hfx]; rfl
            obtain ⟨v, hv, hvr⟩ := cell_of r (hs _ _ ho (.inl ⟨b, hb⟩)) hb (k := i) (by omega) h8
            rw [hfx] at h7
            obtain ⟨m, h9, h10⟩ := isB_val h7 (.cons _ _ _ _ hvr .nil)
            injection h9 with h9
            refine ⟨v, ⟨m, h9, by rw [hfx]; exact h10⟩, ?_⟩
            rw [addr_add]; exact hv
          have hl2 : (rowB n f).length = n := by simp [rowB]
          exact .inr ⟨⟨b.b, b.ob, none⟩, _, ns, by rw [hl2], h5, h6⟩
        | slg0 _ _ _ hn => subst hn; exact .inl ⟨_, _, rfl, rfl⟩
      · cases h2
    · cases h2
  · injection hev with hev; injection hev with _ hev; subst hev; cases hx; exact .inl ⟨_, _, rfl, rfl⟩
  · injection hev with hev; injection hev with _ hev; subst hev; cases hx; exact .inl ⟨_, _, rfl, rfl⟩
  · obtain ⟨l', hl, h1⟩ := ob_some.1 hev
    obtain ⟨hall, h2⟩ := gd_some.1 h1
    injection h2 with h2; injection h2 with _ h2; subst h2
    cases hx with
    | sl _ _ n _ b hb =>
      obtain ⟨vs, h3, h4, h5⟩ := evCells_sound r hs hb hl
      obtain ⟨ns, h6, h7⟩ := bytes_of_list h3 hall
      subst h6
      exact .inr ⟨_, _, ns, by rw [List.length_map, h3.length, h4], h7, h5⟩
  · obtain ⟨l', hl, h1⟩ := ob_some.1 hev
    obtain ⟨hall, h2⟩ := gd_some.1 h1
    injection h2 with h2; injection h2 with _ h2; subst h2
    cases hx with
    | slo _ _ n _ b hb _ _ =>
      obtain ⟨vs, h3, h4, h5⟩ := evCells_sound r hs hb hl
      obtain ⟨ns, h6, h7⟩ := bytes_of_list h3 hall
      subst h6
      exact .inr ⟨_, _, ns, by rw [List.length_map, h3.length, h4], h7, h5⟩
  · cases hev

theorem bytes_string {P : Program} {w : World} {u : Value} {l : List UInt8} (h : BytesIn w u l) {src dst e : TypeId} (hsl : P.underlying src = some (.slice e)) (hst : P.underlying dst = some .string) (he : P.underlying e = some (.int .u8)) :
    (convert src dst u).run P w = .ok (.string ⟨l.toArray⟩) w := by
  rcases h with ⟨base, c, rfl, rfl⟩ | ⟨ad, c, ns, rfl, h1, h2⟩
  · rw [run_convert_bytes_string w src dst e base 0 c hsl he hst]
    cases base with
    | none => simp [Conv.bytesToString]; rfl
    | some ad =>
      have hld := run_loadCells_list (P := P) (w := w) ad [] (fun j v hj => by simp at hj)
      rw [run_bytesToString w ad 0 c [] hld]
      rfl
  · rw [run_convert_bytes_string w src dst e (some ad) l.length c hsl he hst]
    have hld := run_loadCells_list (P := P) w ad _ h2
    have hlen : (ns.map (Value.int .u8)).length = l.length := by rw [h1]; simp
    rw [hlen] at hld
    rw [run_bytesToString w ad l.length c ns hld, fold_push, ← h1]
    have he0 : ByteArray.empty.data = #[] := rfl
    rw [he0, Array.empty_append]

theorem bytes_of {P : Program} {w : World} {u : Value} {l : List UInt8} (h : BytesIn w u l) : (Extern.Bytes.bytesOf u).run P w = .ok ⟨l.toArray⟩ w := by
  rcases h with ⟨base, c, rfl, rfl⟩ | ⟨ad, c, ns, rfl, h1, h2⟩
  · cases base with
    | none => rfl
    | some ad =>
      have := run_loadBytes (P := P) w [] ad .empty (fun j v hj => by simp at hj)
      simpa [Extern.Bytes.bytesOf] using this
  · have := run_loadBytes (P := P) w ns ad .empty h2
    have hlen : ns.length = l.length := by rw [h1]; simp
    rw [hlen, ← h1] at this
    simp only [Extern.Bytes.bytesOf]
    rw [this]
    congr 1
    show (⟨#[] ++ l.toArray⟩ : ByteArray) = _
    rw [Array.empty_append]

/-! ### conversions -/
noncomputable def sConv (P : Program) (H : Tr AObj) (src dst : TypeId) (x : AV) : SV :=
  ob (P.underlying src) fun ds => ob (P.underlying dst) fun d => match d, x with
    | .int k, .int _ n => some (inR k n, .int k n)
    | .string, .bs l => some (true, .bs l)
    | .string, x => match ds with
      | .slice e => ob (P.underlying e) fun de => match de with
        | .int .u8 => ob (bytesA H x) fun p => some (p.1, .bs p.2)
        | _ => none
      | _ => none
    | _, _ => none
theorem sConv_sound {P : Program} {E : Env} {F : Nat → Option Obj} {nx : Nat} {ρ : Ren} {h : Nat → Option AObj} {w : World} {H : Tr AObj} (r : Rel E F nx ρ h w) (hs : HS ρ H h)
    {src dst : TypeId} {x a : AV} {u : Value} (hx : VR ρ x u) (hev : sConv P H src dst x = some (true, a)) : ∃ z, (convert src dst u).run P w = .ok z w ∧ VR ρ a z := by
  obtain ⟨ds, hds, h1⟩ := ob_some.1 hev
  obtain ⟨dd, hdd, h2⟩ := ob_some.1 h1
  clear hev h1
  split at h2
  · injection h2 with h2; injection h2 with h2 h3; subst h3
    cases hx
    exact ⟨_, by simp [convert, run_underlying hds, run_underlying hdd, Conv.intToInt]; rfl, by rw [wrap_inR h2]; exact .int _ _⟩
  · injection h2 with h2; injection h2 with _ h3; subst h3
    cases hx
    exact ⟨_, by simp [convert, run_underlying hds, run_underlying hdd], .bs _⟩
  · split at h2
    · obtain ⟨de, hde, h3⟩ := ob_some.1 h2
      split at h3
      · obtain ⟨⟨sd, l⟩, hl, h4⟩ := ob_some.1 h3
        injection h4 with h4; injection h4 with h4 h5; subst h5
        simp only at h4; subst h4
        exact ⟨_, bytes_string (bytesA_sound r hs hx hl) hds hdd hde, .bs _⟩
      · cases h3
    · cases h2
  · cases h2

/-! ### one of two values -/
mutual
noncomputable def sMerge (b : Bool) : AV → AV → Option AV
  | .int k m, y => match y with
    | .int k' n => gd (ikEq k k') (some (.int k (cond b m n)))
    | _ => none
  | .bool p, y => match y with
    | .bool q => some (.bool (cond b p q))
    | _ => none
  | .bs l, y => ob (strL y) fun l' => some (.bs (cond b l l'))
  | .str m n, y => ob (strL y) fun l' => some (.bs (cond b (bytesL m n) l'))
  | .agg l, y => match y with
    | .agg l' => ob (sMergeL b l l') fun r => some (.agg r)
    | _ => none
  | .tup l, y => match y with
    | .tup l' => ob (sMergeL b l l') fun r => some (.tup r)
    | _ => none
  | _, _ => none
noncomputable def sMergeL (b : Bool) : List AV → List AV → Option (List AV)
  | [], l' => match l' with
    | [] => some []
    | _ => none
  | x :: l, l' => match l' with
    | y :: m => ob (sMerge b x y) fun a => ob (sMergeL b l m) fun r => some (a :: r)
    | [] => none
end

mutual
theorem sMerge_rel {ρ : Ren} (b : Bool) : ∀ (x y r : AV) (v : Value), sMerge b x y = some r → (b = true → VR ρ x v) → (b = false → VR ρ y v) → VR ρ r v
  | .int k m, y, r, v, h, hx, hy => by
    cases y <;> first | (simp [sMerge] at h; done) | skip
    · rw [sMerge] at h
      obtain ⟨hk, h1⟩ := gd_some.1 h
      have := ikEq_eq hk; subst this
      injection h1 with h1; subst h1
      cases b with
      | true => exact hx rfl
      | false => exact hy rfl
  | .bool p, y, r, v, h, hx, hy => by
    cases y <;> first | (simp [sMerge] at h; done) | skip
    · rw [sMerge] at h
      injection h with h; subst h
      cases b with
      | true => exact hx rfl
      | false => exact hy rfl
  | .bs l, y, r, v, h, hx, hy => by
    rw [sMerge] at h
    obtain ⟨l', hl, h1⟩ := ob_some.1 h
    injection h1 with h1; subst h1
    cases b with
    | true => exact hx rfl
    | false => rw [strL_val (hy rfl) hl]; exact .bs _
  | .str m n, y, r, v, h, hx, hy => by
    rw [sMerge] at h
    obtain ⟨l', hl, h1⟩ := ob_some.1 h
    injection h1 with h1; subst h1
    cases b with
    | true => rw [strL_val (hx rfl) rfl]; exact .bs _
    | false => rw [strL_val (hy rfl) hl]; exact .bs _
  | .agg l, y, r, v, h, hx, hy => by
    cases y <;> first | (simp [sMerge] at h; done) | skip
    · rename_i l'
      rw [sMerge] at h
      obtain ⟨q, hq, h1⟩ := ob_some.1 h
      injection h1 with h1; subst h1
      obtain ⟨vs, rfl⟩ : ∃ vs : List Value, v = .agg vs.toArray := by
        cases b with
        | true => cases hx rfl with | agg _ vs _ => exact ⟨vs, rfl⟩
        | false => cases hy rfl with | agg _ vs _ => exact ⟨vs, rfl⟩
      refine .agg _ _ (sMergeL_rel b l l' q vs hq (fun hb => ?_) fun hb => ?_)
      · have := hx hb
        generalize hv : Value.agg vs.toArray = v at this
        cases this with | agg _ vs' h2 => injection hv with hv; rw [show vs = vs' by simpa using hv]; exact h2
      · have := hy hb
        generalize hv : Value.agg vs.toArray = v at this
        cases this with | agg _ vs' h2 => injection hv with hv; rw [show vs = vs' by simpa using hv]; exact h2
  | .tup l, y, r, v, h, hx, hy => by
    cases y <;> first | (simp [sMerge] at h; done) | skip
    · rename_i l'
      rw [sMerge] at h
      obtain ⟨q, hq, h1⟩ := ob_some.1 h
      injection h1 with h1; subst h1
      obtain ⟨vs, rfl⟩ : ∃ vs : List Value, v = .tuple vs.toArray := by
        cases b with
        | true => cases hx rfl with | tup _ vs _ => exact ⟨vs, rfl⟩
        | false => cases hy rfl with | tup _ vs _ => exact ⟨vs, rfl⟩
      refine .tup _ _ (sMergeL_rel b l l' q vs hq (fun hb => ?_) fun hb => ?_)
      · have := hx hb
        generalize hv : Value.tuple vs.toArray = v at this
        cases this with | tup _ vs' h2 => injection hv with hv; rw [show vs = vs' by simpa using hv]; exact h2
      · have := hy hb
        generalize hv : Value.tuple vs.toArray = v at this
        cases this with | tup _ vs' h2 => injection hv with hv; rw [show vs = vs' by simpa using hv]; exact h2
  | .ptr0, _, _, _, h, _, _ | .ptr _ _, _, _, _, h, _, _ | .sl0, _, _, _, h, _, _ | .sl _ _ _ _, _, _, _, h, _, _ | .slo _ _ _ _, _, _, _, h, _, _ | .sle _, _, _, _, h, _, _ | .map0, _, _, _, h, _, _
  | .map _, _, _, _, h, _, _ | .fn _ _ _, _, _, _, h, _, _ | .fn0, _, _, _, h, _, _ | .yld _, _, _, _, h, _, _ | .iface _ _, _, _, _, h, _, _ | .iface0, _, _, _, h, _, _ | .gptr _ _, _, _, _, h, _, _
  | .chan0, _, _, _, h, _, _ | .chan _, _, _, _, h, _, _ | .bv _, _, _, _, h, _, _ | .vec _ _ _, _, _, _, h, _, _ | .pv _, _, _, _, h, _, _ | .pel _ _ _ _, _, _, _, h, _, _ | .slg _ _ _, _, _, _, h, _, _
  | .mapv _ _ _, _, _, _, h, _, _ => by simp [sMerge] at h
theorem sMergeL_rel {ρ : Ren} (b : Bool) : ∀ (x y r : List AV) (v : List Value), sMergeL b x y = some r → (b = true → VRL ρ x v) → (b = false → VRL ρ y v) → VRL ρ r v
  | [], y, r, v, h, hx, hy => by
    cases y with
    | cons _ _ => simp [sMergeL] at h
    | nil =>
      rw [sMergeL] at h
      injection h with h; subst h
      cases b with
      | true => exact hx rfl
      | false => exact hy rfl
  | x :: l, y, r, v, h, hx, hy => by
    cases y with
    | nil => simp [sMergeL] at h
    | cons y m =>
      rw [sMergeL] at h
      obtain ⟨a, ha, h1⟩ := ob_some.1 h
      obtain ⟨q, hq, h2⟩ := ob_some.1 h1
      injection h2 with h2; subst h2
      obtain ⟨u, vs, rfl⟩ : ∃ u vs, v = u :: vs := by
        cases b with
        | true => cases hx rfl with | cons _ u _ vs _ _ => exact ⟨u, vs, rfl⟩
        | false => cases hy rfl with | cons _ u _ vs _ _ => exact ⟨u, vs, rfl⟩
      refine .cons _ _ _ _ (sMerge_rel b x y a u ha (fun hb => ?_) fun hb => ?_) (sMergeL_rel b l m q vs hq (fun hb => ?_) fun hb => ?_)
      · cases hx hb; assumption
      · cases hy hb; assumption
      · cases hx hb; assumption
      · cases hy hb; assumption
end

/-! ### maps -/
noncomputable def keyS (kd : TypeDesc) (k : AV) : Option SKey :=
  match kd, k with
  | .string, k => ob (strL k) fun l => some (.str l)
  | .int q, .int q' n => gd (ikEq q q') (some (.int n))
  | _, _ => none
theorem keyS_kr {ρ : Ren} {kd : TypeDesc} {k : AV} {s : SKey} {u : Value} (hk : VR ρ k u) (h : keyS kd k = some s) : KR kd s u := by
  unfold keyS at h
  split at h
  · obtain ⟨l, hl, h1⟩ := ob_some.1 h
    injection h1 with h1; subst h1
    rw [strL_val hk hl]; exact .str _
  · obtain ⟨hq, h1⟩ := gd_some.1 h
    have := ikEq_eq hq; subst this
    injection h1 with h1; subst h1
    cases hk; exact .int _ _
  · cases h

def eqS (a b : SKey) : Option Bool := match a, b with
  | .str l, .str l' => some (decide (l = l'))
  | .int n, .int m => some (ieq n m)
  | _, _ => none
theorem eqS_same {kd : TypeDesc} {a b : SKey} {u v : Value} {q : Bool} (ha : KR kd a u) (hb : KR kd b v) (h : eqS a b = some q) : Instr.sameNow kd u v = some q := by
  cases ha <;> cases hb
  · injection h with h; subst h
    rename_i l l'
    have : ((⟨l.toArray⟩ : ByteArray) == ⟨l'.toArray⟩) = decide (l = l') := by
      rw [beq_toListBytes, toList_mk, toList_mk]; by_cases h : l = l' <;> simp [h]
    simp [Instr.sameNow, this]
  · injection h with h; subst h
    simp [Instr.sameNow, ieq_eq]

/-- What is found, and whether; over entries that may be unlike by symbols alone. -/
noncomputable def sFind (kd : TypeDesc) (k : SKey) (z : AV) (es : List AEnt) : Option (Bool × AV) :=
  List.rec (motive := fun _ => Option (Bool × AV)) (some (false, z))
    (fun e _ ih => ob (keyS kd e.key) fun s => ob (eqS k s) fun q => ob ih fun p => ob (sMerge q e.val p.2) fun m => some (cond q true p.1, m)) es

theorem sFind_sound {ρ : Ren} {kd : TypeDesc} {k : SKey} {z : AV} {u zv : Value} (hk : KR kd k u) (hz : VR ρ z zv) : ∀ {es : List AEnt} {l : List MapEntry}, ERL ρ es l → ∀ (i : Nat) (p : Bool × AV),
    sFind kd k z es = some p → ∃ v, VR ρ p.2 v ∧ (if p.1 then ∃ j, Instr.findNow kd u l i = some (some (j, v)) else Instr.findNow kd u l i = some none ∧ v = zv)
  | _, _, .nil, i, p, h => by injection h with h; subst h; exact ⟨zv, hz, by simp [Instr.findNow]⟩
  | _, _, .cons e m es l he hs, i, p, h => by
    obtain ⟨s, hs1, h1⟩ := ob_some.1 (show (ob (keyS kd e.key) fun s => ob (eqS k s) fun q => ob (sFind kd k z es) fun p => ob (sMerge q e.val p.2) fun m => some (cond q true p.1, m)) = some p from h)
    obtain ⟨q, hq, h2⟩ := ob_some.1 h1
    obtain ⟨p', hp', h3⟩ := ob_some.1 h2
    obtain ⟨a, ha, h4⟩ := ob_some.1 h3
    injection h4 with h4; subst h4
    have hn := eqS_same hk (keyS_kr he.1 hs1) hq
    obtain ⟨v, h5, h6⟩ := sFind_sound hk hz hs (i + 1) p' hp'
    cases q with
    | true =>
      refine ⟨m.val, sMerge_rel true _ _ _ _ ha (fun _ => he.2.1) (fun h => by cases h), ?_⟩
      simp [Instr.findNow, hn]
    | false =>
      refine ⟨v, sMerge_rel false _ _ _ _ ha (fun h => by cases h) (fun _ => h5), ?_⟩
      simp only [cond_false]
      simpa [Instr.findNow, hn] using h6

def isStrD : TypeDesc → Bool
  | .string => true
  | _ => false
theorem isStrD_eq {kd : TypeDesc} (h : isStrD kd = true) : kd = .string := by cases kd <;> first | rfl | cases h
noncomputable def sLookup (P : Program) (H : Tr AObj) (t : TypeId) (m k : AV) (ok : Bool) : SV :=
  match m, k with
  | .map _, .str _ _ => none
  | m, k => ob (P.underlying t) fun d => match d with
    | .map key elem => ob (P.underlying key) fun kd => gd (keyD kd) (ob (keyS kd k) fun s => ob (zeroAV P elem) fun z => match m with
      | .mapv has val z' => gd (avEq z z') (gd (isStrD kd) (some (true, cond ok (.tup [val s, .bool (has s)]) (val s))))
      | .map id => ob (H.get id) fun o => match o with
        | .map es _ => ob (sFind kd s z es) fun p => some (true, cond ok (.tup [p.2, .bool p.1]) p.2)
        | _ => none
      | _ => none)
    | _ => none

theorem sLookup_sound {P : Program} {E : Env} {F : Nat → Option Obj} {nx : Nat} {ρ : Ren} {h : Nat → Option AObj} {w : World} {H : Tr AObj} (r : Rel E F nx ρ h w) (hs : HS ρ H h)
    {t : TypeId} {m k a : AV} {ok : Bool} {u v : Value} (hm : VR ρ m u) (hk : VR ρ k v) (hev : sLookup P H t m k ok = some (true, a)) : ∃ z, (Instr.lookup t u v ok).run P w = .ok z w ∧ VR ρ a z := by
  unfold sLookup at hev
  split at hev
  · cases hev
  obtain ⟨d, hd, h1⟩ := ob_some.1 hev
  clear hev
  split at h1
  · rename_i key elem
    obtain ⟨kd, hkd, h2⟩ := ob_some.1 h1
    obtain ⟨hkk, h3⟩ := gd_some.1 h2
    obtain ⟨s, hsk, h4⟩ := ob_some.1 h3
    obtain ⟨z, hz, h5⟩ := ob_some.1 h4
    clear h1 h2 h3 h4
    have hkr := keyS_kr hk hsk
    obtain ⟨zv, hzv, hzr⟩ := zeroAV_sound hz w
    have hck := fun e => checkKey_plain (P := P) hkd hkk e 9999 v w
    have fin : ∀ (b : Nat) (es : Array MapEntry) (clock : Nat) (has : Bool) (val : AV), w.heap[b]? = some (.map es clock) →
        (∃ q, VR ρ val q ∧ (if has then ∃ j, Instr.findNow kd v es.toList 0 = some (some (j, q)) else Instr.findNow kd v es.toList 0 = some none ∧ q = zv)) →
        ∃ z, (Instr.lookup t (.map (some b)) v ok).run P w = .ok z w ∧ VR ρ (cond ok (.tup [val, .bool has]) val) z := by
      intro b es clock has val hb ⟨q, hq, hf⟩
      cases has with
      | true =>
        obtain ⟨j, hf⟩ := hf
        cases ok with
        | true =>
          refine ⟨.tuple #[q, .bool true], ?_, .tup _ [q, .bool true] (.cons _ _ _ _ hq (.cons _ _ _ _ (.bool true) .nil))⟩
          simp [Instr.lookup, run_underlying hd, hck, Instr.findKey, run_underlying hkd, hf, getObj, Sem.run, hb]
        | false =>
          refine ⟨q, ?_, hq⟩
          simp [Instr.lookup, run_underlying hd, hck, Instr.findKey, run_underlying hkd, hf, getObj, Sem.run, hb]
      | false =>
        obtain ⟨hf, rfl⟩ := hf
        cases ok with
        | true =>
          refine ⟨.tuple #[q, .bool false], ?_, .tup _ [q, .bool false] (.cons _ _ _ _ hq (.cons _ _ _ _ (.bool false) .nil))⟩
          simp [Instr.lookup, run_underlying hd, hck, Instr.findKey, run_underlying hkd, hf, getObj, Sem.run, hb, hzv]
        | false =>
          refine ⟨q, ?_, hq⟩
          simp [Instr.lookup, run_underlying hd, hck, Instr.findKey, run_underlying hkd, hf, getObj, Sem.run, hb, hzv]
    split at h5
    · rename_i has val z' _
      obtain ⟨hzz, h6⟩ := gd_some.1 h5
      have := avEq_eq _ _ hzz; subst this
      obtain ⟨hkd', h6⟩ := gd_some.1 h6
      have := isStrD_eq hkd'; subst this
      injection h6 with h6; injection h6 with _ h6; subst h6
      cases hm with
      | mapv _ _ _ b es clock g hst hn hy hz' hg =>
        refine fin b es clock (has s) (val s) (r.st _ _ hst) ?_
        cases hhs : has s with
        | true =>
          obtain ⟨j, hj⟩ := hy s v hkr hhs
          exact ⟨g s, hg s hhs, by simpa using ⟨j, hj⟩⟩
        | false => exact ⟨zv, by rw [hz' s hhs]; exact hzr ρ, by simpa using hn s v hkr hhs⟩
    · obtain ⟨o, ho, h6⟩ := ob_some.1 h5
      split at h6
      · rename_i es clock
        obtain ⟨p, hp, h7⟩ := ob_some.1 h6
        injection h7 with h7; injection h7 with _ h7; subst h7
        cases hm with
        | map _ b hb =>
          obtain ⟨c, hc, hor⟩ := r.ob _ _ b (hs _ _ ho (.inl ⟨b, hb⟩)) hb
          cases hor with
          | map _ _ l hl =>
            obtain ⟨q, h8, h9⟩ := sFind_sound hkr (hzr ρ) hl 0 p hp
            exact fin b.b _ _ p.1 p.2 hc ⟨q, h8, h9⟩
      · cases h6
    · cases h5
  · cases h1

/-! ### calls of the library without a text -/
noncomputable def textA (H : Tr AObj) (x : AV) : Option (Bool × List UInt8) :=
  match x with
  | .str m n => some (true, bytesL m n)
  | .bs l => some (true, l)
  | x => bytesA H x
noncomputable def sExt (P : Program) (H : Tr AObj) (f : AV) (xs : List AV) : SV :=
  match f with
  | .fn (.func g) [] [] => ob (P.funcs[g]?) fun fn => gd fn.body.isNone (gd (fn.origin == "") (match xs with
    | [b, .int .u8 c] => ob (textA H b) fun p => fN (extK fn.name) fun k => cond (Nat.beq k 1) (some (cond p.1 (inR .u8 c) false, natI (Lib.countByte p.2 (UInt8.ofNat c.toNat))))
        (gd (Nat.beq k 2) (some (cond p.1 (inR .u8 c) false, .int .i64 (Lib.indexByte p.2 (UInt8.ofNat c.toNat)))))
    | _ => none))
  | _ => none
theorem sExt_sound {P : Program} {E : Env} {F : Nat → Option Obj} {nx : Nat} {ρ : Ren} {h : Nat → Option AObj} {w : World} {H : Tr AObj} (r : Rel E F nx ρ h w) (hs : HS ρ H h)
    {f : AV} {xs : List AV} {a : AV} {us : List Value} (hx : VRL ρ xs us) (hev : sExt P H f xs = some (true, a)) : ∃ g, f = .fn (.func g) [] [] ∧ ∃ v, (callFunc g us.toArray).run P w = .ok (.value v) w ∧ VR ρ a v := by
  unfold sExt at hev
  split at hev
  · rename_i g
    obtain ⟨fn, hfn, h1⟩ := ob_some.1 hev
    obtain ⟨hb, h2⟩ := gd_some.1 h1
    obtain ⟨ho, h3⟩ := gd_some.1 h2
    have ho' : fn.origin = "" := by simpa using ho
    refine ⟨g, rfl, ?_⟩
    split at h3
    · rename_i b c
      obtain ⟨⟨sd, l⟩, hbs, h5⟩ := ob_some.1 h3
      simp only [fN_eq] at h5
      cases hx with
      | cons _ u1 _ us1 hu1 hus1 => cases hus1 with
        | cons _ u2 _ us2 hu2 hus2 =>
          cases hus2
          cases hu2
          have hby : sd = true → (Extern.Bytes.bytesOf u1).run P w = .ok ⟨l.toArray⟩ w := fun hsd => by
            subst hsd
            unfold textA at hbs
            split at hbs
            · injection hbs with hbs; injection hbs with _ hbs; subst hbs; cases hu1; rfl
            · injection hbs with hbs; injection hbs with _ hbs; subst hbs; cases hu1; rfl
            · exact bytes_of (bytesA_sound r hs hu1 hbs)
          have hst : (Extern.Bytes.bytesOf (.string ⟨l.toArray⟩)).run P w = .ok ⟨l.toArray⟩ w := rfl
          have hu8 : ∀ c : Int, c.toNat.toUInt8 = UInt8.ofNat c.toNat := fun _ => rfl
          cases hk : Nat.beq (extK fn.name) 1 with
          | true =>
            rw [hk, cond_true] at h5
            obtain ⟨e0, _, rfl⟩ := two_true h5
            have hby := hby e0
            obtain ⟨e1, e2, e3⟩ := extK_one ho' (Nat.eq_of_beq_eq_true hk)
            refine ⟨_, ?_, .int _ _⟩
            rw [run_callFunc_extern hfn e3 hb e1 e2]
            have hs0 := Lib.run_countString (P := P) ⟨l.toArray⟩ c w
            have hrun : (Extern.BytealgCount.count #[u1, .int .u8 c]).run P w = (Extern.BytealgCount.count #[.string ⟨l.toArray⟩, .int .u8 c]).run P w := by
              change Sem.run P (do
                let b ← Extern.Bytes.bytesOf u1
                let c' ← Extern.Bytes.asByte (.int .u8 c)
                pure (goInt (b.foldl (fun n x => if x == c' then n + 1 else n) (0 : Nat)))) w = Sem.run P (do
                let b ← Extern.Bytes.bytesOf (.string ⟨l.toArray⟩)
                let c' ← Extern.Bytes.asByte (.int .u8 c)
                pure (goInt (b.foldl (fun n x => if x == c' then n + 1 else n) (0 : Nat)))) w
              simp only [Sem.run_bind, hby, hst]
            rw [show [u1, Value.int .u8 c].toArray = #[u1, .int .u8 c] from rfl, hrun, hs0]
            rfl
          | false =>
            rw [hk, cond_false] at h5
            obtain ⟨hk2, h6⟩ := gd_some.1 h5
            obtain ⟨e0, _, rfl⟩ := two_true h6
            have hby := hby e0
            obtain ⟨e1, e2, e3⟩ := extK_two ho' (Nat.eq_of_beq_eq_true hk2)
            refine ⟨_, ?_, .int _ _⟩
            rw [run_callFunc_extern hfn e3 hb e1 e2]
            have hs0 := Lib.run_indexByteString (P := P) ⟨l.toArray⟩ c w
            have hrun : (Extern.BytealgIndexByte.indexByte #[u1, .int .u8 c]).run P w = (Extern.BytealgIndexByte.indexByte #[.string ⟨l.toArray⟩, .int .u8 c]).run P w := by
              change Sem.run P (do
                let b ← Extern.Bytes.bytesOf u1
                let c' ← Extern.Bytes.asByte (.int .u8 c)
                match (List.range b.size).find? fun i => b[i]! == c' with
                | some i => pure (goInt i)
                | none => pure (goInt (-1))) w = Sem.run P (do
                let b ← Extern.Bytes.bytesOf (.string ⟨l.toArray⟩)
                let c' ← Extern.Bytes.asByte (.int .u8 c)
                match (List.range b.size).find? fun i => b[i]! == c' with
                | some i => pure (goInt i)
                | none => pure (goInt (-1))) w
              simp only [Sem.run_bind, hby, hst]
            rw [show [u1, Value.int .u8 c].toArray = #[u1, .int .u8 c] from rfl, hrun, hs0]
            rfl
    · cases h3
  · cases hev
end Go.Ev
