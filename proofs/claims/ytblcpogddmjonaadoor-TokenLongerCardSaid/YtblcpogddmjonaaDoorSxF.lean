/- The symbolic layer, part F: values and objects beside one another, over renumbering; content. -/
import Derived.Test.YtblcpogddmjonaaDoorEvV
set_option linter.unusedVariables false
set_option linter.unusedSimpArgs false
namespace Go.Ev

/-- Bytes, within their range. -/
def isBR (l : List AV) : Bool := match l with
  | [.int .u8 n] => inR .u8 n
  | _ => false
def allBR (n : Nat) (f : Nat → List AV) : Bool := decide (∀ i, i < n → isBR (f i) = true)

/-- A station's number, and what it is now. -/
noncomputable def sg (σ : List (Nat × Nat)) (i : Nat) : Option Nat :=
  List.rec (motive := fun _ => Option Nat) none (fun p _ ih => cond (Nat.beq p.1 i) (some p.2) ih) σ

/-- For every number (shut, so that nothing is reckoned in it). -/
structure AllI (R : Nat → Prop) : Prop where
  h : ∀ i, R i

mutual
/-- What is expected beside what is: the same, but for numbers; what must be so is left as a sentence. -/
noncomputable def vmP (σ : List (Nat × Nat)) : AV → AV → Prop
  | .bool p, y => match y with
    | .bool q => q = p
    | _ => False
  | .int k m, y => match y with
    | .int k' n => ikEq k k' = true ∧ n = m
    | _ => False
  | .str m n, y => match y with
    | .str m' n' => m' = m ∧ n' = n
    | _ => False
  | .bs l, y => match y with
    | .bs l' => l' = l
    | .str m n => bytesL m n = l
    | _ => False
  | .bv l, y => match y with
    | .bv l' => l' = l
    | .vec e n f => Nat.beq e 1 = true ∧ allBR n f = true ∧ rowB n f = l
    | .sl0 => l = []
    | _ => False
  | .vec e n f, y => match y with
    | .vec e' n' f' => Nat.beq e e' = true ∧ n' = n ∧ AllI fun i => i < n' → vmL σ (f i) (f' i)
    | .bv l => Nat.beq e 1 = true ∧ l.length = n ∧ AllI fun i => i < l.length → vmL σ (f i) (byteRow l i)
    | .sl0 => n = 0
    | _ => False
  | .pv l, y => match y with
    | .pv l' => vmL σ l l'
    | _ => False
  | .mapv has val z, y => match y with
    | .mapv has' val' z' => (∀ k, has' k = has k) ∧ (∀ k, vmP σ (val k) (val' k)) ∧ (∀ k, has k = false → val k = z)
    | _ => False
  | .ptr0, y => match y with
    | .ptr0 => True
    | _ => False
  | .ptr i o, y => match y with
    | .ptr j p => sg σ i = some j ∧ Nat.beq o p = true
    | _ => False
  | .sl0, y => match y with
    | .sl0 => True
    | _ => False
  | .sl i o n c, y => match y with
    | .sl j p m d => sg σ i = some j ∧ o = p ∧ m = n ∧ d = c
    | _ => False
  | .slo i o n e, y => match y with
    | .slo j p m d => sg σ i = some j ∧ o = p ∧ m = n ∧ Nat.beq e d = true
    | _ => False
  | .slg i n e, y => match y with
    | .slg j m d => sg σ i = some j ∧ m = n ∧ Nat.beq e d = true
    | .slo j p m d => sg σ i = some j ∧ Nat.beq p 0 = true ∧ m = n ∧ Nat.beq e d = true
    | .sl0 => n = 0
    | _ => False
  | .map0, y => match y with
    | .map0 => True
    | _ => False
  | .map i, y => match y with
    | .map j => sg σ i = some j
    | _ => False
  | .fn (.func f) a c, y => match y with
    | .fn (.func g) b d => Nat.beq f g = true ∧ vmL σ a b ∧ vmL σ c d
    | _ => False
  | .fn0, y => match y with
    | .fn0 => True
    | _ => False
  | .iface t v, y => match y with
    | .iface t' v' => Nat.beq t t' = true ∧ vmP σ v v'
    | _ => False
  | .iface0, y => match y with
    | .iface0 => True
    | _ => False
  | .agg l, y => match y with
    | .agg l' => vmL σ l l'
    | _ => False
  | .tup l, y => match y with
    | .tup l' => vmL σ l l'
    | _ => False
  | .gptr g o, y => match y with
    | .gptr g' o' => Nat.beq g g' = true ∧ Nat.beq o o' = true
    | _ => False
  | _, _ => False
noncomputable def vmL (σ : List (Nat × Nat)) : List AV → List AV → Prop
  | [], l => match l with
    | [] => True
    | _ => False
  | x :: l, l' => match l' with
    | y :: m => vmP σ x y ∧ vmL σ l m
    | [] => False
end

/-- Numbers as they are now stand for what the station's stand for. -/
structure SgOK (σ : List (Nat × Nat)) (ρ ρ2 : Ren) : Prop where
  nm : ∀ i j, sg σ i = some j → ρ2 i = ρ j
  st : ∀ b o, ρ.st b = some o → ρ2.st b = some o

theorem isBR_val {ρ : Ren} {l : List AV} {vs : List Value} (h : isBR l = true) (hv : VRL ρ l vs) : ∃ n : Int, vs = [.int .u8 n] ∧ n = ((byteO l).toNat : Int) := by
  unfold isBR at h
  split at h
  · rename_i n
    have h : 0 ≤ n ∧ n ≤ 255 := inR_iff.1 h
    cases hv with
    | cons _ _ _ _ h1 h2 =>
      cases h1; cases h2
      refine ⟨n, rfl, ?_⟩
      simp only [byteO]
      simp
      omega
  · cases h

theorem sl_bytes {ρ : Ren} {n : Nat} {f : Nat → List AV} {v : Value} (h : VR ρ (.vec 1 n f) v) (hb : allBR n f = true) : VR ρ (.bv (rowB n f)) v := by
  unfold allBR at hb
  simp only [decide_eq_true_eq] at hb
  have hl : (rowB n f).length = n := by simp [rowB]
  cases h with
  | vecz _ _ _ hn base cap => subst hn; exact .bvz _ (by simp [rowB]) _ _
  | vec _ _ _ b o cap cs el fz g hs he hcap hv hc =>
    have := VR.bv (ρ := ρ) (rowB n f) b o cap cs el fz hs (by rw [hl]; exact hcap) fun i hi => by
      rw [hl] at hi
      obtain ⟨m, h1, h2⟩ := isBR_val (hb i hi) (hv i hi)
      have h3 := hc i hi 0 (.int .u8 m) (by rw [h1]; rfl)
      have h4 : (rowB n f).getD i 0 = byteO (f i) := by simp [rowB, List.getD, hi]
      rw [h4, ← h2]
      simpa using h3
    rw [hl] at this; exact this

theorem bv_rows {ρ : Ren} {l : List UInt8} {v : Value} (h : VR ρ (.bv l) v) : VR ρ (.vec 1 l.length (byteRow l)) v := by
  cases h with
  | bvz _ hl base cap => subst hl; exact .vecz _ _ _ rfl _ _
  | bv _ b o cap cs el fz hs hcap hc =>
    refine .vec 1 l.length _ b o cap cs el fz (fun i => [.int .u8 ((l.getD i 0).toNat : Int)]) hs (by decide) hcap (fun i hi => .cons _ _ _ _ (.int _ _) .nil) fun i hi j v hj => ?_
    match j with
    | 0 => injection hj with hj; subst hj; simpa using hc i hi
    | _ + 1 => simp at hj

mutual
theorem vm_rel {σ : List (Nat × Nat)} {ρ ρ2 : Ren} (hσ : SgOK σ ρ ρ2) : ∀ (a b : AV) (u : Value), vmP σ a b → VR ρ b u → VR ρ2 a u
  | .bool p, b, u, h, hb => by
    cases b <;> first | (simp [vmP] at h; done) | skip
    rw [vmP] at h; subst h; cases hb; exact .bool _
  | .int k m, b, u, h, hb => by
    cases b <;> first | (simp [vmP] at h; done) | skip
    rw [vmP] at h
    obtain ⟨h1, h2⟩ := h
    have := ikEq_eq h1; subst this; subst h2; cases hb; exact .int _ _
  | .str m n, b, u, h, hb => by
    cases b <;> first | (simp [vmP] at h; done) | skip
    rw [vmP] at h
    obtain ⟨rfl, rfl⟩ := h
    cases hb with
    | str _ _ hn => exact .str _ _ hn
  | .bs l, b, u, h, hb => by
    cases b <;> first | (simp [vmP] at h; done) | skip
    · rw [vmP] at h; subst h; rw [strL_val hb rfl]; exact .bs _
    · rw [vmP] at h; subst h; cases hb; exact .bs _
  | .bv l, b, u, h, hb => by
    cases b <;> first | (simp [vmP] at h; done) | skip
    · rw [vmP] at h; subst h; cases hb; exact .bvz _ rfl _ _
    · rw [vmP] at h; subst h
      cases hb with
      | bv _ b o cap cs el fz hs hcap hc => exact .bv _ b o cap cs el fz (hσ.st _ _ hs) hcap hc
      | bvz _ hl base cap => exact .bvz _ hl _ _
    · rw [vmP] at h
      obtain ⟨h1, h2, rfl⟩ := h
      rw [Nat.beq_eq] at h1; subst h1
      cases sl_bytes hb h2 with
      | bv _ b o cap cs el fz hs hcap hc => exact .bv _ b o cap cs el fz (hσ.st _ _ hs) hcap hc
      | bvz _ hl base cap => exact .bvz _ hl _ _
  | .vec e n f, b, u, h, hb => by
    have key : ∀ (n' : Nat) (f' : Nat → List AV), VR ρ (.vec e n' f') u → n' = n → (∀ i, i < n' → vmL σ (f i) (f' i)) → VR ρ2 (.vec e n f) u := fun n' f' hb hn hf => by
      subst hn
      cases hb with
      | vec _ _ _ b o cap cs el fz g hs he hcap hv hc => exact .vec _ _ _ b o cap cs el fz g (hσ.st _ _ hs) he hcap (fun i hi => vmL_rel hσ (f i) (f' i) (g i) (hf i hi) (hv i hi)) hc
      | vecz _ _ _ h0 base cap => exact .vecz _ _ _ h0 _ _
    cases b <;> first | (simp [vmP] at h; done) | skip
    · rw [vmP] at h; subst h; cases hb; exact .vecz _ _ _ rfl _ _
    · rw [vmP] at h
      obtain ⟨h1, h2, h3⟩ := h
      rw [Nat.beq_eq] at h1; subst h1
      exact key _ _ (bv_rows hb) h2 h3.h
    · rw [vmP] at h
      obtain ⟨h1, h2, h3⟩ := h
      rw [Nat.beq_eq] at h1; subst h1
      exact key _ _ hb h2 h3.h
  | .pv l, b, u, h, hb => by
    cases b <;> first | (simp [vmP] at h; done) | skip
    rw [vmP] at h
    cases hb with
    | pv _ vs b o cs el fz hs hv hc => exact .pv _ vs b o cs el fz (hσ.st _ _ hs) (vmL_rel hσ l _ vs h hv) hc
  | .mapv has val z, b, u, h, hb => by
    cases b <;> first | (simp [vmP] at h; done) | skip
    rw [vmP] at h
    obtain ⟨h1, h2, h3⟩ := h
    cases hb with
    | mapv _ _ _ b es clock g hs hn hy hz hg =>
      exact .mapv _ _ _ b es clock g (hσ.st _ _ hs) (fun k u hk hf => hn k u hk (by rw [h1]; exact hf)) (fun k u hk hf => hy k u hk (by rw [h1]; exact hf)) h3
        fun k hk => vm_rel hσ (val k) _ (g k) (h2 k) (hg k (by rw [h1]; exact hk))
  | .ptr0, b, u, h, hb => by
    cases b <;> first | (simp [vmP] at h; done) | skip
    cases hb; exact .ptr0
  | .ptr i o, b, u, h, hb => by
    cases b <;> first | (simp [vmP] at h; done) | skip
    rw [vmP] at h
    obtain ⟨h1, h2⟩ := h
    rw [Nat.beq_eq] at h2; subst h2
    cases hb with
    | ptr _ _ b hb => exact .ptr _ _ b (by rw [hσ.nm _ _ h1]; exact hb)
  | .sl0, b, u, h, hb => by
    cases b <;> first | (simp [vmP] at h; done) | skip
    cases hb; exact .sl0
  | .sl i o n c, b, u, h, hb => by
    cases b <;> first | (simp [vmP] at h; done) | skip
    rw [vmP] at h
    obtain ⟨h1, rfl, rfl, rfl⟩ := h
    cases hb with
    | sl _ _ _ _ b hb => exact .sl _ _ _ _ b (by rw [hσ.nm _ _ h1]; exact hb)
  | .slo i o n e, b, u, h, hb => by
    cases b <;> first | (simp [vmP] at h; done) | skip
    rw [vmP] at h
    obtain ⟨h1, rfl, rfl, h2⟩ := h
    rw [Nat.beq_eq] at h2; subst h2
    cases hb with
    | slo _ _ _ _ b hb he hl => exact .slo _ _ _ _ b (by rw [hσ.nm _ _ h1]; exact hb) he hl
  | .slg i n e, b, u, h, hb => by
    cases b <;> first | (simp [vmP] at h; done) | skip
    · rw [vmP] at h; subst h; cases hb; exact .slg0 _ _ _ rfl
    · rw [vmP] at h
      obtain ⟨h1, h0, rfl, h2⟩ := h
      rw [Nat.beq_eq] at h2 h0; subst h2; subst h0
      cases hb with
      | slo _ _ _ _ b hb he hl =>
        rw [Nat.sub_zero, Nat.add_zero]
        exact .slg _ _ _ b (by rw [hσ.nm _ _ h1]; exact hb) he (by omega)
    · rw [vmP] at h
      obtain ⟨h1, rfl, h2⟩ := h
      rw [Nat.beq_eq] at h2; subst h2
      cases hb with
      | slg _ _ _ b hb he hl => exact .slg _ _ _ b (by rw [hσ.nm _ _ h1]; exact hb) he hl
      | slg0 _ _ _ hn => exact .slg0 _ _ _ hn
  | .map0, b, u, h, hb => by
    cases b <;> first | (simp [vmP] at h; done) | skip
    cases hb; exact .map0
  | .map i, b, u, h, hb => by
    cases b <;> first | (simp [vmP] at h; done) | skip
    rw [vmP] at h
    cases hb with
    | map _ b hb => exact .map _ b (by rw [hσ.nm _ _ h]; exact hb)
  | .fn (.func f) a c, b, u, h, hb => by
    cases b <;> first | (simp [vmP] at h; done) | skip
    rename_i g b d
    cases g <;> first | (simp [vmP] at h; done) | skip
    rw [vmP] at h
    obtain ⟨h1, h2, h3⟩ := h
    rw [Nat.beq_eq] at h1; subst h1
    cases hb with
    | fn _ _ _ va vc ha hc => exact .fn _ _ _ va vc (vmL_rel hσ a _ va h2 ha) (vmL_rel hσ c _ vc h3 hc)
  | .fn0, b, u, h, hb => by
    cases b <;> first | (simp [vmP] at h; done) | skip
    cases hb; exact .fn0
  | .iface t v, b, u, h, hb => by
    cases b <;> first | (simp [vmP] at h; done) | skip
    rw [vmP] at h
    obtain ⟨h1, h2⟩ := h
    rw [Nat.beq_eq] at h1; subst h1
    cases hb with
    | iface _ _ w hv => exact .iface _ _ _ (vm_rel hσ v _ w h2 hv)
  | .iface0, b, u, h, hb => by
    cases b <;> first | (simp [vmP] at h; done) | skip
    cases hb; exact .iface0
  | .agg l, b, u, h, hb => by
    cases b <;> first | (simp [vmP] at h; done) | skip
    rw [vmP] at h
    cases hb with
    | agg _ vs hv => exact .agg _ _ (vmL_rel hσ l _ vs h hv)
  | .tup l, b, u, h, hb => by
    cases b <;> first | (simp [vmP] at h; done) | skip
    rw [vmP] at h
    cases hb with
    | tup _ vs hv => exact .tup _ _ (vmL_rel hσ l _ vs h hv)
  | .gptr g o, b, u, h, hb => by
    cases b <;> first | (simp [vmP] at h; done) | skip
    rw [vmP] at h
    obtain ⟨h1, h2⟩ := h
    rw [Nat.beq_eq] at h1 h2; subst h1; subst h2
    cases hb; exact .gptr _ _
  | .sle _, b, u, h, hb | .yld _, b, u, h, hb | .chan0, b, u, h, hb | .chan _, b, u, h, hb | .pel _ _ _ _, b, u, h, hb => by simp [vmP] at h
  | .fn (.method _) _ _, b, u, h, hb => by simp [vmP] at h
  | .fn (.methodOf _ _) _ _, b, u, h, hb => by simp [vmP] at h
  | .fn (.via _ _ _ _) _ _, b, u, h, hb => by simp [vmP] at h
  | .fn (.yield _) _ _, b, u, h, hb => by simp [vmP] at h
theorem vmL_rel {σ : List (Nat × Nat)} {ρ ρ2 : Ren} (hσ : SgOK σ ρ ρ2) : ∀ (a b : List AV) (u : List Value), vmL σ a b → VRL ρ b u → VRL ρ2 a u
  | [], b, u, h, hb => by
    cases b with
    | cons _ _ => simp [vmL] at h
    | nil => cases hb; exact .nil
  | x :: l, b, u, h, hb => by
    cases b with
    | nil => simp [vmL] at h
    | cons y m =>
      rw [vmL] at h
      cases hb with
      | cons _ v _ vs h1 h2 => exact .cons _ _ _ _ (vm_rel hσ x y v h.1 h1) (vmL_rel hσ l m vs h.2 h2)
end
end Go.Ev
