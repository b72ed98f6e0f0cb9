/- The evaluator, part A: tries, abstract values, what they stand for, the relation of an abstract heap to a world. No program in it. -/
import Derived.Calls
import Derived.Orders
import Derived.Laws.Sem
import Derived.Laws.World
namespace Go.Ev

/-! ### tries -/
inductive Tr (α : Type) where
  | leaf
  | node (v : Option α) (l r : Tr α)

namespace Tr
variable {α : Type}
noncomputable def root (t : Tr α) : Option α := Tr.rec (motive := fun _ => Option α) none (fun v _ _ _ _ => v) t
noncomputable def kid (b : Bool) (t : Tr α) : Tr α := Tr.rec (motive := fun _ => Tr α) .leaf (fun _ l r _ _ => cond b l r) t
noncomputable def gp (p : List Bool) : Tr α → Option α :=
  List.rec (motive := fun _ => Tr α → Option α) root (fun b _ ih t => ih (kid b t)) p
noncomputable def sp (x : Option α) (p : List Bool) : Tr α → Tr α :=
  List.rec (motive := fun _ => Tr α → Tr α)
    (fun t => Tr.rec (motive := fun _ => Tr α) (.node x .leaf .leaf) (fun _ l r _ _ => .node x l r) t)
    (fun b _ ih t => Tr.rec (motive := fun _ => Tr α) (cond b (.node none (ih .leaf) .leaf) (.node none .leaf (ih .leaf)))
      (fun v l r _ _ => cond b (.node v (ih l) r) (.node v l (ih r))) t) p

theorem gp_leaf (q : List Bool) : gp q (.leaf : Tr α) = none := by
  induction q with
  | nil => rfl
  | cons b q ih => exact ih

theorem gp_sp (x : Option α) : ∀ (p q : List Bool) (t : Tr α), gp q (sp x p t) = if p = q then x else gp q t := by
  intro p
  induction p with
  | nil =>
    intro q t
    cases q with
    | nil => cases t <;> rfl
    | cons c q =>
      rw [if_neg (by simp)]
      cases t with
      | leaf => cases c <;> rfl
      | node v l r => rfl
  | cons b p ih =>
    intro q t
    cases q with
    | nil =>
      rw [if_neg (by simp)]
      cases t <;> cases b <;> rfl
    | cons c q =>
      have key : gp (c :: q) (sp x (b :: p) t) = if b = c then gp q (sp x p (kid b t)) else gp (c :: q) t := by
        cases t with
        | leaf => cases b <;> cases c <;> first | rfl | (show gp q (.leaf : Tr α) = _; exact (gp_leaf q).trans (gp_leaf q).symm)
        | node v l r => cases b <;> cases c <;> rfl
      rw [key]
      by_cases hbc : b = c
      · subst hbc
        rw [if_pos rfl, ih]
        by_cases hpq : p = q
        · subst hpq; simp
        · rw [if_neg hpq, if_neg (by simp [hpq])]; rfl
      · rw [if_neg hbc, if_neg (by simp [hbc])]
end Tr

noncomputable def pathF (f : Nat) : Nat → List Bool :=
  Nat.rec (motive := fun _ => Nat → List Bool) (fun _ => []) (fun _ ih n => cond (Nat.beq n 0) [] (Nat.beq (n % 2) 1 :: ih ((n - 1) / 2))) f

theorem pathF_succ (f n : Nat) : pathF (f + 1) n = cond (Nat.beq n 0) [] (Nat.beq (n % 2) 1 :: pathF f ((n - 1) / 2)) := rfl

theorem pathF_inj : ∀ (f n g m : Nat), n ≤ f → m ≤ g → pathF f n = pathF g m → n = m := by
  intro f
  induction f with
  | zero =>
    intro n g m hn hm h
    have : n = 0 := by omega
    subst this
    cases g with
    | zero => omega
    | succ g =>
      rw [pathF_succ] at h
      cases m with
      | zero => rfl
      | succ m => simp [pathF, Nat.beq] at h
  | succ f ih =>
    intro n g m hn hm h
    rw [pathF_succ] at h
    cases n with
    | zero =>
      cases g with
      | zero => omega
      | succ g =>
        rw [pathF_succ] at h
        cases m with
        | zero => rfl
        | succ m => simp [Nat.beq] at h
    | succ n =>
      cases g with
      | zero =>
        have : m = 0 := by omega
        subst this
        simp [pathF, Nat.beq] at h
      | succ g =>
        rw [pathF_succ] at h
        cases m with
        | zero => simp [Nat.beq] at h
        | succ m =>
          simp only [Nat.beq, cond_false, List.cons.injEq] at h
          obtain ⟨h1, h2⟩ := h
          have h3 := ih _ _ _ (by omega) (by omega) h2
          have h5 : ((n + 1) % 2 = 1) ↔ ((m + 1) % 2 = 1) := by
            rw [← Nat.beq_eq, ← Nat.beq_eq, h1]
          omega

noncomputable def path (n : Nat) : List Bool := pathF n n
theorem path_inj {n m : Nat} (h : path n = path m) : n = m := pathF_inj n n m m (Nat.le_refl _) (Nat.le_refl _) h

namespace Tr
variable {α : Type}
noncomputable def get (t : Tr α) (n : Nat) : Option α := gp (path n) t
noncomputable def set (t : Tr α) (n : Nat) (x : α) : Tr α := sp (some x) (path n) t
noncomputable def del (t : Tr α) (n : Nat) : Tr α := sp none (path n) t
theorem get_leaf (n : Nat) : (Tr.leaf : Tr α).get n = none := gp_leaf _
theorem get_set (t : Tr α) (n m : Nat) (x : α) : (t.set n x).get m = if n = m then some x else t.get m := by
  unfold get set
  rw [gp_sp]
  by_cases h : n = m
  · subst h; simp
  · rw [if_neg (fun h' => h (path_inj h')), if_neg h]
theorem get_set_same (t : Tr α) (n : Nat) (x : α) : (t.set n x).get n = some x := by rw [get_set, if_pos rfl]
theorem get_set_ne (t : Tr α) {n m : Nat} (h : n ≠ m) (x : α) : (t.set n x).get m = t.get m := by rw [get_set, if_neg h]
theorem get_del (t : Tr α) (n m : Nat) : (t.del n).get m = if n = m then none else t.get m := by
  unfold get del
  rw [gp_sp]
  by_cases h : n = m
  · subst h; simp
  · rw [if_neg (fun h' => h (path_inj h')), if_neg h]
end Tr

/-! ### abstract values -/
inductive AV where
  | bool (b : Bool)
  | int (k : IntKind) (n : Int)
  | str (len n : Nat)
  | ptr0
  | ptr (id off : Nat)
  | sl0
  | sl (id off len cap : Nat)
  | slo (id off len esz : Nat)
  | sle (id : Nat)
  | map0
  | map (id : Nat)
  | fn (f : Fn) (first captured : List AV)
  | fn0
  | yld (id : Nat)
  | iface (t : Nat) (v : AV)
  | iface0
  | agg (cs : List AV)
  | tup (vs : List AV)
  | gptr (g off : Nat)
  | chan0
  | chan (id : Nat)
  deriving Inhabited

/-- The bytes of a packed string: the first one is the lowest. -/
def bytesL : Nat → Nat → List UInt8
  | 0, _ => []
  | l + 1, n => UInt8.ofNat n :: bytesL l (n / 256)

def bstr (len n : Nat) : ByteArray := ⟨(bytesL len n).toArray⟩

/-- A window into a block: its number, where it begins, how many cells there are from there on. -/
structure Blk where
  b : Nat
  ob : Nat
  cap : Nat

abbrev Ren := Nat → Option Blk
def Ren.le (ρ ρ' : Ren) : Prop := ∀ i b, ρ i = some b → ρ' i = some b
theorem Ren.le_refl (ρ : Ren) : ρ.le ρ := fun _ _ h => h
theorem Ren.le_trans {a b c : Ren} (h : a.le b) (k : b.le c) : a.le c := fun i x hx => k i x (h i x hx)

/-- More is named, and below n nothing new. -/
structure RX (n n' : Nat) (ρ ρ' : Ren) : Prop where
  le : ρ.le ρ'
  lo : ∀ i, i < n → ρ' i = ρ i
  nn : n ≤ n'
theorem RX.refl (n : Nat) (ρ : Ren) : RX n n ρ ρ := ⟨Ren.le_refl ρ, fun _ _ => rfl, Nat.le_refl _⟩
theorem RX.trans {a b c : Nat} {ρ ρ' ρ'' : Ren} (h : RX a b ρ ρ') (k : RX b c ρ' ρ'') : RX a c ρ ρ'' :=
  ⟨Ren.le_trans h.le k.le, fun i hi => (k.lo i (Nat.lt_of_lt_of_le hi h.nn)).trans (h.lo i hi), Nat.le_trans h.nn k.nn⟩
theorem RX.weak {a a' b b' : Nat} {ρ ρ' : Ren} (h : RX a b ρ ρ') (ha : a' ≤ a) (hb : b ≤ b') : RX a' b' ρ ρ' :=
  ⟨h.le, fun i hi => h.lo i (Nat.lt_of_lt_of_le hi ha), Nat.le_trans ha (Nat.le_trans h.nn hb)⟩

/-- The same, but for one number. -/
structure RY (ni n n' : Nat) (ρ ρ' : Ren) : Prop where
  le : ρ.le ρ'
  lo : ∀ i, i < n → i ≠ ni → ρ' i = ρ i
  nn : n ≤ n'
theorem RX.ry {ni a b : Nat} {ρ ρ' : Ren} (h : RX a b ρ ρ') : RY ni a b ρ ρ' := ⟨h.le, fun i hi _ => h.lo i hi, h.nn⟩
theorem RY.rx {a b : Nat} {ρ ρ' : Ren} (h : RY a a b ρ ρ') : RX a b ρ ρ' := ⟨h.le, fun i hi => h.lo i hi (Nat.ne_of_lt hi), h.nn⟩

mutual
/-- What an abstract value stands for. -/
inductive VR (ρ : Ren) : AV → Value → Prop where
  | bool (b : Bool) : VR ρ (.bool b) (.bool b)
  | int (k : IntKind) (n : Int) : VR ρ (.int k n) (.int k n)
  | str (len n : Nat) (h : n < 256 ^ len) : VR ρ (.str len n) (.string (bstr len n))
  | ptr0 : VR ρ .ptr0 (.pointer none)
  | ptr (id off : Nat) (b : Blk) (h : ρ id = some b) : VR ρ (.ptr id off) (.pointer (some ⟨b.b, b.ob + off, none⟩))
  | sl0 : VR ρ .sl0 (.slice none 0 0)
  | sl (id off len cap : Nat) (b : Blk) (h : ρ id = some b) : VR ρ (.sl id off len cap) (.slice (some ⟨b.b, b.ob + off, none⟩) len cap)
  | slo (id off len esz : Nat) (b : Blk) (h : ρ id = some b) (he : 0 < esz) (hl : off + len * esz ≤ b.cap) : VR ρ (.slo id off len esz) (.slice (some ⟨b.b, b.ob + off, none⟩) len ((b.cap - off) / esz))
  | sle (id : Nat) (b : Blk) (o c : Nat) (h : ρ id = some b) : VR ρ (.sle id) (.slice (some ⟨b.b, o, none⟩) 0 c)
  | map0 : VR ρ .map0 (.map none)
  | map (id : Nat) (b : Blk) (h : ρ id = some b) : VR ρ (.map id) (.map (some b.b))
  | fn (f : Fn) (a c : List AV) (va vc : List Value) (ha : VRL ρ a va) (hc : VRL ρ c vc) : VR ρ (.fn f a c) (.func f va.toArray vc.toArray)
  | fn0 : VR ρ .fn0 .nilFunc
  | yld (id : Nat) (b : Blk) (h : ρ id = some b) : VR ρ (.yld id) (.func (.yield b.b) #[] #[])
  | iface (t : Nat) (a : AV) (v : Value) (h : VR ρ a v) : VR ρ (.iface t a) (.iface t v)
  | iface0 : VR ρ .iface0 .nilIface
  | agg (l : List AV) (vs : List Value) (h : VRL ρ l vs) : VR ρ (.agg l) (.agg vs.toArray)
  | tup (l : List AV) (vs : List Value) (h : VRL ρ l vs) : VR ρ (.tup l) (.tuple vs.toArray)
  | gptr (g off : Nat) : VR ρ (.gptr g off) (.pointer (some ⟨g, off, none⟩))
  | chan0 : VR ρ .chan0 (.chan none)
  | chan (id : Nat) (b : Blk) (h : ρ id = some b) : VR ρ (.chan id) (.chan (some b.b))
inductive VRL (ρ : Ren) : List AV → List Value → Prop where
  | nil : VRL ρ [] []
  | cons (a : AV) (v : Value) (l : List AV) (vs : List Value) (h : VR ρ a v) (hs : VRL ρ l vs) : VRL ρ (a :: l) (v :: vs)
end

theorem VR.mono {ρ ρ' : Ren} (hle : ρ.le ρ') {a : AV} {v : Value} (h : VR ρ a v) : VR ρ' a v :=
  VR.rec (ρ := ρ) (motive_1 := fun a v _ => VR ρ' a v) (motive_2 := fun l vs _ => VRL ρ' l vs)
    .bool .int .str .ptr0 (fun id off b h => .ptr id off b (hle _ _ h)) .sl0 (fun id off len cap b h => .sl id off len cap b (hle _ _ h))
    (fun id off len esz b h he hl => .slo id off len esz b (hle _ _ h) he hl) (fun id b o c h => .sle id b o c (hle _ _ h)) .map0 (fun id b h => .map id b (hle _ _ h))
    (fun f a c va vc _ _ ia ic => .fn f a c va vc ia ic) .fn0 (fun id b h => .yld id b (hle _ _ h)) (fun t a v _ ih => .iface t a v ih) .iface0 (fun l vs _ ih => .agg l vs ih)
    (fun l vs _ ih => .tup l vs ih) .gptr .chan0 (fun id b h => .chan id b (hle _ _ h)) .nil (fun a v l vs _ _ ih ihs => .cons a v l vs ih ihs) h

theorem VRL.mono {ρ ρ' : Ren} (hle : ρ.le ρ') : ∀ {l : List AV} {vs : List Value}, VRL ρ l vs → VRL ρ' l vs
  | _, _, .nil => .nil
  | _, _, .cons a v l vs h hs => .cons a v l vs (h.mono hle) (VRL.mono hle hs)

theorem VRL.length {ρ : Ren} : ∀ {l : List AV} {vs : List Value}, VRL ρ l vs → l.length = vs.length
  | _, _, .nil => rfl
  | _, _, .cons _ _ _ _ _ hs => by simp [VRL.length hs]

theorem VRL.get {ρ : Ren} : ∀ {l : List AV} {vs : List Value}, VRL ρ l vs → ∀ (i : Nat) (a : AV), l[i]? = some a → ∃ v, vs[i]? = some v ∧ VR ρ a v
  | _, _, .nil, i, a, h => by simp at h
  | _, _, .cons a' v l vs h hs, 0, a, hi => by
    simp at hi; subst hi; exact ⟨v, rfl, h⟩
  | _, _, .cons a' v l vs h hs, i + 1, a, hi => by
    simp at hi
    obtain ⟨u, hu, hr⟩ := VRL.get hs i a hi
    exact ⟨u, by simpa using hu, hr⟩

theorem VRL.append {ρ : Ren} : ∀ {l l' : List AV} {vs vs' : List Value}, VRL ρ l vs → VRL ρ l' vs' → VRL ρ (l ++ l') (vs ++ vs')
  | _, _, _, _, .nil, h' => h'
  | _, _, _, _, .cons a v l vs h hs, h' => .cons _ _ _ _ h (hs.append h')

theorem VRL.drop {ρ : Ren} : ∀ (k : Nat) {l : List AV} {vs : List Value}, VRL ρ l vs → VRL ρ (l.drop k) (vs.drop k)
  | 0, _, _, h => h
  | _ + 1, _, _, .nil => .nil
  | k + 1, _, _, .cons _ _ _ _ _ hs => VRL.drop k hs

theorem VRL.take {ρ : Ren} : ∀ (k : Nat) {l : List AV} {vs : List Value}, VRL ρ l vs → VRL ρ (l.take k) (vs.take k)
  | 0, _, _, _ => .nil
  | _ + 1, _, _, .nil => .nil
  | k + 1, _, _, .cons _ _ _ _ h hs => .cons _ _ _ _ h (VRL.take k hs)

/-- One cell's value. -/
def AV.one : AV → Bool
  | .agg _ => false
  | .tup _ => false
  | _ => true

theorem VR.one {ρ : Ren} {a : AV} {v : Value} (h : VR ρ a v) : v.oneCell' = a.one := by cases h <;> rfl

def AV.cells : AV → List AV
  | .agg cs => cs
  | v => [v]

theorem VR.cells {ρ : Ren} {a : AV} {v : Value} (h : VR ρ a v) : VRL ρ a.cells v.cells.toList := by
  cases h with
  | agg l vs h => simpa [AV.cells, Value.cells] using h
  | bool b => exact .cons _ _ _ _ (.bool b) .nil
  | int k n => exact .cons _ _ _ _ (.int k n) .nil
  | str l n h => exact .cons _ _ _ _ (.str l n h) .nil
  | ptr0 => exact .cons _ _ _ _ .ptr0 .nil
  | ptr i o b h => exact .cons _ _ _ _ (.ptr i o b h) .nil
  | sl0 => exact .cons _ _ _ _ .sl0 .nil
  | sl i o l c b h => exact .cons _ _ _ _ (.sl i o l c b h) .nil
  | slo i o l c b h he hl => exact .cons _ _ _ _ (.slo i o l c b h he hl) .nil
  | sle i b o c h => exact .cons _ _ _ _ (.sle i b o c h) .nil
  | map0 => exact .cons _ _ _ _ .map0 .nil
  | map i b h => exact .cons _ _ _ _ (.map i b h) .nil
  | fn f a c va vc ha hc => exact .cons _ _ _ _ (.fn f a c va vc ha hc) .nil
  | fn0 => exact .cons _ _ _ _ .fn0 .nil
  | yld i b h => exact .cons _ _ _ _ (.yld i b h) .nil
  | iface t a v h => exact .cons _ _ _ _ (.iface t a v h) .nil
  | iface0 => exact .cons _ _ _ _ .iface0 .nil
  | tup l vs h => exact .cons _ _ _ _ (.tup l vs h) .nil
  | gptr g o => exact .cons _ _ _ _ (.gptr g o) .nil
  | chan0 => exact .cons _ _ _ _ .chan0 .nil
  | chan i b h => exact .cons _ _ _ _ (.chan i b h) .nil

/-! ### abstract objects and heaps -/
structure AEnt where
  key : AV
  val : AV
  born : Nat

inductive AObj where
  | cells (elem : Nat) (c : Tr AV) (z : List AV) (n : Nat) (op : Bool)
  | map (es : List AEnt) (clock : Nat)
  | dfr (op : Bool)
  | loop (st : LoopState) (pend : Option Code) (T : Tr AV) (N : Nat) (ps : Array Tmp) (asg body : Code) (d : Nat)
  | glob (l : List AV)
  | chan (cap : Nat) (buf : List AV)
  | siter (l n pos : Nat)
  | miter0
  | miter (id since : Nat) (seen : List Nat) (last : Nat)

def AObj.isGlob : AObj → Bool
  | .glob _ => true
  | _ => false

/-- The k-th cell of a row: what was stored, else the zero of its place. -/
noncomputable def cellOf (c : Tr AV) (z : List AV) (k : Nat) : Option AV :=
  Option.rec (motive := fun _ => Option AV) (z[k % z.length]?) (fun v => some v) (c.get k)

theorem cellOf_set_same (c : Tr AV) (z : List AV) (k : Nat) (v : AV) : cellOf (c.set k v) z k = some v := by
  unfold cellOf; rw [Tr.get_set_same]
theorem cellOf_set_ne (c : Tr AV) (z : List AV) {k j : Nat} (h : k ≠ j) (v : AV) : cellOf (c.set k v) z j = cellOf c z j := by
  unfold cellOf; rw [Tr.get_set_ne _ h]

/-- The frame's slots. -/
def TR (ρ : Ren) (T : Tr AV) (tmps : Array Value) : Prop := ∀ t a, T.get t = some a → ∃ v, tmps[t]? = some v ∧ VR ρ a v

theorem TR.mono {ρ ρ' : Ren} (hle : ρ.le ρ') {T : Tr AV} {tmps : Array Value} (h : TR ρ T tmps) : TR ρ' T tmps :=
  fun t a ht => let ⟨v, h1, h2⟩ := h t a ht; ⟨v, h1, h2.mono hle⟩

def ER (ρ : Ren) (a : AEnt) (e : MapEntry) : Prop := VR ρ a.key e.key ∧ VR ρ a.val e.val ∧ a.born = e.born
inductive ERL (ρ : Ren) : List AEnt → List MapEntry → Prop where
  | nil : ERL ρ [] []
  | cons (a : AEnt) (e : MapEntry) (l : List AEnt) (es : List MapEntry) (h : ER ρ a e) (hs : ERL ρ l es) : ERL ρ (a :: l) (e :: es)
theorem ERL.mono {ρ ρ' : Ren} (hle : ρ.le ρ') : ∀ {l : List AEnt} {es : List MapEntry}, ERL ρ l es → ERL ρ' l es
  | _, _, .nil => .nil
  | _, _, .cons a e l es h hs => .cons a e l es ⟨h.1.mono hle, h.2.1.mono hle, h.2.2⟩ (ERL.mono hle hs)
theorem ERL.length {ρ : Ren} : ∀ {l : List AEnt} {vs : List MapEntry}, ERL ρ l vs → l.length = vs.length
  | _, _, .nil => rfl
  | _, _, .cons _ _ _ _ _ hs => by simp [ERL.length hs]

/-- The marks of a row lie behind it (what 'a conversion from a string' leaves), or there are none. -/
def fzOk (c : Array Value) (fz : Nat × Nat) : Prop := fz = (0, 0) ∨ c.size ≤ fz.1

/-- What an abstract object stands for, at a window. -/
inductive OR (ρ : Ren) (b : Blk) : AObj → Obj → Prop where
  | cells (elem : Nat) (c : Tr AV) (z : List AV) (n : Nat) (op : Bool) (cs : Array Value) (fz : Nat × Nat)
      (hsize : cs.size = b.ob + b.cap) (hn : n ≤ b.cap) (hop : op = false → n = b.cap) (hfz : fzOk cs fz)
      (h : ∀ k a, k < n → cellOf c z k = some a → ∃ v, cs[b.ob + k]? = some v ∧ VR ρ a v) : OR ρ b (.cells elem c z n op) (.cells cs elem fz)
  | map (es : List AEnt) (clock : Nat) (l : List MapEntry) (h : ERL ρ es l) : OR ρ b (.map es clock) (.map l.toArray clock)
  | dfr (op : Bool) : OR ρ b (.dfr op) (.deferred (if op then some [] else none))
  | loop (st : LoopState) (pend : Option Code) (T : Tr AV) (N : Nat) (ps : Array Tmp) (asg body : Code) (d fn : Nat) (tmps : Array Value) (bd : Blk)
      (hT : TR ρ T tmps) (hN : tmps.size = N) (hd : ρ d = some bd) : OR ρ b (.loop st pend T N ps asg body d) (.loop { state := st, pending := pend, fn, tmps, params := ps, assign := asg, body, defers := bd.b })
  | chan (cap : Nat) (buf : List AV) (vs : List Value) (s r : Nat) (h : VRL ρ buf vs) : OR ρ b (.chan cap buf) (.chan cap vs.toArray false s r false)
  | siter (l n pos : Nat) (hob : b.ob = 0) (hn : n < 256 ^ l) : OR ρ b (.siter l n pos) (.stringIter (bstr l n) pos)
  | miter0 (s : Nat) (seen : Array Nat) (last : Nat) (hob : b.ob = 0) : OR ρ b .miter0 (.mapIter none s seen last)
  | miter (id since : Nat) (seen : List Nat) (last : Nat) (bm : Blk) (hob : b.ob = 0) (hm : ρ id = some bm) : OR ρ b (.miter id since seen last) (.mapIter (some bm.b) since seen.toArray last)

theorem OR.mono {ρ ρ' : Ren} (hle : ρ.le ρ') {b : Blk} {a : AObj} {o : Obj} (h : OR ρ b a o) : OR ρ' b a o := by
  cases h with
  | cells elem c z n op cs fz hsize hn hop hfz h =>
    exact .cells elem c z n op cs fz hsize hn hop hfz fun k a hk ha => let ⟨v, h1, h2⟩ := h k a hk ha; ⟨v, h1, h2.mono hle⟩
  | map es clock l h => exact .map es clock l (h.mono hle)
  | dfr op => exact .dfr op
  | loop st pend T N ps asg body d fn tmps bd hT hN hd => exact .loop st pend T N ps asg body d fn tmps bd (hT.mono hle) hN (hle _ _ hd)
  | chan cap buf vs s r h => exact .chan cap buf vs s r (h.mono hle)
  | siter l n pos hob hn => exact .siter l n pos hob hn
  | miter0 s seen last hob => exact .miter0 s seen last hob
  | miter id since seen last bm hob hm => exact .miter id since seen last bm hob (hle _ _ hm)

/-- What stays: the tape, the outside world, the streams. -/
structure Env where
  tape : Nat → Question → Nat
  os : Os
  output : Array (Nat × ByteArray)
  base : Nat → Option Obj

/-- THE RELATION: the blocks of F are as they were; each object that is known (and made) is what stands in its block. -/
structure Rel (E : Env) (F : Nat → Option Obj) (nx : Nat) (ρ : Ren) (h : Nat → Option AObj) (w : World) : Prop where
  tape : w.tape = E.tape
  os : w.os = E.os
  output : w.output = E.output
  fr : ∀ b o, F b = some o → w.heap[b]? = some o
  ob : ∀ i o b, h i = some o → ρ i = some b → ∃ c, w.heap[b.b]? = some c ∧ OR ρ b o c
  dj : ∀ i o b, h i = some o → ρ i = some b → F b.b = none
  inj : ∀ i j o o' b b', h i = some o → h j = some o' → ρ i = some b → ρ j = some b' → b.b = b'.b → i = j
  new : ∀ i, nx ≤ i → ρ i = none
  gl : ∀ g l, h g = some (.glob l) → ∃ cs e fz, E.base g = some (.cells cs e fz) ∧ ∀ ρ', VRL ρ' l cs.toList
  bs : ∀ b o, E.base b = some o → F b = some o

theorem Rel.drew {E : Env} {F : Nat → Option Obj} {nx : Nat} {ρ : Ren} {h : Nat → Option AObj} {w : World} (r : Rel E F nx ρ h w) : Rel E F nx ρ h w.drew :=
  ⟨r.tape, r.os, r.output, r.fr, r.ob, r.dj, r.inj, r.new, r.gl, r.bs⟩

/-- Less is known. -/
theorem Rel.less {E : Env} {F : Nat → Option Obj} {nx : Nat} {ρ : Ren} {h h' : Nat → Option AObj} {w : World} (r : Rel E F nx ρ h w)
    (hl : ∀ i o, h' i = some o → h i = some o) : Rel E F nx ρ h' w :=
  ⟨r.tape, r.os, r.output, r.fr, fun i o b hi => r.ob i o b (hl i o hi), fun i o b hi => r.dj i o b (hl i o hi),
    fun i j o o' b b' hi hj => r.inj i j o o' b b' (hl i o hi) (hl j o' hj), r.new, fun g l hg => r.gl g l (hl g _ hg), r.bs⟩

theorem Rel.nx_le {E : Env} {F : Nat → Option Obj} {nx nx' : Nat} {ρ : Ren} {h : Nat → Option AObj} {w : World} (r : Rel E F nx ρ h w) (hn : nx ≤ nx') :
    Rel E F nx' ρ h w := { r with new := fun i hi => r.new i (Nat.le_trans hn hi) }

theorem lt_of_heap {w : World} {b : Nat} {o : Obj} (h : w.heap[b]? = some o) : b < w.heap.size := (Array.getElem?_eq_some_iff.1 h).1

/-- A new block. -/
theorem Rel.alloc {E : Env} {F : Nat → Option Obj} {nx nx' : Nat} {ρ : Ren} {h : Nat → Option AObj} {w : World} (r : Rel E F nx ρ h w)
    {i : Nat} (hi : ρ i = none) (hnx : nx ≤ nx') (hi' : i < nx') {cap : Nat} {a : AObj} {o : Obj}
    (hor : OR (fun j => if j = i then some ⟨w.heap.size, 0, cap⟩ else ρ j) ⟨w.heap.size, 0, cap⟩ a o) :
    Rel E F nx' (fun j => if j = i then some ⟨w.heap.size, 0, cap⟩ else ρ j) (fun j => if j = i then some a else h j) (w.alloc o) ∧
    ρ.le (fun j => if j = i then some ⟨w.heap.size, 0, cap⟩ else ρ j) := by
  have hle : ρ.le (fun j => if j = i then some ⟨w.heap.size, 0, cap⟩ else ρ j) := fun j b hj => by
    have : j ≠ i := fun e => by subst e; rw [hi] at hj; cases hj
    simp [this, hj]
  have hheap : ∀ b o', w.heap[b]? = some o' → (w.alloc o).heap[b]? = some o' := fun b o' hb => by
    have := lt_of_heap hb
    show (w.heap.push o)[b]? = _
    rw [Array.getElem?_push, if_neg (by omega)]; exact hb
  have hnew : (w.alloc o).heap[w.heap.size]? = some o := by
    show (w.heap.push o)[w.heap.size]? = _
    rw [Array.getElem?_push, if_pos rfl]
  refine ⟨⟨r.tape, r.os, r.output, fun b o' hb => hheap b o' (r.fr b o' hb), ?_, ?_, ?_, ?_, fun g l hg => ?_, r.bs⟩, hle⟩
  rotate_right
  · by_cases hgi : g = i
    · subst hgi
      simp only [if_true, Option.some.injEq] at hg
      subst hg
      cases hor
    · simp only [hgi, if_false] at hg
      exact r.gl g l hg
  · intro j o' b hj hb
    by_cases hji : j = i
    · subst hji
      simp only [if_true, Option.some.injEq] at hj hb
      subst hj; subst hb
      exact ⟨o, hnew, hor⟩
    · simp only [hji, if_false] at hj hb
      obtain ⟨c, hc, hr⟩ := r.ob j o' b hj hb
      exact ⟨c, hheap _ _ hc, hr.mono hle⟩
  · intro j o' b hj hb
    by_cases hji : j = i
    · subst hji
      simp only [if_true, Option.some.injEq] at hj hb
      subst hb
      cases hF : F w.heap.size with
      | none => rfl
      | some x => exact absurd (lt_of_heap (r.fr _ _ hF)) (Nat.lt_irrefl _)
    · simp only [hji, if_false] at hj hb
      exact r.dj j o' b hj hb
  · intro j k o1 o2 b1 b2 hj hk hb1 hb2 hbb
    by_cases hji : j = i <;> by_cases hki : k = i
    · rw [hji, hki]
    · simp only [hji, hki, if_true, if_false, Option.some.injEq] at hj hk hb1 hb2
      subst hb1
      obtain ⟨c, hc, _⟩ := r.ob k o2 b2 hk hb2
      have := lt_of_heap hc
      simp only at hbb
      omega
    · simp only [hji, hki, if_true, if_false, Option.some.injEq] at hj hk hb1 hb2
      subst hb2
      obtain ⟨c, hc, _⟩ := r.ob j o1 b1 hj hb1
      have := lt_of_heap hc
      simp only at hbb
      omega
    · simp only [hji, hki, if_false] at hj hk hb1 hb2
      exact r.inj j k o1 o2 b1 b2 hj hk hb1 hb2 hbb
  · intro j hj
    have : j ≠ i := by omega
    simp only [this, if_false]
    exact r.new j (Nat.le_trans hnx hj)

/-- Another object at a block that is known. -/
theorem Rel.put {E : Env} {F : Nat → Option Obj} {nx : Nat} {ρ : Ren} {h : Nat → Option AObj} {w w' : World} (r : Rel E F nx ρ h w)
    {i : Nat} {b : Blk} {o a : AObj} {c : Obj} (hi : h i = some o) (hb : ρ i = some b) (hor : OR ρ b a c)
    (hw : ∀ k, w'.heap[k]? = if k = b.b then some c else w.heap[k]?) (ht : w'.tape = w.tape) (hos : w'.os = w.os) (hout : w'.output = w.output) :
    Rel E F nx ρ (fun j => if j = i then some a else h j) w' := by
  have hF := r.dj i o b hi hb
  refine ⟨ht.trans r.tape, hos.trans r.os, hout.trans r.output, ?_, ?_, ?_, ?_, r.new, fun g l hg => ?_, r.bs⟩
  rotate_right
  · by_cases hgi : g = i
    · subst hgi
      simp only [if_true, Option.some.injEq] at hg
      subst hg
      cases hor
    · simp only [hgi, if_false] at hg
      exact r.gl g l hg
  · intro k o' hk
    rw [hw, if_neg (fun e => by subst e; rw [hF] at hk; cases hk)]
    exact r.fr k o' hk
  · intro j o' b' hj hb'
    by_cases hji : j = i
    · subst hji
      simp only [if_true, Option.some.injEq] at hj
      subst hj
      rw [hb] at hb'; cases hb'
      exact ⟨c, by rw [hw, if_pos rfl], hor⟩
    · simp only [hji, if_false] at hj
      obtain ⟨c', hc', hr⟩ := r.ob j o' b' hj hb'
      refine ⟨c', ?_, hr⟩
      rw [hw, if_neg (fun e => hji (r.inj j i o' o b' b hj hi hb' hb e))]
      exact hc'
  · intro j o' b' hj hb'
    by_cases hji : j = i
    · subst hji; rw [hb] at hb'; cases hb'; exact hF
    · simp only [hji, if_false] at hj; exact r.dj j o' b' hj hb'
  · intro j k o1 o2 b1 b2 hj hk hb1 hb2 hbb
    by_cases hji : j = i <;> by_cases hki : k = i
    · rw [hji, hki]
    · simp only [hki, if_false] at hk
      subst hji; exact r.inj _ k o o2 b1 b2 hi hk hb1 hb2 hbb
    · simp only [hji, if_false] at hj
      subst hki; exact r.inj j _ o1 o b1 b2 hj hi hb1 hb2 hbb
    · simp only [hji, hki, if_false] at hj hk
      exact r.inj j k o1 o2 b1 b2 hj hk hb1 hb2 hbb

end Go.Ev
