/- The evaluator, part N: what an operation's evaluation hangs on; equal values. -/
import Derived.Test.YtdpohandjgnknaaGreatDoorEvM
namespace Go.Ev

theorem xsL_congr {X X' : Operand → Option AV} : ∀ (l : List Operand), (∀ x ∈ l, X x = X' x) → xsL X l = xsL X' l
  | [], _ => rfl
  | x :: l, h => by
    show (ob (X x) fun a => ob (xsL X l) fun r => some (a :: r)) = ob (X' x) fun a => ob (xsL X' l) fun r => some (a :: r)
    rw [h x (by simp), xsL_congr l fun y hy => h y (by simp [hy])]
theorem partsL_congr {X X' : Operand → Option AV} : ∀ (l : List (Nat × Operand)), (∀ x ∈ l, X x.2 = X' x.2) → partsL X l = partsL X' l
  | [], _ => rfl
  | x :: l, h => by
    show (ob (X x.2) fun a => ob (partsL X l) fun r => some ((x.1, a) :: r)) = ob (X' x.2) fun a => ob (partsL X' l) fun r => some ((x.1, a) :: r)
    rw [h x (by simp), partsL_congr l fun y hy => h y (by simp [hy])]
theorem evB_congr {X X' : Operand → Option AV} {x : Option Operand} (h : ∀ y, x = some y → X y = X' y) (d lim : Nat) : evB X x d lim = evB X' x d lim := by
  cases x with
  | none => rfl
  | some o => unfold evB; simp only; rw [h o rfl]

theorem evSlice_congr {P : Program} {X X' : Operand → Option AV} {t : TypeId} {x : AV} {lo hi mx : Option Operand} (h1 : ∀ y, lo = some y → X y = X' y) (h2 : ∀ y, hi = some y → X y = X' y)
    (h3 : ∀ y, mx = some y → X y = X' y) : evSlice P X t x lo hi mx = evSlice P X' t x lo hi mx := by
  have e1 := fun d lim => evB_congr (X := X) (X' := X') h1 d lim
  have e2 := fun d lim => evB_congr (X := X) (X' := X') h2 d lim
  have e3 := fun d lim => evB_congr (X := X) (X' := X') h3 d lim
  unfold evSlice
  simp only [e1, e2, e3]

theorem mem_parts {parts : Array (Nat × Operand)} {x : Nat × Operand} (h : x ∈ parts.toList) : x.2 ∈ (parts.toList.map (·.2)).toArray := by
  simp only [List.mem_toArray, List.mem_map]
  exact ⟨x, h, rfl⟩

theorem evPure2_congr {P : Program} {H : Tr AObj} {X X' : Operand → Option AV} {op : Op} (h : ∀ x ∈ op.operands, X x = X' x) : evPure2 P H X op = evPure2 P H X' op := by
  cases op <;> simp only [evPure2, evPure, evBuild] <;> try rfl
  case move x => exact h x (by simp [Op.operands])
  case assign x => exact h x (by simp [Op.operands])
  case pick c a b => rw [h c (by simp [Op.operands]), h a (by simp [Op.operands]), h b (by simp [Op.operands])]
  case build t parts => rw [partsL_congr parts.toList fun x hx => h x.2 (by simp only [Op.operands]; exact mem_parts hx)]
  case load t x => rw [h x (by simp [Op.operands])]
  case nilCheck x => rw [h x (by simp [Op.operands])]
  case binOp op t x y yt => rw [h x (by simp [Op.operands]), h y (by simp [Op.operands])]
  case unOp op t x => rw [h x (by simp [Op.operands])]
  case convert s d x => rw [h x (by simp [Op.operands])]
  case makeInterface t x => rw [h x (by simp [Op.operands])]
  case makeFunc fn first captured =>
    rw [xsL_congr first.toList fun x hx => h x (by simp [Op.operands]; exact .inl (by simpa using hx)), xsL_congr captured.toList fun x hx => h x (by simp [Op.operands]; exact .inr (by simpa using hx))]
  case slice t x lo hi mx =>
    rw [h x (by simp [Op.operands])]
    have hc := fun a => evSlice_congr (P := P) (X := X) (X' := X') (t := t) (x := a) (lo := lo) (hi := hi) (mx := mx)
      (fun y hy => h y (by simp [Op.operands, hy])) (fun y hy => h y (by simp [Op.operands, hy])) (fun y hy => h y (by simp [Op.operands, hy]))
    simp only [hc]
  case fieldAddr t x f => rw [h x (by simp [Op.operands])]
  case field t x f => rw [h x (by simp [Op.operands])]
  case indexAddr t x i => rw [h x (by simp [Op.operands]), h i (by simp [Op.operands])]
  case index t x i => rw [h x (by simp [Op.operands]), h i (by simp [Op.operands])]
  case lookup t x i ok => rw [h x (by simp [Op.operands]), h i (by simp [Op.operands])]
  case extract x i => rw [h x (by simp [Op.operands])]
  case typeAssert x t a ok => rw [h x (by simp [Op.operands])]
  case entry x => rw [h x (by simp [Op.operands])]
  case call c =>
    obtain ⟨callee, args, ts⟩ := c
    cases callee with
    | builtin b => simp only; rw [xsL_congr args.toList fun x hx => h x (by simp [Op.operands, Call.operands]; simpa using hx)]
    | value f =>
      simp only
      rw [h f (by simp [Op.operands, Call.operands]), xsL_congr args.toList fun x hx => h x (by simp [Op.operands, Call.operands]; exact .inr (by simpa using hx))]
    | invoke _ _ => rfl

theorem evNew_congr {P : Program} {X X' : Operand → Option AV} {ni : Nat} {op : Op} (h : ∀ x ∈ op.operands, X x = X' x) : evNew P X ni op = evNew P X' ni op := by
  cases op <;> simp only [evNew] <;> try rfl
  case box el x => rw [h x (by simp [Op.operands])]
  case makeMap t r => cases r <;> rfl
  case makeSlice t l c => rw [h l (by simp [Op.operands]), h c (by simp [Op.operands])]
  case buildSlice t len parts => rw [partsL_congr parts.toList fun x hx => h x.2 (by simp only [Op.operands]; exact mem_parts hx)]
  case convert s t x => rw [h x (by simp [Op.operands])]
  case makeChan t x => rw [h x (by simp [Op.operands])]
  case range t x => rw [h x (by simp [Op.operands])]

theorem evHeavy_congr {P : Program} {call : CallF} {X X' : Operand → Option AV} {H : Tr AObj} {ni nx : Nat} {op : Op} (h : ∀ x ∈ op.operands, X x = X' x) :
    evHeavy P call X H ni nx op = evHeavy P call X' H ni nx op := by
  cases op <;> simp only [evHeavy] <;> try rfl
  case store t x v => rw [h x (by simp [Op.operands]), h v (by simp [Op.operands])]
  case mapUpdate t m k v => rw [h m (by simp [Op.operands]), h k (by simp [Op.operands]), h v (by simp [Op.operands])]
  case insert t m k v => rw [h m (by simp [Op.operands]), h k (by simp [Op.operands]), h v (by simp [Op.operands])]
  case call c =>
    obtain ⟨callee, args, ts⟩ := c
    cases callee with
    | builtin b =>
      cases b <;> try rfl
      all_goals
        simp only
        rw [xsL_congr args.toList fun x hx => h x (by simp [Op.operands, Call.operands]; simpa using hx)]
    | value f =>
      simp only
      rw [h f (by simp [Op.operands, Call.operands]), xsL_congr args.toList fun x hx => h x (by simp [Op.operands, Call.operands]; exact .inr (by simpa using hx))]
    | invoke _ _ => rfl
  case panic x => rw [h x (by simp [Op.operands])]
  case next x isS => rw [h x (by simp [Op.operands])]
  case range t x => rw [h x (by simp [Op.operands])]
  case convert s d x => rw [h x (by simp [Op.operands])]
  case defer c =>
    obtain ⟨callee, args, ts⟩ := c
    cases callee with
    | builtin b => rfl
    | value f =>
      simp only
      rw [h f (by simp [Op.operands, Call.operands]), xsL_congr args.toList fun x hx => h x (by simp [Op.operands, Call.operands]; exact .inr (by simpa using hx))]
    | invoke _ _ => rfl

theorem evPure2_noread {P : Program} {H H' : Tr AObj} {X : Operand → Option AV} {op : Op} (h : readsH op = false) : evPure2 P H X op = evPure2 P H' X op := by
  cases op <;> first | rfl | (cases h; done)

/-! ### equal values -/
theorem cond_and {a b : Bool} (h : cond a b false = true) : a = true ∧ b = true := by
  cases a <;> cases b <;> first | exact ⟨rfl, rfl⟩ | cases h

mutual
theorem avEq_eq : ∀ (a b : AV), avEq a b = true → a = b
  | .bool a, b, h => by
    cases b <;> first | (simp [avEq] at h; done) | skip
    rename_i b; cases a <;> cases b <;> first | rfl | (simp [avEq] at h; done)
  | .int k a, b, h => by
    cases b <;> first | (simp [avEq] at h; done) | skip
    rw [avEq] at h
    obtain ⟨h1, h2⟩ := cond_and h
    rw [ieq_eq] at h2
    rw [ikEq_eq h1, eq_of_beq h2]
  | .str l n, b, h => by
    cases b <;> first | (simp [avEq] at h; done) | skip
    rw [avEq] at h
    obtain ⟨h1, h2⟩ := cond_and h
    rw [Nat.beq_eq] at h1 h2
    rw [h1, h2]
  | .ptr0, b, h => by cases b <;> first | rfl | (simp [avEq] at h; done)
  | .ptr i o, b, h => by
    cases b <;> first | (simp [avEq] at h; done) | skip
    rw [avEq] at h
    obtain ⟨h1, h2⟩ := cond_and h
    rw [Nat.beq_eq] at h1 h2
    rw [h1, h2]
  | .sl0, b, h => by cases b <;> first | rfl | (simp [avEq] at h; done)
  | .sl i o n c, b, h => by
    cases b <;> first | (simp [avEq] at h; done) | skip
    rw [avEq] at h
    obtain ⟨h1, h2⟩ := cond_and h
    obtain ⟨h2, h3⟩ := cond_and h2
    obtain ⟨h3, h4⟩ := cond_and h3
    rw [Nat.beq_eq] at h1 h2 h3 h4
    rw [h1, h2, h3, h4]
  | .slo i o n c, b, h => by
    cases b <;> first | (simp [avEq] at h; done) | skip
    rw [avEq] at h
    obtain ⟨h1, h2⟩ := cond_and h
    obtain ⟨h2, h3⟩ := cond_and h2
    obtain ⟨h3, h4⟩ := cond_and h3
    rw [Nat.beq_eq] at h1 h2 h3 h4
    rw [h1, h2, h3, h4]
  | .sle i, b, h => by
    cases b <;> first | (simp [avEq] at h; done) | skip
    rw [avEq, Nat.beq_eq] at h; rw [h]
  | .map0, b, h => by cases b <;> first | rfl | (simp [avEq] at h; done)
  | .map i, b, h => by
    cases b <;> first | (simp [avEq] at h; done) | skip
    rw [avEq, Nat.beq_eq] at h; rw [h]
  | .fn0, b, h => by cases b <;> first | rfl | (simp [avEq] at h; done)
  | .yld i, b, h => by
    cases b <;> first | (simp [avEq] at h; done) | skip
    rw [avEq, Nat.beq_eq] at h; rw [h]
  | .fn f a c, b, h => by
    cases b <;> first | (cases f <;> simp [avEq] at h; done) | skip
    rename_i g b d
    cases f <;> cases g <;> first | (simp [avEq] at h; done) | skip
    rw [avEq] at h
    obtain ⟨h1, h2⟩ := cond_and h
    obtain ⟨h2, h3⟩ := cond_and h2
    rw [Nat.beq_eq] at h1
    rw [h1, avEqL_eq a b h2, avEqL_eq c d h3]
  | .iface t v, b, h => by
    cases b <;> first | (simp [avEq] at h; done) | skip
    rw [avEq] at h
    obtain ⟨h1, h2⟩ := cond_and h
    rw [Nat.beq_eq] at h1
    rw [h1, avEq_eq v _ h2]
  | .iface0, b, h => by cases b <;> first | rfl | (simp [avEq] at h; done)
  | .agg l, b, h => by
    cases b <;> first | (simp [avEq] at h; done) | skip
    rw [avEq] at h
    rw [avEqL_eq l _ h]
  | .tup l, b, h => by
    cases b <;> first | (simp [avEq] at h; done) | skip
    rw [avEq] at h
    rw [avEqL_eq l _ h]
theorem avEqL_eq : ∀ (a b : List AV), avEqL a b = true → a = b
  | [], b, h => by cases b <;> first | rfl | (simp [avEqL] at h; done)
  | a :: l, b, h => by
    cases b with
    | nil => simp [avEqL] at h
    | cons b m =>
      rw [avEqL] at h
      obtain ⟨h1, h2⟩ := cond_and h
      rw [avEq_eq a b h1, avEqL_eq l m h2]
end

end Go.Ev
