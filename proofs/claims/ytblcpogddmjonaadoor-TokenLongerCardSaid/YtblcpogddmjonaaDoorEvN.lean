/- The evaluator, part N: what an operation's evaluation hangs on; equal values. -/
import Derived.Test.YtblcpogddmjonaaDoorEvM
namespace Go.Ev

theorem xsL_congr {X X' : Operand → Option AV} : ∀ (l : List Operand), (∀ x ∈ l, X x = X' x) → xsL X l = xsL X' l
  | [], _ => rfl
  | x :: l, h => by
    show (ob (X x) fun a => ob (xsL X l) fun r => some (a :: r)) = ob (X' x) fun a => ob (xsL X' l) fun r => some (a :: r)
    rw [h x (by simp), xsL_congr l fun y hy => h y (by simp [hy])]
theorem partsL_congr {X X' : Operand → Option AV} : ∀ (l : List (Nat × Operand)), (∀ x ∈ l, X x.2 = X' x.2) → partsL X l = partsL X' l
  | [], _ => rfl
  | x :: l, h => by
    show (ob (X x.2) fun a => ob (partsL X l) fun r => some ((x.1, a) :: r)) = ob (X' x.2) fun a => ob (partsL X' l) fun r => some ((x.1, a) :: r)
    rw [h x (by simp), partsL_congr l fun y hy => h y (by simp [hy])]
theorem evB_congr {X X' : Operand → Option AV} {x : Option Operand} (h : ∀ y, x = some y → X y = X' y) (d lim : Nat) : evB X x d lim = evB X' x d lim := by
  cases x with
  | none => rfl
  | some o => unfold evB; simp only; rw [h o rfl]

theorem evSlice_congr {P : Program} {X X' : Operand → Option AV} {t : TypeId} {x : AV} {lo hi mx : Option Operand} (h1 : ∀ y, lo = some y → X y = X' y) (h2 : ∀ y, hi = some y → X y = X' y)
    (h3 : ∀ y, mx = some y → X y = X' y) : evSlice P X t x lo hi mx = evSlice P X' t x lo hi mx := by
  have e1 := fun d lim => evB_congr (X := X) (X' := X') h1 d lim
  have e2 := fun d lim => evB_congr (X := X) (X' := X') h2 d lim
  have e3 := fun d lim => evB_congr (X := X) (X' := X') h3 d lim
  unfold evSlice
  simp only [e1, e2, e3]

theorem mem_parts {parts : Array (Nat × Operand)} {x : Nat × Operand} (h : x ∈ parts.toList) : x.2 ∈ (parts.toList.map (·.2)).toArray := by
  simp only [List.mem_toArray, List.mem_map]
  exact ⟨x, h, rfl⟩

theorem evPure3_congr {P : Program} {H : Tr AObj} {X X' : Operand → Option AV} {op : Op} (h : ∀ x ∈ op.operands, X x = X' x) : evPure3 P H X op = evPure3 P H X' op := by
  cases op <;> simp only [evPure3, evPure, evBuild] <;> try rfl
  case move x => exact h x (by simp [Op.operands])
  case assign x => exact h x (by simp [Op.operands])
  case pick c a b => rw [h c (by simp [Op.operands]), h a (by simp [Op.operands]), h b (by simp [Op.operands])]
  case build t parts => rw [partsL_congr parts.toList fun x hx => h x.2 (by simp only [Op.operands]; exact mem_parts hx)]
  case load t x => rw [h x (by simp [Op.operands])]
  case nilCheck x => rw [h x (by simp [Op.operands])]
  case binOp op t x y yt => rw [h x (by simp [Op.operands]), h y (by simp [Op.operands])]
  case unOp op t x => rw [h x (by simp [Op.operands])]
  case convert s d x => rw [h x (by simp [Op.operands])]
  case makeInterface t x => rw [h x (by simp [Op.operands])]
  case makeFunc fn first captured =>
    rw [xsL_congr first.toList fun x hx => h x (by simp [Op.operands]; exact .inl (by simpa using hx)), xsL_congr captured.toList fun x hx => h x (by simp [Op.operands]; exact .inr (by simpa using hx))]
  case slice t x lo hi mx =>
    rw [h x (by simp [Op.operands])]
    have hc := fun a => evSlice_congr (P := P) (X := X) (X' := X') (t := t) (x := a) (lo := lo) (hi := hi) (mx := mx)
      (fun y hy => h y (by simp [Op.operands, hy])) (fun y hy => h y (by simp [Op.operands, hy])) (fun y hy => h y (by simp [Op.operands, hy]))
    simp only [hc]
  case fieldAddr t x f => rw [h x (by simp [Op.operands])]
  case field t x f => rw [h x (by simp [Op.operands])]
  case indexAddr t x i => rw [h x (by simp [Op.operands]), h i (by simp [Op.operands])]
  case index t x i => rw [h x (by simp [Op.operands]), h i (by simp [Op.operands])]
  case lookup t x i ok => rw [h x (by simp [Op.operands]), h i (by simp [Op.operands])]
  case extract x i => rw [h x (by simp [Op.operands])]
  case typeAssert x t a ok => rw [h x (by simp [Op.operands])]
  case entry x => rw [h x (by simp [Op.operands])]
  case call c =>
    obtain ⟨callee, args, ts⟩ := c
    cases callee with
    | builtin b => simp only; rw [xsL_congr args.toList fun x hx => h x (by simp [Op.operands, Call.operands]; simpa using hx)]
    | value f =>
      simp only
      rw [h f (by simp [Op.operands, Call.operands]), xsL_congr args.toList fun x hx => h x (by simp [Op.operands, Call.operands]; exact .inr (by simpa using hx))]
    | invoke _ _ => rfl

theorem evNew3_congr {P : Program} {X X' : Operand → Option AV} {ni : Nat} {op : Op} (h : ∀ x ∈ op.operands, X x = X' x) : evNew3 P X ni op = evNew3 P X' ni op := by
  cases op <;> simp only [evNew3] <;> try rfl
  case box el x => rw [h x (by simp [Op.operands])]
  case makeMap t r => cases r <;> rfl
  case makeSlice t l c => rw [h l (by simp [Op.operands]), h c (by simp [Op.operands])]
  case buildSlice t len parts => rw [partsL_congr parts.toList fun x hx => h x.2 (by simp only [Op.operands]; exact mem_parts hx)]
  case convert s t x => rw [h x (by simp [Op.operands])]
  case makeChan t x => rw [h x (by simp [Op.operands])]
  case range t x => rw [h x (by simp [Op.operands])]

theorem evHeavy3_congr {P : Program} {call : CallF} {X X' : Operand → Option AV} {H : Tr AObj} {ni nx : Nat} {op : Op} (h : ∀ x ∈ op.operands, X x = X' x) :
    evHeavy3 P call X H ni nx op = evHeavy3 P call X' H ni nx op := by
  cases op <;> simp only [evHeavy3] <;> try rfl
  case store t x v => rw [h x (by simp [Op.operands]), h v (by simp [Op.operands])]
  case mapUpdate t m k v => rw [h m (by simp [Op.operands]), h k (by simp [Op.operands]), h v (by simp [Op.operands])]
  case insert t m k v => rw [h m (by simp [Op.operands]), h k (by simp [Op.operands]), h v (by simp [Op.operands])]
  case call c =>
    obtain ⟨callee, args, ts⟩ := c
    cases callee with
    | builtin b =>
      cases b <;> try rfl
      all_goals
        simp only
        rw [xsL_congr args.toList fun x hx => h x (by simp [Op.operands, Call.operands]; simpa using hx)]
    | value f =>
      simp only
      rw [h f (by simp [Op.operands, Call.operands]), xsL_congr args.toList fun x hx => h x (by simp [Op.operands, Call.operands]; exact .inr (by simpa using hx))]
    | invoke _ _ => rfl
  case panic x => rw [h x (by simp [Op.operands])]
  case next x isS => rw [h x (by simp [Op.operands])]
  case range t x => rw [h x (by simp [Op.operands])]
  case convert s d x => rw [h x (by simp [Op.operands])]
  case defer c =>
    obtain ⟨callee, args, ts⟩ := c
    cases callee with
    | builtin b => rfl
    | value f =>
      simp only
      rw [h f (by simp [Op.operands, Call.operands]), xsL_congr args.toList fun x hx => h x (by simp [Op.operands, Call.operands]; exact .inr (by simpa using hx))]
    | invoke _ _ => rfl

theorem evPure3_noread {P : Program} {H H' : Tr AObj} {X : Operand → Option AV} {op : Op} (h : readsH op = false) : evPure3 P H X op = evPure3 P H' X op := by
  cases op <;> first | rfl | (cases h; done)



/-! ### the same of the symbolic layer -/
theorem sBd_congr {X X' : Operand → Option AV} {x : Option Operand} (h : ∀ y, x = some y → X y = X' y) (d lim : Nat) : sBd X x d lim = sBd X' x d lim := by
  cases x with
  | none => rfl
  | some o => unfold sBd; simp only; rw [h o rfl]
theorem sSlice_congr {P : Program} {X X' : Operand → Option AV} {t : TypeId} {x : AV} {lo hi mx : Option Operand} (h1 : ∀ y, lo = some y → X y = X' y) (h2 : ∀ y, hi = some y → X y = X' y) :
    sSlice P X t x lo hi mx = sSlice P X' t x lo hi mx := by
  have e1 := fun d lim => sBd_congr (X := X) (X' := X') h1 d lim
  have e2 := fun d lim => sBd_congr (X := X) (X' := X') h2 d lim
  unfold sSlice
  simp only [e1, e2]

theorem sPure_congr {P : Program} {H : Tr AObj} {X X' : Operand → Option AV} {op : Op} (h : ∀ x ∈ op.operands, X x = X' x) : sPure P H X op = sPure P H X' op := by
  cases op <;> simp only [sPure] <;> try rfl
  case pick c a b => rw [h c (by simp [Op.operands]), h a (by simp [Op.operands]), h b (by simp [Op.operands])]
  case load t x => rw [h x (by simp [Op.operands])]
  case nilCheck x => rw [h x (by simp [Op.operands])]
  case binOp op t x y yt => rw [h x (by simp [Op.operands]), h y (by simp [Op.operands])]
  case unOp op t x => rw [h x (by simp [Op.operands])]
  case convert s d x => rw [h x (by simp [Op.operands])]
  case slice t x lo hi mx =>
    rw [h x (by simp [Op.operands])]
    have hc := fun a => sSlice_congr (P := P) (X := X) (X' := X') (t := t) (x := a) (lo := lo) (hi := hi) (mx := mx)
      (fun y hy => h y (by simp [Op.operands, hy])) (fun y hy => h y (by simp [Op.operands, hy]))
    simp only [hc]
  case fieldAddr t x f => rw [h x (by simp [Op.operands])]
  case indexAddr t x i => rw [h x (by simp [Op.operands]), h i (by simp [Op.operands])]
  case index t x i => rw [h x (by simp [Op.operands]), h i (by simp [Op.operands])]
  case lookup t x i ok => rw [h x (by simp [Op.operands]), h i (by simp [Op.operands])]
  case call c =>
    obtain ⟨callee, args, ts⟩ := c
    cases callee with
    | builtin b => simp only; rw [xsL_congr args.toList fun x hx => h x (by simp [Op.operands, Call.operands]; simpa using hx)]
    | value f =>
      simp only
      rw [h f (by simp [Op.operands, Call.operands]), xsL_congr args.toList fun x hx => h x (by simp [Op.operands, Call.operands]; exact .inr (by simpa using hx))]
    | invoke _ _ => rfl
theorem sNew_congr {P : Program} {X X' : Operand → Option AV} {ni : Nat} {op : Op} (h : ∀ x ∈ op.operands, X x = X' x) : sNew P X ni op = sNew P X' ni op := by
  cases op <;> simp only [sNew] <;> try rfl
  case makeSlice t l c => rw [h l (by simp [Op.operands]), h c (by simp [Op.operands])]
  case convert s t x => rw [h x (by simp [Op.operands])]
theorem sHeavy_congr {P : Program} {X X' : Operand → Option AV} {H : Tr AObj} {ni : Nat} {op : Op} (h : ∀ x ∈ op.operands, X x = X' x) : sHeavy P X H ni op = sHeavy P X' H ni op := by
  cases op <;> simp only [sHeavy] <;> try rfl
  case store t x v => rw [h x (by simp [Op.operands]), h v (by simp [Op.operands])]
  case call c =>
    obtain ⟨callee, args, ts⟩ := c
    cases callee with
    | builtin b =>
      cases b <;> try rfl
      all_goals
        simp only
        rw [xsL_congr args.toList fun x hx => h x (by simp [Op.operands, Call.operands]; simpa using hx)]
    | value f => rfl
    | invoke _ _ => rfl
theorem evPure2_congr {P : Program} {H : Tr AObj} {X X' : Operand → Option AV} {op : Op} (h : ∀ x ∈ op.operands, X x = X' x) : evPure2 P H X op = evPure2 P H X' op := by
  unfold evPure2; rw [sPure_congr h, evPure3_congr h]
theorem evNew_congr {P : Program} {X X' : Operand → Option AV} {ni : Nat} {op : Op} (h : ∀ x ∈ op.operands, X x = X' x) : evNew P X ni op = evNew P X' ni op := by
  unfold evNew; rw [sNew_congr h, evNew3_congr h]
theorem evHeavy_congr {P : Program} {call : CallF} {X X' : Operand → Option AV} {H : Tr AObj} {ni nx : Nat} {op : Op} (h : ∀ x ∈ op.operands, X x = X' x) :
    evHeavy P call X H ni nx op = evHeavy P call X' H ni nx op := by
  unfold evHeavy; rw [sHeavy_congr h, evHeavy3_congr h]
theorem evPure2_noread {P : Program} {H H' : Tr AObj} {X : Operand → Option AV} {op : Op} (h : readsH op = false) : evPure2 P H X op = evPure2 P H' X op := by
  have : sPure P H X op = sPure P H' X op := by cases op <;> first | rfl | (cases h; done)
  unfold evPure2; rw [this, evPure3_noread h]

end Go.Ev
