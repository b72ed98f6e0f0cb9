/- The symbolic layer, part D: all operations that read at most; new blocks. -/
import Derived.Test.YtblcpogddmjonaaDoorSxC
set_option linter.unusedVariables false
set_option linter.unusedSimpArgs false
namespace Go.Ev

noncomputable def sNil (x : AV) : SV := match x with
  | .pv cs => some (true, .pv cs)
  | .pel id esz i j => some (true, .pel id esz i j)
  | _ => none
noncomputable def sUn (op : UnOp) (x : AV) : SV := match op, x with
  | .neg, .int k n => some (inR k (0 - n), .int k (0 - n))
  | _, _ => none

noncomputable def sBi (P : Program) (b : Builtin) (ts : List TypeId) (xs : List AV) : SV :=
  match b with
  | .len => ob (ts[0]?) fun t => ob (xs[0]?) fun x => sLen P t x
  | _ => none

noncomputable def sPure (P : Program) (H : Tr AObj) (X : Operand → Option AV) (op : Op) : SV :=
  match op with
  | .pick c a b => ob (X c) fun v => match v with
    | .bool t => ob (X a) fun x => ob (X b) fun y => ob (sMerge t x y) fun m => some (true, m)
    | _ => none
  | .load t a => ob (X a) fun x => sLoad P H t x
  | .nilCheck x => ob (X x) sNil
  | .binOp op t x y _ => ob (X x) fun a => ob (X y) fun b => sBin P op t (isConstO x) (isConstO y) a b
  | .unOp op _ x => ob (X x) fun a => sUn op a
  | .convert s d x => ob (X x) fun a => sConv P H s d a
  | .slice t x lo hi mx => ob (X x) fun a => sSlice P X t a lo hi mx
  | .fieldAddr t x f => ob (X x) fun a => sFieldAddr P t a f
  | .indexAddr t x i => ob (X x) fun a => ob (X i) fun b => sIndexAddr P t a b
  | .index t x i => ob (X x) fun a => ob (X i) fun b => sIndex P t a b
  | .lookup t x i ok => ob (X x) fun a => ob (X i) fun b => sLookup P H t a b ok
  | .call c => match c.callee with
    | .builtin b => ob (xsL X c.args.toList) fun xs => sBi P b c.argTypes.toList xs
    | .value f => ob (X f) fun fv => ob (xsL X c.args.toList) fun xs => sExt P H fv xs
    | _ => none
  | _ => none

noncomputable def evPure2 (P : Program) (H : Tr AObj) (X : Operand → Option AV) (op : Op) : Option AV :=
  Option.rec (motive := fun _ => Option AV) (evPure3 P H X op) (fun r => cond r.1 (some r.2) (evPure3 P H X op)) (sPure P H X op)

theorem sPure_ev {P : Program} {H : Tr AObj} {X : Operand → Option AV} {op : Op} {a : AV} (h : sPure P H X op = some (true, a)) : evPure2 P H X op = some a := by
  unfold evPure2; rw [h]; rfl
theorem pure3_ev {P : Program} {H : Tr AObj} {X : Operand → Option AV} {op : Op} {a : AV} (h : sPure P H X op = none) (h3 : evPure3 P H X op = some a) : evPure2 P H X op = some a := by
  unfold evPure2; rw [h]; exact h3

theorem sPure_sound {P : Program} {E : Env} {F : Nat → Option Obj} {nx : Nat} {ρ : Ren} {h : Nat → Option AObj} {w : World} {H : Tr AObj} (r : Rel E F nx ρ h w) (hs : HS ρ H h)
    {X : Operand → Option AV} {f : Operand → Value} (hX : XR ρ X f) (o : Oper) {a : AV} (hev : sPure P H X o.op = some (true, a)) :
    ∃ v, (execOp f o).run P w = .ok (.value v) w ∧ VR ρ a v := by
  obtain ⟨dst, op, type, pos, after, guard⟩ := o
  simp only at hev
  cases op <;> simp only [sPure] at hev <;> first | (cases hev; done) | skip
  case pick c x y =>
    obtain ⟨v, hv, h1⟩ := ob_some.1 hev
    have hc := hX _ _ hv
    split at h1
    · rename_i t
      obtain ⟨xa, hxa, h2⟩ := ob_some.1 h1
      obtain ⟨ya, hya, h3⟩ := ob_some.1 h2
      obtain ⟨m, hm, h4⟩ := ob_some.1 h3
      injection h4 with h4; injection h4 with _ h4; subst h4
      generalize hfc : f c = u at hc
      cases hc
      cases t
      · exact ⟨f y, by simp [execOp, hfc, asBool], sMerge_rel false _ _ _ _ hm (fun h => by cases h) fun _ => hX _ _ hya⟩
      · exact ⟨f x, by simp [execOp, hfc, asBool], sMerge_rel true _ _ _ _ hm (fun _ => hX _ _ hxa) fun h => by cases h⟩
    · cases h1
  case load t x =>
    obtain ⟨v, hv, h1⟩ := ob_some.1 hev
    obtain ⟨z, h2, h3⟩ := sLoad_sound (P := P) r hs (hX _ _ hv) h1
    exact ⟨z, run_v h2, h3⟩
  case nilCheck x =>
    obtain ⟨v, hv, h1⟩ := ob_some.1 hev
    have hc := hX _ _ hv
    unfold sNil at h1
    split at h1
    · injection h1 with h1; injection h1 with _ h1; subst h1
      refine ⟨f x, ?_, hc⟩
      generalize hfx : f x = u at hc
      cases hc
      simp [execOp, hfx]
    · injection h1 with h1; injection h1 with _ h1; subst h1
      refine ⟨f x, ?_, hc⟩
      generalize hfx : f x = u at hc
      cases hc
      simp [execOp, hfx]
    · cases h1
  case binOp op t x y yt =>
    obtain ⟨v, hv, h1⟩ := ob_some.1 hev
    obtain ⟨v', hv', h2⟩ := ob_some.1 h1
    obtain ⟨z, h3, h4⟩ := sBin_sound (P := P) (hX _ _ hv) (hX _ _ hv') h2 w
    exact ⟨z, run_v h3, h4⟩
  case unOp op t x =>
    obtain ⟨v, hv, h1⟩ := ob_some.1 hev
    have hc := hX _ _ hv
    unfold sUn at h1
    split at h1
    · rename_i k n
      injection h1 with h1; injection h1 with h1 h2; subst h2
      obtain ⟨z, h3, h4⟩ := evUn_sound (P := P) (op := .neg) (x := .int k n) (r := .int k (0 - n)) (by simp only [evUn, fI_eq, wr_eq]; rw [wrap_inR h1]) hc w
      exact ⟨z, run_v h3, h4⟩
    · cases h1
  case convert s d x =>
    obtain ⟨v, hv, h1⟩ := ob_some.1 hev
    obtain ⟨z, h3, h4⟩ := sConv_sound (P := P) r hs (hX _ _ hv) h1
    exact ⟨z, run_v h3, h4⟩
  case slice t x lo hi mx =>
    obtain ⟨v, hv, h1⟩ := ob_some.1 hev
    obtain ⟨z, h3, h4⟩ := sSlice_sound (P := P) hX (hX _ _ hv) h1 w
    exact ⟨z, run_v h3, h4⟩
  case fieldAddr t x i =>
    obtain ⟨v, hv, h1⟩ := ob_some.1 hev
    obtain ⟨z, h3, h4⟩ := sFieldAddr_sound (P := P) (hX _ _ hv) h1 w
    exact ⟨z, run_v h3, h4⟩
  case indexAddr t x i =>
    obtain ⟨v, hv, h1⟩ := ob_some.1 hev
    obtain ⟨v', hv', h2⟩ := ob_some.1 h1
    obtain ⟨z, h3, h4⟩ := sIndexAddr_sound (P := P) (hX _ _ hv) (hX _ _ hv') h2 w
    exact ⟨z, run_v h3, h4⟩
  case index t x i =>
    obtain ⟨v, hv, h1⟩ := ob_some.1 hev
    obtain ⟨v', hv', h2⟩ := ob_some.1 h1
    obtain ⟨z, h3, h4⟩ := sIndex_sound (P := P) (hX _ _ hv) (hX _ _ hv') h2 w
    exact ⟨z, run_v h3, h4⟩
  case lookup t x i ok =>
    obtain ⟨v, hv, h1⟩ := ob_some.1 hev
    obtain ⟨v', hv', h2⟩ := ob_some.1 h1
    obtain ⟨z, h3, h4⟩ := sLookup_sound (P := P) r hs (hX _ _ hv) (hX _ _ hv') h2
    exact ⟨z, run_v h3, h4⟩
  case call c =>
    obtain ⟨callee, args, argTypes⟩ := c
    simp only at hev
    split at hev
    · rename_i b
      obtain ⟨xs, hxs, h1⟩ := ob_some.1 hev
      have hxr := xsL_sound hX hxs
      unfold sBi at h1
      split at h1
      · obtain ⟨t, ht, h2⟩ := ob_some.1 h1
        obtain ⟨x, hx, h3⟩ := ob_some.1 h2
        obtain ⟨u, hu, hur⟩ := hxr.get _ _ hx
        obtain ⟨z, h4, h5⟩ := sLen_sound (P := P) (w := w) hur h3 argTypes (args.map f) type (by rw [← Array.getElem?_toList]; exact ht) (by rw [← Array.getElem?_toList, Array.toList_map]; exact hu)
        refine ⟨z, ?_, h5⟩
        simp only [execOp, resolve, Sem.run_bind, Sem.run_pure, Result.andThen_ok, invoke]
        exact run_v h4
      · cases h1
    · rename_i g
      obtain ⟨fv, hfv, h0⟩ := ob_some.1 hev
      obtain ⟨xs, hxs, h1⟩ := ob_some.1 h0
      obtain ⟨k, hk, v, h2, h3⟩ := sExt_sound (P := P) r hs (xsL_sound hX hxs) h1
      subst hk
      refine ⟨v, ?_, h3⟩
      have hfx : f g = .func (.func k) #[] #[] := by
        have := hX _ _ hfv
        generalize f g = u at this
        cases this with
        | fn _ _ _ va vc ha hc => cases ha; cases hc; rfl
      have hargs : (args.toList.map f).toArray = args.map f := by rw [map_toArray]
      rw [hargs] at h2
      simp only [execOp, resolve, hfx, Deferred.ofValue, Sem.run_bind, Sem.run_pure, Result.andThen_ok, invoke, Array.append_empty, Array.empty_append]
      exact h2
    · cases hev

theorem evPure2_sound {P : Program} {E : Env} {F : Nat → Option Obj} {nx : Nat} {ρ : Ren} {h : Nat → Option AObj} {w : World} {H : Tr AObj} (r : Rel E F nx ρ h w) (hs : HS ρ H h)
    {X : Operand → Option AV} {f : Operand → Value} (hX : XR ρ X f) (o : Oper) {a : AV} (hev : evPure2 P H X o.op = some a) :
    ∃ v, (execOp f o).run P w = .ok (.value v) w ∧ VR ρ a v := by
  cases hsp : sPure P H X o.op with
  | none =>
    have h1 : evPure2 P H X o.op = evPure3 P H X o.op := by unfold evPure2; rw [hsp]
    rw [h1] at hev
    exact evPure3_sound r hs hX o hev
  | some p =>
    obtain ⟨b, a'⟩ := p
    have h1 : evPure2 P H X o.op = cond b (some a') (evPure3 P H X o.op) := by unfold evPure2; rw [hsp]
    rw [h1] at hev
    cases b with
    | true =>
      injection hev with hev; subst hev
      exact sPure_sound r hs hX o hsp
    | false => exact evPure3_sound r hs hX o hev

/-! ### new blocks -/
def byteRow (l : List UInt8) : Nat → List AV := fun i => [.int .u8 ((l.getD i 0).toNat : Int)]
noncomputable def sNew (P : Program) (X : Operand → Option AV) (ni : Nat) (op : Op) : Option (Bool × AV × AObj) :=
  match op with
  | .makeSlice t l c => ob (X l) fun l => ob (X c) fun c => match l, c with
    | .int _ n, .int _ m => ob (P.underlying t) fun d => match d with
      | .slice el => ob (P.info? el) fun i => ob (zeroCs P el) fun cs => gd (Nat.blt 0 cs.length && Nat.beq cs.length i.size)
          (some (decide (0 ≤ n ∧ n ≤ m ∧ m ≤ 9223372036854775807 ∧ i.bytes * m ≤ 281474976710656), .slg ni n.toNat i.size, .cells el .leaf (.rows i.size fun _ => cs) (n.toNat * i.size) true))
      | _ => none
    | _, _ => none
  | .convert s t x => ob (X x) fun v => match v with
    | .bs l => ob (P.underlying s) fun _ => ob (P.underlying t) fun d => match d with
      | .slice el => ob (P.underlying el) fun de => match de with
        | .int .u8 => some (decide (l.length ≤ 140737488355328), .slg ni l.length 1, .cells el .leaf (.rows 1 (byteRow l)) l.length true)
        | _ => none
      | _ => none
    | _ => none
  | _ => none

noncomputable def evNew (P : Program) (X : Operand → Option AV) (ni : Nat) (op : Op) : Option (AV × AObj) :=
  Option.rec (motive := fun _ => Option (AV × AObj)) (evNew3 P X ni op) (fun r => cond r.1 (some r.2) (evNew3 P X ni op)) (sNew P X ni op)
theorem sNew_ev {P : Program} {X : Operand → Option AV} {ni : Nat} {op : Op} {a : AV × AObj} (h : sNew P X ni op = some (true, a)) : evNew P X ni op = some a := by
  unfold evNew; rw [h]; rfl
theorem new3_ev {P : Program} {X : Operand → Option AV} {ni : Nat} {op : Op} {a : AV × AObj} (h : sNew P X ni op = none) (h3 : evNew3 P X ni op = some a) : evNew P X ni op = some a := by
  unfold evNew; rw [h]; exact h3

theorem sNew_sound {P : Program} {ρ : Ren} {w : World} {X : Operand → Option AV} {f : Operand → Value} (hX : XR ρ X f) {ni : Nat}
    (o : Oper) {a : AV} {ob' : AObj} (hev : sNew P X ni o.op = some (true, a, ob')) : Makes P w ρ ni (execOp f o) a ob' := by
  obtain ⟨dst, op, type, pos, after, guard⟩ := o
  simp only at hev
  cases op <;> simp only [sNew] at hev <;> first | (cases hev; done) | skip
  case makeSlice t l c =>
    obtain ⟨lv, hlv, h1⟩ := ob_some.1 hev
    obtain ⟨cv, hcv, h2⟩ := ob_some.1 h1
    clear hev h1
    have rl := hX _ _ hlv
    have rc := hX _ _ hcv
    split at h2
    · rename_i kl n km m
      obtain ⟨d, hd, h5⟩ := ob_some.1 h2
      clear h2
      generalize hfl : f l = vl at rl
      generalize hfc : f c = vc at rc
      cases rl; cases rc
      cases d with
      | slice el =>
        obtain ⟨i, hi, h6⟩ := ob_some.1 h5
        obtain ⟨cs, hcs, h8⟩ := ob_some.1 h6
        obtain ⟨hz, h9⟩ := gd_some.1 h8
        clear h5 h6 h8
        injection h9 with h9; injection h9 with hb h10; injection h10 with h10 h11; subst h10; subst h11
        simp only [decide_eq_true_eq] at hb
        obtain ⟨hb1, hb2, hb3, hb4⟩ := hb
        rw [Bool.and_eq_true, Nat.blt_eq, Nat.beq_eq] at hz
        obtain ⟨z, hzr, hr⟩ := zeroCs_sound (P := P) hcs (w : World)
        have hsz : z.cells.size = i.size := by have := (hr ρ).length; simp at this; omega
        obtain ⟨ln, rfl⟩ : ∃ q : Nat, n = q := ⟨n.toNat, by omega⟩
        obtain ⟨cn, rfl⟩ : ∃ q : Nat, m = q := ⟨m.toNat, by omega⟩
        rw [Int.toNat_natCast]
        have hle : ln * i.size ≤ cn * i.size := Nat.mul_le_mul_right _ (by omega)
        refine ⟨.slice (some ⟨w.heap.size, 0, none⟩) ln cn, w, .cells ((Array.range (cn * i.size)).map (fun j => z.cells[j % z.cells.size]!)) el, cn * i.size, ?_, .inl rfl, ?_, ?_⟩
        · refine run_v ?_
          have e1 : IntKind.i64.wrap (ln : Int) = ln := wrap_i64 (by omega) (by omega)
          have e2 : IntKind.i64.wrap (cn : Int) = cn := wrap_i64 (by omega) (by omega)
          have e3 : ¬ ((i.bytes : Int) * (cn : Int) > 281474976710656) := by omega
          have e4 : ¬ ((ln : Int) > (cn : Int)) := by omega
          have hcz : P.cellsOf el = i.size := by simp [Program.cellsOf, hi]
          have e5 : ¬ ((cn : Int) < 0 ∨ (ln : Int) < 0) := by omega
          by_cases hn : cn * i.size = 0
          · have hr0 : ∀ g : Nat → Value, (Array.range (cn * i.size)).map g = #[] := fun g => by rw [hn]; simp
            rw [hr0]
            have hr1 : ∀ g : Nat → Value, (Array.range 0).map g = #[] := fun g => by simp
            simp [Instr.makeSlice, run_underlying hd, hfl, hfc, asInt, asIntOf, run_typeInfo w hi, e1, e2, e3, e4, e5, run_sizeOf w hi, hcz, hn, newRow, hr1]
          · simp [Instr.makeSlice, run_underlying hd, hfl, hfc, asInt, asIntOf, run_typeInfo w hi, e1, e2, e3, e4, e5, run_sizeOf w hi, hcz, hn, hzr, newRow]
        · have hor := OR.ofZero (b := w.heap.size) (hr (ρ.put ni ⟨w.heap.size, 0, cn * i.size⟩)) el (cn * i.size) (.inr hz.1)
          generalize hco : Obj.cells ((Array.range (cn * i.size)).map (fun j => z.cells[j % z.cells.size]!)) el = co at hor
          cases hor with
          | cells _ _ _ _ _ cs' fz h1 h2 h3 h4 h5 =>
            refine .cells el .leaf (.rows i.size fun _ => cs) _ true cs' fz h1 hle (by simp) h4 fun k a hk ha => h5 k a (by omega) ?_
            rw [cellOf_leaf] at ha ⊢
            show cs[k % cs.length]? = some a
            rw [hz.2]; exact ha
        · have := VR.slg (ρ := ρ.put ni ⟨w.heap.size, 0, cn * i.size⟩) ni ln i.size ⟨w.heap.size, 0, cn * i.size⟩ (Ren.put_same _ _ _) (by omega) hle
          simp only [Nat.mul_div_cancel cn (show 0 < i.size by omega)] at this
          exact this
      | _ => cases h5
    · cases h2
  case convert s t x =>
    obtain ⟨v, hv, h1⟩ := ob_some.1 hev
    clear hev
    have hc := hX _ _ hv
    split at h1
    · rename_i l
      obtain ⟨ds, hds, h2⟩ := ob_some.1 h1
      obtain ⟨dt, hdt, h3⟩ := ob_some.1 h2
      clear h1 h2
      split at h3
      · rename_i el
        obtain ⟨de, hde, h4⟩ := ob_some.1 h3
        split at h4
        · injection h4 with h4; injection h4 with hb h5; injection h5 with h5 h6; subst h5; subst h6
          simp only [decide_eq_true_eq] at hb
          generalize hfx : f x = vx at hc
          cases hc
          let cap := Question.cut (.appendCap l.length 0 el) (w.tape w.drawn (.appendCap l.length 0 el))
          have hcap : l.length ≤ cap := by show l.length ≤ l.length + _; omega
          let arr : Array Value := (l.toArray.map fun b => Value.int .u8 b.toNat) ++ Array.replicate (cap - l.length) (.int .u8 0)
          have hsize : arr.size = cap := by simp [arr]; omega
          refine ⟨.slice (some ⟨w.heap.size, 0, none⟩) l.length cap, w.drew, .cells arr el (arr.size, arr.size + 1), cap, ?_, .inr rfl, ?_, ?_⟩
          · refine run_v ?_
            have hsz : (ByteArray.mk l.toArray).size = l.length := by show l.toArray.size = _; simp
            have hch : (choose (.appendCap l.length 0 el)).run P w = .ok cap w.drew := by
              simp [Question.forced, cap]
            have hfr := alloc_freeze w.drew arr el
            have hrun : (Conv.stringToBytes el ⟨l.toArray⟩).run P w = .ok (.slice (some ⟨w.heap.size, 0, none⟩) l.length cap) (w.drew.alloc (.cells arr el (arr.size, arr.size + 1))) := by
              rw [← hfr]
              unfold Conv.stringToBytes
              rw [hsz]
              simp only [Sem.run_bind, hch, Result.andThen_ok]
              have hsh := shape_alloc w.drew arr el
              simp only [newRow, Sem.run_bind, run_newObj, Result.andThen_ok, Sem.run_pure, markStringish, run_shape]
              have hsh' : World.shape? { w.drew with heap := w.drew.heap.push (.cells arr el) } w.drew.heap.size = some (el, arr.size) := hsh
              rw [hsh']
              rfl
            rw [hfx]
            simp only [convert, Sem.run_bind, run_underlying hds, run_underlying hdt, Result.andThen_ok, run_underlying hde]
            cases ds <;> simp [hrun]
          · refine .cells el .leaf (.rows 1 (byteRow l)) l.length true arr (arr.size, arr.size + 1) (by simp [hsize]) hcap (by simp) (.inr (Nat.le_refl _)) fun k a hk ha => ?_
            rw [cellOf_leaf, rows_at (i := k) (j := 0) (by decide) k (by omega)] at ha
            injection ha with ha; subst ha
            refine ⟨_, ?_, .int _ _⟩
            simp only [Nat.zero_add]
            show ((l.toArray.map fun b => Value.int .u8 b.toNat) ++ Array.replicate (cap - l.length) (.int .u8 0))[k]? = _
            rw [Array.getElem?_append, if_pos (by simpa using hk)]
            simp [List.getD, hk]
          · have := VR.slg (ρ := ρ.put ni ⟨w.heap.size, 0, cap⟩) ni l.length 1 ⟨w.heap.size, 0, cap⟩ (Ren.put_same _ _ _) (by decide) (by simpa using hcap)
            simpa using this
        · cases h4
      · cases h3
    · cases h1

theorem evNew_sound {P : Program} {ρ : Ren} {w : World} {X : Operand → Option AV} {f : Operand → Value} (hX : XR ρ X f) {ni : Nat} (hni : ρ ni = none)
    (o : Oper) {a : AV} {ob' : AObj} (hev : evNew P X ni o.op = some (a, ob')) : Makes P w ρ ni (execOp f o) a ob' := by
  cases hsp : sNew P X ni o.op with
  | none =>
    have h1 : evNew P X ni o.op = evNew3 P X ni o.op := by unfold evNew; rw [hsp]
    rw [h1] at hev
    exact evNew3_sound hX hni o hev
  | some p =>
    obtain ⟨b, a'⟩ := p
    have h1 : evNew P X ni o.op = cond b (some a') (evNew3 P X ni o.op) := by unfold evNew; rw [hsp]
    rw [h1] at hev
    cases b with
    | true =>
      injection hev with hev; subst hev
      exact sNew_sound hX o hsp
    | false => exact evNew3_sound hX hni o hev
end Go.Ev
