/- The evaluator, part I: append and copy; all operations that write. -/
import Derived.Test.YtdpohandjgnknaaGreatDoorEvH
namespace Go.Ev

/-- What is appended, or copied: how many elements, their cells. -/
noncomputable def evSrc (H : Tr AObj) (size : Nat) (x : AV) : Option (Nat × List AV) :=
  match x with
  | .sl0 => some (0, [])
  | .sl id off n _ => ob (evCells H id off (n * size)) fun l => some (n, l)
  | .slo id off n _ => ob (evCells H id off (n * size)) fun l => some (n, l)
  | .sle _ => some (0, [])
  | .str l n => gd (Nat.beq size 1) (some (l, (List.range l).map fun i => .int .u8 (.ofNat (n / 256 ^ i % 256))))
  | _ => none

theorem evSrc_sound {P : Program} {E : Env} {F : Nat → Option Obj} {nx : Nat} {ρ : Ren} {h : Nat → Option AObj} {w : World} {H : Tr AObj} (r : Rel E F nx ρ h w) (hs : HS ρ H h)
    {size n : Nat} {x : AV} {u : Value} {l : List AV} (hx : VR ρ x u) (hev : evSrc H size x = some (n, l)) :
    ∃ vs : List Value, VRL ρ l vs ∧ vs.length = n * size ∧ ∀ w' : World, (∀ a, w'.cell? a = w.cell? a) → (Builtin.lenOf u).run P w' = .ok n w' ∧ (Builtin.firstCells size n u).run P w' = .ok vs.toArray w' := by
  unfold evSrc at hev
  split at hev
  · injection hev with hev; injection hev with h1 h2; subst h1; subst h2
    cases hx
    exact ⟨[], .nil, by simp, fun w' _ => ⟨by simp [Builtin.lenOf], by simp [Builtin.firstCells]⟩⟩
  · obtain ⟨l', hl, h1⟩ := ob_some.1 hev
    injection h1 with h1; injection h1 with h1 h2; subst h1; subst h2
    cases hx with
    | sl _ _ _ _ b hb =>
      obtain ⟨vs, h1, h2, h3⟩ := evCells_sound r hs hb hl
      refine ⟨vs, h1, h2, fun w' hw => ⟨by simp [Builtin.lenOf], ?_⟩⟩
      have := run_loadCells_list (P := P) w' ⟨b.b, b.ob + _, none⟩ vs (fun j v hj => by rw [hw]; exact h3 j v hj)
      rw [h2] at this
      simp [Builtin.firstCells, this]
  · obtain ⟨l', hl, h1⟩ := ob_some.1 hev
    injection h1 with h1; injection h1 with h1 h2; subst h1; subst h2
    cases hx with
    | slo _ _ _ _ b hb he hle =>
      obtain ⟨vs, h1, h2, h3⟩ := evCells_sound r hs hb hl
      refine ⟨vs, h1, h2, fun w' hw => ⟨by simp [Builtin.lenOf], ?_⟩⟩
      have := run_loadCells_list (P := P) w' ⟨b.b, b.ob + _, none⟩ vs (fun j v hj => by rw [hw]; exact h3 j v hj)
      rw [h2] at this
      simp [Builtin.firstCells, this]
  · injection hev with hev; injection hev with h1 h2; subst h1; subst h2
    cases hx with
    | sle _ b o c hb =>
      refine ⟨[], .nil, by simp, fun w' hw => ⟨by simp [Builtin.lenOf], ?_⟩⟩
      have := run_loadCells_list (P := P) w' ⟨b.b, o, none⟩ [] (fun j v hj => by simp at hj)
      simpa [Builtin.firstCells] using this
  · obtain ⟨hz, h1⟩ := gd_some.1 hev
    rw [Nat.beq_eq] at hz; subst hz
    injection h1 with h1; injection h1 with h1 h2; subst h1; subst h2
    rename_i n m
    cases hx with
    | str _ _ hn =>
      refine ⟨_, bytes_vrl _ _, by simp [bytesL_length], fun w' _ => ⟨by simp [Builtin.lenOf, bstr_size], ?_⟩⟩
      simp only [Builtin.firstCells, Sem.run_pure]
      congr 1
      apply Array.ext'
      rw [Array.toList_map]
      have : ((bstr n m).extract 0 n).data.toList = bytesL n m := by
        rw [Lib.extract_data, bstr_data]
        simp [List.take_of_length_le, bytesL_length]
      rw [this]
  · cases hev

/-- The length of what is appended is a list's or a text's, no count of zeros. -/
def srcD : TypeDesc → Bool
  | .slice _ => true
  | .string => true
  | _ => false

noncomputable def appNew (ni : Nat) (el size need : Nat) (cs : List AV) (H : Tr AObj) : Option (AV × Tr AObj) :=
  fN need fun need => fN (need * size) fun n => some (.slo ni 0 need size, H.set ni (.cells el .leaf cs n true))

noncomputable def elemIs (H : Tr AObj) (id el : Nat) : Bool :=
  match H.get id with
  | some (.cells e _ _ _ _) => Nat.beq e el
  | _ => false

noncomputable def evAppend (P : Program) (H : Tr AObj) (ni : Nat) (ts : List TypeId) (xs : List AV) : Option (AV × Tr AObj) :=
  match ts, xs with
  | [t, tx], [s, x] => ob (P.underlying t) fun d => match d with
    | .slice el => ob (P.underlying tx) fun dx => gd (srcD dx) (ob (P.info? el) fun i => ob i.zero fun z => gd (Nat.blt 0 i.size && Nat.beq z.cells.size i.size) (ob (evSrc H i.size x) fun src =>
        match s with
        | .sl0 => cond (Nat.beq src.1 0) (some (.sl0, H))
            (gd (src.2.all AV.one && Nat.ble src.1 9223372036854775807 && Nat.ble (src.1 * i.bytes) 140737488355328) (appNew ni el i.size src.1 src.2 H))
        | .sl id off len cap => cond (Nat.ble (len + src.1) cap) (ob (evWrite H id (off + len * i.size) src.2) fun H' => fN (len + src.1) fun need => some (.sl id off need cap, H'))
            (gd (src.2.all AV.one && Nat.ble (len + src.1) 9223372036854775807 && Nat.ble ((len + src.1) * i.bytes) 140737488355328)
              (ob (evCells H id off (len * i.size)) fun old => appNew ni el i.size (len + src.1) (old ++ src.2) H))
        | .slo id off len esz => gd (Nat.beq esz i.size) (cond (Nat.beq src.1 0) (some (.slo id off len esz, H))
            (gd (src.2.all AV.one && Nat.ble (len + src.1) 9223372036854775807 && Nat.ble ((len + src.1) * i.bytes) 140737488355328)
              (gd (elemIs H id el) (ob (evCells H id off (len * i.size)) fun old => appNew ni el i.size (len + src.1) (old ++ src.2) (H.del id)))))
        | _ => none))
    | _ => none
  | _, _ => none

set_option maxHeartbeats 1000000 in
/-- There is room: the cells are laid behind the old ones. -/
theorem append_fits {P : Program} {t tx ty el : TypeId} {dx : TypeDesc} {i : TypeInfo} (ht : P.underlying t = some (.slice el)) (htx : P.underlying tx = some dx) (hsd : srcD dx = true) (hi : P.info? el = some i)
    {base : Option Addr} {len cap n : Nat} {u : Value} {vs : List Value} {w w' : World} (hl : (Builtin.lenOf u).run P w = .ok n w) (hc : (Builtin.firstCells i.size n u).run P w = .ok vs.toArray w)
    (hroom : len + n ≤ cap) (hst : match base with | none => w' = w | some a => (storeCells (a.add (len * i.size)) vs).run P w = .ok () w') :
    (Builtin.append_ #[t, tx] ty #[.slice base len cap, u]).run P w = .ok (.slice base (len + n) cap) w' := by
  cases base with
  | none =>
    simp only at hst; subst hst
    cases dx <;> first
      | (cases hsd; done)
      | simp [Builtin.append_, run_underlying ht, run_underlying htx, sizeOf, typeInfo, hi, hl, hc, hroom]
  | some a =>
    simp only at hst
    cases dx <;> first
      | (cases hsd; done)
      | simp [Builtin.append_, run_underlying ht, run_underlying htx, sizeOf, typeInfo, hi, hl, hc, hroom, hst]

set_option maxHeartbeats 1000000 in
/-- There is none: a new row. -/
theorem append_grows {P : Program} {t tx ty el : TypeId} {dx : TypeDesc} {i : TypeInfo} {z : Value} (ht : P.underlying t = some (.slice el)) (htx : P.underlying tx = some dx) (hsd : srcD dx = true)
    (hi : P.info? el = some i) (hz : i.zero = some z) {base : Option Addr} {len cap n : Nat} {u : Value} {olds vs : List Value} {w : World} (hl : (Builtin.lenOf u).run P w = .ok n w)
    (ho : (Builtin.firstCells i.size len (.slice base len cap)).run P w.drew = .ok olds.toArray w.drew) (hc : (Builtin.firstCells i.size n u).run P w.drew = .ok vs.toArray w.drew)
    (hroom : cap < len + n) (h63 : len + n ≤ 9223372036854775807) (hb : (len + n) * i.bytes ≤ 140737488355328) :
    (Builtin.append_ #[t, tx] ty #[.slice base len cap, u]).run P w = .ok (.slice (some ⟨w.heap.size, 0, none⟩) (len + n) (grownCap w (len + n) cap el))
      (w.drew.alloc (.cells ((olds ++ vs).toArray ++ Builtin.zeroCells z.cells (grownCap w (len + n) cap el - (len + n))) el)) := by
  have hn : ¬ (len + n ≤ cap) := by omega
  have h63' : ¬ (9223372036854775807 < ((len : Int) + (n : Int))) := by omega
  have h48 := growslice_fits hroom hb
  have h48' : ¬ (281474976710656 < Builtin.nextslicecap (len + n) cap * i.bytes) := by omega
  cases dx <;> first
    | (cases hsd; done)
    | skip
  all_goals
    simp [Builtin.append_, run_underlying ht, run_underlying htx, sizeOf, typeInfo, zeroValue, hi, hz, hl, hn, h63', h48', Question.forced, ho, hc, newRow, grownCap]
    congr 2
    apply Array.ext'
    simp [List.append_assoc]

theorem size_zeroCells' (z : Array Value) (n : Nat) : (Builtin.zeroCells z n).size = n * z.size := by simp [Builtin.zeroCells]

theorem appNew_sound {E : Env} {F : Nat → Option Obj} {nx nx' : Nat} {ρ : Ren} {h : Nat → Option AObj} {w : World} (r : Rel E F nx ρ h w)
    {ni : Nat} (hni : ρ ni = none) (hnx : nx ≤ nx') (hni' : ni < nx') {el size need : Nat} {cs : List AV} {vs : List Value} {H0 H' : Tr AObj} {a : AV} (hsz : 0 < size) (hcs : VRL ρ cs vs) (hlen : cs.length = need * size)
    (hH : ∀ i o, H0.get i = some o → h i = some o) (hev : appNew ni el size need cs H0 = some (a, H')) {cap : Nat} (hcap : need ≤ cap) (zs : Array Value) (hzs : zs.size = (cap - need) * size) :
    ∃ ρ', Rel E F nx' ρ' H'.get (w.drew.alloc (.cells (vs.toArray ++ zs) el)) ∧ (ρ.le ρ' ∧ ∀ x, x ≠ ni → ρ' x = ρ x) ∧ VR ρ' a (.slice (some ⟨w.heap.size, 0, none⟩) need cap) := by
  simp only [appNew, fN_eq] at hev
  injection hev with hev; injection hev with h1 h2; subst h1; subst h2
  have hlv := hcs.length
  have hmul : (cap - need) * size = cap * size - need * size := Nat.sub_mul _ _ _
  have hle : need * size ≤ cap * size := Nat.mul_le_mul_right _ hcap
  have hor : OR (ρ.put ni ⟨w.heap.size, 0, cap * size⟩) ⟨w.heap.size, 0, cap * size⟩ (.cells el .leaf cs (need * size) true) (.cells (vs.toArray ++ zs) el (0, 0)) := by
    refine .cells el .leaf cs (need * size) true _ (0, 0) (by simp [hzs]; omega) hle (by simp) (.inl rfl) fun k b hk hb => ?_
    unfold cellOf at hb
    rw [Tr.get_leaf] at hb
    have hb' : cs[k]? = some b := by
      have : cs[k % cs.length]? = some b := hb
      rwa [Nat.mod_eq_of_lt (by omega)] at this
    obtain ⟨v, hv, hr⟩ := (hcs.mono (Ren.le_put hni ⟨w.heap.size, 0, cap * size⟩)).get k b hb'
    refine ⟨v, ?_, hr⟩
    simp only [Nat.zero_add]
    rw [Array.getElem?_append, if_pos (by simp; omega)]
    simpa using hv
  obtain ⟨h1, h2⟩ := (r.drew.less (h' := H0.get) hH).alloc hni hnx hni' hor
  refine ⟨ρ.put ni ⟨w.heap.size, 0, cap * size⟩, ?_, ⟨Ren.le_put hni _, fun x hx => Ren.put_ne hx _⟩, ?_⟩
  · rw [get_set_fun]; exact h1
  · have := VR.slo (ρ := ρ.put ni ⟨w.heap.size, 0, cap * size⟩) ni 0 need size ⟨w.heap.size, 0, cap * size⟩ (Ren.put_same _ _ _) hsz (by simpa using hle)
    simpa [Nat.mul_div_cancel _ hsz] using this

theorem get_del_fun (H : Tr AObj) (i : Nat) : ∀ j o, (H.del i).get j = some o → H.get j = some o := fun j o h => by
  rw [Tr.get_del] at h
  split at h
  · cases h
  · exact h

/-- The same block, seen from a later cell on, as another object: the old one is forgotten. -/
theorem Rel.rename {E : Env} {F : Nat → Option Obj} {nx nx' : Nat} {ρ : Ren} {H : Tr AObj} {w w' : World} (r : Rel E F nx ρ H.get w)
    {id ni : Nat} {o a : AObj} {b b' : Blk} {c : Obj} (hid : H.get id = some o) (hb : ρ id = some b) (hni : ρ ni = none) (hnx : nx ≤ nx') (hni' : ni < nx') (hbb : b'.b = b.b)
    (hor : OR (ρ.put ni b') b' a c) (hw : ∀ k, w'.heap[k]? = if k = b.b then some c else w.heap[k]?) (ht : w'.tape = w.tape) (hos : w'.os = w.os) (hout : w'.output = w.output) :
    Rel E F nx' (ρ.put ni b') ((H.del id).set ni a).get w' := by
  have hle := Ren.le_put (ρ := ρ) hni b'
  have hne : id ≠ ni := fun e => by subst e; rw [hni] at hb; cases hb
  have hF := r.dj id o b hid hb
  have hget : ∀ j x, ((H.del id).set ni a).get j = some x → (j = ni ∧ x = a) ∨ (j ≠ ni ∧ j ≠ id ∧ H.get j = some x) := fun j x hj => by
    rw [Tr.get_set] at hj
    by_cases h1 : ni = j
    · rw [if_pos h1] at hj; injection hj with hj; exact .inl ⟨h1.symm, hj.symm⟩
    · rw [if_neg h1, Tr.get_del] at hj
      by_cases h2 : id = j
      · rw [if_pos h2] at hj; cases hj
      · rw [if_neg h2] at hj; exact .inr ⟨fun e => h1 e.symm, fun e => h2 e.symm, hj⟩
  have hput : ∀ j, j ≠ ni → (ρ.put ni b') j = ρ j := fun j hj => by simp [Ren.put, hj]
  refine ⟨ht.trans r.tape, hos.trans r.os, hout.trans r.output, ?_, ?_, ?_, ?_, ?_, fun g l hg => ?_, r.bs⟩
  rotate_right
  · rcases hget g _ hg with ⟨rfl, rfl⟩ | ⟨_, _, h3⟩
    · cases hor
    · exact r.gl g l h3
  · intro k x hk
    rw [hw, if_neg (fun e => by subst e; rw [hF] at hk; cases hk)]
    exact r.fr k x hk
  · intro j x bj hj hbj
    rcases hget j x hj with ⟨rfl, rfl⟩ | ⟨h1, h2, h3⟩
    · rw [Ren.put_same] at hbj; cases hbj
      exact ⟨c, by rw [hw, if_pos hbb], hor⟩
    · rw [hput j h1] at hbj
      obtain ⟨cj, hcj, hrj⟩ := r.ob j x bj h3 hbj
      refine ⟨cj, ?_, hrj.mono hle⟩
      rw [hw, if_neg (fun e => h2 (r.inj j id x o bj b h3 hid hbj hb e))]
      exact hcj
  · intro j x bj hj hbj
    rcases hget j x hj with ⟨rfl, rfl⟩ | ⟨h1, h2, h3⟩
    · rw [Ren.put_same] at hbj; cases hbj; rw [hbb]; exact hF
    · rw [hput j h1] at hbj; exact r.dj j x bj h3 hbj
  · intro j k x y bj bk hj hk hbj hbk he
    rcases hget j x hj with ⟨rfl, rfl⟩ | ⟨h1, h2, h3⟩ <;> rcases hget k y hk with ⟨rfl, rfl⟩ | ⟨h4, h5, h6⟩
    · rfl
    · rw [Ren.put_same] at hbj; cases hbj
      rw [hput k h4] at hbk
      exact absurd (r.inj k id y o bk b h6 hid hbk hb (by rw [← he, hbb])) h5
    · rw [Ren.put_same] at hbk; cases hbk
      rw [hput j h1] at hbj
      exact absurd (r.inj j id x o bj b h3 hid hbj hb (by rw [he, hbb])) h2
    · rw [hput j h1] at hbj; rw [hput k h4] at hbk
      exact r.inj j k x y bj bk h3 h6 hbj hbk he
  · intro j hj
    rw [hput j (by omega)]
    exact r.new j (Nat.le_trans hnx hj)


theorem all_one {ρ : Ren} {l : List AV} {vs : List Value} (h : VRL ρ l vs) (ha : l.all AV.one = true) : ∀ v ∈ vs, v.oneCell' = true := by
  intro v hv
  obtain ⟨i, hi, rfl⟩ := List.getElem_of_mem hv
  have hil : i < l.length := by rw [h.length]; exact hi
  rw [(h.get2 (List.getElem?_eq_getElem hil) (List.getElem?_eq_getElem hi)).one]
  exact List.all_eq_true.1 ha _ (List.getElem_mem hil)

theorem evAppend_sound {P : Program} {E : Env} {F : Nat → Option Obj} {nx nx' : Nat} {ρ : Ren} {w : World} {H H' : Tr AObj} (r : Rel E F nx ρ H.get w)
    {ni : Nat} (hni : ρ ni = none) (hnx : nx ≤ nx') (hni' : ni < nx') {ts : List TypeId} {xs : List AV} {us : List Value} {a : AV} (hx : VRL ρ xs us) (hev : evAppend P H ni ts xs = some (a, H')) (ty : TypeId) :
    ∃ v w' ρ', (Builtin.append_ ts.toArray ty us.toArray).run P w = .ok v w' ∧ Rel E F nx' ρ' H'.get w' ∧ (ρ.le ρ' ∧ ∀ x, x ≠ ni → ρ' x = ρ x) ∧ VR ρ' a v := by
  unfold evAppend at hev
  split at hev
  · rename_i t tx s x
    cases hx with
    | cons _ us0 _ _ hs0 hxs => cases hxs with
      | cons _ ux _ _ hsx hnil =>
        cases hnil
        obtain ⟨d, hd, h1⟩ := ob_some.1 hev
        clear hev
        cases d with
        | slice el =>
          obtain ⟨dx, hdx, h2⟩ := ob_some.1 h1
          obtain ⟨hsd, h3⟩ := gd_some.1 h2
          obtain ⟨i, hi, h4⟩ := ob_some.1 h3
          obtain ⟨z, hz, h5⟩ := ob_some.1 h4
          obtain ⟨hsz, h6⟩ := gd_some.1 h5
          obtain ⟨⟨n, l⟩, hsrc, h7⟩ := ob_some.1 h6
          clear h1 h2 h3 h4 h5 h6
          rw [Bool.and_eq_true, Nat.blt_eq, Nat.beq_eq] at hsz
          obtain ⟨hsz, hzs⟩ := hsz
          obtain ⟨vs, hv1, hv2, hv3⟩ := evSrc_sound (P := P) r (HS.refl ρ H) hsx hsrc
          obtain ⟨hl0, hc0⟩ := hv3 w (fun _ => rfl)
          obtain ⟨_, hcd⟩ := hv3 w.drew (fun _ => rfl)
          have hzc : ∀ m, (Builtin.zeroCells z.cells m).size = m * i.size := fun m => by rw [size_zeroCells', hzs]
          cases s with
          | sl0 =>
            cases hs0
            cases hn0 : Nat.beq n 0 with
            | true =>
              simp only [hn0, cond_true] at h7
              injection h7 with h7; injection h7 with h7 h8; subst h7; subst h8
              rw [Nat.beq_eq] at hn0
              subst hn0
              refine ⟨_, w, ρ, append_fits (base := none) (len := 0) (cap := 0) (ty := ty) hd hdx hsd hi hl0 hc0 (by omega) rfl, r.nx_le hnx, ⟨Ren.le_refl ρ, fun _ _ => rfl⟩, .sl0⟩
            | false =>
              simp only [hn0, cond_false] at h7
              obtain ⟨hg, h8⟩ := gd_some.1 h7
              simp only [Bool.and_eq_true, Nat.ble_eq] at hg
              obtain ⟨⟨_, hg2⟩, hg3⟩ := hg
              have hpos : n ≠ 0 := fun e => by rw [← Nat.beq_eq, hn0] at e; cases e
              have hrun := append_grows (base := none) (len := 0) (cap := 0) (ty := ty) (olds := []) hd hdx hsd hi hz hl0 (by simp [Builtin.firstCells]) hcd (by omega) (by omega) (by simpa using hg3)
              simp only [Nat.zero_add, List.nil_append] at hrun
              obtain ⟨ρ', h9, h10, h11⟩ := appNew_sound r hni hnx hni' hsz hv1 (by rw [hv1.length, hv2]) (fun _ _ h => h) h8 (cap := grownCap w n 0 el) (by simp [grownCap, Question.cut]) (Builtin.zeroCells z.cells (grownCap w n 0 el - n)) (hzc _)
              exact ⟨_, _, ρ', hrun, h9, h10, h11⟩
          | sl id off len cap =>
            cases hs0 with
            | sl _ _ _ _ b hb =>
              cases hroom : Nat.ble (len + n) cap with
              | true =>
                simp only [hroom, cond_true] at h7
                obtain ⟨H1, hH1, h8⟩ := ob_some.1 h7
                rw [fN_eq] at h8
                injection h8 with h8; injection h8 with h8 h9; subst h8; subst h9
                rw [Nat.ble_eq] at hroom
                obtain ⟨w', hw1, hw2⟩ := evWrite_sound (P := P) r hb hv1 hH1
                refine ⟨_, w', ρ, append_fits (base := some ⟨b.b, b.ob + off, none⟩) (ty := ty) hd hdx hsd hi hl0 hc0 hroom ?_, hw2.nx_le hnx, ⟨Ren.le_refl ρ, fun _ _ => rfl⟩, .sl _ _ _ _ b hb⟩
                simp only [addr_add, Nat.add_assoc]; exact hw1
              | false =>
                simp only [hroom, cond_false] at h7
                obtain ⟨hg, h8⟩ := gd_some.1 h7
                obtain ⟨old, hold, h9⟩ := ob_some.1 h8
                simp only [Bool.and_eq_true, Nat.ble_eq] at hg
                obtain ⟨⟨_, hg2⟩, hg3⟩ := hg
                have hlt : cap < len + n := by
                  rcases Nat.lt_or_ge cap (len + n) with h | h
                  · exact h
                  · have h' : Nat.ble (len + n) cap = true := by rw [Nat.ble_eq]; exact h
                    rw [h'] at hroom; cases hroom
                obtain ⟨os, ho1, ho2, ho3⟩ := evCells_sound r (HS.refl ρ H) hb hold
                have hof : (Builtin.firstCells i.size len (.slice (some ⟨b.b, b.ob + off, none⟩) len cap)).run P w.drew = .ok os.toArray w.drew := by
                  have := run_loadCells_list (P := P) w.drew ⟨b.b, b.ob + off, none⟩ os (fun j v hj => ho3 j v hj)
                  rw [ho2] at this
                  simp [Builtin.firstCells, this]
                have hrun := append_grows (base := some ⟨b.b, b.ob + off, none⟩) (ty := ty) hd hdx hsd hi hz hl0 hof hcd hlt hg2 hg3
                obtain ⟨ρ', h10, h11, h12⟩ := appNew_sound r hni hnx hni' hsz (ho1.append hv1) (by rw [(ho1.append hv1).length, List.length_append, ho2, hv2, Nat.add_mul]) (fun _ _ h => h) h9 (cap := grownCap w (len + n) cap el) (by simp [grownCap, Question.cut]) (Builtin.zeroCells z.cells (grownCap w (len + n) cap el - (len + n))) (hzc _)
                exact ⟨_, _, ρ', hrun, h10, h11, h12⟩
          | slo id off len esz =>
            obtain ⟨hez, h8⟩ := gd_some.1 h7
            clear h7
            rw [Nat.beq_eq] at hez
            subst hez
            cases hs0 with
            | slo _ _ _ _ b hb he hle =>
              have hcapl : len ≤ (b.cap - off) / i.size := by rw [Nat.le_div_iff_mul_le he]; omega
              cases hn0 : Nat.beq n 0 with
              | true =>
                simp only [hn0, cond_true] at h8
                injection h8 with h8; injection h8 with h8 h9; subst h8; subst h9
                rw [Nat.beq_eq] at hn0
                subst hn0
                have hvs : vs = [] := List.eq_nil_of_length_eq_zero (by omega)
                subst hvs
                refine ⟨_, w, ρ, append_fits (base := some ⟨b.b, b.ob + off, none⟩) (ty := ty) hd hdx hsd hi hl0 hc0 (by omega) ?_, r.nx_le hnx, ⟨Ren.le_refl ρ, fun _ _ => rfl⟩, .slo _ _ _ _ b hb he hle⟩
                simp [storeCells]
              | false =>
                simp only [hn0, cond_false] at h8
                obtain ⟨hg, h9'⟩ := gd_some.1 h8
                obtain ⟨hel, h9⟩ := gd_some.1 h9'
                obtain ⟨old, hold, h10⟩ := ob_some.1 h9
                simp only [Bool.and_eq_true, Nat.ble_eq] at hg
                obtain ⟨⟨hg1, hg2⟩, hg3⟩ := hg
                obtain ⟨os, ho1, ho2, ho3⟩ := evCells_sound r (HS.refl ρ H) hb hold
                have hlen2 : (old ++ l).length = (len + n) * i.size := by rw [(ho1.append hv1).length, List.length_append, ho2, hv2, Nat.add_mul]
                rcases Nat.lt_or_ge ((b.cap - off) / i.size) (len + n) with hlt | hge
                · have hof : (Builtin.firstCells i.size len (.slice (some ⟨b.b, b.ob + off, none⟩) len ((b.cap - off) / i.size))).run P w.drew = .ok os.toArray w.drew := by
                    have := run_loadCells_list (P := P) w.drew ⟨b.b, b.ob + off, none⟩ os (fun j v hj => ho3 j v hj)
                    rw [ho2] at this
                    simp [Builtin.firstCells, this]
                  have hrun := append_grows (base := some ⟨b.b, b.ob + off, none⟩) (ty := ty) hd hdx hsd hi hz hl0 hof hcd hlt hg2 hg3
                  obtain ⟨ρ', h11, h12, h13⟩ := appNew_sound r hni hnx hni' hsz (ho1.append hv1) hlen2 (get_del_fun H id) h10 (cap := grownCap w (len + n) ((b.cap - off) / i.size) el) (by simp [grownCap, Question.cut]) (Builtin.zeroCells z.cells (grownCap w (len + n) ((b.cap - off) / i.size) el - (len + n))) (hzc _)
                  exact ⟨_, _, ρ', hrun, h11, h12, h13⟩
                · have hbnd : (len + n) * i.size ≤ b.cap - off := (Nat.le_div_iff_mul_le he).1 hge
                  have hvl := hv1.length
                  have hadd : (len + n) * i.size = len * i.size + n * i.size := Nat.add_mul _ _ _
                  obtain ⟨ob0, hob0, hh⟩ := ob_some.1 hold
                  cases ob0 with
                  | cells el0 c z0 n0 op0 =>
                    obtain ⟨oc, hoc, hor⟩ := r.ob _ _ b hob0 hb
                    cases hor with
                    | cells _ _ _ _ _ cs fz hsize hn hop hfz hcell =>
                      obtain ⟨cs', e1, e2, e3⟩ := run_storeCells (P := P) b.b (b.ob + (off + len * i.size)) el0 fz vs 0 cs w hoc hfz (by omega) (all_one hv1 hg1)
                      simp only [appNew, fN_eq] at h10
                      injection h10 with h10; injection h10 with h10 h11; subst h10; subst h11
                      let b' : Blk := ⟨b.b, b.ob + off, b.cap - off⟩
                      have hlep := Ren.le_put (ρ := ρ) hni b'
                      have hor' : OR (ρ.put ni b') b' (.cells el .leaf (old ++ l) ((len + n) * i.size) true) (.cells cs' el0 fz) := by
                        have hel' : el0 = el := by
                          unfold elemIs at hel
                          rw [hob0] at hel
                          exact Nat.beq_eq ▸ hel
                        subst hel'
                        have hol := ho1.length
                        refine .cells el0 .leaf _ _ true cs' fz (by show _ = b.ob + off + (b.cap - off); omega) hbnd (by simp) (by rcases hfz with hz | hz; exact .inl hz; exact .inr (by omega)) fun k a hk ha => ?_
                        unfold cellOf at ha
                        rw [Tr.get_leaf] at ha
                        have ha' : (old ++ l)[k]? = some a := by
                          have : (old ++ l)[k % (old ++ l).length]? = some a := ha
                          rwa [Nat.mod_eq_of_lt (by omega)] at this
                        show ∃ v, cs'[b.ob + off + k]? = some v ∧ VR (ρ.put ni b') a v
                        rw [List.getElem?_append] at ha'
                        split at ha'
                        · rename_i hko
                          obtain ⟨v, hv, hr⟩ := ho1.get k a ha'
                          refine ⟨v, ?_, hr.mono hlep⟩
                          rw [e3, if_neg (by omega)]
                          have := ho3 k v hv
                          rw [addr_add] at this
                          simpa [World.cell?, hoc] using this
                        · rename_i hko
                          obtain ⟨v, hv, hr⟩ := hv1.get _ a ha'
                          refine ⟨v, ?_, hr.mono hlep⟩
                          rw [e3, if_pos (by omega), ← hv]
                          congr 1; omega
                      refine ⟨.slice (some ⟨b.b, b.ob + off, none⟩) (len + n) ((b.cap - off) / i.size), World.putB w b.b (.cells cs' el0 fz), ρ.put ni b', ?_, ?_, ⟨hlep, fun x hx => Ren.put_ne hx _⟩, ?_⟩
                      · refine append_fits (base := some ⟨b.b, b.ob + off, none⟩) (ty := ty) hd hdx hsd hi hl0 hc0 hge ?_
                        simp only [addr_add, Nat.add_assoc]; exact e1
                      · exact r.rename hob0 hb hni hnx hni' rfl hor' (putB_heap w b.b _ _ hoc) rfl rfl rfl
                      · have := VR.slo (ρ := ρ.put ni b') ni 0 (len + n) i.size b' (Ren.put_same _ _ _) he (by simpa using hbnd)
                        simpa [b'] using this
                  | _ => cases hh
          | _ => cases h7
        | _ => cases h1
  · cases hev

end Go.Ev
