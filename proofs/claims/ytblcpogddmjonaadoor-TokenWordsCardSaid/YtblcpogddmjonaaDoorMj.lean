/- Laid by program out of its parts: SxY, SxZ. -/
import Derived.Test.YtblcpogddmjonaaDoorMe
import Derived.Test.YtblcpogddmjonaaDoorMf
import Derived.Sort.Grow
import Derived.Sort.EncStr
import Derived.Test.YtblcpogddmjonaaDoorMh
set_option linter.unusedVariables false
set_option linter.unusedSimpArgs false
section
/- The symbolic layer, part Y: a contract of the kit's own that turns a row of texts in its place, as a contract of calls that turn objects. -/
namespace Go.Ev
open Go.RowKit Go.Sort Go.Proofs

/-- The first n elements are these texts. -/
noncomputable def rowOf (ys : List (List UInt8)) (n : Nat) (f : Nat → List AV) : Nat → List AV := fun i => cond (Nat.blt i n) [.bs (ys.getD i [])] (f i)
theorem rowOf_zero (ys : List (List UInt8)) (f : Nat → List AV) : rowOf ys 0 f = f := by
  funext i
  unfold rowOf
  rw [show Nat.blt i 0 = false from by simp [Nat.blt, Nat.ble]]; rfl

theorem grow_get {w : World} {os : Array Obj} {c : Nat} {o : Obj} (h : w.heap[c]? = some o) : (grow w os).heap[c]? = some o := by
  show (w.heap ++ os)[c]? = some o
  rw [Array.getElem?_append_left (lt_of_heap h)]; exact h
theorem put_get_ne {w : World} {blk : Nat} {g : Array Value → Array Value} {c : Nat} {o : Obj} (h : w.heap[c]? = some o) (hne : blk ≠ c) : (mapBlock w blk g).heap[c]? = some o := by
  show (w.heap.modify blk (onCells g))[c]? = some o
  rw [Array.getElem?_modify, if_neg hne]; exact h
theorem put_get_same {w : World} {blk : Nat} {g : Array Value → Array Value} {cs : Array Value} {el : Nat} {fz : Nat × Nat} (h : w.heap[blk]? = some (.cells cs el fz)) : (mapBlock w blk g).heap[blk]? = some (.cells (g cs) el fz) := by
  show (w.heap.modify blk (onCells g))[blk]? = _
  rw [Array.getElem?_modify, if_pos rfl, h]; rfl

theorem rel_rows {E : Env} {F : Nat → Option Obj} {nx : Nat} {ρ : Ren} {w w' : World} {H : Tr AObj} (r : Rel E F nx ρ H.get w) {id el N : Nat} {op : Bool} {f : Nat → List AV} {b : Blk}
    (hH : H.get id = some (.cells el .leaf (.rows 1 f) N op)) (hb : ρ id = some b) {n : Nat} {ys : List (List UInt8)} (hl : ys.length = n) {k : Nat} {os : Array Obj}
    (hw : w' = grow (putRow encStr (Sort.ahead w k) b.b b.ob ys.toArray) os) : Rel E F nx ρ (H.set id (.cells el .leaf (.rows 1 (rowOf ys n f)) N op)).get w' := by
  subst hw
  have hother : ∀ c o, w.heap[c]? = some o → b.b ≠ c → (grow (putRow encStr (Sort.ahead w k) b.b b.ob ys.toArray) os).heap[c]? = some o := fun c o h hne =>
    grow_get (put_get_ne (w := Sort.ahead w k) h hne)
  have hne : ∀ i o b', H.get i = some o → ρ i = some b' → i ≠ id → b.b ≠ b'.b := fun i o b' hi hr hn e => hn (r.inj i id o _ b' b hi hH hr hb e.symm)
  refine ⟨r.tape, r.os, r.output, fun c o h => hother c o (r.fr c o h) (fun e => ?_), fun i o b' hi hr => ?_, fun i o b' hi hr => ?_, fun i j o o' b' b2 hi hj hr hr2 e => ?_, r.new, fun g l hg => ?_, r.bs,
    fun c o h => hother c o (r.st c o h) (fun e => ?_), fun i o b' hi hr => ?_, r.sf⟩
  · have := r.dj id _ b hH hb
    rw [e, h] at this; cases this
  · rw [Tr.get_set] at hi
    by_cases h : id = i
    · subst h
      rw [if_pos rfl] at hi
      injection hi with hi
      rw [hb] at hr
      injection hr with hr
      subst hi; subst hr
      obtain ⟨c, h1, h2⟩ := r.ob id _ b hH hb
      cases h2 with
      | cells _ _ _ _ _ cs fz hsize hn hop hfz hcell =>
        refine ⟨_, grow_get (put_get_same (w := Sort.ahead w k) h1), .cells _ _ _ _ _ _ fz ?_ hn hop ?_ fun j a hj ha => ?_⟩
        · simp only [putCells, Array.size_mapIdx]; exact hsize
        · unfold fzOk at hfz ⊢
          simp only [putCells, Array.size_mapIdx]; exact hfz
        · rw [cellOf_leaf] at ha
          have ha' : (rowOf ys n f (j / 1))[j % 1]? = some a := ha
          rw [Nat.div_one, Nat.mod_one] at ha'
          have hget : ∀ v, cs[b.ob + j]? = some v → (putCells encStr b.ob ys.toArray cs)[b.ob + j]? = some (if b.ob ≤ b.ob + j ∧ b.ob + j < b.ob + ys.toArray.size then encStr (ys.toArray[b.ob + j - b.ob]!) else v) := fun v hv => by
            unfold putCells
            rw [Array.getElem?_mapIdx, hv]; rfl
          have hin : ∃ v, cs[b.ob + j]? = some v := ⟨cs[b.ob + j]'(by omega), Array.getElem?_eq_getElem _⟩
          unfold rowOf at ha'
          cases hlt : Nat.blt j n with
          | true =>
            rw [hlt, cond_true] at ha'
            injection ha' with ha'
            subst ha'
            obtain ⟨v, hv⟩ := hin
            have hjn : j < n := Nat.le_of_ble_eq_true hlt
            refine ⟨_, hget v hv, ?_⟩
            rw [if_pos ⟨Nat.le_add_right _ _, by simp; omega⟩, Nat.add_sub_cancel_left]
            have : ys.toArray[j]! = ys.getD j [] := by
              rw [getElem!_pos _ j (by simp; omega)]
              simp [List.getD_eq_getElem?_getD, List.getElem?_eq_getElem (show j < ys.length by omega)]
            rw [this]
            exact .bs _
          | false =>
            rw [hlt, cond_false] at ha'
            have hjn : ¬ j < n := fun h => by
              have : Nat.blt j n = true := Nat.ble_eq_true_of_le h
              rw [hlt] at this; cases this
            obtain ⟨v, h3, h4⟩ := hcell j a hj (by rw [cellOf_leaf]; show (f (j / 1))[j % 1]? = _; rw [Nat.div_one, Nat.mod_one]; exact ha')
            refine ⟨v, ?_, h4⟩
            rw [hget v h3, if_neg (by simp; omega)]
    · rw [if_neg h] at hi
      obtain ⟨c, h1, h2⟩ := r.ob i o b' hi hr
      exact ⟨c, hother _ _ h1 (hne i o b' hi hr (fun e => h e.symm)), h2⟩
  · rw [Tr.get_set] at hi
    by_cases h : id = i
    · subst h; exact r.dj id _ b' hH hr
    · rw [if_neg h] at hi; exact r.dj i o b' hi hr
  · have hold : ∀ i o, (H.set id (.cells el .leaf (.rows 1 (rowOf ys n f)) N op)).get i = some o → ∃ o', H.get i = some o' := fun i o hi => by
      rw [Tr.get_set] at hi
      by_cases h : id = i
      · subst h; exact ⟨_, hH⟩
      · rw [if_neg h] at hi; exact ⟨o, hi⟩
    obtain ⟨o1, h1⟩ := hold i o hi
    obtain ⟨o2, h2⟩ := hold j o' hj
    exact r.inj i j o1 o2 b' b2 h1 h2 hr hr2 e
  · rw [Tr.get_set] at hg
    by_cases h : id = g
    · rw [if_pos h] at hg; injection hg with hg; cases hg
    · rw [if_neg h] at hg; exact r.gl g l hg
  · have := r.sd id _ b hH hb
    rw [e, h] at this; cases this
  · rw [Tr.get_set] at hi
    by_cases h : id = i
    · subst h; exact r.sd id _ b' hH hr
    · rw [if_neg h] at hi; exact r.sd i o b' hi hr

theorem rel_grow {E : Env} {F : Nat → Option Obj} {nx : Nat} {ρ : Ren} {w : World} {h : Nat → Option AObj} (r : Rel E F nx ρ h w) (k : Nat) (os : Array Obj) : Rel E F nx ρ h (grow (Sort.ahead w k) os) := by
  have hp : ∀ b o, w.heap[b]? = some o → (grow (Sort.ahead w k) os).heap[b]? = some o := fun b o hbo => grow_get (w := Sort.ahead w k) hbo
  exact ⟨r.tape, r.os, r.output, fun b o h => hp b o (r.fr b o h), fun i o b hi h => let ⟨c, h1, h2⟩ := r.ob i o b hi h; ⟨c, hp _ _ h1, h2⟩, r.dj, r.inj, r.new, r.gl, r.bs, fun b o h => hp b o (r.st b o h), r.sd, r.sf⟩

noncomputable def rowRes (id : Nat) (o : Option Nat) : AV := Option.rec (motive := fun _ => AV) (.tup []) (fun k => .slg id k 1) o
def rowVal (o : Option Nat) (base : Option Addr) (cap : Nat) : Value := match o with
  | none => .tuple #[]
  | some k => .slice base k cap
noncomputable def rowEnt (bd : Nat) (res : List (List UInt8) → Option Nat) (out : List (List UInt8) → List (List UInt8)) : HEnt := fun H nx args => match args with
  | [.slg id n 1] => match H.get id with
    | some (.cells el .leaf (.rows 1 f) N op) => some (.need (n ≤ N ∧ allTx n f = true ∧ n < bd) (.ret (rowRes id (res (rowTx n f))) [(id, .cells el .leaf (.rows 1 (rowOf (out (rowTx n f)) n f)) N op)] nx))
    | _ => none
  | _ => none

theorem rowTx_length (n : Nat) (f : Nat → List AV) : (rowTx n f).length = n := by simp [rowTx]

theorem hent_rows {P : Program} {g bd : Nat} {res : List (List UInt8) → Option Nat} {out : List (List UInt8) → List (List UInt8)} (hfn : ∃ fn c, P.funcs[g]? = some fn ∧ (fn.name == "runtime.NumGoroutine") = false ∧ fn.body = some c)
    (hlen : ∀ ss, (out ss).length = ss.length) (hle : ∀ ss k, res ss = some k → k ≤ ss.length)
    (h1 : ∀ (blk off cap : Nat) (ss : List (List UInt8)) (w : World), Sort.Holds encStr w blk off ss.toArray → blk < w.heap.size → ss.length ≤ cap → ss.length < bd →
      Calls P g #[.slice (some ⟨blk, off, none⟩) ss.length cap] w fun e w' => e = .returned (rowVal (res ss) (some ⟨blk, off, none⟩) cap) ∧ ∃ k os, w' = grow (putRow encStr (Sort.ahead w k) blk off (out ss).toArray) os)
    (h0 : ∀ w : World, Calls P g #[.slice none 0 0] w fun e w' => e = .returned (rowVal (res []) none 0) ∧ ∃ k os, w' = grow (Sort.ahead w k) os) : HEntOK P g (rowEnt bd res out) := by
  intro H nx args hc hent p v up nx' hout E F ρ w r
  unfold rowEnt at hent
  split at hent
  case h_2 => cases hent
  rename_i id n
  split at hent
  case h_2 => cases hent
  rename_i el f N op hH
  injection hent with hent
  subst hent
  have hneed : (@ite _ (n ≤ N ∧ allTx n f = true ∧ n < bd) (Classical.propDecidable _) (some (false, rowRes id (res (rowTx n f)), [(id, AObj.cells el .leaf (.rows 1 (rowOf (out (rowTx n f)) n f)) N op)], nx)) none) = some (p, v, up, nx') := hout
  split at hneed
  case isFalse => cases hneed
  rename_i hp
  obtain ⟨hnN, htx, hbd⟩ := hp
  injection hneed with hneed
  injection hneed with e1 hneed
  injection hneed with e2 hneed
  injection hneed with e3 e4
  subst e1; subst e2; subst e3; subst e4
  refine ⟨hfn, fun vs hvs => callsIn_wide.2 ?_⟩
  have hset : setL [(id, AObj.cells el .leaf (.rows 1 (rowOf (out (rowTx n f)) n f)) N op)] H = H.set id (.cells el .leaf (.rows 1 (rowOf (out (rowTx n f)) n f)) N op) := rfl
  have hrl := rowTx_length n f
  cases hvs with
  | cons _ u _ us hu hus =>
  cases hus
  cases hu with
  | slg _ _ _ b hb he hl =>
    obtain ⟨c, h3, h4⟩ := r.ob id _ b hH hb
    cases h4 with
    | cells _ _ _ _ _ cs fz hsize hn hop hfz hcell =>
      rw [Nat.div_one]
      have hholds : Sort.Holds encStr w b.b b.ob (rowTx n f).toArray := by
        intro j hj
        have hjn : j < n := by rw [List.size_toArray, hrl] at hj; exact hj
        unfold allTx at htx
        have h5 := of_decide_eq_true htx j hjn
        have h6 : ∃ s, f j = [.bs s] ∧ txtO (f j) = s := by
          unfold isTx at h5
          split at h5
          · rename_i s hs; exact ⟨s, hs, by rw [hs]; rfl⟩
          · cases h5
        obtain ⟨s, h6, h7⟩ := h6
        obtain ⟨v, h8, h9⟩ := hcell j (.bs s) (by omega) (by rw [cellOf_leaf]; show (f (j / 1))[j % 1]? = _; rw [Nat.div_one, Nat.mod_one, h6]; rfl)
        cases h9
        have h10 : (rowTx n f).toArray[j]! = s := by
          rw [getElem!_pos _ j hj]
          simp [rowTx, h7]
        refine ⟨?_, ?_⟩
        · simp only [World.cell?, h3, h10]; exact h8
        · simp only [World.frozen?, h3]
          rcases hfz with hfz | hfz
          · rw [hfz]; simp
          · have : ¬ fz.1 ≤ b.ob + j := by omega
            simp [this]
      have hcap : n * 1 ≤ b.cap := hl
      refine ((hrl ▸ h1 b.b b.ob b.cap (rowTx n f) w hholds (lt_of_heap h3) (by omega) (by omega) : _)).mono fun e w' ⟨he, k, os, hw⟩ => ⟨_, ρ, he, RX.refl _ _, ?_, ?_⟩
      · rw [hset]
        exact rel_rows r hH hb ((hlen _).trans hrl) hw
      · cases hr : res (rowTx n f) with
        | none => exact .tup [] [] .nil
        | some m =>
          have := hle _ _ hr
          have hd : b.cap = b.cap / 1 := (Nat.div_one _).symm
          show VR ρ (.slg id m 1) (.slice (some ⟨b.b, b.ob, none⟩) m b.cap)
          rw [hd]
          exact .slg id m 1 b hb Nat.one_pos (by omega)
  | slg0 _ _ _ hn0 =>
    subst hn0
    have hnil : rowTx 0 f = [] := by simp [rowTx]
    have hsame : (setL [(id, AObj.cells el .leaf (.rows 1 (rowOf (out (rowTx 0 f)) 0 f)) N op)] H).get = H.get := by
      rw [hset, rowOf_zero]
      funext i
      rw [Tr.get_set]
      by_cases h : id = i
      · subst h; rw [if_pos rfl, hH]
      · rw [if_neg h]
    refine (h0 w).mono fun e w' ⟨he, k, os, hw⟩ => ⟨_, ρ, he, RX.refl _ _, ?_, ?_⟩
    · rw [hsame, hw]
      exact rel_grow r k os
    · rw [hnil]
      cases hr : res [] with
      | none => exact .tup [] [] .nil
      | some m =>
        have := hle _ _ hr
        have hm : m = 0 := Nat.le_zero.1 this
        subst hm
        exact .slg0 id 0 1 rfl
end Go.Ev
end

section
/- The symbolic layer, part Z: rows of texts as arguments. -/
namespace Go.Ev
def rT (L : List (List UInt8)) : Nat → List AV := fun i => [.bs (L.getD i [])]
theorem vm_rT (L : List (List UInt8)) (i : Nat) : vmL [] (rT L i) (rT L i) := ⟨rfl, trivial⟩
theorem rowTx_rT (L : List (List UInt8)) : rowTx L.length (rT L) = L := by
  apply List.ext_getElem
  · simp [rowTx]
  · intro i h1 h2
    simp [rowTx, rT, txtO, List.getD_eq_getElem?_getD, List.getElem?_eq_getElem h2]
theorem allTx_rT (n : Nat) (L : List (List UInt8)) : allTx n (rT L) = true := decide_eq_true fun _ _ => rfl
theorem rT_row {n : Nat} {f : Nat → List AV} (h : allTx n f = true) {i : Nat} (hi : i < n) : rT (rowTx n f) i = f i := by
  unfold allTx at h
  have h5 := of_decide_eq_true h i hi
  unfold isTx at h5
  have h1 : (rowTx n f).getD i [] = txtO (f i) := by
    simp [rowTx, List.getD_eq_getElem?_getD, hi]
  unfold rT
  rw [h1]
  split at h5
  · rename_i s hs; rw [hs]; rfl
  · cases h5
theorem vec_norm {ρ : Ren} {n : Nat} {f : Nat → List AV} {v : Value} (h : allTx n f = true) (hv : VR ρ (.vec 1 n f) v) : VR ρ (.vec 1 n (rT (rowTx n f))) v := by
  cases hv with
  | vec _ _ _ b o cap cs el fz g hs he hcap hvv hc => exact .vec _ _ _ b o cap cs el fz g hs he hcap (fun i hi => by rw [rT_row h hi]; exact hvv i hi) hc
  | vecz _ _ _ h0 base cap => exact .vecz _ _ _ h0 base cap
theorem appF_row {n i : Nat} {f g : Nat → List AV} {r : List AV} (h1 : i < n → f i = r) (h2 : ¬ i < n → g (i - n) = r) : appF n f g i = r := by
  unfold appF
  by_cases h : i < n
  · rw [show Nat.blt i n = true from by simpa [Nat.blt_eq] using h, cond_true]; exact h1 h
  · rw [show Nat.blt i n = false from Bool.eq_false_iff.2 fun hb => h (by simpa [Nat.blt_eq] using hb), cond_false]; exact h2 h
theorem goodR_tx {n : Nat} {F : Nat → List UInt8} : goodR 1 n (fun i => [AV.bs (F i)]) = true := goodR_of fun _ _ => rfl
theorem goodR_row {n : Nat} {F : Nat → List AV} (M : List (List UInt8)) (h : ∀ i, i < n → F i = [AV.bs (M.getD i [])]) : goodR 1 n F = true := goodR_of fun i hi => by rw [h i hi]; rfl
/-- What an argument is, a row of texts as its texts. -/
noncomputable def normA (a : AV) : AV := match a with
  | .vec 1 n f => .vec 1 n (rT (rowTx n f))
  | a => a
def okA (a : AV) : Prop := match a with
  | .vec 1 n f => allTx n f = true
  | _ => True
theorem normA_rel {ρ : Ren} {a : AV} {v : Value} (h : okA a) (hv : VR ρ a v) : VR ρ (normA a) v := by
  unfold normA
  unfold okA at h
  split
  · exact vec_norm h hv
  · exact hv
theorem normL_rel {ρ : Ren} : ∀ {l : List AV} {vs : List Value}, (∀ a ∈ l, okA a) → VRL ρ l vs → VRL ρ (l.map normA) vs
  | [], _, _, .nil => .nil
  | a :: _, _, h, .cons _ _ _ _ h1 hs => .cons _ _ _ _ (normA_rel (h a (List.mem_cons_self ..)) h1) (normL_rel (fun b hb => h b (List.mem_cons_of_mem _ hb)) hs)
/-- A contract of which the rows of texts among the arguments are known as such. -/
theorem ent_tx {P : Program} {g : FuncId} {ent : Tr AObj → List AV → Option Ct} {gl : List (Nat × AObj)} {ng : Nat} (hgl : ∀ p ∈ gl, isGl p.2 = true)
    (h : ∀ H args ct, ent H args = some ct → (∀ p ∈ gl, H.get p.1 = some p.2) ∧ ∃ pre v, ct = .need pre (.ret v) ∧ (pre → (∀ a ∈ args, okA a) ∧ vmL [] (args.map normA) (args.map normA) ∧
      ∃ (cx : Ctx) (n : Nat), cx.P = P ∧ P.follows .mixedOrders = true ∧ TbOK P cx.tb ∧ (cRun cx n).call g (args.map normA) (mkH gl) ng (ResM P false v))) : EntOK P g ent := by
  intro H args ct hct p v hout
  obtain ⟨h1, pre, v', rfl, h2⟩ := h H args ct hct
  obtain ⟨hp, rfl, rfl⟩ := ctOut_need hout
  obtain ⟨h3, h4, cx, n, h5, h6, h7, h8⟩ := h2 hp
  classical
  have key : EntOK P g (fun H' a' => if H' = H ∧ a' = args.map normA then some (.need True (.ret v')) else none) := ent_of hgl fun H' a' ct' hct' => by
    by_cases hh : H' = H ∧ a' = args.map normA
    · rw [if_pos hh] at hct'
      injection hct' with hct'
      obtain ⟨rfl, rfl⟩ := hh
      exact ⟨h1, h4, True, v', hct'.symm, fun _ => ⟨cx, n, h5, h6, h7, h8⟩⟩
    · rw [if_neg hh] at hct'; cases hct'
  intro E F ρ w nx H' hG r
  have := key H (args.map normA) _ (if_pos ⟨rfl, rfl⟩) false v' (by show (@ite _ True (Classical.propDecidable _) (some (false, v')) none) = _; exact if_pos trivial) E F ρ w nx H' hG r
  exact ⟨this.1, fun vs hvs => this.2 vs (normL_rel h3 hvs)⟩
end Go.Ev
end
