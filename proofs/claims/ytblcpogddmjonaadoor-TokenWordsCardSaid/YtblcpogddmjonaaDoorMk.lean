/- Laid by program out of its parts: Sx0, Sx1. -/
import Derived.Test.YtblcpogddmjonaaDoorMj
import Derived.Test.YtblcpogddmjonaaDoorMe
import Derived.Laws.AppendOwn
import Derived.Maps.Own
import Derived.Sort.KeysCollected
import Derived.StringKeys
set_option linter.unusedVariables false
set_option linter.unusedSimpArgs false
section
/- The symbolic layer, part 0: a call of the kit's own that makes a new row of texts (slices.Sorted, maps.Keys ..), as a contract of calls that turn objects. -/
namespace Go.Ev
open Go.RowKit Go.Sort Go.Proofs

theorem rel_newrow {E : Env} {F : Nat → Option Obj} {nx : Nat} {ρ : Ren} {H : Tr AObj} {w w' : World} (r : Rel E F nx ρ H.get w) (hb : RowKit.Below w.heap.size w w') {g cap el : Nat} {cur : Array Value} {ws : List (List UInt8)}
    (hg : w.heap.size ≤ g) (hcur : w'.heap[g]? = some (.cells cur el (0, 0))) (hn : ws.length ≤ cap) (hsz : cur.size = cap) (htake : cur.toList.take ws.length = ws.map encStr) :
    Rel E F (nx + 1) (ρ.put nx ⟨g, 0, cap⟩) (H.set nx (.cells el .leaf (.rows 1 (rT ws)) ws.length true)).get w' := by
  have hp : ∀ b o, w.heap[b]? = some o → w'.heap[b]? = some o := fun b o hbo => by rw [hb.block b (lt_of_heap hbo)]; exact hbo
  have hi : ρ nx = none := r.new nx (Nat.le_refl _)
  have hle : ρ.le (ρ.put nx ⟨g, 0, cap⟩) := Ren.le_put hi _
  have hne : ∀ b o, w.heap[b]? = some o → b ≠ g := fun b o h e => by have := lt_of_heap h; omega
  have hor : OR (ρ.put nx ⟨g, 0, cap⟩) ⟨g, 0, cap⟩ (.cells el .leaf (.rows 1 (rT ws)) ws.length true) (.cells cur el (0, 0)) := by
    refine .cells _ _ _ _ _ cur (0, 0) (by simpa using hsz) hn (fun h => by cases h) (.inl rfl) fun k a hk ha => ?_
    rw [cellOf_leaf] at ha
    have ha' : (rT ws (k / 1))[k % 1]? = some a := ha
    rw [Nat.div_one, Nat.mod_one] at ha'
    injection ha' with ha'
    subst ha'
    have h1 := congrArg (fun l => l[k]?) htake
    simp only [List.getElem?_take, List.getElem?_map, if_pos hk, List.getElem?_eq_getElem hk, Option.map_some, Array.getElem?_toList] at h1
    refine ⟨_, by rw [Nat.zero_add]; exact h1, ?_⟩
    have : ws.getD k [] = ws[k] := by rw [List.getD_eq_getElem?_getD, List.getElem?_eq_getElem hk]; rfl
    rw [this]
    exact .bs _
  refine ⟨hb.tape.trans r.tape, hb.os.trans r.os, hb.output.trans r.output, fun b o h => hp b o (r.fr b o h), fun i o b hi' hr => ?_, fun i o b hi' hr => ?_, fun i j o o' b b' h1 h2 h3 h4 e => ?_, fun i h => ?_, fun g' l h => ?_, r.bs, fun b o h => hp b o (r.st b o h), fun i o b hi' hr => ?_, r.sf⟩
  · rw [Tr.get_set] at hi'
    by_cases h : nx = i
    · subst h
      rw [if_pos rfl] at hi'
      injection hi' with hi'
      rw [Ren.put_same] at hr
      injection hr with hr
      subst hi'; subst hr
      exact ⟨_, hcur, hor⟩
    · rw [if_neg h] at hi'
      rw [Ren.put_ne (fun e => h e.symm)] at hr
      obtain ⟨c, hc, ho⟩ := r.ob i o b hi' hr
      exact ⟨c, hp _ _ hc, ho.mono hle⟩
  · rw [Tr.get_set] at hi'
    by_cases h : nx = i
    · subst h
      rw [Ren.put_same] at hr
      injection hr with hr
      subst hr
      cases hF : F g with
      | none => rfl
      | some x => exact absurd rfl (hne g x (r.fr _ _ hF))
    · rw [if_neg h] at hi'
      rw [Ren.put_ne (fun e => h e.symm)] at hr
      exact r.dj i o b hi' hr
  · rw [Tr.get_set] at h1 h2
    have old : ∀ k ok bk, nx ≠ k → H.get k = some ok → (ρ.put nx ⟨g, 0, cap⟩) k = some bk → bk.b ≠ g := fun k ok bk hk h5 h6 => by
      rw [Ren.put_ne (fun e => hk e.symm)] at h6
      obtain ⟨c, hc, _⟩ := r.ob k ok bk h5 h6
      exact hne _ _ hc
    by_cases hi1 : nx = i <;> by_cases hj1 : nx = j
    · rw [← hi1, ← hj1]
    · rw [if_neg hj1] at h2
      subst hi1
      rw [Ren.put_same] at h3
      injection h3 with h3
      subst h3
      exact absurd e.symm (old j o' b' hj1 h2 h4)
    · rw [if_neg hi1] at h1
      subst hj1
      rw [Ren.put_same] at h4
      injection h4 with h4
      subst h4
      exact absurd e (old i o b hi1 h1 h3)
    · rw [if_neg hi1] at h1
      rw [if_neg hj1] at h2
      rw [Ren.put_ne (fun e => hi1 e.symm)] at h3
      rw [Ren.put_ne (fun e => hj1 e.symm)] at h4
      exact r.inj i j o o' b b' h1 h2 h3 h4 e
  · rw [Ren.put_ne (by omega)]
    exact r.new i (by omega)
  · rw [Tr.get_set] at h
    by_cases h' : nx = g'
    · rw [if_pos h'] at h; injection h with h; cases h
    · rw [if_neg h'] at h; exact r.gl g' l h
  · rw [Tr.get_set] at hi'
    by_cases h : nx = i
    · subst h
      rw [Ren.put_same] at hr
      injection hr with hr
      subst hr
      cases hF : ρ.st g with
      | none => exact hF
      | some x => exact absurd rfl (hne g x (r.st _ _ hF))
    · rw [if_neg h] at hi'
      rw [Ren.put_ne (fun e => h e.symm)] at hr
      exact r.sd i o b hi' hr

/-- A function without arguments that answers a new row of these texts, where the tables stand. -/
noncomputable def newEnt (sel : Tr AObj → Bool) (el : Nat) (ws : List (List UInt8)) : HEnt := fun H nx args => match args with
  | [] => cond (sel H) (some (.ret (.slg nx ws.length 1) [(nx, .cells el .leaf (.rows 1 (rT ws)) ws.length true)] (nx + 1))) none
  | _ => none
theorem hent_new {P : Program} {g el : Nat} {sel : Tr AObj → Bool} {ws : List (List UInt8)} (hne : ws ≠ []) (hfn : ∃ fn c, P.funcs[g]? = some fn ∧ (fn.name == "runtime.NumGoroutine") = false ∧ fn.body = some c)
    (h : ∀ (H : Tr AObj) (nx : Nat) E F ρ w, sel H = true → Rel E F nx ρ H.get w → Calls P g #[] w fun e w' => ∃ v, e = .returned v ∧ w'.ownsRow w.heap.size el 1 v ws.length (ws.map encStr) ∧ RowKit.Below w.heap.size w w') : HEntOK P g (newEnt sel el ws) := by
  intro H nx args hc hent p v up nx' hout E F ρ w r
  unfold newEnt at hent
  split at hent
  case h_2 => cases hent
  cases hs : sel H with
  | false => rw [hs] at hent; cases hent
  | true =>
    rw [hs, cond_true] at hent
    injection hent with hent
    subst hent
    have hneed : some (false, AV.slg nx ws.length 1, [(nx, AObj.cells el .leaf (.rows 1 (rT ws)) ws.length true)], nx + 1) = some (p, v, up, nx') := hout
    injection hneed with hneed
    injection hneed with e1 hneed
    injection hneed with e2 hneed
    injection hneed with e3 e4
    subst e1; subst e2; subst e3; subst e4
    refine ⟨hfn, fun vs hvs => callsIn_wide.2 ?_⟩
    cases hvs
    refine (h H nx E F ρ w hs r).mono fun e w' ⟨u, he, hrow, hb⟩ => ?_
    have hpos : 0 < ws.length := List.length_pos_iff.2 hne
    rcases hrow.2 with ⟨_, h0⟩ | ⟨gb, cap, cur, rfl, hbase, hcur, hn, _, hsz, htake⟩
    · omega
    · have hi : ρ nx = none := r.new nx (Nat.le_refl _)
      refine ⟨_, ρ.put nx ⟨gb, 0, cap⟩, he, ⟨Ren.le_put hi _, fun i hi' => Ren.put_ne (by omega) _, Nat.le_succ _⟩, ?_, ?_⟩
      · exact rel_newrow r hb hbase hcur hn (by rw [hsz, Nat.mul_one]) (by rw [Nat.mul_one] at htake; exact htake)
      · have hd : cap = cap / 1 := (Nat.div_one _).symm
        show VR (ρ.put nx ⟨gb, 0, cap⟩) (.slg nx ws.length 1) (.slice (some ⟨gb, 0, none⟩) ws.length cap)
        rw [show VR (ρ.put nx ⟨gb, 0, cap⟩) (.slg nx ws.length 1) (.slice (some ⟨gb, 0, none⟩) ws.length cap) = VR (ρ.put nx ⟨gb, 0, cap⟩) (.slg nx ws.length 1) (.slice (some ⟨gb, 0, none⟩) ws.length (cap / 1)) from by rw [Nat.div_one]]
        exact .slg nx ws.length 1 ⟨gb, 0, cap⟩ (Ren.put_same ρ nx _) Nat.one_pos (by show ws.length * 1 ≤ cap; omega)
/-- What a run answers is a map of these entries. -/
def ResMapO (es : List AEnt) (ck : Nat) (r : CR) : Prop := ∃ id H1 n1, r = .mk (.map id) H1 n1 ∧ H1.get id = some (.map es ck)
/-- A function without arguments that answers a new map of known entries, from outside. -/
theorem map_calls {P : Program} {call : FuncId → List AV → Tr AObj → Nat → KC → Prop} (hcall : CallKOK P call) {g : FuncId} {es : List AEnt} {ck : Nat} {gl : List (Nat × AObj)} {ng : Nat}
    (hgl : ∀ p ∈ gl, isGl p.2 = true) {K : CR → Prop} (hK : ∀ r, K r → ResMapO es ck r) (hrun : call g [] (mkH gl) ng K) {w : World} (hG : ∀ g l, (mkH gl).get g = some (.glob l) → ∃ cs e fz, w.heap[g]? = some (.cells cs e fz) ∧ ∀ ρ', VRL ρ' l cs.toList) :
    Calls P g #[] w fun e w' => ∃ b l ρ, e = .returned (.map (some b)) ∧ w.heap.size ≤ b ∧ w'.heap[b]? = some (.map l.toArray ck) ∧ ERL ρ es l ∧ RowKit.Below w.heap.size w w' := by
  have r0 : Rel ⟨w.tape, w.os, w.output, fun b => w.heap[b]?, fun _ => true⟩ (fun b => w.heap[b]?) ng ⟨fun _ => none, fun _ => none⟩ (mkH gl).get w :=
    ⟨rfl, rfl, rfl, fun _ _ h => h, fun _ _ _ _ h => (by cases h), fun _ _ _ _ h => (by cases h), fun _ _ _ _ _ _ _ _ h => (by cases h), fun _ _ => rfl,
      fun g l hg => hG g l hg, fun _ _ h => h, fun _ _ h => (by cases h), fun _ _ _ _ h => (by cases h), fun _ _ _ _ _ => rfl⟩
  have hok := hcall g [] (mkH gl) ng _ hrun _ _ _ w r0
  have hc0 : Calls P g #[] w _ := callsIn_wide.1 (hok.2 [] .nil)
  refine hc0.mono fun e w' he => ?_
  obtain ⟨res, hres, hend⟩ := he
  obtain ⟨id, H1, n1, rfl, hget⟩ := hK _ hres
  obtain ⟨u, ρ1, rfl, hx, r1, hv⟩ := hend
  cases hv with
  | map _ b hb =>
    obtain ⟨c, hc, hor⟩ := r1.ob _ _ b hget hb
    have hdj := r1.dj _ _ b hget hb
    cases hor with
    | map _ _ l hl =>
      refine ⟨b.b, l, ρ1, rfl, ?_, hc, hl, r1.os, r1.tape, r1.output, ?_, fun k hk => ?_⟩
      · rcases Nat.lt_or_ge b.b w.heap.size with h | h
        · rw [show w.heap[b.b]? = some w.heap[b.b] from Array.getElem?_eq_getElem h] at hdj; cases hdj
        · exact h
      · by_cases h0 : w.heap.size = 0
        · omega
        · have hlt : w.heap.size - 1 < w.heap.size := by omega
          have := r1.fr (w.heap.size - 1) _ (Array.getElem?_eq_getElem hlt)
          have := lt_of_heap this
          omega
      · rw [Array.getElem?_eq_getElem hk]
        exact r1.fr k _ (Array.getElem?_eq_getElem hk)
/-- The same, to be reckoned. -/
noncomputable def ResMapB (es : List AEnt) (ck : Nat) (r : CR) : Prop := match r with
  | .mk (.map id) H1 _ => okP (H1.get id) fun o => match o with
    | .map es' ck' => es' = es ∧ ck' = ck
    | _ => False
  | _ => False
theorem resMapB_O {es : List AEnt} {ck : Nat} : ∀ r, ResMapB es ck r → ResMapO es ck r := fun r h => by
  unfold ResMapB at h
  split at h
  · rename_i id H1 n1
    obtain ⟨o, ho, h1⟩ := okP_some h
    split at h1
    · obtain ⟨rfl, rfl⟩ := h1
      exact ⟨id, H1, n1, rfl, ho⟩
    · exact h1.elim
  · exact h.elim
end Go.Ev
end

section
/- The symbolic layer, part 1: a map of known text keys, as the kit owns it. -/
open Go Go.Ev Go.RowKit Go.Maps Go.Sort Go.Proofs
namespace Go.Ev
/-- A key that is a text. -/
def keyT (a : AV) : Option (List UInt8) := match a with
  | .bs s => some s
  | .str n m => some (bytesL n m)
  | _ => none
theorem keyT_val {ρ : Ren} {a : AV} {s : List UInt8} {v : Value} (h : keyT a = some s) (hv : VR ρ a v) : v = .string ⟨s.toArray⟩ := by
  unfold keyT at h
  split at h
  · injection h with h; subst h; cases hv; rfl
  · injection h with h; subst h; cases hv; rfl
  · cases h
theorem erl_keys {ρ : Ren} : ∀ {es : List AEnt} {l : List MapEntry} {ks : List (List UInt8)}, ERL ρ es l → es.map (fun a => keyT a.key) = ks.map some → l.map (·.key) = ks.map (fun s => Value.string ⟨s.toArray⟩) ∧ l.map (·.born) = es.map (·.born)
  | _, _, [], .nil, _ => ⟨rfl, rfl⟩
  | _, _, s :: ks, .nil, h => by cases h
  | _, _, [], .cons _ _ _ _ _ _, h => by cases h
  | _, _, s :: ks, .cons a e es l h1 h2, h => by
    injection h with h3 h4
    obtain ⟨h5, h6⟩ := erl_keys h2 h4
    exact ⟨by rw [List.map_cons, List.map_cons, h5, keyT_val h3 h1.1], by rw [List.map_cons, List.map_cons, h6, h1.2.2]⟩
/-- How an entry reads where the values do not matter. -/
def oneR : Value → Option (DataW Unit × List MemPlace) := fun _ => some (.lit (.bool true), [])
def keysD (ks : List (List UInt8)) : DataW Unit := .map ((ks.map fun s => (Lit.string s, (.lit (.bool true) : DataW Unit))).foldr DataW.insert [])
theorem owns_of {P : Program} {k : TypeId} (hk : P.underlying k = some .string) {w : World} {b ck : Nat} {l : List MapEntry} {ρ : Ren} {es : List AEnt} {ks : List (List UInt8)} (hb : w.heap[b]? = some (.map l.toArray ck)) (he : ERL ρ es l)
    (hkeys : es.map (fun a => keyT a.key) = ks.map some) (hnd : ks.Nodup) (hbd : (es.map (·.born)).Nodup) (hbc : ∀ n ∈ es.map (·.born), n < ck) (hs : ∀ s ∈ ks, s.length ≤ 1000) (hn : ks.length ≤ 1000) :
    w.ownsMap P k oneR b l.length (keysD ks) := by
  obtain ⟨h1, h2⟩ := erl_keys he hkeys
  have hlen : l.length = ks.length := by
    have := congrArg List.length h1
    simpa using this
  have hmx : ∀ s ∈ ks, (ByteArray.mk s.toArray).size ≤ maxLen := fun s h => by
    have := hs s h
    show s.toArray.size ≤ maxLen
    rw [List.size_toArray]
    unfold maxLen
    omega
  have hko : ∀ s ∈ ks, keyOf P k (.string ⟨s.toArray⟩) = some (.string s) := fun s h => by
    have := Go.WideMaps.keyOf_string_mk (P := P) hk (hmx s h); simpa using this
  have hmap : l.map (Go.WideElems.rg P k oneR) = ks.map fun s => (Lit.string s, (.lit (.bool true) : DataW Unit)) := by
    have e1 : l.map (Go.WideElems.rg P k oneR) = (l.map (·.key)).map fun v => (((keyOf P k v).bind fun key => (oneR v).map fun y => (key, y.1)).getD (.bool false, .nil)) := by
      rw [List.map_map]; rfl
    rw [e1, h1, List.map_map]
    refine List.map_congr_left fun s h => ?_
    show (((keyOf P k (.string ⟨s.toArray⟩)).bind fun key => (oneR (.string ⟨s.toArray⟩)).map fun y => (key, y.1)).getD (.bool false, .nil)) = _
    rw [hko s h]; rfl
  refine ⟨l.toArray, ck, hb, ⟨?_, ⟨fun x hx => ?_, ?_, ?_⟩, fun x hx => ?_⟩, by simp, ?_⟩
  · rw [List.size_toArray, hlen]
    unfold maxLen
    omega
  · have hx' : x ∈ l := by simpa using hx
    refine hbc _ ?_
    rw [← h2]
    exact List.mem_map.2 ⟨x, hx', rfl⟩
  · show (l.map (·.born)).Nodup
    rw [h2]; exact hbd
  · show (l.map (·.key)).Nodup
    rw [h1]
    exact List.Pairwise.map _ (fun a b hab e => hab (by injection e with e; injection e with e; exact List.toArray_inj e)) hnd
  · have hx' : x ∈ l := by simpa using hx
    have hxk : x.key ∈ ks.map (fun s => Value.string ⟨s.toArray⟩) := by rw [← h1]; exact List.mem_map.2 ⟨x, hx', rfl⟩
    obtain ⟨s, hs', e⟩ := List.mem_map.1 hxk
    refine ⟨(.string s, .lit (.bool true)), ?_⟩
    unfold Go.WideElems.rd
    rw [← e, hko s hs']; rfl
  · show keysD ks = .map ((l.map (Go.WideElems.rg P k oneR)).foldr DataW.insert [])
    rw [hmap]; rfl
end Go.Ev
end
