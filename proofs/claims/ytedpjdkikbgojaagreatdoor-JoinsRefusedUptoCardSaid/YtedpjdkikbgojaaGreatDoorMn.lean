/- Laid by program out of its parts: Sx2, Sx3. -/
import Derived.Test.YtedpjdkikbgojaaGreatDoorMj
import Derived.Test.YtedpjdkikbgojaaGreatDoorMh
import Derived.ChangeSlices
set_option linter.unusedVariables false
set_option linter.unusedSimpArgs false
section
/- The symbolic layer, part 2: slices.Clone of whole numbers, as a contract of calls that turn objects. -/
namespace Go.Ev
open Go.RowKit Go.Sort Go.Proofs
theorem rel_newrowG {E:Env} {F:Nat→Option Obj} {nx:Nat} {ρ:Ren} {H:Tr AObj} {w w':World} (r:Rel E F nx ρ H.get w) (hb:RowKit.Below w.heap.size w w') {g cap el esz N:Nat} {cur:Array Value} {f:Nat→List AV}
  (hg:w.heap.size≤g) (hcur:w'.heap[g]? = some (.cells cur el (0,0))) (hn:N≤cap) (hsz:cur.size=cap) (hrow:∀ k a,k < N→(f (k / esz))[k % esz]? = some a→∃ v,cur[k]? = some v∧VR ρ a v) :
  Rel E F (nx + 1) (ρ.put nx ⟨g,0,cap⟩) (H.set nx (.cells el .leaf (.rows esz f) N true)).get w':=by
 have hp:∀ b o,w.heap[b]? = some o→w'.heap[b]? = some o:=fun b o hbo=>by rw [hb.block b (lt_of_heap hbo)];exact hbo
 have hi:ρ nx=none:=r.new nx (Nat.le_refl _)
 have hle:ρ.le (ρ.put nx ⟨g,0,cap⟩):=Ren.le_put hi _
 have hne:∀ b o,w.heap[b]? = some o→b≠g:=fun b o h e=>by have:=lt_of_heap h;omega
 have hor:OR (ρ.put nx ⟨g,0,cap⟩) ⟨g,0,cap⟩ (.cells el .leaf (.rows esz f) N true) (.cells cur el (0,0)):=by
  refine .cells _ _ _ _ _ cur (0,0) (by simpa using hsz) hn (fun h=>by cases h) (.inl rfl) fun k a hk ha=>?_
  rw [cellOf_leaf] at ha
  obtain ⟨v,h1,h2⟩:=hrow k a hk ha
  exact ⟨v,by rw [Nat.zero_add];exact h1,h2.mono hle⟩
 refine ⟨hb.tape.trans r.tape,hb.os.trans r.os,hb.output.trans r.output,fun b o h=>hp b o (r.fr b o h),fun i o b hi' hr=>?_,fun i o b hi' hr=>?_,fun i j o o' b b' h1 h2 h3 h4 e=>?_,fun i h=>?_,fun g' l h=>?_,r.bs,fun b o h=>hp b o (r.st b o h),fun i o b hi' hr=>?_,r.sf⟩
 ·rw [Tr.get_set] at hi'
  by_cases h:nx=i
  ·subst h
   rw [if_pos rfl] at hi'
   injection hi' with hi'
   rw [Ren.put_same] at hr
   injection hr with hr
   subst hi';subst hr
   exact ⟨_,hcur,hor⟩
  ·rw [if_neg h] at hi'
   rw [Ren.put_ne (fun e=>h e.symm)] at hr
   obtain ⟨c,hc,ho⟩:=r.ob i o b hi' hr
   exact ⟨c,hp _ _ hc,ho.mono hle⟩
 ·rw [Tr.get_set] at hi'
  by_cases h:nx=i
  ·subst h
   rw [Ren.put_same] at hr
   injection hr with hr
   subst hr
   cases hF:F g with
   | none=>rfl
   | some x=>exact absurd rfl (hne g x (r.fr _ _ hF))
  ·rw [if_neg h] at hi'
   rw [Ren.put_ne (fun e=>h e.symm)] at hr
   exact r.dj i o b hi' hr
 ·rw [Tr.get_set] at h1 h2
  have old:∀ k ok bk,nx≠k→H.get k=some ok→(ρ.put nx ⟨g,0,cap⟩) k=some bk→bk.b≠g:=fun k ok bk hk h5 h6=>by
   rw [Ren.put_ne (fun e=>hk e.symm)] at h6
   obtain ⟨c,hc,_⟩:=r.ob k ok bk h5 h6
   exact hne _ _ hc
  by_cases hi1:nx=i <;> by_cases hj1:nx=j
  ·rw [← hi1,← hj1]
  ·rw [if_neg hj1] at h2
   subst hi1
   rw [Ren.put_same] at h3
   injection h3 with h3
   subst h3
   exact absurd e.symm (old j o' b' hj1 h2 h4)
  ·rw [if_neg hi1] at h1
   subst hj1
   rw [Ren.put_same] at h4
   injection h4 with h4
   subst h4
   exact absurd e (old i o b hi1 h1 h3)
  ·rw [if_neg hi1] at h1
   rw [if_neg hj1] at h2
   rw [Ren.put_ne (fun e=>hi1 e.symm)] at h3
   rw [Ren.put_ne (fun e=>hj1 e.symm)] at h4
   exact r.inj i j o o' b b' h1 h2 h3 h4 e
 ·rw [Ren.put_ne (by omega)]
  exact r.new i (by omega)
 ·rw [Tr.get_set] at h
  by_cases h':nx=g'
  ·rw [if_pos h'] at h;injection h with h;cases h
  ·rw [if_neg h'] at h;exact r.gl g' l h
 ·rw [Tr.get_set] at hi'
  by_cases h:nx=i
  ·subst h
   rw [Ren.put_same] at hr
   injection hr with hr
   subst hr
   cases hF:ρ.st g with
   | none=>exact hF
   | some x=>exact absurd rfl (hne g x (r.st _ _ hF))
  ·rw [if_neg h] at hi'
   rw [Ren.put_ne (fun e=>h e.symm)] at hr
   exact r.sd i o b hi' hr
theorem rel_ghost {E:Env} {F:Nat→Option Obj} {nx:Nat} {ρ:Ren} {H:Tr AObj} {w:World} (r:Rel E F nx ρ H.get w) {o:AObj} (ho:∀ l,o≠.glob l):Rel E F (nx + 1) ρ (H.set nx o).get w:=by
 have hi:ρ nx=none:=r.new nx (Nat.le_refl _)
 refine ⟨r.tape,r.os,r.output,r.fr,fun i o' b hi' hr=>?_,fun i o' b hi' hr=>?_,fun i j o1 o2 b b' h1 h2 h3 h4 e=>?_,fun i h=>r.new i (by omega),fun g' l h=>?_,r.bs,r.st,fun i o' b hi' hr=>?_,r.sf⟩
 ·rw [Tr.get_set] at hi'
  by_cases h:nx=i
  ·subst h;rw [hi] at hr;cases hr
  ·rw [if_neg h] at hi';exact r.ob i o' b hi' hr
 ·rw [Tr.get_set] at hi'
  by_cases h:nx=i
  ·subst h;rw [hi] at hr;cases hr
  ·rw [if_neg h] at hi';exact r.dj i o' b hi' hr
 ·rw [Tr.get_set] at h1 h2
  by_cases h:nx=i
  ·subst h;rw [hi] at h3;cases h3
  ·by_cases h':nx=j
   ·subst h';rw [hi] at h4;cases h4
   ·rw [if_neg h] at h1;rw [if_neg h'] at h2;exact r.inj i j o1 o2 b b' h1 h2 h3 h4 e
 ·rw [Tr.get_set] at h
  by_cases h':nx=g'
  ·rw [if_pos h'] at h;injection h with h;exact absurd h (ho _)
  ·rw [if_neg h'] at h;exact r.gl g' l h
 ·rw [Tr.get_set] at hi'
  by_cases h:nx=i
  ·subst h;rw [hi] at hr;cases hr
  ·rw [if_neg h] at hi';exact r.sd i o' b hi' hr
noncomputable def cloneI (el:Nat):HEnt:=fun _ nx args=>match args with
 | [.vec 1 n f]=>some (.need ((∃ S:List Int,n=S.length∧f=fun i=>intRow .i64 (S.getD i 0))∧n≤2000000) (.ret (.slg nx n 1) [(nx,.cells el .leaf (.rows 1 f) n true)] (nx + 1)))
 | _=>none
theorem hent_cloneI {P : Program} {g el : Nat} (hfn : ∃ fn c, P.funcs[g]? = some fn ∧ (fn.name == "runtime.NumGoroutine") = false ∧ fn.body = some c)
  (h1:∀ (b off n c:Nat) (zs:List Int) (w:World),n≤zs.length→n * 8≤140737488355328→(∀ j,j < zs.length→w.cell? ⟨b,off + j,none⟩=some (.int .i64 (zs.getD j 0))) →
   Calls P g #[.slice (some ⟨b,off,none⟩) n c] w fun e w'=>∃ v',e = .returned v'∧w'.ownsRow w.heap.size el 1 v' n ((zs.take n).map (Value.int .i64))∧v'≠.slice none 0 0∧RowKit.Below w.heap.size w w')
  (h2:∀ (n c:Nat) (w:World),Calls P g #[.slice none n c] w fun e w'=>e = .returned (.slice none 0 0)∧w'=w)
  (h3:∀ (a:Addr) (c:Nat) (w:World),Calls P g #[.slice (some a) 0 c] w fun e w'=>∃ v',e = .returned v'∧w'.ownsRow w.heap.size el 1 v' 0 []∧v'≠.slice none 0 0∧RowKit.Below w.heap.size w w'):HEntOK P g (cloneI el):=by
 intro H nx args hc hent p v up nx' hout E F ρ w r
 unfold cloneI at hent
 split at hent
 case h_2=>cases hent
 rename_i n f
 injection hent with hent
 subst hent
 have hneed:(@ite _ ((∃ S:List Int,n=S.length∧f=fun i=>intRow .i64 (S.getD i 0))∧n≤2000000) (Classical.propDecidable _) (some (false,AV.slg nx n 1,[(nx,AObj.cells el .leaf (.rows 1 f) n true)],nx + 1)) none)=some (p,v,up,nx'):=hout
 split at hneed
 case isFalse=>cases hneed
 rename_i hpre
 injection hneed with hneed
 injection hneed with e1 hneed
 injection hneed with e2 hneed
 injection hneed with e3 e4
 subst e1;subst e2;subst e3;subst e4
 obtain ⟨⟨S,rfl,rfl⟩,hS⟩:=hpre
 have hi:ρ nx=none:=r.new nx (Nat.le_refl _)
 have hown:∀ {w':World} {v':Value} {m:Nat},m=S.length→w'.ownsRow w.heap.size el 1 v' m (S.map (Value.int .i64))→v'≠.slice none 0 0→RowKit.Below w.heap.size w w' →
   EndsR E F nx ρ (outCR false (.slg nx S.length 1) (setL [(nx,AObj.cells el .leaf (.rows 1 fun i=>intRow .i64 (S.getD i 0)) S.length true)] H) (nx + 1)) (.returned v') w':=by
  intro w' v' m hm hrow hne hb
  subst hm
  rcases hrow.2 with ⟨hv,_⟩ | ⟨gb,cap,cur,rfl,hbase,hcur,hn,_,hsz,htake⟩
  ·exact absurd hv hne
  ·refine ⟨_,ρ.put nx ⟨gb,0,cap⟩,rfl,⟨Ren.le_put hi _,fun i hi'=>Ren.put_ne (by omega) _,Nat.le_succ _⟩,?_,?_⟩
   ·refine rel_newrowG r hb hbase hcur hn (by rw [hsz,Nat.mul_one]) fun k a hk ha=>?_
    rw [Nat.div_one,Nat.mod_one] at ha
    injection ha with ha
    subst ha
    rw [Nat.mul_one] at htake
    have h1:=congrArg (fun l=>l[k]?) htake
    simp only [List.getElem?_take,List.getElem?_map,if_pos hk,List.getElem?_eq_getElem hk,Option.map_some,Array.getElem?_toList] at h1
    refine ⟨_,h1,?_⟩
    rw [List.getD_eq_getElem?_getD,List.getElem?_eq_getElem hk]
    exact .int _ _
   ·show VR (ρ.put nx ⟨gb,0,cap⟩) (.slg nx S.length 1) (.slice (some ⟨gb,0,none⟩) S.length cap)
    rw [show VR (ρ.put nx ⟨gb,0,cap⟩) (.slg nx S.length 1) (.slice (some ⟨gb,0,none⟩) S.length cap)=VR (ρ.put nx ⟨gb,0,cap⟩) (.slg nx S.length 1) (.slice (some ⟨gb,0,none⟩) S.length (cap / 1)) from by rw [Nat.div_one]]
    exact .slg nx S.length 1 ⟨gb,0,cap⟩ (Ren.put_same ρ nx _) Nat.one_pos (by show S.length * 1≤cap;omega)
 refine ⟨hfn,fun vs hvs=>callsIn_wide.2 ?_⟩
 cases hvs with
 | cons _ u _ us hu hus =>
 cases hus
 cases hu with
 | vec _ _ _ b o cap cs el' fz gg hs he hcap hv hcc =>
  have hcell:∀ j,j < S.length→w.cell? ⟨b,o + j,none⟩=some (.int .i64 (S.getD j 0)):=fun j hj=>by
   have h5:=hv j hj
   generalize hgj:gg j=l5 at h5
   cases h5 with
   | cons _ v5 _ _ h6 h7 =>
    cases h7
    cases h6
    have:=hcc j hj 0 _ (by rw [hgj];rfl)
    simp only [World.cell?,r.st _ _ hs]
    simpa using this
  refine (h1 b o S.length cap S w (Nat.le_refl _) (by omega) hcell).mono fun e w' ⟨v',he',hrow,hne,hb⟩=>?_
  subst he'
  rw [List.take_length] at hrow
  exact hown rfl hrow hne hb
 | vecz _ _ _ h0 base cap =>
  have hS0:S=[]:=List.length_eq_zero_iff.1 h0
  cases base with
  | none =>
   refine (h2 0 cap w).mono fun e w' ⟨he',hw⟩=>?_
   subst he';subst hw
   refine ⟨_,ρ,rfl,⟨Ren.le_refl _,fun i hi'=>rfl,Nat.le_succ _⟩,rel_ghost r (fun l h=>by cases h),?_⟩
   rw [hS0]
   exact .slg0 nx 0 1 rfl none
  | some a =>
   refine (h3 a cap w).mono fun e w' ⟨v',he',hrow,hne,hb⟩=>?_
   subst he'
   exact hown (m:=0) h0.symm (by rw [hS0];exact hrow) hne hb
def VA (a b:AV):Prop:=∀ ρ v,VR ρ a v→VR ρ b v
def VAL (l m:List AV):Prop:=∀ ρ vs,VRL ρ l vs→VRL ρ m vs
theorem val_nil:VAL [] []:=fun _ _ h=>h
theorem val_refl (l:List AV):VAL l l:=fun _ _ h=>h
theorem val_cons {a b:AV} {l m:List AV} (h:VA a b) (hs:VAL l m):VAL (a :: l) (b :: m):=fun ρ vs hv=>by
 cases hv with
 | cons _ _ _ _ h1 h2=>exact .cons _ _ _ _ (h _ _ h1) (hs _ _ h2)
theorem va_vec {e n:Nat} {f g:Nat→List AV} (h:∀ i,i < n→VAL (f i) (g i)):VA (.vec e n f) (.vec e n g):=fun ρ v hv=>by
 cases hv with
 | vec _ _ _ b o cap cs el fz gg hs he hcap hvv hc=>exact .vec _ _ _ b o cap cs el fz gg hs he hcap (fun i hi=>h i hi _ _ (hvv i hi)) hc
 | vecz _ _ _ h0 base cap=>exact .vecz _ _ _ h0 base cap
theorem va_vecE {e n m:Nat} {f g:Nat→List AV} (hn:n=m) (h:∀ i,i < n→f i=g i):VA (.vec e n f) (.vec e m g):=by
 subst hn
 exact va_vec fun i hi=>by rw [h i hi];exact val_refl _
theorem ent_any {P:Program} {g:FuncId} {ent:Tr AObj→List AV→Option Ct} {gl:List (Nat×AObj)} {ng:Nat} (hgl:∀ p∈gl,isGl p.2=true)
  (h:∀ H args ct,ent H args=some ct→(∀ p∈gl,H.get p.1=some p.2)∧∃ pre v,ct = .need pre (.ret v)∧(pre→∃ args',VAL args args'∧vmL [] args' args' ∧
   ∃ (cx:Ctx) (n:Nat),cx.P=P∧P.follows .mixedOrders=true∧TbOK P cx.tb∧(cRun cx n).call g args' (mkH gl) ng (ResM P false v))):EntOK P g ent:=by
 intro H args ct hct p v hout
 obtain ⟨h1,pre,v',rfl,h2⟩:=h H args ct hct
 obtain ⟨hp,rfl,rfl⟩:=ctOut_need hout
 obtain ⟨args',h3,h4,cx,n,h5,h6,h7,h8⟩:=h2 hp
 classical
 have key:EntOK P g (fun H' a'=>if H'=H∧a'=args' then some (.need True (.ret v')) else none):=ent_of hgl fun H' a' ct' hct'=>by
  by_cases hh:H'=H∧a'=args'
  ·rw [if_pos hh] at hct'
   injection hct' with hct'
   obtain ⟨rfl,rfl⟩:=hh
   exact ⟨h1,h4,True,v',hct'.symm,fun _=>⟨cx,n,h5,h6,h7,h8⟩⟩
  ·rw [if_neg hh] at hct';cases hct'
 intro E F ρ w nx H' hG r
 have:=key H args' _ (if_pos ⟨rfl,rfl⟩) false v' (by show (@ite _ True (Classical.propDecidable _) (some (false,v')) none)=_;exact if_pos trivial) E F ρ w nx H' hG r
 exact ⟨this.1,fun vs hvs=>this.2 vs (h3 _ _ hvs)⟩
theorem ent_callsW {P:Program} {g:FuncId} {ent:Tr AObj→List AV→Option Ct} (hent:EntOK P g ent) {args:List AV} {ct:Ct} {v:AV} (hct:ent .leaf args=some ct)
  (hout:ctOut ct=some (false,v)) {W:World} {vs:List Value} (hvs:VRL (Go.Ev.wRen W) args vs) :
  Calls P g vs.toArray W fun e w'=>∃ u ρ',e = .returned u∧VR ρ' v u∧(∀ b o,ρ'.st b=some o→w'.heap[b]? = some o)∧Below W.heap.size W w':=by
 have r:Rel ⟨W.tape,W.os,W.output,fun b=>W.heap[b]?,fun _=>true⟩ (fun b=>W.heap[b]?) 0 (Go.Ev.wRen W) (Tr.leaf:Tr AObj).get W :=
  ⟨rfl,rfl,rfl,fun b o hb=>hb,fun i o b hi=>(by rw [Tr.get_leaf] at hi;cases hi),fun i o b hi=>(by rw [Tr.get_leaf] at hi;cases hi),
   fun i j o o' b b' hi=>(by rw [Tr.get_leaf] at hi;cases hi),fun _ _=>rfl,fun i o hi=>(by rw [Tr.get_leaf] at hi;cases hi),fun _ _ h=>h,fun _ _ h=>h,fun i o b hi=>(by rw [Tr.get_leaf] at hi;cases hi),fun _ _ _ _ _=>rfl⟩
 have hcall:=hent .leaf args ct hct false v hout ⟨W.tape,W.os,W.output,fun b=>W.heap[b]?,fun _=>true⟩ _ _ W 0 .leaf (fun g l h=>by rw [Tr.get_leaf] at h;cases h) r
 have hc':Calls P g vs.toArray W _:=callsIn_wide.1 (hcall.2 vs hvs)
 refine hc'.mono fun e w' hE=>?_
 obtain ⟨u,ρ',he,_,hr,hv⟩:=hE
 refine ⟨u,ρ',he,hv,hr.st,hr.os,hr.tape,hr.output,?_,fun k hk=>?_⟩
 ·by_cases h0:W.heap.size=0
  ·omega
  ·have hlt:W.heap.size - 1 < W.heap.size:=by omega
   have:=hr.fr (W.heap.size - 1) _ (Array.getElem?_eq_getElem hlt)
   have:=lt_of_heap this
   omega
 ·rw [Array.getElem?_eq_getElem hk]
  exact hr.fr k _ (Array.getElem?_eq_getElem hk)
end Go.Ev
end
section
/- The symbolic layer, part 3: arguments from outside, with a measure of how much they are. -/
namespace Go.Ev
open Go.RowKit
def sm {α:Type} (f:α→Nat):List α→Nat
 | []=>0
 | a :: l=>f a + sm f l
theorem sm_mem {α:Type} {f:α→Nat}:∀ {l:List α} {a:α},a∈l→f a≤sm f l
 | x :: l,a,h=>by
  rcases List.mem_cons.1 h with rfl | h
  ·exact Nat.le_add_right _ _
  ·have:=sm_mem (f:=f) h;show f a≤f x + sm f l;omega
theorem sm_len {α:Type} {f:α→Nat} (h:∀ a,1≤f a):∀ l:List α,l.length≤sm f l
 | []=>Nat.le_refl _
 | x :: l=>by have:=sm_len h l;have:=h x;show l.length + 1≤f x + sm f l;omega
theorem sm_map {α β:Type} {n:Nat} {f:α→Nat} {g:β→Nat} (k:Nat→α) (e:Nat→β) (h:∀ i,i < n→f (k i)≤g (e i)):sm f ((List.range n).map k)≤sm g ((List.range n).map e):=by
 have gen:∀ l:List Nat,(∀ i∈l,f (k i)≤g (e i))→sm f (l.map k)≤sm g (l.map e):=fun l=>by
  induction l with
  | nil=>intro _;exact Nat.le_refl _
  | cons x l ih =>
   intro hl
   have h1:=hl x (List.mem_cons_self ..)
   have h2:=ih fun i hi=>hl i (List.mem_cons_of_mem _ hi)
   show f (k x) + sm f (l.map k)≤g (e x) + sm g (l.map e)
   omega
 exact gen _ fun i hi=>h i (List.mem_range.1 hi)
structure Meas {H:Type} (μ:DataW H→Nat):Prop where
 one:∀ d,1≤μ d
 sl:∀ e r,sm μ e + 1≤μ (.slice e r)
 ag:∀ l,sm μ l + 1≤μ (.agg l)
theorem vec_argM {α:Type} {row:α→List AV} {sz:α→Nat} {d:α} {esz:Nat} (he:0 < esz) {H:Type} {enc:TypeId×Value→H} {μ:DataW H→Nat} (hμ:Meas μ) {P:Program} {w:World} {t e n:Nat} {v:Value} {x:DataW H×List MemPlace}
  (ht:P.underlying t=some (.slice e)) (hc:P.cellsOf e=esz) (hrow:∀ cs m x,DataW.trod enc P w 0 (fun _=>true) true m e cs=some x→∃ a:α,VRL (wRen w) (row a) cs∧sz a≤μ x.1)
  (h:DataW.trod enc P w 0 (fun _=>true) true n t [v]=some x):∃ l:List α,VR (wRen w) (.vec esz l.length fun k=>row (l.getD k d)) v∧sm sz l + 1≤μ x.1:=by
 rcases DataW.trod_slice ht h with ⟨hcs,rfl⟩ | ⟨a,len,cap,elems,rest,m,_,hcs,rfl,_,hl,hm,hel,hget,_,_⟩
 ·injection hcs with hv _
  subst hv
  exact ⟨[],.vecz _ _ _ rfl _ _,hμ.one _⟩
 ·injection hcs with hv _
  subst hv
  have hlast:=hμ.sl (elems.map (·.1)) (rest.map (·.1))
  by_cases h0:len=0
  ·subst h0;exact ⟨[],.vecz _ _ _ rfl _ _,by show 0 + 1≤_;exact Nat.le_trans (Nat.le_add_left _ _) hlast⟩
  ·have key:∀ i,∃ y:α×List Value,i < len→w.cells? 0 (a.add (i * esz)) esz=some y.2∧VRL (wRen w) (row y.1) y.2∧sz y.1≤μ ((elems.getD i (.nil,[])).1):=fun i=>by
    by_cases hi:i < len
    ·have h1:=hget i hi
     have hie:i < elems.length:=by omega
     rw [hc,List.getElem?_eq_getElem hie] at h1
     obtain ⟨cs,h2,h3⟩:=Option.bind_eq_some_iff.1 h1
     obtain ⟨y,hy,hz⟩:=hrow cs _ _ h3
     exact ⟨(y,cs),fun _=>⟨h2,hy,by rw [List.getD_eq_getElem?_getD,List.getElem?_eq_getElem hie];exact hz⟩⟩
    ·exact ⟨(d,[]),fun h=>absurd h hi⟩
   let fn:Nat→α:=fun i=>(Classical.choose (key i)).1
   let gn:Nat→List Value:=fun i=>(Classical.choose (key i)).2
   have hfn:∀ i,i < len→w.cells? 0 (a.add (i * esz)) esz=some (gn i):=fun i hi=>(Classical.choose_spec (key i) hi).1
   have hrn:∀ i,i < len→VRL (wRen w) (row (fn i)) (gn i):=fun i hi=>(Classical.choose_spec (key i) hi).2.1
   have hsz:∀ i,i < len→sz (fn i)≤μ ((elems.getD i (.nil,[])).1):=fun i hi=>(Classical.choose_spec (key i) hi).2.2
   have hlen:∀ i,i < len→(gn i).length=esz:=fun i hi=>(World.cells?_some (hfn i hi)).2.1
   have hcell:∀ i,i < len→∀ j,j < esz→w.cell? ((a.add (i * esz)).add j)=(gn i)[j]?:=fun i hi j hj=>(World.cells?_some (hfn i hi)).2.2 j hj
   have h00:=hcell 0 (by omega) 0 he
   rw [Nat.zero_mul] at h00
   have hv0:(gn 0)[0]? = some ((gn 0)[0]'(by rw [hlen 0 (by omega)];exact he)):=List.getElem?_eq_getElem _
   rw [hv0] at h00
   have hs:a.spot=none:=by simpa [Addr.add] using World.cell?_spot h00
   obtain ⟨b,o,s⟩:=a
   simp only at hs
   subst hs
   rw [addr_off,addr_off] at h00
   have hob:∃ cs el fz,w.heap[b]? = some (.cells cs el fz):=by
    simp only [World.cell?] at h00
    split at h00
    ·exact ⟨_,_,_,by assumption⟩
    ·cases h00
   obtain ⟨cs,el,fz,hh⟩:=hob
   have hll:((List.range len).map fn).length=len:=by simp
   have hgd:∀ i,i < len→((List.range len).map fn).getD i d=fn i:=fun i hi=>by simp [List.getD_eq_getElem?_getD,hi]
   have hel2:elems.map (·.1)=(List.range len).map fun i=>(elems.getD i (.nil,[])).1:=by
    apply List.ext_getElem
    ·simp [hel]
    ·intro i h1 h2
     simp at h1 ⊢
     simp [h1]
   refine ⟨(List.range len).map fn,?_,?_⟩
   ·rw [hll]
    refine .vec esz len _ b o cap cs el fz gn hh he hl (fun i hi=>?_) fun i hi j u hj=>?_
    ·rw [hgd i hi];exact hrn i hi
    ·have hj':j < esz:=by rw [← hlen i hi];exact (List.getElem?_eq_some_iff.1 hj).1
     have h1:=hcell i hi j hj'
     rw [hj,addr_off,addr_off] at h1
     simp only [World.cell?,hh] at h1
     simpa using h1
   ·have h5:=sm_map (n:=len) (f:=sz) (g:=μ) fn (fun i=>(elems.getD i (.nil,[])).1) hsz
    rw [hel2] at hlast
    show _≤μ (DataW.slice (elems.map (·.1)) (rest.map (·.1)))
    rw [hel2]
    omega
end Go.Ev
end
