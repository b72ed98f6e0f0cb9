/- Laid by program out of its parts: Sx2, Sx4, SxW, Sx5, Sx6, SxTb. -/
import Derived.Test.YtlmmbanfhjaioaaDoorMj
import Derived.Test.YtlmmbanfhjaioaaDoorMe
import Derived.Test.YtlmmbanfhjaioaaDoorMf
set_option linter.unusedVariables false
set_option linter.unusedSimpArgs false
section
/- The symbolic layer, part 2: slices.Clone of whole numbers, as a contract of calls that turn objects. -/
namespace Go.Ev
open Go.RowKit Go.Sort Go.Proofs
def VA (a b:AV):Prop:=∀ ρ v,VR ρ a v→VR ρ b v
def VAL (l m:List AV):Prop:=∀ ρ vs,VRL ρ l vs→VRL ρ m vs
theorem va_refl (a:AV):VA a a:=fun _ _ h=>h
theorem Zkv:VAL [] []:=fun _ _ h=>h
theorem Zbs (l:List AV):VAL l l:=fun _ _ h=>h
theorem Zh9 {a b:AV} {l m:List AV} (h:VA a b) (hs:VAL l m):VAL (a :: l) (b :: m):=fun ρ vs hv=>by
 cases hv with
 | cons _ _ _ _ h1 h2=>exact .cons _ _ _ _ (h _ _ h1) (hs _ _ h2)
theorem va_vec {e n:Nat} {f g:Nat→List AV} (h:∀ i,i < n→VAL (f i) (g i)):VA (.vec e n f) (.vec e n g):=fun ρ v hv=>by
 cases hv with
 | vec _ _ _ b o cap cs el fz gg hs he hcap hvv hc=>exact .vec _ _ _ b o cap cs el fz gg hs he hcap (fun i hi=>h i hi _ _ (hvv i hi)) hc
 | vecz _ _ _ h0 base cap=>exact .vecz _ _ _ h0 base cap
theorem va_vecE {e n m:Nat} {f g:Nat→List AV} (hn:n=m) (h:∀ i,i < n→f i=g i):VA (.vec e n f) (.vec e m g):=by
 subst hn
 exact va_vec fun i hi=>by rw [h i hi];exact Zbs _
theorem va_str (n m:Nat):VA (.str n m) (.bs (bytesL n m)):=fun ρ v hv=>by cases hv;exact .bs _
theorem Zkx {P:Program} {g:FuncId} {ent:Tr AObj→List AV→Option Ct} {gl:List (Nat×AObj)} {ng:Nat} (hgl:∀ p∈gl,isGl p.2=true)
  (h:∀ H args ct,ent H args=some ct→(∀ p∈gl,H.get p.1=some p.2)∧∃ pre v,ct = .need pre (.ret v)∧(pre→∃ args',VAL args args'∧vmL [] args' args' ∧
   ∃ (cx:Ctx) (n:Nat),cx.P=P∧P.follows .mixedOrders=true∧TbOK P cx.tb∧(cRun cx n).call g args' (mkH gl) ng (ResM P false v))):EntOK P g ent:=by
 intro H args ct hct p v hout
 obtain ⟨h1,pre,v',rfl,h2⟩:=h H args ct hct
 obtain ⟨hp,rfl,rfl⟩:=Zbk hout
 obtain ⟨args',h3,h4,cx,n,h5,h6,h7,h8⟩:=h2 hp
 classical
 have key:EntOK P g (fun H' a'=>if H'=H∧a'=args' then some (.need True (.ret v')) else none):=QW hgl fun H' a' ct' hct'=>by
  by_cases hh:H'=H∧a'=args'
  ·rw [if_pos hh] at hct'
   injection hct' with hct'
   obtain ⟨rfl,rfl⟩:=hh
   exact ⟨h1,h4,True,v',hct'.symm,fun _=>⟨cx,n,h5,h6,h7,h8⟩⟩
  ·rw [if_neg hh] at hct';cases hct'
 intro E F ρ w nx H' hG r
 have:=key H args' _ (if_pos ⟨rfl,rfl⟩) false v' (by show (@ite _ True (Classical.propDecidable _) (some (false,v')) none)=_;exact if_pos trivial) E F ρ w nx H' hG r
 exact ⟨this.1,fun vs hvs=>this.2 vs (h3 _ _ hvs)⟩
end Go.Ev
end
section
/- The symbolic layer, part 4: contracts of contents where own rows are handed on (they stay as they are); maps of whole numbers, rows in them, by content. -/
namespace Go.Ev
open Go.RowKit
theorem Xn {pre:Prop} {t:HCt} {x:Bool×AV×List (Nat×AObj)×Nat} (h:hOut (.need pre t)=some x):pre∧hOut t=some x:=by
 have ho:(open Classical in if pre then hOut t else none)=some x:=h
 by_cases hp:pre
 ·rw [if_pos hp] at ho;exact ⟨hp,ho⟩
 ·rw [if_neg hp] at ho;cases ho
end Go.Ev
end
section
/- The symbolic layer, part W: a run over objects of its own numbering, as a contract of calls that turn objects. -/
namespace Go.Ev
open Go.RowKit
noncomputable def rnF (τ:Nat→Nat) (k:Nat):AV→AV :=
 Nat.rec (motive:=fun _=>AV→AV) (fun a=>a) (fun _ ih a=>match a with
  | .ptr i o=>.ptr (τ i) o
  | .sl i a b c=>.sl (τ i) a b c
  | .slo i a b c=>.slo (τ i) a b c
  | .sle i=>.sle (τ i)
  | .map i=>.map (τ i)
  | .slg i n e=>.slg (τ i) n e
  | .fn f l m=>.fn f (l.map ih) (m.map ih)
  | .iface t v=>.iface t (ih v)
  | .agg l=>.agg (l.map ih)
  | .tup l=>.tup (l.map ih)
  | a=>a) k
def clF (k:Nat):AV→Prop :=
 Nat.rec (motive:=fun _=>AV→Prop) (fun _=>False) (fun _ ih a=>match a with
  | .ptr _ _=>True
  | .sl _ _ _ _=>True
  | .slo _ _ _ _=>True
  | .sle _=>True
  | .map _=>True
  | .slg _ _ _=>True
  | .fn _ l m=>(∀ a∈l,ih a)∧∀ a∈m,ih a
  | .iface _ v=>ih v
  | .agg l=>∀ a∈l,ih a
  | .tup l=>∀ a∈l,ih a
  | a=>vmP [] a a) k
theorem QJ {ρ1 ρ2:Ren} {f:AV→AV}:∀ {l:List AV} {vs:List Value},(∀ a∈l,∀ v,VR ρ1 a v→VR ρ2 (f a) v)→VRL ρ1 l vs→VRL ρ2 (l.map f) vs
 | [],_,_,.nil=>.nil
 | a :: l,_,h,.cons _ v _ vs h1 hs=>.cons _ _ _ _ (h a (List.mem_cons_self ..) v h1) (QJ (l:=l) (fun b hb=>h b (List.mem_cons_of_mem _ hb)) hs)
theorem Zfr {ρ1 ρ2:Ren} {τ:Nat→Nat} (hτ:∀ i b,ρ1 i=some b→ρ2 (τ i)=some b) (hst:∀ b o,ρ1.st b=some o→ρ2.st b=some o):∀ (k:Nat) (a:AV) (v:Value),clF k a→VR ρ1 a v→VR ρ2 (rnF τ k a) v
 | 0,a,v,h,_=>h.elim
 | k + 1,a,v,hc,h=>by
  have ih:=Zfr hτ hst k
  have cont:vmP [] a a→rnF τ (k + 1) a=a→VR ρ2 (rnF τ (k + 1) a) v:=fun h1 h2=>by
   rw [h2];exact XU (Kw hst) _ _ _ h1 h
  cases a with
  | ptr i o=>cases h with | ptr _ _ b hb=>exact .ptr _ _ b (hτ _ _ hb)
  | sl i x y z=>cases h with | sl _ _ _ _ b hb=>exact .sl _ _ _ _ b (hτ _ _ hb)
  | slo i x y z=>cases h with | slo _ _ _ _ b hb he hl=>exact .slo _ _ _ _ b (hτ _ _ hb) he hl
  | sle i=>cases h with | sle _ b o c hb=>exact .sle _ b o c (hτ _ _ hb)
  | map i=>cases h with | map _ b hb=>exact .map _ b (hτ _ _ hb)
  | slg i n e =>
   cases h with
   | slg _ _ _ b hb he hl=>exact .slg _ _ _ b (hτ _ _ hb) he hl
   | slg0 _ _ _ hn base=>exact .slg0 _ _ _ hn base
  | fn f l m =>
   obtain ⟨h1,h2⟩:=hc
   cases h with
   | fn _ _ _ va vc ha hcc=>exact .fn f _ _ va vc (QJ (fun a ha v hv=>ih a v (h1 a ha) hv) ha) (QJ (fun a ha v hv=>ih a v (h2 a ha) hv) hcc)
  | iface t x=>cases h with | iface _ _ u hu=>exact .iface t _ u (ih x u hc hu)
  | agg l=>cases h with | agg _ vs hvs=>exact .agg _ vs (QJ (fun a ha v hv=>ih a v (hc a ha) hv) hvs)
  | tup l=>cases h with | tup _ vs hvs=>exact .tup _ vs (QJ (fun a ha v hv=>ih a v (hc a ha) hv) hvs)
  | _=>exact cont hc rfl
noncomputable def rnO (τ:Nat→Nat) (o:AObj):AObj:=match o with
 | .cells el .leaf (.per l) n op=>.cells el .leaf (.per (l.map (rnF τ 4))) n op
 | o=>o
def clO (o:AObj):Prop:=match o with
 | .cells _ .leaf (.per l) _ _=>∀ a∈l,clF 4 a
 | .cells _ .leaf (.rows e f) n _=>∀ i,i * e < n→vmL [] (f i) (f i)
 | .miter _ _ _ _=>True
 | _=>False
theorem rnO_rel {ρ1 ρ2:Ren} {τ:Nat→Nat} (hτ:∀ i b,ρ1 i=some b→ρ2 (τ i)=some b) (hst:∀ b o,ρ1.st b=some o→ρ2.st b=some o) {b:Blk} {a:AObj} {o:Obj} (hg:isGone a=false) (hc:clO a) (h:OR ρ1 b a o):OR ρ2 b (rnO τ a) o:=by
 unfold clO at hc
 split at hc
 ·rename_i el l n op
  cases h with
  | cells _ _ _ _ _ cs fz hsize hn hop hfz hcell =>
   refine .cells _ _ _ _ _ cs fz hsize hn hop hfz fun k a hk ha=>?_
   rw [Zx] at ha
   have ha':(l.map (rnF τ 4))[k % (l.map (rnF τ 4)).length]? = some a:=ha
   rw [List.length_map,List.getElem?_map,Option.map_eq_some_iff] at ha'
   obtain ⟨x,hx,rfl⟩:=ha'
   obtain ⟨v,h1,h2⟩:=hcell k x hk (by rw [Zx];exact hx)
   exact ⟨v,h1,Zfr hτ hst 4 x v (hc x (List.mem_of_getElem? hx)) h2⟩
 ·rename_i el e f n op
  cases h with
  | cells _ _ _ _ _ cs fz hsize hn hop hfz hcell =>
   refine .cells _ _ _ _ _ cs fz hsize hn hop hfz fun k a hk ha=>?_
   obtain ⟨v,h1,h2⟩:=hcell k a hk ha
   rw [Zx] at ha
   have ha':(f (k / e))[k % e]? = some a:=ha
   have hlt:k / e * e < n:=Nat.lt_of_le_of_lt (Nat.div_mul_le_self k e) hk
   obtain ⟨b',hb',hm⟩:=Zfk (hc _ hlt) _ _ ha'
   rw [ha'] at hb'
   injection hb' with hb';subst hb'
   exact ⟨v,h1,XU (Kw hst) _ _ _ hm h2⟩
 ·cases hg
 ·exact hc.elim
noncomputable def numL (l:List AObj):Nat→List (Nat×AObj):=List.rec (motive:=fun _=>Nat→List (Nat×AObj)) (fun _=>[]) (fun o _ ih n=>(n,o) :: fN (n + 1) ih) l
theorem Gb (o:AObj) (l:List AObj) (n:Nat):numL (o :: l) n=(n,o) :: numL l (n + 1):=by
 show (n,o) :: fN (n + 1) (numL l)=_
 rw [Zt]
theorem Zh2:∀ {l:List AObj} {n i:Nat} {o:AObj},(i,o)∈numL l n→∃ j,i=n + j∧l[j]? = some o
 | [],n,i,o,h=>by cases h
 | x :: l,n,i,o,h=>by
  rw [Gb] at h
  rcases List.mem_cons.1 h with h | h
  ·injection h with h1 h2
   exact ⟨0,h1,by rw [h2];rfl⟩
  ·obtain ⟨j,h1,h2⟩:=Zh2 h
   exact ⟨j + 1,by omega,h2⟩
theorem Zh8:∀ (l:List AObj) (n j:Nat),(mkH (numL l n)).get (n + j)=l[j]?
 | [],n,j=>by
  show (Tr.leaf:Tr AObj).get _=_
  rw [Tr.get_leaf];rfl
 | o :: l,n,j=>by
  rw [Gb]
  show ((mkH (numL l (n + 1))).set n o).get (n + j)=_
  rw [Tr.get_set]
  cases j with
  | zero=>rw [if_pos (by omega)];rfl
  | succ j =>
   rw [if_neg (by omega),show n + (j + 1)=(n + 1) + j by omega,Zh8 l (n + 1) j];rfl
noncomputable def liveL (l:List (Nat×AObj)):List (Nat×AObj):=List.rec (motive:=fun _=>List (Nat×AObj)) [] (fun p _ ih=>cond (isGone p.2) ih (p :: ih)) l
theorem Vr:∀ (l:List AObj) (n j:Nat) {o:AObj},l[j]? = some o→isGone o=false→(mkH (liveL (numL l n))).get (n + j)=some o
 | [],n,j,o,h,_=>by cases h
 | x :: l,n,j,o,h,hg=>by
  rw [Gb]
  show (mkH (cond (isGone x) (liveL (numL l (n + 1))) ((n,x) :: liveL (numL l (n + 1))))).get (n + j)=_
  cases j with
  | zero =>
   injection h with h;subst h
   rw [hg,cond_false]
   exact Tr.get_set_same _ _ _
  | succ j =>
   have ih:=Vr l (n + 1) j (o:=o) h hg
   rw [show n + 1 + j=n + (j + 1) by omega] at ih
   cases hx:isGone x with
   | true=>rw [cond_true];exact ih
   | false =>
    rw [cond_false]
    show ((mkH (liveL (numL l (n + 1)))).set n x).get (n + (j + 1))=_
    rw [Tr.get_set_ne _ (by omega)];exact ih
noncomputable def zipN (ids:List Nat):Nat→List (Nat×Nat):=List.rec (motive:=fun _=>Nat→List (Nat×Nat)) (fun _=>[]) (fun i _ ih n=>(n,i) :: fN (n + 1) ih) ids
theorem Zd8 (i:Nat) (l:List Nat) (n:Nat):zipN (i :: l) n=(n,i) :: zipN l (n + 1):=by
 show (n,i) :: fN (n + 1) (zipN l)=_
 rw [Zt]
theorem UN:∀ (ids:List Nat) (n c:Nat),sg (zipN ids n) c=if n≤c then ids[c - n]? else none
 | [],n,c=>by
  show none=_
  split <;> simp
 | i :: l,n,c=>by
  rw [Zd8]
  show cond (Nat.beq n c) (some i) (sg (zipN l (n + 1)) c)=_
  cases hb:Nat.beq n c with
  | true =>
   have:=Nat.eq_of_beq_eq_true hb
   subst this
   simp
  | false =>
   have hne:n≠c:=fun e=>by subst e;rw [Nat.beq_refl] at hb;cases hb
   rw [cond_false,UN l (n + 1) c]
   by_cases h1:n≤c
   ·rw [if_pos (by omega),if_pos h1,show c - n=(c - (n + 1)) + 1 by omega];rfl
   ·rw [if_neg (by omega),if_neg h1]
theorem WB {H:Tr AObj}:∀ {l:List (Nat×AObj)} {i:Nat} {o:AObj},(setL l H).get i=some o→((i,o)∈l∧isGone o=false)∨((∀ o',(i,o') ∉ l)∧H.get i=some o)
 | [],i,o,h=>.inr ⟨fun _ h=>(by cases h),h⟩
 | p :: l,i,o,h=>by
  have h':(cond (isGone p.2) ((setL l H).del p.1) ((setL l H).set p.1 p.2)).get i=some o:=h
  by_cases hi:p.1=i
  ·cases hg:isGone p.2 with
   | true =>
    rw [hg,cond_true,Tr.get_del,if_pos hi] at h'
    cases h'
   | false =>
    rw [hg,cond_false,Tr.get_set,if_pos hi] at h'
    injection h' with h'
    exact .inl ⟨by rw [← hi,← h'];exact List.mem_cons_self ..,by rw [← h'];exact hg⟩
  ·have h':(setL l H).get i=some o:=by
    cases hg:isGone p.2 with
    | true=>rw [hg,cond_true,Tr.get_del,if_neg hi] at h';exact h'
    | false=>rw [hg,cond_false,Tr.get_set,if_neg hi] at h';exact h'
   rcases WB h' with ⟨h1,h0⟩ | ⟨h1,h2⟩
   ·exact .inl ⟨List.mem_cons_of_mem _ h1,h0⟩
   ·exact .inr ⟨fun o' ho=>by
     rcases List.mem_cons.1 ho with e | ho
     ·exact hi (by rw [← e])
     ·exact h1 o' ho,h2⟩
noncomputable def tauN (ng:Nat) (ts:List Nat) (c:Nat):Nat:=cond (Nat.ble ng c) (ts.getD (c - ng) c) c
open Classical in
noncomputable def frameF (ρ:Ren) (w:World) (ids:List Nat):Nat→Option Obj:=fun b=>if ∃ id∈ids,∃ blk,ρ id=some blk∧blk.b=b then none else w.heap[b]?
theorem gone_rnO (τ:Nat→Nat) (o:AObj):isGone (rnO τ o)=isGone o:=by
 unfold rnO;split <;> rfl
theorem Zl7 {E:Env} {F:Nat→Option Obj} {nx:Nat} {ρ:Ren} {H:Tr AObj} {w w':World} (r:Rel E F nx ρ H.get w) {ids:List Nat} (hids:∀ id∈ids,∃ o,H.get id=some o) (hlt:∀ id∈ids,id < nx)
  {ng m:Nat} {os:List AObj} (hlen:os.length=ids.length + m) (hcl:∀ o∈os,clO o) {ρ3:Ren} (r3:Rel (guardE E ρ) (frameF ρ w ids) (ng + ids.length + m) ρ3 (mkH (liveL (numL os ng))).get w')
  (hst:∀ b o,ρ.st b=some o→ρ3.st b=some o) (hlo:∀ i,i < ng + ids.length→ρ3 i=renS (zipN ids ng) ρ i) :
  ∃ ρ',RX nx (nx + m) ρ ρ'∧Rel E F (nx + m) ρ' (setL ((ids ++ List.range' nx m).zip (os.map (rnO (tauN ng (ids ++ List.range' nx m))))) H).get w' ∧
   (∀ i b,ρ3 i=some b→ρ' (tauN ng (ids ++ List.range' nx m) i)=some b)∧∀ b o,ρ3.st b=some o→ρ'.st b=some o:=by
 have hts:(ids ++ List.range' nx m).length=ids.length + m:=by simp
 have htl:∀ j,j < ids.length→(ids ++ List.range' nx m)[j]? = ids[j]?:=fun j hj=>by rw [List.getElem?_append_left hj]
 have htr:∀ j,ids.length≤j→j < ids.length + m→(ids ++ List.range' nx m)[j]? = some (nx + (j - ids.length)):=fun j h1 h2=>by
  rw [List.getElem?_append_right h1,List.getElem?_range' (by omega)];simp
 generalize hT:ids ++ List.range' nx m=ts at hts htl htr
 let ρ':Ren:=⟨fun j=>if nx≤j∧j < nx + m then ρ3 (ng + ids.length + (j - nx)) else ρ j,ρ3.st⟩
 have hnew:∀ j,nx≤j→j < nx + m→ρ' j=ρ3 (ng + ids.length + (j - nx)):=fun j h1 h2=>if_pos ⟨h1,h2⟩
 have hold:∀ j,¬ (nx≤j∧j < nx + m)→ρ' j=ρ j:=fun j h=>if_neg h
 have hsg:∀ j,j < ids.length→renS (zipN ids ng) ρ (ng + j)=(ids[j]?).bind ρ.nm:=fun j hj=>by
  show (sg (zipN ids ng) (ng + j)).bind ρ.nm=_
  rw [UN,if_pos (by omega),Nat.add_sub_cancel_left]
 have hplace:∀ j t,ts[j]? = some t→ρ' t=ρ3 (ng + j)∧(j < ids.length→t∈ids):=fun j t ht=>by
  have hj:j < ids.length + m:=by rw [← hts];exact (List.getElem?_eq_some_iff.1 ht).1
  by_cases h1:j < ids.length
  ·rw [htl j h1] at ht
   have hm:=List.mem_of_getElem? ht
   have:=hlt t hm
   refine ⟨?_,fun _=>hm⟩
   rw [hold t (by omega),hlo (ng + j) (by omega),hsg j h1,ht];rfl
  ·rw [htr j (by omega) hj] at ht
   injection ht with ht
   subst ht
   refine ⟨?_,fun h=>absurd h h1⟩
   rw [hnew _ (by omega) (by omega)]
   congr 1;omega
 have hτ:∀ i b,ρ3 i=some b→ρ' (tauN ng ts i)=some b:=fun i b hb=>by
  have hi1:i < ng + ids.length + m:=by
   rcases Nat.lt_or_ge i (ng + ids.length + m) with h | h
   ·exact h
   ·rw [r3.new i h] at hb;cases hb
  have hi2:ng≤i:=by
   rcases Nat.lt_or_ge i ng with h | h
   ·rw [hlo i (by omega)] at hb
    have hb':(sg (zipN ids ng) i).bind ρ.nm=some b:=hb
    rw [UN,if_neg (by omega)] at hb';cases hb'
   ·exact h
  obtain ⟨j,rfl⟩:∃ j,i=ng + j:=⟨i - ng,by omega⟩
  have hjl:j < ts.length:=by rw [hts];omega
  have ht:ts[j]? = some ts[j]:=List.getElem?_eq_getElem hjl
  have:tauN ng ts (ng + j)=ts[j]:=by
   unfold tauN
   rw [show Nat.ble ng (ng + j)=true from Nat.ble_eq_true_of_le (by omega),cond_true,Nat.add_sub_cancel_left,List.getD_eq_getElem?_getD,ht];rfl
  rw [this,(hplace j _ ht).1];exact hb
 have hle:ρ.le ρ':=⟨fun i b hb=>by
  have:i < nx:=by
   rcases Nat.lt_or_ge i nx with h | h
   ·exact h
   ·rw [r.new i h] at hb;cases hb
  rw [hold i (by omega)];exact hb,hst⟩
 have hup:∀ i o,(i,o)∈ts.zip (os.map (rnO (tauN ng ts)))→isGone o=false→∃ j o0,ts[j]? = some i∧os[j]? = some o0∧o=rnO (tauN ng ts) o0∧isGone o0=false:=fun i o hm hgo=>by
  obtain ⟨j,hj,he⟩:=List.getElem_of_mem hm
  rw [List.getElem_zip] at he
  injection he with h1 h2
  simp only [List.length_zip,List.length_map] at hj
  have h4:o=rnO (tauN ng ts) (os[j]'(by omega)):=by rw [← h2,List.getElem_map]
  exact ⟨j,os[j]'(by omega),by rw [← h1];exact List.getElem?_eq_getElem _,List.getElem?_eq_getElem _,h4,by rw [h4,gone_rnO] at hgo;exact hgo⟩
 have hin:∀ j t,ts[j]? = some t→∃ o,(t,o)∈ts.zip (os.map (rnO (tauN ng ts))):=fun j t ht=>by
  have hj:=(List.getElem?_eq_some_iff.1 ht)
  obtain ⟨h1,h2⟩:=hj
  have h3:j < (ts.zip (os.map (rnO (tauN ng ts)))).length:=by simp;omega
  refine ⟨(os.map (rnO (tauN ng ts)))[j]'(by simp;omega),?_⟩
  have:=List.getElem_mem h3
  rw [List.getElem_zip,h2] at this
  exact this
 have hidin:∀ t,t∈ids→∃ j:Nat,ts[j]? = some t:=fun t ht=>by
  obtain ⟨j,hj,he⟩:=List.getElem_of_mem ht
  exact ⟨j,by rw [htl j hj,List.getElem?_eq_getElem hj,he]⟩
 have hother:∀ i o b,(∀ o',(i,o') ∉ ts.zip (os.map (rnO (tauN ng ts))))→H.get i=some o→ρ' i=some b→ρ i=some b∧frameF ρ w ids b.b=w.heap[b.b]?:=fun i o b h1 h2 h3=>by
  have hni:¬ (nx≤i∧i < nx + m):=fun ⟨h4,h5⟩=>by
   obtain ⟨o',ho'⟩:=hin (ids.length + (i - nx)) i (by rw [htr _ (by omega) (by omega)];congr 1;omega)
   exact h1 o' ho'
  rw [hold i hni] at h3
  refine ⟨h3,if_neg ?_⟩
  rintro ⟨id,hid,blk,h4,h5⟩
  obtain ⟨o2,ho2⟩:=hids id hid
  have:=r.inj id i o2 o blk b ho2 h2 h4 h3 h5
  subst this
  obtain ⟨j,hj⟩:=hidin id hid
  obtain ⟨o',ho'⟩:=hin j id hj
  exact h1 o' ho'
 have hF:∀ b o,F b=some o→frameF ρ w ids b=some o:=fun b o hb=>by
  show (if _ then _ else _)=_
  rw [if_neg]
  ·exact r.fr b o hb
  ·rintro ⟨id,hid,blk,h4,h5⟩
   obtain ⟨o2,ho2⟩:=hids id hid
   have:=r.dj id o2 blk ho2 h4
   rw [h5,hb] at this;cases this
 have hfs:∀ b o o',frameF ρ w ids b=some o→ρ3.st b=some o'→∃ o'',ρ.st b=some o'':=fun b o o' h1 h2=>by
  have:=r3.sf b o o' h1 h2
  simp only [guardE,decide_eq_true_eq,ne_eq] at this
  cases hs:ρ.st b with
  | none=>exact absurd hs this
  | some o''=>exact ⟨o'',rfl⟩
 refine ⟨ρ',⟨hle,fun i hi=>hold i (by omega),Nat.le_add_right _ _⟩,⟨r3.tape,r3.os,r3.output,fun b o hb=>r3.fr b o (hF b o hb),fun i o b hi hb=>?_,fun i o b hi hb=>?_,fun i i2 o o2 b b2 hi hi2 hb hb2 e=>?_,fun i hi=>?_,fun g l hg=>?_,r.bs,r3.st,fun i o b hi hb=>?_,fun b o o' h1 h2=>?_⟩,hτ,fun _ _ h=>h⟩
 ·rcases WB hi with ⟨h,hgn⟩ | ⟨h1,h2⟩
  ·obtain ⟨j,o0,h3,h4,rfl,hg0⟩:=hup i o h hgn
   obtain ⟨c,h5,h6⟩:=r3.ob (ng + j) o0 b (Vr os ng j h4 hg0) (by rw [← (hplace j i h3).1];exact hb)
   exact ⟨c,h5,rnO_rel hτ (fun _ _ h=>h) hg0 (hcl o0 (List.mem_of_getElem? h4)) h6⟩
  ·obtain ⟨h3,h4⟩:=hother i o b h1 h2 hb
   obtain ⟨c,h5,h6⟩:=r.ob i o b h2 h3
   exact ⟨c,r3.fr _ _ (h4.trans h5),h6.mono hle⟩
 ·rcases WB hi with ⟨h,hgn⟩ | ⟨h1,h2⟩
  ·obtain ⟨j,o0,h3,h4,rfl,hg0⟩:=hup i o h hgn
   have h5:=r3.dj (ng + j) o0 b (Vr os ng j h4 hg0) (by rw [← (hplace j i h3).1];exact hb)
   cases hFb:F b.b with
   | none=>rfl
   | some x=>rw [hF _ _ hFb] at h5;cases h5
  ·exact r.dj i o b h2 (hother i o b h1 h2 hb).1
 ·have mix:∀ i i2 o o2 b b2,(i,o)∈ts.zip (os.map (rnO (tauN ng ts)))→isGone o=false→(∀ o',(i2,o') ∉ ts.zip (os.map (rnO (tauN ng ts))))→H.get i2=some o2→ρ' i=some b→ρ' i2=some b2→b.b=b2.b→False:=fun i i2 o o2 b b2 h hgn h1 h2 hb hb2 e=>by
   obtain ⟨j,o0,h3,h4,rfl,hg0⟩:=hup i o h hgn
   have h5:=r3.dj (ng + j) o0 b (Vr os ng j h4 hg0) (by rw [← (hplace j i h3).1];exact hb)
   obtain ⟨h6,h7⟩:=hother i2 o2 b2 h1 h2 hb2
   obtain ⟨c,h8,_⟩:=r.ob i2 o2 b2 h2 h6
   rw [e,h7,h8] at h5;cases h5
  rcases WB hi with ⟨h,hgn⟩ | ⟨h1,h2⟩
  ·rcases WB hi2 with ⟨h',hgn'⟩ | ⟨h1',h2'⟩
   ·obtain ⟨j,o0,h3,h4,_,hg0⟩:=hup i o h hgn
    obtain ⟨j',o0',h3',h4',_,hg0'⟩:=hup i2 o2 h' hgn'
    have:=r3.inj (ng + j) (ng + j') o0 o0' b b2 (Vr os ng j h4 hg0) (Vr os ng j' h4' hg0') (by rw [← (hplace j i h3).1];exact hb) (by rw [← (hplace j' i2 h3').1];exact hb2) e
    have:j=j':=by omega
    subst this
    rw [h3] at h3'
    injection h3'
   ·exact (mix i i2 o o2 b b2 h hgn h1' h2' hb hb2 e).elim
  ·rcases WB hi2 with ⟨h',hgn'⟩ | ⟨h1',h2'⟩
   ·exact (mix i2 i o2 o b2 b h' hgn' h1 h2 hb2 hb e.symm).elim
   ·exact r.inj i i2 o o2 b b2 h2 h2' (hother i o b h1 h2 hb).1 (hother i2 o2 b2 h1' h2' hb2).1 e
 ·rw [hold i (by omega)];exact r.new i (by omega)
 ·rcases WB hg with ⟨h,hgn⟩ | ⟨h1,h2⟩
  ·obtain ⟨j,o0,h3,h4,h5,hg0⟩:=hup g _ h hgn
   have hc:=hcl o0 (List.mem_of_getElem? h4)
   unfold clO at hc
   split at hc
   ·cases h5
   ·cases h5
   ·cases hg0
   ·exact hc.elim
  ·exact r.gl g l h2
 ·rcases WB hi with ⟨h,hgn⟩ | ⟨h1,h2⟩
  ·obtain ⟨j,o0,h3,h4,rfl,hg0⟩:=hup i o h hgn
   exact r3.sd (ng + j) o0 b (Vr os ng j h4 hg0) (by rw [← (hplace j i h3).1];exact hb)
  ·obtain ⟨h3,h4⟩:=hother i o b h1 h2 hb
   obtain ⟨c,h5,_⟩:=r.ob i o b h2 h3
   cases hs:ρ3.st b.b with
   | none=>rfl
   | some o' =>
    obtain ⟨o'',h6⟩:=hfs b.b c o' (h4.trans h5) hs
    rw [r.sd i o b h2 h3] at h6;cases h6
 ·obtain ⟨o'',h3⟩:=hfs b o o' (hF b o h1) h2
  exact r.sf b o o'' h1 h3
inductive HO:Type 1 where
 | ret (v:AV) (os:List AObj) (m:Nat)
 | pan (v:AV) (os:List AObj) (m:Nat)
 | br (b:Bool) (t e:HO)
 | gen {α:Type} (a:α) (f:α→HO)
structure HSpec where
 X:Type
 gl:List (Nat×AObj)
 sel:Tr AObj→Bool
 ng:Nat
 k:Nat
 args:X→List AV
 objs:X→List AObj
 pre:X→Prop
 out:X→HO
 fz:Nat
 find:Tr AObj→List AV→Option (X×List Nat)
noncomputable def matO (σ:List (Nat×Nat)) (H:Tr AObj) (l:List (Nat×AObj)):Prop :=
 List.rec (motive:=fun _=>Prop) True (fun p _ ih=>(match sg σ p.1 with
  | none=>False
  | some j=>match H.get j with
   | none=>False
   | some o=>omP σ p.2 o)∧ih) l
theorem Zg2 {σ:List (Nat×Nat)} {H:Tr AObj}:∀ {l:List (Nat×AObj)},matO σ H l→∀ p∈l,∃ j o,sg σ p.1=some j∧H.get j=some o∧omP σ p.2 o
 | [],_,p,hp=>by cases hp
 | q :: l,h,p,hp=>by
  have h':(match sg σ q.1 with
   | none=>False
   | some j=>match H.get j with
    | none=>False
    | some o=>omP σ q.2 o)∧matO σ H l:=h
  rcases List.mem_cons.1 hp with rfl | hp
  ·have h2:=h'.1
   split at h2
   ·exact h2.elim
   ·rename_i j hj
    split at h2
    ·exact h2.elim
    ·rename_i o ho;exact ⟨j,o,hj,ho,h2⟩
  ·exact Zg2 h'.2 p hp
noncomputable def belowL (nx:Nat) (ids:List Nat):Bool:=ids.all fun i=>Nat.blt i nx
noncomputable def fN1.{u} {β:Type u} (n:Nat) (k:Nat→β):β:=Nat.rec (motive:=fun _=>β) (k 0) (fun m _=>k (m + 1)) n
theorem YG.{u} {β:Type u} (n:Nat) (k:Nat→β):fN1 n k=k n:=by cases n <;> rfl
noncomputable def instH (ng:Nat) (ids:List Nat) (nx:Nat) (o:HO):HCt :=
 HO.rec (motive:=fun _=>HCt)
  (fun v os m=>fN1 (nx + m) fun n=>(fun ts=>HCt.ret (rnF (tauN ng ts) 4 v) (ts.zip (os.map (rnO (tauN ng ts)))) n) (ids ++ List.range' nx m))
  (fun v os m=>fN1 (nx + m) fun n=>(fun ts=>HCt.pan (rnF (tauN ng ts) 4 v) (ts.zip (os.map (rnO (tauN ng ts)))) n) (ids ++ List.range' nx m))
  (fun b _ _ it ie=>.br b it ie) (fun a _ ih=>.gen a ih) o
noncomputable def HSpec.ent (S:HSpec):HEnt:=fun H nx args=>cond (S.sel H) (ob (S.find H args) fun p=>cond (Nat.beq p.2.length S.k)
 (some (.need (S.pre p.1∧nod p.2=true∧belowL nx p.2=true∧vmL (zipN p.2 S.ng) (S.args p.1) args∧matO (zipN p.2 S.ng) H (numL (S.objs p.1) S.ng)) (instH S.ng p.2 nx (S.out p.1)))) none) none
theorem row_vecH {E:Env} {F:Nat→Option Obj} {nx:Nat} {ρ:Ren} {w:World} {H:Tr AObj} (r:Rel E F nx ρ H.get w) {ids:List Nat} (hi:idsOK H ids) {id el n esz N:Nat} {f:Nat→List AV} {op:Bool} {h':List AV} (hid:id∈ids)
  (ho:H.get id=some (.cells el .leaf (.rows esz f) N op)) (hN:n * esz≤N) (hg:goodR esz n f=true) (hh:∀ vs,VRL ρ (f 0) vs→VRL (frzR ρ w ids) h' vs) {v:Value} (hv:VR ρ (.slg id n esz) v) :
  VR (frzR ρ w ids) (.vec esz n fun i=>cond (Nat.beq i 0) h' (f i)) v:=by
 have hle:=(YO r hi).1.le
 cases hv with
 | slg0 _ _ _ hn _=>exact .vecz _ _ _ hn _ _
 | slg _ _ _ b hb he hl =>
  obtain ⟨c,hc,hor⟩:=r.ob _ _ b ho hb
  cases hor with
  | cells _ _ _ _ _ cs fz hsize hn hop hfz hcell =>
   have hst:(frzR ρ w ids).st b.b=some (.cells cs el fz):=(Wd hid hb).trans hc
   have hcap:n≤b.cap / esz:=by rw [Nat.le_div_iff_mul_le he];exact hl
   unfold goodR at hg
   simp only [decide_eq_true_eq] at hg
   have hrow:∀ i,∃ vs,i < n→VRL ρ (f i) vs∧∀ j v,vs[j]? = some v→cs[b.ob + i * esz + j]? = some v:=fun i=>by
    by_cases hin:i < n
    ·have h1:=hg i hin
     unfold rowOk at h1
     obtain ⟨h2,_⟩:=Ze h1
     rw [Nat.beq_eq] at h2
     have hm:(i + 1) * esz≤n * esz:=Nat.mul_le_mul_right _ hin
     rw [Nat.succ_mul] at hm
     obtain ⟨vs,h3,h4⟩:=VRL.of_get (ρ:=ρ) (l:=f i) (fun j v=>cs[b.ob + i * esz + j]? = some v) fun j a hj=>by
      have hjl:=(List.getElem?_eq_some_iff.1 hj).1
      obtain ⟨v,hv,hr⟩:=hcell (i * esz + j) a (by omega) (by rw [Zx,Qi (i:=i) (j:=j) (by omega) _ rfl];exact hj)
      exact ⟨v,by rw [Nat.add_assoc];exact hv,hr⟩
     exact ⟨vs,fun _=>⟨h3,h4⟩⟩
    ·exact ⟨[],fun h=>absurd h hin⟩
   refine .vec _ _ _ b.b b.ob _ cs el fz (fun i=>Classical.choose (hrow i)) hst he hcap (fun i hin=>?_) (fun i hin=>(Classical.choose_spec (hrow i) hin).2)
   cases hb0:Nat.beq i 0 with
   | true =>
    rw [Nat.beq_eq] at hb0
    subst hb0
    exact hh _ (Classical.choose_spec (hrow 0) hin).1
   | false=>exact (Classical.choose_spec (hrow i) hin).1.mono hle
noncomputable def frzH (P:Program) (H:Tr AObj) (v:AV):FR:=match v with
 | .slg id n esz=>ob (H.get id) fun o=>match o with
  | .cells _ c z N _=>match c,z with
   | .leaf,.rows e f=>gd (Nat.beq e esz) (ob (frzA (frz P H) (f 0)) fun r=>some (cond r.1 (cond (Nat.ble (n * esz) N) (goodR esz n f) false) false,.vec esz n (fun i=>cond (Nat.beq i 0) r.2.1 (f i)),[],id :: r.2.2.2))
   | _,_=>none
  | _=>none
 | _=>frz P H v
theorem Zjp {P:Program} {E:Env} {F:Nat→Option Obj} {nx:Nat} {ρ:Ren} {w:World} {H:Tr AObj} (r:Rel E F nx ρ H.get w) {v v':AV} {z:List FZ} {ids:List Nat} (h:frzH P H v=some (true,v',z,ids)) {u:Value} (hv:VR ρ v u) :
  idsOK H ids∧VR (frzR ρ w ids) v' u:=by
 unfold frzH at h
 split at h
 ·rename_i id n esz
  obtain ⟨o,ho,h1⟩:=Za.1 h
  split at h1
  ·rename_i el c z0 N op
   split at h1
   ·rename_i e f
    obtain ⟨he,h2⟩:=Zb.1 h1
    rw [Nat.beq_eq] at he;subst he
    obtain ⟨⟨b,h',fz,ids0⟩,hf,h3⟩:=Za.1 h2
    injection h3 with h3;injection h3 with e1 h3;injection h3 with e2 h3;injection h3 with e3 e4
    simp only at e1 e2 e4
    obtain ⟨e5,e6⟩:=Ze e1
    obtain ⟨e7,e8⟩:=Ze e6
    subst e5;subst e2;subst e4
    obtain ⟨g1,_,g3⟩:=YK (We r) _ _ _ _ hf
    have hids:idsOK H (id :: ids0):=fun i hi=>by
     rcases List.mem_cons.1 hi with rfl | hi
     ·exact ⟨_,ho⟩
     ·exact g1 i hi
    exact ⟨hids,row_vecH r hids (List.mem_cons_self ..) ho (Nat.le_of_ble_eq_true e7) e8 (fun vs hvs=>g3 _ hids (fun i hi=>List.mem_cons_of_mem _ hi) vs hvs) hv⟩
   ·cases h1
  ·cases h1
 ·obtain ⟨hids,_,hval⟩:=We r _ _ _ _ h
  exact ⟨hids,hval ids hids (fun _ h=>h) u hv⟩
noncomputable def fzV (fz:Nat) (P:Program) (H:Tr AObj) (v:AV):FR:=match fz with
 | 0=>some (true,v,[],[])
 | 1=>frz P H v
 | _=>frzH P H v
noncomputable def leafK (P:Program) (fz:Nat) (nk:Nat) (v0:AV) (os:List AObj) (m ng:Nat) (v:AV) (H:Tr AObj) (n:Nat):Prop :=
 okP (fzV fz P H v) fun q=>sdA q.1 (fN (nk + m) fun n2=>stP nk 1 n2 [(0,v0)] (liveL (numL os ng)) ⟨1,Tr.leaf.set 0 q.2.1,delL H q.2.2.2,n,none,[]⟩)
noncomputable def ResO (P:Program) (fz:Nat) (ng nk:Nat) (o:HO):KC :=
 HO.rec (motive:=fun _=>KC)
  (fun v0 os m r=>match r with
   | .mk v H n=>leafK P fz nk v0 os m ng v H n
   | _=>False)
  (fun v0 os m r=>match r with
   | .pan v H n=>leafK P fz nk v0 os m ng v H n
   | _=>False)
  (fun b _ _ it ie r=>brP b (it r) (ie r)) (fun a _ ih r=>ih a r) o
def clHO (k:Nat):HO→Prop
 | .ret v os m=>clF 4 v∧os.length=k + m∧∀ o∈os,clO o
 | .pan v os m=>clF 4 v∧os.length=k + m∧∀ o∈os,clO o
 | .br b t e=>(b=true→clHO k t)∧(b=false→clHO k e)
 | .gen a f=>clHO k (f a)
theorem JN {P:Program} {fz:Nat} {ng nk k nx:Nat} {ids:List Nat}:∀ {o:HO} {p:Bool} {v:AV} {up:List (Nat×AObj)} {nx':Nat},hOut (instH ng ids nx o)=some (p,v,up,nx')→clHO k o →
  ∃ v0 os m,v=rnF (tauN ng (ids ++ List.range' nx m)) 4 v0∧up=(ids ++ List.range' nx m).zip (os.map (rnO (tauN ng (ids ++ List.range' nx m))))∧nx'=nx + m∧(clF 4 v0∧os.length=k + m∧∀ o∈os,clO o) ∧
   ∀ r,ResO P fz ng nk o r→∃ v1 H1 n1,r=outCR p v1 H1 n1∧leafK P fz nk v0 os m ng v1 H1 n1
 | .ret v0 os m,p,v,up,nx',h,hc=>by
  have h':(fN1 (nx + m) fun n=>hOut (HCt.ret (rnF (tauN ng (ids ++ List.range' nx m)) 4 v0) ((ids ++ List.range' nx m).zip (os.map (rnO (tauN ng (ids ++ List.range' nx m))))) n))=some (p,v,up,nx'):=by
   rw [YG]
   have h2:hOut (fN1 (nx + m) fun n=>(fun ts=>HCt.ret (rnF (tauN ng ts) 4 v0) (ts.zip (os.map (rnO (tauN ng ts)))) n) (ids ++ List.range' nx m))=some (p,v,up,nx'):=h
   rw [YG] at h2;exact h2
  rw [YG] at h'
  injection h' with h'
  injection h' with h1 h'
  injection h' with h2 h'
  injection h' with h3 h4
  subst h1
  refine ⟨v0,os,m,h2.symm,h3.symm,h4.symm,hc,fun r hr=>?_⟩
  cases r with
  | mk v H n=>exact ⟨v,H,n,rfl,hr⟩
  | pan _ _ _=>exact hr.elim
  | dfr _ _ _ _=>exact hr.elim
 | .pan v0 os m,p,v,up,nx',h,hc=>by
  have h':(fN1 (nx + m) fun n=>hOut (HCt.pan (rnF (tauN ng (ids ++ List.range' nx m)) 4 v0) ((ids ++ List.range' nx m).zip (os.map (rnO (tauN ng (ids ++ List.range' nx m))))) n))=some (p,v,up,nx'):=by
   rw [YG]
   have h2:hOut (fN1 (nx + m) fun n=>(fun ts=>HCt.pan (rnF (tauN ng ts) 4 v0) (ts.zip (os.map (rnO (tauN ng ts)))) n) (ids ++ List.range' nx m))=some (p,v,up,nx'):=h
   rw [YG] at h2;exact h2
  rw [YG] at h'
  injection h' with h'
  injection h' with h1 h'
  injection h' with h2 h'
  injection h' with h3 h4
  subst h1
  refine ⟨v0,os,m,h2.symm,h3.symm,h4.symm,hc,fun r hr=>?_⟩
  cases r with
  | pan v H n=>exact ⟨v,H,n,rfl,hr⟩
  | mk _ _ _=>exact hr.elim
  | dfr _ _ _ _=>exact hr.elim
 | .br b t e,p,v,up,nx',h,hc=>by
  have h':cond b (hOut (instH ng ids nx t)) (hOut (instH ng ids nx e))=some (p,v,up,nx'):=h
  cases b with
  | true =>
   obtain ⟨v0,os,m,h1,h2,h3,h4,h5⟩:=JN (P:=P) (fz:=fz) (nk:=nk) h' (hc.1 rfl)
   exact ⟨v0,os,m,h1,h2,h3,h4,fun r hr=>h5 r hr⟩
  | false =>
   obtain ⟨v0,os,m,h1,h2,h3,h4,h5⟩:=JN (P:=P) (fz:=fz) (nk:=nk) h' (hc.2 rfl)
   exact ⟨v0,os,m,h1,h2,h3,h4,fun r hr=>h5 r hr⟩
 | .gen a f,p,v,up,nx',h,hc=>by
  have h':hOut (instH ng ids nx (f a))=some (p,v,up,nx'):=h
  obtain ⟨v0,os,m,h1,h2,h3,h4,h5⟩:=JN (P:=P) (fz:=fz) (nk:=nk) (o:=f a) h' hc
  exact ⟨v0,os,m,h1,h2,h3,h4,fun r hr=>h5 r hr⟩
theorem Zm0 {P:Program} {E:Env} {F:Nat→Option Obj} {nx:Nat} {ρ:Ren} {w:World} {H:Tr AObj} (r:Rel E F nx ρ H.get w) {fz:Nat} {v v':AV} {z:List FZ} {ids:List Nat} (h:fzV fz P H v=some (true,v',z,ids)) {u:Value} (hv:VR ρ v u) :
  ∃ ρ',RX nx nx ρ ρ'∧Rel E F nx ρ' (delL H ids).get w∧VR ρ' v' u:=by
 unfold fzV at h
 split at h
 ·injection h with h;injection h with _ h;injection h with h1 h;injection h with h2 h3
  subst h1;subst h3
  exact ⟨ρ,RX.refl _ _,r,hv⟩
 ·obtain ⟨hids,_,hval⟩:=We r v v' z ids h
  obtain ⟨hx,r2⟩:=YO r hids
  exact ⟨_,hx,r2,hval ids hids (fun _ h=>h) u hv⟩
 ·obtain ⟨hids,hval⟩:=Zjp r h hv
  obtain ⟨hx,r2⟩:=YO r hids
  exact ⟨_,hx,r2,hval⟩
set_option maxHeartbeats 1000000 in
theorem Xv {P:Program} {g:FuncId} (S:HSpec) (hgl:∀ p∈S.gl,isGl p.2=true∧p.1 < S.ng) (hsel:∀ H,S.sel H=true→∀ p∈S.gl,H.get p.1=some p.2)
  (hk:∀ x,(S.objs x).length=S.k) (hob:∀ x,∀ o∈S.objs x,isGl o=false) (hcl:∀ x,S.pre x→clHO S.k (S.out x))
  (hrun:∀ x,S.pre x→∃ call:FuncId→List AV→Tr AObj→Nat→KC→Prop,CallKOK P call∧call g (S.args x) (mkH (S.gl ++ numL (S.objs x) S.ng)) (S.ng + S.k) (ResO P S.fz S.ng (S.ng + S.k) (S.out x))):HEntOK P g S.ent:=by
 intro H nx args hc hent p v up nx' hout E F ρ w r
 unfold HSpec.ent at hent
 cases hs:S.sel H with
 | false=>rw [hs] at hent;cases hent
 | true =>
 rw [hs,cond_true] at hent
 obtain ⟨⟨x,ids⟩,hfind,h1⟩:=Za.1 hent
 cases hl:Nat.beq ids.length S.k with
 | false=>rw [hl] at h1;cases h1
 | true =>
 rw [hl] at h1
 have hlen:=Nat.eq_of_beq_eq_true hl
 injection h1 with h1;subst h1
 have hneed:(@ite _ (S.pre x∧nod ids=true∧belowL nx ids=true∧vmL (zipN ids S.ng) (S.args x) args∧matO (zipN ids S.ng) H (numL (S.objs x) S.ng)) (Classical.propDecidable _) (hOut (instH S.ng ids nx (S.out x))) none)=some (p,v,up,nx'):=hout
 split at hneed
 case isFalse=>cases hneed
 rename_i hp
 obtain ⟨hpre,hnod,hbel,hargs,hmat⟩:=hp
 obtain ⟨v0,os,m,rfl,rfl,rfl,⟨hc1,hc2,hc3⟩,hres⟩:=JN (P:=P) (fz:=S.fz) (nk:=S.ng + S.k) hneed (hcl x hpre)
 have hlt:∀ id∈ids,id < nx:=fun id hid=>by
  have:=List.all_eq_true.1 hbel id hid
  rwa [Nat.blt_eq] at this
 have hobj:∀ j o,(S.objs x)[j]? = some o→∃ id o',ids[j]? = some id∧H.get id=some o'∧omP (zipN ids S.ng) o o':=fun j o hj=>by
  have hm:(S.ng + j,o)∈numL (S.objs x) S.ng:=by
   have:=Zh8 (S.objs x) S.ng j
   rw [hj] at this
   exact Wq this
  obtain ⟨id,o',h1,h2,h3⟩:=Zg2 hmat _ hm
  have h1':sg (zipN ids S.ng) (S.ng + j)=some id:=h1
  rw [UN,if_pos (by omega),Nat.add_sub_cancel_left] at h1'
  exact ⟨id,o',h1',h2,h3⟩
 have hids:∀ id∈ids,∃ o,H.get id=some o:=fun id hid=>by
  obtain ⟨j,hj,rfl⟩:=List.getElem_of_mem hid
  have hjo:j < (S.objs x).length:=by rw [hk,← hlen];exact hj
  obtain ⟨id',o',h1,h2,_⟩:=hobj j _ (List.getElem?_eq_getElem hjo)
  rw [List.getElem?_eq_getElem hj] at h1
  injection h1 with h1
  exact ⟨o',by rw [h1];exact h2⟩
 have hmk:∀ i o,(mkH (S.gl ++ numL (S.objs x) S.ng)).get i=some o→(i,o)∈S.gl∨∃ j,i=S.ng + j∧(S.objs x)[j]? = some o:=fun i o h=>by
  rcases List.mem_append.1 (Wq h) with h | h
  ·exact .inl h
  ·exact .inr (Zh2 h)
 have hρ0:∀ i b,renS (zipN ids S.ng) ρ i=some b→∃ j id,i=S.ng + j∧ids[j]? = some id∧ρ id=some b:=fun i b h=>by
  have h':(sg (zipN ids S.ng) i).bind ρ.nm=some b:=h
  rw [UN] at h'
  split at h'
  ·rename_i hi
   cases hid:ids[i - S.ng]? with
   | none=>rw [hid] at h';cases h'
   | some id=>rw [hid] at h';exact ⟨i - S.ng,id,by omega,hid,h'⟩
  ·cases h'
 have hin:∀ i o b,(mkH (S.gl ++ numL (S.objs x) S.ng)).get i=some o→renS (zipN ids S.ng) ρ i=some b→∃ j id o',i=S.ng + j∧ids[j]? = some id∧ρ id=some b∧H.get id=some o'∧omP (zipN ids S.ng) o o':=fun i o b hi hb=>by
  obtain ⟨j,id,rfl,h2,h3⟩:=hρ0 i b hb
  rcases hmk _ o hi with h | ⟨j',h4,h5⟩
  ·exact absurd (hgl _ h).2 (by show ¬ S.ng + j < S.ng;omega)
  ·have:j'=j:=by omega
   subst this
   obtain ⟨id',o',h6,h7,h8⟩:=hobj j' o h5
   rw [h2] at h6
   injection h6 with h6;subst h6
   exact ⟨j',id,o',rfl,h2,h3,h7,h8⟩
 have hnodup:∀ j j' id:Nat,ids[j]? = some id→ids[j']? = some id→j=j':=fun j j' id h1 h2=>by
  have e1:sg (zipN ids S.ng) (S.ng + j)=some id:=by rw [UN,if_pos (by omega),Nat.add_sub_cancel_left];exact h1
  have e2:sg (zipN ids S.ng) (S.ng + j')=some id:=by rw [UN,if_pos (by omega),Nat.add_sub_cancel_left];exact h2
  have hz:∀ (l:List Nat) (n:Nat),(zipN l n).map (·.2)=l:=by
   intro l
   induction l with
   | nil=>intro n;rfl
   | cons a l ih=>intro n;rw [Zd8,List.map_cons,ih]
  have:=Zfq (l:=zipN ids S.ng) (by rw [hz];exact hnod) _ (Gq e1) _ (Gq e2) rfl
  injection this with this
  omega
 have hFr:∀ b o,F b=some o→frameF ρ w ids b=some o:=fun b o hb=>by
  show (if _ then _ else _)=_
  rw [if_neg]
  ·exact r.fr b o hb
  ·rintro ⟨id,hid,blk,h4,h5⟩
   obtain ⟨o2,ho2⟩:=hids id hid
   have:=r.dj id o2 blk ho2 h4
   rw [h5,hb] at this;cases this
 have r0:Rel (guardE E ρ) (frameF ρ w ids) (S.ng + S.k) (renS (zipN ids S.ng) ρ) (mkH (S.gl ++ numL (S.objs x) S.ng)).get w:=by
  refine ⟨r.tape,r.os,r.output,fun b o hb=>?_,fun i o b hi hb=>?_,fun i o b hi hb=>?_,fun i i2 o o2 b b2 hi hi2 hb hb2 e=>?_,fun i hi=>?_,fun g l hg=>?_,fun b o hb=>hFr b o (r.bs b o hb),r.st,fun i o b hi hb=>?_,fun b o o' h1 h2=>?_⟩
  ·have h':(if ∃ id∈ids,∃ blk,ρ id=some blk∧blk.b=b then none else w.heap[b]?)=some o:=hb
   split at h'
   ·cases h'
   ·exact h'
  ·obtain ⟨j,id,o',rfl,h2,h3,h4,h5⟩:=hin i o b hi hb
   obtain ⟨c,h6,h7⟩:=r.ob id o' b h4 h3
   exact ⟨c,h6,om_rel (Zfl _ ρ) h5 h7⟩
  ·obtain ⟨j,id,o',rfl,h2,h3,h4,h5⟩:=hin i o b hi hb
   exact if_pos ⟨id,List.mem_of_getElem? h2,b,h3,rfl⟩
  ·obtain ⟨j,id,o',rfl,h2,h3,h4,_⟩:=hin i o b hi hb
   obtain ⟨j',id',o'',rfl,h2',h3',h4',_⟩:=hin i2 o2 b2 hi2 hb2
   have:=r.inj id id' o' o'' b b2 h4 h4' h3 h3' e
   subst this
   rw [hnodup j j' id h2 h2']
  ·cases hn:renS (zipN ids S.ng) ρ i with
   | none=>rfl
   | some b =>
    obtain ⟨j,id,rfl,h2,_⟩:=hρ0 i b hn
    have:=(List.getElem?_eq_some_iff.1 h2).1
    omega
  ·rcases hmk g _ hg with h | ⟨j,_,h5⟩
   ·exact r.gl g l (hsel H hs _ h)
   ·have:=hob x _ (List.mem_of_getElem? h5)
    cases this
  ·obtain ⟨j,id,o',rfl,h2,h3,h4,h5⟩:=hin i o b hi hb
   exact r.sd id o' b h4 h3
  ·simp only [guardE,decide_eq_true_eq,ne_eq]
   intro e
   rw [show ρ.st b=some o' from h2] at e;cases e
 obtain ⟨call,hcall,hrun'⟩:=hrun x hpre
 have hok:=hcall g (S.args x) _ _ _ hrun' _ _ _ w r0
 refine ⟨hok.1,fun vs hvs=>CallsIn.mono (hok.2 vs (Vc (Zfl (zipN ids S.ng) ρ) _ _ _ hargs hvs)) fun e w' he=>?_⟩
 obtain ⟨res,hr1,hend⟩:=he
 obtain ⟨v1,H1,n1,rfl,hleaf⟩:=hres res hr1
 have fin:∀ u ρ1,RX (S.ng + S.k) n1 (renS (zipN ids S.ng) ρ) ρ1→Rel (guardE E ρ) (frameF ρ w ids) n1 ρ1 H1.get w'→VR ρ1 v1 u →
   ∃ ρ',RX nx (nx + m) ρ ρ'∧Rel E F (nx + m) ρ' (setL ((ids ++ List.range' nx m).zip (os.map (rnO (tauN S.ng (ids ++ List.range' nx m))))) H).get w'∧VR ρ' (rnF (tauN S.ng (ids ++ List.range' nx m)) 4 v0) u:=by
  intro u ρ1 hx1 r1 hv1
  obtain ⟨⟨s1,qv,qz,qi⟩,hq,h2⟩:=Zg hleaf
  obtain ⟨h3,h4⟩:=ZM.1 h2
  simp only at h3;subst h3
  rw [Zt] at h4
  obtain ⟨ρ2,hx2,r2,hv2⟩:=Zm0 r1 hq hv1
  have hSR:SR (guardE E ρ) (frameF ρ w ids) ρ2 ⟨1,Tr.leaf.set 0 qv,delL H1 qi,n1,none,[]⟩ ⟨#[u],[]⟩ w' none:=by
   refine ⟨r2,fun t a ht=>?_,rfl,.nil,.none⟩
   have ht':((Tr.leaf:Tr AV).set 0 qv).get t=some a:=ht
   rw [Tr.get_set] at ht'
   split at ht'
   ·rename_i e
    injection ht' with ht';subst ht';subst e
    exact ⟨u,rfl,hv2⟩
   ·rw [Tr.get_leaf] at ht';cases ht'
  obtain ⟨_,ρ3,hk3,hs3⟩:=Zat h4 hSR
  obtain ⟨u',hu1,hu2⟩:=hs3.tr 0 v0 (by show (mkT [(0,v0)]).get 0=some v0;exact Tr.get_set_same _ _ _)
  have hu1':u=u':=by simpa using hu1
  subst hu1'
  have r3:Rel (guardE E ρ) (frameF ρ w ids) (S.ng + ids.length + m) ρ3 (mkH (liveL (numL os S.ng))).get w':=by rw [hlen];exact hs3.rel
  obtain ⟨ρ',g1,g2,g3,g4⟩:=Zl7 r hids hlt (ng:=S.ng) (m:=m) (os:=os) (by rw [hlen];exact hc2) hc3 r3 (fun b o h=>hk3.st b o (hx2.le.st b o (hx1.le.st b o h)))
   (fun i hi=>by rw [hlen] at hi;rw [hk3.lo i hi,hx2.lo i (Nat.lt_of_lt_of_le hi hx1.nn),hx1.lo i hi])
  exact ⟨ρ',g1,g2,Zfr g3 g4 4 v0 u hc1 hu2⟩
 cases p with
 | false =>
  obtain ⟨u,ρ1,rfl,hx1,r1,hv1⟩:=hend
  obtain ⟨ρ',g1,g2,g3⟩:=fin u ρ1 hx1 r1 hv1
  exact ⟨u,ρ',rfl,g1,g2,g3⟩
 | true =>
  obtain ⟨u,ρ1,rfl,hx1,r1,hv1⟩:=hend
  obtain ⟨ρ',g1,g2,g3⟩:=fin u ρ1 hx1 r1 hv1
  exact ⟨u,ρ',rfl,g1,g2,g3⟩
end Go.Ev
end
section
/- A run by itself, whose answer is a row with own rows in its head: a contract by content. -/
namespace Go.Ev
open Go
end Go.Ev
end
section
/- Contracts whose outcomes are contents, not turned; runs that end in something stronger. -/
namespace Go.Ev
theorem JX {P:Program} {call:FuncId→List AV→Tr AObj→Nat→KC→Prop} (h:CallKOK P call):CallKOK P fun g args H nx K=>∃ K':KC,(∀ r,K' r→K r)∧call g args H nx K':=by
 intro g args H nx K hc E F ρ w r
 obtain ⟨K',hK,hc⟩:=hc
 have ht:=h g args H nx K' hc E F ρ w r
 exact ⟨ht.1,fun vs hvs=>CallsIn.mono (ht.2 vs hvs) fun e w' he=>by obtain ⟨r,h1,h2⟩:=he;exact ⟨r,hK r h1,h2⟩⟩
noncomputable def instC (ids:List Nat) (nx:Nat) (o:HO):HCt :=
 HO.rec (motive:=fun _=>HCt)
  (fun v os m=>fN1 (nx + m) fun n=>HCt.ret v ((ids ++ List.range' nx m).zip os) n)
  (fun v os m=>fN1 (nx + m) fun n=>HCt.pan v ((ids ++ List.range' nx m).zip os) n)
  (fun b _ _ it ie=>.br b it ie) (fun a _ ih=>.gen a ih) o
structure Desc (H:Tr AObj) (i:Nat) (o':AObj):Prop where
 d:∃ o,H.get i=some o∧∀ ρ b c,OR ρ b o c→OR ρ b o' c
 g:isGl o'=false
theorem Zmd {E:Env} {F:Nat→Option Obj} {nx:Nat} {ρ:Ren} {H:Tr AObj} {w:World} (r:Rel E F nx ρ H.get w) {i:Nat} {o':AObj} (hd:Desc H i o'):Rel E F nx ρ (H.set i o').get w:=by
 obtain ⟨⟨o,ho,h⟩,hg⟩:=hd
 have key:∀ j x,(H.set i o').get j=some x→(j=i∧x=o')∨(j≠i∧H.get j=some x):=fun j x hx=>by
  rw [Tr.get_set] at hx
  split at hx
  ·rename_i e;injection hx with hx;exact .inl ⟨e.symm,hx.symm⟩
  ·rename_i e;exact .inr ⟨fun h=>e h.symm,hx⟩
 have old:∀ j x,(H.set i o').get j=some x→∃ y,H.get j=some y:=fun j x hx=>by
  rcases key j x hx with ⟨rfl,_⟩ | ⟨_,h⟩
  ·exact ⟨o,ho⟩
  ·exact ⟨x,h⟩
 refine ⟨r.tape,r.os,r.output,r.fr,fun j x b hx hb=>?_,fun j x b hx hb=>?_,fun j k x y b b' hx hy hb hb' e=>?_,r.new,fun g l hx=>?_,r.bs,r.st,fun j x b hx hb=>?_,r.sf⟩
 ·rcases key j x hx with ⟨rfl,rfl⟩ | ⟨_,h1⟩
  ·obtain ⟨c,h1,h2⟩:=r.ob j o b ho hb
   exact ⟨c,h1,h ρ b c h2⟩
  ·exact r.ob j x b h1 hb
 ·obtain ⟨y,hy⟩:=old j x hx;exact r.dj j y b hy hb
 ·obtain ⟨x',hx'⟩:=old j x hx;obtain ⟨y',hy'⟩:=old k y hy;exact r.inj j k x' y' b b' hx' hy' hb hb' e
 ·rcases key g _ hx with ⟨_,rfl⟩ | ⟨_,h1⟩
  ·cases hg
  ·exact r.gl g l h1
 ·obtain ⟨y,hy⟩:=old j x hx;exact r.sd j y b hy hb
theorem Zaj {H:Tr AObj} {p:Nat×AObj} {l:List (Nat×AObj)} {j:Nat} (h:p.1≠j):(setL (p :: l) H).get j=(setL l H).get j:=by
 show (cond (isGone p.2) ((setL l H).del p.1) ((setL l H).set p.1 p.2)).get j=_
 cases isGone p.2 with
 | true=>rw [cond_true,Tr.get_del,if_neg h]
 | false=>rw [cond_false,Tr.get_set_ne _ h]
theorem setL_eq {H H':Tr AObj} {p:Nat×AObj} {l l':List (Nat×AObj)}:(setL (p :: l) H).get p.1=(setL (p :: l') H').get p.1:=by
 show (cond (isGone p.2) ((setL l H).del p.1) ((setL l H).set p.1 p.2)).get p.1=(cond (isGone p.2) ((setL l' H').del p.1) ((setL l' H').set p.1 p.2)).get p.1
 cases isGone p.2 with
 | true=>rw [cond_true,cond_true,Tr.get_del,if_pos rfl,Tr.get_del,if_pos rfl]
 | false=>rw [cond_false,cond_false,Tr.get_set_same,Tr.get_set_same]
theorem Zds {E:Env} {F:Nat→Option Obj} {nx:Nat} {ρ:Ren} {w:World} {H:Tr AObj} (r:Rel E F nx ρ H.get w):∀ {l:List (Nat×AObj)},nod (l.map (·.1))=true→(∀ p∈l,Desc H p.1 p.2)→Rel E F nx ρ (setL l H).get w
 | [],_,_=>r
 | p :: l,hn,h=>by
  have hn':cond ((l.map (·.1)).any (Nat.beq p.1)) false (nod (l.map (·.1)))=true:=hn
  cases ha:(l.map (·.1)).any (Nat.beq p.1) with
  | true=>rw [ha] at hn';cases hn'
  | false =>
  rw [ha,cond_false] at hn'
  have r2:=Zds r hn' fun q hq=>h q (List.mem_cons_of_mem _ hq)
  show Rel E F nx ρ (cond (isGone p.2) ((setL l H).del p.1) ((setL l H).set p.1 p.2)).get w
  cases hgo:isGone p.2 with
  | true=>exact r2.less fun i o hi=>Vv _ _ i o hi
  | false =>
  rw [cond_false]
  obtain ⟨⟨o,ho,hd⟩,hg⟩:=h p (List.mem_cons_self ..)
  refine Zmd r2 ⟨⟨o,?_,hd⟩,hg⟩
  have hne:∀ q∈l,q.1≠p.1:=fun q hq e=>by
   have:(l.map (·.1)).any (Nat.beq p.1)=true:=List.any_eq_true.2 ⟨q.1,List.mem_map.2 ⟨q,hq,rfl⟩,by rw [Nat.beq_eq];exact e.symm⟩
   rw [ha] at this;cases this
  clear r2 hn hn' h ha r
  induction l with
  | nil=>exact ho
  | cons q l ih =>
   rw [Zaj (hne q (List.mem_cons_self ..))]
   exact ih fun x hx=>hne x (List.mem_cons_of_mem _ hx)
theorem WD {H:Tr AObj}:∀ {l:List (Nat×AObj)} {j:Nat},(∀ p∈l,p.1≠j)→(setL l H).get j=H.get j
 | [],_,_=>rfl
 | p :: l,j,h=>by
  rw [Zaj (h p (List.mem_cons_self ..))]
  exact WD fun q hq=>h q (List.mem_cons_of_mem _ hq)
theorem Zmm {H:Tr AObj} {l:List (Nat×AObj)}:∀ {up:List (Nat×AObj)},(∀ p∈l,∃ q∈up,q.1=p.1)→∀ j,(setL up (setL l H)).get j=(setL up H).get j:=by
 intro up h j
 by_cases hj:∃ q∈up,q.1=j
 ·clear h
  induction up with
  | nil=>obtain ⟨q,hq,_⟩:=hj;cases hq
  | cons u up ih =>
   by_cases e:u.1=j
   ·subst e;exact setL_eq
   ·rw [Zaj e,Zaj e]
    obtain ⟨q,hq,hqj⟩:=hj
    rcases List.mem_cons.1 hq with rfl | hq
    ·exact absurd hqj e
    ·exact ih ⟨q,hq,hqj⟩
 ·rw [WD fun q hq e=>hj ⟨q,hq,e⟩,WD fun q hq e=>hj ⟨q,hq,e⟩]
  refine WD fun p hp e=>?_
  obtain ⟨q,hq,h1⟩:=h p hp
  exact hj ⟨q,hq,h1.trans e⟩
noncomputable def HSpec.at (S:HSpec) (x:S.X) (ids:List Nat):HSpec:={ S with find:=fun _ _=>some (x,ids) }
theorem YV {P:Program} {g:FuncId} {S:HSpec} {x:S.X} {ids:List Nat} {os:List AObj} (hS:HEntOK P g (S.at x ids).ent) {H:Tr AObj} {nx:Nat} {args args':List AV} {p:Bool} {v:AV} {up:List (Nat×AObj)} {nx':Nat}
  (hpre:S.pre x) (hsel:S.sel (setL (ids.zip os) H)=true) (hk:ids.length=S.k) (hn:nod ids=true) (hb:belowL nx ids=true) (hlen:os.length=ids.length) (hd:∀ q∈ids.zip os,Desc H q.1 q.2)
  (hargs:vmL (zipN ids S.ng) (S.args x) args') (hm:matO (zipN ids S.ng) (setL (ids.zip os) H) (numL (S.objs x) S.ng))
  (hout:hOut (instH S.ng ids nx (S.out x))=some (p,v,up,nx')) (hup:∀ i∈ids,∃ q∈up,q.1=i)
  {E:Env} {F:Nat→Option Obj} {ρ:Ren} {w:World} (r:Rel E F nx ρ H.get w) (hv:∀ vs,VRL ρ args vs→VRL ρ args' vs):TgtOK P (.fn g args) w ρ (EndsR E F nx ρ (outCR p v (setL up H) nx')):=by
 have hmap:(ids.zip os).map (·.1)=ids:=List.map_fst_zip (by omega)
 have r2:=Zds r (l:=ids.zip os) (by rw [hmap];exact hn) hd
 have hh:=hS (setL (ids.zip os) H) nx args' (.need (S.pre x∧nod ids=true∧belowL nx ids=true∧vmL (zipN ids S.ng) (S.args x) args'∧matO (zipN ids S.ng) (setL (ids.zip os) H) (numL (S.objs x) S.ng)) (instH S.ng ids nx (S.out x)))
  (by
   unfold HSpec.ent
   rw [show (S.at x ids).sel _=true from hsel,cond_true]
   show (cond (Nat.beq ids.length S.k) _ none)=_
   rw [hk,Nat.beq_refl];rfl) p v up nx' ((if_pos ⟨hpre,hn,hb,hargs,hm⟩).trans hout) E F ρ w r2
 refine ⟨hh.1,fun vs hvs=>CallsIn.mono (hh.2 vs (hv vs hvs)) fun e w' he=>?_⟩
 have tr:∀ nx2 ρ2,Rel E F nx2 ρ2 (setL up (setL (ids.zip os) H)).get w'→Rel E F nx2 ρ2 (setL up H).get w':=fun nx2 ρ2 h=>h.less fun j o hj=>by
  rw [Zmm fun q hq=>hup q.1 (by rw [← hmap];exact List.mem_map.2 ⟨q,hq,rfl⟩)];exact hj
 cases p with
 | false =>
  obtain ⟨u,ρ',h1,h2,h3,h4⟩:=he
  exact ⟨u,ρ',h1,h2,tr _ _ h3,h4⟩
 | true =>
  obtain ⟨u,ρ',h1,h2,h3,h4⟩:=he
  exact ⟨u,ρ',h1,h2,tr _ _ h3,h4⟩
end Go.Ev
end
section
/- The symbolic layer: tables of numbers of the library, where no closed call is done apart. -/
namespace Go.Ev
abbrev GZ:=List (Nat×IntKind×List Int)
def TabsIn (gz:GZ) (w:World):Prop:=∀ p∈gz,∃ cs e fz,w.heap[p.1]? = some (.cells cs e fz)∧cs.toList=p.2.2.map fun z=>.int p.2.1 z
theorem tabs_nil {w:World}:TabsIn [] w:=fun _ h=>by cases h
theorem Zm7 {w:World} {gz:GZ} {g:Nat} {k:IntKind} {zs:List Int} (h:∃ cs e fz,w.heap[g]? = some (.cells cs e fz)∧cs.toList=zs.map fun z=>.int k z) (ht:TabsIn gz w):TabsIn ((g,k,zs) :: gz) w:=fun p hp=>by
 rcases List.mem_cons.1 hp with rfl | hp
 ·exact h
 ·exact ht p hp
noncomputable def gzT (gz:GZ):List (Nat×AObj):=gz.map fun p=>(p.1,.glob (p.2.2.map fun z=>.int p.2.1 z))
theorem Zdn {ρ:Ren} (k:IntKind):∀ zs:List Int,VRL ρ (zs.map fun z=>.int k z) (zs.map fun z=>.int k z)
 | []=>.nil
 | z :: zs=>.cons _ _ _ _ (.int k z) (Zdn k zs)
theorem gz_law {gz:GZ} {W:World} (h:TabsIn gz W):∀ g l,(mkH (gzT gz)).get g=some (.glob l)→∃ cs e fz,W.heap[g]? = some (.cells cs e fz)∧∀ ρ',VRL ρ' l cs.toList:=fun g l hg=>by
 obtain ⟨p,hp,he⟩:=List.mem_map.1 (Wq hg)
 injection he with h1 h2
 injection h2 with h2
 obtain ⟨cs,e,fz,h3,h4⟩:=h p hp
 subst h1
 refine ⟨cs,e,fz,h3,fun ρ'=>?_⟩
 rw [h4,← h2]
 exact Zdn _ _
end Go.Ev
end
