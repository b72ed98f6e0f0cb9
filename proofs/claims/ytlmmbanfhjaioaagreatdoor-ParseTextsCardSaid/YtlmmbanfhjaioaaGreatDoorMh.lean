/- Laid by program out of its parts: Sx2, Sx4, SxW, Sx5, Sx6, SxTb. -/
import Derived.Test.YtlmmbanfhjaioaaGreatDoorMj
import Derived.Test.YtlmmbanfhjaioaaGreatDoorMe
import Derived.Test.YtlmmbanfhjaioaaGreatDoorMf
noncomputable section
set_option linter.unusedVariables false
set_option linter.unusedSimpArgs false
section
/- The symbolic layer, part 2: slices.Clone of whole numbers, as a contract of calls that turn objects. -/
namespace Go.Ev
open Go.RowKit Go.Sort Go.Proofs
def VA (a b:AV):Prop:=∀ρ v,VR ρ a v->VR ρ b v
def MC (l m:List AV):Prop:=∀ρ vs,AF ρ l vs->AF ρ m vs
theorem Kf (a:AV):VA a a:=λ_ _ h=>h
theorem Vi:MC [] []:=λ_ _ h=>h
theorem tF (l:List AV):MC l l:=λ_ _ h=>h
theorem Ik {a b:AV} {l m:List AV} (h:VA a b) (q:MC l m):MC (a::l) (b::m):=λρ vs hv=>by
 cases hv with
 |cons _ _ _ _ B y=>exact .cons _ _ _ _ (h _ _ B) (q _ _ y)
theorem AoS {l m:List AV} (h:MC l m):VA (.agg l) (.agg m):=λρ v hv=>by
 cases hv with
 |agg _ _ q=>exact .agg _ _ (h _ _ q)
theorem AoU {e n:Nat} {f g:Nat->List AV} (h:∀i,i<n->MC (f i) (g i)):VA (.vec e n f) (.vec e n g):=λρ v hv=>by
 cases hv with
 |vec _ _ _ b o cap cs el fz J B C q y hc=>exact .vec _ _ _ b o cap cs el fz J B C q (λi hi=>h i hi _ _ (y i hi)) hc
 |G7 _ _ _ E base cap=>exact .G7 _ _ _ E base cap
theorem AoV {e n m:Nat} {f g:Nat->List AV} (hn:n=m) (h:∀i,i<n->f i=g i):VA (.vec e n f) (.vec e m g):=by subst hn;exact AoU λi hi=>by rw[h i hi];exact tF _
theorem AoT (n m:Nat):VA (.str n m) (.bs (BC n m)):=λρ v hv=>by cases hv;exact .bs _
theorem ZQ {P:Program} {g:FuncId} {AE:Tr Ac->List AV->Option Ct} {gl:List (Nat×Ac)} {ng:Nat} (K:∀p∈gl,Hf p.2=true) (h:∀H args ct,AE H args=some ct->(∀p∈gl,H.get p.1=some p.2)/\∃pre v,ct=.A6 pre (.ret v)/\(pre->∃args',MC args args'/\AH [] args' args'/\ ∃(cx:Ctx) (n:Nat),cx.P=P/\P.follows .mixedOrders=true/\DP P cx.tb/\(AG cx n).call g args' (AU gl) ng (Ch P false v))):Ci P g AE:=by
 intro H args ct L p v y;obtain⟨h1,pre,B,rfl,Z⟩:=h H args ct L;obtain⟨M,rfl,rfl⟩:=vb y;obtain⟨args',Y,W,cx,n,V,U,S,R⟩:=Z M
 classical
 have key:Ci P g (λH' J=>if H'=H/\J=args' then some (.A6 True (.ret B))else none):=NG K λH' J aa q=>by
  by_cases C:H'=H/\J=args'
  ·rw[if_pos C]at q;injection q with q;obtain⟨rfl,rfl⟩:=C;exact⟨h1,W,True,B,q.symm,λ_=>⟨cx,n,V,U,S,R⟩⟩
  ·rw[if_neg C]at q;cases q
 intro E F ρ w nx H' O r;have:=key H args' _ (if_pos ⟨rfl,rfl⟩) false B (by show(@ite _ True (Classical.propDecidable _) (some (false,B)) none)=_;exact if_pos trivial) E F ρ w nx H' O r;exact⟨this.1,λvs At=>this.2 vs (Y _ _ At)⟩
end Go.Ev
end
section
/- The symbolic layer, part 4: contracts of contents where own rows are handed on (they stay as they are); maps of whole numbers, rows in them, by content. -/
namespace Go.Ev
open Go.RowKit
theorem LY {pre:Prop} {t:Cv} {x:Bool×AV×List (Nat×Ac)×Nat} (h:hOut (.A6 pre t)=some x):pre/\hOut t=some x:=by
 have q:(open Classical in if pre then hOut t else none)=some x:=h;by_cases y:pre
 ·rw[if_pos y]at q;exact⟨y,q⟩
 ·rw[if_neg y]at q;cases q
end Go.Ev
end
section
/- The symbolic layer, part W: a run over objects of its own numbering, as a contract of calls that turn objects. -/
namespace Go.Ev
open Go.RowKit
def DD (q:Nat->Nat) (k:Nat):AV->AV:=Nat.rec (motive:=λ_=>AV->AV) (λa=>a) (λ_ y a=>match a with
  |.ptr i o=>.ptr (q i) o
  |.sl i a b c=>.sl (q i) a b c
  |.Bw i a b c=>.Bw (q i) a b c
  |.sle i=>.sle (q i)
  |.map i=>.map (q i)
  |.AJ i n e=>.AJ (q i) n e
  |.fn f l m=>.fn f (l.map y) (m.map y)
  |.iface t v=>.iface t (y v)
  |.agg l=>.agg (l.map y)
  |.AL l=>.AL (l.map y)
  |a=>a) k
def JS (k:Nat):AV->Prop:=Nat.rec (motive:=λ_=>AV->Prop) (λ_=>False) (λ_ q a=>match a with
  |.ptr _ _=>True
  |.sl _ _ _ _=>True
  |.Bw _ _ _ _=>True
  |.sle _=>True
  |.map _=>True
  |.AJ _ _ _=>True
  |.fn _ l m=>(∀a∈l,q a)/\∀a∈m,q a
  |.iface _ v=>q v
  |.agg l=>∀a∈l,q a
  |.AL l=>∀a∈l,q a
  |a=>AR [] a a) k
theorem X0 {q ρ2:Af} {f:AV->AV}:∀ {l:List AV} {vs:List Value},(∀a∈l,∀v,VR q a v->VR ρ2 (f a) v)->AF q l vs->AF ρ2 (l.map f) vs
 | [],_,_,.nil=>.nil
 |a::l,_,h,.cons _ v _ vs B y=>.cons _ _ _ _ (h a (List.mem_cons_self ..) v B) (X0 (l:=l) (λb hb=>h b (List.mem_cons_of_mem _ hb)) y)
theorem rW {C ρ2:Af} {L:Nat->Nat} (q:∀i b,C i=some b->ρ2 (L i)=some b) (J:∀b o,C.st b=some o->ρ2.st b=some o):∀(k:Nat) (a:AV) (v:Value),JS k a->VR C a v->VR ρ2 (DD L k a) v
 |0,a,v,h,_=>h.elim
 |k+1,a,v,hc,h=>by
  have E:=rW q J k;have K:AR [] a a->DD L (k+1) a=a->VR ρ2 (DD L (k+1) a) v:=λS R=>by rw[R];exact Kg (XZ J) _ _ _ S h
  cases a with
  |ptr i o=>cases h with|ptr _ _ b hb=>exact .ptr _ _ b (q _ _ hb)
  |sl i x y z=>cases h with|sl _ _ _ _ b hb=>exact .sl _ _ _ _ b (q _ _ hb)
  |Bw i x y z=>cases h with|Bw _ _ _ _ b hb O M=>exact .Bw _ _ _ _ b (q _ _ hb) O M
  |sle i=>cases h with|sle _ b o c hb=>exact .sle _ b o c (q _ _ hb)
  |map i=>cases h with|map _ b hb=>exact .map _ b (q _ _ hb)
  |AJ i n e=>
   cases h with
   |AJ _ _ _ b hb O M=>exact .AJ _ _ _ b (q _ _ hb) O M
   |G5 _ _ _ hn base=>exact .G5 _ _ _ hn base
  |fn f l m=>
   obtain⟨S,R⟩:=hc;cases h with
   |fn _ _ _ va V B U=>exact .fn f _ _ va V (X0 (λa B v hv=>E a v (S a B) hv) B) (X0 (λa B v hv=>E a v (R a B) hv) U)
  |iface t x=>cases h with|iface _ _ u hu=>exact .iface t _ u (E x u hc hu)
  |agg l=>cases h with|agg _ vs At=>exact .agg _ vs (X0 (λa B v hv=>E a v (hc a B) hv) At)
  |AL l=>cases h with|AL _ vs At=>exact .AL _ vs (X0 (λa B v hv=>E a v (hc a B) hv) At)
  |_=>exact K hc rfl
def Cy (q:Nat->Nat) (o:Ac):Ac:=match o with
 |.cells el .leaf (.CC l) n op=>.cells el .leaf (.CC (l.map (DD q 4))) n op
 |o=>o
def HA (o:Ac):Prop:=match o with
 |.cells _ .leaf (.CC l) _ _=>∀a∈l,JS 4 a
 |.cells _ .leaf (.rows e f) n _=>∀i,i*e<n->AH [] (f i) (f i)
 |.Ix _ _ _ _=>True
 |_=>False
theorem AjK {C ρ2:Af} {M:Nat->Nat} (U:∀i b,C i=some b->ρ2 (M i)=some b) (L:∀b o,C.st b=some o->ρ2.st b=some o) {b:CM} {a:Ac} {o:Obj} (Z:Gt a=false) (hc:HA a) (h:OR C b a o):OR ρ2 b (Cy M a) o:=by
 unfold HA at hc;split at hc
 ·rename_i el l n op;cases h with
  |cells _ _ _ _ _ cs fz C0 hn E J q=>refine .cells _ _ _ _ _ cs fz C0 hn E J λk a O K=>?_;rw[FJ]at K;have y:(l.map (DD M 4))[k %(l.map (DD M 4)).length]? =some a:=K;rw[List.length_map,List.getElem?_map,Option.map_eq_some_iff]at y;obtain⟨x,W,rfl⟩:=y;obtain⟨v,S,R⟩:=q k x O (by rw[FJ];exact W);exact⟨v,S,rW U L 4 x v (hc x (List.mem_of_getElem? W)) R⟩
 ·rename_i el e f n op;cases h with
  |cells _ _ _ _ _ cs fz C0 hn E J q=>refine .cells _ _ _ _ _ cs fz C0 hn E J λk a O K=>?_;obtain⟨v,S,R⟩:=q k a O K;rw[FJ]at K;have y:(f (k/e))[k %e]? =some a:=K;have V:k/e*e<n:=Nat.lt_of_le_of_lt (Nat.div_mul_le_self k e) O;obtain⟨b',B,Y⟩:=tK (hc _ V) _ _ y;rw[y]at B;injection B with B;subst B;exact⟨v,S,Kg (XZ L) _ _ _ Y R⟩
 ·cases Z
 ·exact hc.elim
def A0 (l:List Ac):Nat->List (Nat×Ac):=List.rec (motive:=λ_=>Nat->List (Nat×Ac)) (λ_=>[]) (λo _ q n=>(n,o)::fN (n+1) q) l
theorem oh (o:Ac) (l:List Ac) (n:Nat):A0 (o::l) n=(n,o)::A0 l (n+1):=by show(n,o)::fN (n+1) (A0 l)=_;rw[Bu]
theorem Aar:∀ {l:List Ac} {n i:Nat} {o:Ac},(i,o)∈A0 l n->∃j,i=n+j/\l[j]? =some o
 | [],n,i,o,h=>by cases h
 |x::l,n,i,o,h=>by
  rw[oh]at h;rcases List.mem_cons.1 h with h|h
  ·injection h with y q;exact⟨0,y,by rw[q];rfl⟩
  ·obtain⟨j,y,q⟩:=Aar h;exact⟨j+1,by omega,q⟩
theorem Aaq:∀(l:List Ac) (n j:Nat),(AU (A0 l n)).get (n+j)=l[j]?
 | [],n,j=>by show(Tr.leaf:Tr Ac).get _=_;rw[Tr.Em];rfl
 |o::l,n,j=>by
  rw[oh];show((AU (A0 l (n+1))).set n o).get (n+j)=_;rw[Tr.F6];cases j with
  |zero=>rw[if_pos (by omega)];rfl
  |succ j=>rw[if_neg (by omega),show n+(j+1)=(n+1)+j by omega,Aaq l (n+1) j];rfl
def QX (l:List (Nat×Ac)):List (Nat×Ac):=List.rec (motive:=λ_=>List (Nat×Ac)) [] (λp _ q=>cond (Gt p.2) q (p::q)) l
theorem QY:∀(l:List Ac) (n j:Nat) {o:Ac},l[j]? =some o->Gt o=false->(AU (QX (A0 l n))).get (n+j)=some o
 | [],n,j,o,h,_=>by cases h
 |x::l,n,j,o,h,y=>by
  rw[oh];show(AU (cond (Gt x) (QX (A0 l (n+1))) ((n,x)::QX (A0 l (n+1))))).get (n+j)=_;cases j with
  |zero=>injection h with h;subst h;rw[y,cond_false];exact Tr.F7 _ _ _
  |succ j=>
   have q:=QY l (n+1) j (o:=o) h y;rw[show n+1+j=n+(j+1) by omega]at q;cases B:Gt x with
   |true=>rw[cond_true];exact q
   |false=>rw[cond_false];show((AU (QX (A0 l (n+1)))).set n x).get (n+(j+1))=_;rw[Tr.Ks _ (by omega)];exact q
def CL (ids:List Nat):Nat->List (Nat×Nat):=List.rec (motive:=λ_=>Nat->List (Nat×Nat)) (λ_=>[]) (λi _ q n=>(n,i)::fN (n+1) q) ids
theorem Adf (i:Nat) (l:List Nat) (n:Nat):CL (i::l) n=(n,i)::CL l (n+1):=by show(n,i)::fN (n+1) (CL l)=_;rw[Bu]
theorem Sg:∀(ids:List Nat) (n c:Nat),sg (CL ids n) c=if n<=c then ids[c-n]? else none
 | [],n,c=>by show none=_;split<;>simp
 |i::l,n,c=>by
  rw[Adf];show cond (Nat.beq n c) (some i) (sg (CL l (n+1)) c)=_;cases hb:Nat.beq n c with
  |true=>have:=Nat.eq_of_beq_eq_true hb;subst this;simp
  |false=>
   have y:n≠c:=λe=>by subst e;rw[Nat.beq_refl]at hb;cases hb
   rw[cond_false,Sg l (n+1) c];by_cases q:n<=c
   ·rw[if_pos (by omega),if_pos q,show c-n=(c-(n+1))+1 by omega];rfl
   ·rw[if_neg (by omega),if_neg q]
theorem P2 {H:Tr Ac}:∀ {l:List (Nat×Ac)} {i:Nat} {o:Ac},(Ck l H).get i=some o->((i,o)∈l/\Gt o=false)\/((∀o',(i,o')∉l)/\H.get i=some o)
 | [],i,o,h=>.inr ⟨λ_ h=>(by cases h),h⟩
 |p::l,i,o,h=>by
  have h':(cond (Gt p.2) ((Ck l H).del p.1) ((Ck l H).set p.1 p.2)).get i=some o:=h;by_cases hi:p.1=i
  ·cases q:Gt p.2 with
   |true=>rw[q,cond_true,Tr.H4,if_pos hi]at h';cases h'
   |false=>rw[q,cond_false,Tr.F6,if_pos hi]at h';injection h' with h';exact .inl ⟨by rw[<-hi,<-h'];exact List.mem_cons_self ..,by rw[<-h'];exact q⟩
  ·have h':(Ck l H).get i=some o:=by
    cases q:Gt p.2 with
    |true=>rw[q,cond_true,Tr.H4,if_neg hi]at h';exact h'
    |false=>rw[q,cond_false,Tr.F6,if_neg hi]at h';exact h'
   rcases P2 h' with⟨B,E⟩|⟨B,C⟩
   ·exact .inl ⟨List.mem_cons_of_mem _ B,E⟩
   ·exact .inr ⟨λo' y=>by
     rcases List.mem_cons.1 y with e|y
     ·exact hi (by rw[<-e])
     ·exact B o' y,C⟩
def BI (ng:Nat) (q:List Nat) (c:Nat):Nat:=cond (Nat.ble ng c) (q.getD (c-ng) c) c
open Classical in
def NM (ρ:Af) (w:World) (ids:List Nat):Nat->Option Obj:=λb=>if∃id∈ids,∃q,ρ id=some q/\q.b=b then none else w.heap[b]?
theorem AfO (q:Nat->Nat) (o:Ac):Gt (Cy q o)=Gt o:=by unfold Cy;split<;>rfl
theorem AgZ {E:Env} {F:Nat->Option Obj} {nx:Nat} {ρ:Af} {H:Tr Ac} {w w':World} (r:Rel E F nx ρ H.get w) {ids:List Nat} (ag:∀id∈ids,∃o,H.get id=some o) (aL:∀id∈ids,id<nx) {ng m:Nat} {os:List Ac} (aP:os.length=ids.length+m) (aD:∀o∈os,HA o) {L:Af} (r3:Rel (Gs E ρ) (NM ρ w ids) (ng+ids.length+m) L (AU (QX (A0 os ng))).get w') (aI:∀b o,ρ.st b=some o->L.st b=some o) (ay:∀i,i<ng+ids.length->L i=Mn (CL ids ng) ρ i): ∃J,RX nx (nx+m) ρ J/\Rel E F (nx+m) J (Ck ((ids++List.range' nx m).zip (os.map (Cy (BI ng (ids++List.range' nx m))))) H).get w'/\ (∀i b,L i=some b->J (BI ng (ids++List.range' nx m) i)=some b)/\∀b o,L.st b=some o->J.st b=some o:=by
 have ah:(ids++List.range' nx m).length=ids.length+m:=by simp
 have aj:∀j,j<ids.length->(ids++List.range' nx m)[j]? =ids[j]?:=λj hj=>by rw[List.getElem?_append_left hj]
 have ai:∀j,ids.length<=j->j<ids.length+m->(ids++List.range' nx m)[j]? =some (nx+(j-ids.length)):=λj C B=>by rw[List.getElem?_append_right C,List.getElem?_range' (by omega)];simp
 generalize hT:ids++List.range' nx m=K at ah aj ai;let J:Af:=⟨λj=>if nx<=j/\j<nx+m then L (ng+ids.length+(j-nx))else ρ j,L.st⟩;have aF:∀j,nx<=j->j<nx+m->J j=L (ng+ids.length+(j-nx)):=λj C B=>if_pos ⟨C,B⟩;have V:∀j,¬(nx<=j/\j<nx+m)->J j=ρ j:=λj h=>if_neg h;have aJ:∀j,j<ids.length->Mn (CL ids ng) ρ (ng+j)=(ids[j]?).bind ρ.nm:=λj hj=>by show(sg (CL ids ng) (ng+j)).bind ρ.nm=_;rw[Sg,if_pos (by omega),Nat.add_sub_cancel_left]
 have q:∀j t,K[j]? =some t->J t=L (ng+j)/\(j<ids.length->t∈ids):=λj t ht=>by
  have hj:j<ids.length+m:=by rw[<-ah];exact(List.getElem?_eq_some_iff.1 ht).1
  by_cases C:j<ids.length
  ·rw[aj j C]at ht;have hm:=List.mem_of_getElem? ht;have:=aL t hm;refine⟨?_,λ_=>hm⟩;rw[V t (by omega),ay (ng+j) (by omega),aJ j C,ht];rfl
  ·rw[ai j (by omega) hj]at ht;injection ht with ht;subst ht;refine⟨?_,λh=>absurd h C⟩;rw[aF _ (by omega) (by omega)];congr 1;omega
 have aw:∀i b,L i=some b->J (BI ng K i)=some b:=λi b hb=>by
  have aQ:i<ng+ids.length+m:=by
   rcases Nat.lt_or_ge i (ng+ids.length+m)with h|h
   ·exact h
   ·rw[r3.new i h]at hb;cases hb
  have an:ng<=i:=by
   rcases Nat.lt_or_ge i ng with h|h
   ·rw[ay i (by omega)]at hb;have aE:(sg (CL ids ng) i).bind ρ.nm=some b:=hb;rw[Sg,if_neg (by omega)]at aE;cases aE
   ·exact h
  obtain⟨j,rfl⟩:∃j,i=ng+j:=⟨i-ng,by omega⟩;have aM:j<K.length:=by rw[ah];omega
  have ht:K[j]? =some K[j]:=List.getElem?_eq_getElem aM;have:BI ng K (ng+j)=K[j]:=by unfold BI;rw[show Nat.ble ng (ng+j)=true from Nat.ble_eq_true_of_le (by omega),cond_true,Nat.add_sub_cancel_left,List.getD_eq_getElem?_getD,ht];rfl
  rw[this,(q j _ ht).1];exact hb
 have az:ρ.le J:=⟨λi b hb=>by
  have:i<nx:=by
   rcases Nat.lt_or_ge i nx with h|h
   ·exact h
   ·rw[r.new i h]at hb;cases hb
  rw[V i (by omega)];exact hb,aI⟩
 have Y:∀i o,(i,o)∈K.zip (os.map (Cy (BI ng K)))->Gt o=false->∃j W,K[j]? =some i/\os[j]? =some W/\o=Cy (BI ng K) W/\Gt W=false:=λi o hm aB=>by
  obtain⟨j,hj,he⟩:=List.getElem_of_mem hm;rw[List.getElem_zip]at he;injection he with C B;simp only[List.length_zip,List.length_map]at hj;have R:o=Cy (BI ng K) (os[j]'(by omega)):=by rw[<-B,List.getElem_map]
  exact⟨j,os[j]'(by omega),by rw[<-C];exact List.getElem?_eq_getElem _,List.getElem?_eq_getElem _,R,by rw[R,AfO]at aB;exact aB⟩
 have aA:∀j t,K[j]? =some t->∃o,(t,o)∈K.zip (os.map (Cy (BI ng K))):=λj t ht=>by
  have hj:=(List.getElem?_eq_some_iff.1 ht);obtain⟨C,B⟩:=hj;have S:j<(K.zip (os.map (Cy (BI ng K)))).length:=by simp;omega
  refine⟨(os.map (Cy (BI ng K)))[j]'(by simp;omega),?_⟩;have:=List.getElem_mem S;rw[List.getElem_zip,B]at this;exact this
 have au:∀t,t∈ids->∃j:Nat,K[j]? =some t:=λt ht=>by obtain⟨j,hj,he⟩:=List.getElem_of_mem ht;exact⟨j,by rw[aj j hj,List.getElem?_eq_getElem hj,he]⟩
 have y:∀i o b,(∀o',(i,o')∉K.zip (os.map (Cy (BI ng K))))->H.get i=some o->J i=some b->ρ i=some b/\NM ρ w ids b.b=w.heap[b.b]?:=λi o b C B S=>by
  have aK:¬(nx<=i/\i<nx+m):=λ⟨R,U⟩=>by obtain⟨o',al⟩:=aA (ids.length+(i-nx)) i (by rw[ai _ (by omega) (by omega)];congr 1;omega);exact C o' al
  rw[V i aK]at S;refine⟨S,if_neg ?_⟩;rintro⟨id,ae,ar,R,U⟩;obtain⟨Z,ak⟩:=ag id ae;have:=r.inj id i Z o ar b ak B R S U;subst this;obtain⟨j,hj⟩:=au id ae;obtain⟨o',al⟩:=aA j id hj;exact C o' al
 have hF:∀b o,F b=some o->NM ρ w ids b=some o:=λb o hb=>by
  show(if _ then _ else _)=_;rw[if_neg]
  ·exact r.fr b o hb
  ·rintro⟨id,ae,ar,R,U⟩;obtain⟨Z,ak⟩:=ag id ae;have:=r.dj id Z ar ak R;rw[U,hb]at this;cases this
 have aC:∀b o o',NM ρ w ids b=some o->L.st b=some o'->∃aa,ρ.st b=some aa:=λb o o' C B=>by
  have:=r3.sf b o o' C B;simp only[Gs,decide_eq_true_eq,ne_eq]at this;cases hs:ρ.st b with
  |none=>exact absurd hs this
  |some aa=>exact⟨aa,rfl⟩
 refine⟨J,⟨az,λi hi=>V i (by omega),Nat.le_add_right _ _⟩,⟨r3.tape,r3.os,r3.output,λb o hb=>r3.fr b o (hF b o hb),λi o b hi hb=>?_,λi o b hi hb=>?_,λi i2 o Z b b2 hi an hb ab e=>?_,λi hi=>?_,λg l hg=>?_,r.bs,r3.st,λi o b hi hb=>?_,λb o o' C B=>?_⟩,aw,λ_ _ h=>h⟩
 ·rcases P2 hi with⟨h,M⟩|⟨C,B⟩
  ·obtain⟨j,W,S,R,rfl,O⟩:=Y i o h M;obtain⟨c,U,h6⟩:=r3.ob (ng+j) W b (QY os ng j R O) (by rw[<-(q j i S).1];exact hb);exact⟨c,U,AjK aw (λ_ _ h=>h) O (aD W (List.mem_of_getElem? R)) h6⟩
  ·obtain⟨S,R⟩:=y i o b C B hb;obtain⟨c,U,h6⟩:=r.ob i o b B S;exact⟨c,r3.fr _ _ (R.trans U),h6.mono az⟩
 ·rcases P2 hi with⟨h,M⟩|⟨C,B⟩
  ·obtain⟨j,W,S,R,rfl,O⟩:=Y i o h M;have U:=r3.dj (ng+j) W b (QY os ng j R O) (by rw[<-(q j i S).1];exact hb);cases aN:F b.b with
   |none=>rfl
   |some x=>rw[hF _ _ aN]at U;cases U
  ·exact r.dj i o b B (y i o b C B hb).1
 ·have av:∀i i2 o Z b b2,(i,o)∈K.zip (os.map (Cy (BI ng K)))->Gt o=false->(∀o',(i2,o')∉K.zip (os.map (Cy (BI ng K))))->H.get i2=some Z->J i=some b->J i2=some b2->b.b=b2.b->False:=λi i2 o Z b b2 h M C B hb ab e=>by obtain⟨j,W,S,R,rfl,O⟩:=Y i o h M;have U:=r3.dj (ng+j) W b (QY os ng j R O) (by rw[<-(q j i S).1];exact hb);obtain⟨h6,h7⟩:=y i2 Z b2 C B ab;obtain⟨c,h8,_⟩:=r.ob i2 Z b2 B h6;rw[e,h7,h8]at U;cases U
  rcases P2 hi with⟨h,M⟩|⟨C,B⟩
  ·rcases P2 an with⟨h',ad⟩|⟨aq,af⟩
   ·obtain⟨j,W,S,R,_,O⟩:=Y i o h M;obtain⟨j',aH,ao,aO,_,aG⟩:=Y i2 Z h' ad;have:=r3.inj (ng+j) (ng+j') W aH b b2 (QY os ng j R O) (QY os ng j' aO aG) (by rw[<-(q j i S).1];exact hb) (by rw[<-(q j' i2 ao).1];exact ab) e;have:j=j':=by omega
    subst this;rw[S]at ao;injection ao
   ·exact(av i i2 o Z b b2 h M aq af hb ab e).elim
  ·rcases P2 an with⟨h',ad⟩|⟨aq,af⟩
   ·exact(av i2 i Z o b2 b h' ad C B ab hb e.symm).elim
   ·exact r.inj i i2 o Z b b2 B af (y i o b C B hb).1 (y i2 Z b2 aq af ab).1 e
 ·rw[V i (by omega)];exact r.new i (by omega)
 ·rcases P2 hg with⟨h,M⟩|⟨C,B⟩
  ·obtain⟨j,W,S,R,U,O⟩:=Y g _ h M;have hc:=aD W (List.mem_of_getElem? R);unfold HA at hc;split at hc
   ·cases U
   ·cases U
   ·cases O
   ·exact hc.elim
  ·exact r.gl g l B
 ·rcases P2 hi with⟨h,M⟩|⟨C,B⟩
  ·obtain⟨j,W,S,R,rfl,O⟩:=Y i o h M;exact r3.sd (ng+j) W b (QY os ng j R O) (by rw[<-(q j i S).1];exact hb)
  ·obtain⟨S,R⟩:=y i o b C B hb;obtain⟨c,U,_⟩:=r.ob i o b B S;cases hs:L.st b.b with
   |none=>rfl
   |some o'=>obtain⟨aa,h6⟩:=aC b.b c o' (R.trans U) hs;rw[r.sd i o b B S]at h6;cases h6
 ·obtain⟨aa,S⟩:=aC b o o' (hF b o C) B;exact r.sf b o aa C S
inductive HO:Type 1 where
 |ret (v:AV) (os:List Ac) (m:Nat)
 |AA (v:AV) (os:List Ac) (m:Nat)
 |br (b:Bool) (t e:HO)
 |gen {α:Type} (a:α) (f:α->HO)
structure Ea where
 X:Type
 gl:List (Nat×Ac)
 G2:Tr Ac->Bool
 ng:Nat
 k:Nat
 args:X->List AV
 Dv:X->List Ac
 pre:X->Prop
 out:X->HO
 fz:Nat
 find:Tr Ac->List AV->Option (X×List Nat)
def Ky (q:List (Nat×Nat)) (H:Tr Ac) (l:List (Nat×Ac)):Prop:=List.rec (motive:=λ_=>Prop) True (λp _ y=>(match sg q p.1 with
  |none=>False
  |some j=>match H.get j with
   |none=>False
   |some o=>Ed q p.2 o)/\y) l
theorem zg {y:List (Nat×Nat)} {H:Tr Ac}:∀ {l:List (Nat×Ac)},Ky y H l->∀p∈l,∃j o,sg y p.1=some j/\H.get j=some o/\Ed y p.2 o
 | [],_,p,hp=>by cases hp
 |q::l,h,p,hp=>by
  have h':(match sg y q.1 with
   |none=>False
   |some j=>match H.get j with
    |none=>False
    |some o=>Ed y q.2 o)/\Ky y H l:=h
  rcases List.mem_cons.1 hp with rfl|hp
  ·have B:=h'.1;split at B
   ·exact B.elim
   ·rename_i j E;split at B
    ·exact B.elim
    ·rename_i o C;exact⟨j,o,E,C,B⟩
  ·exact zg h'.2 p hp
def LO (nx:Nat) (ids:List Nat):Bool:=ids.all λi=>Nat.blt i nx
def EY.{u} {q:Type u} (n:Nat) (k:Nat->q):q:=Nat.rec (motive:=λ_=>q) (k 0) (λm _=>k (m+1)) n
theorem FL.{u} {q:Type u} (n:Nat) (k:Nat->q):EY n k=k n:=by cases n<;>rfl
def FM (ng:Nat) (ids:List Nat) (nx:Nat) (o:HO):Cv:=HO.rec (motive:=λ_=>Cv) (λv os m=>EY (nx+m) λn=>(λq=>Cv.ret (DD (BI ng q) 4 v) (q.zip (os.map (Cy (BI ng q)))) n) (ids++List.range' nx m)) (λv os m=>EY (nx+m) λn=>(λq=>Cv.AA (DD (BI ng q) 4 v) (q.zip (os.map (Cy (BI ng q)))) n) (ids++List.range' nx m)) (λb _ _ y C=>.br b y C) (λa _ B=>.gen a B) o
def Ea.AE (S:Ea):Da:=λH nx args=>cond (S.G2 H) (ob (S.find H args) λp=>cond (Nat.beq p.2.length S.k) (some (.A6 (S.pre p.1/\Jy p.2=true/\LO nx p.2=true/\AH (CL p.2 S.ng) (S.args p.1) args/\Ky (CL p.2 S.ng) H (A0 (S.Dv p.1) S.ng)) (FM S.ng p.2 nx (S.out p.1)))) none) none
theorem AjT {E:Env} {F:Nat->Option Obj} {nx:Nat} {ρ:Af} {w:World} {H:Tr Ac} (r:Rel E F nx ρ H.get w) {ids:List Nat} (hi:Fb H ids) {id el n Ar N:Nat} {f:Nat->List AV} {op:Bool} {h':List AV} (R:id∈ids) (Y:H.get id=some (.cells el .leaf (.rows Ar f) N op)) (hN:n*Ar<=N) (K:Ds Ar n f=true) (hh:∀vs,AF ρ (f 0) vs->AF (CO ρ w ids) h' vs) {v:Value} (hv:VR ρ (.AJ id n Ar) v): VR (CO ρ w ids) (.vec Ar n λi=>cond (Nat.beq i 0) h' (f i)) v:=by
 have O:=(Kr r hi).1.le;cases hv with
 |G5 _ _ _ hn _=>exact .G7 _ _ _ hn _ _
 |AJ _ _ _ b hb U hl=>
  obtain⟨c,hc,M⟩:=r.ob _ _ b Y hb;cases M with
  |cells _ _ _ _ _ cs fz C0 hn aa ad B=>
   have L:(CO ρ w ids).st b.b=some (.cells cs el fz):=(Tn R hb).trans hc;have J:n<=b.cap/Ar:=by rw[Nat.le_div_iff_mul_le U];exact hl
   unfold Ds at K;simp only[decide_eq_true_eq]at K;have y:∀i,∃vs,i<n->AF ρ (f i) vs/\∀j v,vs[j]? =some v->cs[b.ob+i*Ar+j]? =some v:=λi=>by
    by_cases q:i<n
    ·have V:=K i q;unfold Ot at V;obtain⟨h2,_⟩:=A4 V;rw[Nat.beq_eq]at h2;have Z:(i+1)*Ar<=n*Ar:=Nat.mul_le_mul_right _ q;rw[Nat.succ_mul]at Z;obtain⟨vs,h3,h4⟩:=AF.TP (ρ:=ρ) (l:=f i) (λj v=>cs[b.ob+i*Ar+j]? =some v) λj a S=>by have ab:=(List.getElem?_eq_some_iff.1 S).1;obtain⟨v,hv,W⟩:=B (i*Ar+j) a (by omega) (by rw[FJ,PZ (i:=i) (j:=j) (by omega) _ rfl];exact S);exact⟨v,by rw[Nat.add_assoc];exact hv,W⟩
     exact⟨vs,λ_=>⟨h3,h4⟩⟩
    ·exact⟨[],λh=>absurd h q⟩
   refine .vec _ _ _ b.b b.ob _ cs el fz (λi=>Classical.choose (y i)) L U J (λi q=>?_) (λi q=>(Classical.choose_spec (y i) q).2);cases C:Nat.beq i 0 with
   |true=>rw[Nat.beq_eq]at C;subst C;exact hh _ (Classical.choose_spec (y 0) q).1
   |false=>exact(Classical.choose_spec (y i) q).1.mono O
def nM (P:Program) (H:Tr Ac) (v:AV):FR:=match v with
 |.AJ id n Ar=>ob (H.get id) λo=>match o with
  |.cells _ c z N _=>match c,z with
   |.leaf,.rows e f=>gd (Nat.beq e Ar) (ob (LW (Jr P H) (f 0)) λr=>some (cond r.1 (cond (Nat.ble (n*Ar) N) (Ds Ar n f) false) false,.vec Ar n (λi=>cond (Nat.beq i 0) r.2.1 (f i)),[],id::r.2.2.2))
   |_,_=>none
  |_=>none
 |_=>Jr P H v
theorem AfC {P:Program} {E:Env} {F:Nat->Option Obj} {nx:Nat} {ρ:Af} {w:World} {H:Tr Ac} (r:Rel E F nx ρ H.get w) {v K:AV} {z:List FZ} {ids:List Nat} (h:nM P H v=some (true,K,z,ids)) {u:Value} (hv:VR ρ v u): Fb H ids/\VR (CO ρ w ids) K u:=by
 unfold nM at h;split at h
 ·rename_i id n Ar;obtain⟨o,L,B⟩:=Ae.1 h;split at B
  ·rename_i el c z0 N op;split at B
   ·rename_i e f;obtain⟨M,V⟩:=AK.1 B;rw[Nat.beq_eq]at M;subst M;obtain⟨⟨b,h',fz,C⟩,U,y⟩:=Ae.1 V;injection y with y;injection y with S y;injection y with R y;injection y with e3 O;simp only at S R O;obtain⟨e5,e6⟩:=A4 S;obtain⟨e7,Z⟩:=A4 e6;subst e5;subst R;subst O;obtain⟨Y,_,W⟩:=MO (QF r) _ _ _ _ U;have q:Fb H (id::C):=λi hi=>by
     rcases List.mem_cons.1 hi with rfl|hi
     ·exact⟨_,L⟩
     ·exact Y i hi
    exact⟨q,AjT r q (List.mem_cons_self ..) L (Nat.le_of_ble_eq_true e7) Z (λvs At=>W _ q (λi hi=>List.mem_cons_of_mem _ hi) vs At) hv⟩
   ·cases B
  ·cases B
 ·obtain⟨q,_,J⟩:=QF r _ _ _ _ h;exact⟨q,J ids q (λ_ h=>h) u hv⟩
def Z7 (fz:Nat) (P:Program) (H:Tr Ac) (v:AV):FR:=match fz with
 |0=>some (true,v,[],[])
 |1=>Jr P H v
 |_=>nM P H v
def WW (P:Program) (fz:Nat) (nk:Nat) (y:AV) (os:List Ac) (m ng:Nat) (v:AV) (H:Tr Ac) (n:Nat):Prop:=A7 (Z7 fz P H v) λq=>Ap q.1 (fN (nk+m) λB=>B5 nk 1 B [(0,y)] (QX (A0 os ng)) ⟨1,Tr.leaf.set 0 q.2.1,CW H q.2.2.2,n,none,[]⟩)
def Cz (P:Program) (fz:Nat) (ng nk:Nat) (o:HO):KC:=HO.rec (motive:=λ_=>KC) (λq os m r=>match r with
   |.mk v H n=>WW P fz nk q os m ng v H n
   |_=>False)
  (λq os m r=>match r with
   |.AA v H n=>WW P fz nk q os m ng v H n
   |_=>False)
  (λb _ _ y C r=>Ad b (y r) (C r)) (λa _ B r=>B a r) o
def LQ (k:Nat):HO->Prop
 |.ret v os m=>JS 4 v/\os.length=k+m/\∀o∈os,HA o
 |.AA v os m=>JS 4 v/\os.length=k+m/\∀o∈os,HA o
 |.br b t e=>(b=true->LQ k t)/\(b=false->LQ k e)
 |.gen a f=>LQ k (f a)
theorem bT {P:Program} {fz:Nat} {ng nk k nx:Nat} {ids:List Nat}:∀ {o:HO} {p:Bool} {v:AV} {up:List (Nat×Ac)} {nx':Nat},hOut (FM ng ids nx o)=some (p,v,up,nx')->LQ k o-> ∃q os m,v=DD (BI ng (ids++List.range' nx m)) 4 q/\up=(ids++List.range' nx m).zip (os.map (Cy (BI ng (ids++List.range' nx m))))/\nx'=nx+m/\(JS 4 q/\os.length=k+m/\∀o∈os,HA o)/\ ∀r,Cz P fz ng nk o r->∃M O n1,r=Hh p M O n1/\WW P fz nk q os m ng M O n1
 |.ret q os m,p,v,up,nx',h,hc=>by
  have h':(EY (nx+m) λn=>hOut (Cv.ret (DD (BI ng (ids++List.range' nx m)) 4 q) ((ids++List.range' nx m).zip (os.map (Cy (BI ng (ids++List.range' nx m))))) n))=some (p,v,up,nx'):=by rw[FL];have y:hOut (EY (nx+m) λn=>(λK=>Cv.ret (DD (BI ng K) 4 q) (K.zip (os.map (Cy (BI ng K)))) n) (ids++List.range' nx m))=some (p,v,up,nx'):=h;rw[FL]at y;exact y
  rw[FL]at h';injection h' with h';injection h' with J h';injection h' with y h';injection h' with E C;subst J;refine⟨q,os,m,y.symm,E.symm,C.symm,hc,λr B=>?_⟩;cases r with
  |mk v H n=>exact⟨v,H,n,rfl,B⟩
  |AA _ _ _=>exact B.elim
  |Dc _ _ _ _=>exact B.elim
 |.AA q os m,p,v,up,nx',h,hc=>by
  have h':(EY (nx+m) λn=>hOut (Cv.AA (DD (BI ng (ids++List.range' nx m)) 4 q) ((ids++List.range' nx m).zip (os.map (Cy (BI ng (ids++List.range' nx m))))) n))=some (p,v,up,nx'):=by rw[FL];have y:hOut (EY (nx+m) λn=>(λK=>Cv.AA (DD (BI ng K) 4 q) (K.zip (os.map (Cy (BI ng K)))) n) (ids++List.range' nx m))=some (p,v,up,nx'):=h;rw[FL]at y;exact y
  rw[FL]at h';injection h' with h';injection h' with J h';injection h' with y h';injection h' with E C;subst J;refine⟨q,os,m,y.symm,E.symm,C.symm,hc,λr B=>?_⟩;cases r with
  |AA v H n=>exact⟨v,H,n,rfl,B⟩
  |mk _ _ _=>exact B.elim
  |Dc _ _ _ _=>exact B.elim
 |.br b t e,p,v,up,nx',h,hc=>by
  have h':cond b (hOut (FM ng ids nx t)) (hOut (FM ng ids nx e))=some (p,v,up,nx'):=h;cases b with
  |true=>obtain⟨q,os,m,J,y,E,C,L⟩:=bT (P:=P) (fz:=fz) (nk:=nk) h' (hc.1 rfl);exact⟨q,os,m,J,y,E,C,λr B=>L r B⟩
  |false=>obtain⟨q,os,m,J,y,E,C,L⟩:=bT (P:=P) (fz:=fz) (nk:=nk) h' (hc.2 rfl);exact⟨q,os,m,J,y,E,C,λr B=>L r B⟩
 |.gen a f,p,v,up,nx',h,hc=>by have h':hOut (FM ng ids nx (f a))=some (p,v,up,nx'):=h;obtain⟨q,os,m,J,y,E,C,L⟩:=bT (P:=P) (fz:=fz) (nk:=nk) (o:=f a) h' hc;exact⟨q,os,m,J,y,E,C,λr B=>L r B⟩
theorem AfH {P:Program} {E:Env} {F:Nat->Option Obj} {nx:Nat} {ρ:Af} {w:World} {H:Tr Ac} (r:Rel E F nx ρ H.get w) {fz:Nat} {v C:AV} {z:List FZ} {ids:List Nat} (h:Z7 fz P H v=some (true,C,z,ids)) {u:Value} (hv:VR ρ v u): ∃B,RX nx nx ρ B/\Rel E F nx B (CW H ids).get w/\VR B C u:=by
 unfold Z7 at h;split at h
 ·injection h with h;injection h with _ h;injection h with M h;injection h with O L;subst M;subst L;exact⟨ρ,RX.refl _ _,r,hv⟩
 ·obtain⟨q,_,y⟩:=QF r v C z ids h;obtain⟨K,J⟩:=Kr r q;exact⟨_,K,J,y ids q (λ_ h=>h) u hv⟩
 ·obtain⟨q,y⟩:=AfC r h hv;obtain⟨K,J⟩:=Kr r q;exact⟨_,K,J,y⟩
set_option maxHeartbeats 1000000 in
theorem JZ {P:Program} {g:FuncId} (S:Ea) (aR:∀p∈S.gl,Hf p.2=true/\p.1<S.ng) (ay:∀H,S.G2 H=true->∀p∈S.gl,H.get p.1=some p.2) (hk:∀x,(S.Dv x).length=S.k) (aM:∀x,∀o∈S.Dv x,Hf o=false) (aS:∀x,S.pre x->LQ S.k (S.out x)) (az:∀x,S.pre x->∃call:FuncId->List AV->Tr Ac->Nat->KC->Prop,K2 P call/\call g (S.args x) (AU (S.gl++A0 (S.Dv x) S.ng)) (S.ng+S.k) (Cz P S.fz S.ng (S.ng+S.k) (S.out x))):AD P g S.AE:=by
 intro H nx args hc J p v up nx' aB E F ρ w r;unfold Ea.AE at J;cases hs:S.G2 H with
 |false=>rw[hs]at J;cases J
 |true=>
 rw[hs,cond_true]at J;obtain⟨⟨x,ids⟩,a4,K⟩:=Ae.1 J;cases hl:Nat.beq ids.length S.k with
 |false=>rw[hl]at K;cases K
 |true=>
 rw[hl]at K;have U:=Nat.eq_of_beq_eq_true hl;injection K with K;subst K;have O:(@ite _ (S.pre x/\Jy ids=true/\LO nx ids=true/\AH (CL ids S.ng) (S.args x) args/\Ky (CL ids S.ng) H (A0 (S.Dv x) S.ng)) (Classical.propDecidable _) (hOut (FM S.ng ids nx (S.out x))) none)=some (p,v,up,nx'):=aB;split at O
 case isFalse=>cases O
 rename_i hp;obtain⟨ae,aC,aE,an,aD⟩:=hp;obtain⟨v0,os,m,rfl,rfl,rfl,⟨aV,aU,aT⟩,aA⟩:=bT (P:=P) (fz:=S.fz) (nk:=S.ng+S.k) O (aS x ae);have aO:∀id∈ids,id<nx:=λid B=>by have:=List.all_eq_true.1 aE id B;rwa[Nat.blt_eq]at this
 have af:∀j o,(S.Dv x)[j]? =some o->∃id o',ids[j]? =some id/\H.get id=some o'/\Ed (CL ids S.ng) o o':=λj o hj=>by
  have hm:(S.ng+j,o)∈A0 (S.Dv x) S.ng:=by have:=Aaq (S.Dv x) S.ng j;rw[hj]at this;exact MY this
  obtain⟨id,o',K,q,R⟩:=zg aD _ hm;have av:sg (CL ids S.ng) (S.ng+j)=some id:=K;rw[Sg,if_pos (by omega),Nat.add_sub_cancel_left]at av;exact⟨id,o',av,q,R⟩
 have ag:∀id∈ids,∃o,H.get id=some o:=λid B=>by
  obtain⟨j,hj,rfl⟩:=List.getElem_of_mem B;have aP:j<(S.Dv x).length:=by rw[hk,<-U];exact hj
  obtain⟨ai,o',K,q,_⟩:=af j _ (List.getElem?_eq_getElem aP);rw[List.getElem?_eq_getElem hj]at K;injection K with K;exact⟨o',by rw[K];exact q⟩
 have ar:∀i o,(AU (S.gl++A0 (S.Dv x) S.ng)).get i=some o->(i,o)∈S.gl\/∃j,i=S.ng+j/\(S.Dv x)[j]? =some o:=λi o h=>by
  rcases List.mem_append.1 (MY h)with h|h
  ·exact .inl h
  ·exact .inr (Aar h)
 have ad:∀i b,Mn (CL ids S.ng) ρ i=some b->∃j id,i=S.ng+j/\ids[j]? =some id/\ρ id=some b:=λi b h=>by
  have h':(sg (CL ids S.ng) i).bind ρ.nm=some b:=h;rw[Sg]at h';split at h'
  ·rename_i hi;cases B:ids[i-S.ng]? with
   |none=>rw[B]at h';cases h'
   |some id=>rw[B]at h';exact⟨i-S.ng,id,by omega,B,h'⟩
  ·cases h'
 have Y:∀i o b,(AU (S.gl++A0 (S.Dv x) S.ng)).get i=some o->Mn (CL ids S.ng) ρ i=some b->∃j id o',i=S.ng+j/\ids[j]? =some id/\ρ id=some b/\H.get id=some o'/\Ed (CL ids S.ng) o o':=λi o b hi hb=>by
  obtain⟨j,id,rfl,q,R⟩:=ad i b hb;rcases ar _ o hi with h|⟨Z,V,h5⟩
  ·exact absurd (aR _ h).2 (by show¬S.ng+j<S.ng;omega)
  ·have:Z=j:=by omega
   subst this;obtain⟨ai,o',h6,h7,h8⟩:=af Z o h5;rw[q]at h6;injection h6 with h6;subst h6;exact⟨Z,id,o',rfl,q,R,h7,h8⟩
 have ab:∀j Z id:Nat,ids[j]? =some id->ids[Z]? =some id->j=Z:=λj Z id K q=>by
  have e1:sg (CL ids S.ng) (S.ng+j)=some id:=by rw[Sg,if_pos (by omega),Nat.add_sub_cancel_left];exact K
  have e2:sg (CL ids S.ng) (S.ng+Z)=some id:=by rw[Sg,if_pos (by omega),Nat.add_sub_cancel_left];exact q
  have hz:∀(l:List Nat) (n:Nat),(CL l n).map (·.2)=l:=by
   intro l
   induction l with
   |nil=>intro n;rfl
   |cons a l ih=>intro n;rw[Adf,List.map_cons,ih]
  have:=od (l:=CL ids S.ng) (by rw[hz];exact aC) _ (U7 e1) _ (U7 e2) rfl;injection this with this;omega
 have aY:∀b o,F b=some o->NM ρ w ids b=some o:=λb o hb=>by
  show(if _ then _ else _)=_;rw[if_neg]
  ·exact r.fr b o hb
  ·rintro⟨id,B,aa,V,h5⟩;obtain⟨o2,aN⟩:=ag id B;have:=r.dj id o2 aa aN V;rw[h5,hb]at this;cases this
 have r0:Rel (Gs E ρ) (NM ρ w ids) (S.ng+S.k) (Mn (CL ids S.ng) ρ) (AU (S.gl++A0 (S.Dv x) S.ng)).get w:=by
  refine⟨r.tape,r.os,r.output,λb o hb=>?_,λi o b hi hb=>?_,λi o b hi hb=>?_,λi i2 o o2 b b2 hi aQ hb aW e=>?_,λi hi=>?_,λg l hg=>?_,λb o hb=>aY b o (r.bs b o hb),r.st,λi o b hi hb=>?_,λb o o' K q=>?_⟩
  ·have h':(if∃id∈ids,∃aa,ρ id=some aa/\aa.b=b then none else w.heap[b]?)=some o:=hb;split at h'
   ·cases h'
   ·exact h'
  ·obtain⟨j,id,o',rfl,q,R,V,h5⟩:=Y i o b hi hb;obtain⟨c,h6,h7⟩:=r.ob id o' b V R;exact⟨c,h6,AaL (rV _ ρ) h5 h7⟩
  ·obtain⟨j,id,o',rfl,q,R,V,h5⟩:=Y i o b hi hb;exact if_pos ⟨id,List.mem_of_getElem? q,b,R,rfl⟩
  ·obtain⟨j,id,o',rfl,q,R,V,_⟩:=Y i o b hi hb;obtain⟨Z,ai,aH,rfl,a3,a2,aZ,_⟩:=Y i2 o2 b2 aQ aW;have:=r.inj id ai o' aH b b2 V aZ R a2 e;subst this;rw[ab j Z id q a3]
  ·cases hn:Mn (CL ids S.ng) ρ i with
   |none=>rfl
   |some b=>obtain⟨j,id,rfl,q,_⟩:=ad i b hn;have:=(List.getElem?_eq_some_iff.1 q).1;omega
  ·rcases ar g _ hg with h|⟨j,_,h5⟩
   ·exact r.gl g l (ay H hs _ h)
   ·have:=aM x _ (List.mem_of_getElem? h5);cases this
  ·obtain⟨j,id,o',rfl,q,R,V,h5⟩:=Y i o b hi hb;exact r.sd id o' b V R
  ·simp only[Gs,decide_eq_true_eq,ne_eq];intro e;rw[show ρ.st b=some o' from q]at e;cases e
 obtain⟨call,al,aj⟩:=az x ae;have Am:=al g (S.args x) _ _ _ aj _ _ _ w r0;refine⟨Am.1,λvs At=>CallsIn.mono (Am.2 vs (OB (rV (CL ids S.ng) ρ) _ _ _ an At)) λe w' he=>?_⟩;obtain⟨aG,aL,ah⟩:=he;obtain⟨v1,H1,n1,rfl,ak⟩:=aA aG aL;have fin:∀u C,RX (S.ng+S.k) n1 (Mn (CL ids S.ng) ρ) C->Rel (Gs E ρ) (NM ρ w ids) n1 C H1.get w'->VR C v1 u-> ∃y,RX nx (nx+m) ρ y/\Rel E F (nx+m) y (Ck ((ids++List.range' nx m).zip (os.map (Cy (BI S.ng (ids++List.range' nx m))))) H).get w'/\VR y (DD (BI S.ng (ids++List.range' nx m)) 4 v0) u:=by
  intro u C L r1 W;obtain⟨⟨s1,qv,qz,qi⟩,hq,q⟩:=BG ak;obtain⟨R,V⟩:=Eh.1 q;simp only at R;subst R;rw[Bu]at V;obtain⟨ρ2,ao,r2,aI⟩:=AfH r1 hq W;have aX:SR (Gs E ρ) (NM ρ w ids) ρ2 ⟨1,Tr.leaf.set 0 qv,CW H1 qi,n1,none,[]⟩ ⟨#[u],[]⟩ w' none:=by
   refine⟨r2,λt a ht=>?_,rfl,.nil,.none⟩;have M:((Tr.leaf:Tr AV).set 0 qv).get t=some a:=ht;rw[Tr.F6]at M;split at M
   ·rename_i e;injection M with M;subst M;subst e;exact⟨u,rfl,aI⟩
   ·rw[Tr.Em]at M;cases M
  obtain⟨_,aF,au,aq⟩:=fS V aX;obtain⟨u',aK,aJ⟩:=aq.tr 0 v0 (by show(TI [(0,v0)]).get 0=some v0;exact Tr.F7 _ _ _);have aw:u=u':=by simpa using aK
  subst aw;have r3:Rel (Gs E ρ) (NM ρ w ids) (S.ng+ids.length+m) aF (AU (QX (A0 os S.ng))).get w':=by rw[U];exact aq.rel
  obtain⟨y,g1,g2,g3,g4⟩:=AgZ r ag aO (ng:=S.ng) (m:=m) (os:=os) (by rw[U];exact aU) aT r3 (λb o h=>au.st b o (ao.le.st b o (L.le.st b o h))) (λi hi=>by rw[U]at hi;rw[au.lo i hi,ao.lo i (Nat.lt_of_lt_of_le hi L.nn),L.lo i hi]);exact⟨y,g1,g2,rW g3 g4 4 v0 u aV aJ⟩
 cases p with
 |false=>obtain⟨u,C,rfl,L,r1,W⟩:=ah;obtain⟨y,g1,g2,g3⟩:=fin u C L r1 W;exact⟨u,y,rfl,g1,g2,g3⟩
 |true=>obtain⟨u,C,rfl,L,r1,W⟩:=ah;obtain⟨y,g1,g2,g3⟩:=fin u C L r1 W;exact⟨u,y,rfl,g1,g2,g3⟩
end Go.Ev
end
section
/- A run by itself, whose answer is a row with own rows in its head: a contract by content. -/
namespace Go.Ev
open Go
end Go.Ev
end
section
/- Contracts whose outcomes are contents, not turned; runs that end in something stronger. -/
namespace Go.Ev
theorem lH {P:Program} {call:FuncId->List AV->Tr Ac->Nat->KC->Prop} (h:K2 P call):K2 P λg args H nx K=>∃q:KC,(∀r,q r->K r)/\call g args H nx q:=by intro g args H nx K hc E F ρ w r;obtain⟨q,B,hc⟩:=hc;have ht:=h g args H nx q hc E F ρ w r;exact⟨ht.1,λvs At=>CallsIn.mono (ht.2 vs At) λe w' y=>by obtain⟨r,J,C⟩:=y;exact⟨r,B r J,C⟩⟩
def GO (ids:List Nat) (nx:Nat) (o:HO):Cv:=HO.rec (motive:=λ_=>Cv) (λv os m=>EY (nx+m) λn=>Cv.ret v ((ids++List.range' nx m).zip os) n) (λv os m=>EY (nx+m) λn=>Cv.AA v ((ids++List.range' nx m).zip os) n) (λb _ _ q B=>.br b q B) (λa _ y=>.gen a y) o
def Ea.NF (S:Ea):Da:=λH nx args=>cond (S.G2 H) (ob (S.find H args) λp=>cond (Nat.beq p.2.length S.k) (some (.A6 (S.pre p.1/\Jy p.2=true/\LO nx p.2=true/\AH (CL p.2 S.ng) (S.args p.1) args/\Ky (CL p.2 S.ng) H (A0 (S.Dv p.1) S.ng)) (GO p.2 nx (S.out p.1)))) none) none
theorem Aew {P:Program} {g:FuncId} (S:Ea) (O:∀x ids nx,S.pre x->hOut (GO ids nx (S.out x))=hOut (FM S.ng ids nx (S.out x))) (h:AD P g S.AE):AD P g S.NF:=by
 intro H nx args hc y;unfold Ea.NF at y;cases C:S.G2 H with
 |false=>rw[C]at y;cases y
 |true=>
 rw[C,cond_true]at y;obtain⟨q,E,J⟩:=Ae.1 y;cases L:Nat.beq q.2.length S.k with
 |false=>rw[L]at J;cases J
 |true=>
 rw[L]at J;injection J with J;subst J;intro p v up nx' K;refine h H nx args _ (by unfold Ea.AE;rw[C,cond_true,E];show cond (Nat.beq q.2.length S.k) _ _=_;rw[L];rfl) p v up nx' ?_;have B:(@ite _ (S.pre q.1/\Jy q.2=true/\LO nx q.2=true/\AH (CL q.2 S.ng) (S.args q.1) args/\Ky (CL q.2 S.ng) H (A0 (S.Dv q.1) S.ng)) (Classical.propDecidable _) (hOut (GO q.2 nx (S.out q.1))) none)=some (p,v,up,nx'):=K;show(@ite _ (S.pre q.1/\Jy q.2=true/\LO nx q.2=true/\AH (CL q.2 S.ng) (S.args q.1) args/\Ky (CL q.2 S.ng) H (A0 (S.Dv q.1) S.ng)) (Classical.propDecidable _) (hOut (FM S.ng q.2 nx (S.out q.1))) none)=_;split at B
 ·rename_i M;rw[if_pos M,<-O _ _ _ M.1];exact B
 ·cases B
theorem AfR {P:Program} {g:FuncId} (S:Ea) (C:∀p∈S.gl,Hf p.2=true/\p.1<S.ng) (q:∀H,S.G2 H=true->∀p∈S.gl,H.get p.1=some p.2) (M:∀x,(S.Dv x).length=S.k) (B:∀x,∀o∈S.Dv x,Hf o=false) (E:∀x,S.pre x->LQ S.k (S.out x)) (J:∀x ids nx,S.pre x->hOut (GO ids nx (S.out x))=hOut (FM S.ng ids nx (S.out x))) (y:∀x,S.pre x->∃(cx:Ctx) (fuel:Nat) (K:KC),cx.P=P/\cx.P.follows .mixedOrders=true/\DP cx.P cx.tb/\(∀r,K r->Cz P S.fz S.ng (S.ng+S.k) (S.out x) r)/\(AG cx fuel).call g (S.args x) (AU (S.gl++A0 (S.Dv x) S.ng)) (S.ng+S.k) K):AD P g S.NF:=by refine Aew S J (JZ S C q M B E λx L=>?_);obtain⟨cx,fuel,K,e,V,U,R,O⟩:=y x L;exact⟨_,lH (e▸Is V U fuel),K,R,O⟩
structure Kh (H:Tr Ac) (i:Nat) (o':Ac):Prop where
 d:∃o,H.get i=some o/\∀ρ b c,OR ρ b o c->OR ρ b o' c
 g:Hf o'=false
theorem AjE {E:Env} {F:Nat->Option Obj} {nx:Nat} {ρ:Af} {H:Tr Ac} {w:World} (r:Rel E F nx ρ H.get w) {i:Nat} {o':Ac} (hd:Kh H i o'):Rel E F nx ρ (H.set i o').get w:=by
 obtain⟨⟨o,M,h⟩,S⟩:=hd;have key:∀j x,(H.set i o').get j=some x->(j=i/\x=o')\/(j≠i/\H.get j=some x):=λj x q=>by
  rw[Tr.F6]at q;split at q
  ·rename_i e;injection q with q;exact .inl ⟨e.symm,q.symm⟩
  ·rename_i e;exact .inr ⟨λh=>e h.symm,q⟩
 have B:∀j x,(H.set i o').get j=some x->∃y,H.get j=some y:=λj x q=>by
  rcases key j x q with⟨rfl,_⟩|⟨_,h⟩
  ·exact⟨o,M⟩
  ·exact⟨x,h⟩
 refine⟨r.tape,r.os,r.output,r.fr,λj x b q hb=>?_,λj x b q hb=>?_,λj k x y b V q hy hb L e=>?_,r.new,λg l q=>?_,r.bs,r.st,λj x b q hb=>?_,r.sf⟩
 ·rcases key j x q with⟨rfl,rfl⟩|⟨_,C⟩
  ·obtain⟨c,C,U⟩:=r.ob j o b M hb;exact⟨c,C,h ρ b c U⟩
  ·exact r.ob j x b C hb
 ·obtain⟨y,hy⟩:=B j x q;exact r.dj j y b hy hb
 ·obtain⟨R,K⟩:=B j x q;obtain⟨O,J⟩:=B k y hy;exact r.inj j k R O b V K J hb L e
 ·rcases key g _ q with⟨_,rfl⟩|⟨_,C⟩
  ·cases S
  ·exact r.gl g l C
 ·obtain⟨y,hy⟩:=B j x q;exact r.sd j y b hy hb
theorem fH {H:Tr Ac} {p:Nat×Ac} {l:List (Nat×Ac)} {j:Nat} (h:p.1≠j):(Ck (p::l) H).get j=(Ck l H).get j:=by
 show(cond (Gt p.2) ((Ck l H).del p.1) ((Ck l H).set p.1 p.2)).get j=_;cases Gt p.2 with
 |true=>rw[cond_true,Tr.H4,if_neg h]
 |false=>rw[cond_false,Tr.Ks _ h]
theorem AnT {H H':Tr Ac} {p:Nat×Ac} {l q:List (Nat×Ac)}:(Ck (p::l) H).get p.1=(Ck (p::q) H').get p.1:=by
 show(cond (Gt p.2) ((Ck l H).del p.1) ((Ck l H).set p.1 p.2)).get p.1=(cond (Gt p.2) ((Ck q H').del p.1) ((Ck q H').set p.1 p.2)).get p.1;cases Gt p.2 with
 |true=>rw[cond_true,cond_true,Tr.H4,if_pos rfl,Tr.H4,if_pos rfl]
 |false=>rw[cond_false,cond_false,Tr.F7,Tr.F7]
theorem Abi {E:Env} {F:Nat->Option Obj} {nx:Nat} {ρ:Af} {w:World} {H:Tr Ac} (r:Rel E F nx ρ H.get w):∀ {l:List (Nat×Ac)},Jy (l.map (·.1))=true->(∀p∈l,Kh H p.1 p.2)->Rel E F nx ρ (Ck l H).get w
 | [],_,_=>r
 |p::l,hn,h=>by
  have y:cond ((l.map (·.1)).any (Nat.beq p.1)) false (Jy (l.map (·.1)))=true:=hn;cases C:(l.map (·.1)).any (Nat.beq p.1)with
  |true=>rw[C]at y;cases y
  |false=>
  rw[C,cond_false]at y;have J:=Abi r y λq K=>h q (List.mem_cons_of_mem _ K);show Rel E F nx ρ (cond (Gt p.2) ((Ck l H).del p.1) ((Ck l H).set p.1 p.2)).get w;cases S:Gt p.2 with
  |true=>exact J.less λi o hi=>Z9 _ _ i o hi
  |false=>
  rw[cond_false];obtain⟨⟨o,O,hd⟩,R⟩:=h p (List.mem_cons_self ..);refine AjE J ⟨⟨o,?_,hd⟩,R⟩;have B:∀q∈l,q.1≠p.1:=λq K e=>by have:(l.map (·.1)).any (Nat.beq p.1)=true:=List.any_eq_true.2 ⟨q.1,List.mem_map.2 ⟨q,K,rfl⟩,by rw[Nat.beq_eq];exact e.symm⟩;rw[C]at this;cases this
  clear J hn y h C r
  induction l with
  |nil=>exact O
  |cons q l L=>rw[fH (B q (List.mem_cons_self ..))];exact L λx M=>B x (List.mem_cons_of_mem _ M)
theorem XP {H:Tr Ac}:∀ {l:List (Nat×Ac)} {j:Nat},(∀p∈l,p.1≠j)->(Ck l H).get j=H.get j
 | [],_,_=>rfl
 |p::l,j,h=>by rw[fH (h p (List.mem_cons_self ..))];exact XP λq y=>h q (List.mem_cons_of_mem _ y)
theorem AnU {H:Tr Ac} {l:List (Nat×Ac)}:∀ {up:List (Nat×Ac)},(∀p∈l,∃q∈up,q.1=p.1)->∀j,(Ck up (Ck l H)).get j=(Ck up H).get j:=by
 intro up h j;by_cases B:∃q∈up,q.1=j
 ·clear h
  induction up with
  |nil=>obtain⟨q,y,_⟩:=B;cases y
  |cons u up E=>
   by_cases e:u.1=j
   ·subst e;exact AnT
   ·rw[fH e,fH e];obtain⟨q,y,C⟩:=B;rcases List.mem_cons.1 y with rfl|y
    ·exact absurd C e
    ·exact E ⟨q,y,C⟩
 ·rw[XP λq y e=>B ⟨q,y,e⟩,XP λq y e=>B ⟨q,y,e⟩];refine XP λp J e=>?_;obtain⟨q,y,K⟩:=h p J;exact B ⟨q,y,K.trans e⟩
def Ea.at (S:Ea) (x:S.X) (ids:List Nat):Ea:={S with find:=λ_ _=>some (x,ids)}
theorem NO {P:Program} {g:FuncId} {S:Ea} {x:S.X} {ids:List Nat} {os:List Ac} (hS:AD P g (S.at x ids).AE) {H:Tr Ac} {nx:Nat} {args args':List AV} {p:Bool} {v:AV} {up:List (Nat×Ac)} {nx':Nat} (L:S.pre x) (K:S.G2 (Ck (ids.zip os) H)=true) (hk:ids.length=S.k) (hn:Jy ids=true) (hb:LO nx ids=true) (aa:os.length=ids.length) (hd:∀q∈ids.zip os,Kh H q.1 q.2) (J:AH (CL ids S.ng) (S.args x) args') (hm:Ky (CL ids S.ng) (Ck (ids.zip os) H) (A0 (S.Dv x) S.ng)) (M:hOut (FM S.ng ids nx (S.out x))=some (p,v,up,nx')) (W:∀i∈ids,∃q∈up,q.1=i) {E:Env} {F:Nat->Option Obj} {ρ:Af} {w:World} (r:Rel E F nx ρ H.get w) (hv:∀vs,AF ρ args vs->AF ρ args' vs):LK P (.fn g args) w ρ (Nv E F nx ρ (Hh p v (Ck up H) nx')):=by
 have y:(ids.zip os).map (·.1)=ids:=List.map_fst_zip (by omega);have r2:=Abi r (l:=ids.zip os) (by rw[y];exact hn) hd;have Y:=hS (Ck (ids.zip os) H) nx args' (.A6 (S.pre x/\Jy ids=true/\LO nx ids=true/\AH (CL ids S.ng) (S.args x) args'/\Ky (CL ids S.ng) (Ck (ids.zip os) H) (A0 (S.Dv x) S.ng)) (FM S.ng ids nx (S.out x))) (by unfold Ea.AE;rw[show(S.at x ids).G2 _=true from K,cond_true];show(cond (Nat.beq ids.length S.k) _ none)=_;rw[hk,Nat.beq_refl];rfl) p v up nx' ((if_pos ⟨L,hn,hb,J,hm⟩).trans M) E F ρ w r2;refine⟨Y.1,λvs At=>CallsIn.mono (Y.2 vs (hv vs At)) λe w' Z=>?_⟩;have tr:∀C ρ2,Rel E F C ρ2 (Ck up (Ck (ids.zip os) H)).get w'->Rel E F C ρ2 (Ck up H).get w':=λC ρ2 h=>h.less λj o hj=>by rw[AnU λq hq=>W q.1 (by rw[<-y];exact List.mem_map.2 ⟨q,hq,rfl⟩)];exact hj
 cases p with
 |false=>obtain⟨u,B,V,U,R,O⟩:=Z;exact⟨u,B,V,U,tr _ _ R,O⟩
 |true=>obtain⟨u,B,V,U,R,O⟩:=Z;exact⟨u,B,V,U,tr _ _ R,O⟩
end Go.Ev
end
section
/- The symbolic layer: tables of numbers of the library, where no closed call is done apart. -/
namespace Go.Ev
abbrev GZ:=List (Nat×IntKind×List Int)
def VU (q:GZ) (w:World):Prop:=∀p∈q,∃cs e fz,w.heap[p.1]? =some (.cells cs e fz)/\cs.toList=p.2.2.map λz=>.int p.2.1 z
theorem Aot {w:World}:VU [] w:=λ_ h=>by cases h
theorem Aor {w:World} {y:GZ} {g:Nat} {k:IntKind} {q:List Int} (h:∃cs e fz,w.heap[g]? =some (.cells cs e fz)/\cs.toList=q.map λz=>.int k z) (ht:VU y w):VU ((g,k,q)::y) w:=λp hp=>by
 rcases List.mem_cons.1 hp with rfl|hp
 ·exact h
 ·exact ht p hp
def xw (q:GZ):List (Nat×Ac):=q.map λp=>(p.1,.Js (p.2.2.map λz=>.int p.2.1 z))
theorem yk {ρ:Af} (k:IntKind):∀q:List Int,AF ρ (q.map λz=>.int k z) (q.map λz=>.int k z)
 | []=>.nil
 |z::q=>.cons _ _ _ _ (.int k z) (yk k q)
theorem AfQ {B:GZ} {W:World} (h:VU B W):∀g l,(AU (xw B)).get g=some (.Js l)->∃cs e fz,W.heap[g]? =some (.cells cs e fz)/\∀q,AF q l cs.toList:=λg l C=>by obtain⟨p,hp,E⟩:=List.mem_map.1 (MY C);injection E with L y;injection y with y;obtain⟨cs,e,fz,K,J⟩:=h p hp;subst L;refine⟨cs,e,fz,K,λq=>?_⟩;rw[J,<-y];exact yk _ _
end Go.Ev
end
end
