/- Laid by program out of its parts: Sx2, Sx4, SxW, Sx5, Sx6, SxTb. -/
import Derived.Test.YtlmmbanfhjaioaaGreatDoorMj
import Derived.Test.YtlmmbanfhjaioaaGreatDoorMe
import Derived.Test.YtlmmbanfhjaioaaGreatDoorMf
noncomputable section
set_option linter.unusedVariables false
set_option linter.unusedSimpArgs false
section
namespace Go.Ev
open Go.RowKit Go.Sort Go.Proofs
def VA (a b:AV):Prop:=∀ρ v,VR ρ a v->VR ρ b v
def NH (l m:Aj):Prop:=∀ρ vs,AG ρ l vs->AG ρ m vs
theorem PH (a:AV):VA a a:=λ_ _ h=>h
theorem Rm:NH [] []:=λ_ _ h=>h
theorem nP (l:Aj):NH l l:=λ_ _ h=>h
theorem Kl {a b:AV} {l m:Aj} (h:VA a b) (q:NH l m):NH (a::l) (b::m):=λρ vs hv=>by
 cases hv with
 |cons _ _ _ _ B y=>exact .cons _ _ _ _ (h _ _ B) (q _ _ y)
theorem Ali {e n:Nat} {f g:Nat->Aj} (h:∀i,i<n->NH (f i) (g i)):VA (.vec e n f) (.vec e n g):=λρ v hv=>by
 cases hv with
 |vec _ _ _ b o cap cs el fz J B C q y hc=>exact .vec _ _ _ b o cap cs el fz J B C q (λi hi=>h i hi _ _ (y i hi)) hc
 |Gt _ _ _ E base cap=>exact .Gt _ _ _ E base cap
theorem zO {e n m:Nat} {f g:Nat->Aj} (hn:n=m) (h:∀i,i<n->f i=g i):VA (.vec e n f) (.vec e m g):=by subst hn;exact Ali λi hi=>by rw[h i hi];exact nP _
theorem Alh (n m:Nat):VA (.str n m) (.bs (BB n m)):=λρ v hv=>by cases hv;exact .bs _
theorem OV {P:Program} {g:FuncId} {AJ:Tr Ae->Aj->Option Ct} {gl:List (Nat×Ae)} {ng:Nat} (K:∀p∈gl,H8 p.2=true) (h:∀H args ct,AJ H args=some ct->(∀p∈gl,H.get p.1=some p.2)/\∃pre v,ct=.Be pre (.ret v)/\(pre->∃args',NH args args'/\Ba [] args' args'/\ ∃(cx:Ctx) (n:Nat),cx.P=P/\P.follows .mixedOrders=true/\EY P cx.tb/\(A4 cx n).call g args' (Bx gl) ng (Cb P false v))):Ck P g AJ:=by
 intro H args ct L p v y;obtain⟨h1,pre,B,rfl,Z⟩:=h H args ct L;obtain⟨M,rfl,rfl⟩:=ph y;obtain⟨args',Y,W,cx,n,V,U,S,R⟩:=Z M
 classical
 have key:Ck P g (λH' J=>if H'=H/\J=args' then some (.Be True (.ret B))else none):=NN K λH' J aa q=>by
  by_cases C:H'=H/\J=args'
  ·rw[Am C]at q;injection q with q;obtain⟨rfl,rfl⟩:=C;exact⟨h1,W,True,B,q.symm,λ_=>⟨cx,n,V,U,S,R⟩⟩
  ·rw[Ad C]at q;cases q
 intro E F ρ w nx H' O r;have:=key H args' _ (Am ⟨rfl,rfl⟩) false B (by show(@ite _ True (Classical.propDecidable _) (some (false,B)) none)=_;exact Am trivial) E F ρ w nx H' O r;exact⟨this.1,λvs Ax=>this.2 vs (Y _ _ Ax)⟩
end Go.Ev
end
section
namespace Go.Ev
open Go.RowKit
theorem NU {pre:Prop} {t:C4} {x:Bool×AV×List (Nat×Ae)×Nat} (h:hOut (.Be pre t)=some x):pre/\hOut t=some x:=by
 have q:(open Classical in if pre then hOut t else none)=some x:=h;by_cases y:pre
 ·rw[Am y]at q;exact⟨y,q⟩
 ·rw[Ad y]at q;cases q
end Go.Ev
end
section
namespace Go.Ev
open Go.RowKit
def D2 (q:Nat->Nat) (k:Nat):AV->AV:=Nat.rec (motive:=λ_=>AV->AV) (λa=>a) (λ_ y a=>match a with
  |.ptr i o=>.ptr (q i) o
  |.sl i a b c=>.sl (q i) a b c
  |.BF i a b c=>.BF (q i) a b c
  |.sle i=>.sle (q i)
  |.map i=>.map (q i)
  |.AY i n e=>.AY (q i) n e
  |.fn f l m=>.fn f (l.map y) (m.map y)
  |.iface t v=>.iface t (y v)
  |.agg l=>.agg (l.map y)
  |.AO l=>.AO (l.map y)
  |a=>a) k
def L0 (k:Nat):AV->Prop:=Nat.rec (motive:=λ_=>AV->Prop) (λ_=>False) (λ_ q a=>match a with
  |.ptr _ _=>True
  |.sl _ _ _ _=>True
  |.BF _ _ _ _=>True
  |.sle _=>True
  |.map _=>True
  |.AY _ _ _=>True
  |.fn _ l m=>(∀a∈l,q a)/\∀a∈m,q a
  |.iface _ v=>q v
  |.agg l=>∀a∈l,q a
  |.AO l=>∀a∈l,q a
  |a=>AZ [] a a) k
theorem WO {q ρ2:Ai} {f:AV->AV}:∀ {l:Aj} {vs:List Value},(∀a∈l,∀v,VR q a v->VR ρ2 (f a) v)->AG q l vs->AG ρ2 (l.map f) vs
 | [],_,_,.nil=>.nil
 |a::l,_,h,.cons _ v _ vs C y=>.cons _ _ _ _ (h a (BN ..) v C) (WO (l:=l) (λb B=>h b (Ca _ B)) y)
theorem ly {E ρ2:Ai} {M:Nat->Nat} (q:∀i b,E i=some b->ρ2 (M i)=some b) (K:∀b o,E.st b=some o->ρ2.st b=some o):∀(k:Nat) (a:AV) (v:Value),L0 k a->VR E a v->VR ρ2 (D2 M k a) v
 |0,a,v,h,_=>h.elim
 |k+1,a,v,hc,h=>by
  have J:=ly q K k;have L:AZ [] a a->D2 M (k+1) a=a->VR ρ2 (D2 M (k+1) a) v:=λU S=>by rw[S];exact Km (UA K) _ _ _ U h
  cases a with
  |ptr i o=>cases h with|ptr _ _ b B=>exact .ptr _ _ b (q _ _ B)
  |sl i x y z=>cases h with|sl _ _ _ _ b B=>exact .sl _ _ _ _ b (q _ _ B)
  |BF i x y z=>cases h with|BF _ _ _ _ b B R O=>exact .BF _ _ _ _ b (q _ _ B) R O
  |sle i=>cases h with|sle _ b o c B=>exact .sle _ b o c (q _ _ B)
  |map i=>cases h with|map _ b B=>exact .map _ b (q _ _ B)
  |AY i n e=>
   cases h with
   |AY _ _ _ b B R O=>exact .AY _ _ _ b (q _ _ B) R O
   |He _ _ _ hn base=>exact .He _ _ _ hn base
  |fn f l m=>
   obtain⟨U,S⟩:=hc;cases h with
   |fn _ _ _ va W C V=>exact .fn f _ _ va W (WO (λa C v hv=>J a v (U a C) hv) C) (WO (λa C v hv=>J a v (S a C) hv) V)
  |iface t x=>cases h with|iface _ _ u Y=>exact .iface t _ u (J x u hc Y)
  |agg l=>cases h with|agg _ vs Ax=>exact .agg _ vs (WO (λa C v hv=>J a v (hc a C) hv) Ax)
  |AO l=>cases h with|AO _ vs Ax=>exact .AO _ vs (WO (λa C v hv=>J a v (hc a C) hv) Ax)
  |_=>exact L hc rfl
def CP (q:Nat->Nat) (o:Ae):Ae:=match o with
 |.cells el .leaf (.Dw l) n op=>.cells el .leaf (.Dw (l.map (D2 q 4))) n op
 |o=>o
def IX (o:Ae):Prop:=match o with
 |.cells _ .leaf (.Dw l) _ _=>∀a∈l,L0 4 a
 |.cells _ .leaf (.rows e f) n _=>∀i,i*e<n->Ba [] (f i) (f i)
 |.IA _ _ _ _=>True
 |_=>False
theorem AgJ {C ρ2:Ai} {M:Nat->Nat} (U:∀i b,C i=some b->ρ2 (M i)=some b) (L:∀b o,C.st b=some o->ρ2.st b=some o) {b:C3} {a:Ae} {o:Obj} (Z:GH a=false) (hc:IX a) (h:OR C b a o):OR ρ2 b (CP M a) o:=by
 unfold IX at hc;split at hc
 ·rename_i el l n op;cases h with
  |cells _ _ _ _ _ cs fz Dt hn E J q=>refine .cells _ _ _ _ _ cs fz Dt hn E J λk a O K=>?_;rw[Gz]at K;have y:(l.map (D2 M 4))[k %(l.map (D2 M 4)).length]? =some a:=K;rw[FL,HB,Option.map_eq_some_iff]at y;obtain⟨x,W,rfl⟩:=y;obtain⟨v,S,R⟩:=q k x O (by rw[Gz];exact W);exact⟨v,S,ly U L 4 x v (hc x (List.mem_of_getElem? W)) R⟩
 ·rename_i el e f n op;cases h with
  |cells _ _ _ _ _ cs fz Dt hn E J q=>refine .cells _ _ _ _ _ cs fz Dt hn E J λk a O K=>?_;obtain⟨v,S,R⟩:=q k a O K;rw[Gz]at K;have y:(f (k/e))[k %e]? =some a:=K;have V:k/e*e<n:=Nat.lt_of_le_of_lt (Nat.div_mul_le_self k e) O;obtain⟨b',B,Y⟩:=nS (hc _ V) _ _ y;rw[y]at B;injection B with B;subst B;exact⟨v,S,Km (UA L) _ _ _ Y R⟩
 ·cases Z
 ·exact hc.elim
def Cl (l:List Ae):Nat->List (Nat×Ae):=List.rec (motive:=λ_=>Nat->List (Nat×Ae)) (λ_=>[]) (λo _ q n=>(n,o)::fN (n+1) q) l
theorem kP (o:Ae) (l:List Ae) (n:Nat):Cl (o::l) n=(n,o)::Cl l (n+1):=by show(n,o)::fN (n+1) (Cl l)=_;rw[Bv]
theorem vo:∀ {l:List Ae} {n i:Nat} {o:Ae},(i,o)∈Cl l n->∃j,i=n+j/\l[j]? =some o
 | [],n,i,o,h=>by cases h
 |x::l,n,i,o,h=>by
  rw[kP]at h;rcases CS.1 h with h|h
  ·injection h with y q;exact⟨0,y,by rw[q];rfl⟩
  ·obtain⟨j,y,q⟩:=vo h;exact⟨j+1,by omega,q⟩
theorem vn:∀(l:List Ae) (n j:Nat),(Bx (Cl l n)).get (n+j)=l[j]?
 | [],n,j=>by show(Tr.leaf:Tr Ae).get _=_;rw[Tr.EK];rfl
 |o::l,n,j=>by
  rw[kP];show((Bx (Cl l (n+1))).set n o).get (n+j)=_;rw[Tr.Hl];cases j with
  |zero=>rw[Am (by omega)];rfl
  |succ j=>rw[Ad (by omega),show n+(j+1)=(n+1)+j by omega,vn l (n+1) j];rfl
def QA (l:List (Nat×Ae)):List (Nat×Ae):=List.rec (motive:=λ_=>List (Nat×Ae)) [] (λp _ q=>cond (GH p.2) q (p::q)) l
theorem QB:∀(l:List Ae) (n j:Nat) {o:Ae},l[j]? =some o->GH o=false->(Bx (QA (Cl l n))).get (n+j)=some o
 | [],n,j,o,h,_=>by cases h
 |x::l,n,j,o,h,y=>by
  rw[kP];show(Bx (cond (GH x) (QA (Cl l (n+1))) ((n,x)::QA (Cl l (n+1))))).get (n+j)=_;cases j with
  |zero=>injection h with h;subst h;rw[y,cond_false];exact Tr.GG _ _ _
  |succ j=>
   have q:=QB l (n+1) j (o:=o) h y;rw[show n+1+j=n+(j+1) by omega]at q;cases B:GH x with
   |true=>rw[cond_true];exact q
   |false=>rw[cond_false];show((Bx (QA (Cl l (n+1)))).set n x).get (n+(j+1))=_;rw[Tr.KE _ (by omega)];exact q
def Ew (ids:List Nat):Nat->List (Nat×Nat):=List.rec (motive:=λ_=>Nat->List (Nat×Nat)) (λ_=>[]) (λi _ q n=>(n,i)::fN (n+1) q) ids
theorem zb (i:Nat) (l:List Nat) (n:Nat):Ew (i::l) n=(n,i)::Ew l (n+1):=by show(n,i)::fN (n+1) (Ew l)=_;rw[Bv]
theorem Rw:∀(ids:List Nat) (n c:Nat),sg (Ew ids n) c=if n<=c then ids[c-n]? else none
 | [],n,c=>by show none=_;split<;>simp
 |i::l,n,c=>by
  rw[zb];show cond (Nat.beq n c) (some i) (sg (Ew l (n+1)) c)=_;cases q:Nat.beq n c with
  |true=>have:=DP q;subst this;simp
  |false=>
   have B:n≠c:=λe=>by subst e;rw[Nat.beq_refl]at q;cases q
   rw[cond_false,Rw l (n+1) c];by_cases y:n<=c
   ·rw[Am (by omega),Am y,show c-n=(c-(n+1))+1 by omega];rfl
   ·rw[Ad (by omega),Ad y]
theorem PA {H:Tr Ae}:∀ {l:List (Nat×Ae)} {i:Nat} {o:Ae},(Cr l H).get i=some o->((i,o)∈l/\GH o=false)\/((∀y,(i,y)∉l)/\H.get i=some o)
 | [],i,o,h=>.inr ⟨λ_ h=>(by cases h),h⟩
 |p::l,i,o,h=>by
  have h':(cond (GH p.2) ((Cr l H).del p.1) ((Cr l H).set p.1 p.2)).get i=some o:=h;by_cases hi:p.1=i
  ·cases q:GH p.2 with
   |true=>rw[q,cond_true,Tr.H6,Am hi]at h';cases h'
   |false=>rw[q,cond_false,Tr.Hl,Am hi]at h';injection h' with h';exact .inl ⟨by rw[<-hi,<-h'];exact BN ..,by rw[<-h'];exact q⟩
  ·have h':(Cr l H).get i=some o:=by
    cases q:GH p.2 with
    |true=>rw[q,cond_true,Tr.H6,Ad hi]at h';exact h'
    |false=>rw[q,cond_false,Tr.Hl,Ad hi]at h';exact h'
   rcases PA h' with⟨C,J⟩|⟨C,E⟩
   ·exact .inl ⟨Ca _ C,J⟩
   ·exact .inr ⟨λy B=>by
     rcases CS.1 B with e|B
     ·exact hi (by rw[<-e])
     ·exact C y B,E⟩
def BP (ng:Nat) (q:List Nat) (c:Nat):Nat:=cond (Nat.ble ng c) (q.getD (c-ng) c) c
open Classical in
def NT (ρ:Ai) (w:World) (ids:List Nat):Nat->Option Obj:=λb=>if∃id∈ids,∃q,ρ id=some q/\q.b=b then none else w.heap[b]?
theorem Adc (q:Nat->Nat) (o:Ae):GH (CP q o)=GH o:=by unfold CP;split<;>rfl
theorem Aeo {E:Env} {F:Nat->Option Obj} {nx:Nat} {ρ:Ai} {H:Tr Ae} {w w':World} (r:Rel E F nx ρ H.get w) {ids:List Nat} (ah:∀id∈ids,∃o,H.get id=some o) (aM:∀id∈ids,id<nx) {ng m:Nat} {os:List Ae} (aQ:os.length=ids.length+m) (aE:∀o∈os,IX o) {M:Ai} (r3:Rel (FX E ρ) (NT ρ w ids) (ng+ids.length+m) M (Bx (QA (Cl os ng))).get w') (aJ:∀b o,ρ.st b=some o->M.st b=some o) (az:∀i,i<ng+ids.length->M i=Mq (Ew ids ng) ρ i): ∃K,RX nx (nx+m) ρ K/\Rel E F (nx+m) K (Cr ((ids++List.range' nx m).zip (os.map (CP (BP ng (ids++List.range' nx m))))) H).get w'/\ (∀i b,M i=some b->K (BP ng (ids++List.range' nx m) i)=some b)/\∀b o,M.st b=some o->K.st b=some o:=by
 have ai:(ids++List.range' nx m).length=ids.length+m:=by simp
 have ak:∀j,j<ids.length->(ids++List.range' nx m)[j]? =ids[j]?:=λj hj=>by rw[List.getElem?_append_left hj]
 have aj:∀j,ids.length<=j->j<ids.length+m->(ids++List.range' nx m)[j]? =some (nx+(j-ids.length)):=λj J B=>by rw[List.getElem?_append_right J,List.getElem?_range' (by omega)];simp
 generalize hT:ids++List.range' nx m=L at ai ak aj;let K:Ai:=⟨λj=>if nx<=j/\j<nx+m then M (ng+ids.length+(j-nx))else ρ j,M.st⟩;have aG:∀j,nx<=j->j<nx+m->K j=M (ng+ids.length+(j-nx)):=λj J B=>Am ⟨J,B⟩;have W:∀j,¬(nx<=j/\j<nx+m)->K j=ρ j:=λj h=>Ad h;have aK:∀j,j<ids.length->Mq (Ew ids ng) ρ (ng+j)=(ids[j]?).bind ρ.nm:=λj hj=>by show(sg (Ew ids ng) (ng+j)).bind ρ.nm=_;rw[Rw,Am (by omega),Nat.add_sub_cancel_left]
 have q:∀j t,L[j]? =some t->K t=M (ng+j)/\(j<ids.length->t∈ids):=λj t ht=>by
  have hj:j<ids.length+m:=by rw[<-ai];exact(It.1 ht).1
  by_cases J:j<ids.length
  ·rw[ak j J]at ht;have hm:=List.mem_of_getElem? ht;have:=aM t hm;refine⟨?_,λ_=>hm⟩;rw[W t (by omega),az (ng+j) (by omega),aK j J,ht];rfl
  ·rw[aj j (by omega) hj]at ht;injection ht with ht;subst ht;refine⟨?_,λh=>absurd h J⟩;rw[aG _ (by omega) (by omega)];congr 1;omega
 have ay:∀i b,M i=some b->K (BP ng L i)=some b:=λi b C=>by
  have aR:i<ng+ids.length+m:=by
   rcases MG i (ng+ids.length+m)with h|h
   ·exact h
   ·rw[r3.new i h]at C;cases C
  have ao:ng<=i:=by
   rcases MG i ng with h|h
   ·rw[az i (by omega)]at C;have aF:(sg (Ew ids ng) i).bind ρ.nm=some b:=C;rw[Rw,Ad (by omega)]at aF;cases aF
   ·exact h
  obtain⟨j,rfl⟩:∃j,i=ng+j:=⟨i-ng,by omega⟩;have aN:j<L.length:=by rw[ai];omega
  have ht:L[j]? =some L[j]:=CC aN;have:BP ng L (ng+j)=L[j]:=by unfold BP;rw[show Nat.ble ng (ng+j)=true from Nat.ble_eq_true_of_le (by omega),cond_true,Nat.add_sub_cancel_left,B2,ht];rfl
  rw[this,(q j _ ht).1];exact C
 have aA:ρ.le K:=⟨λi b C=>by
  have:i<nx:=by
   rcases MG i nx with h|h
   ·exact h
   ·rw[r.new i h]at C;cases C
  rw[W i (by omega)];exact C,aJ⟩
 have aa:∀i o,(i,o)∈L.zip (os.map (CP (BP ng L)))->GH o=false->∃j Y,L[j]? =some i/\os[j]? =some Y/\o=CP (BP ng L) Y/\GH Y=false:=λi o hm aC=>by
  obtain⟨j,hj,he⟩:=List.getElem_of_mem hm;rw[List.getElem_zip]at he;injection he with J B;simp only[List.length_zip,FL]at hj;have S:o=CP (BP ng L) (os[j]'(by omega)):=by rw[<-B,List.getElem_map]
  exact⟨j,os[j]'(by omega),by rw[<-J];exact CC _,CC _,S,by rw[S,Adc]at aC;exact aC⟩
 have aB:∀j t,L[j]? =some t->∃o,(t,o)∈L.zip (os.map (CP (BP ng L))):=λj t ht=>by
  have hj:=(It.1 ht);obtain⟨J,B⟩:=hj;have U:j<(L.zip (os.map (CP (BP ng L)))).length:=by simp;omega
  refine⟨(os.map (CP (BP ng L)))[j]'(by simp;omega),?_⟩;have:=List.getElem_mem U;rw[List.getElem_zip,B]at this;exact this
 have av:∀t,t∈ids->∃j:Nat,L[j]? =some t:=λt ht=>by obtain⟨j,hj,he⟩:=List.getElem_of_mem ht;exact⟨j,by rw[ak j hj,CC hj,he]⟩
 have y:∀i o b,(∀Z,(i,Z)∉L.zip (os.map (CP (BP ng L))))->H.get i=some o->K i=some b->ρ i=some b/\NT ρ w ids b.b=w.heap[b.b]?:=λi o b J B U=>by
  have aL:¬(nx<=i/\i<nx+m):=λ⟨S,V⟩=>by obtain⟨Z,an⟩:=aB (ids.length+(i-nx)) i (by rw[aj _ (by omega) (by omega)];congr 1;omega);exact J Z an
  rw[W i aL]at U;refine⟨U,Ad ?_⟩;rintro⟨id,af,au,S,V⟩;obtain⟨o2,al⟩:=ah id af;have:=r.inj id i o2 o au b al B S U V;subst this;obtain⟨j,hj⟩:=av id af;obtain⟨Z,an⟩:=aB j id hj;exact J Z an
 have hF:∀b o,F b=some o->NT ρ w ids b=some o:=λb o C=>by
  show(if _ then _ else _)=_;rw[Ad]
  ·exact r.fr b o C
  ·rintro⟨id,af,au,S,V⟩;obtain⟨o2,al⟩:=ah id af;have:=r.dj id o2 au al S;rw[V,C]at this;cases this
 have aD:∀b o Z,NT ρ w ids b=some o->M.st b=some Z->∃ab,ρ.st b=some ab:=λb o Z J B=>by
  have:=r3.sf b o Z J B;simp only[FX,BV,ne_eq]at this;cases hs:ρ.st b with
  |none=>exact absurd hs this
  |some ab=>exact⟨ab,rfl⟩
 refine⟨K,⟨aA,λi hi=>W i (by omega),Nat.le_add_right _ _⟩,⟨r3.tape,r3.os,r3.output,λb o C=>r3.fr b o (hF b o C),λi o b hi C=>?_,λi o b hi C=>?_,λi i2 o o2 b b2 hi ao C ad e=>?_,λi hi=>?_,λg l hg=>?_,r.bs,r3.st,λi o b hi C=>?_,λb o Z J B=>?_⟩,ay,λ_ _ h=>h⟩
 ·rcases PA hi with⟨h,O⟩|⟨J,B⟩
  ·obtain⟨j,Y,U,S,rfl,R⟩:=aa i o h O;obtain⟨c,V,h6⟩:=r3.ob (ng+j) Y b (QB os ng j S R) (by rw[<-(q j i U).1];exact C);exact⟨c,V,AgJ ay (λ_ _ h=>h) R (aE Y (List.mem_of_getElem? S)) h6⟩
  ·obtain⟨U,S⟩:=y i o b J B C;obtain⟨c,V,h6⟩:=r.ob i o b B U;exact⟨c,r3.fr _ _ (S.trans V),h6.mono aA⟩
 ·rcases PA hi with⟨h,O⟩|⟨J,B⟩
  ·obtain⟨j,Y,U,S,rfl,R⟩:=aa i o h O;have V:=r3.dj (ng+j) Y b (QB os ng j S R) (by rw[<-(q j i U).1];exact C);cases aO:F b.b with
   |none=>rfl
   |some x=>rw[hF _ _ aO]at V;cases V
  ·exact r.dj i o b B (y i o b J B C).1
 ·have aw:∀i i2 o o2 b b2,(i,o)∈L.zip (os.map (CP (BP ng L)))->GH o=false->(∀Z,(i2,Z)∉L.zip (os.map (CP (BP ng L))))->H.get i2=some o2->K i=some b->K i2=some b2->b.b=b2.b->False:=λi i2 o o2 b b2 h O J B C ad e=>by obtain⟨j,Y,U,S,rfl,R⟩:=aa i o h O;have V:=r3.dj (ng+j) Y b (QB os ng j S R) (by rw[<-(q j i U).1];exact C);obtain⟨h6,h7⟩:=y i2 o2 b2 J B ad;obtain⟨c,h8,_⟩:=r.ob i2 o2 b2 B h6;rw[e,h7,h8]at V;cases V
  rcases PA hi with⟨h,O⟩|⟨J,B⟩
  ·rcases PA ao with⟨h',ae⟩|⟨ar,ag⟩
   ·obtain⟨j,Y,U,S,_,R⟩:=aa i o h O;obtain⟨j',aI,aq,aP,_,aH⟩:=aa i2 o2 h' ae;have:=r3.inj (ng+j) (ng+j') Y aI b b2 (QB os ng j S R) (QB os ng j' aP aH) (by rw[<-(q j i U).1];exact C) (by rw[<-(q j' i2 aq).1];exact ad) e;have:j=j':=by omega
    subst this;rw[U]at aq;injection aq
   ·exact(aw i i2 o o2 b b2 h O ar ag C ad e).elim
  ·rcases PA ao with⟨h',ae⟩|⟨ar,ag⟩
   ·exact(aw i2 i o2 o b2 b h' ae J B ad C e.symm).elim
   ·exact r.inj i i2 o o2 b b2 B ag (y i o b J B C).1 (y i2 o2 b2 ar ag ad).1 e
 ·rw[W i (by omega)];exact r.new i (by omega)
 ·rcases PA hg with⟨h,O⟩|⟨J,B⟩
  ·obtain⟨j,Y,U,S,V,R⟩:=aa g _ h O;have hc:=aE Y (List.mem_of_getElem? S);unfold IX at hc;split at hc
   ·cases V
   ·cases V
   ·cases R
   ·exact hc.elim
  ·exact r.gl g l B
 ·rcases PA hi with⟨h,O⟩|⟨J,B⟩
  ·obtain⟨j,Y,U,S,rfl,R⟩:=aa i o h O;exact r3.sd (ng+j) Y b (QB os ng j S R) (by rw[<-(q j i U).1];exact C)
  ·obtain⟨U,S⟩:=y i o b J B C;obtain⟨c,V,_⟩:=r.ob i o b B U;cases hs:M.st b.b with
   |none=>rfl
   |some Z=>obtain⟨ab,h6⟩:=aD b.b c Z (S.trans V) hs;rw[r.sd i o b B U]at h6;cases h6
 ·obtain⟨ab,U⟩:=aD b o Z (hF b o J) B;exact r.sf b o ab J U
inductive HO:Type 1 where
 |ret (v:AV) (os:List Ae) (m:Nat)
 |AB (v:AV) (os:List Ae) (m:Nat)
 |br (b:Bool) (t e:HO)
 |gen {α:Type} (a:α) (f:α->HO)
structure HA where
 X:Type
 gl:List (Nat×Ae)
 JI:Tr Ae->Bool
 ng:Nat
 k:Nat
 args:X->List AV
 FE:X->List Ae
 pre:X->Prop
 out:X->HO
 fz:Nat
 find:Tr Ae->List AV->Option (X×List Nat)
def SW (q:List (Nat×Nat)) (H:Tr Ae) (l:List (Nat×Ae)):Prop:=List.rec (motive:=λ_=>Prop) True (λp _ y=>(match sg q p.1 with
  |none=>False
  |some j=>match H.get j with
   |none=>False
   |some o=>EO q p.2 o)/\y) l
theorem vT {y:List (Nat×Nat)} {H:Tr Ae}:∀ {l:List (Nat×Ae)},SW y H l->∀p∈l,∃j o,sg y p.1=some j/\H.get j=some o/\EO y p.2 o
 | [],_,p,hp=>by cases hp
 |q::l,h,p,hp=>by
  have h':(match sg y q.1 with
   |none=>False
   |some j=>match H.get j with
    |none=>False
    |some o=>EO y q.2 o)/\SW y H l:=h
  rcases CS.1 hp with rfl|hp
  ·have B:=h'.1;split at B
   ·exact B.elim
   ·rename_i j E;split at B
    ·exact B.elim
    ·rename_i o C;exact⟨j,o,E,C,B⟩
  ·exact vT h'.2 p hp
def XD (nx:Nat) (ids:List Nat):Bool:=ids.all λi=>Nat.blt i nx
def FV.{u} {q:Type u} (n:Nat) (k:Nat->q):q:=Nat.rec (motive:=λ_=>q) (k 0) (λm _=>k (m+1)) n
theorem G5.{u} {q:Type u} (n:Nat) (k:Nat->q):FV n k=k n:=by cases n<;>rfl
def Hn (ng:Nat) (ids:List Nat) (nx:Nat) (o:HO):C4:=HO.rec (motive:=λ_=>C4) (λv os m=>FV (nx+m) λn=>(λq=>C4.ret (D2 (BP ng q) 4 v) (q.zip (os.map (CP (BP ng q)))) n) (ids++List.range' nx m)) (λv os m=>FV (nx+m) λn=>(λq=>C4.AB (D2 (BP ng q) 4 v) (q.zip (os.map (CP (BP ng q)))) n) (ids++List.range' nx m)) (λb _ _ y C=>.br b y C) (λa _ B=>.gen a B) o
def HA.AJ (S:HA):Gx:=λH nx args=>cond (S.JI H) (ob (S.find H args) λp=>cond (Nat.beq p.2.length S.k) (some (.Be (S.pre p.1/\Oc p.2=true/\XD nx p.2=true/\Ba (Ew p.2 S.ng) (S.args p.1) args/\SW (Ew p.2 S.ng) H (Cl (S.FE p.1) S.ng)) (Hn S.ng p.2 nx (S.out p.1)))) none) none
theorem AgT {E:Env} {F:Nat->Option Obj} {nx:Nat} {ρ:Ai} {w:World} {H:Tr Ae} (r:Rel E F nx ρ H.get w) {ids:List Nat} (hi:Fj H ids) {id el n Ap N:Nat} {f:Nat->Aj} {op:Bool} {h':Aj} (R:id∈ids) (Z:H.get id=some (.cells el .leaf (.rows Ap f) N op)) (hN:n*Ap<=N) (K:Ed Ap n f=true) (hh:∀vs,AG ρ (f 0) vs->AG (CZ ρ w ids) h' vs) {v:Value} (hv:VR ρ (.AY id n Ap) v): VR (CZ ρ w ids) (.vec Ap n λi=>cond (Nat.beq i 0) h' (f i)) v:=by
 have O:=(KB r hi).1.le;cases hv with
 |He _ _ _ hn _=>exact .Gt _ _ _ hn _ _
 |AY _ _ _ b V U hl=>
  obtain⟨c,hc,M⟩:=r.ob _ _ b Z V;cases M with
  |cells _ _ _ _ _ cs fz Dt hn aa ad B=>
   have L:(CZ ρ w ids).st b.b=some (.cells cs el fz):=(Sx R V).trans hc;have J:n<=b.cap/Ap:=by rw[Nat.le_div_iff_mul_le U];exact hl
   unfold Ed at K;simp only[BV]at K;have y:∀i,∃vs,i<n->AG ρ (f i) vs/\∀j v,vs[j]? =some v->cs[b.ob+i*Ap+j]? =some v:=λi=>by
    by_cases q:i<n
    ·have W:=K i q;unfold Oo at W;obtain⟨h2,_⟩:=Bf W;rw[AN]at h2;have hm:(i+1)*Ap<=n*Ap:=Nat.mul_le_mul_right _ q;rw[Nat.succ_mul]at hm;obtain⟨vs,h3,h4⟩:=AG.S1 (ρ:=ρ) (l:=f i) (λj v=>cs[b.ob+i*Ap+j]? =some v) λj a S=>by have ab:=(It.1 S).1;obtain⟨v,hv,Y⟩:=B (i*Ap+j) a (by omega) (by rw[Gz,Rb (i:=i) (j:=j) (by omega) _ rfl];exact S);exact⟨v,by rw[Fy];exact hv,Y⟩
     exact⟨vs,λ_=>⟨h3,h4⟩⟩
    ·exact⟨[],λh=>absurd h q⟩
   refine .vec _ _ _ b.b b.ob _ cs el fz (λi=>Classical.choose (y i)) L U J (λi q=>?_) (λi q=>(IV (y i) q).2);cases C:Nat.beq i 0 with
   |true=>rw[AN]at C;subst C;exact hh _ (IV (y 0) q).1
   |false=>exact(IV (y i) q).1.mono O
def jH (P:Program) (H:Tr Ae) (v:AV):FR:=match v with
 |.AY id n Ap=>ob (H.get id) λo=>match o with
  |.cells _ c z N _=>match c,z with
   |.leaf,.rows e f=>gd (Nat.beq e Ap) (ob (L6 (Jn P H) (f 0)) λr=>some (cond r.1 (cond (Nat.ble (n*Ap) N) (Ed Ap n f) false) false,.vec Ap n (λi=>cond (Nat.beq i 0) r.2.1 (f i)),[],id::r.2.2.2))
   |_,_=>none
  |_=>none
 |_=>Jn P H v
theorem AcX {P:Program} {E:Env} {F:Nat->Option Obj} {nx:Nat} {ρ:Ai} {w:World} {H:Tr Ae} (r:Rel E F nx ρ H.get w) {v K:AV} {z:List FZ} {ids:List Nat} (h:jH P H v=some (true,K,z,ids)) {u:Value} (hv:VR ρ v u): Fj H ids/\VR (CZ ρ w ids) K u:=by
 unfold jH at h;split at h
 ·rename_i id n Ap;obtain⟨o,L,B⟩:=Ag.1 h;split at B
  ·rename_i el c z0 N op;split at B
   ·rename_i e f;obtain⟨M,V⟩:=AL.1 B;rw[AN]at M;subst M;obtain⟨⟨b,h',fz,C⟩,U,y⟩:=Ag.1 V;injection y with y;injection y with S y;injection y with R y;injection y with e3 O;simp only at S R O;obtain⟨e5,e6⟩:=Bf S;obtain⟨Z,Y⟩:=Bf e6;subst e5;subst R;subst O;obtain⟨W,_,g3⟩:=MU (Qj r) _ _ _ _ U;have q:Fj H (id::C):=λi hi=>by
     rcases CS.1 hi with rfl|hi
     ·exact⟨_,L⟩
     ·exact W i hi
    exact⟨q,AgT r q (BN ..) L (Nat.le_of_ble_eq_true Z) Y (λvs Ax=>g3 _ q (λi hi=>Ca _ hi) vs Ax) hv⟩
   ·cases B
  ·cases B
 ·obtain⟨q,_,J⟩:=Qj r _ _ _ _ h;exact⟨q,J ids q (λ_ h=>h) u hv⟩
def Yy (fz:Nat) (P:Program) (H:Tr Ae) (v:AV):FR:=match fz with
 |0=>some (true,v,[],[])
 |1=>Jn P H v
 |_=>jH P H v
def VX (P:Program) (fz:Nat) (nk:Nat) (y:AV) (os:List Ae) (m ng:Nat) (v:AV) (H:Tr Ae) (n:Nat):Prop:=Bg (Yy fz P H v) λq=>Al q.1 (fN (nk+m) λB=>B8 nk 1 B [(0,y)] (QA (Cl os ng)) ⟨1,Tr.leaf.set 0 q.2.1,C8 H q.2.2.2,n,none,[]⟩)
def Gk (P:Program) (fz:Nat) (ng nk:Nat) (o:HO):KC:=HO.rec (motive:=λ_=>KC) (λq os m r=>match r with
   |.mk v H n=>VX P fz nk q os m ng v H n
   |_=>False)
  (λq os m r=>match r with
   |.AB v H n=>VX P fz nk q os m ng v H n
   |_=>False)
  (λb _ _ y C r=>Ah b (y r) (C r)) (λa _ B r=>B a r) o
def OS (k:Nat):HO->Prop
 |.ret v os m=>L0 4 v/\os.length=k+m/\∀o∈os,IX o
 |.AB v os m=>L0 4 v/\os.length=k+m/\∀o∈os,IX o
 |.br b t e=>(b=true->OS k t)/\(b=false->OS k e)
 |.gen a f=>OS k (f a)
theorem YL {P:Program} {fz:Nat} {ng nk k nx:Nat} {ids:List Nat}:∀ {o:HO} {p:Bool} {v:AV} {up:List (Nat×Ae)} {nx':Nat},hOut (Hn ng ids nx o)=some (p,v,up,nx')->OS k o-> ∃q os m,v=D2 (BP ng (ids++List.range' nx m)) 4 q/\up=(ids++List.range' nx m).zip (os.map (CP (BP ng (ids++List.range' nx m))))/\nx'=nx+m/\(L0 4 q/\os.length=k+m/\∀o∈os,IX o)/\ ∀r,Gk P fz ng nk o r->∃M O n1,r=Hu p M O n1/\VX P fz nk q os m ng M O n1
 |.ret q os m,p,v,up,nx',h,hc=>by
  have h':(FV (nx+m) λn=>hOut (C4.ret (D2 (BP ng (ids++List.range' nx m)) 4 q) ((ids++List.range' nx m).zip (os.map (CP (BP ng (ids++List.range' nx m))))) n))=some (p,v,up,nx'):=by rw[G5];have y:hOut (FV (nx+m) λn=>(λK=>C4.ret (D2 (BP ng K) 4 q) (K.zip (os.map (CP (BP ng K)))) n) (ids++List.range' nx m))=some (p,v,up,nx'):=h;rw[G5]at y;exact y
  rw[G5]at h';injection h' with h';injection h' with J h';injection h' with y h';injection h' with E C;subst J;refine⟨q,os,m,y.symm,E.symm,C.symm,hc,λr B=>?_⟩;cases r with
  |mk v H n=>exact⟨v,H,n,rfl,B⟩
  |AB _ _ _=>exact B.elim
  |Df _ _ _ _=>exact B.elim
 |.AB q os m,p,v,up,nx',h,hc=>by
  have h':(FV (nx+m) λn=>hOut (C4.AB (D2 (BP ng (ids++List.range' nx m)) 4 q) ((ids++List.range' nx m).zip (os.map (CP (BP ng (ids++List.range' nx m))))) n))=some (p,v,up,nx'):=by rw[G5];have y:hOut (FV (nx+m) λn=>(λK=>C4.AB (D2 (BP ng K) 4 q) (K.zip (os.map (CP (BP ng K)))) n) (ids++List.range' nx m))=some (p,v,up,nx'):=h;rw[G5]at y;exact y
  rw[G5]at h';injection h' with h';injection h' with J h';injection h' with y h';injection h' with E C;subst J;refine⟨q,os,m,y.symm,E.symm,C.symm,hc,λr B=>?_⟩;cases r with
  |AB v H n=>exact⟨v,H,n,rfl,B⟩
  |mk _ _ _=>exact B.elim
  |Df _ _ _ _=>exact B.elim
 |.br b t e,p,v,up,nx',h,hc=>by
  have h':cond b (hOut (Hn ng ids nx t)) (hOut (Hn ng ids nx e))=some (p,v,up,nx'):=h;cases b with
  |true=>obtain⟨q,os,m,J,y,E,C,L⟩:=YL (P:=P) (fz:=fz) (nk:=nk) h' (hc.1 rfl);exact⟨q,os,m,J,y,E,C,λr B=>L r B⟩
  |false=>obtain⟨q,os,m,J,y,E,C,L⟩:=YL (P:=P) (fz:=fz) (nk:=nk) h' (hc.2 rfl);exact⟨q,os,m,J,y,E,C,λr B=>L r B⟩
 |.gen a f,p,v,up,nx',h,hc=>by have h':hOut (Hn ng ids nx (f a))=some (p,v,up,nx'):=h;obtain⟨q,os,m,J,y,E,C,L⟩:=YL (P:=P) (fz:=fz) (nk:=nk) (o:=f a) h' hc;exact⟨q,os,m,J,y,E,C,λr B=>L r B⟩
theorem Ac2 {P:Program} {E:Env} {F:Nat->Option Obj} {nx:Nat} {ρ:Ai} {w:World} {H:Tr Ae} (r:Rel E F nx ρ H.get w) {fz:Nat} {v C:AV} {z:List FZ} {ids:List Nat} (h:Yy fz P H v=some (true,C,z,ids)) {u:Value} (hv:VR ρ v u): ∃B,RX nx nx ρ B/\Rel E F nx B (C8 H ids).get w/\VR B C u:=by
 unfold Yy at h;split at h
 ·injection h with h;injection h with _ h;injection h with M h;injection h with O L;subst M;subst L;exact⟨ρ,RX.refl _ _,r,hv⟩
 ·obtain⟨q,_,y⟩:=Qj r v C z ids h;obtain⟨K,J⟩:=KB r q;exact⟨_,K,J,y ids q (λ_ h=>h) u hv⟩
 ·obtain⟨q,y⟩:=AcX r h hv;obtain⟨K,J⟩:=KB r q;exact⟨_,K,J,y⟩
set_option maxHeartbeats 1000000 in
theorem MX {P:Program} {g:FuncId} (S:HA) (aS:∀p∈S.gl,H8 p.2=true/\p.1<S.ng) (az:∀H,S.JI H=true->∀p∈S.gl,H.get p.1=some p.2) (hk:∀x,(S.FE x).length=S.k) (aN:∀x,∀o∈S.FE x,H8 o=false) (aT:∀x,S.pre x->OS S.k (S.out x)) (aA:∀x,S.pre x->∃call:FuncId->Aj->Tr Ae->Nat->KC->Prop,La P call/\call g (S.args x) (Bx (S.gl++Cl (S.FE x) S.ng)) (S.ng+S.k) (Gk P S.fz S.ng (S.ng+S.k) (S.out x))):Bo P g S.AJ:=by
 intro H nx args hc K p v up nx' aC E F ρ w r;unfold HA.AJ at K;cases hs:S.JI H with
 |false=>rw[hs]at K;cases K
 |true=>
 rw[hs,cond_true]at K;obtain⟨⟨x,ids⟩,a5,M⟩:=Ag.1 K;cases hl:Nat.beq ids.length S.k with
 |false=>rw[hl]at M;cases M
 |true=>
 rw[hl]at M;have W:=DP hl;injection M with M;subst M;have U:(@ite _ (S.pre x/\Oc ids=true/\XD nx ids=true/\Ba (Ew ids S.ng) (S.args x) args/\SW (Ew ids S.ng) H (Cl (S.FE x) S.ng)) (Classical.propDecidable _) (hOut (Hn S.ng ids nx (S.out x))) none)=some (p,v,up,nx'):=aC;split at U
 case isFalse=>cases U
 rename_i hp;obtain⟨af,aD,aF,ao,aE⟩:=hp;obtain⟨v0,os,m,rfl,rfl,rfl,⟨aW,aV,aU⟩,aB⟩:=YL (P:=P) (fz:=S.fz) (nk:=S.ng+S.k) U (aT x af);have aP:∀id∈ids,id<nx:=λid C=>by have:=List.all_eq_true.1 aF id C;rwa[Co]at this
 have ag:∀j o,(S.FE x)[j]? =some o->∃id q,ids[j]? =some id/\H.get id=some q/\EO (Ew ids S.ng) o q:=λj o hj=>by
  have hm:(S.ng+j,o)∈Cl (S.FE x) S.ng:=by have:=vn (S.FE x) S.ng j;rw[hj]at this;exact Mc this
  obtain⟨id,q,M,y,V⟩:=vT aE _ hm;have aw:sg (Ew ids S.ng) (S.ng+j)=some id:=M;rw[Rw,Am (by omega),Nat.add_sub_cancel_left]at aw;exact⟨id,q,aw,y,V⟩
 have ah:∀id∈ids,∃o,H.get id=some o:=λid C=>by
  obtain⟨j,hj,rfl⟩:=List.getElem_of_mem C;have aQ:j<(S.FE x).length:=by rw[hk,<-W];exact hj
  obtain⟨aj,q,M,y,_⟩:=ag j _ (CC aQ);rw[CC hj]at M;injection M with M;exact⟨q,by rw[M];exact y⟩
 have au:∀i o,(Bx (S.gl++Cl (S.FE x) S.ng)).get i=some o->(i,o)∈S.gl\/∃j,i=S.ng+j/\(S.FE x)[j]? =some o:=λi o h=>by
  rcases List.mem_append.1 (Mc h)with h|h
  ·exact .inl h
  ·exact .inr (vo h)
 have ae:∀i b,Mq (Ew ids S.ng) ρ i=some b->∃j id,i=S.ng+j/\ids[j]? =some id/\ρ id=some b:=λi b h=>by
  have h':(sg (Ew ids S.ng) i).bind ρ.nm=some b:=h;rw[Rw]at h';split at h'
  ·rename_i hi;cases C:ids[i-S.ng]? with
   |none=>rw[C]at h';cases h'
   |some id=>rw[C]at h';exact⟨i-S.ng,id,by omega,C,h'⟩
  ·cases h'
 have aa:∀i o b,(Bx (S.gl++Cl (S.FE x) S.ng)).get i=some o->Mq (Ew ids S.ng) ρ i=some b->∃j id q,i=S.ng+j/\ids[j]? =some id/\ρ id=some b/\H.get id=some q/\EO (Ew ids S.ng) o q:=λi o b hi L=>by
  obtain⟨j,id,rfl,y,V⟩:=ae i b L;rcases au _ o hi with h|⟨j',Y,h5⟩
  ·exact absurd (aS _ h).2 (by show¬S.ng+j<S.ng;omega)
  ·have:j'=j:=by omega
   subst this;obtain⟨aj,q,h6,h7,h8⟩:=ag j' o h5;rw[y]at h6;injection h6 with h6;subst h6;exact⟨j',id,q,rfl,y,V,h7,h8⟩
 have ad:∀j j' id:Nat,ids[j]? =some id->ids[j']? =some id->j=j':=λj j' id M y=>by
  have e1:sg (Ew ids S.ng) (S.ng+j)=some id:=by rw[Rw,Am (by omega),Nat.add_sub_cancel_left];exact M
  have e2:sg (Ew ids S.ng) (S.ng+j')=some id:=by rw[Rw,Am (by omega),Nat.add_sub_cancel_left];exact y
  have hz:∀(l:List Nat) (n:Nat),(Ew l n).map (·.2)=l:=by
   intro l
   induction l with
   |nil=>intro n;rfl
   |cons a l ih=>intro n;rw[zb,List.map_cons,ih]
  have:=kM (l:=Ew ids S.ng) (by rw[hz];exact aD) _ (Un e1) _ (Un e2) rfl;injection this with this;omega
 have aZ:∀b o,F b=some o->NT ρ w ids b=some o:=λb o L=>by
  show(if _ then _ else _)=_;rw[Ad]
  ·exact r.fr b o L
  ·rintro⟨id,C,ab,Y,h5⟩;obtain⟨o2,aO⟩:=ah id C;have:=r.dj id o2 ab aO Y;rw[h5,L]at this;cases this
 have r0:Rel (FX E ρ) (NT ρ w ids) (S.ng+S.k) (Mq (Ew ids S.ng) ρ) (Bx (S.gl++Cl (S.FE x) S.ng)).get w:=by
  refine⟨r.tape,r.os,r.output,λb o L=>?_,λi o b hi L=>?_,λi o b hi L=>?_,λi i2 o o2 b b2 hi aR L aX e=>?_,λi hi=>?_,λg l hg=>?_,λb o L=>aZ b o (r.bs b o L),r.st,λi o b hi L=>?_,λb o q M y=>?_⟩
  ·have h':(if∃id∈ids,∃ab,ρ id=some ab/\ab.b=b then none else w.heap[b]?)=some o:=L;split at h'
   ·cases h'
   ·exact h'
  ·obtain⟨j,id,q,rfl,y,V,Y,h5⟩:=aa i o b hi L;obtain⟨c,h6,h7⟩:=r.ob id q b Y V;exact⟨c,h6,wM (lx _ ρ) h5 h7⟩
  ·obtain⟨j,id,q,rfl,y,V,Y,h5⟩:=aa i o b hi L;exact Am ⟨id,List.mem_of_getElem? y,b,V,rfl⟩
  ·obtain⟨j,id,q,rfl,y,V,Y,_⟩:=aa i o b hi L;obtain⟨j',aj,aI,rfl,a4,a3,a2,_⟩:=aa i2 o2 b2 aR aX;have:=r.inj id aj q aI b b2 Y a2 V a3 e;subst this;rw[ad j j' id y a4]
  ·cases hn:Mq (Ew ids S.ng) ρ i with
   |none=>rfl
   |some b=>obtain⟨j,id,rfl,y,_⟩:=ae i b hn;have:=(It.1 y).1;omega
  ·rcases au g _ hg with h|⟨j,_,h5⟩
   ·exact r.gl g l (az H hs _ h)
   ·have:=aN x _ (List.mem_of_getElem? h5);cases this
  ·obtain⟨j,id,q,rfl,y,V,Y,h5⟩:=aa i o b hi L;exact r.sd id q b Y V
  ·simp only[FX,BV,ne_eq];intro e;rw[show ρ.st b=some q from y]at e;cases e
 obtain⟨call,an,ak⟩:=aA x af;have AA:=an g (S.args x) _ _ _ ak _ _ _ w r0;refine⟨AA.1,λvs Ax=>CallsIn.mono (AA.2 vs (Nx (lx (Ew ids S.ng) ρ) _ _ _ ao Ax)) λe w' he=>?_⟩;obtain⟨aH,aM,ai⟩:=he;obtain⟨v1,H1,n1,rfl,al⟩:=aB aH aM;have fin:∀u J,RX (S.ng+S.k) n1 (Mq (Ew ids S.ng) ρ) J->Rel (FX E ρ) (NT ρ w ids) n1 J H1.get w'->VR J v1 u-> ∃B,RX nx (nx+m) ρ B/\Rel E F (nx+m) B (Cr ((ids++List.range' nx m).zip (os.map (CP (BP S.ng (ids++List.range' nx m))))) H).get w'/\VR B (D2 (BP S.ng (ids++List.range' nx m)) 4 v0) u:=by
  intro u J O r1 Z;obtain⟨⟨s1,qv,qz,qi⟩,hq,y⟩:=BM al;obtain⟨V,Y⟩:=EE.1 y;simp only at V;subst V;rw[Bv]at Y;obtain⟨ρ2,aq,r2,aJ⟩:=Ac2 r1 hq Z;have aY:SR (FX E ρ) (NT ρ w ids) ρ2 ⟨1,Tr.leaf.set 0 qv,C8 H1 qi,n1,none,[]⟩ ⟨#[u],[]⟩ w' none:=by
   refine⟨r2,λt a ht=>?_,rfl,.nil,.none⟩;have R:((Tr.leaf:Tr AV).set 0 qv).get t=some a:=ht;rw[Tr.Hl]at R;split at R
   ·rename_i e;injection R with R;subst R;subst e;exact⟨u,rfl,aJ⟩
   ·rw[Tr.EK]at R;cases R
  obtain⟨_,aG,av,ar⟩:=cB Y aY;obtain⟨u',aL,aK⟩:=ar.tr 0 v0 (by show(SX [(0,v0)]).get 0=some v0;exact Tr.GG _ _ _);have ay:u=u':=by simpa using aL
  subst ay;have r3:Rel (FX E ρ) (NT ρ w ids) (S.ng+ids.length+m) aG (Bx (QA (Cl os S.ng))).get w':=by rw[W];exact ar.rel
  obtain⟨B,g1,g2,g3,g4⟩:=Aeo r ah aP (ng:=S.ng) (m:=m) (os:=os) (by rw[W];exact aV) aU r3 (λb o h=>av.st b o (aq.le.st b o (O.le.st b o h))) (λi hi=>by rw[W]at hi;rw[av.lo i hi,aq.lo i (Nat.lt_of_lt_of_le hi O.nn),O.lo i hi]);exact⟨B,g1,g2,ly g3 g4 4 v0 u aW aK⟩
 cases p with
 |false=>obtain⟨u,J,rfl,O,r1,Z⟩:=ai;obtain⟨B,g1,g2,g3⟩:=fin u J O r1 Z;exact⟨u,B,rfl,g1,g2,g3⟩
 |true=>obtain⟨u,J,rfl,O,r1,Z⟩:=ai;obtain⟨B,g1,g2,g3⟩:=fin u J O r1 Z;exact⟨u,B,rfl,g1,g2,g3⟩
end Go.Ev
end
section
namespace Go.Ev
open Go
end Go.Ev
end
section
namespace Go.Ev
theorem pV {P:Program} {call:FuncId->Aj->Tr Ae->Nat->KC->Prop} (h:La P call):La P λg args H nx K=>∃q:KC,(∀r,q r->K r)/\call g args H nx q:=by intro g args H nx K hc E F ρ w r;obtain⟨q,B,hc⟩:=hc;have ht:=h g args H nx q hc E F ρ w r;exact⟨ht.1,λvs Ax=>CallsIn.mono (ht.2 vs Ax) λe w' y=>by obtain⟨r,J,C⟩:=y;exact⟨r,B r J,C⟩⟩
def J5 (ids:List Nat) (nx:Nat) (o:HO):C4:=HO.rec (motive:=λ_=>C4) (λv os m=>FV (nx+m) λn=>C4.ret v ((ids++List.range' nx m).zip os) n) (λv os m=>FV (nx+m) λn=>C4.AB v ((ids++List.range' nx m).zip os) n) (λb _ _ q B=>.br b q B) (λa _ y=>.gen a y) o
structure Kr (H:Tr Ae) (i:Nat) (o':Ae):Prop where
 d:∃o,H.get i=some o/\∀ρ b c,OR ρ b o c->OR ρ b o' c
 g:H8 o'=false
theorem AgC {E:Env} {F:Nat->Option Obj} {nx:Nat} {ρ:Ai} {H:Tr Ae} {w:World} (r:Rel E F nx ρ H.get w) {i:Nat} {J:Ae} (hd:Kr H i J):Rel E F nx ρ (H.set i J).get w:=by
 obtain⟨⟨o,R,h⟩,V⟩:=hd;have key:∀j x,(H.set i J).get j=some x->(j=i/\x=J)\/(j≠i/\H.get j=some x):=λj x q=>by
  rw[Tr.Hl]at q;split at q
  ·rename_i e;injection q with q;exact .inl ⟨e.symm,q.symm⟩
  ·rename_i e;exact .inr ⟨λh=>e h.symm,q⟩
 have B:∀j x,(H.set i J).get j=some x->∃y,H.get j=some y:=λj x q=>by
  rcases key j x q with⟨rfl,_⟩|⟨_,h⟩
  ·exact⟨o,R⟩
  ·exact⟨x,h⟩
 refine⟨r.tape,r.os,r.output,r.fr,λj x b q C=>?_,λj x b q C=>?_,λj k x y b Y q hy C O e=>?_,r.new,λg l q=>?_,r.bs,r.st,λj x b q C=>?_,r.sf⟩
 ·rcases key j x q with⟨rfl,rfl⟩|⟨_,K⟩
  ·obtain⟨c,K,W⟩:=r.ob j o b R C;exact⟨c,K,h ρ b c W⟩
  ·exact r.ob j x b K C
 ·obtain⟨y,hy⟩:=B j x q;exact r.dj j y b hy C
 ·obtain⟨U,M⟩:=B j x q;obtain⟨S,L⟩:=B k y hy;exact r.inj j k U S b Y M L C O e
 ·rcases key g _ q with⟨_,rfl⟩|⟨_,K⟩
  ·cases V
  ·exact r.gl g l K
 ·obtain⟨y,hy⟩:=B j x q;exact r.sd j y b hy C
theorem bU {H:Tr Ae} {p:Nat×Ae} {l:List (Nat×Ae)} {j:Nat} (h:p.1≠j):(Cr (p::l) H).get j=(Cr l H).get j:=by
 show(cond (GH p.2) ((Cr l H).del p.1) ((Cr l H).set p.1 p.2)).get j=_;cases GH p.2 with
 |true=>rw[cond_true,Tr.H6,Ad h]
 |false=>rw[cond_false,Tr.KE _ h]
theorem Aka {H H':Tr Ae} {p:Nat×Ae} {l q:List (Nat×Ae)}:(Cr (p::l) H).get p.1=(Cr (p::q) H').get p.1:=by
 show(cond (GH p.2) ((Cr l H).del p.1) ((Cr l H).set p.1 p.2)).get p.1=(cond (GH p.2) ((Cr q H').del p.1) ((Cr q H').set p.1 p.2)).get p.1;cases GH p.2 with
 |true=>rw[cond_true,cond_true,Tr.H6,Am rfl,Tr.H6,Am rfl]
 |false=>rw[cond_false,cond_false,Tr.GG,Tr.GG]
theorem xG {E:Env} {F:Nat->Option Obj} {nx:Nat} {ρ:Ai} {w:World} {H:Tr Ae} (r:Rel E F nx ρ H.get w):∀ {l:List (Nat×Ae)},Oc (l.map (·.1))=true->(∀p∈l,Kr H p.1 p.2)->Rel E F nx ρ (Cr l H).get w
 | [],_,_=>r
 |p::l,hn,h=>by
  have y:cond ((l.map (·.1)).any (Nat.beq p.1)) false (Oc (l.map (·.1)))=true:=hn;cases C:(l.map (·.1)).any (Nat.beq p.1)with
  |true=>rw[C]at y;cases y
  |false=>
  rw[C,cond_false]at y;have J:=xG r y λq K=>h q (Ca _ K);show Rel E F nx ρ (cond (GH p.2) ((Cr l H).del p.1) ((Cr l H).set p.1 p.2)).get w;cases S:GH p.2 with
  |true=>exact J.less λi o hi=>YB _ _ i o hi
  |false=>
  rw[cond_false];obtain⟨⟨o,O,hd⟩,R⟩:=h p (BN ..);refine AgC J ⟨⟨o,?_,hd⟩,R⟩;have B:∀q∈l,q.1≠p.1:=λq K e=>by have:(l.map (·.1)).any (Nat.beq p.1)=true:=List.any_eq_true.2 ⟨q.1,List.mem_map.2 ⟨q,K,rfl⟩,by rw[AN];exact e.symm⟩;rw[C]at this;cases this
  clear J hn y h C r
  induction l with
  |nil=>exact O
  |cons q l L=>rw[bU (B q (BN ..))];exact L λx M=>B x (Ca _ M)
theorem WH {H:Tr Ae}:∀ {l:List (Nat×Ae)} {j:Nat},(∀p∈l,p.1≠j)->(Cr l H).get j=H.get j
 | [],_,_=>rfl
 |p::l,j,h=>by rw[bU (h p (BN ..))];exact WH λq y=>h q (Ca _ y)
theorem Akb {H:Tr Ae} {l:List (Nat×Ae)}:∀ {up:List (Nat×Ae)},(∀p∈l,∃q∈up,q.1=p.1)->∀j,(Cr up (Cr l H)).get j=(Cr up H).get j:=by
 intro up h j;by_cases B:∃q∈up,q.1=j
 ·clear h
  induction up with
  |nil=>obtain⟨q,y,_⟩:=B;cases y
  |cons u up E=>
   by_cases e:u.1=j
   ·subst e;exact Aka
   ·rw[bU e,bU e];obtain⟨q,y,C⟩:=B;rcases CS.1 y with rfl|y
    ·exact absurd C e
    ·exact E ⟨q,y,C⟩
 ·rw[WH λq y e=>B ⟨q,y,e⟩,WH λq y e=>B ⟨q,y,e⟩];refine WH λp J e=>?_;obtain⟨q,y,K⟩:=h p J;exact B ⟨q,y,K.trans e⟩
def HA.at (S:HA) (x:S.X) (ids:List Nat):HA:={S with find:=λ_ _=>some (x,ids)}
theorem NV {P:Program} {g:FuncId} {S:HA} {x:S.X} {ids:List Nat} {os:List Ae} (hS:Bo P g (S.at x ids).AJ) {H:Tr Ae} {nx:Nat} {args args':Aj} {p:Bool} {v:AV} {up:List (Nat×Ae)} {nx':Nat} (L:S.pre x) (K:S.JI (Cr (ids.zip os) H)=true) (hk:ids.length=S.k) (hn:Oc ids=true) (hb:XD nx ids=true) (aa:os.length=ids.length) (hd:∀q∈ids.zip os,Kr H q.1 q.2) (J:Ba (Ew ids S.ng) (S.args x) args') (hm:SW (Ew ids S.ng) (Cr (ids.zip os) H) (Cl (S.FE x) S.ng)) (M:hOut (Hn S.ng ids nx (S.out x))=some (p,v,up,nx')) (W:∀i∈ids,∃q∈up,q.1=i) {E:Env} {F:Nat->Option Obj} {ρ:Ai} {w:World} (r:Rel E F nx ρ H.get w) (hv:∀vs,AG ρ args vs->AG ρ args' vs):LS P (.fn g args) w ρ (NC E F nx ρ (Hu p v (Cr up H) nx')):=by
 have y:(ids.zip os).map (·.1)=ids:=List.map_fst_zip (by omega);have r2:=xG r (l:=ids.zip os) (by rw[y];exact hn) hd;have Y:=hS (Cr (ids.zip os) H) nx args' (.Be (S.pre x/\Oc ids=true/\XD nx ids=true/\Ba (Ew ids S.ng) (S.args x) args'/\SW (Ew ids S.ng) (Cr (ids.zip os) H) (Cl (S.FE x) S.ng)) (Hn S.ng ids nx (S.out x))) (by unfold HA.AJ;rw[show(S.at x ids).JI _=true from K,cond_true];show(cond (Nat.beq ids.length S.k) _ none)=_;rw[hk,Nat.beq_refl];rfl) p v up nx' ((Am ⟨L,hn,hb,J,hm⟩).trans M) E F ρ w r2;refine⟨Y.1,λvs Ax=>CallsIn.mono (Y.2 vs (hv vs Ax)) λe w' Z=>?_⟩;have tr:∀C ρ2,Rel E F C ρ2 (Cr up (Cr (ids.zip os) H)).get w'->Rel E F C ρ2 (Cr up H).get w':=λC ρ2 h=>h.less λj o hj=>by rw[Akb λq hq=>W q.1 (by rw[<-y];exact List.mem_map.2 ⟨q,hq,rfl⟩)];exact hj
 cases p with
 |false=>obtain⟨u,B,V,U,R,O⟩:=Z;exact⟨u,B,V,U,tr _ _ R,O⟩
 |true=>obtain⟨u,B,V,U,R,O⟩:=Z;exact⟨u,B,V,U,tr _ _ R,O⟩
end Go.Ev
end
section
namespace Go.Ev
abbrev GZ:=List (Nat×IntKind×List Int)
def U6 (q:GZ) (w:World):Prop:=∀p∈q,∃cs e fz,w.heap[p.1]? =some (.cells cs e fz)/\cs.toList=p.2.2.map λz=>.int p.2.1 z
theorem AkO {w:World}:U6 [] w:=λ_ h=>by cases h
theorem AkM {w:World} {y:GZ} {g:Nat} {k:IntKind} {q:AP} (h:∃cs e fz,w.heap[g]? =some (.cells cs e fz)/\cs.toList=q.map λz=>.int k z) (ht:U6 y w):U6 ((g,k,q)::y) w:=λp hp=>by
 rcases CS.1 hp with rfl|hp
 ·exact h
 ·exact ht p hp
def tJ (q:GZ):List (Nat×Ae):=q.map λp=>(p.1,.Jo (p.2.2.map λz=>.int p.2.1 z))
theorem uA {ρ:Ai} (k:IntKind):∀q:AP,AG ρ (q.map λz=>.int k z) (q.map λz=>.int k z)
 | []=>.nil
 |z::q=>.cons _ _ _ _ (.int k z) (uA k q)
theorem Adi {B:GZ} {W:World} (h:U6 B W):∀g l,(Bx (tJ B)).get g=some (.Jo l)->∃cs e fz,W.heap[g]? =some (.cells cs e fz)/\∀q,AG q l cs.toList:=λg l C=>by obtain⟨p,hp,E⟩:=List.mem_map.1 (Mc C);injection E with L y;injection y with y;obtain⟨cs,e,fz,K,J⟩:=h p hp;subst L;refine⟨cs,e,fz,K,λq=>?_⟩;rw[J,<-y];exact uA _ _
end Go.Ev
end
end
