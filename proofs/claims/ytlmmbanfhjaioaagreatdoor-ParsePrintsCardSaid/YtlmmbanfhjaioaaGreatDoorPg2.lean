/- Laid by program out of its parts: PgE, PgF. -/
import Derived.Test.YtlmmbanfhjaioaaGreatDoorPg1
import Derived.Test.YtlmmbanfhjaioaaGreatDoorPe0
import Derived.Test.YtlmmbanfhjaioaaGreatDoorPf0
noncomputable section
open List(getD)
open Int(toNat)
set_option linter.unusedVariables false
set_option linter.unusedSimpArgs false
section
set_option maxRecDepth 100000
set_option maxHeartbeats 2000000
open Go Go.Ev
namespace Go.Proofs.YtlmmbanfhjaioaaGreatDoor
def Ez (k:Int) (i:Nat) (ind:Ac):Ac:=if k=12\/k=8/\0<i then ind++[32,32]else ind
def Nq (K:List Ac):Ac:=(K.map λt=>t++[10]).flatten
def Iy (L:Ak) (w:LT) (K:List Ac) (ind:Ac):Ac:=
 if w.kind=1 then Nq K else if w.kind=12 then HW K ind else
 if w.kind=8 then [99,111,109,112,32]++w.text++[32,111,110,32]++kd K 0++[32]++HW (K.drop 1) ind else
 if 26<=w.kind/\w.kind<=36 then GQ w K else if 13<=w.kind/\w.kind<=25 then Et w (Fg L w) K else Ff w K
def M8 (b:Bool) (t:Ac):Ac:=if b=true then [40]++t++[41]else t
def E5:Nat->Ak->Nat->Ac->Ac
 |0,_,_,_=>[]
 |N+1,L,a,ind=>Iy L (L.getD a LT.none) ((List.range (L.getD a LT.none).kids.length).map λi=>M8 (Jv L (L.getD a LT.none) i) (E5 N L ((L.getD a LT.none).kids.getD i 0).toNat (Ez (L.getD a LT.none).kind i ind))) ind
def KH (N:Nat) (L:Ak) (a:Nat) (ind:Ac) (i:Nat):Ac:=M8 (Jv L (L.getD a LT.none) i) (E5 N L ((L.getD a LT.none).kids.getD i 0).toNat (Ez (L.getD a LT.none).kind i ind))
def CO (N:Nat) (L:Ak) (a:Nat) (ind:Ac) (m:Nat):List Ac:=(List.range m).map (KH N L a ind)
structure Ji (N:Nat) (L:List LT) (a:Nat) (ind:List UInt8) (x:PT):Prop where
 bQ:Xq L a (flat x)
 wf:∃d,B9 x d
 mr:sz x<=N
 il:ind.length+2*sz x<=1000
theorem yb:∀(ks:Av) (i:Nat) (h:i<ks.length),BG (ks.take (i+1))=BG (ks.take i)+sz (ks.getD i Dm)
 |y::q,0,_=>by simp[Cc,Hf]
 |y::q,i+1,h=>by have:=yb q i (by simpa using h);rw[List.take_succ_cons,List.take_succ_cons,Cc,Cc,this,List.getD_cons_succ];omega
theorem wE:∀(ks:Av) (o i:Nat) (h:i<ks.length),(Hr o ks).getD i 0=((o+BG (ks.take i):Nat):Int)
 |y::q,o,0,_=>by rw[QH,List.getD_cons_zero,List.take_zero,Hf,Nat.add_zero]
 |y::q,o,i+1,h=>by rw[QH,List.getD_cons_succ,wE q _ i (by simpa using h),List.take_succ_cons,Cc];congr 1;omega
theorem Zf:∀(ks:Av) (o:Nat),(Hr o ks).length=ks.length
 | [],_=>rfl
 |y::q,o=>by rw[QH,AE,AE,Zf]
theorem mq:∀(ks:Av) (i:Nat) (h:i<ks.length),BG (ks.take i)+sz (ks.getD i Dm)<=BG ks
 |y::q,0,_=>by rw[List.take_zero,Hf,List.getD_cons_zero,Cc];omega
 |y::q,i+1,h=>by have:=mq q i (by simpa using h);rw[List.take_succ_cons,Cc,Cc,List.getD_cons_succ];omega
theorem xQ:∀(ks:Av) (o i j:Nat) (h:i<ks.length) (q:j<sz (ks.getD i Dm)),(LG o ks).getD (BG (ks.take i)+j) LT.none=Cm ((o+BG (ks.take i):Nat):Int) ((flat (ks.getD i Dm)).getD j LT.none)
 |y::C,o,0,j,_,q=>by rw[List.getD_cons_zero]at q⊢;have B:=(I0 y).1;rw[Pw,List.take_zero,Hf,Nat.zero_add,Nat.add_zero,B2,List.getElem?_append_left (by rw[FL,B];exact q),HB,B2,CC (by rw[B];exact q)];rfl
 |y::C,o,i+1,j,h,q=>by rw[List.getD_cons_succ]at q⊢;have B:=(I0 y).1;have:=xQ C (o+sz y) i j (by simpa using h) q;rw[Pw,List.take_succ_cons,Cc,B2,List.getElem?_append_right (by rw[FL,B];omega),FL,B,show sz y+BG (C.take i)+j-sz y=BG (C.take i)+j by omega,<-B2,this];congr 2;omega
theorem z5:∀(ks:Av) (k:Int) (s:Ac) (i0:Nat) (d:Int) (i:Nat),Cv k s ks i0 d->i<ks.length->∃B,B9 (ks.getD i Dm) B
 |y::q,k,s,i0,d,0,h,_=>by unfold Cv at h;exact⟨_,h.1⟩
 |y::q,k,s,i0,d,i+1,h,hi=>by unfold Cv at h;rw[List.getD_cons_succ];exact z5 q k s _ d i h.2 (by simpa using hi)
structure Rt (N:Nat) (L:List LT) (a:Nat) (ind:List UInt8) (k:Int) (s:List UInt8) (n:Int) (ks:List PT):Prop where
 lt:a<L.length
 kind:(L.getD a LT.none).kind=k
 text:(L.getD a LT.none).text=s
 num:(L.getD a LT.none).n=n
 YR:(L.getD a LT.none).kids.length=ks.length
 H9:∀i,i<ks.length->(L.getD a LT.none).kids.getD i 0=((a+1+BG (ks.take i):Nat):Int)
 sub:∀i,i<ks.length->∀ind':List UInt8,ind'.length<=ind.length+2->Ji N L (a+1+BG (ks.take i)) ind' (ks.getD i Dm)
 tb:Fv k s=true
 nb:E2 k n=true
 kb:1<=k/\k<=36
 km:Cq (BO k) (ks.map PT.kind)=true
 il:ind.length+2*(1+BG ks)<=1000
 sl:BG ks<=N
theorem nL {N:Nat} {L:Ak} {a:Nat} {ind:Ac} {k:Int} {s:Ac} {n l c:Int} {ks:Av} (h:Ji (N+1) L a ind (.mk k s n l c ks)):Rt N L a ind k s n ks:=by
 obtain⟨C,⟨d,M⟩,hz,hi⟩:=h;rw[NS]at C;rw[Im]at hz hi;unfold B9 at M;obtain⟨W,J,U,S⟩:=M;have K:=C.le;rw[AE,Wu]at K;have y:L.getD a LT.none=⟨k,s,n,l,c,(Hr 1 ks).map (· +(a:Int))⟩:=by have:=C.eq 0 (by simp);simpa[Cm]using this
 have B:∀i,i<ks.length->(L.getD a LT.none).kids.getD i 0=((a+1+BG (ks.take i):Nat):Int):=λi hi=>by
  rw[y];show((Hr 1 ks).map (· +(a:Int))).getD i 0=_;have E:i<(Hr 1 ks).length:=by rw[Zf];exact hi
  have:=wE ks 1 i hi;rw[B2,CC E]at this;rw[B2,HB,CC E];show(Hr 1 ks)[i]'E+(a:Int)=_;have:(Hr 1 ks)[i]'E=((1+BG (ks.take i):Nat):Int):=this;omega
 refine⟨by omega,by rw[y],by rw[y],by rw[y],by rw[y];show((Hr 1 ks).map _).length=_;rw[FL,Zf],B,λi q R hd=>?_,J.2.1,J.2.2,J.1,U,hi,by omega⟩;have V:=mq ks i q;refine⟨⟨by rw[(I0 _).1];omega,λj O=>?_⟩,z5 ks k s 0 d i S q,by omega,by omega⟩;rw[(I0 _).1]at O;have:=C.eq (1+(BG (ks.take i)+j)) (by rw[AE,Wu];omega);rw[show a+(1+(BG (ks.take i)+j))=a+1+BG (ks.take i)+j by omega,show 1+(BG (ks.take i)+j)=(BG (ks.take i)+j)+1 by omega,List.getD_cons_succ,xQ ks 1 i j q O,mb]at this;rw[this];congr 1;omega
def DH (K:List Ac):Nat:=(K.map List.length).sum
theorem Aei (K M:List Ac):DH (K++M)=DH K+DH M:=by simp[DH]
theorem Aej:DH []=0:=rfl
theorem YZ (t:Ac) (K:List Ac):DH (t::K)=t.length+DH K:=by simp[DH]
theorem AdO:∀(K:List Ac),(kd K 0).length<=DH K/\(kd K 0).length+(kd K 1).length<=DH K/\(kd K 0).length+(kd K 1).length+(kd K 2).length<=DH K
 | []=>by simp[kd,DH]
 | [a]=>by simp[kd,DH]
 | [a,b]=>by simp[kd,DH]
 |a::b::c::K=>by simp[kd,DH];omega
theorem jC {K:List Ac} {f:Ac->Ac} {m:Nat} (h:∀t,(f t).length=t.length+m):((K.map f).flatten).length=DH K+K.length*m:=by
 induction K with
 |nil=>simp[DH]
 |cons t K q=>rw[List.map_cons,List.flatten_cons,AK,q,h,YZ,AE,Nat.succ_mul];omega
theorem AbG:∀(k n:Nat) (s:Ac),n<10^k->(HE n s).length<=s.length+k:=by
 intro k
 induction k with
 |zero=>
  intro n s h;obtain rfl:n=0:=by simpa using h
  rw[HE,dif_pos rfl];omega
 |succ k q=>
  intro n s h;rw[HE];split
  ·omega
  ·have:=q (n/10) (UInt8.ofNat (48+n %10)::s) (by rw[Nat.pow_succ]at h;omega);rw[AE]at this;omega
theorem AbD {n:Nat} (h:n<=10000000000):(Ek n).length<=11:=by
 unfold Ek;split
 ·simp
 ·have:=AbG 11 n [] (by omega);simpa using this
theorem Vc (K:List Ac) (ind:Ac):(HW K ind).length<=DH K+K.length*(ind.length+3)+ind.length+3:=by
 unfold HW N8;split
 ·simp
 ·have:=jC (K:=K) (f:=λt=>ind++[32,32]++t++[10]) (m:=ind.length+3) λt=>by simp;omega
  simp only[AK,AE,List.length_nil,this];omega
theorem AdD {p:Prop} [Decidable p] {a b:Ac} {n:Nat} (y:p->a.length<=n) (q:¬p->b.length<=n):(if p then a else b).length<=n:=by
 split
 ·exact y (by assumption)
 ·exact q (by assumption)
theorem iv {L:Ak} {w:LT} {K:List Ac} {ind:Ac} (hn:w.n<=10000000000):(Iy L w K ind).length<=DH K+K.length*(ind.length+3)+ind.length+w.text.length+60:=by
 have C:=AdO K;have hd:=AbD (n:=w.n.toNat) (by omega);have hz:0<=K.length*(ind.length+3):=CL _;unfold Iy;split
 ·have:=jC (K:=K) (f:=λt=>t++[10]) (m:=1) λt=>by simp
  unfold Nq;rw[this];have:K.length*1<=K.length*(ind.length+3):=Nat.mul_le_mul_left _ (by omega);omega
 split
 ·have:=Vc K ind;omega
 split
 ·have J:=Vc (K.drop 1) ind;have U:DH K=(kd K 0).length+DH (K.drop 1):=by
   cases K with
   |nil=>simp[kd,DH]
   |cons t K=>simp[kd,DH]
  have S:(K.drop 1).length*(ind.length+3)<=K.length*(ind.length+3):=Nat.mul_le_mul_right _ (by rw[HC];omega);simp only[AK,AE,List.length_nil];omega
 split
 ·unfold GQ
  repeat' split
  all_goals first|omega|(simp only[AK,AE,List.length_nil];omega)
 split
 ·have ht:(Eu w K).length<=4+(kd K 1).length:=by
   unfold Eu;split
   ·simp only[AK,AE,List.length_nil];omega
   ·exact CL _
  have O:(if 0<w.n then [32,97,102,116,101,114,32]++Ek w.n.toNat else if w.n<0 then [32,102,114,111,110,116]else []).length<=18:=by
   split
   ·simp only[AK,AE,List.length_nil];omega
   ·split<;>simp
  have R:(if Fg L w=true then [32,101,108,115,101,32]++kd K 2 else []).length<=6+(kd K 2).length:=by
   split
   ·simp only[AK,AE,List.length_nil];omega
   ·exact CL _
  unfold Et;generalize(if 0<w.n then [32,97,102,116,101,114,32]++Ek w.n.toNat else if w.n<0 then [32,102,114,111,110,116]else [])=M at*;generalize(if Fg L w=true then [32,101,108,115,101,32]++kd K 2 else [])=E at*
  repeat' with_reducible refine AdD (λ_=>?_) (λ_=>?_)
  all_goals first|omega|(simp only[AK,AE,List.length_nil];omega)
 ·have y:(Oa K).length<=DH K+K.length*(ind.length+3):=by
   have:=jC (K:=K) (f:=λt=>32::t) (m:=1) λt=>by simp
   unfold Oa;rw[this];have:K.length*1<=K.length*(ind.length+3):=Nat.mul_le_mul_left _ (by omega);omega
  have B:(Qz w.n).length<=8:=by
   unfold Qz;split
   ·simp
   split
   ·simp
   split<;>simp
  have q:(QI w.n).length<=5:=by unfold QI;split<;>simp
  unfold Ff
  repeat' split
  all_goals first|omega|(simp only[AK,AE,List.length_nil];omega)
theorem kQ {k n:Int} (h:E2 k n=true):-1<=n/\n<=2147483647:=by
 unfold E2 at h;split at h
 ·have:=Bt h;omega
 split at h
 ·have:=Bt h;omega
 split at h
 ·have:=Bt h;omega
 split at h
 ·have:=Bt h;omega
 ·have:=Bt h;omega
theorem uQ (N:Nat) (L:Ak) (a:Nat) (ind:Ac) (m:Nat):CO N L a ind (m+1)=CO N L a ind m++[KH N L a ind m]:=by unfold CO;rw[List.range_succ,List.map_append];rfl
theorem O2 (N:Nat) (L:Ak) (a:Nat) (ind:Ac) (m:Nat):(CO N L a ind m).length=m:=by simp[CO]
theorem X7 (k:Int) (i:Nat) (ind:Ac):(Ez k i ind).length<=ind.length+2:=by
 unfold Ez;split
 ·simp
 ·omega
theorem ki (b:Bool) (t:Ac):(M8 b t).length<=t.length+2:=by
 unfold M8;split
 ·simp only[AK,AE,List.length_nil];omega
 ·omega
theorem yq:∀(N:Nat) (L:Ak) (a:Nat) (ind:Ac) (x:PT),Ji N L a ind x->(E5 N L a ind).length+2000<=4000*sz x:=by
 intro N
 induction N with
 |zero=>intro L a ind x h;have:=h.mr;have:=F9 x;omega
 |succ N y=>
  intro L a ind x h;obtain⟨k,s,n,l,c,ks⟩:=x;have r:=nL h;have M:=nB r.tb;have O:=kQ r.nb;have R:=r.il;have B:∀j,j<=ks.length->DH (CO N L a ind j)+1998*j<=4000*BG (ks.take j):=by
   intro j
   induction j with
   |zero=>intro _;simp[CO,DH]
   |succ j q=>intro S;have W:=q (by omega);have V:=y L _ (Ez (L.getD a LT.none).kind j ind) _ (r.sub j (by omega) _ (X7 _ _ _));have J:=ki (Jv L (L.getD a LT.none) j) (E5 N L ((L.getD a LT.none).kids.getD j 0).toNat (Ez (L.getD a LT.none).kind j ind));rw[r.H9 j (by omega),Int.toNat_natCast]at J;rw[uQ,Aei,yb ks j (by omega),YZ,Aej];unfold KH;rw[r.H9 j (by omega),Int.toNat_natCast];omega
  have E:=B ks.length (AM _);rw[List.take_length]at E;have C:=iv (L:=L) (w:=L.getD a LT.none) (K:=CO N L a ind ks.length) (ind:=ind) (by rw[r.num];omega);rw[O2,r.text]at C;have U:ks.length*(ind.length+3)<=ks.length*1003:=Nat.mul_le_mul_left _ (by omega);have e:E5 (N+1) L a ind=Iy L (L.getD a LT.none) (CO N L a ind ks.length) ind:=by show Iy L (L.getD a LT.none) (CO N L a ind (L.getD a LT.none).kids.length) ind=_;rw[r.YR]
  rw[e,Im];omega
def Vo (N:Nat):Tr Ae->Aj->Option Ct:=λ_ args=>match args with
 | [.agg [.vec 6 n f],.int .i64 a,x]=>ob (Mx x) λind=>some (.Be (∃(L:Ak) (y:PT),n=L.length/\f=A8 L/\0<=a/\Ji N L a.toNat ind y) (.ret (.bs (AU (E5 N (KZ n f) a.toNat ind)))))
 |_=>none
def STx (N:Nat) (L:Ak) (a:Nat) (ind:Ac):CX:={X:=Nat,T:=λs _ i=>(8,.AY s.nx i 1)::(9,.int .i64 i)::MZ s [0,1,2,3,7],H:=λs n0 i=>(s.nx,.cells 9 .leaf (.rows 1 (rT (CO N L a ind i))) i true)::SM s n0,nx:=λs _=>s.nx+1,I:=λ_ i=>i<=(L.getD a LT.none).kids.length,m:=λi=>(L.getD a LT.none).kids.length-i}
structure Xm (K:List (List UInt8)) (x:Nat×List UInt8):Prop where
 le:x.1<=K.length
 eq:x.2=Nq (K.take x.1)
 len:x.2.length<=x.1*10000001
def SPr (K:List Ac):CX:={X:=Nat×Ac,T:=λs _ x=>(12,.bs x.2)::(13,.int .i64 x.1)::MZ s [0,1,2,3,7,8],H:=λs n0 _=>SM s n0,nx:=λs _=>s.nx,I:=λ_=>Xm K,m:=λx=>K.length-x.1}
def zd (L:Ak) (a:Nat) (ind:Ac):CX:=thin Nat [0,1,2,3,7,8,9] (λi=>[(10,.bs (Ez (L.getD a LT.none).kind i ind))]) (λs i=>∀b,s.T.get 9=some (.int .i64 b)->b=i) λ_=>0
def ze (N:Nat) (L:Ak) (a:Nat) (ind:Ac):CX:=thin Nat [0,1,2,3,7,8,9] (λi=>[(11,.bs (KH N L a ind i))]) (λs i=>∀b,s.T.get 9=some (.int .i64 b)->b=i) λ_=>0
def rU (N:Nat) (L:Ak) (a:Nat) (ind:Ac):Ctx:={P:=Tryz.prog,tb:=[(20,Vo N),(40,Yi),(42,gZ),(44,gx),(46,gw),(47,gf)],lp:=λf r=>cond (Nat.beq f 20) (cond (Nat.beq r 4) (some (STx N L a ind)) (cond (Nat.beq r 17) (some (SPr (CO N L a ind (L.getD a LT.none).kids.length))) none)) none,fr:=λf r=>cond (Nat.beq f 20) (cond (Nat.beq r 13) [8] []) [],cut:=λf r=>cond (Nat.beq f 20) (cond (Nat.beq r 9) (some (zd L a ind)) (cond (Nat.beq r 12) (some (ze N L a ind)) none)) none}
theorem Jr {c:UInt8} {s:Ac} {l:AP} (h:Cq (c::s) l=true) (y:c≠42) (q:c≠63):∃x t,l=x::t/\BQ (c.toNat:Int) x=true/\Cq s t=true:=by
 cases l with
 |nil=>rw[jk s y q]at h;cases h
 |cons x t=>rw[uU s x t y q,C5]at h;exact⟨x,t,rfl,h.1,h.2⟩
theorem AdT {k:Int} {l:AP} (h:Cq (BO k) l=true) (q:k=4\/k=6\/k=7\/k=9\/k=11\/k=36\/k=8\/k=10\/k=13\/k=14\/k=15\/k=16\/k=17\/k=18\/k=30\/k=34\/k=35\/k=19\/k=20\/k=23\/k=24\/k=31\/k=32):1<=l.length:=by
 have e:∃c s,BO k=c::s/\c≠42/\c≠63:=by rcases q with rfl|rfl|rfl|rfl|rfl|rfl|rfl|rfl|rfl|rfl|rfl|rfl|rfl|rfl|rfl|rfl|rfl|rfl|rfl|rfl|rfl|rfl|rfl<;>exact⟨_,_,rfl,by decide,by decide⟩
 obtain⟨c,s,e,B,y⟩:=e;rw[e]at h;obtain⟨x,t,rfl,_⟩:=Jr h B y;simp
theorem AdU {k:Int} {l:AP} (h:Cq (BO k) l=true) (q:k=10\/k=13\/k=14\/k=23\/k=24\/k=31\/k=32):2<=l.length:=by
 have e:∃c d s,BO k=c::d::s/\c≠42/\c≠63/\d≠42/\d≠63:=by rcases q with rfl|rfl|rfl|rfl|rfl|rfl|rfl<;>exact⟨_,_,_,rfl,by decide,by decide,by decide,by decide⟩
 obtain⟨c,d,s,e,J,E,C,B⟩:=e;rw[e]at h;obtain⟨x,t,rfl,_,h⟩:=Jr h J E;obtain⟨y,t,rfl,_,h⟩:=Jr h C B;simp
theorem jj {l:AP} (h:Cq (BO 23) l=true):3<=l.length:=by have h:Cq [101,98,98] l=true:=h;obtain⟨x,t,rfl,_,h⟩:=Jr h (by decide) (by decide);obtain⟨y,t,rfl,_,h⟩:=Jr h (by decide) (by decide);obtain⟨z,t,rfl,_,h⟩:=Jr h (by decide) (by decide);simp
theorem AeM (K:List Ac) {m:Nat} (h:m=K.length):(List.range m).map (λi=>K.getD i [])=K:=by
 subst h;apply List.ext_getElem
 ·simp
 ·intro i y q;simp[B2,CC q]
theorem AeN (K:List Ac) {m:Nat} (h:m=K.length):(List.range (m-1)).map (λi=>K.getD (1+i) [])=K.drop 1:=by
 subst h;apply List.ext_getElem
 ·simp
 ·intro i y B;have q:1+i<K.length:=by simp at y;omega
  simp only[List.getElem_map,List.getElem_range,List.getElem_drop,B2,CC q];rfl
theorem AgV (K:List Ac) {i:Nat} (h:i<K.length):Nq (K.take (i+1))=Nq (K.take i)++K.getD i []++[10]:=by unfold Nq;rw[mu h,List.map_append,List.flatten_append];simp
@[reducible] def eS:Ak->Nat->Ac->Prop:=λ(L:Ak) (a:Nat) (ind:Ac)=>MI L/\(HJ a)/\Af ind/\Cx/\Hb/\True
@[reducible] def U2:Ak->Nat->Ac->Nat->Prop:=λ(L:Ak) (a:Nat) (ind:Ac) (q:Nat)=>MI L/\(HJ a)/\Af ind/\Cx/\Hb/\(Af (some 3)/\Af q/\Aa)/\(HJ q)/\True
@[reducible] def eU:Nat->Ak->Nat->Ac->Nat->Prop:=λ(N:Nat) (L:Ak) (a:Nat) (ind:Ac) (q:Nat)=>MI L/\(HJ a)/\Af ind/\Cx/\Hb/\(Aa/\Af q/\AH λ(i:Nat)=>Bh i q->Af (getD (CO N L a ind q) i [])/\True)/\True
def Nf (a:Nat) (b:Ak) (c:Nat) (d:Ac) (e:Nat):=List.map (λ(q:Nat)=>getD (CO a b c d e) q []) (List.range e)
def TG (a:Nat):=decide (∀(q:Nat),q<a->Aa)
@[reducible] def eV:Nat->Ak->Nat->Ac->Nat->Prop:=λ(N:Nat) (L:Ak) (a:Nat) (ind:Ac) (q:Nat)=>(TG q=true/\∃(w:LT),(Nd L a)=LT.row w/\UN w (Nf N L a ind q))/\AU (Ff (FP (Nd L a)) (Nf N L a ind q))=E5 (N+1) L a ind
@[reducible] def oL:Nat->Ak->Nat->Ac->Nat->Prop:=λ(N:Nat) (L:Ak) (a:Nat) (ind:Ac) (q:Nat)=>(TG q=true/\∃(y:Ak),∃(w:LT),L.length=y.length/\A8 L=A8 y/\(Nd L a)=LT.row w/\Xa y w (Nf N L a ind q))/\AU (Et (FP (Nd L a)) (Fg (Kd L) (FP (Nd L a))) (Nf N L a ind q))=E5 (N+1) L a ind
@[reducible] def U1:Nat->Ak->Nat->Ac->Nat->Prop:=λ(N:Nat) (L:Ak) (a:Nat) (ind:Ac) (q:Nat)=>UZ L/\U0 L a/\(Aa/\Aa/\Aa/\Aa/\Af q/\AH λ(i:Nat)=>C1 i q->Af (getD (CO N L a ind q) i [])/\True)/\True
@[reducible] def eQ:Nat->Ak->Nat->Ac->Nat->Nat->Prop:=λ(N:Nat) (L:Ak) (a:Nat) (ind:Ac) (q y:Nat)=>(KP q y)/\Aa/\(ind=Ez (HM L a) y ind/\U2 L a ind q)/\U1 N L a ind q
@[reducible] def eR:Nat->Ak->Nat->Ac->Nat->Nat->Prop:=λ(N:Nat) (L:Ak) (a:Nat) (ind:Ac) (q y:Nat)=>(KP q y)/\Aa/\(ind++[(32:UInt8),32]=Ez (HM L a) y ind/\U2 L a ind q)/\U1 N L a ind q
def lM (a:Ak) (b:Nat) (c:Nat) (d:Ac) (e:Nat):=Ah (!AQ (ET a b) (13:Int)) (Ah (!AQ (25:Int) (ET a b)) (oL c a b d e) (eV c a b d e)) (eV c a b d e)
theorem Aji:∀(N:Nat) (L:Ak) (a:Nat) (ind:Ac) (x:PT),Ji (N+1) L a ind x->Ml a L ((∃(x0:Nat),Nat.le x0 (HK L a)/\Aa/\(x0=0/\(Gr x0)/\eS L a ind)/\(Aa/\True)/\OJ L a)/\∀(x:Nat),Nat.le x (HK L a)->Ah (AQ (↑x:Int) (Int.ofNat (Ig L a))) (Ah (An (ET L a) (12:Int)) (Al (decide (ind.length+2<=9223372036854775807)) (∃(B:Nat),eR N L a ind x B)) (Ah (An (ET L a) (8:Int)) (Ah (AQ (0:Int) (↑x:Int)) (Al (decide (ind.length+2<=9223372036854775807)) (∃(B:Nat),eR N L a ind x B)) (∃(B:Nat),eQ N L a ind x B)) (∃(B:Nat),eQ N L a ind x B))/\∀(B:Nat),(KP x B)->Al (A9 (↑x:Int) (Ig L a)) ((∃(ah:Ak),∃(y:PT),L.length=ah.length/\A8 L=A8 ah/\Int.NonNeg (Nk L a x-0)/\Ji N ah (toNat (Nk L a x)) (Ez (HM L a) B ind) y)/\(Ih/\Ih/\True)/\((ZA L a x)/\Zt L a x (Al (decide (1+List.length (AU (E5 N (KZ L.length (A8 L)) (toNat (getD (LT.kids (getD L (toNat (↑a:Int)) LT.none)) (toNat (↑x:Int)) (0:Int))) (Ez (LT.kind (getD L a LT.none)) B ind)))<=9223372036854775807)) (Al (decide (List.length ([(40:UInt8)]++AU (E5 N (KZ L.length (A8 L)) (toNat (getD (LT.kids (getD L (toNat (↑a:Int)) LT.none)) (toNat (↑x:Int)) (0:Int))) (Ez (LT.kind (getD L a LT.none)) B ind)))+1<=9223372036854775807)) (∃(E:Nat),(KP x E)/\Aa/\([(40:UInt8)]++AU (E5 N (Kd L) (toNat (Nk L a x)) (Ez (HM L a) B ind))++[(41:UInt8)]=KH N L a ind E/\U2 L a ind x)/\U1 N L a ind x))) (∃(E:Nat),(KP x E)/\Aa/\(AU (E5 N (Kd L) (toNat (Nk L a x)) (Ez (HM L a) B ind))=KH N L a ind E/\U2 L a ind x)/\U1 N L a ind x))/\∀(E:Nat),(KP x E)->Al (bif bif Nat.ble (x*1) x then true else false then decide (x+1<=9223372036854775807/\(x+1)*16<=140737488355328)else false) (EU x (∃(R:Nat),Nat.le R (HK L a)/\Nat.le (Nat.succ (HK L a-R)) (HK L a-x)/\Aa/\((Af (some 15)/\x+1=R/\Aa)/\(Fq x R)/\eS L a ind)/\(Aa/\Aa/\Aa/\Aa/\(x+1)*1=R/\AH λ(i:Nat)=>C1 i ((x+1)*1)->Ba [(1,1),(0,0),(3,15)] [AV.bs (getD (CO N L a ind R) i [])] (DQ x (λ(i:Nat)=>[AV.bs (getD (CO N L a ind x) i [])]) (λ(x:Nat)=>[AV.bs (KH N L a ind E)]) i))/\OJ L a)))) (Al (bif Nat.ble (x*1) x then Ed 1 x λ(i:Nat)=>[AV.bs (getD (CO N L a ind x) i [])]else false) (Al (bif bif bif Nat.beq x x then true else false then true else false then true else false) (Ah (An (ET L a) (1:Int)) ((∃(x0:Nat×Ac),Xm (CO N L a ind (HK L a)) x0/\Aa/\([]=x0.2/\(Gr x0.1)/\eU N L a ind x)/\OJ L a)/\∀(B:Nat×Ac),Xm (CO N L a ind (HK L a)) B->Ah (Ke B.1 (Int.ofNat x)) (Al (IF B.1 x) (Al (decide (B.2.length+List.length (getD (CO N L a ind x) (toNat (↑B.1:Int)) [])<=9223372036854775807)) (Al (decide (List.length (B.2++getD (CO N L a ind x) (toNat (↑B.1:Int)) [])+1<=9223372036854775807)) (EU B.1 (∃(R:Nat×Ac),Xm (CO N L a ind (HK L a)) R/\Nat.le (Nat.succ (List.length (CO N L a ind (HK L a))-R.1)) (List.length (CO N L a ind (HK L a))-B.1)/\Aa/\(B.2++getD (CO N L a ind x) (ES B.1) []++[(10:UInt8)]=R.2/\(Fq B.1 R.1)/\eU N L a ind x)/\OJ L a))))) (B.2=E5 (N+1) L a ind)) (Ah (An (ET L a) (12:Int)) ((TG x=true/\Ld (Nf N L a ind x)/\Nat.le ind.length 1000)/\AU (HW (Nf N L a ind x) ind)=E5 (N+1) L a ind) (Ah (An (ET L a) (8:Int)) (Al (decide (5+List.length (LT.text (getD L (toNat (↑a:Int)) LT.none))<=9223372036854775807)) (Al (decide (List.length ([(99:UInt8),111,109,112,32]++LT.text (getD L (toNat (↑a:Int)) LT.none))+4<=9223372036854775807)) (Al (A9 (0:Int) x) (Al (decide (List.length ([(99:UInt8),111,109,112,32]++LT.text (getD L (toNat (↑a:Int)) LT.none)++[(32:UInt8),111,110,32])+List.length (getD (CO N L a ind x) 0 [])<=9223372036854775807)) (Al (decide (List.length ([(99:UInt8),111,109,112,32]++LT.text (getD L (toNat (↑a:Int)) LT.none)++[(32:UInt8),111,110,32]++getD (CO N L a ind x) 0 [])+1<=9223372036854775807)) (Al (J4 (1:Int) x) ((decide (∀(i:Nat),i<x-1->Aa)=true/\Ld (List.map (λ(i:Nat)=>getD (CO N L a ind x) (1+i) []) (List.range (x-1)))/\Nat.le ind.length 1000)/\Al (decide (List.length ([(99:UInt8),111,109,112,32]++LT.text (getD L (toNat (↑a:Int)) LT.none)++[(32:UInt8),111,110,32]++getD (CO N L a ind x) 0 []++[(32:UInt8)])+List.length (AU (HW (List.map (λ(i:Nat)=>getD (CO N L a ind x) (1+i) []) (List.range (x-1))) ind))<=9223372036854775807)) ((BS/\((Af (AV.bs (getD (CO N L a ind x) 0 []))/\Af (AV.bs (LT.text (Di L a)))/\True)/\True)/\True)/\[(99:UInt8),111,109,112,32]++LT.text (Di L a)++[(32:UInt8),111,110,32]++getD (CO N L a ind x) 0 []++[(32:UInt8)]++AU (HW (List.map (λ(i:Nat)=>getD (CO N L a ind x) (1+i) []) (List.range (x-1))) ind)=E5 (N+1) L a ind)))))))) (Ah (!AQ (ET L a) (26:Int)) (Ah (!AQ (36:Int) (ET L a)) ((TG x=true/\∃(w:LT),(Nd L a)=LT.row w/\Xb w (Nf N L a ind x))/\AU (GQ (FP (Nd L a)) (Nf N L a ind x))=E5 (N+1) L a ind) (lM L a N ind x)) (lM L a N ind x))))))))
:=by
 delta Di Nd ES CG BS KP Zt C1 EU Ih Nf ZA Fq HK Ig ET Gr Nk Kd Ml IF TG lM HM Ke;intro N L a ind x h;simp only[Cd,NG,MI,UZ,U0,eS,U2,eU,eV,oL,OJ,U1,eQ,eR,CG,Bh,Me,HM,Mo,Mm,Di,Ig,ET,ZE,Cx,Hb,HJ,Nd,Nf,TG,Kd,C1,KP];have ag:=yq _ _ _ _ _ h;obtain⟨k,s,n,l,c,ks⟩:=x;have r:=nL h;have aH:=r.il;have aD:=r.lt;have aA:=nB r.tb;have aC:=kQ r.nb;have aF:=N7 ks;have Y:=r.YR;rw[Im]at ag;have ai:(E5 (N+1) L a ind).length<=2000000:=by omega
 have ad:∀q:Nat,FP (A8 L q)=L.getD q LT.none:=λq=>NM _;have ae:∀(S:AP) (q:Nat),KM (rI S q)=S.getD q 0:=λS q=>rfl;have hw:FP [AV.int IntKind.i64 (L.getD a LT.none).kind,AV.bs (L.getD a LT.none).text,AV.int IntKind.i64 (L.getD a LT.none).n,AV.int IntKind.i64 (L.getD a LT.none).line,AV.int IntKind.i64 (L.getD a LT.none).Ao,AV.vec 1 (L.getD a LT.none).kids.length (rI (L.getD a LT.none).kids)]=L.getD a LT.none:=NM _;have af:E5 (N+1) L a ind=Iy L (L.getD a LT.none) (CO N L a ind ks.length) ind:=by show Iy L (L.getD a LT.none) (CO N L a ind (L.getD a LT.none).kids.length) ind=_;rw[r.YR]
 have J:∀i,i<ks.length->∀C:Ac,C.length<=ind.length+2->Ji N L ((L.getD a LT.none).kids.getD i 0).toNat C (ks.getD i Dm):=λi hi C hd=>by rw[r.H9 i hi,Int.toNat_natCast];exact r.sub i hi C hd
 have V:∀i,i<ks.length->∀C:Ac,C.length<=ind.length+2->(E5 N L ((L.getD a LT.none).kids.getD i 0).toNat C).length<=2000000:=λi hi C hd=>by have O:=yq _ _ _ _ _ (J i hi C hd);have W:=mq ks i hi;omega
 have hK:Ld (CO N L a ind ks.length):=⟨by rw[O2];omega,λt ht=>by unfold CO at ht;obtain⟨i,hi,rfl⟩:=List.mem_map.1 ht;have hi:=List.mem_range.1 hi;have O:=ki (Jv L (L.getD a LT.none) i) (E5 N L ((L.getD a LT.none).kids.getD i 0).toNat (Ez (L.getD a LT.none).kind i ind));have W:=V i hi _ (X7 (L.getD a LT.none).kind i ind);unfold KH;omega⟩;have ak:(CO N L a ind ks.length).length=ks.length:=O2 _ _ _ _ _;simp only[K0,ad,ae,hw,Y];refine At (Cf.2 (by omega)) ⟨⟨0,CL _,rfl,rfl⟩,λi hi=>?_⟩;refine Aw (λO=>?_) λO=>?_
 ·rw[CE]at O;have Z:i<ks.length:=by omega
  have hd:=X7 (L.getD a LT.none).kind i ind;refine⟨?_,λj hj=>?_⟩
  ·have ex:∀t,t=Ez (L.getD a LT.none).kind i ind->∃B:Nat,(∀b:Int,(i:Int)=b->b=B)/\t=Ez (L.getD a LT.none).kind B ind:=λt e=>⟨i,λb hb=>hb.symm,e⟩;refine Kv (λe=>At (Bi (by omega)) (ex _ ?_)) λe=>Kv (λe2=>Aw (λg=>At (Bi (by omega)) (ex _ ?_)) λg=>ex _ ?_) λe2=>ex _ ?_
   ·unfold Ez;rw[Am (.inl e)]
   ·rw[CE]at g;unfold Ez;rw[Am (.inr ⟨e2,by omega⟩)]
   ·rw[CF]at g;unfold Ez;rw[Ad (by rintro(q|q);exact e q;omega)]
   ·unfold Ez;rw[Ad (by rintro(q|q);exact e q;exact e2 q.1)]
  obtain rfl:i=j:=by have:=hj _ rfl;omega
  have ht:=V i Z _ hd;have aE:=r.H9 i Z;have an:=(J i Z _ hd).bQ.le;have aB:=F9 (ks.getD i Dm);rw[(I0 _).1]at an;refine At (Cf.2 (by omega)) ⟨⟨L,ks.getD i Dm,rfl,rfl,(show(0:Int)<=_ by omega),J i Z _ hd⟩,⟨⟨L,(L.getD a LT.none).kids,rfl,rfl,Y.symm,rfl,(show(0:Int)<=(i:Int) by omega),(show(i:Int)<((L.getD a LT.none).kids.length:Int) by omega),(show(0:Int)<=(L.getD a LT.none).kids.getD i 0 by omega),(show(L.getD a LT.none).kids.getD i 0<(L.length:Int) by omega),(show(i:Int)<=100000000 by omega)⟩,?_⟩,λj hj=>?_⟩
  ·have hp:Jv L (L.getD a LT.none) i=decide (0<C7 (L.getD ((L.getD a LT.none).kids.getD i 0).toNat LT.none).kind (L.getD ((L.getD a LT.none).kids.getD i 0).toNat LT.none).text/\C7 (L.getD ((L.getD a LT.none).kids.getD i 0).toNat LT.none).kind (L.getD ((L.getD a LT.none).kids.getD i 0).toNat LT.none).text<Fo (L.getD a LT.none).kind (L.getD a LT.none).text i):=rfl;rw[<-hp];refine Aw (λg=>At (Bi (by omega)) (At (Bi (by simp only[AK,AE,List.length_nil];omega)) ⟨i,λb hb=>hb.symm,?_⟩)) λg=>⟨i,λb hb=>hb.symm,?_⟩
   ·unfold KH M8;rw[Am g]
   ·unfold KH M8;rw[Ad (by rw[g];simp)]
  obtain rfl:i=j:=by have:=hj _ rfl;omega
  refine At (Bi (by omega)) (At (CJ.2 (by omega)) ⟨i+1,by omega,by omega,⟨rfl,by omega⟩,rfl,⟨λq hq=>?_⟩⟩);have e:DQ i (λav=>[AV.bs ((CO N L a ind i).getD av [])]) (λ_=>[AV.bs (KH N L a ind i)]) q=[AV.bs ((CO N L a ind (i+1)).getD q [])]:=by
   rw[uQ];refine Va (λg=>?_) λg=>?_
   ·rw[B2,B2,List.getElem?_append_left (by rw[O2];exact g)]
   ·obtain rfl:q=i:=by omega
    rw[B2,List.getElem?_append_right (by rw[O2];omega),O2,Lc];rfl
  rw[e];exact⟨rfl,trivial⟩
 ·rw[CF]at O;obtain rfl:i=ks.length:=by omega
  refine At Ade ?_;rw[AeM _ ak.symm,AeN _ ak.symm,af];clear O hi;rw[Y]at hw;rw[hw];have rk:=r.kind;have rt:=r.text;have rn:=r.num;have km:=r.km;have nb:=r.nb;have kb:=r.kb;have U:[AV.int IntKind.i64 (L.getD a LT.none).kind,AV.bs (L.getD a LT.none).text,AV.int IntKind.i64 (L.getD a LT.none).n,AV.int IntKind.i64 (L.getD a LT.none).line,AV.int IntKind.i64 (L.getD a LT.none).Ao,AV.vec 1 ks.length (rI (L.getD a LT.none).kids)]=(L.getD a LT.none).row:=by unfold LT.row;rw[Y]
  have az:k=23->(L.getD a LT.none).kids.getD 2 0<(L.length:Int)/\0<=(L.getD a LT.none).kids.getD 2 0:=λe=>by have c3:=jj (by rw[e]at km;exact km);rw[FL]at c3;have O:=(J 2 (by omega) ind (by omega)).bQ.le;have W:=F9 (ks.getD 2 Dm);rw[(I0 _).1]at O;rw[r.H9 2 (by omega)]at O⊢;rw[Int.toNat_natCast]at O;omega
  clear J V af hw r h ad ae ag ai;generalize CO N L a ind ks.length=K at*;subst rk rt rn;have c1:=λhk=>AdT (k:=(L.getD a LT.none).kind) km hk;have c2:=λhk=>AdU (k:=(L.getD a LT.none).kind) km hk;have c3:=λhk:(L.getD a LT.none).kind=23=>jj (by rw[hk]at km;exact km);rw[FL]at c1 c2 c3;have g0:=Lo hK 0;have aq:(L.getD a LT.none).kind=19->-1<=(L.getD a LT.none).n/\(L.getD a LT.none).n<=10000000000:=λ_=>by omega
  have ao:(L.getD a LT.none).kind=26->0<=(L.getD a LT.none).n/\(L.getD a LT.none).n<=10000000000:=λe=>by unfold E2 at nb;rw[Ad (by omega),Ad (by omega),Ad (by omega),Am e]at nb;have:=Bt nb;omega
  have aw:(L.getD a LT.none).kind=9->0<=(L.getD a LT.none).n/\(L.getD a LT.none).n<=3:=λe=>by unfold E2 at nb;rw[Am e]at nb;exact Bt nb
  have ar:(L.getD a LT.none).kind=10->(L.getD a LT.none).n=0\/(L.getD a LT.none).n=1:=λe=>by unfold E2 at nb;rw[Ad (by omega),Am e]at nb;exact Bt nb
  refine Kv (λe=>?_) λe1=>Kv (λe=>?_) λab=>Kv (λe=>?_) λe8=>?_
  ·refine⟨⟨(0,[]),⟨CL _,by simp[Nq],by simp⟩,rfl,rfl⟩,λx hx=>?_⟩;obtain⟨i,s⟩:=x;have ay:=hx.le;have heq:=hx.eq;have au:=hx.len;simp only at ay heq au⊢;have hg:=Lo hK i;have hb:i*10000001<=1000*10000001:=Nat.mul_le_mul_right _ (by have:=hK.len;omega);refine Aw (λW=>?_) λW=>?_
   ·rw[CE]at W;refine At (Cf.2 (by omega)) (At (Bi (by omega)) (At (Bi (by simp only[AK,AE,List.length_nil];omega)) (At (CJ.2 (by omega)) ⟨(i+1,s++K.getD i []++[10]),⟨by simp only;omega,?_,?_⟩,by simp only;omega,rfl,by simp only;omega⟩)))
    ·simp only
     rw[AgV K (by omega),heq]
    ·simp only[AK,AE,List.length_nil];omega
   ·rw[CF]at W;unfold Iy;rw[Am e,heq,List.take_of_length_le (by omega)]
  ·exact⟨⟨hK,show ind.length<=1000 by omega⟩,by unfold Iy;rw[Ad e1,Am e]⟩
  ·have aG:=c1 (by omega);have aa:Ld (K.drop 1):=⟨by rw[HC];omega,λt ht=>hK.all t (List.mem_of_mem_drop ht)⟩;have aI:(HW (K.drop 1) ind).length<=20000000000:=by
    have O:=Vc (K.drop 1) ind;have W:(K.drop 1).length*(ind.length+3)<=1000*1003:=Nat.mul_le_mul aa.len (by omega);have h3:DH (K.drop 1)<=1000*10000000:=by
     have h4:∀M:List Ac,(∀t∈M,t.length<=10000000)->DH M<=M.length*10000000:=λM=>by
      induction M with
      |nil=>intro _;exact CL _
      |cons t M ih=>intro h;have h5:=ih λt ht=>h t (Ca _ ht);have h6:=h t BN;rw[YZ,AE,Nat.succ_mul];omega
     exact G3 (h4 _ aa.all) (Nat.mul_le_mul_right _ aa.len)
    omega
   refine At (Bi (by omega)) (At (Bi (by simp only[AK,AE,List.length_nil];omega)) (At (Cf.2 (by omega)) (At (Bi (by simp only[AK,AE,List.length_nil];omega)) (At (Bi (by simp only[AK,AE,List.length_nil];omega)) (At (SK.2 (by omega)) ⟨⟨aa,show ind.length<=1000 by omega⟩,At (Bi (by simp only[AK,AE,List.length_nil];omega)) ?_⟩)))));unfold Iy;rw[Ad e1,Ad ab,Am e];rfl
  have al:¬(26<=(L.getD a LT.none).kind/\(L.getD a LT.none).kind<=36)->¬(13<=(L.getD a LT.none).kind/\(L.getD a LT.none).kind<=25)->(∃aj:LT,[AV.int IntKind.i64 (L.getD a LT.none).kind,AV.bs (L.getD a LT.none).text,AV.int IntKind.i64 (L.getD a LT.none).n,AV.int IntKind.i64 (L.getD a LT.none).line,AV.int IntKind.i64 (L.getD a LT.none).Ao,AV.vec 1 ks.length (rI (L.getD a LT.none).kids)]=aj.row/\UN aj K)/\Ff (L.getD a LT.none) K=Iy L (L.getD a LT.none) K ind:=λq1 q2=>
   ⟨⟨L.getD a LT.none,U,⟨hK,by omega,aw,ar,λe=>by have:=c1 (by omega);omega,λe=>by have:=c2 (by omega);omega⟩⟩,by unfold Iy;rw[Ad e1,Ad ab,Ad e8,Ad q1,Ad q2]⟩
  have q0:∀ {z b:Int},(!AQ z b)=true->b<=z:=λh=>by rw[EH,CF]at h;exact h
  have q1:∀ {z b:Int},(!AQ z b)=false->z<b:=λh=>by rw[EG,CE]at h;exact h
  refine Aw (λg=>Aw (λg2=>?_) λg2=>?_) λg=>?_
  ·have g:=q0 g;have g2:=q0 g2;refine⟨⟨_,U,⟨hK,by omega,ao,λe=>by have:=c1 (by omega);omega,λe=>by have:=c2 (by omega);omega⟩⟩,?_⟩;unfold Iy;rw[Ad e1,Ad ab,Ad e8,Am ⟨g,g2⟩]
  all_goals
   have ng:¬(26<=(L.getD a LT.none).kind/\(L.getD a LT.none).kind<=36):=by
    first
     |(have:=q1 g;omega)
     |(have:=q1 g2;omega)
   refine Aw (λg3=>Aw (λg4=>?_) λg4=>?_) λg3=>?_
   ·have g3:=q0 g3;have g4:=q0 g4;refine⟨⟨L,_,rfl,rfl,U,⟨hK,by omega,aq,λe=>by have:=c1 (by omega);omega,λe=>by have:=c2 (by omega);omega,λe=>?_⟩⟩,?_⟩
    ·have O:=c3 e;have W:=az e;exact⟨by omega,by omega,W.2,W.1⟩
    ·unfold Iy;rw[Ad e1,Ad ab,Ad e8,Ad ng,Am ⟨g3,g4⟩]
   ·exact al ng (by have:=q1 g4;omega)
   ·exact al ng (by have:=q1 g3;omega)
theorem Ajh:∀(N:Nat) (L:Ak) (a:Nat) (ind:Ac) (x:PT),Ji (N+1) L a ind x->(A4 (rU N L a ind) 60).call 20 [tree L,.int .i64 a,.bs ind] .leaf 0 (Cb Tryz.prog false (.bs (E5 (N+1) L a ind))):=Eq.mpr (by kernel_rfl) Aji
theorem AfY:∀N,Ck Tryz.prog 20 (Vo N):=by
 intro N
 induction N with
 |zero=>
  refine OV (gl:=[]) (ng:=0) Bq λH args ct q=>?_;unfold Vo at q;split at q
  ·rename_i n f a x;obtain⟨ind,B,q⟩:=Ag.1 q;injection q with q;refine⟨Bq,_,_,q.symm,?_⟩;rintro⟨L,y,rfl,rfl,E,h⟩;have:=h.mr;have:=F9 y;omega
  ·cases q
 |succ N C=>
  refine OV (gl:=[]) (ng:=0) Bq λH args ct q=>?_;unfold Vo at q;split at q
  ·rename_i n f a x;obtain⟨ind,B,q⟩:=Ag.1 q;injection q with q;refine⟨Bq,_,_,q.symm,?_⟩;rintro⟨L,y,rfl,rfl,E,h⟩;obtain⟨b,rfl⟩:∃b:Nat,a=b:=⟨a.toNat,by omega⟩;rw[Int.toNat_natCast]at h⊢;refine⟨[tree L,.int .i64 b,.bs ind],Kl (PH _) (Kl (PH _) (Kl (WJ B) Rm)),⟨Nz L,⟨rfl,rfl⟩,rfl,trivial⟩,rU N L b ind,60,rfl,Bu,Cj C (Cj wL (Cj Afh (Cj AfQ (Cj AfN (Cj Afj B5))))),?_⟩;rw[Dr,K0];exact Ajh N L b ind y h
  ·cases q
end Go.Proofs.YtlmmbanfhjaioaaGreatDoor
end
end
