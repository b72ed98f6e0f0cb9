/- Laid by program out of its parts: PgT, PgU, PgV. -/
import Derived.Test.YtlmmbanfhjaioaaGreatDoorPg5
import Derived.Test.YtlmmbanfhjaioaaGreatDoorPf0
noncomputable section
set_option linter.unusedVariables false
set_option linter.unusedSimpArgs false
section
set_option maxRecDepth 100000
set_option maxHeartbeats 4000000
open Go Go.Ev
namespace Go.Proofs.YtlmmbanfhjaioaaGreatDoor
theorem yL {x:PT} {d:Int} (q:L1 x.kind=true):∃h t,AR x=h::t:=by
 obtain⟨k,s,z,l,c,ks⟩:=x;have q:k=2\/k=3\/k=6\/k=7\/k=8\/k=10\/k=11:=by unfold L1 at q;exact Bt q
 rw[K5];rcases q with rfl|rfl|rfl|rfl|rfl|rfl|rfl<;>exact⟨_,_,rfl⟩
theorem we {L:Ab} {n:Nat} {d:Int} (hn:L.length<=n):∀(C:Av) (k:Nat) (l:Av) (s:RS),(∀y∈C,L1 y.kind=true/\B9 y d)->A3 L s ((C.map AR).flatten) d->C.length<k-> Hp (I6 (Gm (lv n).b) L k l s).1=Hp (l++C)/\A3 L (I6 (Gm (lv n).b) L k l s).2 [] d
 | [],0,l,s,_,_,h=>by omega
 | [],k+1,l,s,_,B,_=>by
  have B:A3 L s [] d:=B;have E:¬s.at_<L.length:=λg=>by have K:=B.RP;have:=B.rem;rw[List.drop_eq_getElem_cons (by omega)]at this;cases this
  unfold I6;rw[Ad λg=>E g.2,HD];exact⟨rfl,B⟩
 |y::C,0,l,s,_,_,h=>by omega
 |y::C,k+1,l,s,hy,B,J=>by
  obtain⟨h,t,e⟩:=yL (d:=d) (hy y BN).1;have B:A3 L s (AR y++((C.map AR).flatten)) d:=B;have M:=Ow B;have g:=Aby (n:=n) (hy y BN).1 (hy y BN).2 B (by omega);have E:s.at_<L.length:=by
   have K:=B.RP;have:=B.rem;rw[e]at this;by_cases q:s.at_<L.length
   ·exact q
   ·rw[List.drop_eq_nil_of_le (by omega)]at this;cases this
  unfold I6;rw[Am ⟨B.err,E⟩];have r:=we hn C k (l++[(Gm (lv n).b L s).1]) (Gm (lv n).b L s).2 (λz hz=>hy z (Ca _ hz)) g.st (by simpa using J);refine⟨?_,r.2⟩;rw[r.1,QG,QG,QG,Bm,SZ,g.x,Bm,A7];rfl
theorem Aek {q:Av} (h:∀y∈q,L1 y.kind=true):q.length<=((q.map AR).flatten).length:=by
 induction q with
 |nil=>exact CL _
 |cons y q B=>obtain⟨a,t,e⟩:=yL (d:=0) (h y BN);have:=B λz hz=>h z (Ca _ hz);rw[List.map_cons,List.flatten_cons,AK,e,AE,AE];omega
theorem Ak7 {x:PT} (U:x.kind=1) (K:B9 x 0) {L:Ab} (Y:L.length<=100000) (h:L.map WI=AR x):Bc (Kj L).1=Bc x/\(Kj L).2.err=0:=by
 obtain⟨k,s,z,l,c,ks⟩:=x;obtain rfl:k=1:=U;unfold B9 at K;obtain⟨W,J,S,R⟩:=K;obtain rfl:=GR J.2.1 (by omega);obtain rfl:=DZ J.2.2 (by decide) (by decide) (by decide) (by decide);have q:∀y∈ks,L1 y.kind=true:=λy hy=>Uo (d:=100) S y hy;have B:∀y∈ks,B0 y.kind=false:=λy hy=>by have:=q y hy;unfold L1 at this;have:=Bt this;unfold B0;exact Ej (by omega)
 have E:∀y∈ks,y.kind≠12:=λy hy=>by have:=q y hy;unfold L1 at this;have:=Bt this;omega
 have C:=WT (by decide) ks 0 _ R λy hy=>⟨E y hy,B y hy⟩;have eq:AR (.mk 1 [] 0 l c ks)=(ks.map AR).flatten:=by rw[K5,<-VM (k:=1) (s:=[]) ks 0 (λy hy=>.inr (B y hy)) B];rfl
 rw[eq]at h;have M:A3 L IG ((ks.map AR).flatten) 0:=⟨rfl,JU 0,h,rfl⟩;have O:=Ow M;have V:=Aek q;have r:=we (n:=100001) (by omega) ks (B3 L) [] IG (λy hy=>⟨q y hy,C y hy⟩) M (by unfold B3;omega);rw[cX];show Bc (nd 1 [] 0 cT (Lv (Gm (lv 100001).b) L IG).1)=_/\(Lv (Gm (lv 100001).b) L IG).2.err=0;unfold Lv;exact⟨by rw[DO,Dl,r.1];rfl,r.2.err⟩
theorem Agg {x:PT} (J:x.kind=1) (B:B9 x 0) (R:(Hz x []).length<=100000):∃y:PT,Bc y=Bc x/\Ep (Hz x [])=flat y/\Da (Hz x [])=[]:=by
 obtain⟨M,E⟩:=Aj6 B;have O:=yD (Hz x []);have K:(Mz (Hz x [])).map WI=AR x:=by rw[WN,List.map_map,<-M];rfl
 have q:(Mz (Hz x [])).length<=100000:=by rw[WN,FL];omega
 obtain⟨L,C⟩:=Ak7 J B q K;refine⟨(Kj (Mz (Hz x []))).1,L,?_,?_⟩
 ·unfold Ep JQ;rw[E,Am (by rfl),Am C]
 ·unfold Da Ki;rw[E,Am (by rfl),Am C]
def bO (v w:LT):Prop:=v.kind=w.kind/\v.text=w.text/\v.n=w.n/\v.kids=w.kids
theorem AjW {v w:LT} (h:bO v w) (a:Int):bO (Cm a v) (Cm a w):=by obtain⟨C,B,y,q⟩:=h;exact⟨C,B,y,by unfold Cm;simp only[q]⟩
def Ku:Ak->Ak->Prop
 | [],[]=>True
 |v::V,w::W=>bO v w/\Ku V W
 |_,_=>False
theorem xh:∀ {A B C D:Ak},Ku A B->Ku C D->Ku (A++C) (B++D)
 | [],[],_,_,_,h=>h
 |a::A,b::B,_,_,h,g=>⟨h.1,xh (A:=A) (B:=B) h.2 g⟩
theorem xl:∀ {A B:Ak} (a:Int),Ku A B->Ku (A.map (Cm a)) (B.map (Cm a))
 | [],[],_,_=>trivial
 |x::A,y::B,a,h=>⟨AjW h.1 a,xl (A:=A) (B:=B) a h.2⟩
theorem xk:∀ {A B:Ak},Ku A B->A.length=B.length
 | [],[],_=>rfl
 |x::A,y::B,h=>by rw[AE,AE,xk (A:=A) (B:=B) h.2]
theorem xj:∀ {A B:Ak},Ku A B->∀i,i<A.length->bO (A.getD i LT.none) (B.getD i LT.none)
 |x::A,y::B,h,0,_=>h.1
 |x::A,y::B,h,i+1,hi=>xj (A:=A) (B:=B) h.2 i (by simpa using hi)
theorem AeY {k B:Int} {s s':Ac} {n y l C c M:Int} {ks q:Av} (h:Bc (.mk k s n l c ks)=Bc (.mk B s' y C M q)):k=B/\s=s'/\n=y/\Hp ks=Hp q:=by rw[Dl,Dl]at h;injection h with L K J _ _ E;exact⟨L,K,J,E⟩
mutual
theorem xi:∀(x y:PT),Bc x=Bc y->Ku (flat x) (flat y)/\sz x=sz y
 |.mk k s n l c ks,.mk K s' E J L q,h=>by obtain⟨rfl,rfl,rfl,B⟩:=AeY h;obtain⟨C,g2,g3⟩:=xm ks q 1 B;rw[NS,NS,Im,Im,g2];exact⟨⟨⟨rfl,rfl,rfl,g3⟩,C⟩,rfl⟩
theorem xm:∀(ks q:Av) (o:Nat),Hp ks=Hp q->Ku (LG o ks) (LG o q)/\BG ks=BG q/\Hr o ks=Hr o q
 | [],[],o,_=>⟨trivial,rfl,rfl⟩
 | [],y::B,o,h=>by rw[SZ,Bm]at h;cases h
 |y::B,[],o,h=>by rw[SZ,Bm]at h;cases h
 |x::C,y::B,o,h=>by rw[Bm,Bm]at h;injection h with J E;obtain⟨M,g2⟩:=xi x y J;obtain⟨g3,L,K⟩:=xm C B (o+sz x) E;rw[Pw,Pw,Cc,Cc,QH,QH,<-g2,L,K];exact⟨xh (xl _ M) g3,rfl,rfl⟩
end
structure Jd (x:PT) (d:Int) (ind:List UInt8):Prop where
 a:(ind.length:Int)<=2*d+2
 b:x.kind=12\/x.kind=8\/x.kind=1->(ind.length:Int)<=2*d
theorem sY {k:Int} {s:Ac} {n:Int} {b:Bool} {K:List Ac} {ind:Ac} (hn:n<=10000000000):(L3 k s n b K ind).length<=DH K+K.length*(ind.length+3)+ind.length+s.length+60:=by
 cases b with
 |false=>have:=iv (L:=[]) (w:=Iz k s n) (K:=K) (ind:=ind) hn;rw[iu [] (Iz k s n) false K ind λ_=>rfl]at this;exact this
 |true=>have:=iv (L:=[⟨0,[],0,0,0,[0]⟩]) (w:=Iz k s n) (K:=K) (ind:=ind) hn;rw[iu _ (Iz k s n) true K ind λ_=>rfl]at this;exact this
theorem AcL {k:Int} {s:Ac} {n:Int} {b:Bool} {K:List Ac} {ind:Ac} (y:k≠12) (q:k≠8):L3 k s n b K ind=L3 k s n b K []:=by unfold L3;rw[Ad y,Ad y,Ad q,Ad q]
theorem VN:∀(s:Ac) (l:AP),Cq s l=true->∀x∈l,∃c∈s,BQ ((c:UInt8).toNat:Int) x=true
 | [],l,h,x,q=>by rw[Mb h]at q;cases q
 | [c],l,h,x,q=>by
  cases l with
  |nil=>cases q
  |cons y t=>have h:(BQ (c.toNat:Int) y&&t.isEmpty)=true:=h;rw[C5,List.isEmpty_iff]at h;obtain⟨C,rfl⟩:=h;rw[DE.1 q];exact⟨c,BN,C⟩
 |c::d::s,l,h,x,q=>by
  by_cases C:c=42
  ·subst C;rw[jm]at h;rw[<-List.takeWhile_append_dropWhile (p:=BQ (d.toNat:Int)) (l:=l)]at q;rcases List.mem_append.1 q with q|q
   ·exact⟨d,by simp,(List.all_eq_true.1 List.all_takeWhile) x q⟩
   ·obtain⟨g,B,e⟩:=VN s _ h x q;exact⟨g,Ca _ (Ca _ B),e⟩
  by_cases E:c=63
  ·subst E;rw[jl]at h;cases l with
   |nil=>cases q
   |cons y t=>
    have h:Cq s (if BQ (d.toNat:Int) y=true then t else y::t)=true:=h;by_cases g:BQ (d.toNat:Int) y=true
    ·rw[Am g]at h;rcases CS.1 q with rfl|q
     ·exact⟨d,by simp,g⟩
     ·obtain⟨g,B,e⟩:=VN s _ h x q;exact⟨g,Ca _ (Ca _ B),e⟩
    ·rw[Ad g]at h;obtain⟨g,B,e⟩:=VN s _ h x q;exact⟨g,Ca _ (Ca _ B),e⟩
  obtain⟨y,t,rfl,hy,ht⟩:=Jr h C E;rcases CS.1 q with rfl|q
  ·exact⟨c,BN,hy⟩
  ·obtain⟨g,B,e⟩:=VN (d::s) t ht x q;exact⟨g,Ca _ B,e⟩
theorem AeV {p:Prop} [Decidable p] {c:UInt8} {a b:Ac} (y:p->¬c∈a) (q:¬p->¬c∈b):¬c∈(if p then a else b):=by
 split
 ·exact y (by assumption)
 ·exact q (by assumption)
theorem uL {k:Int} {l:AP} (B:k≠1) (h:Cq (BO k) l=true):∀x∈l,x≠8/\x≠1:=λx y=>by
 obtain⟨c,hc,e⟩:=VN _ _ h x y;have C:(c.toNat:Int)≠100:=by
  intro q;have:c=100:=by apply UInt8.toNat_inj.1;show c.toNat=100;omega
  subst this;revert hc;unfold BO;rw[Ad B];show¬(100:UInt8)∈_
  repeat' with_reducible refine AeV (λ_=>?_) (λ_=>?_)
  all_goals decide
 unfold BQ at e
 repeat' split at e
 all_goals first
  |(have:=Bt e;omega)
  |(unfold B0 at e;have:=Bt e;omega)
  |(unfold K7 at e;have:=Bt e;omega)
  |(unfold mh at e;have:=Bt e;omega)
  |contradiction
theorem AeP (k:Int) (s:Ac) (i:Nat) (y:PT):0<=EB k s i y:=by unfold EB;split<;>split<;>split<;>omega
theorem AeQ {k:Int} {s:Ac} {i:Nat} {y:PT} (h:y.kind=12):1<=EB k s i y:=by unfold EB;rw[Am h];split<;>split<;>omega
theorem AdF {k:Int} {s:Ac} {n l c:Int} {ks:Av} {d:Int} {ind:Ac} {i:Nat} {y:PT} (h:Jd (.mk k s n l c ks) d ind) (hy:k≠1->y.kind≠8/\y.kind≠1) (C:k=12\/k=8->y.kind≠12) (J:y.kind≠1):Jd y (d+EB k s i y) (Ez k i ind):=by
 have R:=h.a;have E:k=12\/k=8\/k=1->(ind.length:Int)<=2*d:=h.b;have O:=AeP k s i y;unfold Ez;by_cases g:k=12\/k=8/\0<i
 ·rw[Am g];have B:k≠1:=by omega
  have M:=E (by omega);have L:=C (by omega);have K:=hy B;have e:((ind++[32,32]).length:Int)=ind.length+2:=by simp
  exact⟨by rw[e];omega,λq=>by omega⟩
 ·rw[Ad g];refine⟨by omega,λq=>?_⟩;rcases q with q|q|q
  ·have:=AeQ (k:=k) (s:=s) (i:=i) q;omega
  ·by_cases B:k=1
   ·have:=E (.inr (.inr B));omega
   ·exact absurd q (hy B).1
  ·exact absurd q J
mutual
theorem yp:∀(x:PT) (d:Int) (ind:Ac),B9 x d->Jd x d ind->(Hz x ind).length+135<=320*sz x
 |.mk k s n l c ks,d,ind,hw,J=>by
  unfold B9 at hw;obtain⟨w1,E,C,O⟩:=hw;have V:=nB E.2.1;have W:=kQ E.2.2;have h1:=J.a;have L:k=12\/k=8\/k=1->(ind.length:Int)<=2*d:=J.b;have R:∀y∈ks,(k≠1->y.kind≠8/\y.kind≠1)/\(k=12\/k=8->y.kind≠12)/\y.kind≠1:=λy hy=>by
   have q:y.kind∈ks.map PT.kind:=List.mem_map.2 ⟨y,hy,rfl⟩;refine⟨λg=>uL g C _ q,λg=>?_,?_⟩
   ·rcases g with rfl|rfl
    ·have:=Bt (show decide (13<=y.kind/\y.kind<=25)=true from Uo (d:=115) C y hy);omega
    ·obtain⟨u,t,rfl,hu,ht⟩:=yN (c:=117) (d:=108) C (by decide) (by decide);rcases CS.1 hy with rfl|hy
     ·have:=Bt (show decide (y.kind=29)=true from hu);omega
     ·have:=Bt (show decide (y.kind=9)=true from ht y hy);omega
   ·by_cases g:k=1
    ·subst g;have:=Bt (show decide (y.kind=2\/y.kind=3\/y.kind=6\/y.kind=7\/y.kind=8\/y.kind=10\/y.kind=11)=true from Uo (d:=100) C y hy);omega
    ·exact(uL g C _ q).2
  have hK:=uP ks k s n l c ks 0 d ind O J R;have q:=ji k s ks 0 ind;unfold Hz;rw[Im];by_cases M:k=12
  ·subst M;have U:=L (.inl rfl);obtain rfl:=GR E.2.1 (by omega);have B:(L3 12 [] n (E6 ks) (EA 12 [] ks 0 ind) ind).length<=DH (EA 12 [] ks 0 ind)+(EA 12 [] ks 0 ind).length*(ind.length+3)+ind.length+3:=Vc _ _;rw[q]at B;have S:ks.length*(ind.length+3)<=ks.length*131:=Nat.mul_le_mul_left _ (by omega);omega
  by_cases g2:k=8
  ·subst g2;have U:=L (.inr (.inl rfl));have B:=sY (k:=8) (s:=s) (n:=n) (b:=E6 ks) (K:=EA 8 s ks 0 ind) (ind:=ind) (by omega);rw[q]at B;have S:ks.length*(ind.length+3)<=ks.length*131:=Nat.mul_le_mul_left _ (by omega);have h5:ind.length<=128:=by omega
   have Z:(L3 8 s n (E6 ks) (EA 8 s ks 0 ind) ind).length<=DH (EA 8 s ks 0 ind)+ks.length*(ind.length+3)+ind.length+s.length+17:=by
    have Y:=Vc ((EA 8 s ks 0 ind).drop 1) ind;have e1:DH (EA 8 s ks 0 ind)=(kd (EA 8 s ks 0 ind) 0).length+DH ((EA 8 s ks 0 ind).drop 1):=by
     cases EA 8 s ks 0 ind with
     |nil=>simp[kd,DH]
     |cons t K=>simp[kd,DH]
    have e2:((EA 8 s ks 0 ind).drop 1).length*(ind.length+3)<=ks.length*(ind.length+3):=Nat.mul_le_mul_right _ (by rw[HC,q];omega);show([99,111,109,112,32]++s++[32,111,110,32]++kd (EA 8 s ks 0 ind) 0++[32]++HW ((EA 8 s ks 0 ind).drop 1) ind).length<=_;simp only[AK,AE,List.length_nil];omega
   omega
  ·rw[AcL M g2];have B:=sY (k:=k) (s:=s) (n:=n) (b:=E6 ks) (K:=EA k s ks 0 ind) (ind:=[]) (by omega);rw[q]at B;simp only[List.length_nil]at B;omega
theorem uP:∀(q:Av) (k:Int) (s:Ac) (n l c:Int) (ks:Av) (i:Nat) (d:Int) (ind:Ac),Cv k s q i d->Jd (.mk k s n l c ks) d ind-> (∀y∈q,(k≠1->y.kind≠8/\y.kind≠1)/\(k=12\/k=8->y.kind≠12)/\y.kind≠1)->DH (EA k s q i ind)+133*q.length<=320*BG q
 | [],k,s,n,l,c,ks,i,d,ind,_,_,_=>by unfold EA;simp[DH]
 |y::q,k,s,n,l,c,ks,i,d,ind,hw,C,B=>by unfold Cv at hw;obtain⟨k1,k2,k3⟩:=B y BN;have K:=yp y _ (Ez k i ind) hw.1 (AdF C k1 k2 k3);have J:=uP q k s n l c ks (i+1) d ind hw.2 C λz hz=>B z (Ca _ hz);have E:=ki (BC k s i y) (Hz y (Ez k i ind));unfold EA;rw[YZ,Cc,AE];omega
end
theorem Agj {x:PT} (y:x.kind=1) (q:B9 x 0) (hz:sz x<=300):(Hz x []).length<=100000:=by have:=yp x 0 [] q ⟨by simp,λ_=>by simp⟩;omega
end Go.Proofs.YtlmmbanfhjaioaaGreatDoor
end
section
set_option maxRecDepth 100000
set_option maxHeartbeats 2000000
open Go Go.Ev
namespace Go.Proofs.YtlmmbanfhjaioaaGreatDoor
def Aaq {X:Type} (Q:X->Prop) (v:X->AV) (r:CR):Prop:=∃x,Q x/\Cb Tryz.prog false (v x) r
structure LR (L:List LT):Prop where
 len:L.length<=300
 text:∀i,i<L.length->(L.getD i LT.none).text.length<=100
def lj:PW:=λ_ args=>match args with
 | [.agg [.vec 6 n f],.int .i64 a]=>some ⟨Bool,(∃L:Ak,n=L.length/\f=A8 L/\a=300),λb=>b=false->∀L:Ak,n=L.length->f=A8 L->LR L,λb=>.bool b⟩
 |_=>none
structure W7 (L:List LT) (i:Nat):Prop where
 le:i<=L.length
 le2:i<=300
 text:∀j,j<i->(L.getD j LT.none).text.length<=100
def SMu (L:Ak):CX:=thin Nat [0,1,2,4] (λi=>[(5,.int .i64 i)]) (λ_ i=>W7 L i) λi=>L.length-i
def rF (L:Ak):Ctx:={P:=Tryz.prog,tb:=[],lp:=λf r=>cond (Nat.beq f 12) (cond (Nat.beq r 2) (some (SMu L)) none) none,cut:=λ_ _=>none}
def gu:Tr Ae->Aj->Option Ct:=λ_ args=>match args with
 | [.agg [.vec 6 n f]]=>some (.Be (∃(L:Ak) (x:PT),n=L.length/\f=A8 L/\JT L/\Js L=true/\Ji n L 0 [] x) (.ret (.bs (AU (E5 n (KZ n f) 0 [])))))
 |_=>none
def rL (L:Ak):Ctx:={P:=Tryz.prog,tb:=[(11,Yf),(20,Vo L.length)],lp:=λ_ _=>none,cut:=λ_ _=>none}
structure oW (V W:List LT):Prop where
 d:Ku V W
structure oR (n:Nat) (f:Nat->List AV) (m:Nat) (g:Nat->List AV):Prop where
 d:∃V W:List LT,n=V.length/\m=W.length/\f=A8 V/\g=A8 W/\Ku V W/\W.length<=1000000/\∀i,(W.getD i LT.none).kids.length<=1000000
def gv:Tr Ae->Aj->Option Ct:=λ_ args=>match args with
 | [.agg [.vec 6 n f],.agg [.vec 6 m g]]=>some (.Be (oR n f m g) (.ret (.bool true)))
 |_=>none
theorem AeS {L:Ak} (h:LR L):JT L:=⟨by have:=h.len;omega,λi=>by
 rcases MG i L.length with hi|hi
 ·have:=h.text i hi;omega
 ·rw[B2,List.getElem?_eq_none hi];exact CL _⟩
@[reducible] def eW:Ak->Prop:=λ(L:Ak)=>(Aa/\Aa/\Aa/\Aa/\True/\NG L)/\True
@[reducible] def eX:Ak->Prop:=λ(L:Ak)=>(NG L/\True)/\(Aa/\Af (300:Int))/\Cx/\Af false/\True
theorem Air:∀(L:Ak),(∃(J:Nat),W7 L J/\Aa/\((Gr J)/\eX L)/\eW L)/\∀(x:Nat),W7 L x->Ah (AQ (↑x:Int) (GO L)) (Ah (AQ (↑x:Int) (300:Int)) (Ml x L (Ah (AQ (100:Int) (Int.ofNat (List.length (LT.text (Di L x))))) (∃(x:Bool),(x=false->LR L)/\true=x) (EU x (∃(B:Nat),W7 L B/\Nat.le (Nat.succ (L.length-B)) (L.length-x)/\Aa/\((Fq x B)/\eX L)/\eW L)))) (∃(x:Bool),(x=false->LR L)/\AQ (300:Int) (GO L)=x)) (∃(x:Bool),(x=false->LR L)/\AQ (300:Int) (GO L)=x)
:=by
 delta Di EU Fq Gr GO Ml;intro L;simp only[Cd,NG,eW,eX,CG,Bh,Me,HM,Mo,Mm,Cx];refine⟨⟨0,⟨CL _,CL _,λj M=>by omega⟩,rfl⟩,λx y=>?_⟩;have S:=y.le;have R:=y.le2;have q:(L.length<=x\/300<=x)->∃b:Bool,(b=false->LR L)/\AQ 300 (L.length:Int)=b:=λh=>⟨_,λO=>by rw[CF]at O;exact⟨by omega,λi hi=>y.text i (by omega)⟩,rfl⟩;refine Aw (λE=>Aw (λC=>?_) λC=>q ?_) λE=>q ?_
 ·rw[CE]at E C;refine At (Cf.2 (by omega)) (Aw (λK=>⟨true,(λh=>by cases h),rfl⟩) λK=>At (CJ.2 (by omega)) ⟨x+1,⟨by omega,by omega,λj M=>?_⟩,by omega,by omega⟩);rw[CF]at K;rcases MG j x with h|h
  ·exact y.text j h
  ·obtain rfl:j=x:=by omega
   omega
 ·rw[CF]at C;omega
 ·rw[CF]at E;omega
theorem Aiq:∀(L:Ak),(A4 (rF L) 60).call 12 [tree L,.int .i64 300] .leaf 0 (Aaq (λb:Bool=>b=false->LR L) λb=>.bool b):=Eq.mpr (by kernel_rfl) Air
def QO (a:Ak):=AU (E5 a.length (KZ a.length (A8 a)) 0 [])
def ZW (a:Ak):=(∃(q:Ak),a.length=q.length/\A8 a=A8 q/\JT q)
theorem AiN:∀(L:Ak) (x:PT),JT L->Js L=true->Ji L.length L 0 [] x->(ZW L)/\Ah (!AW (Js (Kd L))) ([]=E5 L.length L 0 []) ((∃(q:Ak),∃(y:PT),L.length=q.length/\A8 L=A8 q/\Int.NonNeg (0:Int)/\Ji L.length q 0 [] y)/\QO L=E5 L.length L 0 [])
:=by
 delta QO Kd ZW;intro L x E C B;simp only[Cd];refine⟨⟨L,rfl,rfl,E⟩,Aw (λh=>?_) λ_=>⟨⟨L,x,rfl,rfl,(show(0:Int)<=0 by omega),B⟩,?_⟩⟩
 ·rw[K0,C]at h;cases h
 ·rw[K0]
theorem AiM:∀(L:Ak) (x:PT),JT L->Js L=true->Ji L.length L 0 [] x->(A4 (rL L) 60).call 13 [tree L] .leaf 0 (Cb Tryz.prog false (.bs (E5 L.length L 0 []))):=Eq.mpr (by kernel_rfl) AiN
@[reducible] def eY:Ak->Prop:=λ(V:Ak)=>Aa/\Af V.length/\AH λ(i:Nat)=>Bh i V.length->(Aa/\Af (HM V i))/\Af (LT.text (CG V i))/\(Aa/\Af (LT.n (CG V i)))/\(Mo V i)/\(Mm V i)/\(Me V i)/\True
@[reducible] def eZ:Ak->Prop:=λ(V:Ak)=>eY V/\True
@[reducible] def ea:Ak->Prop:=λ(V:Ak)=>Aa/\Aa/\Aa/\Aa/\True/\eY V
@[reducible] def eb:Ak->Ak->Prop:=λ(V W:Ak)=>ea V/\PV W/\True
@[reducible] def ef:Ak->Ak->Prop:=λ(V W:Ak)=>eZ V/\PU W/\Cx/\Hb/\True
@[reducible] def eg:Ak->Ak->Nat->Prop:=λ(V W:Ak) (a:Nat)=>eZ V/\PU W/\Cx/\Hb/\(HJ a)/\(Af (some 12)/\Aa)/\(Af (some 13)/\Aa)/\True
@[reducible] def eh:Ak->Ak->Nat->Prop:=λ(V W:Ak) (a:Nat)=>ea V/\PV W/\(Zs V a)/\(Zs W a)/\True
theorem AiP:∀(V W:Ak),oW V W->Nat.le W.length 1000000->(∀(i:Nat),Nat.le (HK W i) 1000000)->Ah (!An (GO V) (GO W)) (false=true) ((∃(C:Nat),Nat.le C W.length/\Aa/\((Gr C)/\ef V W)/\eb V W)/\∀(x:Nat),Nat.le x W.length->Ah (AQ (↑x:Int) (GO V)) (Ml x V (Ml x W ((I8/\I8/\((Af (AV.agg (List.take (Program.cellsOf Tryz.prog 39) (Prod.snd (W.length,A8 W) (ES x))))/\Af (AV.vec 6 W.length (A8 W))/\True/\True/\True)/\True)/\True)/\Ah (!An (ET V x) (ET W x)) (false=true) (Ah (!decide (LT.text (List.getD V (Int.toNat (↑x:Int)) LT.none)=LT.text (List.getD W (Int.toNat (↑x:Int)) LT.none))) (false=true) (Ah (!An (LT.n (Di V x)) (LT.n (Di W x))) (false=true) (Ah (!An (Int.ofNat (Ig V x)) (Int.ofNat (Ig W x))) (false=true) ((∃(C:Nat),IK W (KS x) C/\Aa/\((Gr C)/\eg V W x)/\eh V W x)/\∀(y:Nat),IK W (KS x) y->Ah (Ke y (Int.ofNat (Ig V x))) (Al (IF y (Ig V x)) (Al (IF y (Ig W x)) ((I8/\True)/\Ah (!An (Nk V x y) (Nk W x y)) (false=true) (EU y (∃(B:Nat),IK W (KS x) B/\Nat.le (Nat.succ (1000001-B)) (1000001-y)/\Aa/\((Fq y B)/\eg V W x)/\eh V W x))))) (EU x (∃(B:Nat),Nat.le B W.length/\Nat.le (Nat.succ (W.length-B)) (W.length-x)/\Aa/\((Fq x B)/\ef V W)/\eb V W))))))))) (Aa))
:=by
 delta Di ES CG KS EU I8 Fq HK Ig ET Gr GO Nk Ml IF Ke;intro V W K hW L;simp only[Cd,eJ,eY,PU,eZ,PV,ea,eb,ef,eg,eh,CG,Bh,Me,HM,Mo,Mm,Cx,Hb,HJ,Di,Zs];have hW:W.length<=1000000:=hW;have L:∀i,(W.getD i LT.none).kids.length<=1000000:=L;have K:=K.d;have R:=xk K;have E:∀ {a b:Int} {p:Prop},a=b->(!An a b)=true->p:=λh g=>by rw[C0.2 h]at g;cases g
 refine Aw (E (by rw[R])) λ_=>⟨⟨0,CL _,rfl⟩,λx hx=>Aw (λc=>?_) λ_=>trivial⟩;have c:=CE.1 c;obtain⟨Y,U,S,O⟩:=xj K x (by omega);refine At (Cf.2 ⟨by omega,by omega⟩) (At (Cf.2 ⟨by omega,by omega⟩) ?_);refine Aw (E Y) λ_=>Aw (λg=>?_) λ_=>Aw (E S) λ_=>Aw (E (by rw[O])) λ_=>⟨⟨0,⟨CL _,λa _=>CL _⟩,rfl⟩,λk M=>?_⟩
 ·rw[Bi U]at g;cases g
 have hi:=M.i x rfl;have Z:=M.le;rw[Int.toNat_natCast]at hi;rw[O];refine Aw (λq=>?_) λ_=>At (CJ.2 (by omega)) ⟨x+1,by omega,by omega,rfl⟩;have q:=CE.1 q;have e:A9 (k:Int) (W.getD x LT.none).kids.length=true:=Cf.2 ⟨by omega,by omega⟩;refine At e (At e (Aw (E rfl) λ_=>At (CJ.2 (by omega)) ⟨k+1,⟨?_,λa J=>?_⟩,by omega,rfl⟩))
 ·have:=L x;omega
 ·injection J with J;injection J with _ J;subst J;rw[Int.toNat_natCast];omega
theorem AiO:∀(V W:Ak),oW V W->W.length<=1000000->(∀i,(W.getD i LT.none).kids.length<=1000000)->(A4 (rN W) 60).call 9 [tree V,tree W] .leaf 0 (Cb Tryz.prog false (.bool true)):=Eq.mpr (by kernel_rfl) AiP
theorem AgQ {L M:Ak} (y:L.length=M.length) (q:A8 L=A8 M):L=M:=by rw[<-K0 L,<-K0 M,y,q]
theorem AfB:Xn Tryz.prog 12 lj:=by
 refine AgF (gl:=[]) (ng:=0) Bq λH args J q B=>?_;unfold lj at q;split at q
 ·rename_i n f a;injection q with q;subst q;obtain⟨L,rfl,rfl,rfl⟩:=B;refine⟨Bq,⟨Nz L,⟨rfl,rfl⟩,trivial⟩,rF L,60,rfl,Bu,B5,?_⟩;have:=Aiq L;have e:(λb:Bool=>b=false->LR L)=λb=>b=false->∀M:Ak,L.length=M.length->A8 L=A8 M->LR M:=by funext b;exact propext ⟨λh y M E C=>AgQ E C▸h y,λh y=>h y L rfl rfl⟩
  rw[e]at this;exact this
 ·cases q
theorem AfK:Ck Tryz.prog 13 gu:=by
 refine Fh (gl:=[]) (ng:=0) Bq λH args ct q=>?_;unfold gu at q;split at q
 ·rename_i n f;injection q with q;subst q;refine⟨Bq,_,_,rfl,?_⟩;rintro⟨L,x,rfl,rfl,B,hm,y⟩;rw[Dr,K0];exact⟨⟨Nz L,trivial⟩,rL L,60,rfl,Bu,Cj wI (Cj (AfY _) B5),AiM L x B hm y⟩
 ·cases q
theorem AfL:Ck Tryz.prog 9 gv:=by
 refine Fh (gl:=[]) (ng:=0) Bq λH args ct q=>?_;unfold gv at q;split at q
 ·rename_i n f m g;injection q with q;subst q;refine⟨Bq,_,_,rfl,λy=>?_⟩;obtain⟨V,W,rfl,rfl,rfl,rfl,E,C,B⟩:=y.d;exact⟨⟨Nz V,Nz W,trivial⟩,rN W,60,rfl,Bu,B5,AiO V W ⟨E⟩ C B⟩
 ·cases q
end Go.Proofs.YtlmmbanfhjaioaaGreatDoor
end
end
