/- Laid by program out of its parts: PbT, PbU, PbV. -/
import Derived.Test.YtlmmbanfhjaioaaGreatDoorPb3
noncomputable section
set_option linter.unusedVariables false
set_option linter.unusedSimpArgs false
section
set_option maxRecDepth 100000
set_option maxHeartbeats 2000000
open Go Go.Ev
namespace Go.Proofs.YtlmmbanfhjaioaaGreatDoor
def I6 (D:Ab->PF) (L:Ab):Nat->Av->RS->Av×RS
 |0,l,s=>(l,s)
 |k+1,l,s=>if s.err=0/\s.at_<L.length then I6 D L k (l++[(D L s).1]) (D L s).2 else(l,s)
def Lv (D:Ab->PF) (L:Ab) (s:RS):Av×RS:=I6 D L (B3 L) [] s
def cT:TK:=⟨0,[],0,1,1⟩
def V7 (D:Ab->PF) (L:Ab):PF:=λs=>(nd 1 [] 0 cT (Lv D L s).1,(Lv D L s).2)
def rK (L:Ab) (n:Nat) (D:Ab->PF) (h:EI 60 L n D) (s0:RS):Ctx:={P:=Tryz.prog,tb:=[],ht:=SI 60 L n D,AA:=VD h,lp:=λf r=>cond (Nat.beq f 30) (cond (Nat.beq r 2) (some (ml L (I6 D L) (Lv D L s0) s0 [0,3] 3)) none) none,cut:=λ_ _=>none}
theorem u7 {D:Ab->PF} {L:Ab} (hD:KF (D L)):∀(k:Nat) (l:Av) (r:RS),Kp r (I6 D L k l r).2
 |0,l,r=>Du r
 |k+1,l,r=>by unfold I6;exact EN (P:=λx:Av×RS=>Kp r x.2) (λ_=>(hD r).tr (u7 hD k _ _)) λ_=>Du r
def lJ:=((((((True/\Aa/\Af (1:Int))/\([]:Ac)=[])/\Aa/\Af (0:Int))/\Aa/\Af (1:Int))/\Aa/\Af (1:Int))/\True)
theorem AiL:∀(L:Ab) (n:Nat) (D:Ab->PF),EI (60:FuncId) L n D->∀(s:RS) (t:PT×RS),R0 L s->Bb L n s->Ry L n D->t=V7 D L s->(∃(E:Av×RS),RA L (I6 D L) (Lv D L s) s E/\Aa/\(Ie/\(Af (some 6)/\Aa)/\True)/\(Aa/\True)/\(QW s L E.2)/\(Aa/\Aa/\Aa/\Aa/\lJ/\E.1.length=0)/\FH/\True)/\∀(x:Av×RS),RA L (I6 D L) (Lv D L s) s x->Pl x.2 L ((ED L x.2 n)/\∀(y:PT×RS),y=C2 D L x.2->A5 y.2 (ZG x ((Bn/\Bn/\Bn/\((Af (AV.AY 7 x.1.length 1)/\True)/\True)/\True)/\∃(B:Av×RS),RA L (I6 D L) (Lv D L s) s B/\GN L B.2 x.2/\Aa/\(Ie/\(Af (some 6)/\Aa)/\True)/\(Aa/\Aa/\Aa/\Aa/\(JF x)*1=B.1.length/\AH λ(i:Nat)=>C1 i ((JF x)*1)->Ba [(7,16),(6,6),(0,0),(1,1),(2,2),(3,3),(4,4)] (LC B.1 i) (DQ x.1.length (λ(i:Nat)=>LC x.1 i) (λ(x:Nat)=>[Bw y.1]) i))/\(QW y.2 L B.2)/\(Aa/\Aa/\Aa/\Aa/\lJ/\Af (some 16)/\x.1.length+1=B.1.length/\Aa)/\FH/\True)) (Fb L y.2 t.2)) (Tc x x.1 (Cg L x.2 (AV.pv [Ok,AV.bs [],BX,Ok,Ok,AV.Ay,AV.vec 1 x.1.length λ(i:Nat)=>LC x.1 i]) t/\True))
:=by
 delta Lz Bj Bk IC A5 Bn Cg BX BD C1 D1 GN ED Fb Tc Ie FH ZG QW lJ LC Ok JF Pl C2;intro L n D AA s t C O hD ht;simp only[Cd];have kL:∀(k:Nat) (l:Av) (r:RS),Kp r (I6 D L k l r).2:=u7 hD.k;refine⟨⟨([],s),⟨⟨B3 L,QD C.ok,rfl⟩,QM C.ok (by decide),C⟩,Fu (s:=s) rfl,rfl⟩,λx M=>?_⟩;obtain⟨⟨k,R,q⟩,J,rx⟩:=M;have V:=J.P4 C.ok (by decide);have U:=N7 x.1;have S:=rx.ok.a0;have K:((L.drop x.2.at_.toNat).length:Int)=(L.length:Int)-x.2.at_\/(L.length:Int)<=x.2.at_/\(L.drop x.2.at_.toNat).length=0:=by rw[HC];omega
 cases k with
 |zero=>omega
 |succ k=>
 unfold I6 at q;refine Aw (λc=>?_) λc=>?_
 ·rw[CE]at c;rw[Am ⟨rx.e,by omega⟩]at q;obtain⟨d0,d1,d2⟩:=RT (by decide) hD.g (l:=x.1) (s:=x.2) J (λ_=>O) rx.e;refine Ce (f:=D L) rx d0 (by rw[ht];show Kp _ (Lv D L s).2;rw[<-q];exact kL _ _ _) λe=>?_;exact At (Bi (by omega)) ⟨(x.1++[(D L x.2).1],(D L x.2).2),⟨⟨k,by have:De L (D L x.2).2<De L x.2:=d2;show De L (D L x.2).2<k;omega,q⟩,d1,Fs rx (hD.g L _ d0) (hD.k _) e⟩,d2,wm x.1 (D L x.2).1 rfl,Fu (s:=(D L x.2).2) rfl,by rw[AK,List.length_singleton]⟩
 ·rw[CF]at c;rw[Ad (by rintro⟨_,h⟩;omega)]at q;refine At (jU x.1) (iC (tk:=cT) ?_ rx.e);rw[ht];unfold V7;rw[<-q]
theorem AiK:∀(L:Ab) (n:Nat) (D:Ab->PF) (AA:EI 60 L n D) (s:RS) (t:PT×RS),R0 L s->Bb L n s->Ry L n D->t=V7 D L s->(A4 (rK L n D AA s) 60).call 30 [.ptr 4 0] (Bx (CI++Cl [Bl L s] 4)) (4+1) (Hj L t):=Eq.mpr (by kernel_rfl) AiL
theorem wc {n:Nat} {D:Ab->PF} (hD:GF n 3 4 D) {L:Ab} {s0:RS} (q:s0.err=0->Bb L n s0):∀(k:Nat) (l:Av) (s:RS),Hi L 0 4 s0 (l,s)->Hi L 0 4 s0 (I6 D L k l s)
 |0,l,s,h=>h
 |k+1,l,s,h=>by
  unfold I6;split
  ·rename_i e;exact wc hD q k _ _ (RT (by decide) hD h q e.1).2.1
  ·exact h
theorem AfJ {L:Ab} {n:Nat} {D:Ab->PF} (h:EI 60 L n D) (hD:Ry L n D):Bo Tryz.prog 30 (mF L n (V7 D)):=Ib λs y q=>⟨rK L n D h s,60,rfl,Bu,B5,λt ht=>AiK L n D h s t y q hD ht⟩
def kX (ks:Av):Nat->Aj:=λi=>[Bw (ks.getD i Dm)]
def V9 (x:PT):AV:=.pv [.int .i64 x.kind,.bs x.text,.int .i64 x.num,.int .i64 x.line,.int .i64 x.Ao,.Ay,.vec 1 x.ks.length (kX x.ks)]
def II (r m:Nat):Ae:=.cells 26 .leaf (.Dw [.AY r m 6]) 1 false
def QC (l:Aj):LT:=match l with
 | [.int _ k,.bs s,.int _ n,.int _ a,.int _ c,.vec _ m g]=>⟨k,s,n,a,c,Np m g⟩
 |_=>LT.none
def Fm (m:Nat) (f:Nat->Aj):Ak:=AU ((List.range m).map λi=>QC (f i))
def Qo (x:PT):LT:=⟨x.kind,x.text,x.num,x.line,x.Ao,[]⟩
def Gw (x:PT):List Ak:=AU (DY x.ks)
def CM (l:Ak) (x:PT) (q:Nat):Ak:=l++(Qo x::rS (Gw x) q).map (Cm (l.length:Int))
def Em (l:Ak) (x:PT) (q:Nat):AP:=(kS (Gw x) q).map (· +(l.length:Int))
open Classical in
def Nb (a:AV):PT:=AU (if h:∃x,a=Bw x then Classical.choose h else Dm)
def zD (H:Tr Ae) (id:Nat):Option (Nat×Nat):=ob (H.get id) λo=>match o with
 |.cells el c z N op=>cond (cond (Nat.beq el 26) (cond op false (Nat.beq N 1)) false) (ob (Mp c z 1 0) λl=>match l with
  | [.AY r m 6]=>some (r,m)
  |_=>none) none
 |_=>none
def zF (H:Tr Ae) (r:Nat):Option ((Nat->Aj)×Nat):=ob (H.get r) λo=>match o with
 |.cells el c z N op=>match c,z with
  |.leaf,.rows e f=>cond (cond (Nat.beq el 39) (cond op (Nat.beq e 6) false) false) (some (f,N)) none
  |_,_=>none
 |_=>none
structure W1 (N m n:Nat) (f:Nat->List AV) (a:AV):Prop where
 f:∀i,i<m->f i=(QC (f i)).row
 n:n=m*6
 x:∃x,a=Bw x
 z:sz (Nb a)<N
 b:m+sz (Nb a)<=1000000
def Sj (N:Nat):Gx:=λH nx args=>match args with
 | [.ptr id 0,a]=>ob (zD H id) λq=>ob (zF H q.1) λg=>cond (cond (Nat.blt id nx) (cond (Nat.blt q.1 nx) (Ju id q.1) false) false)
  (some (.Be (W1 N q.2 g.2 g.1 a) (.gen (flat (Nb a)) λW=>.ret (.AO []) [(id,II nx (q.2+W.length)),(q.1,YF),(nx,Ic (A8 (Fm q.2 g.1++W.map (Cm (q.2:Int)))) (q.2+W.length))] (nx+1)))) none
 |_=>none
def SFl (l:Ak) (x:PT):CX:={X:=Nat,T:=λs _ q=>(5,.AY (s.nx+1) q 1)::(31,.int .i64 q)::MZ s [0,4,29,30],H:=λs n0 q=>[(s.nx,Ic (A8 (CM l x q)) (CM l x q).length),(s.nx+1,tw (Em l x q)),(0,II s.nx (CM l x q).length)],nx:=λs _=>s.nx+2,I:=λs q=>q<=x.ks.length,m:=λq=>x.ks.length-q}
structure NF (N:Nat):Prop where
 f:Bo Tryz.prog 29 (Sj N)
theorem Adm {N:Nat} (h:NF N):Gi Tryz.prog [(29,Sj N)]:=El h.f (YH _)
def X1 (N:Nat) (h:NF N) (l:Ak) (x:PT):Ctx:={P:=Tryz.prog,tb:=[],ht:=[(29,Sj N)],AA:=Adm h,lp:=λf r=>cond (Nat.beq f 29) (cond (Nat.beq r 4) (some (SFl l x)) none) none,cut:=λ_ _=>none,fr:=λf r=>cond (Nat.beq r 9) [5] []}
def kU (l:Ak) (x:PT):HO:=.gen (flat x) λW=>.ret (.AO []) [II 2 (l.length+W.length),YF,Ic (A8 (l++W.map (Cm (l.length:Int)))) (l.length+W.length)] 1
mutual
theorem wk:∀x y:PT,Md x=Md y->x=y
 |.mk k s n l c ks,.mk S s' O R U L,h=>by unfold Md at h;injection h with h;injection h with K h;injection h with J h;injection h with E h;injection h with C h;injection h with B h;injection h with _ h;injection h with q _;injection K with _ K;injection J with J;injection E with _ E;injection C with _ C;injection B with _ B;injection q with _ q M;subst K;subst J;subst E;subst C;subst B;rw[wj ks L q λi=>congrFun M i]
theorem wj:∀ks q:Av,ks.length=q.length->(∀i,(Bz ks).getD i []=(Bz q).getD i [])->ks=q
 | [],[],_,_=>rfl
 | [],_::_,h,_=>by cases h
 |_::_,[],h,_=>by cases h
 |x::E,y::C,h,hi=>by have B:=hi 0;unfold Bz at B;injection (show [Md x]=[Md y]from B)with B _;rw[wk x y B,wj E C (by simpa using h) λi=>by have:=hi (i+1);unfold Bz at this;exact this]
end
theorem Lw (x:PT):Nb (Bw x)=x:=by unfold Nb;rw[Dr];have h:∃y,Bw x=Bw y:=⟨x,rfl⟩;rw[dif_pos h];have:=IV h;exact(wk _ _ ((Zr _).trans (this.trans (Zr _).symm))).symm
theorem nZ (x:PT):Gw x=DY x.ks:=by unfold Gw;rw[Dr]
theorem UG (x:PT):(Gw x).length=x.ks.length:=by rw[nZ,se]
theorem AlH (x:PT) {q:Nat} (h:q<x.ks.length):wS (Gw x) q=flat (x.ks.getD q Dm):=by unfold wS;rw[nZ,jD,B2,HB,B2,CC h];rfl
theorem jE (x:PT):flat x=⟨x.kind,x.text,x.num,x.line,x.Ao,kS (Gw x) x.ks.length⟩::rS (Gw x) x.ks.length:=by
 cases x with
 |mk k s n l c ks=>
 rw[<-UG,nZ];show flat (.mk k s n l c ks)=_
 conv=>lhs;unfold flat
 rfl
theorem mb (b c:Int) (w:LT):Cm b (Cm c w)=Cm (c+b) w:=by unfold Cm;simp only[List.map_map];congr 1;apply List.map_congr_left;intro a _;show a+c+b=a+(c+b);omega
theorem SS (l:Ak) (x:PT) (q:Nat):(CM l x q).length=l.length+1+(rS (Gw x) q).length:=by unfold CM;rw[AK,FL,AE];omega
theorem vC (l:Ak) (x:PT) {q:Nat} (h:q<x.ks.length):CM l x (q+1)=CM l x q++(flat (x.ks.getD q Dm)).map (Cm ((CM l x q).length:Int)):=by rw[SS];unfold CM;rw[Agx (by rw[UG];exact h),AlH x h,<-List.cons_append,List.map_append,List.map_map,A7];congr 2;apply List.map_congr_left;intro w _;show Cm _ (Cm _ w)=_;rw[mb];congr 1;omega
theorem YM (l:Ak) (x:PT) {q:Nat} (h:q<=x.ks.length):(Em l x q).length=q:=by unfold Em;rw[FL,jf (by rw[UG];exact h)]
theorem uI (l:Ak) (x:PT) {q:Nat} (h:q<x.ks.length):Em l x (q+1)=Em l x q++[((CM l x q).length:Int)]:=by rw[SS];unfold Em;rw[uH (by rw[UG];exact h),List.map_append];congr 1;show [1+_+_]=_;congr 1;omega
theorem L5 (x:PT):(flat x).length=sz x:=(I0 x).1
theorem jz (l:Ak) (x:PT):(CM l x x.ks.length).length=l.length+sz x:=by rw[SS,<-L5,jE,AE];omega
theorem Y5 (l:Ak) (x:PT) (q:Nat):(CM l x q).length<=l.length+sz x:=by have h:=Agw (Gw x) q;rw[<-jz,SS,SS,<-UG,lq];omega
theorem yc {x:PT} {q:Nat} (h:q<x.ks.length):sz (x.ks.getD q Dm)<sz x:=by
 cases x with
 |mk k s n l c ks=>
 have h:q<ks.length:=h;rw[Im];show sz (ks.getD q Dm)<_;have:∀(l:Av) (i:Nat),i<l.length->sz (l.getD i Dm)<=BG l:=by
  intro l
  induction l with
  |nil=>intro i hi;cases hi
  |cons a l y=>
   intro i hi;rw[Cc];cases i with
   |zero=>show sz a<=_;omega
   |succ i=>have:=y i (by simpa using hi);show sz (l.getD i Dm)<=_;omega
 have:=this ks q h;omega
theorem vD (w:LT):QC w.row=w:=by
 cases w with
 |mk k s n a c ks=>
 show(⟨k,s,n,a,c,Np ks.length (rI ks)⟩:LT)=_;rw[Z4]
theorem vE (l:Ak):Fm l.length (A8 l)=l:=by
 unfold Fm;rw[Dr];apply List.ext_getElem
 ·simp
 ·intro i y q;simp only[List.getElem_map,List.getElem_range];show QC (l.getD i LT.none).row=_;rw[vD,B2,CC q];rfl
theorem sa {N:Nat} {l:Ak} {x:PT} (y:sz x<N) (q:l.length+sz x<=1000000):W1 N l.length (l.length*6) (A8 l) (Bw x):=⟨λi _=>by show _=(QC (l.getD i LT.none).row).row;rw[vD];rfl,rfl,⟨x,rfl⟩,by rw[Lw];exact y,by rw[Lw];exact q⟩
theorem xP {A B:Ak} (h:A=B) {n:Nat}:AH λi=>(i*6).succ<=n->(A.getD i LT.none).kind=(B.getD i LT.none).kind/\(A.getD i LT.none).text=(B.getD i LT.none).text/\(A.getD i LT.none).n=(B.getD i LT.none).n/\(A.getD i LT.none).line=(B.getD i LT.none).line/\(A.getD i LT.none).Ao=(B.getD i LT.none).Ao/\(A.getD i LT.none).kids.length=(B.getD i LT.none).kids.length/\ AH λj=>j.succ<=(A.getD i LT.none).kids.length->(A.getD i LT.none).kids.getD j 0=(B.getD i LT.none).kids.getD j 0:=by subst h;exact⟨λi _=>⟨rfl,rfl,rfl,rfl,rfl,rfl,⟨λj _=>rfl⟩⟩⟩
theorem xK {q:List (Nat×Nat)} {A B:AP} {z:Int} {n:Nat} (hn:n=A.length) (h:B=A++[z]):AH λi=>i.succ<=n+1->Ba q (rI B i) (DQ n (rI A) (λ_=>[AV.int .i64 z]) i):=by
 subst hn;subst h;refine⟨λi hi=>?_⟩;by_cases h:i<A.length
 ·rw[Va (r:=rI A i) (λ_=>rfl) λh'=>absurd h h'];show Ba q [AV.int .i64 ((A++[z]).getD i 0)] [AV.int .i64 (A.getD i 0)];rw[YA h];exact⟨⟨rfl,rfl⟩,trivial⟩
 ·have y:i=A.length:=by omega
  subst y;rw[Va (r:=[AV.int .i64 z]) (λh'=>absurd h' h) λ_=>rfl];show Ba q [AV.int .i64 ((A++[z]).getD A.length 0)] _;rw[Ac4];exact⟨⟨rfl,rfl⟩,trivial⟩
theorem tD (A:AP) (n:Nat):Ed 1 n (rI A)=true:=OX λi _=>rfl
theorem Vx {α:Type} {d:α} {l m:List α} {i:Nat} (h:l.length<=i):(l++m).getD i d=m.getD (i-l.length) d:=by simp[B2,List.getElem?_append_right h]
def Og (a:Ak) (b:PT) (c:Nat) (d:Ak) (e:Nat):=List.getD (Fm (List.length (CM a b c)) (A8 (CM a b c))++List.map (Cm (↑(List.length (CM a b c)):Int)) d) e LT.none
def Lx (a:PT) (b:Nat):=List.getD (PT.ks a) b Dm
def GO (a:Ak):=Int.ofNat a.length
def Ja (a:Ak) (b:PT) (c:Nat):=List.length (CM a b c)
def Nl (a:PT) (b:Nat) (c:Nat):=List.getD (Bz (PT.ks (Lx a b))) c []
def Nj (a:PT) (b:Nat):=List.length (PT.ks (Lx a b))
def Pu (a:Ak) (b:PT) (c:Nat) (d:Nat):=List.getD (CM a b c) d LT.none
def IF (a:Nat):=A9 (↑a:Int)
def Q0 (a:Nat):=Nat.le (Nat.succ (a*6))
def TQ (a:PT) (b:Nat):=Bw (List.getD (PT.ks a) (ES b) Dm)
def Ub (a:PT):=(Aa/\Af (Int.ofNat (DJ a)))
def Z0 (a:Nat):=Al (bif bif Nat.beq a a then true else false then true else false)
def Ke (a:Nat):=AQ (↑a:Int)
def TV (a:PT) (b:Nat):=(Aa/\Af (PT.line (Lx a b)))
def TZ (a:PT) (b:Nat):=(Aa/\Af (PT.kind (Lx a b)))
def T3 (a:PT) (b:Nat):=(Aa/\Af (PT.num (Lx a b)))
def T4 (a:PT) (b:Nat):=(Aa/\Af (PT.Ao (Lx a b)))
theorem AhX:∀(N:Nat),NF N->∀(l:Ak) (x:PT),Nat.le (l.length+sz x) 1000000->Nat.le (sz x) N->Al (bif bif Nat.ble (l.length*6) (l.length*6)then true else false then decide (l.length+1<=9223372036854775807/\(l.length+1)*72<=140737488355328)else false) ((BS/\BS/\BS/\True)/\(∃(L:Nat),Nat.le L (DJ x)/\Aa/\(L=0/\(Gr L)/\Cx/\(Aa/\Af (GO l))/\(Aa/\Af (DJ x)/\AH λ(i:Nat)=>Bh i (DJ x)->((TZ x i)/\Af (PT.text (Lx x i))/\(T3 x i)/\(TV x i)/\(T4 x i)/\True/\(Aa/\Af (Nj x i)/\AH λ(C:Nat)=>Bh C (Nj x i)->Ba [(16,12),(0,0),(1,1)] (Nl x i C) (Nl x i C))/\True)/\True)/\(Ub x)/\True)/\(Aa/\Aa/\Aa/\Aa/\(l.length+1)*6=Ja l x L*6/\AH λ(i:Nat)=>Q0 i ((l.length+1)*6)->Ba [(16,12),(0,0),(1,1)] (A8 (CM l x L) i) (DQ l.length (A8 l) (λ(B:Nat)=>[AV.int .i64 (PT.kind x),AV.bs (PT.text x),AV.int .i64 (PT.num x),AV.int .i64 (PT.line x),AV.int .i64 (PT.Ao x),AV.Ay]) i))/\(Aa/\True)/\(Aa/\Aa/\Aa/\Aa/\True/\Af (some 12)/\l.length+1=Ja l x L/\Aa)/\True)/\∀(B:Nat),Nat.le B (DJ x)->Ah (Ke B (Int.ofNat (DJ x))) (Al (IF B (DJ x)) (Al (bif bif Nat.ble (B*1) (List.length (Em l x B))then true else false then decide (B+1<=9223372036854775807/\(B+1)*8<=140737488355328)else false) (W1 N (Ja l x B) (Ja l x B*6) (A8 (CM l x B)) (TQ x B)/\∀(y:Ak),y=flat (Nb (TQ x B))->EU B (∃(E:Nat),Nat.le E (DJ x)/\Nat.le (Nat.succ (DJ x-E)) (DJ x-B)/\Aa/\((Af (some 19)/\B+1=E/\Aa)/\(Fq B E)/\Cx/\(Aa/\Af (GO l))/\(Aa/\Af (DJ x)/\AH λ(i:Nat)=>Bh i (DJ x)->((TZ x i)/\Af (PT.text (Lx x i))/\(T3 x i)/\(TV x i)/\(T4 x i)/\True/\(Aa/\Af (Nj x i)/\AH λ(C:Nat)=>Bh C (Nj x i)->Ba [(16,21),(17,19),(0,0),(1,1)] (Nl x i C) (Nl x i C))/\True)/\True)/\(Ub x)/\True)/\(Aa/\Aa/\Aa/\Aa/\(Ja l x B+y.length)*6=Ja l x E*6/\AH λ(i:Nat)=>Q0 i ((Ja l x B+y.length)*6)->(Aa/\LT.kind (Og l x B y i)=LT.kind (Pu l x E i))/\LT.text (Og l x B y i)=LT.text (Pu l x E i)/\(Aa/\LT.n (Og l x B y i)=LT.n (Pu l x E i))/\(Aa/\LT.line (Og l x B y i)=LT.line (Pu l x E i))/\(Aa/\LT.Ao (Og l x B y i)=LT.Ao (Pu l x E i))/\(Aa/\List.length (LT.kids (Og l x B y i))=List.length (LT.kids (Pu l x E i))/\AH λ(C:Nat)=>Bh C (List.length (LT.kids (Og l x B y i)))->(Aa/\List.getD (LT.kids (Og l x B y i)) C (0:Int)=List.getD (LT.kids (Pu l x E i)) C (0:Int))/\True)/\True)/\(Aa/\Aa/\Aa/\Aa/\(B+1)*1=List.length (Em l x E)/\AH λ(i:Nat)=>C1 i ((B+1)*1)->Ba [(16,21),(17,19),(0,0),(1,1)] (rI (Em l x E) i) (DQ B (rI (Em l x B)) (λ(aa:Nat)=>[AV.int .i64 (Int.ofNat (Ja l x B))]) i))/\(Aa/\Aa/\Aa/\Aa/\True/\Af (some 21)/\Ja l x B+y.length=Ja l x E/\Aa)/\True)))) (Al (bif Nat.ble (B*1) (List.length (Em l x B))then Ed 1 B (rI (Em l x B))else false) (Z0 B (Al (A9 (GO l) (Ja l x B)) (Al (bif Nat.ble (5+List.length [AV.vec 1 B (rI (Em l x B))]) (List.length (A8 (CM l x B) (Int.toNat (GO l))))then Nat.ble (Int.toNat (GO l)*6+5+List.length [AV.vec 1 B (rI (Em l x B))]) (Ja l x B*6)else false) (Aa/\(True/\True)/\(Aa/\Aa/\Aa/\Aa/\True/\Af (some 16)/\Ja l x B=l.length+Ol x/\Aa)/\(Aa/\Aa/\Aa/\Aa/\Ja l x B*6=(l.length+Ol x)*6/\AH λ(i:Nat)=>Q0 i (Ja l x B*6)->Ba [(2,16),(0,0),(1,1)] (A8 (l++List.map (Cm (↑l.length:Int)) (flat x)) i) (Oz (A8 (CM l x B)) (Int.toNat (GO l)) 5 [AV.vec 1 B (rI (Em l x B))] i))/\True))))))
:=by
 delta ES BS Bh Og Cx Lx DJ C1 EU Fq Gr GO Ja Nl Nj Ol Pu IF Q0 TQ Ub Z0 Ke TV TZ T3 T4;intro N AA l x M hz;simp only[Cd];have M:l.length+sz x<=1000000:=M;have hz:sz x<=N:=hz;have U:(CM l x 0).length=l.length+1:=by rw[SS,lr];rfl
 have hp:=F9 x;refine At (Bi (by omega)) ⟨⟨0,CL _,⟨rfl,rfl,⟨λi _=>⟨λj _=>Ny _ _ _⟩⟩⟩,⟨by rw[U],⟨λi hi=>?_⟩⟩,U.symm⟩,λq Z=>?_⟩
 ·by_cases h:i<l.length
  ·rw[Va (r:=A8 l i) (λ_=>rfl) λh'=>absurd h h'];show Ba _ ((l++_).getD i LT.none).row (l.getD i LT.none).row;rw[YA h];exact OD _ _
  ·have R:i=l.length:=by omega
   subst R;rw[Va (r:=[AV.int .i64 x.kind,.bs x.text,.int .i64 x.num,.int .i64 x.line,.int .i64 x.Ao,.Ay]) (λh'=>absurd h' h) λ_=>rfl];show Ba _ ((l++(Qo x::rS (Gw x) 0).map (Cm (l.length:Int))).getD l.length LT.none).row _;rw[lr,Vx (AM _),Lc];exact⟨⟨rfl,rfl⟩,rfl,⟨rfl,rfl⟩,⟨rfl,rfl⟩,⟨rfl,rfl⟩,rfl,trivial⟩
 have J:=YM l x Z;refine Aw (λc=>?_) λc=>?_
 ·rw[CE]at c;have c:q<x.ks.length:=by omega
  have hk:=yc c;have S:=vC l x c;have ab:=Y5 l x (q+1);have K:(CM l x (q+1)).length=(CM l x q).length+sz (x.ks.getD q Dm):=by rw[S,AK,FL,L5]
  have Y:=Y5 l x q;have ad:x.ks.length<=sz x:=by
   have:=N7 x.ks;cases x with
   |mk k s n a c ks=>rw[Im];show ks.length<=_;have:ks.length<=BG ks:=this;omega
  refine At (Cf.2 ⟨by omega,by omega⟩) (At ?_ ⟨sa (by omega) (by omega),λy hy=>At (CJ.2 (by omega)) ⟨q+1,c,by omega,⟨rfl,rfl,⟨λi _=>⟨λj _=>Ny _ _ _⟩⟩⟩,⟨?_,?_⟩,⟨(YM l x c).symm,xK J.symm (uI l x c)⟩,?_⟩⟩)
  ·rw[C5,Nat.ble_eq,J];exact⟨AM _,Bi (by omega)⟩
  ·rw[Lw]at hy;rw[K,hy,L5]
  ·rw[Lw]at hy;exact xP (by rw[S,hy,vE])
  ·rw[Lw]at hy;rw[K,hy,L5]
 ·rw[CF]at c;have O:q=x.ks.length:=by omega
  subst O;have V:=jz l x;refine At (by rw[C5,Nat.ble_eq,J];exact⟨AM _,tD _ _⟩) (At (Cf.2 ⟨by omega,by omega⟩) (At ?_ ⟨by rw[V,L5],by rw[V,L5],⟨λi hi=>?_⟩⟩))
  ·rw[C5,Nat.ble_eq,Nat.ble_eq];refine⟨AM _,?_⟩;show l.length*6+5+1<=_;omega
  ·have e:(l++(flat x).map (Cm (l.length:Int)))=l++(Cm (l.length:Int) ⟨x.kind,x.text,x.num,x.line,x.Ao,kS (Gw x) x.ks.length⟩)::(rS (Gw x) x.ks.length).map (Cm (l.length:Int)):=by rw[jE];rfl
   have W:CM l x x.ks.length=l++(Cm (l.length:Int) (Qo x))::(rS (Gw x) x.ks.length).map (Cm (l.length:Int)):=rfl;by_cases h:i=l.length
   ·subst h;have:Oz (A8 (CM l x x.ks.length)) l.length 5 [AV.vec 1 x.ks.length (rI (Em l x x.ks.length))] l.length=Mu (A8 (CM l x x.ks.length) l.length) 5 [AV.vec 1 x.ks.length (rI (Em l x x.ks.length))]:=by unfold Oz;rw[Nat.beq_refl,cond_true]
    rw[this];show Ba _ ((l++(flat x).map (Cm (l.length:Int))).getD l.length LT.none).row (Mu ((CM l x x.ks.length).getD l.length LT.none).row 5 _);rw[e,W,Vx (AM _),Vx (AM _),Lc];show Ba _ [AV.int .i64 x.kind,.bs x.text,.int .i64 x.num,.int .i64 x.line,.int .i64 x.Ao,.vec 1 (Em l x x.ks.length).length (rI (Em l x x.ks.length))] [AV.int .i64 x.kind,.bs x.text,.int .i64 x.num,.int .i64 x.line,.int .i64 x.Ao,.vec 1 x.ks.length (rI (Em l x x.ks.length))];rw[J];exact⟨⟨rfl,rfl⟩,rfl,⟨rfl,rfl⟩,⟨rfl,rfl⟩,⟨rfl,rfl⟩,⟨rfl,rfl,⟨λi _=>cg _ _ i⟩⟩,trivial⟩
   ·have:Oz (A8 (CM l x x.ks.length)) l.length 5 [AV.vec 1 x.ks.length (rI (Em l x x.ks.length))] i=A8 (CM l x x.ks.length) i:=by unfold Oz;rw[show Nat.beq i l.length=false from LQ.2 λM=>h (DP M),cond_false]
    rw[this];show Ba _ ((l++(flat x).map (Cm (l.length:Int))).getD i LT.none).row ((CM l x x.ks.length).getD i LT.none).row;have:(l++(flat x).map (Cm (l.length:Int))).getD i LT.none=(CM l x x.ks.length).getD i LT.none:=by
     rw[e,W];by_cases h':i<l.length
     ·rw[YA h',YA h']
     ·rw[Vx (by omega),Vx (by omega)];obtain⟨j,hj⟩:∃j,i-l.length=j+1:=⟨i-l.length-1,by omega⟩;rw[hj];rfl
    rw[this];exact OD _ _
theorem AhU:∀(N:Nat) (AA:NF N) (l:Ak) (x:PT),l.length+sz x<=1000000->sz x<=N->(A4 (X1 N AA l x) 60).call 29 [.ptr 0 0,V9 x] (Bx (Cl [II 1 l.length,Ic (A8 l) l.length] 0)) 2 (Gk Tryz.prog 0 0 2 (kU l x)):=Eq.mpr (by kernel_rfl) AhX
def tL (N:Nat):HA:={X:=Ak×PT,gl:=[],JI:=λ_=>true,ng:=0,k:=2,args:=λx=>[.ptr 0 0,V9 x.2],FE:=λx=>[II 1 x.1.length,Ic (A8 x.1) x.1.length],pre:=λx=>x.1.length+sz x.2<=1000000/\sz x.2<=N,out:=λx=>kU x.1 x.2,fz:=0,find:=λ_ _=>none}
def Uw:Ae:=.cells 26 .leaf (.Dw [.Ay]) 1 false
def kV (x:PT):HO:=.gen (flat x) λW=>.ret (.AO []) [II 1 W.length,Ic (A8 W) W.length] 1
def tM (N:Nat):HA:={X:=PT,gl:=[],JI:=λ_=>true,ng:=0,k:=1,args:=λx=>[.ptr 0 0,V9 x],FE:=λx=>[Uw],pre:=λx=>sz x<=1000000/\sz x<=N,out:=λx=>kV x,fz:=0,find:=λ_ _=>none}
def zE (H:Tr Ae) (id:Nat):Option Unit:=ob (H.get id) λo=>match o with
 |.cells el c z N op=>cond (cond (Nat.beq el 26) (cond op false (Nat.beq N 1)) false) (ob (Mp c z 1 0) λl=>match l with
  | [.Ay]=>some ()
  |_=>none) none
 |_=>none
structure n5 (a:AV):Prop where
 x:∃x,a=Bw x
 b:sz (Nb a)<=1000000
def gg:Gx:=λH nx args=>match args with
 | [.ptr id 0,a]=>ob (zE H id) λ_=>cond (Nat.blt id nx)
  (some (.Be (n5 a) (.gen (flat (Nb a)) λW=>.ret (.AO []) [(id,II nx W.length),(nx,Ic (A8 W) W.length)] (nx+1)))) none
 |_=>none
theorem zY (q:List (Nat×Nat)) (x:PT):AZ q (V9 x) (Bw x):=⟨⟨rfl,rfl⟩,rfl,⟨rfl,rfl⟩,⟨rfl,rfl⟩,⟨rfl,rfl⟩,trivial,⟨rfl,rfl,⟨λi hi=>by show Ba q [Bw (x.ks.getD i Dm)] ((Bz x.ks).getD i []);rw[HI x.ks i hi,show x.ks.getD i Dm=x.ks[i]from by rw[B2,CC hi];rfl];exact⟨PI q _,trivial⟩⟩⟩,trivial⟩
theorem pd (r m:Nat):IX (II r m):=λa q=>by rw[DE.1 q];trivial
theorem p9 (l:Ak) (n:Nat):IX (Ic (A8 l) n):=λi _=>OD [] _
theorem Afq {N:Nat} (h:NF N) (l:Ak) (x:PT) (ids:List Nat):Bo Tryz.prog 29 ((tL N).at (l,x) ids).AJ:=by refine MX _ (λp q=>by cases q) (λH _ p q=>by cases q) (λy=>rfl) (λy o B=>Nv (p:=λo=>H8 o=false) rfl rfl o B) (λy q=>?_) λy q=>⟨(A4 (X1 N h y.1 y.2) 60).call,JZ Bu B5 60,AhU N h y.1 y.2 q.1 q.2⟩;exact⟨λa C=>(by cases C),rfl,PD (pd _ _) trivial (p9 _ _)⟩
theorem Alc {H:Tr Ae} {id r m:Nat} (h:zD H id=some (r,m)):Kr H id (II r m):=by
 obtain⟨o,K,h⟩:=Ag.1 h;split at h
 ·rename_i el c z N op;obtain⟨B,O⟩:=Sa h;obtain⟨R,L,q⟩:=Ag.1 O;obtain⟨E,B⟩:=Bf B;cases y:op with
  |true=>rw[y]at B;cases B
  |false=>
  rw[y]at B;have C:Nat.beq N 1=true:=B;rw[AN]at E C;subst E;subst C;subst y;split at q
  ·injection q with q;injection q with q M;subst q;subst M;exact⟨⟨_,K,λρ b x J=>S4 L J⟩,rfl⟩
  ·cases q
 ·cases h
theorem Alb {H:Tr Ae} {id:Nat} (h:zE H id=some ()):Kr H id Uw:=by
 obtain⟨o,K,h⟩:=Ag.1 h;split at h
 ·rename_i el c z N op;obtain⟨y,M⟩:=Sa h;obtain⟨O,L,B⟩:=Ag.1 M;obtain⟨E,y⟩:=Bf y;cases q:op with
  |true=>rw[q]at y;cases y
  |false=>
  rw[q]at y;have C:Nat.beq N 1=true:=y;rw[AN]at E C;subst E;subst C;subst q;split at B
  ·exact⟨⟨_,K,λρ b x J=>S4 L J⟩,rfl⟩
  ·cases B
 ·cases h
theorem Aez (m:Nat) (f:Nat->Aj):(Fm m f).length=m:=by unfold Fm;rw[Dr];simp
theorem Ale {H:Tr Ae} {r n m:Nat} {f:Nat->Aj} (h:zF H r=some (f,n)) (V:∀i,i<m->f i=(QC (f i)).row) (hn:n=m*6):Kr H r (Ic (A8 (Fm m f)) m):=by
 obtain⟨o,S,h⟩:=Ag.1 h;split at h
 ·rename_i el c z N op;split at h
  ·rename_i e E;obtain⟨J,B⟩:=gE h;injection B with B;injection B with B W;subst B;subst W;obtain⟨O,J⟩:=Bf J;obtain⟨Y,M⟩:=Bf J;rw[AN]at O M;subst O;subst Y;subst M;subst hn;refine⟨⟨_,S,λρ b x R=>?_⟩,rfl⟩;cases R with
   |cells _ _ _ _ _ cs fz Dt hn K L q=>
    refine .cells _ _ _ _ _ cs fz Dt hn K L λk a U y=>q k a U ?_;rw[Gz]at y⊢;have y:((Fm m E).getD (k/6) LT.none).row[k %6]? =some a:=y;show(E (k/6))[k %6]? =some a;have C:k/6<m:=by omega
    rw[V _ C];have:(Fm m E).getD (k/6) LT.none=QC (E (k/6)):=by unfold Fm;rw[Dr,B2,HB,OI C];rfl
    rw[this]at y;exact y
  ·cases h
 ·cases h
theorem Afp {N:Nat} (h:NF N):Bo Tryz.prog 29 (Sj (N+1)):=by
 intro H nx args hc B;unfold Sj at B;split at B
 case h_2=>cases B
 rename_i id a;obtain⟨⟨r,m⟩,M,B⟩:=Ag.1 B;obtain⟨⟨f,n⟩,V,B⟩:=Ag.1 B;obtain⟨K,B⟩:=OU B;injection B with B;subst B;obtain⟨Z,K⟩:=Bf K;obtain⟨Y,b3⟩:=Bf K;have U:=M5 b3;intro p v up nx' y E F ρ w0 rel;obtain⟨⟨W,hn,⟨x,rfl⟩,hz,J⟩,y⟩:=NU y;simp only at W hn hz J y V Z Y;rw[Lw]at hz J y;have C:=Aez m f;have R:=Alc M;have O:=Ale V W hn;have key:hOut (Hn 0 [id,r] nx (kU (Fm m f) x))=some (p,v,up,nx'):=by refine Eq.trans ?_ y;show hOut (FV (nx+1) λn=>(λL=>C4.ret (D2 (BP 0 L) 4 (.AO [])) (L.zip ([II 2 ((Fm m f).length+(flat x).length),YF,Ic (A8 (Fm m f++(flat x).map (Cm ((Fm m f).length:Int)))) ((Fm m f).length+(flat x).length)].map (CP (BP 0 L)))) n) ([id,r]++List.range' nx 1))=_;rw[G5,C];rfl
 refine NV (S:=tL N) (x:=(Fm m f,x)) (ids:=[id,r]) (os:=[II r m,Ic (A8 (Fm m f)) m]) (args':=[.ptr id 0,Bw x]) (Afq h (Fm m f) x [id,r]) ⟨by show(Fm m f).length+_<=_;rw[C];exact J,Nat.lt_succ_iff.1 hz⟩ rfl rfl ?_ ?_ rfl ?_ ⟨⟨rfl,rfl⟩,zY _ x,trivial⟩ ⟨?_,?_,trivial⟩ key ?_ rel λvs h=>h
 ·show cond (List.any [r] (Nat.beq id)) false true=true;have:Nat.beq id r=false:=LQ.2 λK=>U (DP K);simp only[List.any_cons,List.any_nil,this,Bool.or_false,cond_false]
 ·show(List.all [id,r] λj=>Nat.blt j nx)=true;simp only[List.all_cons,List.all_nil,Z,Y,Bool.and_true]
 ·exactλq M=>Rl (p:=λq:Nat×Ae=>Kr H q.1 q.2) R O q M
 ·show(match((H.set r (Ic (A8 (Fm m f)) m)).set id (II r m)).get id with
   |none=>False
   |some o=>EO [(0,id),(1,r)] (II 1 (Fm m f).length) o)
  rw[Tr.GG,C];exact⟨rfl,rfl,rfl,trivial,rfl,rfl,rfl⟩
 ·show(match((H.set r (Ic (A8 (Fm m f)) m)).set id (II r m)).get r with
   |none=>False
   |some o=>EO [(0,id),(1,r)] (Ic (A8 (Fm m f)) (Fm m f).length) o)
  rw[Tr.KE _ U,Tr.GG,C];exact⟨rfl,rfl,rfl,rfl,⟨λi _=>OD _ _⟩⟩
 ·obtain⟨_,_,rfl,_⟩:=SG (show hOut (.ret (.AO []) [(id,II nx (m+(flat x).length)),(r,YF),(nx,Ic (A8 (Fm m f++(flat x).map (Cm (m:Int)))) (m+(flat x).length))] (nx+1))=some (p,v,up,nx')from y);exact Rl ⟨_,BN ..,rfl⟩ ⟨_,Ca _ (BN ..),rfl⟩
theorem kZ:∀N,NF N
 |0=>⟨λH nx args hc q=>by
  unfold Sj at q;split at q
  case h_2=>cases q
  obtain⟨⟨r,m⟩,C,q⟩:=Ag.1 q;obtain⟨⟨f,n⟩,B,q⟩:=Ag.1 q;obtain⟨E,q⟩:=OU q;injection q with q;subst q;intro p v up nx' y;obtain⟨h,_⟩:=NU y;exact absurd h.z (Nat.not_lt_zero _)⟩
 |N+1=>⟨Afp (kZ N)⟩
theorem yP (l:Ak):l.map (Cm 0)=l:=by
 have:∀w:LT,Cm 0 w=w:=λw=>by
  cases w with
  |mk k s n a c ks=>show LT.mk k s n a c (ks.map (· +0))=_;simp
 rw[show Cm 0=id from funext this,List.map_id]
def Of (a:PT) (b:Nat) (c:Ak) (d:Nat):=List.getD (Fm (List.length (CM [] a b)) (A8 (CM [] a b))++List.map (Cm (↑(List.length (CM [] a b)):Int)) c) d LT.none
def I7 (a:PT) (b:Nat):=List.length (CM [] a b)
def Ph (a:PT) (b:Nat) (c:Nat):=List.getD (CM [] a b) c LT.none
def QU (a:PT) (b:Nat):=List.getD (CM [] a b) 0 LT.none
theorem AhW:∀(N:Nat),NF N->∀(x:PT),Nat.le (sz x) 1000000->Nat.le (sz x) N->(BS/\BS/\BS/\True)/\(∃(J:Nat),Nat.le J (DJ x)/\Aa/\(J=0/\(Gr J)/\Cx/\Ps/\(Aa/\Af (DJ x)/\AH λ(i:Nat)=>Bh i (DJ x)->((TZ x i)/\Af (PT.text (Lx x i))/\(T3 x i)/\(TV x i)/\(T4 x i)/\True/\(Aa/\Af (Nj x i)/\AH λ(C:Nat)=>Bh C (Nj x i)->Ba [(15,11),(0,0)] (Nl x i C) (Nl x i C))/\True)/\True)/\(Ub x)/\True)/\(Aa/\Aa/\Aa/\6=I7 x J*6/\(((((True/\Aa/\PT.kind x=LT.kind (QU x J))/\PT.text x=LT.text (QU x J))/\Aa/\PT.num x=LT.n (QU x J))/\Aa/\PT.line x=LT.line (QU x J))/\Aa/\PT.Ao x=LT.Ao (QU x J))/\List.length (LT.kids (QU x J))=0)/\(Aa/\True)/\(Aa/\Aa/\Aa/\Aa/\True/\Af (some 11)/\Aa/\1=I7 x J/\Aa)/\True)/\∀(B:Nat),Nat.le B (DJ x)->Ah (Ke B (Int.ofNat (DJ x))) (Al (IF B (DJ x)) (Al (bif bif Nat.ble (B*1) (List.length (Em [] x B))then true else false then decide (B+1<=9223372036854775807/\(B+1)*8<=140737488355328)else false) (W1 N (I7 x B) (I7 x B*6) (A8 (CM [] x B)) (TQ x B)/\∀(y:Ak),y=flat (Nb (TQ x B))->EU B (∃(E:Nat),Nat.le E (DJ x)/\Nat.le (Nat.succ (DJ x-E)) (DJ x-B)/\Aa/\((Af (some 18)/\B+1=E/\Aa)/\(Fq B E)/\Cx/\Ps/\(Aa/\Af (DJ x)/\AH λ(i:Nat)=>Bh i (DJ x)->((TZ x i)/\Af (PT.text (Lx x i))/\(T3 x i)/\(TV x i)/\(T4 x i)/\True/\(Aa/\Af (Nj x i)/\AH λ(C:Nat)=>Bh C (Nj x i)->Ba [(15,20),(16,18),(0,0)] (Nl x i C) (Nl x i C))/\True)/\True)/\(Ub x)/\True)/\(Aa/\Aa/\Aa/\Aa/\(I7 x B+y.length)*6=I7 x E*6/\AH λ(i:Nat)=>Q0 i ((I7 x B+y.length)*6)->(Aa/\LT.kind (Of x B y i)=LT.kind (Ph x E i))/\LT.text (Of x B y i)=LT.text (Ph x E i)/\(Aa/\LT.n (Of x B y i)=LT.n (Ph x E i))/\(Aa/\LT.line (Of x B y i)=LT.line (Ph x E i))/\(Aa/\LT.Ao (Of x B y i)=LT.Ao (Ph x E i))/\(Aa/\List.length (LT.kids (Of x B y i))=List.length (LT.kids (Ph x E i))/\AH λ(C:Nat)=>Bh C (List.length (LT.kids (Of x B y i)))->(Aa/\List.getD (LT.kids (Of x B y i)) C (0:Int)=List.getD (LT.kids (Ph x E i)) C (0:Int))/\True)/\True)/\(Aa/\Aa/\Aa/\Aa/\(B+1)*1=List.length (Em [] x E)/\AH λ(i:Nat)=>C1 i ((B+1)*1)->Ba [(15,20),(16,18),(0,0)] (rI (Em [] x E) i) (DQ B (rI (Em [] x B)) (λ(aa:Nat)=>[AV.int .i64 (Int.ofNat (I7 x B))]) i))/\(Aa/\Aa/\Aa/\Aa/\True/\Af (some 20)/\I7 x B+y.length=I7 x E/\Aa)/\True)))) (Al (bif Nat.ble (B*1) (List.length (Em [] x B))then Ed 1 B (rI (Em [] x B))else false) (Z0 B (Al (A9 (0:Int) (I7 x B)) (Al (bif Nat.ble (5+List.length [AV.vec 1 B (rI (Em [] x B))]) (List.length (A8 (CM [] x B) 0))then Nat.ble (5+List.length [AV.vec 1 B (rI (Em [] x B))]) (I7 x B*6)else false) (Aa/\(True/\True)/\(Aa/\Aa/\Aa/\Aa/\True/\Af (some 15)/\I7 x B=Ol x/\Aa)/\(Aa/\Aa/\Aa/\Aa/\I7 x B*6=Ol x*6/\AH λ(i:Nat)=>Q0 i (I7 x B*6)->Ba [(1,15),(0,0)] (A8 (flat x) i) (Oz (A8 (CM [] x B)) 0 5 [AV.vec 1 B (rI (Em [] x B))] i))/\True)))))
:=by
 delta ES BS Bh Of Cx Lx DJ C1 EU Fq I7 Gr Nl Nj Ph QU Ps Ol IF Q0 TQ Ub Z0 Ke TV TZ T3 T4;intro N AA x V hz;simp only[Cd];have V:sz x<=1000000:=V;have hz:sz x<=N:=hz;have ae:([]:Ak).length=0:=rfl;have hl:CM [] x 0=[Qo x]:=by show []++(Qo x::rS (Gw x) 0).map (Cm 0)=_;rw[yP,lr];rfl
 have hp:=F9 x;refine⟨⟨0,CL _,⟨rfl,rfl,⟨λi _=>⟨λj _=>Ny _ _ _⟩⟩⟩,?_⟩,λq Z=>?_⟩
 ·rw[hl];exact⟨⟨rfl,⟨⟨⟨⟨rfl,rfl⟩,rfl⟩,rfl⟩,rfl⟩,rfl⟩,rfl⟩
 have L:=YM [] x Z;refine Aw (λc=>?_) λc=>?_
 ·rw[CE]at c;have c:q<x.ks.length:=by omega
  have U:=yc c;have S:=vC [] x c;have ab:=Y5 [] x (q+1);have K:(CM [] x (q+1)).length=(CM [] x q).length+sz (x.ks.getD q Dm):=by rw[S,AK,FL,L5]
  have Y:=Y5 [] x q;have ad:x.ks.length<=sz x:=by
   have:=N7 x.ks;cases x with
   |mk k s n a c ks=>rw[Im];show ks.length<=_;have:ks.length<=BG ks:=this;omega
  refine At (Cf.2 ⟨by omega,by omega⟩) (At ?_ ⟨sa (by omega) (by omega),λy hy=>At (CJ.2 (by omega)) ⟨q+1,c,by omega,⟨rfl,rfl,⟨λi _=>⟨λj _=>Ny _ _ _⟩⟩⟩,⟨?_,?_⟩,⟨(YM [] x c).symm,xK L.symm (uI [] x c)⟩,?_⟩⟩)
  ·rw[C5,Nat.ble_eq,L];exact⟨AM _,Bi (by omega)⟩
  ·rw[Lw]at hy;rw[K,hy,L5]
  ·rw[Lw]at hy;exact xP (by rw[S,hy,vE])
  ·rw[Lw]at hy;rw[K,hy,L5]
 ·rw[CF]at c;have R:q=x.ks.length:=by omega
  subst R;have O:=jz [] x;have h0:([]:Ak).length=0:=rfl;rw[h0,Nat.zero_add]at O;have M:=jE x;have W:CM [] x x.ks.length=Qo x::rS (Gw x) x.ks.length:=by show []++(Qo x::rS (Gw x) x.ks.length).map (Cm 0)=_;rw[yP];rfl
  have e3:Em [] x x.ks.length=kS (Gw x) x.ks.length:=by show(kS (Gw x) x.ks.length).map (· +(0:Int))=_;simp
  refine At (by rw[C5,Nat.ble_eq,L];exact⟨AM _,tD _ _⟩) (At (Cf.2 ⟨by omega,by omega⟩) (At ?_ ⟨by rw[O,L5],by rw[O,L5],⟨λi hi=>?_⟩⟩))
  ·rw[C5,Nat.ble_eq,Nat.ble_eq,O];refine⟨AM _,?_⟩;show 5+1<=_;omega
  ·cases i with
   |zero=>show Ba _ ((flat x).getD 0 LT.none).row (Mu ((CM [] x x.ks.length).getD 0 LT.none).row 5 _);rw[M,W,e3];have U:(kS (Gw x) x.ks.length).length=x.ks.length:=jf (by rw[UG];exact AM _);show Ba _ [AV.int .i64 x.kind,.bs x.text,.int .i64 x.num,.int .i64 x.line,.int .i64 x.Ao,.vec 1 (kS (Gw x) x.ks.length).length (rI (kS (Gw x) x.ks.length))] [AV.int .i64 x.kind,.bs x.text,.int .i64 x.num,.int .i64 x.line,.int .i64 x.Ao,.vec 1 x.ks.length (rI (kS (Gw x) x.ks.length))];rw[U];exact⟨⟨rfl,rfl⟩,rfl,⟨rfl,rfl⟩,⟨rfl,rfl⟩,⟨rfl,rfl⟩,⟨rfl,rfl,⟨λi _=>cg _ _ i⟩⟩,trivial⟩
   |succ i=>show Ba _ ((flat x).getD (i+1) LT.none).row ((CM [] x x.ks.length).getD (i+1) LT.none).row;rw[M,W];exact OD _ _
theorem AhV:∀(N:Nat) (AA:NF N) (x:PT),sz x<=1000000->sz x<=N->(A4 (X1 N AA [] x) 60).call 29 [.ptr 0 0,V9 x] (Bx (Cl [Uw] 0)) 1 (Gk Tryz.prog 0 0 1 (kV x)):=Eq.mpr (by kernel_rfl) AhW
theorem Afo (x:PT) (ids:List Nat) (E:sz x<=1000000):Bo Tryz.prog 29 ((tM 1000000).at x ids).AJ:=by refine MX _ (λp q=>by cases q) (λH _ p q=>by cases q) (λy=>rfl) (λy o B=>HG (p:=λo=>H8 o=false) rfl o B) (λy q=>?_) λy q=>⟨(A4 (X1 1000000 (kZ _) [] y) 60).call,JZ Bu B5 60,AhV 1000000 (kZ _) y q.1 q.2⟩;exact⟨λa C=>(by cases C),rfl,Nv (pd _ _) (p9 _ _)⟩
theorem Afn:Bo Tryz.prog 29 gg:=by
 intro H nx args hc B;unfold gg at B;split at B
 case h_2=>cases B
 rename_i id a;obtain⟨_,K,B⟩:=Ag.1 B;obtain⟨M,B⟩:=OU B;injection B with B;subst B;intro p v up nx' y E F ρ O rel;obtain⟨⟨⟨x,rfl⟩,C⟩,y⟩:=NU y;rw[Lw]at C y;have L:=Alb K;have key:hOut (Hn 0 [id] nx (kV x))=some (p,v,up,nx'):=by refine Eq.trans ?_ y;show hOut (FV (nx+1) λn=>(λJ=>C4.ret (D2 (BP 0 J) 4 (.AO [])) (J.zip ([II 1 (flat x).length,Ic (A8 (flat x)) (flat x).length].map (CP (BP 0 J)))) n) ([id]++List.range' nx 1))=_;rw[G5];rfl
 refine NV (S:=tM 1000000) (x:=x) (ids:=[id]) (os:=[Uw]) (args':=[.ptr id 0,Bw x]) (Afo x [id] C) ⟨C,C⟩ rfl rfl rfl ?_ rfl ?_ ⟨⟨rfl,rfl⟩,zY _ x,trivial⟩ ⟨?_,trivial⟩ key ?_ rel λvs h=>h
 ·show(List.all [id] λj=>Nat.blt j nx)=true;simp only[List.all_cons,List.all_nil,M,Bool.and_true]
 ·exactλq K=>by rw[DE.1 K];exact L
 ·show(match(H.set id Uw).get id with
   |none=>False
   |some o=>EO [(0,id)] Uw o)
  rw[Tr.GG];exact⟨rfl,rfl,rfl,trivial,trivial⟩
 ·obtain⟨_,_,rfl,_⟩:=SG (show hOut (.ret (.AO []) [(id,II nx (flat x).length),(nx,Ic (A8 (flat x)) (flat x).length)] (nx+1))=some (p,v,up,nx')from y);exactλi hi=>⟨_,BN ..,(DE.1 hi).symm⟩
end Go.Proofs.YtlmmbanfhjaioaaGreatDoor
end
end
