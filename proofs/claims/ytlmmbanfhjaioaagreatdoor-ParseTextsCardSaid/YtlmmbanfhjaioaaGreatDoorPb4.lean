/- Laid by program out of its parts: PbT, PbU, PbV. -/
import Derived.Test.YtlmmbanfhjaioaaGreatDoorPb3
noncomputable section
set_option linter.unusedVariables false
set_option linter.unusedSimpArgs false
section
set_option maxRecDepth 100000
set_option maxHeartbeats 2000000
open Go Go.Ev
namespace Go.Proofs.YtlmmbanfhjaioaaGreatDoor
def GQ (D:List TK->PF) (L:List TK):Nat->List PT->RS->List PT×RS
 |0,l,s=>(l,s)
 |k+1,l,s=>if s.err=0/\s.at_<L.length then GQ D L k (l++[(D L s).1]) (D L s).2 else(l,s)
def Ln (D:List TK->PF) (L:List TK) (s:RS):List PT×RS:=GQ D L (B7 L) [] s
def Vd:TK:=⟨0,[],0,1,1⟩
def Ph (D:List TK->PF) (L:List TK):PF:=λs=>(nd 1 [] 0 Vd (Ln D L s).1,(Ln D L s).2)
def wF (L:List TK) (n:Nat) (D:List TK->PF) (h:ED 60 L n D) (s0:RS):Ctx:={P:=Tryz.prog,tb:=[],ht:=Tx 60 L n D,Am:=Wz h,lp:=λf r=>cond (Nat.beq f 30) (cond (Nat.beq r 2) (some (sY L (GQ D L) (Ln D L s0) s0 [0,3] 3)) none) none,cut:=λ_ _=>none}
theorem zH {D:List TK->PF} {L:List TK} (hD:KF (D L)):∀(k:Nat) (l:List PT) (r:RS),Kp r (GQ D L k l r).2
 |0,l,r=>Dd r
 |k+1,l,r=>by unfold GQ;exact Eo (P:=λx:List PT×RS=>Kp r x.2) (λ_=>(hD r).tr (zH hD k _ _)) λ_=>Dd r
def pf:=((((((True/\Aa/\Ab (1:Int))/\([]:List UInt8)=[])/\Aa/\Ab (0:Int))/\Aa/\Ab (1:Int))/\Aa/\Ab (1:Int))/\True)
theorem Al8:∀(L:List TK) (n:Nat) (D:List TK->PF),ED (60:FuncId) L n D->∀(s:RS) (t:PT×RS),R0 L s->Av L n s->Si L n D->t=Ph D L s->(∃(E:List PT×RS),Sk L (GQ D L) (Ln D L s) s E/\Aa/\(HI/\(Ab (some 6)/\Aa)/\True)/\(Aa/\True)/\(Rf s L E.2)/\(Aa/\Aa/\Aa/\Aa/\pf/\E.1.length=0)/\Fy/\True)/\∀(x:List PT×RS),Sk L (GQ D L) (Ln D L s) s x->PM x.2 L ((Ey L x.2 n)/\∀(y:PT×RS),y=CQ D L x.2->AO y.2 (dY x ((A8/\A8/\A8/\((Ab (AV.AJ 7 x.1.length 1)/\True)/\True)/\True)/\∃(B:List PT×RS),Sk L (GQ D L) (Ln D L s) s B/\DX L B.2 x.2/\Aa/\(HI/\(Ab (some 6)/\Aa)/\True)/\(Aa/\Aa/\Aa/\Aa/\(Fh x)*1=B.1.length/\Au λ(i:Nat)=>B8 i ((Fh x)*1)->AH [(7,16),(6,6),(0,0),(1,1),(2,2),(3,3),(4,4)] (LA B.1 i) (B0 x.1.length (λ(i:Nat)=>LA x.1 i) (λ(x:Nat)=>[Bv y.1]) i))/\(Rf y.2 L B.2)/\(Aa/\Aa/\Aa/\Aa/\pf/\Ab (some 16)/\x.1.length+1=B.1.length/\Aa)/\Fy/\True)) (E4 L y.2 t.2)) (Ud x x.1 (Ce L x.2 (AV.pv [Om,AV.bs [],BX,Om,Om,AV.As,AV.vec 1 x.1.length λ(i:Nat)=>LA x.1 i]) t/\True))
:=by
 delta Lq Bg Bh IB AO A8 Ce BD BX B8 DX DO Ey E4 Ud HI Fy dY Fh Rf pf LA Om PM CQ;intro L n D Am s t C O hD ht;simp only[A9];have kL:∀(k:Nat) (l:List PT) (r:RS),Kp r (GQ D L k l r).2:=zH hD.k;refine⟨⟨([],s),⟨⟨B7 L,Kz C.ok,rfl⟩,M3 C.ok (by decide),C⟩,Fk (s:=s) rfl,rfl⟩,λx M=>?_⟩;obtain⟨⟨k,R,q⟩,J,rx⟩:=M;have V:=J.DU C.ok (by decide);have U:=Kx x.1;have S:=rx.ok.a0;have K:((L.drop x.2.at_.toNat).length:Int)=(L.length:Int)-x.2.at_\/(L.length:Int)<=x.2.at_/\(L.drop x.2.at_.toNat).length=0:=by rw[List.length_drop];omega
 cases k with
 |zero=>omega
 |succ k=>
 unfold GQ at q;refine Aj (λc=>?_) λc=>?_
 ·rw[B1]at c;rw[if_pos ⟨rx.e,by omega⟩]at q;obtain⟨d0,d1,d2⟩:=OM (by decide) hD.g (l:=x.1) (s:=x.2) J (λ_=>O) rx.e;refine Ca (f:=D L) rx d0 (by rw[ht];show Kp _ (Ln D L s).2;rw[<-q];exact kL _ _ _) λe=>?_;exact An (decide_eq_true (by omega)) ⟨(x.1++[(D L x.2).1],(D L x.2).2),⟨⟨k,by have:Cn L (D L x.2).2<Cn L x.2:=d2;show Cn L (D L x.2).2<k;omega,q⟩,d1,Fj rx (hD.g L _ d0) (hD.k _) e⟩,d2,Abc x.1 (D L x.2).1 rfl,Fk (s:=(D L x.2).2) rfl,by rw[List.length_append,List.length_singleton]⟩
 ·rw[Cg]at c;rw[if_neg (by rintro⟨_,h⟩;omega)]at q;refine An (nX x.1) (mL (tk:=Vd) ?_ rx.e);rw[ht];unfold Ph;rw[<-q]
theorem Al7:∀(L:List TK) (n:Nat) (D:List TK->PF) (Am:ED 60 L n D) (s:RS) (t:PT×RS),R0 L s->Av L n s->Si L n D->t=Ph D L s->(AG (wF L n D Am s) 60).call 30 [.ptr 4 0] (AU (Cm++A0 [Bl L s] 4)) (4+1) (Hb L t):=Eq.mpr (by kernel_rfl) Al8
theorem Aa4 {n:Nat} {D:List TK->PF} (hD:GF n 3 4 D) {L:List TK} {s0:RS} (q:s0.err=0->Av L n s0):∀(k:Nat) (l:List PT) (s:RS),GL L 0 4 s0 (l,s)->GL L 0 4 s0 (GQ D L k l s)
 |0,l,s,h=>h
 |k+1,l,s,h=>by
  unfold GQ;split
  ·rename_i e;exact Aa4 hD q k _ _ (OM (by decide) hD h q e.1).2.1
  ·exact h
theorem Aix {L:List TK} {n:Nat} {D:List TK->PF} (h:ED 60 L n D) (hD:Si L n D):AD Tryz.prog 30 (mF L n (Ph D)):=H7 λs y q=>⟨wF L n D h s,60,rfl,AW,Bc,λt ht=>Al7 L n D h s t y q hD ht⟩
def kX (ks:List PT):Nat->List AV:=λi=>[Bv (ks.getD i EV)]
def Xd (x:PT):AV:=.pv [.int .i64 x.kind,.bs x.text,.int .i64 x.num,.int .i64 x.line,.int .i64 x.Ag,.As,.vec 1 x.ks.length (kX x.ks)]
def IJ (r m:Nat):Ac:=.cells 26 .leaf (.CC [.AJ r m 6]) 1 false
def QZ (l:List AV):LT:=match l with
 | [.int _ k,.bs s,.int _ n,.int _ a,.int _ c,.vec _ m g]=>⟨k,s,n,a,c,Nk m g⟩
 |_=>LT.none
def Fc (m:Nat) (f:Nat->List AV):List LT:=AY ((List.range m).map λi=>QZ (f i))
def QL (x:PT):LT:=⟨x.kind,x.text,x.num,x.line,x.Ag,[]⟩
def Gk (x:PT):List (List LT):=AY (Ba x.ks)
def CA (l:List LT) (x:PT) (q:Nat):List LT:=l++(QL x::rS (Gk x) q).map (Cl (l.length:Int))
def Eb (l:List LT) (x:PT) (q:Nat):List Int:=(kS (Gk x) q).map (· +(l.length:Int))
open Classical in
def M6 (a:AV):PT:=AY (if h:∃x,a=Bv x then Classical.choose h else EV)
def AcD (H:Tr Ac) (id:Nat):Option (Nat×Nat):=ob (H.get id) λo=>match o with
 |.cells el c z N op=>cond (cond (Nat.beq el 26) (cond op false (Nat.beq N 1)) false) (ob (Kc c z 1 0) λl=>match l with
  | [.AJ r m 6]=>some (r,m)
  |_=>none) none
 |_=>none
def AcF (H:Tr Ac) (r:Nat):Option ((Nat->List AV)×Nat):=ob (H.get r) λo=>match o with
 |.cells el c z N op=>match c,z with
  |.leaf,.rows e f=>cond (cond (Nat.beq el 39) (cond op (Nat.beq e 6) false) false) (some (f,N)) none
  |_,_=>none
 |_=>none
structure Yb (N m n:Nat) (f:Nat->List AV) (a:AV):Prop where
 f:∀i,i<m->f i=(QZ (f i)).row
 n:n=m*6
 x:∃x,a=Bv x
 z:sz (M6 a)<N
 b:m+sz (M6 a)<=1000000
def S8 (N:Nat):Da:=λH nx args=>match args with
 | [.ptr id 0,a]=>ob (AcD H id) λq=>ob (AcF H q.1) λg=>cond (cond (Nat.blt id nx) (cond (Nat.blt q.1 nx) (Jx id q.1) false) false)
  (some (.A6 (Yb N q.2 g.2 g.1 a) (.gen (flat (M6 a)) λW=>.ret (.AL []) [(id,IJ nx (q.2+W.length)),(q.1,bK),(nx,HD (Bs (Fc q.2 g.1++W.map (Cl (q.2:Int)))) (q.2+W.length))] (nx+1)))) none
 |_=>none
def SFl (l:List LT) (x:PT):CV:={X:=Nat,T:=λs _ q=>(5,.AJ (s.nx+1) q 1)::(31,.int .i64 q)::MV s [0,4,29,30],H:=λs n0 q=>[(s.nx,HD (Bs (CA l x q)) (CA l x q).length),(s.nx+1,bU (Eb l x q)),(0,IJ s.nx (CA l x q).length)],nx:=λs _=>s.nx+2,I:=λs q=>q<=x.ks.length,m:=λq=>x.ks.length-q}
structure Nx (N:Nat):Prop where
 f:AD Tryz.prog 29 (S8 N)
theorem AfV {N:Nat} (h:Nx N):Db Tryz.prog [(29,S8 N)]:=BN h.f (Ty _)
def Zz (N:Nat) (h:Nx N) (l:List LT) (x:PT):Ctx:={P:=Tryz.prog,tb:=[],ht:=[(29,S8 N)],Am:=AfV h,lp:=λf r=>cond (Nat.beq f 29) (cond (Nat.beq r 4) (some (SFl l x)) none) none,cut:=λ_ _=>none,fr:=λf r=>cond (Nat.beq r 9) [5] []}
def oq (l:List LT) (x:PT):HO:=.gen (flat x) λW=>.ret (.AL []) [IJ 2 (l.length+W.length),bK,HD (Bs (l++W.map (Cl (l.length:Int)))) (l.length+W.length)] 1
mutual
theorem Abb:∀x y:PT,L3 x=L3 y->x=y
 |.mk k s n l c ks,.mk S s' O R U L,h=>by unfold L3 at h;injection h with h;injection h with K h;injection h with J h;injection h with E h;injection h with C h;injection h with B h;injection h with _ h;injection h with q _;injection K with _ K;injection J with J;injection E with _ E;injection C with _ C;injection B with _ B;injection q with _ q M;subst K;subst J;subst E;subst C;subst B;rw[Aba ks L q λi=>congrFun M i]
theorem Aba:∀ks q:List PT,ks.length=q.length->(∀i,(BA ks).getD i []=(BA q).getD i [])->ks=q
 | [],[],_,_=>rfl
 | [],_::_,h,_=>by cases h
 |_::_,[],h,_=>by cases h
 |x::E,y::C,h,hi=>by have B:=hi 0;unfold BA at B;injection (show [L3 x]=[L3 y]from B)with B _;rw[Abb x y B,Aba E C (by simpa using h) λi=>by have:=hi (i+1);unfold BA at this;exact this]
end
theorem Lo (x:PT):M6 (Bv x)=x:=by unfold M6;rw[Du];have h:∃y,Bv x=Bv y:=⟨x,rfl⟩;rw[dif_pos h];have:=Classical.choose_spec h;exact(Abb _ _ ((dJ _).trans (this.trans (dJ _).symm))).symm
theorem tU (x:PT):Gk x=Ba x.ks:=by unfold Gk;rw[Du]
theorem Vs (x:PT):(Gk x).length=x.ks.length:=by rw[tU,Lb]
theorem Apu (x:PT) {q:Nat} (h:q<x.ks.length):wS (Gk x) q=flat (x.ks.getD q EV):=by unfold wS;rw[tU,MN,List.getD_eq_getElem?_getD,List.getElem?_map,List.getD_eq_getElem?_getD,List.getElem?_eq_getElem h];rfl
theorem nH (x:PT):flat x=⟨x.kind,x.text,x.num,x.line,x.Ag,kS (Gk x) x.ks.length⟩::rS (Gk x) x.ks.length:=by
 cases x with
 |mk k s n l c ks=>
 rw[<-Vs,tU];show flat (.mk k s n l c ks)=_
 conv=>lhs;unfold flat
 rfl
theorem Ab6 (b c:Int) (w:LT):Cl b (Cl c w)=Cl (c+b) w:=by unfold Cl;simp only[List.map_map];congr 1;apply List.map_congr_left;intro a _;show a+c+b=a+(c+b);omega
theorem TG (l:List LT) (x:PT) (q:Nat):(CA l x q).length=l.length+1+(rS (Gk x) q).length:=by unfold CA;rw[List.length_append,List.length_map,List.length_cons];omega
theorem zY (l:List LT) (x:PT) {q:Nat} (h:q<x.ks.length):CA l x (q+1)=CA l x q++(flat (x.ks.getD q EV)).map (Cl ((CA l x q).length:Int)):=by rw[TG];unfold CA;rw[Abe (by rw[Vs];exact h),Apu x h,<-List.cons_append,List.map_append,List.map_map,List.append_assoc];congr 2;apply List.map_congr_left;intro w _;show Cl _ (Cl _ w)=_;rw[Ab6];congr 1;omega
theorem bW (l:List LT) (x:PT) {q:Nat} (h:q<=x.ks.length):(Eb l x q).length=q:=by unfold Eb;rw[List.length_map,bV (by rw[Vs];exact h)]
theorem yr (l:List LT) (x:PT) {q:Nat} (h:q<x.ks.length):Eb l x (q+1)=Eb l x q++[((CA l x q).length:Int)]:=by rw[TG];unfold Eb;rw[WI (by rw[Vs];exact h),List.map_append];congr 1;show [1+_+_]=_;congr 1;omega
theorem LU (x:PT):(flat x).length=sz x:=(NK x).1
theorem oS (l:List LT) (x:PT):(CA l x x.ks.length).length=l.length+sz x:=by rw[TG,<-LU,nH,List.length_cons];omega
theorem cQ (l:List LT) (x:PT) (q:Nat):(CA l x q).length<=l.length+sz x:=by have h:=rR (Gk x) q;rw[<-oS,TG,TG,<-Vs,eb];omega
theorem Acj {x:PT} {q:Nat} (h:q<x.ks.length):sz (x.ks.getD q EV)<sz x:=by
 cases x with
 |mk k s n l c ks=>
 have h:q<ks.length:=h;rw[P5];show sz (ks.getD q EV)<_;have:∀(l:List PT) (i:Nat),i<l.length->sz (l.getD i EV)<=CS l:=by
  intro l
  induction l with
  |nil=>intro i hi;cases hi
  |cons a l y=>
   intro i hi;rw[Fl];cases i with
   |zero=>show sz a<=_;omega
   |succ i=>have:=y i (by simpa using hi);show sz (l.getD i EV)<=_;omega
 have:=this ks q h;omega
theorem zZ (w:LT):QZ w.row=w:=by
 cases w with
 |mk k s n a c ks=>
 show(⟨k,s,n,a,c,Nk ks.length (rI ks)⟩:LT)=_;rw[U4]
theorem z1 (l:List LT):Fc l.length (Bs l)=l:=by
 unfold Fc;rw[Du];apply List.ext_getElem
 ·simp
 ·intro i y q;simp only[List.getElem_map,List.getElem_range];show QZ (l.getD i LT.none).row=_;rw[zZ,List.getD_eq_getElem?_getD,List.getElem?_eq_getElem q];rfl
theorem xT {N:Nat} {l:List LT} {x:PT} (y:sz x<N) (q:l.length+sz x<=1000000):Yb N l.length (l.length*6) (Bs l) (Bv x):=⟨λi _=>by show _=(QZ (l.getD i LT.none).row).row;rw[zZ];rfl,rfl,⟨x,rfl⟩,by rw[Lo];exact y,by rw[Lo];exact q⟩
theorem Abt {A B:List LT} (h:A=B) {n:Nat}:Au λi=>(i*6).succ<=n->(A.getD i LT.none).kind=(B.getD i LT.none).kind/\(A.getD i LT.none).text=(B.getD i LT.none).text/\(A.getD i LT.none).n=(B.getD i LT.none).n/\(A.getD i LT.none).line=(B.getD i LT.none).line/\(A.getD i LT.none).Ag=(B.getD i LT.none).Ag/\(A.getD i LT.none).kids.length=(B.getD i LT.none).kids.length/\ Au λj=>j.succ<=(A.getD i LT.none).kids.length->(A.getD i LT.none).kids.getD j 0=(B.getD i LT.none).kids.getD j 0:=by subst h;exact⟨λi _=>⟨rfl,rfl,rfl,rfl,rfl,rfl,⟨λj _=>rfl⟩⟩⟩
theorem Abm {q:List (Nat×Nat)} {A B:List Int} {z:Int} {n:Nat} (hn:n=A.length) (h:B=A++[z]):Au λi=>i.succ<=n+1->AH q (rI B i) (B0 n (rI A) (λ_=>[AV.int .i64 z]) i):=by
 subst hn;subst h;refine⟨λi hi=>?_⟩;by_cases h:i<A.length
 ·rw[Y6 (r:=rI A i) (λ_=>rfl) λh'=>absurd h h'];show AH q [AV.int .i64 ((A++[z]).getD i 0)] [AV.int .i64 (A.getD i 0)];rw[OZ h];exact⟨⟨rfl,rfl⟩,trivial⟩
 ·have y:i=A.length:=by omega
  subst y;rw[Y6 (r:=[AV.int .i64 z]) (λh'=>absurd h' h) λ_=>rfl];show AH q [AV.int .i64 ((A++[z]).getD A.length 0)] _;rw[Wp];exact⟨⟨rfl,rfl⟩,trivial⟩
theorem xm (A:List Int) (n:Nat):Ds 1 n (rI A)=true:=Lc λi _=>rfl
theorem Wo {α:Type} {d:α} {l m:List α} {i:Nat} (h:l.length<=i):(l++m).getD i d=m.getD (i-l.length) d:=by simp[List.getD_eq_getElem?_getD,List.getElem?_append_right h]
def N7 (a:List LT) (b:PT) (c:Nat) (d:List LT) (e:Nat):=List.getD (Fc (List.length (CA a b c)) (Bs (CA a b c))++List.map (Cl (↑(List.length (CA a b c)):Int)) d) e LT.none
def Lx (a:PT) (b:Nat):=List.getD (PT.ks a) b EV
def GG (a:List LT):=Int.ofNat a.length
def Jd (a:List LT) (b:PT) (c:Nat):=List.length (CA a b c)
def Nc (a:PT) (b:Nat) (c:Nat):=List.getD (BA (PT.ks (Lx a b))) c []
def Nb (a:PT) (b:Nat):=List.length (PT.ks (Lx a b))
def PQ (a:List LT) (b:PT) (c:Nat) (d:Nat):=List.getD (CA a b c) d LT.none
def UB (a:PT) (b:Nat):=Bv (List.getD (PT.ks a) (CD b) EV)
def Uz (a:PT):=(Aa/\Ab (Int.ofNat (Dw a)))
def eV (a:Nat):=Ap (bif bif Nat.beq a a then true else false then true else false)
def UL (a:PT) (b:Nat):=(Aa/\Ab (PT.line (Lx a b)))
def UX (a:PT) (b:Nat):=(Aa/\Ab (PT.kind (Lx a b)))
def UY (a:PT) (b:Nat):=(Aa/\Ab (PT.num (Lx a b)))
def UZ (a:PT) (b:Nat):=(Aa/\Ab (PT.Ag (Lx a b)))
theorem Ak3:∀(N:Nat),Nx N->∀(l:List LT) (x:PT),Nat.le (l.length+sz x) 1000000->Nat.le (sz x) N->Ap (bif bif Nat.ble (l.length*6) (l.length*6)then true else false then decide (l.length+1<=9223372036854775807/\(l.length+1)*72<=140737488355328)else false) ((BF/\BF/\BF/\True)/\(∃(L:Nat),Nat.le L (Dw x)/\Aa/\(L=0/\(Fg L)/\Ay/\(Aa/\Ab (GG l))/\(Aa/\Ab (Dw x)/\Au λ(i:Nat)=>AM i (Dw x)->((UX x i)/\Ab (PT.text (Lx x i))/\(UY x i)/\(UL x i)/\(UZ x i)/\True/\(Aa/\Ab (Nb x i)/\Au λ(C:Nat)=>AM C (Nb x i)->AH [(16,12),(0,0),(1,1)] (Nc x i C) (Nc x i C))/\True)/\True)/\(Uz x)/\True)/\(Aa/\Aa/\Aa/\Aa/\(l.length+1)*6=Jd l x L*6/\Au λ(i:Nat)=>Gz i ((l.length+1)*6)->AH [(16,12),(0,0),(1,1)] (Bs (CA l x L) i) (B0 l.length (Bs l) (λ(B:Nat)=>[AV.int .i64 (PT.kind x),AV.bs (PT.text x),AV.int .i64 (PT.num x),AV.int .i64 (PT.line x),AV.int .i64 (PT.Ag x),AV.As]) i))/\(Aa/\True)/\(Aa/\Aa/\Aa/\Aa/\True/\Ab (some 12)/\l.length+1=Jd l x L/\Aa)/\True)/\∀(B:Nat),Nat.le B (Dw x)->Ad (HL B (Int.ofNat (Dw x))) (Ap (GJ B (Dw x)) (Ap (bif bif Nat.ble (B*1) (List.length (Eb l x B))then true else false then decide (B+1<=9223372036854775807/\(B+1)*8<=140737488355328)else false) (Yb N (Jd l x B) (Jd l x B*6) (Bs (CA l x B)) (UB x B)/\∀(y:List LT),y=flat (M6 (UB x B))->DH B (∃(E:Nat),Nat.le E (Dw x)/\Nat.le (Nat.succ (Dw x-E)) (Dw x-B)/\Aa/\((Ab (some 19)/\B+1=E/\Aa)/\(D6 B E)/\Ay/\(Aa/\Ab (GG l))/\(Aa/\Ab (Dw x)/\Au λ(i:Nat)=>AM i (Dw x)->((UX x i)/\Ab (PT.text (Lx x i))/\(UY x i)/\(UL x i)/\(UZ x i)/\True/\(Aa/\Ab (Nb x i)/\Au λ(C:Nat)=>AM C (Nb x i)->AH [(16,21),(17,19),(0,0),(1,1)] (Nc x i C) (Nc x i C))/\True)/\True)/\(Uz x)/\True)/\(Aa/\Aa/\Aa/\Aa/\(Jd l x B+y.length)*6=Jd l x E*6/\Au λ(i:Nat)=>Gz i ((Jd l x B+y.length)*6)->(Aa/\LT.kind (N7 l x B y i)=LT.kind (PQ l x E i))/\LT.text (N7 l x B y i)=LT.text (PQ l x E i)/\(Aa/\LT.n (N7 l x B y i)=LT.n (PQ l x E i))/\(Aa/\LT.line (N7 l x B y i)=LT.line (PQ l x E i))/\(Aa/\LT.Ag (N7 l x B y i)=LT.Ag (PQ l x E i))/\(Aa/\List.length (LT.kids (N7 l x B y i))=List.length (LT.kids (PQ l x E i))/\Au λ(C:Nat)=>AM C (List.length (LT.kids (N7 l x B y i)))->(Aa/\List.getD (LT.kids (N7 l x B y i)) C (0:Int)=List.getD (LT.kids (PQ l x E i)) C (0:Int))/\True)/\True)/\(Aa/\Aa/\Aa/\Aa/\(B+1)*1=List.length (Eb l x E)/\Au λ(i:Nat)=>B8 i ((B+1)*1)->AH [(16,21),(17,19),(0,0),(1,1)] (rI (Eb l x E) i) (B0 B (rI (Eb l x B)) (λ(aa:Nat)=>[AV.int .i64 (Int.ofNat (Jd l x B))]) i))/\(Aa/\Aa/\Aa/\Aa/\True/\Ab (some 21)/\Jd l x B+y.length=Jd l x E/\Aa)/\True)))) (Ap (bif Nat.ble (B*1) (List.length (Eb l x B))then Ds 1 B (rI (Eb l x B))else false) (eV B (Ap (Bn (GG l) (Jd l x B)) (Ap (bif Nat.ble (5+List.length [AV.vec 1 B (rI (Eb l x B))]) (List.length (Bs (CA l x B) (Int.toNat (GG l))))then Nat.ble (Int.toNat (GG l)*6+5+List.length [AV.vec 1 B (rI (Eb l x B))]) (Jd l x B*6)else false) (Aa/\(True/\True)/\(Aa/\Aa/\Aa/\Aa/\True/\Ab (some 16)/\Jd l x B=l.length+Ic x/\Aa)/\(Aa/\Aa/\Aa/\Aa/\Jd l x B*6=(l.length+Ic x)*6/\Au λ(i:Nat)=>Gz i (Jd l x B*6)->AH [(2,16),(0,0),(1,1)] (Bs (l++List.map (Cl (↑l.length:Int)) (flat x)) i) (LI (Bs (CA l x B)) (Int.toNat (GG l)) 5 [AV.vec 1 B (rI (Eb l x B))] i))/\True))))))
:=by
 delta CD Ay BF AM N7 B8 Lx DH Dw D6 Gz Fg GG Jd Nc Ic Nb GJ HL PQ UB Uz eV UL UX UY UZ;intro N Am l x hb hz;simp only[A9];have hb:l.length+sz x<=1000000:=hb;have hz:sz x<=N:=hz;have S:(CA l x 0).length=l.length+1:=by rw[TG,U0];rfl
 have hp:=Ih x;refine An (decide_eq_true (by omega)) ⟨⟨0,Nat.zero_le _,⟨rfl,rfl,⟨λi _=>⟨λj _=>Ns _ _ _⟩⟩⟩,⟨by rw[S],⟨λi hi=>?_⟩⟩,S.symm⟩,λq Y=>?_⟩
 ·by_cases h:i<l.length
  ·rw[Y6 (r:=Bs l i) (λ_=>rfl) λh'=>absurd h h'];show AH _ ((l++_).getD i LT.none).row (l.getD i LT.none).row;rw[OZ h];exact KZ _ _
  ·have O:i=l.length:=by omega
   subst O;rw[Y6 (r:=[AV.int .i64 x.kind,.bs x.text,.int .i64 x.num,.int .i64 x.line,.int .i64 x.Ag,.As]) (λh'=>absurd h' h) λ_=>rfl];show AH _ ((l++(QL x::rS (Gk x) 0).map (Cl (l.length:Int))).getD l.length LT.none).row _;rw[U0,Wo (Nat.le_refl _),Nat.sub_self];exact⟨⟨rfl,rfl⟩,rfl,⟨rfl,rfl⟩,⟨rfl,rfl⟩,⟨rfl,rfl⟩,rfl,trivial⟩
 have J:=bW l x Y;refine Aj (λc=>?_) λc=>?_
 ·rw[B1]at c;have c:q<x.ks.length:=by omega
  have hk:=Acj c;have R:=zY l x c;have ab:=cQ l x (q+1);have K:(CA l x (q+1)).length=(CA l x q).length+sz (x.ks.getD q EV):=by rw[R,List.length_append,List.length_map,LU]
  have W:=cQ l x q;have ad:x.ks.length<=sz x:=by
   have:=Kx x.ks;cases x with
   |mk k s n a c ks=>rw[P5];show ks.length<=_;have:ks.length<=CS ks:=this;omega
  refine An (BJ.2 ⟨by omega,by omega⟩) (An ?_ ⟨xT (by omega) (by omega),λy hy=>An (Be.2 (by omega)) ⟨q+1,c,by omega,⟨rfl,rfl,⟨λi _=>⟨λj _=>Ns _ _ _⟩⟩⟩,⟨?_,?_⟩,⟨(bW l x c).symm,Abm J.symm (yr l x c)⟩,?_⟩⟩)
  ·rw[Bool.and_eq_true,Nat.ble_eq,J];exact⟨Nat.le_refl _,decide_eq_true (by omega)⟩
  ·rw[Lo]at hy;rw[K,hy,LU]
  ·rw[Lo]at hy;exact Abt (by rw[R,hy,z1])
  ·rw[Lo]at hy;rw[K,hy,LU]
 ·rw[Cg]at c;have M:q=x.ks.length:=by omega
  subst M;have U:=oS l x;refine An (by rw[Bool.and_eq_true,Nat.ble_eq,J];exact⟨Nat.le_refl _,xm _ _⟩) (An (BJ.2 ⟨by omega,by omega⟩) (An ?_ ⟨by rw[U,LU],by rw[U,LU],⟨λi hi=>?_⟩⟩))
  ·rw[Bool.and_eq_true,Nat.ble_eq,Nat.ble_eq];refine⟨Nat.le_refl _,?_⟩;show l.length*6+5+1<=_;omega
  ·have e:(l++(flat x).map (Cl (l.length:Int)))=l++(Cl (l.length:Int) ⟨x.kind,x.text,x.num,x.line,x.Ag,kS (Gk x) x.ks.length⟩)::(rS (Gk x) x.ks.length).map (Cl (l.length:Int)):=by rw[nH];rfl
   have V:CA l x x.ks.length=l++(Cl (l.length:Int) (QL x))::(rS (Gk x) x.ks.length).map (Cl (l.length:Int)):=rfl;by_cases h:i=l.length
   ·subst h;have:LI (Bs (CA l x x.ks.length)) l.length 5 [AV.vec 1 x.ks.length (rI (Eb l x x.ks.length))] l.length=Mp (Bs (CA l x x.ks.length) l.length) 5 [AV.vec 1 x.ks.length (rI (Eb l x x.ks.length))]:=by unfold LI;rw[Nat.beq_refl,cond_true]
    rw[this];show AH _ ((l++(flat x).map (Cl (l.length:Int))).getD l.length LT.none).row (Mp ((CA l x x.ks.length).getD l.length LT.none).row 5 _);rw[e,V,Wo (Nat.le_refl _),Wo (Nat.le_refl _),Nat.sub_self];show AH _ [AV.int .i64 x.kind,.bs x.text,.int .i64 x.num,.int .i64 x.line,.int .i64 x.Ag,.vec 1 (Eb l x x.ks.length).length (rI (Eb l x x.ks.length))] [AV.int .i64 x.kind,.bs x.text,.int .i64 x.num,.int .i64 x.line,.int .i64 x.Ag,.vec 1 x.ks.length (rI (Eb l x x.ks.length))];rw[J];exact⟨⟨rfl,rfl⟩,rfl,⟨rfl,rfl⟩,⟨rfl,rfl⟩,⟨rfl,rfl⟩,⟨rfl,rfl,⟨λi _=>R4 _ _ i⟩⟩,trivial⟩
   ·have:LI (Bs (CA l x x.ks.length)) l.length 5 [AV.vec 1 x.ks.length (rI (Eb l x x.ks.length))] i=Bs (CA l x x.ks.length) i:=by unfold LI;rw[show Nat.beq i l.length=false from Bool.eq_false_iff.2 λhb=>h (Nat.eq_of_beq_eq_true hb),cond_false]
    rw[this];show AH _ ((l++(flat x).map (Cl (l.length:Int))).getD i LT.none).row ((CA l x x.ks.length).getD i LT.none).row;have:(l++(flat x).map (Cl (l.length:Int))).getD i LT.none=(CA l x x.ks.length).getD i LT.none:=by
     rw[e,V];by_cases h':i<l.length
     ·rw[OZ h',OZ h']
     ·rw[Wo (by omega),Wo (by omega)];obtain⟨j,Z⟩:∃j,i-l.length=j+1:=⟨i-l.length-1,by omega⟩;rw[Z];rfl
    rw[this];exact KZ _ _
theorem Ak0:∀(N:Nat) (Am:Nx N) (l:List LT) (x:PT),l.length+sz x<=1000000->sz x<=N->(AG (Zz N Am l x) 60).call 29 [.ptr 0 0,Xd x] (AU (A0 [IJ 1 l.length,HD (Bs l) l.length] 0)) 2 (Cz Tryz.prog 0 0 2 (oq l x)):=Eq.mpr (by kernel_rfl) Ak3
def xx (N:Nat):Ea:={X:=List LT×PT,gl:=[],G2:=λ_=>true,ng:=0,k:=2,args:=λx=>[.ptr 0 0,Xd x.2],Dv:=λx=>[IJ 1 x.1.length,HD (Bs x.1) x.1.length],pre:=λx=>x.1.length+sz x.2<=1000000/\sz x.2<=N,out:=λx=>oq x.1 x.2,fz:=0,find:=λ_ _=>none}
def Vf:Ac:=.cells 26 .leaf (.CC [.As]) 1 false
def ot (x:PT):HO:=.gen (flat x) λW=>.ret (.AL []) [IJ 1 W.length,HD (Bs W) W.length] 1
def xy (N:Nat):Ea:={X:=PT,gl:=[],G2:=λ_=>true,ng:=0,k:=1,args:=λx=>[.ptr 0 0,Xd x],Dv:=λx=>[Vf],pre:=λx=>sz x<=1000000/\sz x<=N,out:=λx=>ot x,fz:=0,find:=λ_ _=>none}
def AcE (H:Tr Ac) (id:Nat):Option Unit:=ob (H.get id) λo=>match o with
 |.cells el c z N op=>cond (cond (Nat.beq el 26) (cond op false (Nat.beq N 1)) false) (ob (Kc c z 1 0) λl=>match l with
  | [.As]=>some ()
  |_=>none) none
 |_=>none
structure tW (a:AV):Prop where
 x:∃x,a=Bv x
 b:sz (M6 a)<=1000000
def la:Da:=λH nx args=>match args with
 | [.ptr id 0,a]=>ob (AcE H id) λ_=>cond (Nat.blt id nx)
  (some (.A6 (tW a) (.gen (flat (M6 a)) λW=>.ret (.AL []) [(id,IJ nx W.length),(nx,HD (Bs W) W.length)] (nx+1)))) none
 |_=>none
theorem AcZ (q:List (Nat×Nat)) (x:PT):AR q (Xd x) (Bv x):=⟨⟨rfl,rfl⟩,rfl,⟨rfl,rfl⟩,⟨rfl,rfl⟩,⟨rfl,rfl⟩,trivial,⟨rfl,rfl,⟨λi hi=>by show AH q [Bv (x.ks.getD i EV)] ((BA x.ks).getD i []);rw[HF x.ks i hi,show x.ks.getD i EV=x.ks[i]from by rw[List.getD_eq_getElem?_getD,List.getElem?_eq_getElem hi];rfl];exact⟨Qc q _,trivial⟩⟩⟩,trivial⟩
theorem vV (r m:Nat):HA (IJ r m):=λa q=>by rw[List.mem_singleton.1 q];trivial
theorem vT (l:List LT) (n:Nat):HA (HD (Bs l) n):=λi _=>KZ [] _
theorem Ah7 {N:Nat} (h:Nx N) (l:List LT) (x:PT) (ids:List Nat):AD Tryz.prog 29 ((xx N).at (l,x) ids).AE:=by refine JZ _ (λp q=>by cases q) (λH _ p q=>by cases q) (λy=>rfl) (λy o B=>Nr (p:=λo=>Hf o=false) rfl rfl o B) (λy q=>?_) λy q=>⟨(AG (Zz N h y.1 y.2) 60).call,Is AW Bc 60,Ak0 N h y.1 y.2 q.1 q.2⟩;exact⟨λa C=>(by cases C),rfl,P8 (vV _ _) trivial (vT _ _)⟩
theorem AoL {H:Tr Ac} {id r m:Nat} (h:AcD H id=some (r,m)):Kh H id (IJ r m):=by
 obtain⟨o,K,h⟩:=Ae.1 h;split at h
 ·rename_i el c z N op;obtain⟨B,O⟩:=SZ h;obtain⟨R,L,q⟩:=Ae.1 O;obtain⟨E,B⟩:=A4 B;cases y:op with
  |true=>rw[y]at B;cases B
  |false=>
  rw[y]at B;have C:Nat.beq N 1=true:=B;rw[Nat.beq_eq]at E C;subst E;subst C;subst y;split at q
  ·injection q with q;injection q with q M;subst q;subst M;exact⟨⟨_,K,λρ b x J=>TW L J⟩,rfl⟩
  ·cases q
 ·cases h
theorem AoK {H:Tr Ac} {id:Nat} (h:AcE H id=some ()):Kh H id Vf:=by
 obtain⟨o,K,h⟩:=Ae.1 h;split at h
 ·rename_i el c z N op;obtain⟨y,M⟩:=SZ h;obtain⟨O,L,B⟩:=Ae.1 M;obtain⟨E,y⟩:=A4 y;cases q:op with
  |true=>rw[q]at y;cases y
  |false=>
  rw[q]at y;have C:Nat.beq N 1=true:=y;rw[Nat.beq_eq]at E C;subst E;subst C;subst q;split at B
  ·exact⟨⟨_,K,λρ b x J=>TW L J⟩,rfl⟩
  ·cases B
 ·cases h
theorem Ag8 (m:Nat) (f:Nat->List AV):(Fc m f).length=m:=by unfold Fc;rw[Du];simp
theorem AoM {H:Tr Ac} {r n m:Nat} {f:Nat->List AV} (h:AcF H r=some (f,n)) (V:∀i,i<m->f i=(QZ (f i)).row) (hn:n=m*6):Kh H r (HD (Bs (Fc m f)) m):=by
 obtain⟨o,S,h⟩:=Ae.1 h;split at h
 ·rename_i el c z N op;split at h
  ·rename_i e E;obtain⟨J,B⟩:=lK h;injection B with B;injection B with B W;subst B;subst W;obtain⟨O,J⟩:=A4 J;obtain⟨Y,M⟩:=A4 J;rw[Nat.beq_eq]at O M;subst O;subst Y;subst M;subst hn;refine⟨⟨_,S,λρ b x R=>?_⟩,rfl⟩;cases R with
   |cells _ _ _ _ _ cs fz C0 hn K L q=>
    refine .cells _ _ _ _ _ cs fz C0 hn K L λk a U y=>q k a U ?_;rw[FJ]at y⊢;have y:((Fc m E).getD (k/6) LT.none).row[k %6]? =some a:=y;show(E (k/6))[k %6]? =some a;have C:k/6<m:=by omega
    rw[V _ C];have:(Fc m E).getD (k/6) LT.none=QZ (E (k/6)):=by unfold Fc;rw[Du,List.getD_eq_getElem?_getD,List.getElem?_map,List.getElem?_range C];rfl
    rw[this]at y;exact y
  ·cases h
 ·cases h
theorem Ah6 {N:Nat} (h:Nx N):AD Tryz.prog 29 (S8 (N+1)):=by
 intro H nx args hc B;unfold S8 at B;split at B
 case h_2=>cases B
 rename_i id a;obtain⟨⟨r,m⟩,L,B⟩:=Ae.1 B;obtain⟨⟨f,n⟩,U,B⟩:=Ae.1 B;obtain⟨hb,B⟩:=OU B;injection B with B;subst B;obtain⟨Y,hb⟩:=A4 hb;obtain⟨W,Z⟩:=A4 hb;have R:=MZ Z;intro p v up nx' y E F ρ w0 rel;obtain⟨⟨V,hn,⟨x,rfl⟩,hz,J⟩,y⟩:=LY y;simp only at V hn hz J y U Y W;rw[Lo]at hz J y;have C:=Ag8 m f;have O:=AoL L;have M:=AoM U V hn;have key:hOut (FM 0 [id,r] nx (oq (Fc m f) x))=some (p,v,up,nx'):=by refine Eq.trans ?_ y;show hOut (EY (nx+1) λn=>(λK=>Cv.ret (DD (BI 0 K) 4 (.AL [])) (K.zip ([IJ 2 ((Fc m f).length+(flat x).length),bK,HD (Bs (Fc m f++(flat x).map (Cl ((Fc m f).length:Int)))) ((Fc m f).length+(flat x).length)].map (Cy (BI 0 K)))) n) ([id,r]++List.range' nx 1))=_;rw[FL,C];rfl
 refine NO (S:=xx N) (x:=(Fc m f,x)) (ids:=[id,r]) (os:=[IJ r m,HD (Bs (Fc m f)) m]) (args':=[.ptr id 0,Bv x]) (Ah7 h (Fc m f) x [id,r]) ⟨by show(Fc m f).length+_<=_;rw[C];exact J,Nat.lt_succ_iff.1 hz⟩ rfl rfl ?_ ?_ rfl ?_ ⟨⟨rfl,rfl⟩,AcZ _ x,trivial⟩ ⟨?_,?_,trivial⟩ key ?_ rel λvs h=>h
 ·show cond (List.any [r] (Nat.beq id)) false true=true;have:Nat.beq id r=false:=Bool.eq_false_iff.2 λhb=>R (Nat.eq_of_beq_eq_true hb);simp only[List.any_cons,List.any_nil,this,Bool.or_false,cond_false]
 ·show(List.all [id,r] λj=>Nat.blt j nx)=true;simp only[List.all_cons,List.all_nil,Y,W,Bool.and_true]
 ·exactλq L=>R2 (p:=λq:Nat×Ac=>Kh H q.1 q.2) O M q L
 ·show(match((H.set r (HD (Bs (Fc m f)) m)).set id (IJ r m)).get id with
   |none=>False
   |some o=>Ed [(0,id),(1,r)] (IJ 1 (Fc m f).length) o)
  rw[Tr.F7,C];exact⟨rfl,rfl,rfl,trivial,rfl,rfl,rfl⟩
 ·show(match((H.set r (HD (Bs (Fc m f)) m)).set id (IJ r m)).get r with
   |none=>False
   |some o=>Ed [(0,id),(1,r)] (HD (Bs (Fc m f)) (Fc m f).length) o)
  rw[Tr.Ks _ R,Tr.F7,C];exact⟨rfl,rfl,rfl,rfl,⟨λi _=>KZ _ _⟩⟩
 ·obtain⟨_,_,rfl,_⟩:=Tv (show hOut (.ret (.AL []) [(id,IJ nx (m+(flat x).length)),(r,bK),(nx,HD (Bs (Fc m f++(flat x).map (Cl (m:Int)))) (m+(flat x).length))] (nx+1))=some (p,v,up,nx')from y);exact R2 ⟨_,List.mem_cons_self ..,rfl⟩ ⟨_,List.mem_cons_of_mem _ (List.mem_cons_self ..),rfl⟩
theorem oz:∀N,Nx N
 |0=>⟨λH nx args hc q=>by
  unfold S8 at q;split at q
  case h_2=>cases q
  obtain⟨⟨r,m⟩,C,q⟩:=Ae.1 q;obtain⟨⟨f,n⟩,B,q⟩:=Ae.1 q;obtain⟨hb,q⟩:=OU q;injection q with q;subst q;intro p v up nx' y;obtain⟨h,_⟩:=LY y;exact absurd h.z (Nat.not_lt_zero _)⟩
 |N+1=>⟨Ah6 (oz N)⟩
theorem Ab5 (l:List LT):l.map (Cl 0)=l:=by
 have:∀w:LT,Cl 0 w=w:=λw=>by
  cases w with
  |mk k s n a c ks=>show LT.mk k s n a c (ks.map (· +0))=_;simp
 rw[show Cl 0=id from funext this,List.map_id]
def N6 (a:PT) (b:Nat) (c:List LT) (d:Nat):=List.getD (Fc (List.length (CA [] a b)) (Bs (CA [] a b))++List.map (Cl (↑(List.length (CA [] a b)):Int)) c) d LT.none
def I8 (a:PT) (b:Nat):=List.length (CA [] a b)
def PH (a:PT) (b:Nat) (c:Nat):=List.getD (CA [] a b) c LT.none
def Rt (a:PT) (b:Nat):=List.getD (CA [] a b) 0 LT.none
theorem Ak2:∀(N:Nat),Nx N->∀(x:PT),Nat.le (sz x) 1000000->Nat.le (sz x) N->(BF/\BF/\BF/\True)/\(∃(J:Nat),Nat.le J (Dw x)/\Aa/\(J=0/\(Fg J)/\Ay/\Ol/\(Aa/\Ab (Dw x)/\Au λ(i:Nat)=>AM i (Dw x)->((UX x i)/\Ab (PT.text (Lx x i))/\(UY x i)/\(UL x i)/\(UZ x i)/\True/\(Aa/\Ab (Nb x i)/\Au λ(C:Nat)=>AM C (Nb x i)->AH [(15,11),(0,0)] (Nc x i C) (Nc x i C))/\True)/\True)/\(Uz x)/\True)/\(Aa/\Aa/\Aa/\6=I8 x J*6/\(((((True/\Aa/\PT.kind x=LT.kind (Rt x J))/\PT.text x=LT.text (Rt x J))/\Aa/\PT.num x=LT.n (Rt x J))/\Aa/\PT.line x=LT.line (Rt x J))/\Aa/\PT.Ag x=LT.Ag (Rt x J))/\List.length (LT.kids (Rt x J))=0)/\(Aa/\True)/\(Aa/\Aa/\Aa/\Aa/\True/\Ab (some 11)/\Aa/\1=I8 x J/\Aa)/\True)/\∀(B:Nat),Nat.le B (Dw x)->Ad (HL B (Int.ofNat (Dw x))) (Ap (GJ B (Dw x)) (Ap (bif bif Nat.ble (B*1) (List.length (Eb [] x B))then true else false then decide (B+1<=9223372036854775807/\(B+1)*8<=140737488355328)else false) (Yb N (I8 x B) (I8 x B*6) (Bs (CA [] x B)) (UB x B)/\∀(y:List LT),y=flat (M6 (UB x B))->DH B (∃(E:Nat),Nat.le E (Dw x)/\Nat.le (Nat.succ (Dw x-E)) (Dw x-B)/\Aa/\((Ab (some 18)/\B+1=E/\Aa)/\(D6 B E)/\Ay/\Ol/\(Aa/\Ab (Dw x)/\Au λ(i:Nat)=>AM i (Dw x)->((UX x i)/\Ab (PT.text (Lx x i))/\(UY x i)/\(UL x i)/\(UZ x i)/\True/\(Aa/\Ab (Nb x i)/\Au λ(C:Nat)=>AM C (Nb x i)->AH [(15,20),(16,18),(0,0)] (Nc x i C) (Nc x i C))/\True)/\True)/\(Uz x)/\True)/\(Aa/\Aa/\Aa/\Aa/\(I8 x B+y.length)*6=I8 x E*6/\Au λ(i:Nat)=>Gz i ((I8 x B+y.length)*6)->(Aa/\LT.kind (N6 x B y i)=LT.kind (PH x E i))/\LT.text (N6 x B y i)=LT.text (PH x E i)/\(Aa/\LT.n (N6 x B y i)=LT.n (PH x E i))/\(Aa/\LT.line (N6 x B y i)=LT.line (PH x E i))/\(Aa/\LT.Ag (N6 x B y i)=LT.Ag (PH x E i))/\(Aa/\List.length (LT.kids (N6 x B y i))=List.length (LT.kids (PH x E i))/\Au λ(C:Nat)=>AM C (List.length (LT.kids (N6 x B y i)))->(Aa/\List.getD (LT.kids (N6 x B y i)) C (0:Int)=List.getD (LT.kids (PH x E i)) C (0:Int))/\True)/\True)/\(Aa/\Aa/\Aa/\Aa/\(B+1)*1=List.length (Eb [] x E)/\Au λ(i:Nat)=>B8 i ((B+1)*1)->AH [(15,20),(16,18),(0,0)] (rI (Eb [] x E) i) (B0 B (rI (Eb [] x B)) (λ(aa:Nat)=>[AV.int .i64 (Int.ofNat (I8 x B))]) i))/\(Aa/\Aa/\Aa/\Aa/\True/\Ab (some 20)/\I8 x B+y.length=I8 x E/\Aa)/\True)))) (Ap (bif Nat.ble (B*1) (List.length (Eb [] x B))then Ds 1 B (rI (Eb [] x B))else false) (eV B (Ap (Bn (0:Int) (I8 x B)) (Ap (bif Nat.ble (5+List.length [AV.vec 1 B (rI (Eb [] x B))]) (List.length (Bs (CA [] x B) 0))then Nat.ble (5+List.length [AV.vec 1 B (rI (Eb [] x B))]) (I8 x B*6)else false) (Aa/\(True/\True)/\(Aa/\Aa/\Aa/\Aa/\True/\Ab (some 15)/\I8 x B=Ic x/\Aa)/\(Aa/\Aa/\Aa/\Aa/\I8 x B*6=Ic x*6/\Au λ(i:Nat)=>Gz i (I8 x B*6)->AH [(1,15),(0,0)] (Bs (flat x) i) (LI (Bs (CA [] x B)) 0 5 [AV.vec 1 B (rI (Eb [] x B))] i))/\True)))))
:=by
 delta CD Ay BF AM N6 B8 Lx DH Dw D6 Gz Fg I8 Nc Ic Nb GJ PH Rt HL Ol UB Uz eV UL UX UY UZ;intro N Am x hb hz;simp only[A9];have hb:sz x<=1000000:=hb;have hz:sz x<=N:=hz;have ae:([]:List LT).length=0:=rfl;have Z:CA [] x 0=[QL x]:=by show []++(QL x::rS (Gk x) 0).map (Cl 0)=_;rw[Ab5,U0];rfl
 have hp:=Ih x;refine⟨⟨0,Nat.zero_le _,⟨rfl,rfl,⟨λi _=>⟨λj _=>Ns _ _ _⟩⟩⟩,?_⟩,λq Y=>?_⟩
 ·rw[Z];exact⟨⟨rfl,⟨⟨⟨⟨rfl,rfl⟩,rfl⟩,rfl⟩,rfl⟩,rfl⟩,rfl⟩
 have L:=bW [] x Y;refine Aj (λc=>?_) λc=>?_
 ·rw[B1]at c;have c:q<x.ks.length:=by omega
  have U:=Acj c;have S:=zY [] x c;have ab:=cQ [] x (q+1);have K:(CA [] x (q+1)).length=(CA [] x q).length+sz (x.ks.getD q EV):=by rw[S,List.length_append,List.length_map,LU]
  have W:=cQ [] x q;have ad:x.ks.length<=sz x:=by
   have:=Kx x.ks;cases x with
   |mk k s n a c ks=>rw[P5];show ks.length<=_;have:ks.length<=CS ks:=this;omega
  refine An (BJ.2 ⟨by omega,by omega⟩) (An ?_ ⟨xT (by omega) (by omega),λy hy=>An (Be.2 (by omega)) ⟨q+1,c,by omega,⟨rfl,rfl,⟨λi _=>⟨λj _=>Ns _ _ _⟩⟩⟩,⟨?_,?_⟩,⟨(bW [] x c).symm,Abm L.symm (yr [] x c)⟩,?_⟩⟩)
  ·rw[Bool.and_eq_true,Nat.ble_eq,L];exact⟨Nat.le_refl _,decide_eq_true (by omega)⟩
  ·rw[Lo]at hy;rw[K,hy,LU]
  ·rw[Lo]at hy;exact Abt (by rw[S,hy,z1])
  ·rw[Lo]at hy;rw[K,hy,LU]
 ·rw[Cg]at c;have R:q=x.ks.length:=by omega
  subst R;have O:=oS [] x;have h0:([]:List LT).length=0:=rfl;rw[h0,Nat.zero_add]at O;have M:=nH x;have V:CA [] x x.ks.length=QL x::rS (Gk x) x.ks.length:=by show []++(QL x::rS (Gk x) x.ks.length).map (Cl 0)=_;rw[Ab5];rfl
  have e3:Eb [] x x.ks.length=kS (Gk x) x.ks.length:=by show(kS (Gk x) x.ks.length).map (· +(0:Int))=_;simp
  refine An (by rw[Bool.and_eq_true,Nat.ble_eq,L];exact⟨Nat.le_refl _,xm _ _⟩) (An (BJ.2 ⟨by omega,by omega⟩) (An ?_ ⟨by rw[O,LU],by rw[O,LU],⟨λi hi=>?_⟩⟩))
  ·rw[Bool.and_eq_true,Nat.ble_eq,Nat.ble_eq,O];refine⟨Nat.le_refl _,?_⟩;show 5+1<=_;omega
  ·cases i with
   |zero=>show AH _ ((flat x).getD 0 LT.none).row (Mp ((CA [] x x.ks.length).getD 0 LT.none).row 5 _);rw[M,V,e3];have U:(kS (Gk x) x.ks.length).length=x.ks.length:=bV (by rw[Vs];exact Nat.le_refl _);show AH _ [AV.int .i64 x.kind,.bs x.text,.int .i64 x.num,.int .i64 x.line,.int .i64 x.Ag,.vec 1 (kS (Gk x) x.ks.length).length (rI (kS (Gk x) x.ks.length))] [AV.int .i64 x.kind,.bs x.text,.int .i64 x.num,.int .i64 x.line,.int .i64 x.Ag,.vec 1 x.ks.length (rI (kS (Gk x) x.ks.length))];rw[U];exact⟨⟨rfl,rfl⟩,rfl,⟨rfl,rfl⟩,⟨rfl,rfl⟩,⟨rfl,rfl⟩,⟨rfl,rfl,⟨λi _=>R4 _ _ i⟩⟩,trivial⟩
   |succ i=>show AH _ ((flat x).getD (i+1) LT.none).row ((CA [] x x.ks.length).getD (i+1) LT.none).row;rw[M,V];exact KZ _ _
theorem Ak1:∀(N:Nat) (Am:Nx N) (x:PT),sz x<=1000000->sz x<=N->(AG (Zz N Am [] x) 60).call 29 [.ptr 0 0,Xd x] (AU (A0 [Vf] 0)) 1 (Cz Tryz.prog 0 0 1 (ot x)):=Eq.mpr (by kernel_rfl) Ak2
theorem Ah5 (x:PT) (ids:List Nat) (E:sz x<=1000000):AD Tryz.prog 29 ((xy 1000000).at x ids).AE:=by refine JZ _ (λp q=>by cases q) (λH _ p q=>by cases q) (λy=>rfl) (λy o B=>HC (p:=λo=>Hf o=false) rfl o B) (λy q=>?_) λy q=>⟨(AG (Zz 1000000 (oz _) [] y) 60).call,Is AW Bc 60,Ak1 1000000 (oz _) y q.1 q.2⟩;exact⟨λa C=>(by cases C),rfl,Nr (vV _ _) (vT _ _)⟩
theorem Ah4:AD Tryz.prog 29 la:=by
 intro H nx args hc B;unfold la at B;split at B
 case h_2=>cases B
 rename_i id a;obtain⟨_,K,B⟩:=Ae.1 B;obtain⟨hb,B⟩:=OU B;injection B with B;subst B;intro p v up nx' y E F ρ M rel;obtain⟨⟨⟨x,rfl⟩,C⟩,y⟩:=LY y;rw[Lo]at C y;have L:=AoK K;have key:hOut (FM 0 [id] nx (ot x))=some (p,v,up,nx'):=by refine Eq.trans ?_ y;show hOut (EY (nx+1) λn=>(λJ=>Cv.ret (DD (BI 0 J) 4 (.AL [])) (J.zip ([IJ 1 (flat x).length,HD (Bs (flat x)) (flat x).length].map (Cy (BI 0 J)))) n) ([id]++List.range' nx 1))=_;rw[FL];rfl
 refine NO (S:=xy 1000000) (x:=x) (ids:=[id]) (os:=[Vf]) (args':=[.ptr id 0,Bv x]) (Ah5 x [id] C) ⟨C,C⟩ rfl rfl rfl ?_ rfl ?_ ⟨⟨rfl,rfl⟩,AcZ _ x,trivial⟩ ⟨?_,trivial⟩ key ?_ rel λvs h=>h
 ·show(List.all [id] λj=>Nat.blt j nx)=true;simp only[List.all_cons,List.all_nil,hb,Bool.and_true]
 ·exactλq K=>by rw[List.mem_singleton.1 K];exact L
 ·show(match(H.set id Vf).get id with
   |none=>False
   |some o=>Ed [(0,id)] Vf o)
  rw[Tr.F7];exact⟨rfl,rfl,rfl,trivial,trivial⟩
 ·obtain⟨_,_,rfl,_⟩:=Tv (show hOut (.ret (.AL []) [(id,IJ nx (flat x).length),(nx,HD (Bs (flat x)) (flat x).length)] (nx+1))=some (p,v,up,nx')from y);exactλi hi=>⟨_,List.mem_cons_self ..,(List.mem_singleton.1 hi).symm⟩
end Go.Proofs.YtlmmbanfhjaioaaGreatDoor
end
end
