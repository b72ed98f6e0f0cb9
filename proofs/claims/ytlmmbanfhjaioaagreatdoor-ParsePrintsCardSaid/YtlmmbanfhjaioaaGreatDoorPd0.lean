/- Laid by program out of its parts: PdA, PdB, PdC, PdD, PdE. -/
import Derived.Test.YtlmmbanfhjaioaaGreatDoorPb5
import Derived.Test.YtlmmbanfhjaioaaGreatDoorMj
noncomputable section
open List(getD)
open Int(toNat)
set_option linter.unusedVariables false
set_option linter.unusedSimpArgs false
section
set_option maxRecDepth 100000
open Go Go.Ev
namespace Go.Proofs.YtlmmbanfhjaioaaGreatDoor
def J0:Ctx:={P:=Tryz.prog,tb:=[],lp:=λ_ _=>none,cut:=λ_ _=>none}
def tree (L:Ak):AV:=.agg [.vec 6 L.length (A8 L)]
def FP (l:Aj):LT:=match l with
 | [.int _ k,.bs t,.int _ n,.int _ a,.int _ b,.vec _ m f]=>⟨k,t,n,a,b,Np m f⟩
 |_=>LT.none
def KZ (n:Nat) (f:Nat->Aj):Ak:=(List.range n).map λi=>FP (f i)
def B0 (k:Int):Bool:=decide (26<=k/\k<=36)
def mh (k:Int):Bool:=decide (13<=k/\k<=25)
def L1 (k:Int):Bool:=decide (k=2\/k=3\/k=6\/k=7\/k=8\/k=10\/k=11)
def K7 (k:Int):Bool:=decide (k=29\/k=30\/k=31)
def C7 (k:Int) (s:Ac):Int:=if B0 k then(if k=32 then(if s=[60]\/s=[61,61]then 1 else if s=[43]\/s=[45]then 2 else 3)else if k=34\/k=35 then 4 else 5)else 0
def Fo (k:Int) (s:Ac) (i:Int):Int:=if k=32 then(if s=[60]\/s=[61,61]then 2 else if s=[43]\/s=[45]then 2+i else 3+i)else if k=34\/k=35 then 4 else if k=30 then 5 else if k=31 then 5-5*i else 0
def gX:Tr Ae->Aj->Option Ct:=λ_ args=>match args with
 | [.agg [.int .i64 k,.bs s,.int .i64 n,.int .i64 a,.int .i64 b,.vec 1 m f]]=>some (.Be (∃S:AP,m=S.length/\f=rI S) (.ret (.int .i64 (C7 k s))))
 |_=>none
def gY:Tr Ae->Aj->Option Ct:=λ_ args=>match args with
 | [.agg [.int .i64 k,.bs s,.int .i64 n,.int .i64 a,.int .i64 b,.vec 1 m f]]=>some (.Be (∃S:AP,m=S.length/\f=rI S) (.br (AW (B0 k)) (.br (AW (decide (k=32))) (.br (AW (decide (s=[60]\/s=[61,61]))) (.ret (.int .i64 1)) (.br (AW (decide (s=[43]\/s=[45]))) (.ret (.int .i64 2)) (.ret (.int .i64 3))))
   (.br (AW (decide (k=34\/k=35))) (.ret (.int .i64 4)) (.ret (.int .i64 5)))) (.ret (.int .i64 0))))
 |_=>none
def gq:Tr Ae->Aj->Option Ct:=λ_ args=>match args with
 | [.agg [.int .i64 k,.bs s,.int .i64 n,.int .i64 a,.int .i64 b,.vec 1 m f],.int .i64 i]=>some (.Be ((∃S:AP,m=S.length/\f=rI S)/\0<=i/\i<=100000000) (.ret (.int .i64 (AU (Fo k s i)))))
 |_=>none
def gz:Tr Ae->Aj->Option Ct:=λ_ args=>match args with
 | [.int .i64 k]=>some (.Be True (.ret (.bool (AW (B0 k)))))
 |_=>none
theorem AbU {P:Program} {g:FuncId} {AJ y:Tr Ae->Aj->Option Ct} (h:Ck P g AJ) (K:∀H args ct,y H args=some ct->∃q,AJ H args=some q/\∀p v,IY ct=some (p,v)->IY q=some (p,v)):Ck P g y:=by intro H args ct C p v B;obtain⟨q,J,E⟩:=K H args ct C;exact h H _ q J p v (E p v B)
theorem Alq (S:AP) (i:Nat):Ba [] (rI S i) (rI S i):=cg [] S i
theorem cd (x:LT):Ba [] x.row x.row:=OD [] x
theorem Nz (L:Ak):AZ [] (tree L) (tree L):=⟨⟨rfl,rfl,⟨λi _=>cd _⟩⟩,trivial⟩
theorem NM (x:LT):FP x.row=x:=by cases x;simp only[LT.row,FP,Z4]
theorem K0 (L:Ak):KZ L.length (A8 L)=L:=by
 apply List.ext_getElem
 ·simp[KZ]
 ·intro i y q;simp[KZ,A8,NM,B2,CC q]
theorem nt {b:Bool} (h:(!b)=false):b=true:=by simpa using h
theorem nf {b:Bool} (h:(!b)=true):b=false:=by simpa using h
def Mi (a:LT):=C7 a.kind a.text
theorem AhD:∀(x:LT),Ah (!AQ x.kind (26:Int)) (Ah (!!AQ (36:Int) x.kind) (Aa/\(0:Int)=Mi x) (Ah (An x.kind (32:Int)) (Ah (decide (x.text=[(60:UInt8)])) (Aa/\(1:Int)=Mi x) (Ah (decide (x.text=[(61:UInt8),61])) (Aa/\(1:Int)=Mi x) (Ah (decide (x.text=[(43:UInt8)])) (Aa/\(2:Int)=Mi x) (Ah (decide (x.text=[(45:UInt8)])) (Aa/\(2:Int)=Mi x) (Aa/\(3:Int)=Mi x))))) (Ah (An x.kind (34:Int)) (Aa/\(4:Int)=Mi x) (Ah (An x.kind (35:Int)) (Aa/\(4:Int)=Mi x) (Aa/\(5:Int)=Mi x))))) (Aa/\(0:Int)=Mi x)
:=by
 delta Mi;intro x;simp only[Cd];simp only[FN,EM,DU,EH,EG,BV,Kt];unfold C7 B0;simp only[BV]
 repeat' first
  |exact trivial
  |(refine And.intro ?_ ?_)
  |(intro h;simp only[h,if_true,if_false];done)
  |intro h
 all_goals grind
theorem AhC:∀(x:LT),(A4 J0 60).call 72 [.agg x.row] .leaf 0 (Cb Tryz.prog false (.int .i64 (C7 x.kind x.text))):=Eq.mpr (by kernel_rfl) AhD
theorem wF:Ck Tryz.prog 72 gX:=by
 refine Fh (gl:=[]) (ng:=0) Bq λH args ct q=>?_;unfold gX at q;split at q
 ·rename_i k s n a b m f;injection q with q;subst q;refine⟨Bq,_,_,rfl,?_⟩;rintro⟨S,rfl,rfl⟩;exact⟨⟨cd ⟨k,s,n,a,b,S⟩,trivial⟩,J0,60,rfl,Bu,B5,AhC ⟨k,s,n,a,b,S⟩⟩
 ·cases q
theorem Aff:Ck Tryz.prog 72 gY:=by
 refine AbU wF λH args ct q=>?_;unfold gY at q;split at q
 ·rename_i k s n a b m f;injection q with q;subst q;refine⟨_,rfl,λp v h=>?_⟩;have h':(open Classical in if(∃S:AP,m=S.length/\f=rI S)then IY (Ct.br (AW (B0 k)) (.br (AW (decide (k=32))) (.br (AW (decide (s=[60]\/s=[61,61]))) (.ret (.int .i64 1)) (.br (AW (decide (s=[43]\/s=[45]))) (.ret (.int .i64 2)) (.ret (.int .i64 3))))
   (.br (AW (decide (k=34\/k=35))) (.ret (.int .i64 4)) (.ret (.int .i64 5)))) (.ret (.int .i64 0)))else none)=some (p,v):=h
  split at h'
  case isFalse=>cases h'
  rename_i C;refine(Am C).trans ?_;rw[<-h'];show some (false,AV.int .i64 (C7 k s))=cond (AW (B0 k)) (cond (AW (decide (k=32))) (cond (AW (decide (s=[60]\/s=[61,61]))) (some (false,AV.int .i64 1)) (cond (AW (decide (s=[43]\/s=[45]))) (some (false,AV.int .i64 2)) (some (false,AV.int .i64 3)))) (cond (AW (decide (k=34\/k=35))) (some (false,AV.int .i64 4)) (some (false,AV.int .i64 5)))) (some (false,AV.int .i64 0));simp only[Ea];unfold C7;cases B0 k with
  |false=>rfl
  |true=>
   by_cases B:k=32
   ·by_cases y:s=[60]\/s=[61,61]
    ·simp[B,y]
    ·by_cases E:s=[43]\/s=[45]<;>simp[B,y,E]
   ·by_cases y:k=34\/k=35<;>simp[B,y]
 ·cases q
@[reducible] def Xi:LT->Prop:=λ(x:LT)=>(True/\Af (AV.agg [AV.int .i64 x.kind,AV.bs x.text,AV.int .i64 x.n,AV.int .i64 x.line,AV.int .i64 x.Ao,AV.vec 1 x.kids.length (rI x.kids)])/\True/\True/\True)/\True
@[reducible] def dm:LT->Prop:=λ(x:LT)=>Xi x/\((True/\True/\Af (AV.int .i64 (2:Int))/\True/\True)/\True)/\I8/\True
@[reducible] def dp:LT->Prop:=λ(x:LT)=>Xi x/\((True/\True/\Af (BX)/\True/\True)/\True)/\I8/\True
@[reducible] def dq:LT->Prop:=λ(x:LT)=>Xi x/\((True/\True/\Af (AV.int .i64 (3:Int))/\True/\True)/\True)/\I8/\True
def JE (a:LT):=Fo a.kind a.text
@[reducible] def du:LT->Int->Prop:=λ(x:LT) (i:Int)=>dm x/\Aa/\(2:Int)=JE x i
@[reducible] def dv:LT->Int->Prop:=λ(x:LT) (i:Int)=>dq x/\Aa/\(3:Int)=JE x i
@[reducible] def dw:LT->Int->Prop:=λ(x:LT) (i:Int)=>dp x/\Aa/\(0:Int)=JE x i
@[reducible] def dy:LT->Int->Prop:=λ(x:LT) (i:Int)=>dp x/\Aa/\(0:Int)+i=JE x i
@[reducible] def dz:LT->Int->Prop:=λ(x:LT) (i:Int)=>dq x/\Aa/\(3:Int)+i=JE x i
@[reducible] def eB:LT->Int->Prop:=λ(x:LT) (i:Int)=>dm x/\Aa/\(2:Int)+i=JE x i
def Tz (a:LT):=Ah (AW (decide (a.text=[(60:UInt8)]\/a.text=[(61:UInt8),61])))
def Pk (a:LT):=(∃(q:AP),a.kids.length=q.length/\rI a.kids=rI q)
def TE (a:LT):=Ah (AW (decide (a.text=[(43:UInt8)]\/a.text=[(45:UInt8)])))
def TF (a:LT):=Al (AW (decide (a.kind=(34:Int)\/a.kind=(35:Int)))) False
def TU (a:LT):=Ah (AW (decide (a.kind=(32:Int))))
def T9 (a:LT):=Ah (AW (B0 a.kind))
@[reducible] def dn:LT->Int->Prop:=λ(x:LT) (i:Int)=>(Pk x)/\T9 x (TU x (Tz x (du x i) (TE x (Al (BJ .i64 ((2:Int)+i)) (eB x i)) (Al (BJ .i64 ((2:Int)+i)) (eB x i)))) (TF x)) (du x i)
theorem Ait:∀(x:LT) (i:Int),Int.NonNeg (i-0)->Int.NonNeg ((100000000:Int)-i)->Ah (An x.kind (32:Int)) ((Pk x)/\T9 x (TU x (Tz x (dn x i) (TE x (dn x i) ((Pk x)/\T9 x (TU x (Tz x (dv x i) (TE x (Al (BJ .i64 ((3:Int)+i)) (dz x i)) (Al (BJ .i64 ((3:Int)+i)) (dz x i)))) (TF x)) (dv x i)))) (TF x)) ((Pk x)/\T9 x (TU x (Tz x (dw x i) (TE x (Al (BJ .i64 ((0:Int)+i)) (dy x i)) (Al (BJ .i64 ((0:Int)+i)) (dy x i)))) (TF x)) (dw x i))) (Ah (An x.kind (34:Int)) (Aa/\(4:Int)=JE x i) (Ah (An x.kind (35:Int)) (Aa/\(4:Int)=JE x i) (Ah (An x.kind (30:Int)) (Aa/\(5:Int)=JE x i) (Ah (An x.kind (31:Int)) (Al (BJ .i64 ((5:Int)*i)) (Al (BJ .i64 ((5:Int)-5*i)) (Aa/\(5:Int)-5*i=JE x i))) (Aa/\(0:Int)=JE x i)))))
:=by
 delta Tz Pk TE TF JE TU T9;intro x i B y;have B:0<=i:=B;have y:i<=100000000:=y;have q:∃S:AP,x.kids.length=S.length/\rI x.kids=rI S:=⟨_,rfl,rfl⟩;simp only[Cd,Xi,dm,dp,dq,du,dv,dw,dy,dz,eB,dn,I8,BX,JE,Tz,Pk,TE,TF,TU,T9];simp only[q,true_and,FN,EE,EM,DU,CJ,EH,EG,BV,Kt];unfold Fo B0;simp only[BV,Kt];generalize x.kind=k;generalize x.text=s;clear q
 repeat' first
  |exact trivial
  |(refine And.intro ?_ ?_)
  |intro h
 all_goals grind
theorem Ais:∀(x:LT) (i:Int),0<=i->i<=100000000->(A4 (Eb [(72,gY)]) 60).call 73 [.agg x.row,.int .i64 i] .leaf 0 (Cb Tryz.prog false (.int .i64 (Fo x.kind x.text i))):=Eq.mpr (by kernel_rfl) Ait
theorem Ai1:∀(k:Int),Ah (!AQ k (26:Int)) ((!AQ (36:Int) k)=B0 k) (false=B0 k)
:=by
 intro k;simp only[FN,EM,DU,EH,EG,BV,Kt];unfold B0
 grind
theorem Ai0:∀(k:Int),(A4 J0 60).call 43 [.int .i64 k] .leaf 0 (Cb Tryz.prog false (.bool (B0 k))):=Eq.mpr (by kernel_rfl) Ai1
theorem AfC:Ck Tryz.prog 73 gq:=by
 refine Fh (gl:=[]) (ng:=0) Bq λH args ct q=>?_;unfold gq at q;split at q
 ·rename_i k s n a b m f i;injection q with q;subst q;refine⟨Bq,_,_,rfl,?_⟩;rintro⟨⟨S,rfl,rfl⟩,B,y⟩;exact⟨⟨cd ⟨k,s,n,a,b,S⟩,⟨rfl,rfl⟩,trivial⟩,_,60,rfl,Bu,Cj Aff B5,by rw[Dr];exact Ais ⟨k,s,n,a,b,S⟩ i B y⟩
 ·cases q
theorem AfS:Ck Tryz.prog 43 gz:=by
 refine Fh (gl:=[]) (ng:=0) Bq λH args ct q=>?_;unfold gz at q;split at q
 ·rename_i k;injection q with q;subst q;exact⟨Bq,_,_,rfl,λ_=>⟨⟨⟨rfl,rfl⟩,trivial⟩,J0,60,rfl,Bu,B5,by rw[Ea];exact Ai0 k⟩⟩
 ·cases q
def Kx (i:Nat) (b:UInt8):Bool:=HV (b.toNat:Int)||(!decide (i=0)&&Bp (b.toNat:Int))
def G9 (l:Ac):Bool:=(List.range l.length).all (λi=>Kx i (l.getD i 0))&&(decide (l≠[])&&(decide (l.length<=32)&& !DC l))
structure NR (l:List UInt8) (k:Nat):Prop where
 le:k<=l.length
 all:∀j,j<k->Kx j (l.getD j 0)=true
def oU (l:Ac):CX:=thin Nat [0,2] (λk=>[(3,.int .i64 k)]) (λ_ k=>NR l k) λk=>l.length-k
def hZ:Tr Ae->Aj->Option Ct:=λ_ args=>match args with
 | [.bs s]=>some (.Be True (.ret (.bool (AW (DC s)))))
 |_=>none
def Yg:Tr Ae->Aj->Option Ct:=λ_ args=>match args with
 | [.bs l]=>some (.Be (l.length<=1000000) (.ret (.bool (AW (G9 l)))))
 |_=>none
def mz:D9:=[(31,KL HV),(32,KL Bp),(33,hZ)]
def Jg (s:Ac):Bool:=decide (s=[105,110,116]\/s=[102,110]\/s=[116,111,107]\/s=[104,97,110,100]\/s=[97,114,114])||G9 s
def QK (s:Ac):Bool:=decide (s=[43]\/s=[45]\/s=[42]\/s=[60]\/s=[61,61])
def Fv (k:Int) (s:Ac):Bool:=if k=5 then Jg s else if k=32 then QK s else if k=2\/k=3\/k=4\/k=6\/k=7\/k=8\/k=10\/k=13\/k=19\/k=21\/k=22\/k=29\/k=30\/k=33 then G9 s else decide (s=[])
def E2 (k n:Int):Bool:=if k=9 then decide (0<=n/\n<=3)else if k=10 then decide (n=0\/n=1)else if k=19 then decide (-1<=n/\n<=2147483647)else if k=26 then decide (0<=n/\n<=2147483647)else decide (n=0)
def hO:Tr Ae->Aj->Option Ct:=λ_ args=>match args with
 | [.int .i64 k,.bs s]=>some (.Be (s.length<=1000000) (.ret (.bool (AW (Fv k s)))))
 |_=>none
def gr:Tr Ae->Aj->Option Ct:=λ_ args=>match args with
 | [.int .i64 k,.int .i64 n]=>some (.Be True (.ret (.bool (AW (E2 k n)))))
 |_=>none
def hY:Tr Ae->Aj->Option Ct:=λ_ args=>match args with
 | [.bs s]=>some (.Be (s.length<=1000000) (.ret (.bool (AW (Jg s)))))
 |_=>none
def oN (s:Ac):Prop:=(A4 J0 200).call 33 [.bs s] .leaf 0 (Cb Tryz.prog false (.bool (DC s)))
theorem Ajv (s:Ac):oN s:=Eq.mpr (show oN s=XV s (DC s) NA by kernel_rfl) (fx s _ NA rfl)
theorem Af5:Ck Tryz.prog 33 hZ:=by
 refine Fh (gl:=[]) (ng:=0) Bq λH args ct q=>?_;unfold hZ at q;split at q
 ·rename_i l;injection q with q;subst q;exact⟨Bq,_,_,rfl,λ_=>⟨⟨rfl,trivial⟩,J0,200,rfl,Bu,B5,by rw[Ea];exact Ajv l⟩⟩
 ·cases q
theorem wN {g:FuncId} {f:Int->Bool} (h:∀z:Int,(A4 J0 40).call g [.int .u8 z] .leaf 0 (Cb Tryz.prog false (.bool (f z)))):Ck Tryz.prog g (KL f):=by
 refine NN (gl:=[]) (ng:=0) Bq λH args ct q=>?_;unfold KL at q;split at q
 ·rename_i z;injection q with q;subst q;exact⟨Bq,⟨⟨rfl,rfl⟩,trivial⟩,_,_,rfl,λ_=>⟨J0,40,rfl,Bu,B5,by rw[Ea];exact h z⟩⟩
 ·cases q
def lU (a:Int):=Ah (!AQ a (65:Int)) (Ah (!AQ (90:Int) a) (true=HV a) (An a (95:Int)=HV a)) (An a (95:Int)=HV a)
theorem Aid:∀(z:Int),Ah (!AQ z (97:Int)) (Ah (!AQ (122:Int) z) (true=HV z) (lU z)) (lU z)
:=by
 delta lU;intro z;simp only[FN,EM,DU,EH,EG,BV,Kt];unfold HV
 grind
theorem Aic:∀z:Int,(A4 J0 40).call 31 [.int .u8 z] .leaf 0 (Cb Tryz.prog false (.bool (HV z))):=Eq.mpr (by kernel_rfl) Aid
theorem AhP:∀(z:Int),Ah (!AQ z (48:Int)) ((!AQ (57:Int) z)=Bp z) (false=Bp z)
:=by
 intro z;simp only[FN,EM,DU,EH,EG,BV,Kt];unfold Bp
 grind
theorem AhO:∀z:Int,(A4 J0 40).call 32 [.int .u8 z] .leaf 0 (Cb Tryz.prog false (.bool (Bp z))):=Eq.mpr (by kernel_rfl) AhP
theorem AkS:EY Tryz.prog mz:=Cj (wN Aic) (Cj (wN AhO) (Cj Af5 B5))
theorem AeX {l:Ac} {k:Nat} (h:NR l k) (y:k<l.length) (B:Kx k (l.getD k 0)=true):NR l (k+1):=⟨y,λj C=>by
  rcases MG j k with q|q
  ·exact h.all j q
  ·rw[show j=k by omega];exact B⟩
theorem vg {l:Ac} {k:Nat} (h:k<l.length) (q:Kx k (l.getD k 0)=false):G9 l=false:=by
 have:((List.range l.length).all λi=>Kx i (l.getD i 0))=false:=by rw[List.all_eq_false];exact⟨k,List.mem_range.2 h,by rw[q];simp⟩
 unfold G9;rw[this];rfl
theorem AeT {l:Ac} (h:NR l l.length):G9 l=(decide (l≠[])&&(decide (l.length<=32)&& !DC l)):=by
 have:((List.range l.length).all λi=>Kx i (l.getD i 0))=true:=by rw[List.all_eq_true];intro i hi;exact h.all i (List.mem_range.1 hi)
 unfold G9;rw[this];rfl
@[reducible] def eC:Ac->Nat->Nat->Prop:=λ(l:Ac) (a q:Nat)=>NR l q/\Nat.le (Nat.succ (l.length-q)) (l.length-a)/\Aa/\((Fq a q)/\l=l/\Af false/\True)/\True
theorem Aiw:∀(l:Ac),Nm l->(∃(R:Nat),NR l R/\Aa/\((Gr R)/\l=l/\Af false/\True)/\True)/\∀(x:Nat),NR l x->Ah (AQ (↑x:Int) (Int.ofNat l.length)) (Al (A9 (↑x:Int) l.length) (True/\Ah (!AW (HV (↑(UInt8.toNat (getD l (ES x) (0:UInt8))):Int))) (Ah (An (↑x:Int) (0:Int)) (false=G9 l) (Al (A9 (↑x:Int) l.length) (True/\Ah (!AW (Bp (↑(UInt8.toNat (getD l (ES x) (0:UInt8))):Int))) (false=G9 l) (EU x (∃(q:Nat),eC l x q))))) (EU x (∃(q:Nat),eC l x q)))) (Ah (!decide (l=[])) (Ah (!AQ (32:Int) (Int.ofNat l.length)) (True/\(!AW (DC l))=G9 l) (false=G9 l)) (false=G9 l))
:=by
 delta ES EU Gr Nm;intro l S;have S:l.length<=1000000:=S;simp only[Cd,eC,Fq];refine⟨⟨0,⟨CL _,λj Y=>by omega⟩,by trivial⟩,λx K=>Aw (λh=>?_) λh=>?_⟩
 ·rw[CE]at h;have E:x<l.length:=by omega
  have U:A9 (x:Int) l.length=true:=Cf.2 (by omega);have V:BJ .i64 ((x:Int)+1)=true:=CJ.2 (by omega);have y:Kx x (l.getD x 0)=true->∃q,NR l q/\l.length-q<l.length-x/\(q:Int)=(x:Int)+1:=λh=>⟨x+1,AeX K E h,by omega,by omega⟩;refine At U (Aw (λB=>Aw (λM=>?_) λM=>?_) λB=>?_)
  ·rw[C0]at M;have C:x=0:=by omega
   exact(vg E (by unfold Kx;rw[nf B,Bi C];rfl)).symm
  ·rw[Dy]at M;have C:¬x=0:=by omega
   refine At U (Aw (λL=>?_) λL=>?_)
   ·exact(vg E (by unfold Kx;rw[nf B,nf L];simp)).symm
   ·refine At V ?_;obtain⟨q,O,g2,g3⟩:=y (by unfold Kx;rw[nt L,Ej C];simp);exact⟨q,O,g2,by rw[g3]⟩
  ·refine At V ?_;obtain⟨q,O,g2,g3⟩:=y (by unfold Kx;rw[nt B];rfl);exact⟨q,O,g2,by rw[g3]⟩
 ·rw[CF]at h;have W:=K.le;obtain rfl:x=l.length:=by omega
  rw[AeT K];refine Aw (λJ=>Aw (λB=>?_) λB=>?_) λJ=>?_
  ·rw[EH,CF]at B;have J:=Gj (nf J);rw[Bi J,Bi (show l.length<=32 by omega)];rfl
  ·rw[EG,CE]at B;rw[Ej (show¬l.length<=32 by omega)];simp
  ·rw[Ej (show¬l≠[]fromλh=>h (Bt (nt J)))];rfl
theorem Aiv:∀(l:Ac),l.length<=1000000->(A4 (IZ mz 71 2 (oU l)) 60).call 71 [.bs l] .leaf 0 (Cb Tryz.prog false (.bool (G9 l))):=Eq.mpr (by kernel_rfl) Aiw
theorem wJ:Ck Tryz.prog 71 Yg:=by
 refine Fh (gl:=[]) (ng:=0) Bq λH args ct q=>?_;unfold Yg at q;split at q
 ·rename_i l;injection q with q;subst q;exact⟨Bq,_,_,rfl,λy=>⟨⟨rfl,trivial⟩,IZ mz 71 2 (oU l),60,rfl,Bu,AkS,by rw[Ea];exact Aiv l y⟩⟩
 ·cases q
theorem Ajm:∀(s:Ac),Nm s->Ah (decide (s=[(105:UInt8),110,116])) (true=Jg s) (Ah (decide (s=[(102:UInt8),110])) (true=Jg s) (Ah (decide (s=[(116:UInt8),111,107])) (true=Jg s) (Ah (decide (s=[(104:UInt8),97,110,100])) (true=Jg s) (Ah (decide (s=[(97:UInt8),114,114])) (true=Jg s) (Nm s/\AW (G9 s)=Jg s)))))
:=by
 delta Nm;intro s q;have q:s.length<=1000000:=q;simp only[Cd];simp only[q,true_and,FN,EH,EG,BV,Kt];unfold Jg
 grind
theorem Ajl:∀(s:Ac),s.length<=1000000->(A4 (Eb [(71,Yg)]) 60).call 69 [.bs s] .leaf 0 (Cb Tryz.prog false (.bool (Jg s))):=Eq.mpr (by kernel_rfl) Ajm
theorem Af0:Ck Tryz.prog 69 hY:=by
 refine Fh (gl:=[]) (ng:=0) Bq λH args ct q=>?_;unfold hY at q;split at q
 ·rename_i l;injection q with q;subst q;exact⟨Bq,_,_,rfl,λy=>⟨⟨rfl,trivial⟩,_,60,rfl,Bu,Cj wJ B5,by rw[Ea];exact Ajl l y⟩⟩
 ·cases q
def Jz (a:Ac) (b:Int):=(Nat.le a.length 1000000/\AW (G9 a)=Fv b a)
theorem Ai4:∀(k:Int) (s:Ac),Nm s->Ah (An k (5:Int)) (Nm s/\AW (Jg s)=Fv k s) (Ah (An k (32:Int)) (Ah (decide (s=[(43:UInt8)])) (true=Fv k s) (Ah (decide (s=[(45:UInt8)])) (true=Fv k s) (Ah (decide (s=[(42:UInt8)])) (true=Fv k s) (Ah (decide (s=[(60:UInt8)])) (true=Fv k s) (decide (s=[(61:UInt8),61])=Fv k s))))) (Ah (An k (2:Int)) (Jz s k) (Ah (An k (3:Int)) (Jz s k) (Ah (An k (4:Int)) (Jz s k) (Ah (An k (6:Int)) (Jz s k) (Ah (An k (7:Int)) (Jz s k) (Ah (An k (8:Int)) (Jz s k) (Ah (An k (10:Int)) (Jz s k) (Ah (An k (13:Int)) (Jz s k) (Ah (An k (19:Int)) (Jz s k) (Ah (An k (21:Int)) (Jz s k) (Ah (An k (22:Int)) (Jz s k) (Ah (An k (29:Int)) (Jz s k) (Ah (An k (30:Int)) (Jz s k) (Ah (An k (33:Int)) (Jz s k) (decide (s=[])=Fv k s))))))))))))))))
:=by
 delta Jz Nm;intro k s q;have q:s.length<=1000000:=q;simp only[Cd];simp only[q,true_and,FN,DU,EH,EG,BV,Kt];unfold Fv QK
 grind
theorem runText:∀(k:Int) (s:Ac),s.length<=1000000->(A4 (Eb [(71,Yg),(69,hY)]) 60).call 38 [.int .i64 k,.bs s] .leaf 0 (Cb Tryz.prog false (.bool (Fv k s))):=Eq.mpr (by kernel_rfl) Ai4
theorem AfU:Ck Tryz.prog 38 hO:=by
 refine Fh (gl:=[]) (ng:=0) Bq λH args ct q=>?_;unfold hO at q;split at q
 ·rename_i k l;injection q with q;subst q;exact⟨Bq,_,_,rfl,λy=>⟨⟨⟨rfl,rfl⟩,rfl,trivial⟩,_,60,rfl,Bu,Cj wJ (Cj Af0 B5),by rw[Ea];exact runText k l y⟩⟩
 ·cases q
theorem Aiz:∀(k n:Int),Ah (An k (9:Int)) (Ah (!AQ n (0:Int)) ((!AQ (3:Int) n)=E2 k n) (false=E2 k n)) (Ah (An k (10:Int)) (Ah (An n (0:Int)) (true=E2 k n) (An n (1:Int)=E2 k n)) (Ah (An k (19:Int)) (Ah (!AQ n (Int.negSucc 0)) ((!AQ (2147483647:Int) n)=E2 k n) (false=E2 k n)) (Ah (An k (26:Int)) (Ah (!AQ n (0:Int)) ((!AQ (2147483647:Int) n)=E2 k n) (false=E2 k n)) (An n (0:Int)=E2 k n))))
:=by
 intro k n;simp only[FN,DU,EM,EH,EG,BV,Kt];unfold E2
 grind
theorem Aiy:∀(k n:Int),(A4 J0 60).call 39 [.int .i64 k,.int .i64 n] .leaf 0 (Cb Tryz.prog false (.bool (E2 k n))):=Eq.mpr (by kernel_rfl) Aiz
theorem AfE:Ck Tryz.prog 39 gr:=by
 refine Fh (gl:=[]) (ng:=0) Bq λH args ct q=>?_;unfold gr at q;split at q
 ·rename_i k n;injection q with q;subst q;exact⟨Bq,_,_,rfl,λy=>⟨⟨⟨rfl,rfl⟩,⟨rfl,rfl⟩,trivial⟩,J0,60,rfl,Bu,B5,by rw[Ea];exact Aiy k n⟩⟩
 ·cases q
def Yi:Tr Ae->Aj->Option Ct:=λ_ args=>match args with
 | [.agg [.vec 6 n f],.agg [.int .i64 k,.bs s,.int .i64 z,.int .i64 a,.int .i64 b,.vec 1 m g],.int .i64 i]=>some (.Be (∃(L:Ak) (S:AP),n=L.length/\f=A8 L/\m=S.length/\g=rI S/\0<=i/\i<S.length/\0<=S.getD i.toNat 0/\S.getD i.toNat 0<L.length/\i<=100000000)
   (.ret (.bool (AW (decide (0<C7 (FP (f (KM (g i.toNat)).toNat)).kind (FP (f (KM (g i.toNat)).toNat)).text/\C7 (FP (f (KM (g i.toNat)).toNat)).kind (FP (f (KM (g i.toNat)).toNat)).text<Fo k s i))))))
 |_=>none
def Jv (L:Ak) (w:LT) (i:Nat):Bool:=decide (0<C7 (L.getD (w.kids.getD i 0).toNat LT.none).kind (L.getD (w.kids.getD i 0).toNat LT.none).text/\C7 (L.getD (w.kids.getD i 0).toNat LT.none).kind (L.getD (w.kids.getD i 0).toNat LT.none).text<Fo w.kind w.text i)
def yi:D9:=[(72,gX),(73,gq)]
def BO (k:Int):Ac:=if k=1 then [42,100]else if k=3 then [42,109]else if k=4\/k=6 then [121]else if k=7\/k=9\/k=11\/k=36 then [98]else if k=8 then [117,42,108]else if k=10 then [117,98]else if k=12 then [42,115]else if k=13 then [121,101]else if k=14 then [118,101]
 else if k=15\/k=16\/k=17\/k=18\/k=30\/k=34\/k=35 then [101]else if k=19\/k=20 then [101,63,118]else if k=23 then [101,98,98]else if k=24 then [101,98]else if k=31\/k=32 then [101,101]else []
def BQ (c:Int) (k:Int):Bool:=if c=121 then decide (k=5)else if c=98 then decide (k=12)else if c=117 then decide (k=29)else if c=101 then B0 k else if c=118 then K7 k else if c=115 then mh k else if c=100 then L1 k else if c=109 then decide (k=4)else decide (k=9)
def bX (f:Int->Bool) (l:AP):AP:=match l with
 |x::t=>if f x then t else l
 | []=>[]
def Cq:Ac->AP->Bool
 | [],l=>l.isEmpty
 | [c],l=>match l with
  |x::t=>BQ (c.toNat:Int) x&&t.isEmpty
  | []=>false
 |c::d::s,l=>if c=42 then Cq s (l.dropWhile (BQ (d.toNat:Int)))else if c=63 then Cq s (bX (BQ (d.toNat:Int)) l)else match l with
  |x::t=>BQ (c.toNat:Int) x&&Cq (d::s) t
  | []=>false
def gm:Tr Ae->Aj->Option Ct:=λ_ args=>match args with
 | [.int .i64 k]=>some (.Be True (.ret (.bs (AU (BO k)))))
 |_=>none
def gh:Tr Ae->Aj->Option Ct:=λ_ args=>match args with
 | [.int .i64 k,.int .u8 c]=>some (.Be True (.ret (.bool (AW (BQ c k)))))
 |_=>none
def gj:Tr Ae->Aj->Option Ct:=λ_ args=>match args with
 | [.int .i64 k,.vec 1 n f]=>some (.Be (∃S:AP,n=S.length/\f=rI S/\S.length<=100000000) (.ret (.bool (AW (Cq (BO k) (Np n f))))))
 |_=>none
structure KO (s:List UInt8) (l:List Int) (x:Nat×Nat):Prop where
 p:x.1<=s.length
 i:x.2<=l.length
 eq:Cq (s.drop x.1) (l.drop x.2)=Cq s l
structure KI (s:List UInt8) (l:List Int) (a i:Nat):Prop where
 pl:a<s.length
 il:i<=l.length
 eq:Cq (s.drop (a+1)) ((l.drop i).dropWhile (BQ ((s.getD a 0).toNat:Int)))=Cq s l
def SKo (s:Ac) (l:AP):CX:=thin (Nat×Nat) [0,1,5] (λx=>[(6,.int .i64 x.2),(7,.int .i64 x.1)]) (λ_ x=>KO s l x) λx=>s.length-x.1
def SKi (s:Ac) (l:AP):CX:=thin Nat [0,1,5,7] (λi=>[(6,.int .i64 i)]) (λst i=>∀a,st.T.get 7=some (.int .i64 a)->KI s l a.toNat i) λi=>l.length-i
def rC (s:Ac) (l:AP):Ctx:={P:=Tryz.prog,tb:=[(74,gm),(75,gh)],lp:=λf r=>cond (Nat.beq f 41) (cond (Nat.beq r 4) (some (SKo s l)) (cond (Nat.beq r 12) (some (SKi s l)) none)) none,cut:=λ_ _=>none}
def QT (a:Ak) (b:LT) (c:Nat):=getD a (toNat (getD b.kids (ES c) (0:Int))) LT.none
theorem AiD:∀(L:Ak) (x:LT) (i:Nat),Bh i x.kids.length->Int.NonNeg (getD x.kids i (0:Int)-0)->Int.NonNeg ((↑L.length:Int)-(getD x.kids i (0:Int)+1))->Nat.le i 100000000->Al (A9 (↑i:Int) x.kids.length) (Al (A9 (getD x.kids (ES i) (0:Int)) L.length) ((∃(S:AP),List.length (LT.kids (QT L x i))=S.length/\rI (LT.kids (QT L x i))=rI S)/\(I8/\I8/\True)/\Ah (AQ (0:Int) (C7 (LT.kind (QT L x i)) (LT.text (QT L x i)))) (((Pk x)/\Int.NonNeg ((↑i:Int)-0)/\Int.NonNeg ((100000000:Int)-(↑i:Int)))/\AQ (C7 (LT.kind (QT L x i)) (LT.text (QT L x i))) (AU (JE x (↑i:Int)))=Jv L x i) (false=Jv L x i)))
:=by
 delta ES Bh I8 QT Pk JE;intro L x i J E C B;have J:i<x.kids.length:=J;have E:0<=x.kids.getD i 0:=E;have C:x.kids.getD i 0<L.length:=C;have B:i<=100000000:=B;have K:∀y:LT,∃S:AP,y.kids.length=S.length/\rI y.kids=rI S:=λy=>⟨_,rfl,rfl⟩;simp only[Cd];refine At (Cf.2 (by omega)) (At (Cf.2 (by omega)) ⟨⟨_,rfl,rfl⟩,?_⟩);unfold Jv;generalize C7 (L.getD (x.kids.getD i 0).toNat LT.none).kind (L.getD (x.kids.getD i 0).toNat LT.none).text=q;refine Aw (λh=>⟨⟨K x,(show(0:Int)<=(i:Int) by omega),(show(i:Int)<=100000000 by omega)⟩,?_⟩) λh=>?_
 ·rw[CE]at h;rw[EM];simp[h]
 ·rw[CF]at h;rw[Ej (by omega)]
theorem AiC:∀(L:Ak) (x:LT) (i:Nat),i<x.kids.length->0<=x.kids.getD i 0->x.kids.getD i 0<L.length->i<=100000000->(A4 (Eb yi) 60).call 40 [tree L,.agg x.row,.int .i64 i] .leaf 0 (Cb Tryz.prog false (.bool (Jv L x i))):=Eq.mpr (by kernel_rfl) AiD
theorem wL:Ck Tryz.prog 40 Yi:=by
 refine Fh (gl:=[]) (ng:=0) Bq λH args ct y=>?_;unfold Yi at y;split at y
 ·rename_i n f k s z a b m g i;injection y with y;subst y;refine⟨Bq,_,_,rfl,?_⟩;rintro⟨L,S,rfl,rfl,rfl,rfl,O,E,C,B,M⟩;obtain⟨j,rfl⟩:∃j:Nat,i=j:=⟨i.toNat,by omega⟩;refine⟨⟨Nz L,cd ⟨k,s,z,a,b,S⟩,⟨rfl,rfl⟩,trivial⟩,Eb yi,60,rfl,Bu,Cj wF (Cj AfC B5),?_⟩;have:=AiC L ⟨k,s,z,a,b,S⟩ j (by simpa using E) C B (by omega);rw[Ea];have e:∀q:LT,FP (AV.int .i64 q.kind::[.bs q.text,.int .i64 q.n,.int .i64 q.line,.int .i64 q.Ao,.vec 1 q.kids.length (rI q.kids)])=q:=NM;have K:∀q:Nat,FP (A8 L q)=L.getD q LT.none:=λq=>NM _;have J:∀q:Nat,KM (rI S q)=S.getD q 0:=λq=>rfl;simp only[K,J];exact this
 ·cases y
def Pe (a:Int):=([(101:UInt8)]=BO a)
def Wo (a:Int):=([(98:UInt8)]=BO a)
theorem Aif:∀(k:Int),Ah (An k (1:Int)) ([(42:UInt8),100]=BO k) (Ah (An k (3:Int)) ([(42:UInt8),109]=BO k) (Ah (An k (4:Int)) ([(121:UInt8)]=BO k) (Ah (An k (6:Int)) ([(121:UInt8)]=BO k) (Ah (An k (7:Int)) (Wo k) (Ah (An k (9:Int)) (Wo k) (Ah (An k (11:Int)) (Wo k) (Ah (An k (36:Int)) (Wo k) (Ah (An k (8:Int)) ([(117:UInt8),42,108]=BO k) (Ah (An k (10:Int)) ([(117:UInt8),98]=BO k) (Ah (An k (12:Int)) ([(42:UInt8),115]=BO k) (Ah (An k (13:Int)) ([(121:UInt8),101]=BO k) (Ah (An k (14:Int)) ([(118:UInt8),101]=BO k) (Ah (An k (15:Int)) (Pe k) (Ah (An k (16:Int)) (Pe k) (Ah (An k (17:Int)) (Pe k) (Ah (An k (18:Int)) (Pe k) (Ah (An k (30:Int)) (Pe k) (Ah (An k (34:Int)) (Pe k) (Ah (An k (35:Int)) (Pe k) (Ah (An k (19:Int)) ([(101:UInt8),63,118]=BO k) (Ah (An k (20:Int)) ([(101:UInt8),63,118]=BO k) (Ah (An k (23:Int)) ([(101:UInt8),98,98]=BO k) (Ah (An k (24:Int)) ([(101:UInt8),98]=BO k) (Ah (An k (31:Int)) ([(101:UInt8),101]=BO k) (Ah (An k (32:Int)) ([(101:UInt8),101]=BO k) ([]=BO k))))))))))))))))))))))))))
:=by
 delta Pe Wo;intro k;simp only[FN,DU,EM,EH,EG,BV,Kt];simp only[beq_iff_eq,beq_eq_false_iff_ne,ne_eq]
 repeat' first
  |refine And.intro ?_ ?_
  |intro h
 all_goals first
  |(subst h;rfl)
  |(unfold BO;simp[*])
theorem Aie:∀(k:Int),(A4 J0 60).call 74 [.int .i64 k] .leaf 0 (Cb Tryz.prog false (.bs (BO k))):=Eq.mpr (by kernel_rfl) Aif
theorem Ah3:∀(k c:Int),Ah (An c (121:Int)) (An k (5:Int)=BQ c k) (Ah (An c (98:Int)) (An k (12:Int)=BQ c k) (Ah (An c (117:Int)) (An k (29:Int)=BQ c k) (Ah (An c (101:Int)) (True/\AW (B0 k)=BQ c k) (Ah (An c (118:Int)) (Ah (An k (29:Int)) (true=BQ c k) (Ah (An k (30:Int)) (true=BQ c k) (An k (31:Int)=BQ c k))) (Ah (An c (115:Int)) (Ah (!AQ k (13:Int)) ((!AQ (25:Int) k)=BQ c k) (false=BQ c k)) (Ah (An c (100:Int)) (Ah (An k (2:Int)) (true=BQ c k) (Ah (An k (3:Int)) (true=BQ c k) (Ah (An k (6:Int)) (true=BQ c k) (Ah (An k (7:Int)) (true=BQ c k) (Ah (An k (8:Int)) (true=BQ c k) (Ah (An k (10:Int)) (true=BQ c k) (Ah (An k (11:Int)) (true=BQ c k) (false=BQ c k)))))))) (Ah (An c (109:Int)) (An k (4:Int)=BQ c k) (An k (9:Int)=BQ c k))))))))
:=by
 intro k c;simp only[Cd];simp only[FN,DU,EM,EH,EG,BV,Kt];unfold BQ K7 mh L1
 repeat' first
  |refine And.intro ?_ ?_
  |intro h
 all_goals grind
theorem Ah2:∀(k c:Int),(A4 (Eb [(43,gz)]) 60).call 75 [.int .i64 k,.int .u8 c] .leaf 0 (Cb Tryz.prog false (.bool (BQ c k))):=Eq.mpr (by kernel_rfl) Ah3
theorem Sf (s:Ac) (p:Nat) (h:p<s.length):s.drop p=s.getD p 0::s.drop (p+1):=by rw[List.drop_eq_getElem_cons h,B2,CC h];rfl
theorem Qc (l:AP) (p:Nat) (h:p<l.length):l.drop p=l.getD p 0::l.drop (p+1):=by rw[List.drop_eq_getElem_cons h,B2,CC h];rfl
theorem jm (d:UInt8) (s:Ac) (l:AP):Cq (42::d::s) l=Cq s (l.dropWhile (BQ (d.toNat:Int))):=by simp[Cq]
theorem jl (d:UInt8) (s:Ac) (l:AP):Cq (63::d::s) l=Cq s (bX (BQ (d.toNat:Int)) l):=by simp[Cq]
theorem jk {c:UInt8} (s:Ac) (y:c≠42) (q:c≠63):Cq (c::s) []=false:=by cases s<;>simp[Cq,y,q]
theorem uT (l:AP):Cq [] l=l.isEmpty:=by simp[Cq]
theorem uU {c:UInt8} (s:Ac) (x:Int) (l:AP) (y:c≠42) (q:c≠63):Cq (c::s) (x::l)=(BQ (c.toNat:Int) x&&Cq s l):=by cases s<;>simp[Cq,y,q]
theorem AdM {s:Ac} {p:Nat} (l:AP) (h:p+1<s.length) (hc:s.getD p 0=42):Cq (s.drop p) l=Cq (s.drop (p+2)) (l.dropWhile (BQ ((s.getD (p+1) 0).toNat:Int))):=by rw[Sf s p (by omega),Sf s (p+1) h,hc,jm]
theorem AdL {s:Ac} {p:Nat} (l:AP) (h:p+1<s.length) (hc:s.getD p 0=63):Cq (s.drop p) l=Cq (s.drop (p+2)) (bX (BQ ((s.getD (p+1) 0).toNat:Int)) l):=by rw[Sf s p (by omega),Sf s (p+1) h,hc,jl]
theorem AdJ {s:Ac} {p:Nat} (h:p<s.length) (y:s.getD p 0≠42) (q:s.getD p 0≠63):Cq (s.drop p) []=false:=by rw[Sf s p h,jk _ y q]
theorem AdK {s:Ac} {p:Nat} (x:Int) (l:AP) (h:p<s.length) (y:s.getD p 0≠42) (q:s.getD p 0≠63):Cq (s.drop p) (x::l)=(BQ ((s.getD p 0).toNat:Int) x&&Cq (s.drop (p+1)) l):=by rw[Sf s p h,uU _ _ _ y q]
def letOpts:List Ac:=[[42,100],[42,109],[121],[98],[117,42,108],[117,98],[42,115],[121,101],[118,101],[101],[101,63,118],[101,98,98],[101,98],[101,101],[]]
theorem AdE {α:Type} {c:Prop} [Decidable c] {a b:α} {S:List α} (y:a∈S) (q:b∈S):(if c then a else b)∈S:=by split<;>assumption
theorem uq (k:Int):BO k∈letOpts:=by
 unfold BO
 repeat' refine AdE (by decide) ?_
 decide
theorem Ael (k:Int):(BO k).length<=3:=(by decide:∀s∈letOpts,s.length<=3) _ (uq k)
theorem Aem (k:Int):∀p,p<(BO k).length->((BO k).getD p 0=42\/(BO k).getD p 0=63)->p+1<(BO k).length:=(by decide:∀s∈letOpts,∀p,p<s.length->(s.getD p 0=42\/s.getD p 0=63)->p+1<s.length) _ (uq k)
theorem cU {c:UInt8} {n:Nat} (hn:n<256):An (c.toNat:Int) (n:Int)=true↔c=UInt8.ofNat n:=by
 rw[C0];constructor
 ·intro h;have h:c.toNat=n:=by omega
  rw[<-h];simp
 ·rintro rfl;simp[Nat.mod_eq_of_lt hn]
def Tj (a:AP):=(Aa/\Af a.length/\AH λ(q:Nat)=>Bh q a.length->(Aa/\Af (getD a q (0:Int)))/\True)
def Oj (a:Int):=AU (BO a)
@[reducible] def eD:Int->AP->Nat×Nat->Prop:=λ(k:Int) (l:AP) (a:Nat×Nat)=>(Aa/\k=k)/\(Tj l)/\Af (Oj k)/\(Aa/\Af ((↑a.1:Int)+1))/\True
@[reducible] def Xj:Int->AP->Nat×Nat->Nat×Nat->Prop:=λ(k:Int) (l:AP) (a q:Nat×Nat)=>(Aa/\(↑a.1:Int)+1+1=(↑q.1:Int))/\(Aa/\k=k)/\(Tj l)/\Af (Oj k)/\True
def TC (a:Int) (b:Nat) (c:Nat):=Nat.le (Nat.succ (List.length (BO a)-b)) (List.length (BO a)-c)
@[reducible] def eE:Int->AP->Nat×Nat->Nat->Nat×Nat->Prop:=λ(k:Int) (l:AP) (a:Nat×Nat) (y:Nat) (q:Nat×Nat)=>KO (BO k) l q/\TC k q.1 a.1/\Aa/\((Aa/\(↑y:Int)=(↑q.2:Int))/\Xj k l a q)/\True
@[reducible] def eF:Int->AP->Nat×Nat->Nat×Nat->Prop:=λ(k:Int) (l:AP) (a q:Nat×Nat)=>KO (BO k) l q/\TC k q.1 a.1/\Aa/\((Aa/\(↑a.2:Int)=(↑q.2:Int))/\Xj k l a q)/\True
def ZH (a:Nat) (b:Int) (c:AP) (d:Nat):=(∀(q:Int),some (AV.int .i64 ((↑a:Int)+1))=some (AV.int .i64 q)->KI (BO b) c (toNat q) d)
def Tn (a:Nat):=Al (BJ .i64 ((↑a:Int)+1+1))
def ZL (a:Int) (b:Nat):=(↑(UInt8.toNat (getD (Oj a) (ES b) (0:UInt8))):Int)
def lL (a:Int) (b:Nat) (c:AP) (d:Nat):=Ah (AW (BQ (↑(UInt8.toNat (getD (Oj a) (toNat ((↑b:Int)+1)) (0:UInt8))):Int) (getD c (ES d) (0:Int))))
def T6 (a:Int):=List.length (Oj a)
theorem Ah7:∀(k:Int) (l:AP),Nat.le l.length 100000000->True/\(∃(W:Nat×Nat),KO (BO k) l W/\Aa/\((Gr W.2)/\(Gr W.1)/\(Aa/\k=k)/\(Tj l)/\Af (Oj k)/\True)/\True)/\∀(x:Nat×Nat),KO (BO k) l x->Ah (Ke x.1 (Int.ofNat (T6 k))) (Al (IF x.1 (T6 k)) (Ah (An (ZL k x.1) (42:Int)) (EU x.1 ((∃(W:Nat),(ZH x.1 k l W)/\Aa/\((Aa/\(↑x.2:Int)=(↑W:Int))/\eD k l x)/\True)/\∀(E:Nat),(ZH x.1 k l E)->Ah (Ke E (Int.ofNat l.length)) (Al (IF E l.length) (Al (A9 ((↑x.1:Int)+1) (T6 k)) (True/\(BS/\BS/\True)/\lL k x.1 l E (EU E (∃(B:Nat),(ZH x.1 k l B)/\Nat.le (Nat.succ (l.length-B)) (l.length-E)/\Aa/\((Fq E B)/\eD k l x)/\True)) (Tn x.1 (∃(B:Nat×Nat),eE k l x E B))))) ((Bn/\True)/\Tn x.1 (∃(B:Nat×Nat),eE k l x E B)))) (Ah (An (ZL k x.1) (63:Int)) (EU x.1 (Ah (Ke x.2 (Int.ofNat l.length)) (Al (IF x.2 l.length) (Al (A9 ((↑x.1:Int)+1) (T6 k)) (True/\(BS/\BS/\True)/\lL k x.1 l x.2 (EU x.2 (Tn x.1 (∃(B:Nat×Nat),KO (BO k) l B/\TC k B.1 x.1/\Aa/\((Fq x.2 B.2)/\Xj k l x B)/\True))) (Tn x.1 (∃(B:Nat×Nat),eF k l x B))))) ((Bn/\True)/\Tn x.1 (∃(B:Nat×Nat),eF k l x B)))) (Ah (An (↑x.2:Int) (Int.ofNat l.length)) ((Bn/\True)/\false=Cq (BO k) l) (Al (IF x.2 l.length) (Al (IF x.1 (T6 k)) (True/\(BS/\BS/\True)/\Ah (!AW (BQ (ZL k x.1) (getD l (ES x.2) (0:Int)))) (false=Cq (BO k) l) (EU x.2 (EU x.1 (∃(B:Nat×Nat),KO (BO k) l B/\TC k B.1 x.1/\Aa/\((Fq x.2 B.2)/\(Fq x.1 B.1)/\(Aa/\k=k)/\(Tj l)/\Af (Oj k)/\True)/\True)))))))))) (An (↑x.2:Int) (Int.ofNat l.length)=Cq (BO k) l)
:=by
 delta Bn ES BS Bh EU Fq Tj Gr TC Oj ZH Tn ZL IF lL T6 Ke;intro k l hl;have hl:l.length<=100000000:=hl;have ab:=Ael k;have hw:=Aem k;simp only[Cd,eD,Xj,eE,eF,Bh,Tj,Oj,TC];generalize BO k=s at*;refine⟨⟨(0,0),⟨CL _,CL _,rfl⟩,rfl,rfl⟩,λx Y=>?_⟩;obtain⟨p,i⟩:=x;have hp:=Y.p;have hi:=Y.i;have q:=Y.eq;simp only at hp hi q⊢;refine Aw (λh=>?_) λh=>?_
 ·rw[CE]at h;have O:p<s.length:=by omega
  have hR:BJ .i64 ((p:Int)+1)=true:=CJ.2 (by omega);have R:BJ .i64 ((p:Int)+1+1)=true:=CJ.2 (by omega);have hB:A9 (p:Int) s.length=true:=Cf.2 (by omega);refine At hB (Aw (λS=>At hR ?_) λS=>?_)
  ·have S:s.getD p 0=42:=(cU (n:=42) (by decide)).1 S;have V:=hw p O (.inl S);refine⟨⟨i,λa Z=>⟨by omega,hi,?_⟩,rfl⟩,λj U=>?_⟩
   ·obtain rfl:a=(p:Int)+1:=Z.symm;rw[show((p:Int)+1).toNat=p+1 by omega,<-AdM _ V S];exact q
   ·have U:=U _ rfl;rw[show((p:Int)+1).toNat=p+1 by omega]at U⊢;have aa:=U.il;refine Aw (λL=>?_) λL=>?_
    ·rw[CE]at L;have K:j<l.length:=by omega
     refine At (Cf.2 (by omega)) (At (Cf.2 (by omega)) (Aw (λM=>At (CJ.2 (by omega)) ⟨j+1,λa Z=>?_,by omega,by omega⟩) λM=>At R ⟨(p+2,j),⟨by simp only;omega,aa,?_⟩,by simp only;omega,by simp,by simp only;omega⟩))
     ·obtain rfl:a=(p:Int)+1:=Z.symm;rw[show((p:Int)+1).toNat=p+1 by omega];have J:=U.eq;rw[Qc l j K,List.dropWhile_cons,Am M]at J;exact⟨U.pl,K,J⟩
     ·have J:=U.eq;rw[Qc l j K,List.dropWhile_cons,Ad (by rw[M];simp),<-Qc l j K]at J;exact J
    ·rw[CF]at L;obtain rfl:j=l.length:=by omega
     refine At R ⟨(p+2,l.length),⟨by simp only;omega,AM _,?_⟩,by simp only;omega,by simp,by simp only;omega⟩;have J:=U.eq;rw[List.drop_length,List.dropWhile_nil]at J;rw[List.drop_length];exact J
  ·have S:s.getD p 0≠42:=λe=>absurd (S.symm.trans ((cU (n:=42) (by decide)).2 e)) (by decide);refine Aw (λL=>At hR ?_) λL=>?_
   ·have L:s.getD p 0=63:=(cU (n:=63) (by decide)).1 L;have V:=hw p O (.inr L);rw[AdL _ V L]at q;rw[show((p:Int)+1).toNat=p+1 by omega];refine Aw (λM=>?_) λM=>?_
    ·rw[CE]at M;have C:i<l.length:=by omega
     rw[Qc l i C]at q;unfold bX at q;refine At (Cf.2 (by omega)) (At (Cf.2 (by omega)) (Aw (λJ=>At (CJ.2 (by omega)) (At R ⟨(p+2,i+1),⟨by simp only;omega,C,?_⟩,by simp only;omega,by simp only;omega,by simp only;omega⟩)) λJ=>At R ⟨(p+2,i),⟨by simp only;omega,hi,?_⟩,by simp only;omega,by simp,by simp only;omega⟩))
     ·simp only[J,if_true]at q;exact q
     ·simp only[J,Bool.false_eq_true,if_false]at q;rw[<-Qc l i C]at q;exact q
    ·rw[CF]at M;obtain rfl:i=l.length:=by omega
     rw[List.drop_length]at q;refine At R ⟨(p+2,l.length),⟨by simp only;omega,AM _,?_⟩,by simp only;omega,by simp,by simp only;omega⟩;rw[List.drop_length];exact q
   ·have L:s.getD p 0≠63:=λe=>absurd (L.symm.trans ((cU (n:=63) (by decide)).2 e)) (by decide);refine Aw (λM=>?_) λM=>?_
    ·rw[C0]at M;obtain rfl:i=l.length:=by omega
     rw[List.drop_length,AdJ O S L]at q;exact q
    ·rw[Dy]at M;have C:i<l.length:=by omega
     rw[Qc l i C,AdK _ _ O S L]at q;refine At (Cf.2 (by omega)) (At hB (Aw (λJ=>?_) λJ=>At (CJ.2 (by omega)) (At hR ⟨(p+1,i+1),⟨O,C,?_⟩,by simp only;omega,by simp,by simp⟩)))
     ·rw[nf J]at q;exact q
     ·rw[nt J,Bool.true_and]at q;exact q
 ·rw[CF]at h;obtain rfl:p=s.length:=by omega
  rw[List.drop_length]at q;rw[<-q,uT,DU];cases hd:l.drop i with
  |nil=>have:=congrArg List.length hd;simp at this;simp;omega
  |cons y t=>have:=congrArg List.length hd;simp at this;simp;omega
theorem Ah6:∀(k:Int) (l:AP),l.length<=100000000->(A4 (rC (BO k) l) 60).call 41 [.int .i64 k,.vec 1 l.length (rI l)] .leaf 0 (Cb Tryz.prog false (.bool (Cq (BO k) l))):=Eq.mpr (by kernel_rfl) Ah7
theorem Afy:Ck Tryz.prog 74 gm:=by
 refine Fh (gl:=[]) (ng:=0) Bq λH args ct q=>?_;unfold gm at q;split at q
 ·rename_i k;injection q with q;subst q;exact⟨Bq,_,_,rfl,λ_=>⟨⟨⟨rfl,rfl⟩,trivial⟩,J0,60,rfl,Bu,B5,by rw[Dr];exact Aie k⟩⟩
 ·cases q
theorem Aft:Ck Tryz.prog 75 gh:=by
 refine Fh (gl:=[]) (ng:=0) Bq λH args ct q=>?_;unfold gh at q;split at q
 ·rename_i k c;injection q with q;subst q;exact⟨Bq,_,_,rfl,λ_=>⟨⟨⟨rfl,rfl⟩,⟨rfl,rfl⟩,trivial⟩,_,60,rfl,Bu,Cj AfS B5,by rw[Ea];exact Ah2 k c⟩⟩
 ·cases q
theorem Afv:Ck Tryz.prog 41 gj:=by
 refine Fh (gl:=[]) (ng:=0) Bq λH args ct q=>?_;unfold gj at q;split at q
 ·rename_i k n f;injection q with q;subst q;refine⟨Bq,_,_,rfl,?_⟩;rintro⟨S,rfl,rfl,h⟩;rw[Ea,Z4];exact⟨⟨⟨rfl,rfl⟩,⟨rfl,rfl,⟨λi _=>Alq _ i⟩⟩,trivial⟩,rC (BO k) S,60,rfl,Bu,Cj Afy (Cj Aft B5),Ah6 k S h⟩
 ·cases q
def E9 (L:Ak) (w:LT) (i next:Nat):Int:=(if(L.getD next LT.none).kind=12 then 1 else 0)+(if Jv L w i then 1 else 0)+(if w.kind=31/\i=1\/w.kind=34\/w.kind=35 then 1 else 0)
def L8 (w:LT):Bool:=decide (1<=w.kind/\w.kind<=36)&&(Fv w.kind w.text&&E2 w.kind w.n)
mutual
def DF (L:Ak) (a:Nat) (nest:Int):Nat:=
 if L.length<=a\/64<nest then 0 else if L8 (L.getD a LT.none)=false then 0 else
  match Hm L a nest (L.getD a LT.none).kids 0 (a+1) []with
  |none=>0
  |some r=>if Cq (BO (L.getD a LT.none).kind) r.2 then r.1 else 0
termination_by (L.length-a,1,0)
decreasing_by
 exact Prod.Lex.right _ (Prod.Lex.left _ _ Nat.zero_lt_one)
def Hm (L:Ak) (a:Nat) (nest:Int) (ks:AP) (i next:Nat) (l:AP):Option (Nat×AP):=
 match ks with
 | []=>some (next,l)
 |k::ks=>if h:k≠(next:Int)\/L.length<=next\/next<=a then none else
  match DF L next (nest+E9 L (L.getD a LT.none) i next)with
  |0=>none
  |r+1=>Hm L a nest ks (i+1) (r+1) (l++[(L.getD next LT.none).kind])
termination_by (L.length-a,0,ks.length)
decreasing_by
 ·exact Prod.Lex.left _ _ (by omega)
 ·exact Prod.Lex.right _ (Prod.Lex.right _ (Nat.lt_succ_self _))
end
structure JT (L:List LT):Prop where
 len:L.length<=1000000
 text:∀i,(L.getD i LT.none).text.length<=1000000
def Vm (N:Nat):Tr Ae->Aj->Option Ct:=λ_ args=>match args with
 | [.agg [.vec 6 n f],.int .i64 a,.int .i64 nest]=>some (.Be (∃L:Ak,n=L.length/\f=A8 L/\JT L/\0<=a/\L.length-a.toNat<N/\0<=nest/\nest<=1000) (.ret (.int .i64 (AU (DF (KZ n f) a.toNat nest:Nat)))))
 |_=>none
structure GI (L:List LT) (a:Nat) (nest:Int) (x:Nat×Nat×List Int):Prop where
 il:x.1<=(L.getD a LT.none).kids.length
 lo:a+1+x.1<=x.2.1
 hi:x.2.1<=L.length
 ll:x.2.2.length=x.1
 eq:Hm L a nest ((L.getD a LT.none).kids.drop x.1) x.1 x.2.1 x.2.2=Hm L a nest (L.getD a LT.none).kids 0 (a+1) []
def SGo (L:Ak) (a:Nat) (nest:Int):CX:={X:=Nat×Nat×AP,T:=λs _ x=>(8,.AY s.nx x.2.2.length 1)::(9,.int .i64 x.2.1)::(10,.int .i64 x.1)::MZ s [0,1,2,3,7],H:=λs n0 x=>(s.nx,.cells 36 .leaf (.rows 1 (rI x.2.2)) x.2.2.length true)::SM s n0,nx:=λs _=>s.nx+1,I:=λ_ x=>GI L a nest x,m:=λx=>(L.getD a LT.none).kids.length-x.1}
def et (f:Nat->Nat->Int):CX:=thin (Nat×Nat) [0,1,2,3,7,8,9,10] (λx=>[(11,.int .i64 (f x.1 x.2))]) (λs x=>(∀b,s.T.get 10=some (.int .i64 b)->b=x.1)/\(∀b,s.T.get 9=some (.int .i64 b)->b=x.2)) λ_=>0
def J7 (L:Ak) (w:LT) (i next:Nat):Int:=if(L.getD next LT.none).kind=12 then 1 else 0
def I4 (L:Ak) (w:LT) (i next:Nat):Int:=J7 L w i next+if Jv L w i then 1 else 0
def q3 (N:Nat) (L:Ak) (a:Nat) (nest:Int):Ctx:={P:=Tryz.prog,tb:=[(38,hO),(39,gr),(40,Yi),(41,gj),(19,Vm N)],lp:=λf r=>cond (Nat.beq f 19) (cond (Nat.beq r 9) (some (SGo L a nest)) none) none,cut:=λf r=>cond (Nat.beq f 19) (cond (Nat.beq r 16) (some (et (J7 L (L.getD a LT.none)))) (cond (Nat.beq r 18) (some (et (I4 L (L.getD a LT.none)))) (cond (Nat.beq r 20) (some (et (E9 L (L.getD a LT.none)))) none))) none}
theorem SD {L:Ak} {a:Nat} {nest:Int} (h:L.length<=a\/64<nest):DF L a nest=0:=by rw[DF,Am h]
theorem jO {L:Ak} {a:Nat} {nest:Int} (h:L8 (L.getD a LT.none)=false):DF L a nest=0:=by
 rw[DF];split
 ·rfl
 ·first
   |rfl
   |rw[Am h]
theorem jP {L:Ak} {a:Nat} {nest:Int} (h:Hm L a nest (L.getD a LT.none).kids 0 (a+1) []=none):DF L a nest=0:=by
 rw[DF];split
 ·rfl
 ·split
  ·rfl
  ·rw[h]
theorem jQ {L:Ak} {a:Nat} {nest:Int} {r:Nat×AP} (y:¬(L.length<=a\/64<nest)) (q:L8 (L.getD a LT.none)=true) (h:Hm L a nest (L.getD a LT.none).kids 0 (a+1) []=some r): DF L a nest=if Cq (BO (L.getD a LT.none).kind) r.2 then r.1 else 0:=by rw[DF,Ad y,Ad (by rw[q];simp),h]
theorem jR {L:Ak} {a:Nat} {nest:Int} {i next:Nat} {l:AP}:Hm L a nest [] i next l=some (next,l):=by rw[Hm]
theorem YE {L:Ak} {a:Nat} {nest:Int} {k:Int} {ks:AP} {i next:Nat} {l:AP} (h:k≠(next:Int)\/L.length<=next\/next<=a):Hm L a nest (k::ks) i next l=none:=by rw[Hm,dif_pos h]
theorem jT {L:Ak} {a:Nat} {nest:Int} {k:Int} {ks:AP} {i next:Nat} {l:AP} (h:DF L next (nest+E9 L (L.getD a LT.none) i next)=0):Hm L a nest (k::ks) i next l=none:=by
 rw[Hm];split
 ·rfl
 ·rw[h]
theorem jS {L:Ak} {a:Nat} {nest:Int} {k:Int} {ks:AP} {i next:Nat} {l:AP} (y:¬(k≠(next:Int)\/L.length<=next\/next<=a)) (h:DF L next (nest+E9 L (L.getD a LT.none) i next)≠0): Hm L a nest (k::ks) i next l=Hm L a nest ks (i+1) (DF L next (nest+E9 L (L.getD a LT.none) i next)) (l++[(L.getD next LT.none).kind]):=by
 rw[Hm,dif_neg y];split
 ·rename_i q;exact absurd q h
 ·rename_i r q;rw[q]
theorem Ac7 (L:Ak):∀(d:Nat),(∀a nest,L.length-a<=d->DF L a nest≠0->a<DF L a nest/\DF L a nest<=L.length):=by
 intro d
 induction d with
 |zero=>intro a nest h y;exact absurd (SD (.inl (by omega))) y
 |succ d R=>
  have K:∀(a:Nat) (nest:Int),L.length-a<=d+1->∀(ks:AP) (i next:Nat) (l:AP) (r:Nat×AP),a<next->next<=L.length->Hm L a nest ks i next l=some r->next<=r.1/\r.1<=L.length:=by
   intro a nest O ks
   induction ks with
   |nil=>
    intro i next l r y B q
    rw[jR]at q;injection q with q;subst q;exact⟨AM _,B⟩
   |cons k ks J=>
    intro i next l r y B q
    by_cases M:k≠(next:Int)\/L.length<=next\/next<=a
    ·rw[YE M]at q;cases q
    ·by_cases hz:DF L next (nest+E9 L (L.getD a LT.none) i next)=0
     ·rw[jT hz]at q;cases q
     ·rw[jS M hz]at q;have E:=R next _ (by omega) hz
      have S:=J _ _ _ r (by omega) E.2 q;omega
  intro a nest O y;by_cases B:L.length<=a\/64<nest
  ·exact absurd (SD B) y
  ·by_cases q:L8 (L.getD a LT.none)=false
   ·exact absurd (jO q) y
   ·have q:L8 (L.getD a LT.none)=true:=by simpa using q
    cases C:Hm L a nest (L.getD a LT.none).kids 0 (a+1) []with
    |none=>exact absurd (jP C) y
    |some r=>
     rw[jQ B q C]at y⊢;split at y
     ·rename_i E;rw[Am E];have:=K a nest O _ _ _ _ r (by omega) (by omega) C;omega
     ·exact absurd rfl y
theorem Ac8 {L:Ak} {a:Nat} {nest:Int} (h:DF L a nest≠0):a<DF L a nest/\DF L a nest<=L.length:=Ac7 L _ a nest (AM _) h
theorem AeR (L:Ak) (w:LT) (i next:Nat):0<=E9 L w i next/\E9 L w i next<=3/\0<=J7 L w i next/\J7 L w i next<=1/\0<=I4 L w i next/\I4 L w i next<=2:=by unfold E9 I4 J7;refine⟨?_,?_,?_,?_,?_,?_⟩<;>(repeat' split)<;>omega
@[reducible] def NG:Ak->Prop:=λ(L:Ak)=>Aa/\Af L.length/\AH λ(i:Nat)=>Bh i L.length->(Aa/\Af (HM L i))/\Af (LT.text (CG L i))/\(Aa/\Af (LT.n (CG L i)))/\(Mo L i)/\(Mm L i)/\(Me L i)/\True
@[reducible] def MI:Ak->Prop:=λ(L:Ak)=>NG L/\True
@[reducible] def UZ:Ak->Prop:=λ(L:Ak)=>Aa/\Aa/\Aa/\Aa/\True/\NG L
def Ig (a:Ak) (b:Nat):=List.length (LT.kids (Di a b))
def ET (a:Ak) (b:Nat):=LT.kind (Di a b)
def ZE (a:Ak) (b:Nat):=(((((True/\Aa/\Af (ET a b))/\Af (LT.text (Di a b)))/\Aa/\Af (LT.n (Di a b)))/\Aa/\Af (LT.line (Di a b)))/\Aa/\Af (LT.Ao (Di a b)))
@[reducible] def U0:Ak->Nat->Prop:=λ(L:Ak) (a:Nat)=>Aa/\Aa/\Aa/\Aa/\(ZE L a)/\Aa/\Af (Ig L a)/\AH λ(i:Nat)=>Bh i (Ig L a)->(Aa/\Af (getD (LT.kids (Di L a)) i (0:Int)))/\True
@[reducible] def eG:Ak->Nat->Int->Prop:=λ(L:Ak) (a:Nat) (nest:Int)=>MI L/\(HJ a)/\(Aa/\Af nest)/\Cx/\Hb/\True
@[reducible] def PR:Ak->Nat->Int->Nat×Nat×AP->Prop:=λ(L:Ak) (a:Nat) (nest:Int) (q:Nat×Nat×AP)=>MI L/\(HJ a)/\(Aa/\Af nest)/\Cx/\Hb/\(Af (some 7)/\Af (List.length (q.2.2))/\Aa)/\(Aa/\Af (↑(q.2.1):Int))/\(HJ q.1)/\True
@[reducible] def OJ:Ak->Nat->Prop:=λ(L:Ak) (a:Nat)=>UZ L/\U0 L a/\True
@[reducible] def PS:Ak->Nat->Nat×Nat×AP->Prop:=λ(L:Ak) (a:Nat) (q:Nat×Nat×AP)=>UZ L/\U0 L a/\(Aa/\Aa/\Aa/\Aa/\Af (List.length (q.2.2))/\AH λ(i:Nat)=>C1 i (List.length (q.2.2))->(Aa/\Af (getD (q.2.2) i (0:Int)))/\True)/\True
def KP (a:Nat) (b:Nat):=(∀(q:Int),some (AV.int .i64 (↑a:Int))=some (AV.int .i64 q)->q=(↑b:Int))
@[reducible] def eI:Ak->Nat->Int->Nat×Nat×AP->Nat×Nat->Nat×Nat->Prop:=λ(L:Ak) (a:Nat) (nest:Int) (y:Nat×Nat×AP) (B q:Nat×Nat)=>((KP y.1 q.1)/\∀(b:Int),some (AV.int .i64 (↑(y.2.1):Int))=some (AV.int .i64 b)->b=(↑q.2:Int))/\Aa/\((Aa/\I4 L (CG L a) B.1 B.2=E9 L (CG L a) q.1 q.2)/\PR L a nest y)/\PS L a y
@[reducible] def oJ:Ak->Nat->Int->Nat×Nat×AP->Nat×Nat->Nat×Nat->Prop:=λ(L:Ak) (a:Nat) (nest:Int) (y:Nat×Nat×AP) (B q:Nat×Nat)=>((KP y.1 q.1)/\∀(b:Int),some (AV.int .i64 (↑(y.2.1):Int))=some (AV.int .i64 b)->b=(↑q.2:Int))/\Aa/\((Aa/\I4 L (CG L a) B.1 B.2+1=E9 L (CG L a) q.1 q.2)/\PR L a nest y)/\PS L a y
def Zt (a:Ak) (b:Nat) (c:Nat):=Ah (AW (decide ((0:Int)<C7 (LT.kind (FP (A8 a (toNat (KM (rI (LT.kids (getD a (toNat (↑b:Int)) LT.none)) (toNat (↑c:Int)))))))) (LT.text (FP (A8 a (toNat (KM (rI (LT.kids (getD a (toNat (↑b:Int)) LT.none)) (toNat (↑c:Int))))))))/\C7 (LT.kind (FP (A8 a (toNat (KM (rI (LT.kids (getD a (toNat (↑b:Int)) LT.none)) (toNat (↑c:Int)))))))) (LT.text (FP (A8 a (toNat (KM (rI (LT.kids (getD a (toNat (↑b:Int)) LT.none)) (toNat (↑c:Int))))))))<Fo (LT.kind (getD a (toNat (↑b:Int)) LT.none)) (LT.text (getD a (toNat (↑b:Int)) LT.none)) (↑c:Int))))
def ZA (a:Ak) (b:Nat) (c:Nat):=(∃(y:Ak),∃(q:AP),a.length=y.length/\A8 a=A8 y/\List.length (LT.kids (Di a b))=q.length/\rI (LT.kids (Di a b))=rI q/\Int.NonNeg ((↑c:Int)-0)/\Int.NonNeg ((↑q.length:Int)-((↑c:Int)+1))/\Int.NonNeg (getD q (ES c) (0:Int)-0)/\Int.NonNeg ((↑y.length:Int)-(getD q (ES c) (0:Int)+1))/\Int.NonNeg ((100000000:Int)-(↑c:Int)))
def Pb (a:Nat) (b:Nat) (c:Nat) (d:Nat):=((KP a b)/\∀(q:Int),KS c=some (AV.int .i64 q)->q=(↑d:Int))
def Mk (a:Ak) (b:Nat) (c:Int):=(Aa/\(0:Int)=(↑(DF a b c):Int))
def Nk (a:Ak) (b:Nat) (c:Nat):=getD (LT.kids (Di a b)) (ES c) (0:Int)
def Kd (a:Ak):=KZ a.length (A8 a)
def Ml (a:Nat) (b:Ak):=Al (A9 (↑a:Int) b.length)
def TM (a:Ak) (b:Nat) (c:Nat) (d:Nat):=Al (BJ .i64 (I4 a (CG a b) c d+1))
def T8 (a:Ak) (b:Nat) (c:Int) (d:Nat×Nat×AP) (e:Nat×Nat):=(∃(q:Nat×Nat),oJ a b c d e q)
theorem AhZ:∀(N:Nat) (L:Ak) (a:Nat) (nest:Int),JT L->Nat.le (Nat.succ (L.length-a)) (N+1)->Int.NonNeg (nest-0)->Int.NonNeg ((1000:Int)-nest)->Ah (!AQ (↑a:Int) (GO L)) (Mk L a nest) (Ah (AQ (64:Int) nest) (Mk L a nest) (Ml a L (Ah (AQ (ET L a) (1:Int)) (Mk L a nest) (Ah (AQ (36:Int) (ET L a)) (Mk L a nest) (Nat.le (List.length (LT.text (Di L a))) 1000000/\Ah (!AW (Fv (ET L a) (LT.text (Di L a)))) (Mk L a nest) (True/\Ah (!AW (E2 (ET L a) (LT.n (Di L a)))) (Mk L a nest) (EU a ((∃(x0:Nat×Nat×AP),GI L a nest x0/\Aa/\(x0.2.2.length=0/\(Fq a x0.2.1)/\(Gr x0.1)/\eG L a nest)/\(Aa/\True)/\OJ L a)/\∀(x:Nat×Nat×AP),GI L a nest x->Ah (Ke x.1 (Int.ofNat (Ig L a))) (Al (IF x.1 (Ig L a)) (Ah (!An (Nk L a x.1) (↑x.2.1:Int)) (Mk L a nest) (Ah (!AQ (↑x.2.1:Int) (GO L)) (Mk L a nest) (Ml x.2.1 L (Ah (An (ET L x.2.1) (12:Int)) (∃(C:Nat×Nat),(Pb x.1 C.1 x.2.1 C.2)/\Aa/\((Aa/\(1:Int)=J7 L (CG L a) C.1 C.2)/\PR L a nest x)/\PS L a x) (∃(C:Nat×Nat),(Pb x.1 C.1 x.2.1 C.2)/\Aa/\((Aa/\(0:Int)=J7 L (CG L a) C.1 C.2)/\PR L a nest x)/\PS L a x))/\∀(C:Nat×Nat),(Pb x.1 C.1 x.2.1 C.2)->((ZA L a x.1)/\Zt L a x.1 (Al (BJ .i64 (J7 L (CG L a) C.1 C.2+1)) (∃(B:Nat×Nat),(Pb x.1 B.1 x.2.1 B.2)/\Aa/\((Aa/\J7 L (CG L a) C.1 C.2+1=I4 L (CG L a) B.1 B.2)/\PR L a nest x)/\PS L a x)) (∃(B:Nat×Nat),(Pb x.1 B.1 x.2.1 B.2)/\Aa/\((Aa/\J7 L (CG L a) C.1 C.2=I4 L (CG L a) B.1 B.2)/\PR L a nest x)/\PS L a x))/\∀(B:Nat×Nat),(Pb x.1 B.1 x.2.1 B.2)->Ah (An (ET L a) (31:Int)) (Ah (An (↑x.1:Int) (1:Int)) (TM L a B.1 B.2 (T8 L a nest x B)) (Ah (An (ET L a) (34:Int)) (TM L a B.1 B.2 (T8 L a nest x B)) (Ah (An (ET L a) (35:Int)) (TM L a B.1 B.2 (T8 L a nest x B)) (∃(E:Nat×Nat),eI L a nest x B E)))) (Ah (An (ET L a) (34:Int)) (TM L a B.1 B.2 (T8 L a nest x B)) (Ah (An (ET L a) (35:Int)) (TM L a B.1 B.2 (T8 L a nest x B)) (∃(E:Nat×Nat),eI L a nest x B E)))/\∀(E:Nat×Nat),(Pb x.1 E.1 x.2.1 E.2)->Ml x.2.1 L (Al (bif bif Nat.ble (x.2.2.length*1) x.2.2.length then true else false then decide (x.2.2.length+1<=9223372036854775807/\(x.2.2.length+1)*8<=140737488355328)else false) (Al (BJ .i64 (nest+E9 L (CG L a) E.1 E.2)) ((∃(Z:Ak),L.length=Z.length/\A8 L=A8 Z/\JT Z/\Int.NonNeg ((↑x.2.1:Int)-0)/\Nat.le (Nat.succ (Z.length-ES x.2.1)) N/\Int.NonNeg (nest+E9 L (CG L a) E.1 E.2-0)/\Int.NonNeg ((1000:Int)-(nest+E9 L (CG L a) E.1 E.2)))/\Ah (An (AU (↑(DF (Kd L) (ES x.2.1) (nest+E9 L (CG L a) E.1 E.2)):Int)) (0:Int)) (Mk L a nest) (EU x.1 (∃(x':Nat×Nat×AP),GI L a nest x'/\Nat.le (Nat.succ (HK L a-x'.1)) (HK L a-x.1)/\Aa/\((Af (some 9)/\x.2.2.length+1=x'.2.2.length/\Aa)/\(Aa/\AU (↑(DF (Kd L) (ES x.2.1) (nest+E9 L (CG L a) E.1 E.2)):Int)=(↑x'.2.1:Int))/\(Fq x.1 x'.1)/\eG L a nest)/\(Aa/\Aa/\Aa/\Aa/\(x.2.2.length+1)*1=x'.2.2.length/\AH λ(i:Nat)=>C1 i ((x.2.2.length+1)*1)->Ba [(1,1),(0,0),(7,9)] (rI x'.2.2 i) (DQ x.2.2.length (rI x.2.2) (λ(aq:Nat)=>[AV.int .i64 (ET L x.2.1)]) i))/\OJ L a))))))))) (Al (bif bif Nat.ble (x.2.2.length*1) x.2.2.length then Ed 1 x.2.2.length (rI x.2.2)else false then true else false) (Al (bif bif bif Nat.beq x.2.2.length x.2.2.length then true else false then true else false then bif Nat.beq x.2.2.length x.2.2.length then true else false else false) ((∃(S:AP),x.2.2.length=S.length/\rI x.2.2=rI S/\Nat.le S.length 100000000)/\Ah (!AW (Cq (BO (ET L a)) (Np x.2.2.length (rI x.2.2)))) (Mk L a nest) (Aa/\(↑x.2.1:Int)=(↑(DF L a nest):Int)))))))))))))
:=by
 delta Di ES CG KP Zt KS C1 EU ZA Fq HK Pb Ig ET Gr GO Mk Nk Kd Ml TM IF T8 Ke;intro N L a nest hL hN h0 h1;have hN:L.length-a<N+1:=hN;have h0:0<=nest:=h0;have h1:nest<=1000:=h1;simp only[Cd,NG,MI,UZ,U0,eG,PR,OJ,PS,eI,oJ,CG,Bh,Me,HM,Mo,Mm,Di,Ig,ET,ZE,Cx,Hb,HJ,C1,KP];have af:∀q:Nat,FP (A8 L q)=L.getD q LT.none:=λq=>NM _;have ag:∀(S:AP) (q:Nat),KM (rI S q)=S.getD q 0:=λS q=>rfl;simp only[K0,af,ag,Z4];have ao:=hL.len;have ab:=hL.text a;have M:DF L a nest=0->(0:Int)=((DF L a nest:Nat):Int):=λh=>by rw[h];rfl
 refine Aw (λh=>M (SD (.inl (by rw[EH,CF]at h;omega)))) λha=>Aw (λh=>M (SD (.inr (by rwa[CE]at h)))) λhn=>?_;rw[EG,CE]at ha;rw[CF]at hn;have aj:¬(L.length<=a\/64<nest):=by omega
 refine At (Cf.2 (by omega)) ?_;have O:∀(h:¬(1<=(L.getD a LT.none).kind/\(L.getD a LT.none).kind<=36)\/Fv (L.getD a LT.none).kind (L.getD a LT.none).text=false\/E2 (L.getD a LT.none).kind (L.getD a LT.none).n=false),(0:Int)=((DF L a nest:Nat):Int):=λh=>M (jO (by
  unfold L8;rcases h with h|h|h
  ·rw[Ej h];rfl
  ·rw[h];simp
  ·rw[h];simp))
 refine Aw (λh=>O (.inl (by rw[CE]at h;omega))) λk1=>Aw (λh=>O (.inl (by rw[CE]at h;omega))) λk2=>⟨ab,Aw (λh=>O (.inr (.inl (nf h)))) λk3=>Aw (λh=>O (.inr (.inr (nf h)))) λk4=>?_⟩;rw[CF]at k1 k2;have aa:L8 (L.getD a LT.none)=true:=by unfold L8;rw[Bi ⟨k1,k2⟩,nt k3,nt k4];rfl
 clear O ab k1 k2 k3 k4;refine At (CJ.2 (by omega)) ⟨⟨(0,a+1,[]),⟨CL _,AM _,by simp only;omega,rfl,rfl⟩,rfl,by simp,rfl⟩,λx hx=>?_⟩;obtain⟨i,next,l⟩:=x;obtain⟨ak,ai,al,ae,R⟩:=hx;simp only at ak ai al ae R⊢;refine Aw (λh=>?_) λh=>?_
 ·rw[CE]at h;have ad:i<(L.getD a LT.none).kids.length:=by omega
  have an:i<=1000000:=by omega
  rw[Qc _ _ ad]at R;have U:∀h:Hm L a nest ((L.getD a LT.none).kids.getD i 0::(L.getD a LT.none).kids.drop (i+1)) i next l=none,(0:Int)=((DF L a nest:Nat):Int):=λh=>M (jP (by rw[<-R];exact h))
  refine At (Cf.2 (by omega)) (Aw (λh2=>U (YE (.inl (by rw[EH,Dy]at h2;exact h2)))) λh2=>Aw (λh3=>U (YE (.inr (.inl (by rw[EH,CF]at h3;omega))))) λh3=>?_);rw[EG,C0]at h2;rw[EG,CE]at h3;have hm:=AeR L (L.getD a LT.none) i next
  refine⟨At (Cf.2 (by omega)) (Aw (λh4=>⟨(i,next),⟨λb J=>J.symm,λb J=>J.symm⟩,?_⟩) λh4=>⟨(i,next),⟨λb J=>J.symm,λb J=>J.symm⟩,?_⟩),λy hy=>?_⟩
  ·rw[C0]at h4;unfold J7;rw[Am h4]
  ·rw[Dy]at h4;unfold J7;rw[Ad h4]
  obtain⟨i',K⟩:=y;obtain⟨W,V⟩:=hy;have W:=W _ rfl;have V:=V _ rfl;simp only at W V⊢;obtain rfl:i=i':=by omega
  obtain rfl:next=K:=by omega
  refine⟨⟨⟨L,(L.getD a LT.none).kids,rfl,rfl,rfl,rfl,(show(0:Int)<=(i:Int) by omega),(show(i:Int)<((L.getD a LT.none).kids.length:Int) by omega),(show(0:Int)<=(L.getD a LT.none).kids.getD i 0 by omega),(show(L.getD a LT.none).kids.getD i 0<(L.length:Int) by omega),(show(i:Int)<=100000000 by omega)⟩,?_⟩,λy hy=>?_⟩
  ·have hp:Jv L (L.getD a LT.none) i=decide (0<C7 (L.getD ((L.getD a LT.none).kids.getD i 0).toNat LT.none).kind (L.getD ((L.getD a LT.none).kids.getD i 0).toNat LT.none).text/\C7 (L.getD ((L.getD a LT.none).kids.getD i 0).toNat LT.none).kind (L.getD ((L.getD a LT.none).kids.getD i 0).toNat LT.none).text<Fo (L.getD a LT.none).kind (L.getD a LT.none).text i):=rfl;rw[<-hp];refine Aw (λh5=>At (CJ.2 (by omega)) ⟨(i,next),⟨λb J=>J.symm,λb J=>J.symm⟩,?_⟩) λh5=>⟨(i,next),⟨λb J=>J.symm,λb J=>J.symm⟩,?_⟩
   ·unfold I4;rw[h5];rfl
   ·unfold I4;rw[h5];simp
  obtain⟨i',K⟩:=y;obtain⟨W,V⟩:=hy;have W:=W _ rfl;have V:=V _ rfl;simp only at W V⊢;obtain rfl:i=i':=by omega
  obtain rfl:next=K:=by omega
  refine⟨?_,λy hy=>?_⟩
  ·have ah:∀(Y:(L.getD a LT.none).kind=31/\i=1\/(L.getD a LT.none).kind=34\/(L.getD a LT.none).kind=35),I4 L (L.getD a LT.none) i next+1=E9 L (L.getD a LT.none) i next:=λY=>by unfold E9 I4 J7;rw[Am Y]
   have no:∀(Y:¬((L.getD a LT.none).kind=31/\i=1\/(L.getD a LT.none).kind=34\/(L.getD a LT.none).kind=35)),I4 L (L.getD a LT.none) i next=E9 L (L.getD a LT.none) i next:=λY=>by unfold E9 I4 J7;rw[Ad Y];omega
   have hR:BJ .i64 (I4 L (L.getD a LT.none) i next+1)=true:=CJ.2 (by omega)
   repeat' first
    |with_reducible refine Aw (λ_=>?_) (λ_=>?_)
    |with_reducible refine At hR ?_
   all_goals simp only[C0,Dy]at*
   all_goals first
    |exact⟨(i,next),⟨λb J=>J.symm,λb J=>J.symm⟩,ah (by omega)⟩
    |exact⟨(i,next),⟨λb J=>J.symm,λb J=>J.symm⟩,no (by omega)⟩
  obtain⟨i',K⟩:=y;obtain⟨W,V⟩:=hy;have W:=W _ rfl;have V:=V _ rfl;simp only at W V⊢;obtain rfl:i=i':=by omega
  obtain rfl:next=K:=by omega
  refine At (Cf.2 (by omega)) (At (Bi ⟨by omega,by omega⟩) (At (CJ.2 (by omega)) ⟨⟨L,rfl,rfl,hL,(show(0:Int)<=(next:Int) by omega),(show L.length-next<N by omega),(show(0:Int)<=nest+E9 L (L.getD a LT.none) i next by omega),(show nest+E9 L (L.getD a LT.none) i next<=1000 by omega)⟩,Aw (λY=>U (jT ?_)) λY=>At (CJ.2 (by omega)) ?_⟩))
  ·rw[C0]at Y;omega
  ·rw[Dy]at Y;have hz:DF L next (nest+E9 L (L.getD a LT.none) i next)≠0:=λe=>Y (by rw[e];rfl)
   have hg:=Ac8 hz;rw[jS (by omega) hz]at R;refine⟨(i+1,DF L next (nest+E9 L (L.getD a LT.none) i next),l++[(L.getD next LT.none).kind]),⟨ad,by simp only;omega,hg.2,by simp[ae],R⟩,by simp only;omega,⟨by simp,rfl,by simp⟩,by simp,?_⟩;exact⟨λj hj=>(Wv (row:=λz:Int=>[AV.int .i64 z]) (d:=0) (e:=1) (n:=l.length+1) (out:=l) (t:=(L.getD next LT.none).kind) (g:=λ_=>[AV.int .i64 (L.getD next LT.none).kind]) (λt=>⟨⟨rfl,rfl⟩,trivial⟩) rfl rfl).h j (by have:j<l.length+1:=hj;omega)⟩
 ·rw[CF]at h;obtain rfl:i=(L.getD a LT.none).kids.length:=by omega
  rw[List.drop_length,jR]at R;refine At (OX λi _=>rfl) ⟨⟨l,rfl,rfl,by omega⟩,?_⟩;have hs:=jQ aj aa R.symm;refine Aw (λh=>M ?_) λh=>?_
  ·rw[hs];simp only[nf h,Bool.false_eq_true,if_false]
  ·rw[hs];simp only[nt h,if_true]
theorem AhY:∀(N:Nat) (L:Ak) (a:Nat) (nest:Int),JT L->L.length-a<N+1->0<=nest->nest<=1000->(A4 (q3 N L a nest) 60).call 19 [tree L,.int .i64 a,.int .i64 nest] .leaf 0 (Cb Tryz.prog false (.int .i64 (DF L a nest))):=Eq.mpr (by kernel_rfl) AhZ
theorem Afr:∀N:Nat,Ck Tryz.prog 19 (Vm N):=by
 intro N
 induction N with
 |zero=>
  refine Fh (gl:=[]) (ng:=0) Bq λH args ct q=>?_;unfold Vm at q;split at q
  ·injection q with q;subst q;refine⟨Bq,_,_,rfl,?_⟩;rintro⟨L,rfl,rfl,B,K,y,E,C⟩;omega
  ·cases q
 |succ N J=>
  refine Fh (gl:=[]) (ng:=0) Bq λH args ct q=>?_;unfold Vm at q;split at q
  ·rename_i n f a nest;injection q with q;subst q;refine⟨Bq,_,_,rfl,?_⟩;rintro⟨L,rfl,rfl,B,K,y,E,C⟩;obtain⟨b,rfl⟩:∃b:Nat,a=b:=⟨a.toNat,by omega⟩;rw[Dr,K0];exact⟨⟨Nz L,⟨rfl,rfl⟩,⟨rfl,rfl⟩,trivial⟩,q3 N L b nest,60,rfl,Bu,Cj AfU (Cj AfE (Cj wL (Cj Afv (Cj J B5)))),AhY N L b nest B y E C⟩
  ·cases q
def Js (L:Ak):Bool:=decide (0<L.length)&&(decide ((L.getD 0 LT.none).kind=1)&&decide (DF L 0 0=L.length))
def Yf:Tr Ae->Aj->Option Ct:=λ_ args=>match args with
 | [.agg [.vec 6 n f]]=>some (.Be (∃L:Ak,n=L.length/\f=A8 L/\JT L) (.ret (.bool (AW (Js (KZ n f))))))
 |_=>none
theorem Aij:∀(L:Ak),JT L->Ah (AQ (0:Int) (GO L)) (Al (A9 (0:Int) L.length) (Ah (An (LT.kind (ID L)) (1:Int)) ((∃(q:Ak),L.length=q.length/\A8 L=A8 q/\JT q/\Int.NonNeg (0:Int)/\Nat.le (Nat.succ (q.length-0)) (L.length+1)/\Int.NonNeg (0:Int)/\Int.NonNeg (1000:Int))/\(((Af (AV.int .i64 (GO L))/\Af (AV.vec 6 L.length (A8 L))/\True/\True/\True/\True/\True/\True)/\True)/\((True/\True/\True/\True/\True/\True/\True/\True)/\True)/\True)/\An (AU (↑(DF (Kd L) 0 (0:Int)):Int)) (GO L)=Js L) ((I8/\True)/\false=Js L))) ((BS/\True)/\false=Js L)
:=by
 delta BS I8 ID GO Kd;intro L B;simp only[Cd];simp only[K0];unfold Js;refine Aw (λh=>At (Cf.2 (by rw[CE]at h;omega)) (Aw (λy=>⟨⟨L,rfl,rfl,B,(show(0:Int)<=0 by omega),(show L.length-0<L.length+1 by omega),(show(0:Int)<=0 by omega),(show(0:Int)<=1000 by omega)⟩,?_⟩) λy=>?_)) λh=>?_
 ·rw[CE]at h;rw[C0]at y;rw[Bi (show 0<L.length by omega),Bi y,DU,Bool.true_and,Bool.true_and];apply decide_eq_decide.2;omega
 ·rw[Dy]at y;rw[Ej y];simp
 ·rw[CF]at h;rw[Ej (by omega)];simp
theorem Aii:∀(L:Ak),JT L->(A4 (Eb [(19,Vm (L.length+1))]) 60).call 11 [tree L] .leaf 0 (Cb Tryz.prog false (.bool (Js L))):=Eq.mpr (by kernel_rfl) Aij
theorem wI:Ck Tryz.prog 11 Yf:=by
 refine Fh (gl:=[]) (ng:=0) Bq λH args ct q=>?_;unfold Yf at q;split at q
 ·rename_i n f;injection q with q;subst q;refine⟨Bq,_,_,rfl,?_⟩;rintro⟨L,rfl,rfl,y⟩;rw[Ea,K0];exact⟨⟨Nz L,trivial⟩,_,60,rfl,Bu,Cj (Afr _) B5,Aii L y⟩
 ·cases q
end Go.Proofs.YtlmmbanfhjaioaaGreatDoor
end
end
