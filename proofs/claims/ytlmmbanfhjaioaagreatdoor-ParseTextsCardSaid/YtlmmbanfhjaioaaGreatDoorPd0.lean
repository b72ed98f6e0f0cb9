/- Laid by program out of its parts: PdA, PdB, PdC, PdD, PdE. -/
import Derived.Test.YtlmmbanfhjaioaaGreatDoorPb5
import Derived.Test.YtlmmbanfhjaioaaGreatDoorMj
noncomputable section
set_option linter.unusedVariables false
set_option linter.unusedSimpArgs false
section
set_option maxRecDepth 100000
open Go Go.Ev
namespace Go.Proofs.YtlmmbanfhjaioaaGreatDoor
def JT:Ctx:={P:=Tryz.prog,tb:=[],lp:=λ_ _=>none,cut:=λ_ _=>none}
def tree (L:List LT):AV:=.agg [.vec 6 L.length (Bs L)]
def JV (l:List AV):LT:=match l with
 | [.int _ k,.bs t,.int _ n,.int _ a,.int _ b,.vec _ m f]=>⟨k,t,n,a,b,Nk m f⟩
 |_=>LT.none
def Ou (n:Nat) (f:Nat->List AV):List LT:=(List.range n).map λi=>JV (f i)
def E5 (k:Int):Bool:=decide (26<=k/\k<=36)
def JJ (k:Int):Bool:=decide (13<=k/\k<=25)
def ND (k:Int):Bool:=decide (k=2\/k=3\/k=6\/k=7\/k=8\/k=10\/k=11)
def XX (k:Int):Bool:=decide (k=29\/k=30\/k=31)
def D3 (k:Int) (s:List UInt8):Int:=if E5 k then(if k=32 then(if s=[60]\/s=[61,61]then 1 else if s=[43]\/s=[45]then 2 else 3)else if k=34\/k=35 then 4 else 5)else 0
def I4 (k:Int) (s:List UInt8) (i:Int):Int:=if k=32 then(if s=[60]\/s=[61,61]then 2 else if s=[43]\/s=[45]then 2+i else 3+i)else if k=34\/k=35 then 4 else if k=30 then 5 else if k=31 then 5-5*i else 0
def l8:Tr Ac->List AV->Option Ct:=λ_ args=>match args with
 | [.agg [.int .i64 k,.bs s,.int .i64 n,.int .i64 a,.int .i64 b,.vec 1 m f]]=>some (.A6 (∃S:List Int,m=S.length/\f=rI S) (.ret (.int .i64 (D3 k s))))
 |_=>none
def l9:Tr Ac->List AV->Option Ct:=λ_ args=>match args with
 | [.agg [.int .i64 k,.bs s,.int .i64 n,.int .i64 a,.int .i64 b,.vec 1 m f]]=>some (.A6 (∃S:List Int,m=S.length/\f=rI S) (.br (Ax (E5 k)) (.br (Ax (decide (k=32))) (.br (Ax (decide (s=[60]\/s=[61,61]))) (.ret (.int .i64 1)) (.br (Ax (decide (s=[43]\/s=[45]))) (.ret (.int .i64 2)) (.ret (.int .i64 3))))
   (.br (Ax (decide (k=34\/k=35))) (.ret (.int .i64 4)) (.ret (.int .i64 5)))) (.ret (.int .i64 0))))
 |_=>none
def lu:Tr Ac->List AV->Option Ct:=λ_ args=>match args with
 | [.agg [.int .i64 k,.bs s,.int .i64 n,.int .i64 a,.int .i64 b,.vec 1 m f],.int .i64 i]=>some (.A6 ((∃S:List Int,m=S.length/\f=rI S)/\0<=i/\i<=100000000) (.ret (.int .i64 (AY (I4 k s i)))))
 |_=>none
def mA:Tr Ac->List AV->Option Ct:=λ_ args=>match args with
 | [.int .i64 k]=>some (.A6 True (.ret (.bool (Ax (E5 k)))))
 |_=>none
theorem AeA {P:Program} {g:FuncId} {AE y:Tr Ac->List AV->Option Ct} (h:Ci P g AE) (K:∀H args ct,y H args=some ct->∃q,AE H args=some q/\∀p v,IY ct=some (p,v)->IY q=some (p,v)):Ci P g y:=by intro H args ct C p v B;obtain⟨q,J,E⟩:=K H args ct C;exact h H _ q J p v (E p v B)
theorem Ao3 (S:List Int) (i:Nat):AH [] (rI S i) (rI S i):=R4 [] S i
theorem fq (x:LT):AH [] x.row x.row:=KZ [] x
theorem R5 (L:List LT):AR [] (tree L) (tree L):=⟨⟨rfl,rfl,⟨λi _=>fq _⟩⟩,trivial⟩
theorem ZG (x:LT):JV x.row=x:=by cases x;simp only[LT.row,JV,U4]
theorem XF (L:List LT):Ou L.length (Bs L)=L:=by
 apply List.ext_getElem
 ·simp[Ou]
 ·intro i y q;simp[Ou,Bs,ZG,List.getD_eq_getElem?_getD,List.getElem?_eq_getElem q]
theorem nt {b:Bool} (h:(!b)=false):b=true:=by simpa using h
theorem nf {b:Bool} (h:(!b)=true):b=false:=by simpa using h
def Mg (a:LT):=D3 a.kind a.text
theorem AkH:∀(x:LT),Ad (!AP x.kind (26:Int)) (Ad (!!AP (36:Int) x.kind) (Aa/\(0:Int)=Mg x) (Ad (Ak x.kind (32:Int)) (Ad (decide (x.text=[(60:UInt8)])) (Aa/\(1:Int)=Mg x) (Ad (decide (x.text=[(61:UInt8),61])) (Aa/\(1:Int)=Mg x) (Ad (decide (x.text=[(43:UInt8)])) (Aa/\(2:Int)=Mg x) (Ad (decide (x.text=[(45:UInt8)])) (Aa/\(2:Int)=Mg x) (Aa/\(3:Int)=Mg x))))) (Ad (Ak x.kind (34:Int)) (Aa/\(4:Int)=Mg x) (Ad (Ak x.kind (35:Int)) (Aa/\(4:Int)=Mg x) (Aa/\(5:Int)=Mg x))))) (Aa/\(0:Int)=Mg x)
:=by
 delta Mg;intro x;simp only[A9];simp only[FH,EG,Dt,Bool.not_eq_true',Bool.not_eq_false',decide_eq_true_eq,decide_eq_false_iff_not];unfold D3 E5;simp only[decide_eq_true_eq]
 repeat' first
  |exact trivial
  |(refine And.intro ?_ ?_)
  |(intro h;simp only[h,if_true,if_false];done)
  |intro h
 all_goals grind
theorem AkG:∀(x:LT),(AG JT 60).call 72 [.agg x.row] .leaf 0 (Ch Tryz.prog false (.int .i64 (D3 x.kind x.text))):=Eq.mpr (by kernel_rfl) AkH
theorem AaF:Ci Tryz.prog 72 l8:=by
 refine EN (gl:=[]) (ng:=0) BQ λH args ct q=>?_;unfold l8 at q;split at q
 ·rename_i k s n a b m f;injection q with q;subst q;refine⟨BQ,_,_,rfl,?_⟩;rintro⟨S,rfl,rfl⟩;exact⟨⟨fq ⟨k,s,n,a,b,S⟩,trivial⟩,JT,60,rfl,AW,Bc,AkG ⟨k,s,n,a,b,S⟩⟩
 ·cases q
theorem AhT:Ci Tryz.prog 72 l9:=by
 refine AeA AaF λH args ct q=>?_;unfold l9 at q;split at q
 ·rename_i k s n a b m f;injection q with q;subst q;refine⟨_,rfl,λp v h=>?_⟩;have h':(open Classical in if(∃S:List Int,m=S.length/\f=rI S)then IY (Ct.br (Ax (E5 k)) (.br (Ax (decide (k=32))) (.br (Ax (decide (s=[60]\/s=[61,61]))) (.ret (.int .i64 1)) (.br (Ax (decide (s=[43]\/s=[45]))) (.ret (.int .i64 2)) (.ret (.int .i64 3))))
   (.br (Ax (decide (k=34\/k=35))) (.ret (.int .i64 4)) (.ret (.int .i64 5)))) (.ret (.int .i64 0)))else none)=some (p,v):=h
  split at h'
  case isFalse=>cases h'
  rename_i C;refine(if_pos C).trans ?_;rw[<-h'];show some (false,AV.int .i64 (D3 k s))=cond (Ax (E5 k)) (cond (Ax (decide (k=32))) (cond (Ax (decide (s=[60]\/s=[61,61]))) (some (false,AV.int .i64 1)) (cond (Ax (decide (s=[43]\/s=[45]))) (some (false,AV.int .i64 2)) (some (false,AV.int .i64 3)))) (cond (Ax (decide (k=34\/k=35))) (some (false,AV.int .i64 4)) (some (false,AV.int .i64 5)))) (some (false,AV.int .i64 0));simp only[DT];unfold D3;cases E5 k with
  |false=>rfl
  |true=>
   by_cases B:k=32
   ·by_cases y:s=[60]\/s=[61,61]
    ·simp[B,y]
    ·by_cases E:s=[43]\/s=[45]<;>simp[B,y,E]
   ·by_cases y:k=34\/k=35<;>simp[B,y]
 ·cases q
@[reducible] def YK:LT->Prop:=λ(x:LT)=>(True/\Ab (AV.agg [AV.int .i64 x.kind,AV.bs x.text,AV.int .i64 x.n,AV.int .i64 x.line,AV.int .i64 x.Ag,AV.vec 1 x.kids.length (rI x.kids)])/\True/\True/\True)/\True
@[reducible] def jW:LT->Prop:=λ(x:LT)=>YK x/\((True/\True/\Ab (AV.int .i64 (2:Int))/\True/\True)/\True)/\Hi/\True
@[reducible] def jY:LT->Prop:=λ(x:LT)=>YK x/\((True/\True/\Ab (BX)/\True/\True)/\True)/\Hi/\True
@[reducible] def jZ:LT->Prop:=λ(x:LT)=>YK x/\((True/\True/\Ab (AV.int .i64 (3:Int))/\True/\True)/\True)/\Hi/\True
def JG (a:LT):=I4 a.kind a.text
@[reducible] def j7:LT->Int->Prop:=λ(x:LT) (i:Int)=>jW x/\Aa/\(2:Int)=JG x i
@[reducible] def j8:LT->Int->Prop:=λ(x:LT) (i:Int)=>jZ x/\Aa/\(3:Int)=JG x i
@[reducible] def j9:LT->Int->Prop:=λ(x:LT) (i:Int)=>jY x/\Aa/\(0:Int)=JG x i
@[reducible] def ja:LT->Int->Prop:=λ(x:LT) (i:Int)=>jY x/\Aa/\(0:Int)+i=JG x i
@[reducible] def jb:LT->Int->Prop:=λ(x:LT) (i:Int)=>jZ x/\Aa/\(3:Int)+i=JG x i
@[reducible] def jc:LT->Int->Prop:=λ(x:LT) (i:Int)=>jW x/\Aa/\(2:Int)+i=JG x i
def T9 (a:LT):=Ad (Ax (decide (a.text=[(60:UInt8)]\/a.text=[(61:UInt8),61])))
def Pr (a:LT):=(∃(q:List Int),a.kids.length=q.length/\rI a.kids=rI q)
def Uq (a:LT):=Ad (Ax (decide (a.text=[(43:UInt8)]\/a.text=[(45:UInt8)])))
def Ur (a:LT):=Ap (Ax (decide (a.kind=(34:Int)\/a.kind=(35:Int)))) False
def UF (a:LT):=Ad (Ax (decide (a.kind=(32:Int))))
def UQ (a:LT):=Ad (Ax (E5 a.kind))
@[reducible] def jX:LT->Int->Prop:=λ(x:LT) (i:Int)=>(Pr x)/\UQ x (UF x (T9 x (j7 x i) (Uq x (Ap (Bo .i64 ((2:Int)+i)) (jc x i)) (Ap (Bo .i64 ((2:Int)+i)) (jc x i)))) (Ur x)) (j7 x i)
theorem AlC:∀(x:LT) (i:Int),Int.NonNeg (i-0)->Int.NonNeg ((100000000:Int)-i)->Ad (Ak x.kind (32:Int)) ((Pr x)/\UQ x (UF x (T9 x (jX x i) (Uq x (jX x i) ((Pr x)/\UQ x (UF x (T9 x (j8 x i) (Uq x (Ap (Bo .i64 ((3:Int)+i)) (jb x i)) (Ap (Bo .i64 ((3:Int)+i)) (jb x i)))) (Ur x)) (j8 x i)))) (Ur x)) ((Pr x)/\UQ x (UF x (T9 x (j9 x i) (Uq x (Ap (Bo .i64 ((0:Int)+i)) (ja x i)) (Ap (Bo .i64 ((0:Int)+i)) (ja x i)))) (Ur x)) (j9 x i))) (Ad (Ak x.kind (34:Int)) (Aa/\(4:Int)=JG x i) (Ad (Ak x.kind (35:Int)) (Aa/\(4:Int)=JG x i) (Ad (Ak x.kind (30:Int)) (Aa/\(5:Int)=JG x i) (Ad (Ak x.kind (31:Int)) (Ap (Bo .i64 ((5:Int)*i)) (Ap (Bo .i64 ((5:Int)-5*i)) (Aa/\(5:Int)-5*i=JG x i))) (Aa/\(0:Int)=JG x i)))))
:=by
 delta T9 Pr Uq Ur JG UF UQ;intro x i B y;have B:0<=i:=B;have y:i<=100000000:=y;have q:∃S:List Int,x.kids.length=S.length/\rI x.kids=rI S:=⟨_,rfl,rfl⟩;simp only[A9,YK,jW,jY,jZ,j7,j8,j9,ja,jb,jc,jX,Hi,BX,JG,T9,Pr,Uq,Ur,UF,UQ];simp only[q,true_and,FH,Eh,EG,Dt,Be,Bool.not_eq_true',Bool.not_eq_false',decide_eq_true_eq,decide_eq_false_iff_not];unfold I4 E5;simp only[decide_eq_true_eq,decide_eq_false_iff_not];generalize x.kind=k;generalize x.text=s;clear q
 repeat' first
  |exact trivial
  |(refine And.intro ?_ ?_)
  |intro h
 all_goals grind
theorem AlB:∀(x:LT) (i:Int),0<=i->i<=100000000->(AG (D4 [(72,l9)]) 60).call 73 [.agg x.row,.int .i64 i] .leaf 0 (Ch Tryz.prog false (.int .i64 (I4 x.kind x.text i))):=Eq.mpr (by kernel_rfl) AlC
theorem AmB:∀(k:Int),Ad (!AP k (26:Int)) ((!AP (36:Int) k)=E5 k) (false=E5 k)
:=by
 intro k;simp only[FH,EG,Dt,Bool.not_eq_true',Bool.not_eq_false',decide_eq_true_eq,decide_eq_false_iff_not];unfold E5
 grind
theorem AmA:∀(k:Int),(AG JT 60).call 43 [.int .i64 k] .leaf 0 (Ch Tryz.prog false (.bool (E5 k))):=Eq.mpr (by kernel_rfl) AmB
theorem Ail:Ci Tryz.prog 73 lu:=by
 refine EN (gl:=[]) (ng:=0) BQ λH args ct q=>?_;unfold lu at q;split at q
 ·rename_i k s n a b m f i;injection q with q;subst q;refine⟨BQ,_,_,rfl,?_⟩;rintro⟨⟨S,rfl,rfl⟩,B,y⟩;exact⟨⟨fq ⟨k,s,n,a,b,S⟩,⟨rfl,rfl⟩,trivial⟩,_,60,rfl,AW,Cw AhT Bc,by rw[Du];exact AlB ⟨k,s,n,a,b,S⟩ i B y⟩
 ·cases q
theorem AiN:Ci Tryz.prog 43 mA:=by
 refine EN (gl:=[]) (ng:=0) BQ λH args ct q=>?_;unfold mA at q;split at q
 ·rename_i k;injection q with q;subst q;exact⟨BQ,_,_,rfl,λ_=>⟨⟨⟨rfl,rfl⟩,trivial⟩,JT,60,rfl,AW,Bc,by rw[DT];exact AmA k⟩⟩
 ·cases q
def K5 (i:Nat) (b:UInt8):Bool:=Ha (b.toNat:Int)||(!decide (i=0)&&AZ (b.toNat:Int))
def Fv (l:List UInt8):Bool:=(List.range l.length).all (λi=>K5 i (l.getD i 0))&&(decide (l≠[])&&(decide (l.length<=32)&& !Dm l))
structure NR (l:List UInt8) (k:Nat):Prop where
 le:k<=l.length
 all:∀j,j<k->K5 j (l.getD j 0)=true
def uJ (l:List UInt8):CV:=thin Nat [0,2] (λk=>[(3,.int .i64 k)]) (λ_ k=>NR l k) λk=>l.length-k
def mI:Tr Ac->List AV->Option Ct:=λ_ args=>match args with
 | [.bs s]=>some (.A6 True (.ret (.bool (Ax (Dm s)))))
 |_=>none
def ZN:Tr Ac->List AV->Option Ct:=λ_ args=>match args with
 | [.bs l]=>some (.A6 (l.length<=1000000) (.ret (.bool (Ax (Fv l)))))
 |_=>none
def sc:DQ:=[(31,KG Ha),(32,KG AZ),(33,mI)]
def Jk (s:List UInt8):Bool:=decide (s=[105,110,116]\/s=[102,110]\/s=[116,111,107]\/s=[104,97,110,100]\/s=[97,114,114])||Fv s
def pG (s:List UInt8):Bool:=decide (s=[43]\/s=[45]\/s=[42]\/s=[60]\/s=[61,61])
def G6 (k:Int) (s:List UInt8):Bool:=if k=5 then Jk s else if k=32 then pG s else if k=2\/k=3\/k=4\/k=6\/k=7\/k=8\/k=10\/k=13\/k=19\/k=21\/k=22\/k=29\/k=30\/k=33 then Fv s else decide (s=[])
def Gc (k n:Int):Bool:=if k=9 then decide (0<=n/\n<=3)else if k=10 then decide (n=0\/n=1)else if k=19 then decide (-1<=n/\n<=2147483647)else if k=26 then decide (0<=n/\n<=2147483647)else decide (n=0)
def mD:Tr Ac->List AV->Option Ct:=λ_ args=>match args with
 | [.int .i64 k,.bs s]=>some (.A6 (s.length<=1000000) (.ret (.bool (Ax (G6 k s)))))
 |_=>none
def lx:Tr Ac->List AV->Option Ct:=λ_ args=>match args with
 | [.int .i64 k,.int .i64 n]=>some (.A6 True (.ret (.bool (Ax (Gc k n)))))
 |_=>none
def mH:Tr Ac->List AV->Option Ct:=λ_ args=>match args with
 | [.bs s]=>some (.A6 (s.length<=1000000) (.ret (.bool (Ax (Jk s)))))
 |_=>none
def uC (s:List UInt8):Prop:=(AG JT 200).call 33 [.bs s] .leaf 0 (Ch Tryz.prog false (.bool (Dm s)))
theorem Ann (s:List UInt8):uC s:=Eq.mpr (show uC s=Zp s (Dm s) Nt by kernel_rfl) (lI s _ Nt rfl)
theorem Ai9:Ci Tryz.prog 33 mI:=by
 refine EN (gl:=[]) (ng:=0) BQ λH args ct q=>?_;unfold mI at q;split at q
 ·rename_i l;injection q with q;subst q;exact⟨BQ,_,_,rfl,λ_=>⟨⟨rfl,trivial⟩,JT,200,rfl,AW,Bc,by rw[DT];exact Ann l⟩⟩
 ·cases q
theorem AaN {g:FuncId} {f:Int->Bool} (h:∀z:Int,(AG JT 40).call g [.int .u8 z] .leaf 0 (Ch Tryz.prog false (.bool (f z)))):Ci Tryz.prog g (KG f):=by
 refine NG (gl:=[]) (ng:=0) BQ λH args ct q=>?_;unfold KG at q;split at q
 ·rename_i z;injection q with q;subst q;exact⟨BQ,⟨⟨rfl,rfl⟩,trivial⟩,_,_,rfl,λ_=>⟨JT,40,rfl,AW,Bc,by rw[DT];exact h z⟩⟩
 ·cases q
def p8 (a:Int):=Ad (!AP a (65:Int)) (Ad (!AP (90:Int) a) (true=Ha a) (Ak a (95:Int)=Ha a)) (Ak a (95:Int)=Ha a)
theorem Aln:∀(z:Int),Ad (!AP z (97:Int)) (Ad (!AP (122:Int) z) (true=Ha z) (p8 z)) (p8 z)
:=by
 delta p8;intro z;simp only[FH,EG,Dt,Bool.not_eq_true',Bool.not_eq_false',decide_eq_true_eq,decide_eq_false_iff_not];unfold Ha
 grind
theorem Alm:∀z:Int,(AG JT 40).call 31 [.int .u8 z] .leaf 0 (Ch Tryz.prog false (.bool (Ha z))):=Eq.mpr (by kernel_rfl) Aln
theorem AkV:∀(z:Int),Ad (!AP z (48:Int)) ((!AP (57:Int) z)=AZ z) (false=AZ z)
:=by
 intro z;simp only[FH,EG,Dt,Bool.not_eq_true',Bool.not_eq_false',decide_eq_true_eq,decide_eq_false_iff_not];unfold AZ
 grind
theorem AkU:∀z:Int,(AG JT 40).call 32 [.int .u8 z] .leaf 0 (Ch Tryz.prog false (.bool (AZ z))):=Eq.mpr (by kernel_rfl) AkV
theorem Aox:DP Tryz.prog sc:=Cw (AaN Alm) (Cw (AaN AkU) (Cw Ai9 Bc))
theorem AhA {l:List UInt8} {k:Nat} (h:NR l k) (y:k<l.length) (hb:K5 k (l.getD k 0)=true):NR l (k+1):=⟨y,λj B=>by
  rcases Nat.lt_or_ge j k with q|q
  ·exact h.all j q
  ·rw[show j=k by omega];exact hb⟩
theorem Aaj {l:List UInt8} {k:Nat} (h:k<l.length) (hb:K5 k (l.getD k 0)=false):Fv l=false:=by
 have:((List.range l.length).all λi=>K5 i (l.getD i 0))=false:=by rw[List.all_eq_false];exact⟨k,List.mem_range.2 h,by rw[hb];simp⟩
 unfold Fv;rw[this];rfl
theorem Ahw {l:List UInt8} (h:NR l l.length):Fv l=(decide (l≠[])&&(decide (l.length<=32)&& !Dm l)):=by
 have:((List.range l.length).all λi=>K5 i (l.getD i 0))=true:=by rw[List.all_eq_true];intro i hi;exact h.all i (List.mem_range.1 hi)
 unfold Fv;rw[this];rfl
@[reducible] def jd:List UInt8->Nat->Nat->Prop:=λ(l:List UInt8) (a q:Nat)=>NR l q/\Nat.le (Nat.succ (l.length-q)) (l.length-a)/\Aa/\((D6 a q)/\l=l/\Ab false/\True)/\True
theorem AlF:∀(l:List UInt8),LC l->(∃(U:Nat),NR l U/\Aa/\((Fg U)/\l=l/\Ab false/\True)/\True)/\∀(x:Nat),NR l x->Ad (AP (↑x:Int) (Int.ofNat l.length)) (Ap (Bn (↑x:Int) l.length) (True/\Ad (!Ax (Ha (↑(UInt8.toNat (List.getD l (CD x) (0:UInt8))):Int))) (Ad (Ak (↑x:Int) (0:Int)) (false=Fv l) (Ap (Bn (↑x:Int) l.length) (True/\Ad (!Ax (AZ (↑(UInt8.toNat (List.getD l (CD x) (0:UInt8))):Int))) (false=Fv l) (DH x (∃(q:Nat),jd l x q))))) (DH x (∃(q:Nat),jd l x q)))) (Ad (!decide (l=[])) (Ad (!AP (32:Int) (Int.ofNat l.length)) (True/\(!Ax (Dm l))=Fv l) (false=Fv l)) (false=Fv l))
:=by
 delta CD DH Fg LC;intro l V;have V:l.length<=1000000:=V;simp only[A9,jd,D6];refine⟨⟨0,⟨Nat.zero_le _,λj Z=>by omega⟩,by trivial⟩,λx K=>Aj (λh=>?_) λh=>?_⟩
 ·rw[B1]at h;have E:x<l.length:=by omega
  have hb:Bn (x:Int) l.length=true:=BJ.2 (by omega);have W:Bo .i64 ((x:Int)+1)=true:=Be.2 (by omega);have y:K5 x (l.getD x 0)=true->∃q,NR l q/\l.length-q<l.length-x/\(q:Int)=(x:Int)+1:=λh=>⟨x+1,AhA K E h,by omega,by omega⟩;refine An hb (Aj (λB=>Aj (λM=>?_) λM=>?_) λB=>?_)
  ·rw[BL]at M;have C:x=0:=by omega
   exact(Aaj E (by unfold K5;rw[nf B,decide_eq_true C];rfl)).symm
  ·rw[BU]at M;have C:¬x=0:=by omega
   refine An hb (Aj (λL=>?_) λL=>?_)
   ·exact(Aaj E (by unfold K5;rw[nf B,nf L];simp)).symm
   ·refine An W ?_;obtain⟨q,S,R,O⟩:=y (by unfold K5;rw[nt L,decide_eq_false C];simp);exact⟨q,S,R,by rw[O]⟩
  ·refine An W ?_;obtain⟨q,S,R,O⟩:=y (by unfold K5;rw[nt B];rfl);exact⟨q,S,R,by rw[O]⟩
 ·rw[Cg]at h;have Y:=K.le;obtain rfl:x=l.length:=by omega
  rw[Ahw K];refine Aj (λJ=>Aj (λB=>?_) λB=>?_) λJ=>?_
  ·rw[Bool.not_eq_true',Cg]at B;have J:=of_decide_eq_false (nf J);rw[decide_eq_true J,decide_eq_true (show l.length<=32 by omega)];rfl
  ·rw[Bool.not_eq_false',B1]at B;rw[decide_eq_false (show¬l.length<=32 by omega)];simp
  ·rw[decide_eq_false (show¬l≠[]fromλh=>h (of_decide_eq_true (nt J)))];rfl
theorem AlE:∀(l:List UInt8),l.length<=1000000->(AG (JU sc 71 2 (uJ l)) 60).call 71 [.bs l] .leaf 0 (Ch Tryz.prog false (.bool (Fv l))):=Eq.mpr (by kernel_rfl) AlF
theorem AaH:Ci Tryz.prog 71 ZN:=by
 refine EN (gl:=[]) (ng:=0) BQ λH args ct q=>?_;unfold ZN at q;split at q
 ·rename_i l;injection q with q;subst q;exact⟨BQ,_,_,rfl,λy=>⟨⟨rfl,trivial⟩,JU sc 71 2 (uJ l),60,rfl,AW,Aox,by rw[DT];exact AlE l y⟩⟩
 ·cases q
theorem Am5:∀(s:List UInt8),LC s->Ad (decide (s=[(105:UInt8),110,116])) (true=Jk s) (Ad (decide (s=[(102:UInt8),110])) (true=Jk s) (Ad (decide (s=[(116:UInt8),111,107])) (true=Jk s) (Ad (decide (s=[(104:UInt8),97,110,100])) (true=Jk s) (Ad (decide (s=[(97:UInt8),114,114])) (true=Jk s) (LC s/\Ax (Fv s)=Jk s)))))
:=by
 delta LC;intro s q;have q:s.length<=1000000:=q;simp only[A9];simp only[q,true_and,FH,Bool.not_eq_true',Bool.not_eq_false',decide_eq_true_eq,decide_eq_false_iff_not];unfold Jk
 grind
theorem Am4:∀(s:List UInt8),s.length<=1000000->(AG (D4 [(71,ZN)]) 60).call 69 [.bs s] .leaf 0 (Ch Tryz.prog false (.bool (Jk s))):=Eq.mpr (by kernel_rfl) Am5
theorem Ai0:Ci Tryz.prog 69 mH:=by
 refine EN (gl:=[]) (ng:=0) BQ λH args ct q=>?_;unfold mH at q;split at q
 ·rename_i l;injection q with q;subst q;exact⟨BQ,_,_,rfl,λy=>⟨⟨rfl,trivial⟩,_,60,rfl,AW,Cw AaH Bc,by rw[DT];exact Am4 l y⟩⟩
 ·cases q
def JA (a:List UInt8) (b:Int):=(Nat.le a.length 1000000/\Ax (Fv a)=G6 b a)
theorem AmF:∀(k:Int) (s:List UInt8),LC s->Ad (Ak k (5:Int)) (LC s/\Ax (Jk s)=G6 k s) (Ad (Ak k (32:Int)) (Ad (decide (s=[(43:UInt8)])) (true=G6 k s) (Ad (decide (s=[(45:UInt8)])) (true=G6 k s) (Ad (decide (s=[(42:UInt8)])) (true=G6 k s) (Ad (decide (s=[(60:UInt8)])) (true=G6 k s) (decide (s=[(61:UInt8),61])=G6 k s))))) (Ad (Ak k (2:Int)) (JA s k) (Ad (Ak k (3:Int)) (JA s k) (Ad (Ak k (4:Int)) (JA s k) (Ad (Ak k (6:Int)) (JA s k) (Ad (Ak k (7:Int)) (JA s k) (Ad (Ak k (8:Int)) (JA s k) (Ad (Ak k (10:Int)) (JA s k) (Ad (Ak k (13:Int)) (JA s k) (Ad (Ak k (19:Int)) (JA s k) (Ad (Ak k (21:Int)) (JA s k) (Ad (Ak k (22:Int)) (JA s k) (Ad (Ak k (29:Int)) (JA s k) (Ad (Ak k (30:Int)) (JA s k) (Ad (Ak k (33:Int)) (JA s k) (decide (s=[])=G6 k s))))))))))))))))
:=by
 delta JA LC;intro k s q;have q:s.length<=1000000:=q;simp only[A9];simp only[q,true_and,FH,Dt,Bool.not_eq_true',Bool.not_eq_false',decide_eq_true_eq,decide_eq_false_iff_not];unfold G6 pG
 grind
theorem runText:∀(k:Int) (s:List UInt8),s.length<=1000000->(AG (D4 [(71,ZN),(69,mH)]) 60).call 38 [.int .i64 k,.bs s] .leaf 0 (Ch Tryz.prog false (.bool (G6 k s))):=Eq.mpr (by kernel_rfl) AmF
theorem AiP:Ci Tryz.prog 38 mD:=by
 refine EN (gl:=[]) (ng:=0) BQ λH args ct q=>?_;unfold mD at q;split at q
 ·rename_i k l;injection q with q;subst q;exact⟨BQ,_,_,rfl,λy=>⟨⟨⟨rfl,rfl⟩,rfl,trivial⟩,_,60,rfl,AW,Cw AaH (Cw Ai0 Bc),by rw[DT];exact runText k l y⟩⟩
 ·cases q
theorem AlI:∀(k n:Int),Ad (Ak k (9:Int)) (Ad (!AP n (0:Int)) ((!AP (3:Int) n)=Gc k n) (false=Gc k n)) (Ad (Ak k (10:Int)) (Ad (Ak n (0:Int)) (true=Gc k n) (Ak n (1:Int)=Gc k n)) (Ad (Ak k (19:Int)) (Ad (!AP n (Int.negSucc 0)) ((!AP (2147483647:Int) n)=Gc k n) (false=Gc k n)) (Ad (Ak k (26:Int)) (Ad (!AP n (0:Int)) ((!AP (2147483647:Int) n)=Gc k n) (false=Gc k n)) (Ak n (0:Int)=Gc k n))))
:=by
 intro k n;simp only[FH,Dt,EG,Bool.not_eq_true',Bool.not_eq_false',decide_eq_true_eq,decide_eq_false_iff_not];unfold Gc
 grind
theorem AlH:∀(k n:Int),(AG JT 60).call 39 [.int .i64 k,.int .i64 n] .leaf 0 (Ch Tryz.prog false (.bool (Gc k n))):=Eq.mpr (by kernel_rfl) AlI
theorem Ain:Ci Tryz.prog 39 lx:=by
 refine EN (gl:=[]) (ng:=0) BQ λH args ct q=>?_;unfold lx at q;split at q
 ·rename_i k n;injection q with q;subst q;exact⟨BQ,_,_,rfl,λy=>⟨⟨⟨rfl,rfl⟩,⟨rfl,rfl⟩,trivial⟩,JT,60,rfl,AW,Bc,by rw[DT];exact AlH k n⟩⟩
 ·cases q
def ly:Tr Ac->List AV->Option Ct:=λ_ args=>match args with
 | [.agg [.vec 6 n f],.agg [.int .i64 k,.bs s,.int .i64 z,.int .i64 a,.int .i64 b,.vec 1 m g],.int .i64 i]=>some (.A6 (∃(L:List LT) (S:List Int),n=L.length/\f=Bs L/\m=S.length/\g=rI S/\0<=i/\i<S.length/\0<=S.getD i.toNat 0/\S.getD i.toNat 0<L.length/\i<=100000000)
   (.ret (.bool (Ax (decide (0<D3 (JV (f (Lk (g i.toNat)).toNat)).kind (JV (f (Lk (g i.toNat)).toNat)).text/\D3 (JV (f (Lk (g i.toNat)).toNat)).kind (JV (f (Lk (g i.toNat)).toNat)).text<I4 k s i))))))
 |_=>none
def Pe (L:List LT) (w:LT) (i:Nat):Bool:=decide (0<D3 (L.getD (w.kids.getD i 0).toNat LT.none).kind (L.getD (w.kids.getD i 0).toNat LT.none).text/\D3 (L.getD (w.kids.getD i 0).toNat LT.none).kind (L.getD (w.kids.getD i 0).toNat LT.none).text<I4 w.kind w.text i)
def tbP:DQ:=[(72,l8),(73,lu)]
def Cb (k:Int):List UInt8:=if k=1 then [42,100]else if k=3 then [42,109]else if k=4\/k=6 then [121]else if k=7\/k=9\/k=11\/k=36 then [98]else if k=8 then [117,42,108]else if k=10 then [117,98]else if k=12 then [42,115]else if k=13 then [121,101]else if k=14 then [118,101]
 else if k=15\/k=16\/k=17\/k=18\/k=30\/k=34\/k=35 then [101]else if k=19\/k=20 then [101,63,118]else if k=23 then [101,98,98]else if k=24 then [101,98]else if k=31\/k=32 then [101,101]else []
def Bq (c:Int) (k:Int):Bool:=if c=121 then decide (k=5)else if c=98 then decide (k=12)else if c=117 then decide (k=29)else if c=101 then E5 k else if c=118 then XX k else if c=115 then JJ k else if c=100 then ND k else if c=109 then decide (k=4)else decide (k=9)
def fK (f:Int->Bool) (l:List Int):List Int:=match l with
 |x::t=>if f x then t else l
 | []=>[]
def C3:List UInt8->List Int->Bool
 | [],l=>l.isEmpty
 | [c],l=>match l with
  |x::t=>Bq (c.toNat:Int) x&&t.isEmpty
  | []=>false
 |c::d::s,l=>if c=42 then C3 s (l.dropWhile (Bq (d.toNat:Int)))else if c=63 then C3 s (fK (Bq (d.toNat:Int)) l)else match l with
  |x::t=>Bq (c.toNat:Int) x&&C3 (d::s) t
  | []=>false
def lj:Tr Ac->List AV->Option Ct:=λ_ args=>match args with
 | [.int .i64 k]=>some (.A6 True (.ret (.bs (AY (Cb k)))))
 |_=>none
def ld:Tr Ac->List AV->Option Ct:=λ_ args=>match args with
 | [.int .i64 k,.int .u8 c]=>some (.A6 True (.ret (.bool (Ax (Bq c k)))))
 |_=>none
def lg:Tr Ac->List AV->Option Ct:=λ_ args=>match args with
 | [.int .i64 k,.vec 1 n f]=>some (.A6 (∃S:List Int,n=S.length/\f=rI S/\S.length<=100000000) (.ret (.bool (Ax (C3 (Cb k) (Nk n f))))))
 |_=>none
structure KO (s:List UInt8) (l:List Int) (x:Nat×Nat):Prop where
 p:x.1<=s.length
 i:x.2<=l.length
 eq:C3 (s.drop x.1) (l.drop x.2)=C3 s l
structure KI (s:List UInt8) (l:List Int) (a i:Nat):Prop where
 pl:a<s.length
 il:i<=l.length
 eq:C3 (s.drop (a+1)) ((l.drop i).dropWhile (Bq ((s.getD a 0).toNat:Int)))=C3 s l
def SKo (s:List UInt8) (l:List Int):CV:=thin (Nat×Nat) [0,1,5] (λx=>[(6,.int .i64 x.2),(7,.int .i64 x.1)]) (λ_ x=>KO s l x) λx=>s.length-x.1
def SKi (s:List UInt8) (l:List Int):CV:=thin Nat [0,1,5,7] (λi=>[(6,.int .i64 i)]) (λst i=>∀a,st.T.get 7=some (.int .i64 a)->KI s l a.toNat i) λi=>l.length-i
def vv (s:List UInt8) (l:List Int):Ctx:={P:=Tryz.prog,tb:=[(74,lj),(75,ld)],lp:=λf r=>cond (Nat.beq f 41) (cond (Nat.beq r 4) (some (SKo s l)) (cond (Nat.beq r 12) (some (SKi s l)) none)) none,cut:=λ_ _=>none}
def Q9 (a:List LT) (b:LT) (c:Nat):=List.getD a (Int.toNat (List.getD b.kids (CD c) (0:Int))) LT.none
theorem AlW:∀(L:List LT) (x:LT) (i:Nat),AM i x.kids.length->Int.NonNeg (List.getD x.kids i (0:Int)-0)->Int.NonNeg ((↑L.length:Int)-(List.getD x.kids i (0:Int)+1))->Nat.le i 100000000->Ap (Bn (↑i:Int) x.kids.length) (Ap (Bn (List.getD x.kids (CD i) (0:Int)) L.length) ((∃(S:List Int),List.length (LT.kids (Q9 L x i))=S.length/\rI (LT.kids (Q9 L x i))=rI S)/\(Hi/\Hi/\True)/\Ad (AP (0:Int) (D3 (LT.kind (Q9 L x i)) (LT.text (Q9 L x i)))) (((Pr x)/\Int.NonNeg ((↑i:Int)-0)/\Int.NonNeg ((100000000:Int)-(↑i:Int)))/\AP (D3 (LT.kind (Q9 L x i)) (LT.text (Q9 L x i))) (AY (JG x (↑i:Int)))=Pe L x i) (false=Pe L x i)))
:=by
 delta CD AM Hi Q9 Pr JG;intro L x i J E C B;have J:i<x.kids.length:=J;have E:0<=x.kids.getD i 0:=E;have C:x.kids.getD i 0<L.length:=C;have B:i<=100000000:=B;have K:∀y:LT,∃S:List Int,y.kids.length=S.length/\rI y.kids=rI S:=λy=>⟨_,rfl,rfl⟩;simp only[A9];refine An (BJ.2 (by omega)) (An (BJ.2 (by omega)) ⟨⟨_,rfl,rfl⟩,?_⟩);unfold Pe;generalize D3 (L.getD (x.kids.getD i 0).toNat LT.none).kind (L.getD (x.kids.getD i 0).toNat LT.none).text=q;refine Aj (λh=>⟨⟨K x,(show(0:Int)<=(i:Int) by omega),(show(i:Int)<=100000000 by omega)⟩,?_⟩) λh=>?_
 ·rw[B1]at h;rw[EG];simp[h]
 ·rw[Cg]at h;rw[decide_eq_false (by omega)]
theorem AlV:∀(L:List LT) (x:LT) (i:Nat),i<x.kids.length->0<=x.kids.getD i 0->x.kids.getD i 0<L.length->i<=100000000->(AG (D4 tbP) 60).call 40 [tree L,.agg x.row,.int .i64 i] .leaf 0 (Ch Tryz.prog false (.bool (Pe L x i))):=Eq.mpr (by kernel_rfl) AlW
theorem Aiq:Ci Tryz.prog 40 ly:=by
 refine EN (gl:=[]) (ng:=0) BQ λH args ct y=>?_;unfold ly at y;split at y
 ·rename_i n f k s z a b m g i;injection y with y;subst y;refine⟨BQ,_,_,rfl,?_⟩;rintro⟨L,S,rfl,rfl,rfl,rfl,O,E,C,B,M⟩;obtain⟨j,rfl⟩:∃j:Nat,i=j:=⟨i.toNat,by omega⟩;refine⟨⟨R5 L,fq ⟨k,s,z,a,b,S⟩,⟨rfl,rfl⟩,trivial⟩,D4 tbP,60,rfl,AW,Cw AaF (Cw Ail Bc),?_⟩;have:=AlV L ⟨k,s,z,a,b,S⟩ j (by simpa using E) C B (by omega);rw[DT];have e:∀q:LT,JV (AV.int .i64 q.kind::[.bs q.text,.int .i64 q.n,.int .i64 q.line,.int .i64 q.Ag,.vec 1 q.kids.length (rI q.kids)])=q:=ZG;have K:∀q:Nat,JV (Bs L q)=L.getD q LT.none:=λq=>ZG _;have J:∀q:Nat,Lk (rI S q)=S.getD q 0:=λq=>rfl;simp only[K,J];exact this
 ·cases y
def PD (a:Int):=([(101:UInt8)]=Cb a)
def XA (a:Int):=([(98:UInt8)]=Cb a)
theorem Alp:∀(k:Int),Ad (Ak k (1:Int)) ([(42:UInt8),100]=Cb k) (Ad (Ak k (3:Int)) ([(42:UInt8),109]=Cb k) (Ad (Ak k (4:Int)) ([(121:UInt8)]=Cb k) (Ad (Ak k (6:Int)) ([(121:UInt8)]=Cb k) (Ad (Ak k (7:Int)) (XA k) (Ad (Ak k (9:Int)) (XA k) (Ad (Ak k (11:Int)) (XA k) (Ad (Ak k (36:Int)) (XA k) (Ad (Ak k (8:Int)) ([(117:UInt8),42,108]=Cb k) (Ad (Ak k (10:Int)) ([(117:UInt8),98]=Cb k) (Ad (Ak k (12:Int)) ([(42:UInt8),115]=Cb k) (Ad (Ak k (13:Int)) ([(121:UInt8),101]=Cb k) (Ad (Ak k (14:Int)) ([(118:UInt8),101]=Cb k) (Ad (Ak k (15:Int)) (PD k) (Ad (Ak k (16:Int)) (PD k) (Ad (Ak k (17:Int)) (PD k) (Ad (Ak k (18:Int)) (PD k) (Ad (Ak k (30:Int)) (PD k) (Ad (Ak k (34:Int)) (PD k) (Ad (Ak k (35:Int)) (PD k) (Ad (Ak k (19:Int)) ([(101:UInt8),63,118]=Cb k) (Ad (Ak k (20:Int)) ([(101:UInt8),63,118]=Cb k) (Ad (Ak k (23:Int)) ([(101:UInt8),98,98]=Cb k) (Ad (Ak k (24:Int)) ([(101:UInt8),98]=Cb k) (Ad (Ak k (31:Int)) ([(101:UInt8),101]=Cb k) (Ad (Ak k (32:Int)) ([(101:UInt8),101]=Cb k) ([]=Cb k))))))))))))))))))))))))))
:=by
 delta PD XA;intro k;simp only[FH,Dt,EG,Bool.not_eq_true',Bool.not_eq_false',decide_eq_true_eq,decide_eq_false_iff_not];simp only[beq_iff_eq,beq_eq_false_iff_ne,ne_eq]
 repeat' first
  |refine And.intro ?_ ?_
  |intro h
 all_goals first
  |(subst h;rfl)
  |(unfold Cb;simp[*])
theorem Alo:∀(k:Int),(AG JT 60).call 74 [.int .i64 k] .leaf 0 (Ch Tryz.prog false (.bs (Cb k))):=Eq.mpr (by kernel_rfl) Alp
theorem Ala:∀(k c:Int),Ad (Ak c (121:Int)) (Ak k (5:Int)=Bq c k) (Ad (Ak c (98:Int)) (Ak k (12:Int)=Bq c k) (Ad (Ak c (117:Int)) (Ak k (29:Int)=Bq c k) (Ad (Ak c (101:Int)) (True/\Ax (E5 k)=Bq c k) (Ad (Ak c (118:Int)) (Ad (Ak k (29:Int)) (true=Bq c k) (Ad (Ak k (30:Int)) (true=Bq c k) (Ak k (31:Int)=Bq c k))) (Ad (Ak c (115:Int)) (Ad (!AP k (13:Int)) ((!AP (25:Int) k)=Bq c k) (false=Bq c k)) (Ad (Ak c (100:Int)) (Ad (Ak k (2:Int)) (true=Bq c k) (Ad (Ak k (3:Int)) (true=Bq c k) (Ad (Ak k (6:Int)) (true=Bq c k) (Ad (Ak k (7:Int)) (true=Bq c k) (Ad (Ak k (8:Int)) (true=Bq c k) (Ad (Ak k (10:Int)) (true=Bq c k) (Ad (Ak k (11:Int)) (true=Bq c k) (false=Bq c k)))))))) (Ad (Ak c (109:Int)) (Ak k (4:Int)=Bq c k) (Ak k (9:Int)=Bq c k))))))))
:=by
 intro k c;simp only[A9];simp only[FH,Dt,EG,Bool.not_eq_true',Bool.not_eq_false',decide_eq_true_eq,decide_eq_false_iff_not];unfold Bq XX JJ ND
 repeat' first
  |refine And.intro ?_ ?_
  |intro h
 all_goals grind
theorem Ak9:∀(k c:Int),(AG (D4 [(43,mA)]) 60).call 75 [.int .i64 k,.int .u8 c] .leaf 0 (Ch Tryz.prog false (.bool (Bq c k))):=Eq.mpr (by kernel_rfl) Ala
theorem S4 (s:List UInt8) (p:Nat) (h:p<s.length):s.drop p=s.getD p 0::s.drop (p+1):=by rw[List.drop_eq_getElem_cons h,List.getD_eq_getElem?_getD,List.getElem?_eq_getElem h];rfl
theorem Qx (l:List Int) (p:Nat) (h:p<l.length):l.drop p=l.getD p 0::l.drop (p+1):=by rw[List.drop_eq_getElem_cons h,List.getD_eq_getElem?_getD,List.getElem?_eq_getElem h];rfl
theorem AgA (d:UInt8) (s:List UInt8) (l:List Int):C3 (42::d::s) l=C3 s (l.dropWhile (Bq (d.toNat:Int))):=by simp[C3]
theorem Agz (d:UInt8) (s:List UInt8) (l:List Int):C3 (63::d::s) l=C3 s (fK (Bq (d.toNat:Int)) l):=by simp[C3]
theorem Agx {c:UInt8} (s:List UInt8) (y:c≠42) (q:c≠63):C3 (c::s) []=false:=by cases s<;>simp[C3,y,q]
theorem Agw (l:List Int):C3 [] l=l.isEmpty:=by simp[C3]
theorem Agy {c:UInt8} (s:List UInt8) (x:Int) (l:List Int) (y:c≠42) (q:c≠63):C3 (c::s) (x::l)=(Bq (c.toNat:Int) x&&C3 s l):=by cases s<;>simp[C3,y,q]
theorem Agt {s:List UInt8} {p:Nat} (l:List Int) (h:p+1<s.length) (hc:s.getD p 0=42):C3 (s.drop p) l=C3 (s.drop (p+2)) (l.dropWhile (Bq ((s.getD (p+1) 0).toNat:Int))):=by rw[S4 s p (by omega),S4 s (p+1) h,hc,AgA]
theorem Ags {s:List UInt8} {p:Nat} (l:List Int) (h:p+1<s.length) (hc:s.getD p 0=63):C3 (s.drop p) l=C3 (s.drop (p+2)) (fK (Bq ((s.getD (p+1) 0).toNat:Int)) l):=by rw[S4 s p (by omega),S4 s (p+1) h,hc,Agz]
theorem Agq {s:List UInt8} {p:Nat} (h:p<s.length) (y:s.getD p 0≠42) (q:s.getD p 0≠63):C3 (s.drop p) []=false:=by rw[S4 s p h,Agx _ y q]
theorem Agr {s:List UInt8} {p:Nat} (x:Int) (l:List Int) (h:p<s.length) (y:s.getD p 0≠42) (q:s.getD p 0≠63):C3 (s.drop p) (x::l)=(Bq ((s.getD p 0).toNat:Int) x&&C3 (s.drop (p+1)) l):=by rw[S4 s p h,Agy _ _ _ y q]
def letOpts:List (List UInt8):=[[42,100],[42,109],[121],[98],[117,42,108],[117,98],[42,115],[121,101],[118,101],[101],[101,63,118],[101,98,98],[101,98],[101,101],[]]
theorem Agm {α:Type} {c:Prop} [Decidable c] {a b:α} {S:List α} (y:a∈S) (q:b∈S):(if c then a else b)∈S:=by split<;>assumption
theorem zQ (k:Int):Cb k∈letOpts:=by
 unfold Cb
 repeat' refine Agm (by decide) ?_
 decide
theorem AgV (k:Int):(Cb k).length<=3:=(by decide:∀s∈letOpts,s.length<=3) _ (zQ k)
theorem AgW (k:Int):∀p,p<(Cb k).length->((Cb k).getD p 0=42\/(Cb k).getD p 0=63)->p+1<(Cb k).length:=(by decide:∀s∈letOpts,∀p,p<s.length->(s.getD p 0=42\/s.getD p 0=63)->p+1<s.length) _ (zQ k)
theorem fe {c:UInt8} {n:Nat} (hn:n<256):Ak (c.toNat:Int) (n:Int)=true↔c=UInt8.ofNat n:=by
 rw[BL];constructor
 ·intro h;have h:c.toNat=n:=by omega
  rw[<-h];simp
 ·rintro rfl;simp[Nat.mod_eq_of_lt hn]
def Uc (a:List Int):=(Aa/\Ab a.length/\Au λ(q:Nat)=>AM q a.length->(Aa/\Ab (List.getD a q (0:Int)))/\True)
def Oe (a:Int):=AY (Cb a)
@[reducible] def je:Int->List Int->Nat×Nat->Prop:=λ(k:Int) (l:List Int) (a:Nat×Nat)=>(Aa/\k=k)/\(Uc l)/\Ab (Oe k)/\(Aa/\Ab ((↑a.1:Int)+1))/\True
@[reducible] def YL:Int->List Int->Nat×Nat->Nat×Nat->Prop:=λ(k:Int) (l:List Int) (a q:Nat×Nat)=>(Aa/\(↑a.1:Int)+1+1=(↑q.1:Int))/\(Aa/\k=k)/\(Uc l)/\Ab (Oe k)/\True
def Uo (a:Int) (b:Nat) (c:Nat):=Nat.le (Nat.succ (List.length (Cb a)-b)) (List.length (Cb a)-c)
@[reducible] def jf:Int->List Int->Nat×Nat->Nat->Nat×Nat->Prop:=λ(k:Int) (l:List Int) (a:Nat×Nat) (y:Nat) (q:Nat×Nat)=>KO (Cb k) l q/\Uo k q.1 a.1/\Aa/\((Aa/\(↑y:Int)=(↑q.2:Int))/\YL k l a q)/\True
@[reducible] def jg:Int->List Int->Nat×Nat->Nat×Nat->Prop:=λ(k:Int) (l:List Int) (a q:Nat×Nat)=>KO (Cb k) l q/\Uo k q.1 a.1/\Aa/\((Aa/\(↑a.2:Int)=(↑q.2:Int))/\YL k l a q)/\True
def dX (a:Nat) (b:Int) (c:List Int) (d:Nat):=(∀(q:Int),some (AV.int .i64 ((↑a:Int)+1))=some (AV.int .i64 q)->KI (Cb b) c (Int.toNat q) d)
def Ux (a:Nat):=Ap (Bo .i64 ((↑a:Int)+1+1))
def eI (a:Int) (b:Nat):=(↑(UInt8.toNat (List.getD (Oe a) (CD b) (0:UInt8))):Int)
def q4 (a:Int) (b:Nat) (c:List Int) (d:Nat):=Ad (Ax (Bq (↑(UInt8.toNat (List.getD (Oe a) (Int.toNat ((↑b:Int)+1)) (0:UInt8))):Int) (List.getD c (CD d) (0:Int))))
def UO (a:Int):=List.length (Oe a)
theorem Alf:∀(k:Int) (l:List Int),Nat.le l.length 100000000->True/\(∃(W:Nat×Nat),KO (Cb k) l W/\Aa/\((Fg W.2)/\(Fg W.1)/\(Aa/\k=k)/\(Uc l)/\Ab (Oe k)/\True)/\True)/\∀(x:Nat×Nat),KO (Cb k) l x->Ad (HL x.1 (Int.ofNat (UO k))) (Ap (GJ x.1 (UO k)) (Ad (Ak (eI k x.1) (42:Int)) (DH x.1 ((∃(W:Nat),(dX x.1 k l W)/\Aa/\((Aa/\(↑x.2:Int)=(↑W:Int))/\je k l x)/\True)/\∀(E:Nat),(dX x.1 k l E)->Ad (HL E (Int.ofNat l.length)) (Ap (GJ E l.length) (Ap (Bn ((↑x.1:Int)+1) (UO k)) (True/\(BF/\BF/\True)/\q4 k x.1 l E (DH E (∃(B:Nat),(dX x.1 k l B)/\Nat.le (Nat.succ (l.length-B)) (l.length-E)/\Aa/\((D6 E B)/\je k l x)/\True)) (Ux x.1 (∃(B:Nat×Nat),jf k l x E B))))) ((A8/\True)/\Ux x.1 (∃(B:Nat×Nat),jf k l x E B)))) (Ad (Ak (eI k x.1) (63:Int)) (DH x.1 (Ad (HL x.2 (Int.ofNat l.length)) (Ap (GJ x.2 l.length) (Ap (Bn ((↑x.1:Int)+1) (UO k)) (True/\(BF/\BF/\True)/\q4 k x.1 l x.2 (DH x.2 (Ux x.1 (∃(B:Nat×Nat),KO (Cb k) l B/\Uo k B.1 x.1/\Aa/\((D6 x.2 B.2)/\YL k l x B)/\True))) (Ux x.1 (∃(B:Nat×Nat),jg k l x B))))) ((A8/\True)/\Ux x.1 (∃(B:Nat×Nat),jg k l x B)))) (Ad (Ak (↑x.2:Int) (Int.ofNat l.length)) ((A8/\True)/\false=C3 (Cb k) l) (Ap (GJ x.2 l.length) (Ap (GJ x.1 (UO k)) (True/\(BF/\BF/\True)/\Ad (!Ax (Bq (eI k x.1) (List.getD l (CD x.2) (0:Int)))) (false=C3 (Cb k) l) (DH x.2 (DH x.1 (∃(B:Nat×Nat),KO (Cb k) l B/\Uo k B.1 x.1/\Aa/\((D6 x.2 B.2)/\(D6 x.1 B.1)/\(Aa/\k=k)/\(Uc l)/\Ab (Oe k)/\True)/\True)))))))))) (Ak (↑x.2:Int) (Int.ofNat l.length)=C3 (Cb k) l)
:=by
 delta CD A8 BF AM DH D6 Fg Uc Uo Oe dX GJ Ux HL eI q4 UO;intro k l hl;have hl:l.length<=100000000:=hl;have ab:=AgV k;have hw:=AgW k;simp only[A9,je,YL,jf,jg,AM,Uc,Oe,Uo];generalize Cb k=s at*;refine⟨⟨(0,0),⟨Nat.zero_le _,Nat.zero_le _,rfl⟩,rfl,rfl⟩,λx Y=>?_⟩;obtain⟨p,i⟩:=x;have hp:=Y.p;have hi:=Y.i;have q:=Y.eq;simp only at hp hi q⊢;refine Aj (λh=>?_) λh=>?_
 ·rw[B1]at h;have O:p<s.length:=by omega
  have hR:Bo .i64 ((p:Int)+1)=true:=Be.2 (by omega);have R:Bo .i64 ((p:Int)+1+1)=true:=Be.2 (by omega);have hB:Bn (p:Int) s.length=true:=BJ.2 (by omega);refine An hB (Aj (λS=>An hR ?_) λS=>?_)
  ·have S:s.getD p 0=42:=(fe (n:=42) (by decide)).1 S;have V:=hw p O (.inl S);refine⟨⟨i,λa Z=>⟨by omega,hi,?_⟩,rfl⟩,λj U=>?_⟩
   ·obtain rfl:a=(p:Int)+1:=Z.symm;rw[show((p:Int)+1).toNat=p+1 by omega,<-Agt _ V S];exact q
   ·have U:=U _ rfl;rw[show((p:Int)+1).toNat=p+1 by omega]at U⊢;have aa:=U.il;refine Aj (λL=>?_) λL=>?_
    ·rw[B1]at L;have K:j<l.length:=by omega
     refine An (BJ.2 (by omega)) (An (BJ.2 (by omega)) (Aj (λM=>An (Be.2 (by omega)) ⟨j+1,λa Z=>?_,by omega,by omega⟩) λM=>An R ⟨(p+2,j),⟨by simp only;omega,aa,?_⟩,by simp only;omega,by simp,by simp only;omega⟩))
     ·obtain rfl:a=(p:Int)+1:=Z.symm;rw[show((p:Int)+1).toNat=p+1 by omega];have J:=U.eq;rw[Qx l j K,List.dropWhile_cons,if_pos M]at J;exact⟨U.pl,K,J⟩
     ·have J:=U.eq;rw[Qx l j K,List.dropWhile_cons,if_neg (by rw[M];simp),<-Qx l j K]at J;exact J
    ·rw[Cg]at L;obtain rfl:j=l.length:=by omega
     refine An R ⟨(p+2,l.length),⟨by simp only;omega,Nat.le_refl _,?_⟩,by simp only;omega,by simp,by simp only;omega⟩;have J:=U.eq;rw[List.drop_length,List.dropWhile_nil]at J;rw[List.drop_length];exact J
  ·have S:s.getD p 0≠42:=λe=>absurd (S.symm.trans ((fe (n:=42) (by decide)).2 e)) (by decide);refine Aj (λL=>An hR ?_) λL=>?_
   ·have L:s.getD p 0=63:=(fe (n:=63) (by decide)).1 L;have V:=hw p O (.inr L);rw[Ags _ V L]at q;rw[show((p:Int)+1).toNat=p+1 by omega];refine Aj (λM=>?_) λM=>?_
    ·rw[B1]at M;have C:i<l.length:=by omega
     rw[Qx l i C]at q;unfold fK at q;refine An (BJ.2 (by omega)) (An (BJ.2 (by omega)) (Aj (λJ=>An (Be.2 (by omega)) (An R ⟨(p+2,i+1),⟨by simp only;omega,C,?_⟩,by simp only;omega,by simp only;omega,by simp only;omega⟩)) λJ=>An R ⟨(p+2,i),⟨by simp only;omega,hi,?_⟩,by simp only;omega,by simp,by simp only;omega⟩))
     ·simp only[J,if_true]at q;exact q
     ·simp only[J,Bool.false_eq_true,if_false]at q;rw[<-Qx l i C]at q;exact q
    ·rw[Cg]at M;obtain rfl:i=l.length:=by omega
     rw[List.drop_length]at q;refine An R ⟨(p+2,l.length),⟨by simp only;omega,Nat.le_refl _,?_⟩,by simp only;omega,by simp,by simp only;omega⟩;rw[List.drop_length];exact q
   ·have L:s.getD p 0≠63:=λe=>absurd (L.symm.trans ((fe (n:=63) (by decide)).2 e)) (by decide);refine Aj (λM=>?_) λM=>?_
    ·rw[BL]at M;obtain rfl:i=l.length:=by omega
     rw[List.drop_length,Agq O S L]at q;exact q
    ·rw[BU]at M;have C:i<l.length:=by omega
     rw[Qx l i C,Agr _ _ O S L]at q;refine An (BJ.2 (by omega)) (An hB (Aj (λJ=>?_) λJ=>An (Be.2 (by omega)) (An hR ⟨(p+1,i+1),⟨O,C,?_⟩,by simp only;omega,by simp,by simp⟩)))
     ·rw[nf J]at q;exact q
     ·rw[nt J,Bool.true_and]at q;exact q
 ·rw[Cg]at h;obtain rfl:p=s.length:=by omega
  rw[List.drop_length]at q;rw[<-q,Agw,Dt];cases hd:l.drop i with
  |nil=>have:=congrArg List.length hd;simp at this;simp;omega
  |cons y t=>have:=congrArg List.length hd;simp at this;simp;omega
theorem Ale:∀(k:Int) (l:List Int),l.length<=100000000->(AG (vv (Cb k) l) 60).call 41 [.int .i64 k,.vec 1 l.length (rI l)] .leaf 0 (Ch Tryz.prog false (.bool (C3 (Cb k) l))):=Eq.mpr (by kernel_rfl) Alf
theorem Aih:Ci Tryz.prog 74 lj:=by
 refine EN (gl:=[]) (ng:=0) BQ λH args ct q=>?_;unfold lj at q;split at q
 ·rename_i k;injection q with q;subst q;exact⟨BQ,_,_,rfl,λ_=>⟨⟨⟨rfl,rfl⟩,trivial⟩,JT,60,rfl,AW,Bc,by rw[Du];exact Alo k⟩⟩
 ·cases q
theorem Aib:Ci Tryz.prog 75 ld:=by
 refine EN (gl:=[]) (ng:=0) BQ λH args ct q=>?_;unfold ld at q;split at q
 ·rename_i k c;injection q with q;subst q;exact⟨BQ,_,_,rfl,λ_=>⟨⟨⟨rfl,rfl⟩,⟨rfl,rfl⟩,trivial⟩,_,60,rfl,AW,Cw AiN Bc,by rw[DT];exact Ak9 k c⟩⟩
 ·cases q
theorem Aid:Ci Tryz.prog 41 lg:=by
 refine EN (gl:=[]) (ng:=0) BQ λH args ct q=>?_;unfold lg at q;split at q
 ·rename_i k n f;injection q with q;subst q;refine⟨BQ,_,_,rfl,?_⟩;rintro⟨S,rfl,rfl,h⟩;rw[DT,U4];exact⟨⟨⟨rfl,rfl⟩,⟨rfl,rfl,⟨λi _=>Ao3 _ i⟩⟩,trivial⟩,vv (Cb k) S,60,rfl,AW,Cw Aih (Cw Aib Bc),Ale k S h⟩
 ·cases q
def Fe (L:List LT) (w:LT) (i next:Nat):Int:=(if(L.getD next LT.none).kind=12 then 1 else 0)+(if Pe L w i then 1 else 0)+(if w.kind=31/\i=1\/w.kind=34\/w.kind=35 then 1 else 0)
def MS (w:LT):Bool:=decide (1<=w.kind/\w.kind<=36)&&(G6 w.kind w.text&&Gc w.kind w.n)
mutual
def DN (L:List LT) (a:Nat) (nest:Int):Nat:=
 if L.length<=a\/64<nest then 0 else if MS (L.getD a LT.none)=false then 0 else
  match He L a nest (L.getD a LT.none).kids 0 (a+1) []with
  |none=>0
  |some r=>if C3 (Cb (L.getD a LT.none).kind) r.2 then r.1 else 0
termination_by (L.length-a,1,0)
decreasing_by
 exact Prod.Lex.right _ (Prod.Lex.left _ _ Nat.zero_lt_one)
def He (L:List LT) (a:Nat) (nest:Int) (ks:List Int) (i next:Nat) (l:List Int):Option (Nat×List Int):=
 match ks with
 | []=>some (next,l)
 |k::ks=>if h:k≠(next:Int)\/L.length<=next\/next<=a then none else
  match DN L next (nest+Fe L (L.getD a LT.none) i next)with
  |0=>none
  |r+1=>He L a nest ks (i+1) (r+1) (l++[(L.getD next LT.none).kind])
termination_by (L.length-a,0,ks.length)
decreasing_by
 ·exact Prod.Lex.left _ _ (by omega)
 ·exact Prod.Lex.right _ (Prod.Lex.right _ (Nat.lt_succ_self _))
end
structure Nw (L:List LT):Prop where
 len:L.length<=1000000
 text:∀i,(L.getD i LT.none).text.length<=1000000
def Wd (N:Nat):Tr Ac->List AV->Option Ct:=λ_ args=>match args with
 | [.agg [.vec 6 n f],.int .i64 a,.int .i64 nest]=>some (.A6 (∃L:List LT,n=L.length/\f=Bs L/\Nw L/\0<=a/\L.length-a.toNat<N/\0<=nest/\nest<=1000) (.ret (.int .i64 (AY (DN (Ou n f) a.toNat nest:Nat)))))
 |_=>none
structure GI (L:List LT) (a:Nat) (nest:Int) (x:Nat×Nat×List Int):Prop where
 il:x.1<=(L.getD a LT.none).kids.length
 lo:a+1+x.1<=x.2.1
 hi:x.2.1<=L.length
 ll:x.2.2.length=x.1
 eq:He L a nest ((L.getD a LT.none).kids.drop x.1) x.1 x.2.1 x.2.2=He L a nest (L.getD a LT.none).kids 0 (a+1) []
def SGo (L:List LT) (a:Nat) (nest:Int):CV:={X:=Nat×Nat×List Int,T:=λs _ x=>(8,.AJ s.nx x.2.2.length 1)::(9,.int .i64 x.2.1)::(10,.int .i64 x.1)::MV s [0,1,2,3,7],H:=λs n0 x=>(s.nx,.cells 36 .leaf (.rows 1 (rI x.2.2)) x.2.2.length true)::oE s n0,nx:=λs _=>s.nx+1,I:=λ_ x=>GI L a nest x,m:=λx=>(L.getD a LT.none).kids.length-x.1}
def ju (f:Nat->Nat->Int):CV:=thin (Nat×Nat) [0,1,2,3,7,8,9,10] (λx=>[(11,.int .i64 (f x.1 x.2))]) (λs x=>(∀b,s.T.get 10=some (.int .i64 b)->b=x.1)/\(∀b,s.T.get 9=some (.int .i64 b)->b=x.2)) λ_=>0
def J2 (L:List LT) (w:LT) (i next:Nat):Int:=if(L.getD next LT.none).kind=12 then 1 else 0
def I3 (L:List LT) (w:LT) (i next:Nat):Int:=J2 L w i next+if Pe L w i then 1 else 0
def vp (N:Nat) (L:List LT) (a:Nat) (nest:Int):Ctx:={P:=Tryz.prog,tb:=[(38,mD),(39,lx),(40,ly),(41,lg),(19,Wd N)],lp:=λf r=>cond (Nat.beq f 19) (cond (Nat.beq r 9) (some (SGo L a nest)) none) none,cut:=λf r=>cond (Nat.beq f 19) (cond (Nat.beq r 16) (some (ju (J2 L (L.getD a LT.none)))) (cond (Nat.beq r 18) (some (ju (I3 L (L.getD a LT.none)))) (cond (Nat.beq r 20) (some (ju (Fe L (L.getD a LT.none)))) none))) none}
theorem bJ {L:List LT} {a:Nat} {nest:Int} (h:L.length<=a\/64<nest):DN L a nest=0:=by rw[DN,if_pos h]
theorem xh {L:List LT} {a:Nat} {nest:Int} (h:MS (L.getD a LT.none)=false):DN L a nest=0:=by
 rw[DN];split
 ·rfl
 ·first
   |rfl
   |rw[if_pos h]
theorem xi {L:List LT} {a:Nat} {nest:Int} (h:He L a nest (L.getD a LT.none).kids 0 (a+1) []=none):DN L a nest=0:=by
 rw[DN];split
 ·rfl
 ·split
  ·rfl
  ·rw[h]
theorem nT {L:List LT} {a:Nat} {nest:Int} {r:Nat×List Int} (y:¬(L.length<=a\/64<nest)) (q:MS (L.getD a LT.none)=true) (h:He L a nest (L.getD a LT.none).kids 0 (a+1) []=some r): DN L a nest=if C3 (Cb (L.getD a LT.none).kind) r.2 then r.1 else 0:=by rw[DN,if_neg y,if_neg (by rw[q];simp),h]
theorem nV {L:List LT} {a:Nat} {nest:Int} {i next:Nat} {l:List Int}:He L a nest [] i next l=some (next,l):=by rw[He]
theorem nU {L:List LT} {a:Nat} {nest:Int} {k:Int} {ks:List Int} {i next:Nat} {l:List Int} (h:k≠(next:Int)\/L.length<=next\/next<=a):He L a nest (k::ks) i next l=none:=by rw[He,dif_pos h]
theorem xj {L:List LT} {a:Nat} {nest:Int} {k:Int} {ks:List Int} {i next:Nat} {l:List Int} (h:DN L next (nest+Fe L (L.getD a LT.none) i next)=0):He L a nest (k::ks) i next l=none:=by
 rw[He];split
 ·rfl
 ·rw[h]
theorem nW {L:List LT} {a:Nat} {nest:Int} {k:Int} {ks:List Int} {i next:Nat} {l:List Int} (y:¬(k≠(next:Int)\/L.length<=next\/next<=a)) (h:DN L next (nest+Fe L (L.getD a LT.none) i next)≠0): He L a nest (k::ks) i next l=He L a nest ks (i+1) (DN L next (nest+Fe L (L.getD a LT.none) i next)) (l++[(L.getD next LT.none).kind]):=by
 rw[He,dif_neg y];split
 ·rename_i q;exact absurd q h
 ·rename_i r q;rw[q]
theorem AfK (L:List LT):∀(d:Nat),(∀a nest,L.length-a<=d->DN L a nest≠0->a<DN L a nest/\DN L a nest<=L.length):=by
 intro d
 induction d with
 |zero=>intro a nest h y;exact absurd (bJ (.inl (by omega))) y
 |succ d O=>
  have K:∀(a:Nat) (nest:Int),L.length-a<=d+1->∀(ks:List Int) (i next:Nat) (l:List Int) (r:Nat×List Int),a<next->next<=L.length->He L a nest ks i next l=some r->next<=r.1/\r.1<=L.length:=by
   intro a nest M ks
   induction ks with
   |nil=>
    intro i next l r y B q
    rw[nV]at q;injection q with q;subst q;exact⟨Nat.le_refl _,B⟩
   |cons k ks J=>
    intro i next l r y B q
    by_cases hb:k≠(next:Int)\/L.length<=next\/next<=a
    ·rw[nU hb]at q;cases q
    ·by_cases hz:DN L next (nest+Fe L (L.getD a LT.none) i next)=0
     ·rw[xj hz]at q;cases q
     ·rw[nW hb hz]at q;have E:=O next _ (by omega) hz
      have R:=J _ _ _ r (by omega) E.2 q;omega
  intro a nest M y;by_cases B:L.length<=a\/64<nest
  ·exact absurd (bJ B) y
  ·by_cases q:MS (L.getD a LT.none)=false
   ·exact absurd (xh q) y
   ·have q:MS (L.getD a LT.none)=true:=by simpa using q
    cases C:He L a nest (L.getD a LT.none).kids 0 (a+1) []with
    |none=>exact absurd (xi C) y
    |some r=>
     rw[nT B q C]at y⊢;split at y
     ·rename_i E;rw[if_pos E];have:=K a nest M _ _ _ _ r (by omega) (by omega) C;omega
     ·exact absurd rfl y
theorem AfL {L:List LT} {a:Nat} {nest:Int} (h:DN L a nest≠0):a<DN L a nest/\DN L a nest<=L.length:=AfK L _ a nest (Nat.le_refl _) h
theorem Aho (L:List LT) (w:LT) (i next:Nat):0<=Fe L w i next/\Fe L w i next<=3/\0<=J2 L w i next/\J2 L w i next<=1/\0<=I3 L w i next/\I3 L w i next<=2:=by unfold Fe I3 J2;refine⟨?_,?_,?_,?_,?_,?_⟩<;>(repeat' split)<;>omega
@[reducible] def jh:List LT->Prop:=λ(L:List LT)=>Aa/\Ab L.length/\Au λ(i:Nat)=>AM i L.length->(Aa/\Ab (LT.kind (Cx L i)))/\Ab (LT.text (Cx L i))/\(Aa/\Ab (LT.n (Cx L i)))/\(Aa/\Ab (LT.line (Cx L i)))/\(Aa/\Ab (LT.Ag (Cx L i)))/\(Ui L i)/\True
@[reducible] def ji:List LT->Prop:=λ(L:List LT)=>jh L/\True
@[reducible] def jj:List LT->Prop:=λ(L:List LT)=>Aa/\Aa/\Aa/\Aa/\True/\jh L
@[reducible] def jk:List LT->Nat->Prop:=λ(L:List LT) (a:Nat)=>Aa/\Aa/\Aa/\Aa/\(Xm L a)/\Aa/\Ab (HJ L a)/\Au λ(i:Nat)=>AM i (HJ L a)->(Xw L a i)/\True
@[reducible] def jl:List LT->Nat->Int->Prop:=λ(L:List LT) (a:Nat) (nest:Int)=>ji L/\(J7 a)/\(Aa/\Ab nest)/\Ay/\GH/\True
@[reducible] def Qh:List LT->Nat->Int->Nat×Nat×List Int->Prop:=λ(L:List LT) (a:Nat) (nest:Int) (q:Nat×Nat×List Int)=>ji L/\(J7 a)/\(Aa/\Ab nest)/\Ay/\GH/\(Ab (some 7)/\Ab (List.length (q.2.2))/\Aa)/\(Aa/\Ab (↑(q.2.1):Int))/\(J7 q.1)/\True
@[reducible] def jm:List LT->Nat->Prop:=λ(L:List LT) (a:Nat)=>jj L/\jk L a/\True
@[reducible] def Qi:List LT->Nat->Nat×Nat×List Int->Prop:=λ(L:List LT) (a:Nat) (q:Nat×Nat×List Int)=>jj L/\jk L a/\(Aa/\Aa/\Aa/\Aa/\Ab (List.length (q.2.2))/\Au λ(i:Nat)=>B8 i (List.length (q.2.2))->(Aa/\Ab (List.getD (q.2.2) i (0:Int)))/\True)/\True
def pZ (a:Nat) (b:Nat) (c:Nat) (d:Nat):=((∀(y:Int),some (AV.int .i64 (↑a:Int))=some (AV.int .i64 y)->y=(↑b:Int))/\∀(q:Int),some (AV.int .i64 (↑(c):Int))=some (AV.int .i64 q)->q=(↑d:Int))
@[reducible] def jn:List LT->Nat->Int->Nat×Nat×List Int->Nat×Nat->Nat×Nat->Prop:=λ(L:List LT) (a:Nat) (nest:Int) (y:Nat×Nat×List Int) (B q:Nat×Nat)=>(pZ y.1 q.1 y.2.1 q.2)/\Aa/\((Aa/\I3 L (Cx L a) B.1 B.2=Fe L (Cx L a) q.1 q.2)/\Qh L a nest y)/\Qi L a y
@[reducible] def uA:List LT->Nat->Int->Nat×Nat×List Int->Nat×Nat->Nat×Nat->Prop:=λ(L:List LT) (a:Nat) (nest:Int) (y:Nat×Nat×List Int) (B q:Nat×Nat)=>(pZ y.1 q.1 y.2.1 q.2)/\Aa/\((Aa/\I3 L (Cx L a) B.1 B.2+1=Fe L (Cx L a) q.1 q.2)/\Qh L a nest y)/\Qi L a y
def Pq (a:Nat) (b:Nat) (c:Nat) (d:Nat):=((∀(y:Int),some (AV.int .i64 (↑a:Int))=some (AV.int .i64 y)->y=(↑b:Int))/\∀(q:Int),some (AV.int .i64 (↑c:Int))=some (AV.int .i64 q)->q=(↑d:Int))
def Md (a:List LT) (b:Nat) (c:Int):=(Aa/\(0:Int)=(↑(DN a b c):Int))
def Lz (a:Nat) (b:List LT):=Ap (Bn (↑a:Int) b.length)
def UG (a:List LT) (b:Nat) (c:Nat) (d:Nat):=Ap (Bo .i64 (I3 a (Cx a b) c d+1))
def UP (a:List LT) (b:Nat) (c:Int) (d:Nat×Nat×List Int) (e:Nat×Nat):=(∃(q:Nat×Nat),uA a b c d e q)
theorem Ak5:∀(N:Nat) (L:List LT) (a:Nat) (nest:Int),Nw L->Nat.le (Nat.succ (L.length-a)) (N+1)->Int.NonNeg (nest-0)->Int.NonNeg ((1000:Int)-nest)->Ad (!AP (↑a:Int) (GG L)) (Md L a nest) (Ad (AP (64:Int) nest) (Md L a nest) (Lz a L (Ad (AP (IF L a) (1:Int)) (Md L a nest) (Ad (AP (36:Int) (IF L a)) (Md L a nest) (Nat.le (List.length (LT.text (Ee L a))) 1000000/\Ad (!Ax (G6 (IF L a) (LT.text (Ee L a)))) (Md L a nest) (True/\Ad (!Ax (Gc (IF L a) (LT.n (Ee L a)))) (Md L a nest) (DH a ((∃(x0:Nat×Nat×List Int),GI L a nest x0/\Aa/\(x0.2.2.length=0/\(D6 a x0.2.1)/\(Fg x0.1)/\jl L a nest)/\(Aa/\True)/\jm L a)/\∀(x:Nat×Nat×List Int),GI L a nest x->Ad (HL x.1 (Int.ofNat (HJ L a))) (Ap (GJ x.1 (HJ L a)) (Ad (!Ak (List.getD (LT.kids (Ee L a)) (CD x.1) (0:Int)) (↑x.2.1:Int)) (Md L a nest) (Ad (!AP (↑x.2.1:Int) (GG L)) (Md L a nest) (Lz x.2.1 L (Ad (Ak (IF L x.2.1) (12:Int)) (∃(C:Nat×Nat),(Pq x.1 C.1 x.2.1 C.2)/\Aa/\((Aa/\(1:Int)=J2 L (Cx L a) C.1 C.2)/\Qh L a nest x)/\Qi L a x) (∃(C:Nat×Nat),(Pq x.1 C.1 x.2.1 C.2)/\Aa/\((Aa/\(0:Int)=J2 L (Cx L a) C.1 C.2)/\Qh L a nest x)/\Qi L a x))/\∀(C:Nat×Nat),(Pq x.1 C.1 x.2.1 C.2)->((∃(M:List LT),∃(S:List Int),L.length=M.length/\Bs L=Bs M/\HJ L a=S.length/\rI (LT.kids (Ee L a))=rI S/\Int.NonNeg ((↑x.1:Int)-0)/\Int.NonNeg ((↑S.length:Int)-((↑x.1:Int)+1))/\Int.NonNeg (List.getD S (CD x.1) (0:Int)-0)/\Int.NonNeg ((↑M.length:Int)-(List.getD S (CD x.1) (0:Int)+1))/\Int.NonNeg ((100000000:Int)-(↑x.1:Int)))/\Ad (Ax (decide ((0:Int)<D3 (LT.kind (JV (Bs L (Int.toNat (Lk (rI (LT.kids (List.getD L (Int.toNat (↑a:Int)) LT.none)) (Int.toNat (↑x.1:Int)))))))) (LT.text (JV (Bs L (Int.toNat (Lk (rI (LT.kids (List.getD L (Int.toNat (↑a:Int)) LT.none)) (Int.toNat (↑x.1:Int))))))))/\D3 (LT.kind (JV (Bs L (Int.toNat (Lk (rI (LT.kids (List.getD L (Int.toNat (↑a:Int)) LT.none)) (Int.toNat (↑x.1:Int)))))))) (LT.text (JV (Bs L (Int.toNat (Lk (rI (LT.kids (List.getD L (Int.toNat (↑a:Int)) LT.none)) (Int.toNat (↑x.1:Int))))))))<I4 (LT.kind (List.getD L (Int.toNat (↑a:Int)) LT.none)) (LT.text (List.getD L (Int.toNat (↑a:Int)) LT.none)) (↑x.1:Int)))) (Ap (Bo .i64 (J2 L (Cx L a) C.1 C.2+1)) (∃(B:Nat×Nat),(Pq x.1 B.1 x.2.1 B.2)/\Aa/\((Aa/\J2 L (Cx L a) C.1 C.2+1=I3 L (Cx L a) B.1 B.2)/\Qh L a nest x)/\Qi L a x)) (∃(B:Nat×Nat),(Pq x.1 B.1 x.2.1 B.2)/\Aa/\((Aa/\J2 L (Cx L a) C.1 C.2=I3 L (Cx L a) B.1 B.2)/\Qh L a nest x)/\Qi L a x))/\∀(B:Nat×Nat),(Pq x.1 B.1 x.2.1 B.2)->Ad (Ak (IF L a) (31:Int)) (Ad (Ak (↑x.1:Int) (1:Int)) (UG L a B.1 B.2 (UP L a nest x B)) (Ad (Ak (IF L a) (34:Int)) (UG L a B.1 B.2 (UP L a nest x B)) (Ad (Ak (IF L a) (35:Int)) (UG L a B.1 B.2 (UP L a nest x B)) (∃(E:Nat×Nat),jn L a nest x B E)))) (Ad (Ak (IF L a) (34:Int)) (UG L a B.1 B.2 (UP L a nest x B)) (Ad (Ak (IF L a) (35:Int)) (UG L a B.1 B.2 (UP L a nest x B)) (∃(E:Nat×Nat),jn L a nest x B E)))/\∀(E:Nat×Nat),(Pq x.1 E.1 x.2.1 E.2)->Lz x.2.1 L (Ap (bif bif Nat.ble (x.2.2.length*1) x.2.2.length then true else false then decide (x.2.2.length+1<=9223372036854775807/\(x.2.2.length+1)*8<=140737488355328)else false) (Ap (Bo .i64 (nest+Fe L (Cx L a) E.1 E.2)) ((∃(M:List LT),L.length=M.length/\Bs L=Bs M/\Nw M/\Int.NonNeg ((↑x.2.1:Int)-0)/\Nat.le (Nat.succ (M.length-CD x.2.1)) N/\Int.NonNeg (nest+Fe L (Cx L a) E.1 E.2-0)/\Int.NonNeg ((1000:Int)-(nest+Fe L (Cx L a) E.1 E.2)))/\Ad (Ak (AY (↑(DN (Ou L.length (Bs L)) (CD x.2.1) (nest+Fe L (Cx L a) E.1 E.2)):Int)) (0:Int)) (Md L a nest) (DH x.1 (∃(Z:Nat×Nat×List Int),GI L a nest Z/\Nat.le (Nat.succ (PL L a-Z.1)) (PL L a-x.1)/\Aa/\((Ab (some 9)/\x.2.2.length+1=Z.2.2.length/\Aa)/\(Aa/\AY (↑(DN (Ou L.length (Bs L)) (CD x.2.1) (nest+Fe L (Cx L a) E.1 E.2)):Int)=(↑Z.2.1:Int))/\(D6 x.1 Z.1)/\jl L a nest)/\(Aa/\Aa/\Aa/\Aa/\(x.2.2.length+1)*1=Z.2.2.length/\Au λ(i:Nat)=>B8 i ((x.2.2.length+1)*1)->AH [(1,1),(0,0),(7,9)] (rI Z.2.2 i) (B0 x.2.2.length (rI x.2.2) (λ(aq:Nat)=>[AV.int .i64 (IF L x.2.1)]) i))/\jm L a))))))))) (Ap (bif bif Nat.ble (x.2.2.length*1) x.2.2.length then Ds 1 x.2.2.length (rI x.2.2)else false then true else false) (Ap (bif bif bif Nat.beq x.2.2.length x.2.2.length then true else false then true else false then bif Nat.beq x.2.2.length x.2.2.length then true else false else false) ((∃(S:List Int),x.2.2.length=S.length/\rI x.2.2=rI S/\Nat.le S.length 100000000)/\Ad (!Ax (C3 (Cb (IF L a)) (Nk x.2.2.length (rI x.2.2)))) (Md L a nest) (Aa/\(↑x.2.1:Int)=(↑(DN L a nest):Int)))))))))))))
:=by
 delta CD Ee Pq Cx B8 DH D6 HJ Fg GG Md Lz GJ IF HL UG PL UP;intro N L a nest hL hN h0 h1;have hN:L.length-a<N+1:=hN;have h0:0<=nest:=h0;have h1:nest<=1000:=h1;simp only[A9,jh,ji,jj,jk,jl,Qh,jm,Qi,jn,uA,AM,Cx,Ui,CD,Ee,HJ,Xm,Xw,Ay,GH,J7,B8,pZ];have af:∀q:Nat,JV (Bs L q)=L.getD q LT.none:=λq=>ZG _;have ag:∀(S:List Int) (q:Nat),Lk (rI S q)=S.getD q 0:=λS q=>rfl;simp only[XF,af,ag,U4];have ao:=hL.len;have ab:=hL.text a;have K:DN L a nest=0->(0:Int)=((DN L a nest:Nat):Int):=λh=>by rw[h];rfl
 refine Aj (λh=>K (bJ (.inl (by rw[Bool.not_eq_true',Cg]at h;omega)))) λha=>Aj (λh=>K (bJ (.inr (by rwa[B1]at h)))) λhn=>?_;rw[Bool.not_eq_false',B1]at ha;rw[Cg]at hn;have aj:¬(L.length<=a\/64<nest):=by omega
 refine An (BJ.2 (by omega)) ?_;have O:∀(h:¬(1<=(L.getD a LT.none).kind/\(L.getD a LT.none).kind<=36)\/G6 (L.getD a LT.none).kind (L.getD a LT.none).text=false\/Gc (L.getD a LT.none).kind (L.getD a LT.none).n=false),(0:Int)=((DN L a nest:Nat):Int):=λh=>K (xh (by
  unfold MS;rcases h with h|h|h
  ·rw[decide_eq_false h];rfl
  ·rw[h];simp
  ·rw[h];simp))
 refine Aj (λh=>O (.inl (by rw[B1]at h;omega))) λk1=>Aj (λh=>O (.inl (by rw[B1]at h;omega))) λk2=>⟨ab,Aj (λh=>O (.inr (.inl (nf h)))) λk3=>Aj (λh=>O (.inr (.inr (nf h)))) λk4=>?_⟩;rw[Cg]at k1 k2;have aa:MS (L.getD a LT.none)=true:=by unfold MS;rw[decide_eq_true ⟨k1,k2⟩,nt k3,nt k4];rfl
 clear O ab k1 k2 k3 k4;refine An (Be.2 (by omega)) ⟨⟨(0,a+1,[]),⟨Nat.zero_le _,Nat.le_refl _,by simp only;omega,rfl,rfl⟩,rfl,by simp,rfl⟩,λx hx=>?_⟩;obtain⟨i,next,l⟩:=x;obtain⟨ak,ai,al,ae,R⟩:=hx;simp only at ak ai al ae R⊢;refine Aj (λh=>?_) λh=>?_
 ·rw[B1]at h;have ad:i<(L.getD a LT.none).kids.length:=by omega
  have an:i<=1000000:=by omega
  rw[Qx _ _ ad]at R;have U:∀h:He L a nest ((L.getD a LT.none).kids.getD i 0::(L.getD a LT.none).kids.drop (i+1)) i next l=none,(0:Int)=((DN L a nest:Nat):Int):=λh=>K (xi (by rw[<-R];exact h))
  refine An (BJ.2 (by omega)) (Aj (λh2=>U (nU (.inl (by rw[Bool.not_eq_true',BU]at h2;exact h2)))) λh2=>Aj (λh3=>U (nU (.inr (.inl (by rw[Bool.not_eq_true',Cg]at h3;omega))))) λh3=>?_);rw[Bool.not_eq_false',BL]at h2;rw[Bool.not_eq_false',B1]at h3;have hm:=Aho L (L.getD a LT.none) i next
  refine⟨An (BJ.2 (by omega)) (Aj (λh4=>⟨(i,next),⟨λb hb=>hb.symm,λb hb=>hb.symm⟩,?_⟩) λh4=>⟨(i,next),⟨λb hb=>hb.symm,λb hb=>hb.symm⟩,?_⟩),λy hy=>?_⟩
  ·rw[BL]at h4;unfold J2;rw[if_pos h4]
  ·rw[BU]at h4;unfold J2;rw[if_neg h4]
  obtain⟨i',J⟩:=y;obtain⟨W,V⟩:=hy;have W:=W _ rfl;have V:=V _ rfl;simp only at W V⊢;obtain rfl:i=i':=by omega
  obtain rfl:next=J:=by omega
  refine⟨⟨⟨L,(L.getD a LT.none).kids,rfl,rfl,rfl,rfl,(show(0:Int)<=(i:Int) by omega),(show(i:Int)<((L.getD a LT.none).kids.length:Int) by omega),(show(0:Int)<=(L.getD a LT.none).kids.getD i 0 by omega),(show(L.getD a LT.none).kids.getD i 0<(L.length:Int) by omega),(show(i:Int)<=100000000 by omega)⟩,?_⟩,λy hy=>?_⟩
  ·have hp:Pe L (L.getD a LT.none) i=decide (0<D3 (L.getD ((L.getD a LT.none).kids.getD i 0).toNat LT.none).kind (L.getD ((L.getD a LT.none).kids.getD i 0).toNat LT.none).text/\D3 (L.getD ((L.getD a LT.none).kids.getD i 0).toNat LT.none).kind (L.getD ((L.getD a LT.none).kids.getD i 0).toNat LT.none).text<I4 (L.getD a LT.none).kind (L.getD a LT.none).text i):=rfl;rw[<-hp];refine Aj (λh5=>An (Be.2 (by omega)) ⟨(i,next),⟨λb hb=>hb.symm,λb hb=>hb.symm⟩,?_⟩) λh5=>⟨(i,next),⟨λb hb=>hb.symm,λb hb=>hb.symm⟩,?_⟩
   ·unfold I3;rw[h5];rfl
   ·unfold I3;rw[h5];simp
  obtain⟨i',J⟩:=y;obtain⟨W,V⟩:=hy;have W:=W _ rfl;have V:=V _ rfl;simp only at W V⊢;obtain rfl:i=i':=by omega
  obtain rfl:next=J:=by omega
  refine⟨?_,λy hy=>?_⟩
  ·have ah:∀(Y:(L.getD a LT.none).kind=31/\i=1\/(L.getD a LT.none).kind=34\/(L.getD a LT.none).kind=35),I3 L (L.getD a LT.none) i next+1=Fe L (L.getD a LT.none) i next:=λY=>by unfold Fe I3 J2;rw[if_pos Y]
   have no:∀(Y:¬((L.getD a LT.none).kind=31/\i=1\/(L.getD a LT.none).kind=34\/(L.getD a LT.none).kind=35)),I3 L (L.getD a LT.none) i next=Fe L (L.getD a LT.none) i next:=λY=>by unfold Fe I3 J2;rw[if_neg Y];omega
   have hR:Bo .i64 (I3 L (L.getD a LT.none) i next+1)=true:=Be.2 (by omega)
   repeat' first
    |with_reducible refine Aj (λ_=>?_) (λ_=>?_)
    |with_reducible refine An hR ?_
   all_goals simp only[BL,BU]at*
   all_goals first
    |exact⟨(i,next),⟨λb hb=>hb.symm,λb hb=>hb.symm⟩,ah (by omega)⟩
    |exact⟨(i,next),⟨λb hb=>hb.symm,λb hb=>hb.symm⟩,no (by omega)⟩
  obtain⟨i',J⟩:=y;obtain⟨W,V⟩:=hy;have W:=W _ rfl;have V:=V _ rfl;simp only at W V⊢;obtain rfl:i=i':=by omega
  obtain rfl:next=J:=by omega
  refine An (BJ.2 (by omega)) (An (decide_eq_true ⟨by omega,by omega⟩) (An (Be.2 (by omega)) ⟨⟨L,rfl,rfl,hL,(show(0:Int)<=(next:Int) by omega),(show L.length-next<N by omega),(show(0:Int)<=nest+Fe L (L.getD a LT.none) i next by omega),(show nest+Fe L (L.getD a LT.none) i next<=1000 by omega)⟩,Aj (λY=>U (xj ?_)) λY=>An (Be.2 (by omega)) ?_⟩))
  ·rw[BL]at Y;omega
  ·rw[BU]at Y;have hz:DN L next (nest+Fe L (L.getD a LT.none) i next)≠0:=λe=>Y (by rw[e];rfl)
   have hg:=AfL hz;rw[nW (by omega) hz]at R;refine⟨(i+1,DN L next (nest+Fe L (L.getD a LT.none) i next),l++[(L.getD next LT.none).kind]),⟨ad,by simp only;omega,hg.2,by simp[ae],R⟩,by simp only;omega,⟨by simp,rfl,by simp⟩,by simp,?_⟩;exact⟨λj hj=>(RN (row:=λz:Int=>[AV.int .i64 z]) (d:=0) (e:=1) (n:=l.length+1) (out:=l) (t:=(L.getD next LT.none).kind) (g:=λ_=>[AV.int .i64 (L.getD next LT.none).kind]) (λt=>⟨⟨rfl,rfl⟩,trivial⟩) rfl rfl).h j (by have:j<l.length+1:=hj;omega)⟩
 ·rw[Cg]at h;obtain rfl:i=(L.getD a LT.none).kids.length:=by omega
  rw[List.drop_length,nV]at R;refine An (Lc λi _=>rfl) ⟨⟨l,rfl,rfl,by omega⟩,?_⟩;have hs:=nT aj aa R.symm;refine Aj (λh=>K ?_) λh=>?_
  ·rw[hs];simp only[nf h,Bool.false_eq_true,if_false]
  ·rw[hs];simp only[nt h,if_true]
theorem Ak4:∀(N:Nat) (L:List LT) (a:Nat) (nest:Int),Nw L->L.length-a<N+1->0<=nest->nest<=1000->(AG (vp N L a nest) 60).call 19 [tree L,.int .i64 a,.int .i64 nest] .leaf 0 (Ch Tryz.prog false (.int .i64 (DN L a nest))):=Eq.mpr (by kernel_rfl) Ak5
theorem Ah8:∀N:Nat,Ci Tryz.prog 19 (Wd N):=by
 intro N
 induction N with
 |zero=>
  refine EN (gl:=[]) (ng:=0) BQ λH args ct q=>?_;unfold Wd at q;split at q
  ·injection q with q;subst q;refine⟨BQ,_,_,rfl,?_⟩;rintro⟨L,rfl,rfl,B,K,y,E,C⟩;omega
  ·cases q
 |succ N J=>
  refine EN (gl:=[]) (ng:=0) BQ λH args ct q=>?_;unfold Wd at q;split at q
  ·rename_i n f a nest;injection q with q;subst q;refine⟨BQ,_,_,rfl,?_⟩;rintro⟨L,rfl,rfl,B,K,y,E,C⟩;obtain⟨b,rfl⟩:∃b:Nat,a=b:=⟨a.toNat,by omega⟩;rw[Du,XF];exact⟨⟨R5 L,⟨rfl,rfl⟩,⟨rfl,rfl⟩,trivial⟩,vp N L b nest,60,rfl,AW,Cw AiP (Cw Ain (Cw Aiq (Cw Aid (Cw J Bc)))),Ak4 N L b nest B y E C⟩
  ·cases q
def L2 (L:List LT):Bool:=decide (0<L.length)&&(decide ((L.getD 0 LT.none).kind=1)&&decide (DN L 0 0=L.length))
def lr:Tr Ac->List AV->Option Ct:=λ_ args=>match args with
 | [.agg [.vec 6 n f]]=>some (.A6 (∃L:List LT,n=L.length/\f=Bs L/\Nw L) (.ret (.bool (Ax (L2 (Ou n f))))))
 |_=>none
theorem Alu:∀(L:List LT),Nw L->Ad (AP (0:Int) (GG L)) (Ap (Bn (0:Int) L.length) (Ad (Ak (LT.kind (IC L)) (1:Int)) ((∃(q:List LT),L.length=q.length/\Bs L=Bs q/\Nw q/\Int.NonNeg (0:Int)/\Nat.le (Nat.succ (q.length-0)) (L.length+1)/\Int.NonNeg (0:Int)/\Int.NonNeg (1000:Int))/\(((Ab (AV.int .i64 (GG L))/\Ab (AV.vec 6 L.length (Bs L))/\True/\True/\True/\True/\True/\True)/\True)/\((True/\True/\True/\True/\True/\True/\True/\True)/\True)/\True)/\Ak (AY (↑(DN (Ou L.length (Bs L)) 0 (0:Int)):Int)) (GG L)=L2 L) ((Hi/\True)/\false=L2 L))) ((BF/\True)/\false=L2 L)
:=by
 delta BF Hi IC GG;intro L B;simp only[A9];simp only[XF];unfold L2;refine Aj (λh=>An (BJ.2 (by rw[B1]at h;omega)) (Aj (λy=>⟨⟨L,rfl,rfl,B,(show(0:Int)<=0 by omega),(show L.length-0<L.length+1 by omega),(show(0:Int)<=0 by omega),(show(0:Int)<=1000 by omega)⟩,?_⟩) λy=>?_)) λh=>?_
 ·rw[B1]at h;rw[BL]at y;rw[decide_eq_true (show 0<L.length by omega),decide_eq_true y,Dt,Bool.true_and,Bool.true_and];apply decide_eq_decide.2;omega
 ·rw[BU]at y;rw[decide_eq_false y];simp
 ·rw[Cg]at h;rw[decide_eq_false (by omega)];simp
theorem Als:∀(L:List LT),Nw L->(AG (D4 [(19,Wd (L.length+1))]) 60).call 11 [tree L] .leaf 0 (Ch Tryz.prog false (.bool (L2 L))):=Eq.mpr (by kernel_rfl) Alu
theorem Aik:Ci Tryz.prog 11 lr:=by
 refine EN (gl:=[]) (ng:=0) BQ λH args ct q=>?_;unfold lr at q;split at q
 ·rename_i n f;injection q with q;subst q;refine⟨BQ,_,_,rfl,?_⟩;rintro⟨L,rfl,rfl,y⟩;rw[DT,XF];exact⟨⟨R5 L,trivial⟩,_,60,rfl,AW,Cw (Ah8 _) Bc,Als L y⟩
 ·cases q
end Go.Proofs.YtlmmbanfhjaioaaGreatDoor
end
end
