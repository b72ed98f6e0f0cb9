/- Laid by program out of its parts: TyA, TyB, TyC, TyD, TyE, TyF. -/
import Derived.Test.YthallodoidghoaaGreatMj
import Derived.Test.YthallodoidghoaaGreatMh
import Derived.KernelRfl
import Derived.Test.YthallodoidghoaaGreatProg
noncomputable section
open List(getD)
open Int(toNat)
set_option linter.unusedVariables false
set_option linter.unusedSimpArgs false
section
set_option maxRecDepth 100000
open Go Go.Ev
namespace Go.Proofs.YthallodoidghoaaGreat
theorem Cc:Tryz.prog.follows .mixedOrders=true:=by rfl
def G3:Ctx:={P:=Tryz.prog,tb:=[],lp:=λ_ _=>none,cut:=λ_ _=>none}
def Rv (tb:DQ):Ctx:={P:=Tryz.prog,tb:=tb,lp:=λ_ _=>none,cut:=λ_ _=>none}
def M4 (tb:DQ) (y x:Nat) (S:B0):Ctx:={P:=Tryz.prog,tb:=tb,lp:=λf r=>cond (Nat.beq f y) (cond (Nat.beq r x) (some S) none) none,cut:=λ_ _=>none}
structure Ab where
 kind:Int
 text:List UInt8
 n:Int
 line:Int
 Av:Int
 kids:List Int
abbrev Ac:=List Ab
def Ab.none:Ab:=⟨0,[],0,0,0,[]⟩
def Aq (L:Af):Nat->Al:=λi=>[.int .i64 (L.getD i 0)]
def Ab.row (x:Ab):Al:=[.int .i64 x.kind,.bs x.text,.int .i64 x.n,.int .i64 x.line,.int .i64 x.Av,.vec 1 x.kids.length (Aq x.kids)]
def AE (L:Ac):Nat->Al:=λi=>(L.getD i Ab.none).row
def tree (L:Ac):AV:=.agg [.vec 6 L.length (AE L)]
def Lg (l:Al):Int:=match l with
 | [.int _ z]=>z
 |_=>0
def Dy (n:Nat) (f:Nat->Al):Af:=(List.range n).map λi=>Lg (f i)
def Je (l:Al):Ab:=match l with
 | [.int _ k,.bs t,.int _ n,.int _ a,.int _ b,.vec _ m f]=>⟨k,t,n,a,b,Dy m f⟩
 |_=>Ab.none
def H4 (n:Nat) (f:Nat->Al):Ac:=(List.range n).map λi=>Je (f i)
def B9 (k:Int):Bool:=decide (26<=k/\k<=36)
def AeF (k:Int):Bool:=decide (13<=k/\k<=25)
def pB (k:Int):Bool:=decide (k=2\/k=3\/k=6\/k=7\/k=8\/k=10\/k=11)
def wc (k:Int):Bool:=decide (k=29\/k=30\/k=31)
def Ib (k:Int) (s:Aj):Int:=if B9 k then(if k=32 then(if s=[60]\/s=[61,61]then 1 else if s=[43]\/s=[45]then 2 else 3)else if k=34\/k=35 then 4 else 5)else 0
def P2 (k:Int) (s:Aj) (i:Int):Int:=if k=32 then(if s=[60]\/s=[61,61]then 2 else if s=[43]\/s=[45]then 2+i else 3+i)else if k=34\/k=35 then 4 else if k=30 then 5 else if k=31 then 5-5*i else 0
def pN:Tr Ah->Al->Option Ct:=λ_ args=>match args with
 | [.agg [.int .i64 k,.bs s,.int .i64 n,.int .i64 a,.int .i64 b,.vec 1 m f]]=>some (.Bb (∃S:Af,m=S.length/\f=Aq S) (.ret (.int .i64 (Ib k s))))
 |_=>none
def pO:Tr Ah->Al->Option Ct:=λ_ args=>match args with
 | [.agg [.int .i64 k,.bs s,.int .i64 n,.int .i64 a,.int .i64 b,.vec 1 m f]]=>some (.Bb (∃S:Af,m=S.length/\f=Aq S) (.br (Ay (B9 k)) (.br (Ay (decide (k=32))) (.br (Ay (decide (s=[60]\/s=[61,61]))) (.ret (.int .i64 1)) (.br (Ay (decide (s=[43]\/s=[45]))) (.ret (.int .i64 2)) (.ret (.int .i64 3))))
   (.br (Ay (decide (k=34\/k=35))) (.ret (.int .i64 4)) (.ret (.int .i64 5)))) (.ret (.int .i64 0))))
 |_=>none
def p7:Tr Ah->Al->Option Ct:=λ_ args=>match args with
 | [.agg [.int .i64 k,.bs s,.int .i64 n,.int .i64 a,.int .i64 b,.vec 1 m f],.int .i64 i]=>some (.Bb ((∃S:Af,m=S.length/\f=Aq S)/\0<=i/\i<=100000000) (.ret (.int .i64 (AF (P2 k s i)))))
 |_=>none
def PK:Tr Ah->Al->Option Ct:=λ_ args=>match args with
 | [.int .i64 k]=>some (.Bb True (.ret (.bool (Ay (B9 k)))))
 |_=>none
theorem Ahs {P:Program} {g:FuncId} {AN x:Tr Ah->Al->Option Ct} (h:BC P g AN) (K:∀H args ct,x H args=some ct->∃r,AN H args=some r/\∀p v,G2 ct=some (p,v)->G2 r=some (p,v)):BC P g x:=by intro H args ct z p v y;obtain⟨r,J,B⟩:=K H args ct z;exact h H _ r J p v (B p v y)
theorem Ob (S:Af) (i:Nat):AZ [] (Aq S i) (Aq S i):=⟨⟨rfl,rfl⟩,trivial⟩
theorem Q4 (x:Ab):AZ [] x.row x.row:=⟨⟨rfl,rfl⟩,rfl,⟨rfl,rfl⟩,⟨rfl,rfl⟩,⟨rfl,rfl⟩,⟨rfl,rfl,⟨λi _=>Ob _ i⟩⟩,trivial⟩
theorem FK (L:Ac):Bi [] (tree L) (tree L):=⟨⟨rfl,rfl,⟨λi _=>Q4 _⟩⟩,trivial⟩
theorem EC (S:Af):Dy S.length (Aq S)=S:=by
 apply List.ext_getElem
 ·simp[Dy]
 ·intro i x r;simp[Dy,Aq,Lg,Bt,Ce r]
theorem T9 (x:Ab):Je x.row=x:=by cases x;simp only[Ab.row,Je,EC]
theorem DY (L:Ac):H4 L.length (AE L)=L:=by
 apply List.ext_getElem
 ·simp[H4]
 ·intro i x r;simp[H4,AE,T9,Bt,Ce r]
theorem nt {b:Bool} (h:(!b)=false):b=true:=by simpa using h
theorem nf {b:Bool} (h:(!b)=true):b=false:=by simpa using h
def Mz (a:Ab):=Ib (Ab.kind a) (Ab.text a)
def NW (a:Ab):=Au (Ab.kind a)
theorem Amw:∀(x:Ab),Ag (!AP (Ab.kind x) (26:Int)) (Ag (!!AP (36:Int) (Ab.kind x)) (Aa/\(0:Int)=Mz x) (Ag (NW x (32:Int)) (Ag (decide (Ab.text x=[(60:UInt8)])) (Aa/\(1:Int)=Mz x) (Ag (decide (Ab.text x=[(61:UInt8),61])) (Aa/\(1:Int)=Mz x) (Ag (decide (Ab.text x=[(43:UInt8)])) (Aa/\(2:Int)=Mz x) (Ag (decide (Ab.text x=[(45:UInt8)])) (Aa/\(2:Int)=Mz x) (Aa/\(3:Int)=Mz x))))) (Ag (NW x (34:Int)) (Aa/\(4:Int)=Mz x) (Ag (NW x (35:Int)) (Aa/\(4:Int)=Mz x) (Aa/\(5:Int)=Mz x))))) (Aa/\(0:Int)=Mz x)
:=by
 delta Mz NW;intro x;simp only[Bq];simp only[GC,EX,DD,BZ,BI,Bn,CU];unfold Ib B9;simp only[Bn]
 repeat' first
  |exact trivial
  |(refine And.intro ?_ ?_)
  |(intro h;simp only[h,if_true,if_false];done)
  |intro h
 all_goals grind
theorem Amv:∀(x:Ab),(A3 G3 60).call 83 [.agg x.row] .leaf 0 (BS Tryz.prog false (.int .i64 (Ib x.kind x.text))):=Eq.mpr (by kernel_rfl) Amw
theorem AcW:BC Tryz.prog 83 pN:=by
 refine Cw (gl:=[]) (ng:=0) AS λH args ct r=>?_;unfold pN at r;split at r
 ·rename_i k s n a b m f;injection r with r;subst r;refine⟨AS,_,_,rfl,?_⟩;rintro⟨S,rfl,rfl⟩;exact⟨⟨Q4 ⟨k,s,n,a,b,S⟩,trivial⟩,G3,60,rfl,Cc,Bk,Amv ⟨k,s,n,a,b,S⟩⟩
 ·cases r
theorem Akd:BC Tryz.prog 83 pO:=by
 refine Ahs AcW λH args ct r=>?_;unfold pO at r;split at r
 ·rename_i k s n a b m f;injection r with r;subst r;refine⟨_,rfl,λp v h=>?_⟩;have h':(open Classical in if(∃S:Af,m=S.length/\f=Aq S)then G2 (Ct.br (Ay (B9 k)) (.br (Ay (decide (k=32))) (.br (Ay (decide (s=[60]\/s=[61,61]))) (.ret (.int .i64 1)) (.br (Ay (decide (s=[43]\/s=[45]))) (.ret (.int .i64 2)) (.ret (.int .i64 3))))
   (.br (Ay (decide (k=34\/k=35))) (.ret (.int .i64 4)) (.ret (.int .i64 5)))) (.ret (.int .i64 0)))else none)=some (p,v):=h
  split at h'
  case isFalse=>cases h'
  rename_i z;refine(As z).trans ?_;rw[<-h'];show some (false,AV.int .i64 (Ib k s))=cond (Ay (B9 k)) (cond (Ay (decide (k=32))) (cond (Ay (decide (s=[60]\/s=[61,61]))) (some (false,AV.int .i64 1)) (cond (Ay (decide (s=[43]\/s=[45]))) (some (false,AV.int .i64 2)) (some (false,AV.int .i64 3)))) (cond (Ay (decide (k=34\/k=35))) (some (false,AV.int .i64 4)) (some (false,AV.int .i64 5)))) (some (false,AV.int .i64 0));simp only[F2];unfold Ib;cases B9 k with
  |false=>rfl
  |true=>
   by_cases y:k=32
   ·by_cases x:s=[60]\/s=[61,61]
    ·simp[y,x]
    ·by_cases B:s=[43]\/s=[45]<;>simp[y,x,B]
   ·by_cases x:k=34\/k=35<;>simp[y,x]
 ·cases r
@[reducible] def ZL:Ab->Prop:=λ(x:Ab)=>(True/\Ae (AV.agg [AV.int .i64 (Ab.kind x),AV.bs (Ab.text x),AV.int .i64 (Ab.n x),AV.int .i64 (Ab.line x),AV.int .i64 (Ab.Av x),AV.vec 1 (List.length (Ab.kids x)) (Aq (Ab.kids x))])/\True/\True/\True)/\True
def CI:=((True/\True/\True/\True/\True)/\True)
@[reducible] def kt:Ab->Prop:=λ(x:Ab)=>ZL x/\((True/\True/\Ae (AV.int .i64 (2:Int))/\True/\True)/\True)/\CI/\True
@[reducible] def ky:Ab->Prop:=λ(x:Ab)=>ZL x/\((True/\True/\Ae (AV.int .i64 (0:Int))/\True/\True)/\True)/\CI/\True
@[reducible] def kz:Ab->Prop:=λ(x:Ab)=>ZL x/\((True/\True/\Ae (AV.int .i64 (3:Int))/\True/\True)/\True)/\CI/\True
def Jw (a:Ab):=P2 (Ab.kind a) (Ab.text a)
@[reducible] def lA:Ab->Int->Prop:=λ(x:Ab) (i:Int)=>ky x/\Aa/\(0:Int)=Jw x i
@[reducible] def lB:Ab->Int->Prop:=λ(x:Ab) (i:Int)=>kt x/\Aa/\(2:Int)=Jw x i
@[reducible] def lC:Ab->Int->Prop:=λ(x:Ab) (i:Int)=>kz x/\Aa/\(3:Int)=Jw x i
@[reducible] def lD:Ab->Int->Prop:=λ(x:Ab) (i:Int)=>kt x/\Aa/\(2:Int)+i=Jw x i
@[reducible] def lE:Ab->Int->Prop:=λ(x:Ab) (i:Int)=>kz x/\Aa/\(3:Int)+i=Jw x i
@[reducible] def lF:Ab->Int->Prop:=λ(x:Ab) (i:Int)=>ky x/\Aa/\(0:Int)+i=Jw x i
def Qz (a:Ab):=(∃(r:Af),List.length (Ab.kids a)=r.length/\Aq (Ab.kids a)=Aq r)
def Vo (a:Ab):=Ag (Ay (decide (Ab.text a=[(60:UInt8)]\/Ab.text a=[(61:UInt8),61])))
def Vp (a:Ab):=Ag (Ay (decide (Ab.text a=[(43:UInt8)]\/Ab.text a=[(45:UInt8)])))
def Vl (a:Ab):=Ap (Ay (decide (Ab.kind a=(34:Int)\/Ab.kind a=(35:Int)))) False
def Vs (a:Ab):=Ag (Ay (decide (Ab.kind a=(32:Int))))
def Vz (a:Ab):=Ag (Ay (B9 (Ab.kind a)))
@[reducible] def ku:Ab->Int->Prop:=λ(x:Ab) (i:Int)=>(Qz x)/\Vz x (Vs x (Vo x (lB x i) (Vp x (Ap (Bf .i64 ((2:Int)+i)) (lD x i)) (Ap (Bf .i64 ((2:Int)+i)) (lD x i)))) (Vl x)) (lB x i)
def Gy (a:Int):=Int.NonNeg (a-0)
theorem AnG:∀(x:Ab) (i:Int),Gy i->Int.NonNeg ((100000000:Int)-i)->Ag (NW x (32:Int)) ((Qz x)/\Vz x (Vs x (Vo x (ku x i) (Vp x (ku x i) ((Qz x)/\Vz x (Vs x (Vo x (lC x i) (Vp x (Ap (Bf .i64 ((3:Int)+i)) (lE x i)) (Ap (Bf .i64 ((3:Int)+i)) (lE x i)))) (Vl x)) (lC x i)))) (Vl x)) ((Qz x)/\Vz x (Vs x (Vo x (lA x i) (Vp x (Ap (Bf .i64 ((0:Int)+i)) (lF x i)) (Ap (Bf .i64 ((0:Int)+i)) (lF x i)))) (Vl x)) (lA x i))) (Ag (NW x (34:Int)) (Aa/\(4:Int)=Jw x i) (Ag (NW x (35:Int)) (Aa/\(4:Int)=Jw x i) (Ag (NW x (30:Int)) (Aa/\(5:Int)=Jw x i) (Ag (NW x (31:Int)) (Ap (Bf .i64 ((5:Int)*i)) (Ap (Bf .i64 ((5:Int)-5*i)) (Aa/\(5:Int)-5*i=Jw x i))) (Aa/\(0:Int)=Jw x i)))))
:=by
 delta Jw Qz Vo Vp Vl Gy Vs NW Vz;intro x i z y;have z:0<=i:=z;have y:i<=100000000:=y;have r:∃S:Af,x.kids.length=S.length/\Aq x.kids=Aq S:=⟨_,rfl,rfl⟩;simp only[Bq,ZL,kt,ky,kz,lA,lB,lC,lD,lE,lF,ku,CI,Jw,Qz,Vo,Vp,Vl,Vs,Vz];simp only[r,true_and,GC,EE,EX,DD,AU,BZ,BI,Bn,CU];unfold P2 B9;simp only[Bn,CU];generalize x.kind=k;generalize x.text=s;clear r
 repeat' first
  |exact trivial
  |(refine And.intro ?_ ?_)
  |intro h
 all_goals grind
theorem AnF:∀(x:Ab) (i:Int),0<=i->i<=100000000->(A3 (Rv [(83,pO)]) 60).call 84 [.agg x.row,.int .i64 i] .leaf 0 (BS Tryz.prog false (.int .i64 (P2 x.kind x.text i))):=Eq.mpr (by kernel_rfl) AnG
def gZ (a:Int):=Ag (!AP a (26:Int)) ((!AP (36:Int) a)=B9 a) (false=B9 a)
theorem AoP:∀(k:Int),gZ k
:=by
 delta gZ;intro k;simp only[GC,EX,DD,BZ,BI,Bn,CU];unfold B9
 grind
theorem AoO:∀(k:Int),(A3 G3 60).call 29 [.int .i64 k] .leaf 0 (BS Tryz.prog false (.bool (B9 k))):=Eq.mpr (by kernel_rfl) AoP
theorem AkG:BC Tryz.prog 84 p7:=by
 refine Cw (gl:=[]) (ng:=0) AS λH args ct r=>?_;unfold p7 at r;split at r
 ·rename_i k s n a b m f i;injection r with r;subst r;refine⟨AS,_,_,rfl,?_⟩;rintro⟨⟨S,rfl,rfl⟩,y,x⟩;exact⟨⟨Q4 ⟨k,s,n,a,b,S⟩,⟨rfl,rfl⟩,trivial⟩,_,60,rfl,Cc,BD Akd Bk,by rw[Et];exact AnF ⟨k,s,n,a,b,S⟩ i y x⟩
 ·cases r
theorem uB:BC Tryz.prog 29 PK:=by
 refine Cw (gl:=[]) (ng:=0) AS λH args ct r=>?_;unfold PK at r;split at r
 ·rename_i k;injection r with r;subst r;exact⟨AS,_,_,rfl,λ_=>⟨⟨⟨rfl,rfl⟩,trivial⟩,G3,60,rfl,Cc,Bk,by rw[F2];exact AoO k⟩⟩
 ·cases r
def xG:List Aj:=[[97,102,116,101,114],[97,114,114],[99,97,108,108],[99,97,110,99,101,108],[99,108,97,115,115],[99,111,109,112],[99,114,101,97,116,101],[100,101,115,116,114,111,121],[100,105,115,97,98,108,101],[101,108,115,101],[101,110,97,98,108,101],[101,118,101,110,116],[102,110],[102,114,111,110,116],[104,97,110,100],[105,102],[105,110,116],[105,116],[106,111,105,110],[108,101,110],[108,111,103],[108,111,111,112,101,114],[109,97,105,110],[110,101,119],[110,117,108,108],[111,102,102],[111,110],[112,111,115,116],[114,101,116,117,114,110],[115,112,97,119,110],[115,116,97,114,116],[115,116,111,112],[116,111],[116,111,107],[118,97,114],[119,104,105,108,101]]
def UE (l:Aj):Bool:=xG.any λw=>decide (l=w)
def Rx (z:Int):Bool:=decide (48<=z/\z<=57)
def Oh (z:Int):Bool:=decide (97<=z/\z<=122)||decide (65<=z/\z<=90)||decide (z=95)
def L6 (i:Nat) (b:UInt8):Bool:=Oh (b.toNat:Int)||(!decide (i=0)&&Rx (b.toNat:Int))
def Jj (l:Aj):Bool:=(List.range l.length).all (λi=>L6 i (l.getD i 0))&&(decide (l≠[])&&(decide (l.length<=32)&& !UE l))
structure NR (l:List UInt8) (k:Nat):Prop where
 le:k<=l.length
 all:∀j,j<k->L6 j (l.getD j 0)=true
def x8 (l:Aj):B0:=thin Nat [0,2] (λk=>[(3,.int .i64 k)]) (λ_ k=>NR l k) λk=>l.length-k
def ej (f:Int->Bool):Tr Ah->Al->Option Ct:=λ_ args=>match args with
 | [.int .u8 z]=>some (.Bb True (.ret (.bool (Ay (f z)))))
 |_=>none
def rH:Tr Ah->Al->Option Ct:=λ_ args=>match args with
 | [.bs s]=>some (.Bb True (.ret (.bool (Ay (UE s)))))
 |_=>none
def cq:Tr Ah->Al->Option Ct:=λ_ args=>match args with
 | [.bs l]=>some (.Bb (l.length<=1000000) (.ret (.bool (Ay (Jj l)))))
 |_=>none
def wW:DQ:=[(53,ej Oh),(54,ej Rx),(55,rH)]
def MS (s:Aj):Bool:=decide (s=[105,110,116]\/s=[102,110]\/s=[116,111,107]\/s=[104,97,110,100]\/s=[97,114,114])||Jj s
def opT (s:Aj):Bool:=decide (s=[43]\/s=[45]\/s=[42]\/s=[60]\/s=[61,61])
def Ka (k:Int) (s:Aj):Bool:=if k=5 then MS s else if k=32 then opT s else if k=2\/k=3\/k=4\/k=6\/k=7\/k=8\/k=10\/k=13\/k=19\/k=21\/k=22\/k=29\/k=30\/k=33 then Jj s else decide (s=[])
def IF (k n:Int):Bool:=if k=9 then decide (0<=n/\n<=3)else if k=10 then decide (n=0\/n=1)else if k=19 then decide (-1<=n/\n<=2147483647)else if k=26 then decide (0<=n/\n<=2147483647)else decide (n=0)
def rA:Tr Ah->Al->Option Ct:=λ_ args=>match args with
 | [.int .i64 k,.bs s]=>some (.Bb (s.length<=1000000) (.ret (.bool (Ay (Ka k s)))))
 |_=>none
def p9:Tr Ah->Al->Option Ct:=λ_ args=>match args with
 | [.int .i64 k,.int .i64 n]=>some (.Bb True (.ret (.bool (Ay (IF k n)))))
 |_=>none
def rF:Tr Ah->Al->Option Ct:=λ_ args=>match args with
 | [.bs s]=>some (.Bb (s.length<=1000000) (.ret (.bool (Ay (MS s)))))
 |_=>none
def oe (s:Aj) (x:Bool):List Aj->Prop
 | []=>false=x
 |w::ws=>Ag (decide (w=s)) (true=x) (oe s x ws)
theorem yg (s:Aj) (x:Bool):∀ws:List Aj,(x=ws.any λw=>decide (s=w))->oe s x ws
 | [],h=>h.symm
 |w::ws,h=>by
  rw[List.any_cons]at h;refine Ao (λr=>?_) λr=>?_
  ·rw[Bn]at r;subst r;rw[h];simp
  ·refine yg s x ws ?_;rw[CU]at r;rw[h,E7 (λe=>r e.symm),Bool.false_or]
def xX (s:Aj):Prop:=(A3 G3 200).call 55 [.bs s] .leaf 0 (BS Tryz.prog false (.bool (UE s)))
theorem Api (s:Aj):xX s:=Eq.mpr (show xX s=oe s (UE s) xG by kernel_rfl) (yg s _ xG rfl)
theorem Aln:BC Tryz.prog 55 rH:=by
 refine Cw (gl:=[]) (ng:=0) AS λH args ct r=>?_;unfold rH at r;split at r
 ·rename_i l;injection r with r;subst r;exact⟨AS,_,_,rfl,λ_=>⟨⟨rfl,trivial⟩,G3,200,rfl,Cc,Bk,by rw[F2];exact Api l⟩⟩
 ·cases r
theorem Ac9 {g:FuncId} {f:Int->Bool} (h:∀z:Int,(A3 G3 40).call g [.int .u8 z] .leaf 0 (BS Tryz.prog false (.bool (f z)))):BC Tryz.prog g (ej f):=by
 refine W6 (gl:=[]) (ng:=0) AS λH args ct r=>?_;unfold ej at r;split at r
 ·rename_i z;injection r with r;subst r;exact⟨AS,⟨⟨rfl,rfl⟩,trivial⟩,_,_,rfl,λ_=>⟨G3,40,rfl,Cc,Bk,by rw[F2];exact h z⟩⟩
 ·cases r
def uh (a:Int):=Ag (!AP a (65:Int)) (Ag (!AP (90:Int) a) (true=Oh a) (Au a (95:Int)=Oh a)) (Au a (95:Int)=Oh a)
theorem Anp:∀(z:Int),Ag (!AP z (97:Int)) (Ag (!AP (122:Int) z) (true=Oh z) (uh z)) (uh z)
:=by
 delta uh;intro z;simp only[GC,EX,DD,BZ,BI,Bn,CU];unfold Oh
 grind
theorem Ano:∀z:Int,(A3 G3 40).call 53 [.int .u8 z] .leaf 0 (BS Tryz.prog false (.bool (Oh z))):=Eq.mpr (by kernel_rfl) Anp
theorem AmO:∀(z:Int),Ag (!AP z (48:Int)) ((!AP (57:Int) z)=Rx z) (false=Rx z)
:=by
 intro z;simp only[GC,EX,DD,BZ,BI,Bn,CU];unfold Rx
 grind
theorem AmN:∀z:Int,(A3 G3 40).call 54 [.int .u8 z] .leaf 0 (BS Tryz.prog false (.bool (Rx z))):=Eq.mpr (by kernel_rfl) AmO
theorem Aqb:EU Tryz.prog wW:=BD (Ac9 Ano) (BD (Ac9 AmN) (BD Aln Bk))
theorem Aj3 {l:Aj} {k:Nat} (h:NR l k) (x:k<l.length) (hb:L6 k (l.getD k 0)=true):NR l (k+1):=⟨x,λj y=>by
  rcases D9 j k with r|r
  ·exact h.all j r
  ·rw[show j=k by omega];exact hb⟩
theorem AcD {l:Aj} {k:Nat} (h:k<l.length) (hb:L6 k (l.getD k 0)=false):Jj l=false:=by
 have:((List.range l.length).all λi=>L6 i (l.getD i 0))=false:=by rw[List.all_eq_false];exact⟨k,List.mem_range.2 h,by rw[hb];simp⟩
 unfold Jj;rw[this];rfl
theorem AjP {l:Aj} (h:NR l l.length):Jj l=(decide (l≠[])&&(decide (l.length<=32)&& !UE l)):=by
 have:((List.range l.length).all λi=>L6 i (l.getD i 0))=true:=by rw[List.all_eq_true];intro i hi;exact h.all i (List.mem_range.1 hi)
 unfold Jj;rw[this];rfl
def Cb (a:Nat) (b:Nat):=(Aa/\(↑a:Int)+1=(↑b:Int))
@[reducible] def lG:Aj->Nat->Nat->Prop:=λ(l:Aj) (a r:Nat)=>NR l r/\Nat.le (Nat.succ (l.length-r)) (l.length-a)/\Aa/\((Cb a r)/\l=l/\Ae false/\True)/\True
def Bj (a:Nat):=Ap (Bf .i64 ((↑a:Int)+1))
def B8 (a:Nat):=toNat (↑a:Int)
def Cr (a:Nat):=(Aa/\(0:Int)=(↑a:Int))
def QH (a:Aj):=Nat.le a.length 1000000
theorem AnK:∀(l:Aj),QH l->(∃(Y:Nat),NR l Y/\Aa/\((Cr Y)/\l=l/\Ae false/\True)/\True)/\∀(x:Nat),NR l x->Ag (AP (↑x:Int) (Int.ofNat l.length)) (Ap (AO (↑x:Int) l.length) (True/\Ag (!Ay (Oh (↑(UInt8.toNat (getD l (B8 x) (0:UInt8))):Int))) (Ag (Au (↑x:Int) (0:Int)) (false=Jj l) (Ap (AO (↑x:Int) l.length) (True/\Ag (!Ay (Rx (↑(UInt8.toNat (getD l (B8 x) (0:UInt8))):Int))) (false=Jj l) (Bj x (∃(r:Nat),lG l x r))))) (Bj x (∃(r:Nat),lG l x r)))) (Ag (!decide (l=[])) (Ag (!AP (32:Int) (Int.ofNat l.length)) (True/\(!Ay (UE l))=Jj l) (false=Jj l)) (false=Jj l))
:=by
 delta Bj B8 Cr QH;intro l hl;have hl:l.length<=1000000:=hl;simp only[Bq,lG,Cb];refine⟨⟨0,⟨BL _,λj hj=>by omega⟩,by trivial⟩,λx L=>Ao (λh=>?_) λh=>?_⟩
 ·rw[Bd]at h;have J:x<l.length:=by omega
  have hb:AO (x:Int) l.length=true:=AK.2 (by omega);have Z:Bf .i64 ((x:Int)+1)=true:=AU.2 (by omega);have y:L6 x (l.getD x 0)=true->∃r,NR l r/\l.length-r<l.length-x/\(r:Int)=(x:Int)+1:=λh=>⟨x+1,Aj3 L J h,by omega,by omega⟩;refine Am hb (Ao (λz=>Ao (λS=>?_) λS=>?_) λz=>?_)
  ·rw[Ba]at S;have B:x=0:=by omega
   exact(AcD J (by unfold L6;rw[nf z,BF B];rfl)).symm
  ·rw[BB]at S;have B:¬x=0:=by omega
   refine Am hb (Ao (λR=>?_) λR=>?_)
   ·exact(AcD J (by unfold L6;rw[nf z,nf R];simp)).symm
   ·refine Am Z ?_;obtain⟨r,W,V,U⟩:=y (by unfold L6;rw[nt R,E7 B];simp);exact⟨r,W,V,by rw[U]⟩
  ·refine Am Z ?_;obtain⟨r,W,V,U⟩:=y (by unfold L6;rw[nt z];rfl);exact⟨r,W,V,by rw[U]⟩
 ·rw[Bl]at h;have aa:=L.le;obtain rfl:x=l.length:=by omega
  rw[AjP L];refine Ao (λK=>Ao (λz=>?_) λz=>?_) λK=>?_
  ·rw[BZ,Bl]at z;have K:=of_decide_eq_false (nf K);rw[BF K,BF (show l.length<=32 by omega)];rfl
  ·rw[BI,Bd]at z;rw[E7 (show¬l.length<=32 by omega)];simp
  ·rw[E7 (show¬l≠[]fromλh=>h (of_decide_eq_true (nt K)))];rfl
theorem AnJ:∀(l:Aj),l.length<=1000000->(A3 (M4 wW 82 2 (x8 l)) 60).call 82 [.bs l] .leaf 0 (BS Tryz.prog false (.bool (Jj l))):=Eq.mpr (by kernel_rfl) AnK
theorem Ac1:BC Tryz.prog 82 cq:=by
 refine Cw (gl:=[]) (ng:=0) AS λH args ct r=>?_;unfold cq at r;split at r
 ·rename_i l;injection r with r;subst r;exact⟨AS,_,_,rfl,λx=>⟨⟨rfl,trivial⟩,M4 wW 82 2 (x8 l),60,rfl,Cc,Aqb,by rw[F2];exact AnJ l x⟩⟩
 ·cases r
theorem Ao5:∀(s:Aj),QH s->Ag (decide (s=[(105:UInt8),110,116])) (true=MS s) (Ag (decide (s=[(102:UInt8),110])) (true=MS s) (Ag (decide (s=[(116:UInt8),111,107])) (true=MS s) (Ag (decide (s=[(104:UInt8),97,110,100])) (true=MS s) (Ag (decide (s=[(97:UInt8),114,114])) (true=MS s) (QH s/\Ay (Jj s)=MS s)))))
:=by
 delta QH;intro s r;have r:s.length<=1000000:=r;simp only[Bq];simp only[r,true_and,GC,BZ,BI,Bn,CU];unfold MS
 grind
theorem Ao4:∀(s:Aj),s.length<=1000000->(A3 (Rv [(82,cq)]) 60).call 80 [.bs s] .leaf 0 (BS Tryz.prog false (.bool (MS s))):=Eq.mpr (by kernel_rfl) Ao5
theorem Alg:BC Tryz.prog 80 rF:=by
 refine Cw (gl:=[]) (ng:=0) AS λH args ct r=>?_;unfold rF at r;split at r
 ·rename_i l;injection r with r;subst r;exact⟨AS,_,_,rfl,λx=>⟨⟨rfl,trivial⟩,_,60,rfl,Cc,BD Ac1 Bk,by rw[F2];exact Ao4 l x⟩⟩
 ·cases r
def Jr (a:Aj) (b:Int):=(Nat.le a.length 1000000/\Ay (Jj a)=Ka b a)
def NY (a:Int):=Ag (Au a (10:Int))
theorem AoR:∀(k:Int) (s:Aj),QH s->Ag (Au k (5:Int)) (QH s/\Ay (MS s)=Ka k s) (Ag (Au k (32:Int)) (Ag (decide (s=[(43:UInt8)])) (true=Ka k s) (Ag (decide (s=[(45:UInt8)])) (true=Ka k s) (Ag (decide (s=[(42:UInt8)])) (true=Ka k s) (Ag (decide (s=[(60:UInt8)])) (true=Ka k s) (decide (s=[(61:UInt8),61])=Ka k s))))) (Ag (Au k (2:Int)) (Jr s k) (Ag (Au k (3:Int)) (Jr s k) (Ag (Au k (4:Int)) (Jr s k) (Ag (Au k (6:Int)) (Jr s k) (Ag (Au k (7:Int)) (Jr s k) (Ag (Au k (8:Int)) (Jr s k) (NY k (Jr s k) (Ag (Au k (13:Int)) (Jr s k) (Ag (Au k (19:Int)) (Jr s k) (Ag (Au k (21:Int)) (Jr s k) (Ag (Au k (22:Int)) (Jr s k) (Ag (Au k (29:Int)) (Jr s k) (Ag (Au k (30:Int)) (Jr s k) (Ag (Au k (33:Int)) (Jr s k) (decide (s=[])=Ka k s))))))))))))))))
:=by
 delta Jr QH NY;intro k s r;have r:s.length<=1000000:=r;simp only[Bq];simp only[r,true_and,GC,DD,BZ,BI,Bn,CU];unfold Ka opT
 grind
theorem runText:∀(k:Int) (s:Aj),s.length<=1000000->(A3 (Rv [(82,cq),(80,rF)]) 60).call 60 [.int .i64 k,.bs s] .leaf 0 (BS Tryz.prog false (.bool (Ka k s))):=Eq.mpr (by kernel_rfl) AoR
theorem Ak8:BC Tryz.prog 60 rA:=by
 refine Cw (gl:=[]) (ng:=0) AS λH args ct r=>?_;unfold rA at r;split at r
 ·rename_i k l;injection r with r;subst r;exact⟨AS,_,_,rfl,λx=>⟨⟨⟨rfl,rfl⟩,rfl,trivial⟩,_,60,rfl,Cc,BD Ac1 (BD Alg Bk),by rw[F2];exact runText k l x⟩⟩
 ·cases r
def IU (a:Int):=Ag (!AP a (0:Int))
theorem AnQ:∀(k n:Int),Ag (Au k (9:Int)) (IU n ((!AP (3:Int) n)=IF k n) (false=IF k n)) (NY k (Ag (Au n (0:Int)) (true=IF k n) (Au n (1:Int)=IF k n)) (Ag (Au k (19:Int)) (Ag (!AP n (Int.negSucc 0)) ((!AP (2147483647:Int) n)=IF k n) (false=IF k n)) (Ag (Au k (26:Int)) (IU n ((!AP (2147483647:Int) n)=IF k n) (false=IF k n)) (Au n (0:Int)=IF k n))))
:=by
 delta IU NY;intro k n;simp only[GC,DD,EX,BZ,BI,Bn,CU];unfold IF
 grind
theorem AnP:∀(k n:Int),(A3 G3 60).call 61 [.int .i64 k,.int .i64 n] .leaf 0 (BS Tryz.prog false (.bool (IF k n))):=Eq.mpr (by kernel_rfl) AnQ
theorem AkJ:BC Tryz.prog 61 p9:=by
 refine Cw (gl:=[]) (ng:=0) AS λH args ct r=>?_;unfold p9 at r;split at r
 ·rename_i k n;injection r with r;subst r;exact⟨AS,_,_,rfl,λx=>⟨⟨⟨rfl,rfl⟩,⟨rfl,rfl⟩,trivial⟩,G3,60,rfl,Cc,Bk,by rw[F2];exact AnP k n⟩⟩
 ·cases r
def ph:Tr Ah->Al->Option Ct:=λ_ args=>match args with
 | [.agg [.vec 6 n f],.agg [.int .i64 k,.bs s,.int .i64 z,.int .i64 a,.int .i64 b,.vec 1 m g],.int .i64 i]=>some (.Bb (∃(L:Ac) (S:Af),n=L.length/\f=AE L/\m=S.length/\g=Aq S/\0<=i/\i<S.length/\0<=S.getD i.toNat 0/\S.getD i.toNat 0<L.length/\i<=100000000)
   (.ret (.bool (Ay (decide (0<Ib (Je (f (Lg (g i.toNat)).toNat)).kind (Je (f (Lg (g i.toNat)).toNat)).text/\Ib (Je (f (Lg (g i.toNat)).toNat)).kind (Je (f (Lg (g i.toNat)).toNat)).text<P2 k s i))))))
 |_=>none
def R5 (L:Ac) (w:Ab) (i:Nat):Bool:=decide (0<Ib (L.getD (w.kids.getD i 0).toNat Ab.none).kind (L.getD (w.kids.getD i 0).toNat Ab.none).text/\Ib (L.getD (w.kids.getD i 0).toNat Ab.none).kind (L.getD (w.kids.getD i 0).toNat Ab.none).text<P2 w.kind w.text i)
def tbP:DQ:=[(83,pN),(84,p7)]
def BT (k:Int):Aj:=if k=1 then [42,100]else if k=3 then [42,109]else if k=4\/k=6 then [121]else if k=7\/k=9\/k=11\/k=36 then [98]else if k=8 then [117,42,108]else if k=10 then [117,98]else if k=12 then [42,115]else if k=13 then [121,101]else if k=14 then [118,101]
 else if k=15\/k=16\/k=17\/k=18\/k=30\/k=34\/k=35 then [101]else if k=19\/k=20 then [101,63,118]else if k=23 then [101,98,98]else if k=24 then [101,98]else if k=31\/k=32 then [101,101]else []
def Ck (c:Int) (k:Int):Bool:=if c=121 then decide (k=5)else if c=98 then decide (k=12)else if c=117 then decide (k=29)else if c=101 then B9 k else if c=118 then wc k else if c=115 then AeF k else if c=100 then pB k else if c=109 then decide (k=4)else decide (k=9)
def YS (f:Int->Bool) (l:Af):Af:=match l with
 |x::t=>if f x then t else l
 | []=>[]
def CF:Aj->Af->Bool
 | [],l=>l.isEmpty
 | [c],l=>match l with
  |x::t=>Ck (c.toNat:Int) x&&t.isEmpty
  | []=>false
 |c::d::s,l=>if c=42 then CF s (l.dropWhile (Ck (d.toNat:Int)))else if c=63 then CF s (YS (Ck (d.toNat:Int)) l)else match l with
  |x::t=>Ck (c.toNat:Int) x&&CF (d::s) t
  | []=>false
def pY:Tr Ah->Al->Option Ct:=λ_ args=>match args with
 | [.int .i64 k]=>some (.Bb True (.ret (.bs (AF (BT k)))))
 |_=>none
def pV:Tr Ah->Al->Option Ct:=λ_ args=>match args with
 | [.int .i64 k,.int .u8 c]=>some (.Bb True (.ret (.bool (Ay (Ck c k)))))
 |_=>none
def pW:Tr Ah->Al->Option Ct:=λ_ args=>match args with
 | [.int .i64 k,.vec 1 n f]=>some (.Bb (∃S:Af,n=S.length/\f=Aq S/\S.length<=100000000) (.ret (.bool (Ay (CF (BT k) (Dy n f))))))
 |_=>none
structure KO (s:List UInt8) (l:List Int) (x:Nat×Nat):Prop where
 p:x.1<=s.length
 i:x.2<=l.length
 eq:CF (s.drop x.1) (l.drop x.2)=CF s l
structure KI (s:List UInt8) (l:List Int) (a i:Nat):Prop where
 pl:a<s.length
 il:i<=l.length
 eq:CF (s.drop (a+1)) ((l.drop i).dropWhile (Ck ((s.getD a 0).toNat:Int)))=CF s l
def SKo (s:Aj) (l:Af):B0:=thin (Nat×Nat) [0,1,5] (λx=>[(6,.int .i64 x.2),(7,.int .i64 x.1)]) (λ_ x=>KO s l x) λx=>s.length-x.1
def SKi (s:Aj) (l:Af):B0:=thin Nat [0,1,5,7] (λi=>[(6,.int .i64 i)]) (λst i=>∀a,st.T.get 7=some (.int .i64 a)->KI s l a.toNat i) λi=>l.length-i
def zF (s:Aj) (l:Af):Ctx:={P:=Tryz.prog,tb:=[(85,pY),(86,pV)],lp:=λf r=>cond (Nat.beq f 63) (cond (Nat.beq r 4) (some (SKo s l)) (cond (Nat.beq r 12) (some (SKi s l)) none)) none,cut:=λ_ _=>none}
def AD (a:Nat):=Nat.le (Nat.succ a)
def CH (a:Ac):=(↑a.length:Int)
def SG (a:Ac) (b:Ab) (c:Nat):=getD a (toNat (getD (Ab.kids b) (B8 c) (0:Int))) Ab.none
def Jx (a:Nat):=Int.NonNeg ((↑a:Int)-0)
theorem Aoe:∀(L:Ac) (x:Ab) (i:Nat),AD i (List.length (Ab.kids x))->Int.NonNeg (getD (Ab.kids x) i (0:Int)-0)->Int.NonNeg ((CH L)-(getD (Ab.kids x) i (0:Int)+1))->Nat.le i 100000000->Ap (AO (↑i:Int) (List.length (Ab.kids x))) (Ap (AO (getD (Ab.kids x) (B8 i) (0:Int)) L.length) ((∃(S:Af),List.length (Ab.kids (SG L x i))=S.length/\Aq (Ab.kids (SG L x i))=Aq S)/\(CI/\CI/\True)/\Ag (AP (0:Int) (Ib (Ab.kind (SG L x i)) (Ab.text (SG L x i)))) (((Qz x)/\Jx i/\Int.NonNeg ((100000000:Int)-(↑i:Int)))/\AP (Ib (Ab.kind (SG L x i)) (Ab.text (SG L x i))) (AF (Jw x (↑i:Int)))=R5 L x i) (false=R5 L x i)))
:=by
 delta AD B8 CI CH SG Jw Qz Jx;intro L x i J B z r;have J:i<x.kids.length:=J;have B:0<=x.kids.getD i 0:=B;have z:x.kids.getD i 0<L.length:=z;have r:i<=100000000:=r;have K:∀y:Ab,∃S:Af,y.kids.length=S.length/\Aq y.kids=Aq S:=λy=>⟨_,rfl,rfl⟩;simp only[Bq];refine Am (AK.2 (by omega)) (Am (AK.2 (by omega)) ⟨⟨_,rfl,rfl⟩,?_⟩);unfold R5;generalize Ib (L.getD (x.kids.getD i 0).toNat Ab.none).kind (L.getD (x.kids.getD i 0).toNat Ab.none).text=q;refine Ao (λh=>⟨⟨K x,(show(0:Int)<=(i:Int) by omega),(show(i:Int)<=100000000 by omega)⟩,?_⟩) λh=>?_
 ·rw[Bd]at h;rw[EX];simp[h]
 ·rw[Bl]at h;rw[E7 (by omega)]
theorem Aod:∀(L:Ac) (x:Ab) (i:Nat),i<x.kids.length->0<=x.kids.getD i 0->x.kids.getD i 0<L.length->i<=100000000->(A3 (Rv tbP) 60).call 62 [tree L,.agg x.row,.int .i64 i] .leaf 0 (BS Tryz.prog false (.bool (R5 L x i))):=Eq.mpr (by kernel_rfl) Aoe
theorem AkP:BC Tryz.prog 62 ph:=by
 refine Cw (gl:=[]) (ng:=0) AS λH args ct r=>?_;unfold ph at r;split at r
 ·rename_i n f k s z a b m g i;injection r with r;subst r;refine⟨AS,_,_,rfl,?_⟩;rintro⟨L,S,rfl,rfl,rfl,rfl,U,B,y,x,R⟩;obtain⟨j,rfl⟩:∃j:Nat,i=j:=⟨i.toNat,by omega⟩;refine⟨⟨FK L,Q4 ⟨k,s,z,a,b,S⟩,⟨rfl,rfl⟩,trivial⟩,Rv tbP,60,rfl,Cc,BD AcW (BD AkG Bk),?_⟩;have:=Aod L ⟨k,s,z,a,b,S⟩ j (by simpa using B) y x (by omega);rw[F2];have e:∀q:Ab,Je (AV.int .i64 q.kind::[.bs q.text,.int .i64 q.n,.int .i64 q.line,.int .i64 q.Av,.vec 1 q.kids.length (Aq q.kids)])=q:=T9;have K:∀q:Nat,Je (AE L q)=L.getD q Ab.none:=λq=>T9 _;have J:∀q:Nat,Lg (Aq S q)=S.getD q 0:=λq=>rfl;simp only[K,J];exact this
 ·cases r
def QD (a:Int):=([(101:UInt8)]=BT a)
def YF (a:Int):=([(98:UInt8)]=BT a)
theorem Anr:∀(k:Int),Ag (Au k (1:Int)) ([(42:UInt8),100]=BT k) (Ag (Au k (3:Int)) ([(42:UInt8),109]=BT k) (Ag (Au k (4:Int)) ([(121:UInt8)]=BT k) (Ag (Au k (6:Int)) ([(121:UInt8)]=BT k) (Ag (Au k (7:Int)) (YF k) (Ag (Au k (9:Int)) (YF k) (Ag (Au k (11:Int)) (YF k) (Ag (Au k (36:Int)) (YF k) (Ag (Au k (8:Int)) ([(117:UInt8),42,108]=BT k) (NY k ([(117:UInt8),98]=BT k) (Ag (Au k (12:Int)) ([(42:UInt8),115]=BT k) (Ag (Au k (13:Int)) ([(121:UInt8),101]=BT k) (Ag (Au k (14:Int)) ([(118:UInt8),101]=BT k) (Ag (Au k (15:Int)) (QD k) (Ag (Au k (16:Int)) (QD k) (Ag (Au k (17:Int)) (QD k) (Ag (Au k (18:Int)) (QD k) (Ag (Au k (30:Int)) (QD k) (Ag (Au k (34:Int)) (QD k) (Ag (Au k (35:Int)) (QD k) (Ag (Au k (19:Int)) ([(101:UInt8),63,118]=BT k) (Ag (Au k (20:Int)) ([(101:UInt8),63,118]=BT k) (Ag (Au k (23:Int)) ([(101:UInt8),98,98]=BT k) (Ag (Au k (24:Int)) ([(101:UInt8),98]=BT k) (Ag (Au k (31:Int)) ([(101:UInt8),101]=BT k) (Ag (Au k (32:Int)) ([(101:UInt8),101]=BT k) ([]=BT k))))))))))))))))))))))))))
:=by
 delta QD YF NY;intro k;simp only[GC,DD,EX,BZ,BI,Bn,CU];simp only[beq_iff_eq,beq_eq_false_iff_ne,ne_eq]
 repeat' first
  |refine And.intro ?_ ?_
  |intro h
 all_goals first
  |(subst h;rfl)
  |(unfold BT;simp[*])
theorem Anq:∀(k:Int),(A3 G3 60).call 85 [.int .i64 k] .leaf 0 (BS Tryz.prog false (.bs (BT k))):=Eq.mpr (by kernel_rfl) Anr
theorem Ane:∀(k c:Int),Ag (Au c (121:Int)) (Au k (5:Int)=Ck c k) (Ag (Au c (98:Int)) (Au k (12:Int)=Ck c k) (Ag (Au c (117:Int)) (Au k (29:Int)=Ck c k) (Ag (Au c (101:Int)) (True/\Ay (B9 k)=Ck c k) (Ag (Au c (118:Int)) (Ag (Au k (29:Int)) (true=Ck c k) (Ag (Au k (30:Int)) (true=Ck c k) (Au k (31:Int)=Ck c k))) (Ag (Au c (115:Int)) (Ag (!AP k (13:Int)) ((!AP (25:Int) k)=Ck c k) (false=Ck c k)) (Ag (Au c (100:Int)) (Ag (Au k (2:Int)) (true=Ck c k) (Ag (Au k (3:Int)) (true=Ck c k) (Ag (Au k (6:Int)) (true=Ck c k) (Ag (Au k (7:Int)) (true=Ck c k) (Ag (Au k (8:Int)) (true=Ck c k) (NY k (true=Ck c k) (Ag (Au k (11:Int)) (true=Ck c k) (false=Ck c k)))))))) (Ag (Au c (109:Int)) (Au k (4:Int)=Ck c k) (Au k (9:Int)=Ck c k))))))))
:=by
 delta NY;intro k c;simp only[Bq];simp only[GC,DD,EX,BZ,BI,Bn,CU];unfold Ck wc AeF pB
 repeat' first
  |refine And.intro ?_ ?_
  |intro h
 all_goals grind
theorem Anc:∀(k c:Int),(A3 (Rv [(29,PK)]) 60).call 86 [.int .i64 k,.int .u8 c] .leaf 0 (BS Tryz.prog false (.bool (Ck c k))):=Eq.mpr (by kernel_rfl) Ane
theorem Ud (s:Aj) (p:Nat) (h:p<s.length):s.drop p=s.getD p 0::s.drop (p+1):=by rw[List.drop_eq_getElem_cons h,Bt,Ce h];rfl
theorem PI (l:Af) (p:Nat) (h:p<l.length):l.drop p=l.getD p 0::l.drop (p+1):=by rw[List.drop_eq_getElem_cons h,Bt,Ce h];rfl
theorem AbY (d:UInt8) (s:Aj) (l:Af):CF (42::d::s) l=CF s (l.dropWhile (Ck (d.toNat:Int))):=by simp[CF]
theorem tN (d:UInt8) (s:Aj) (l:Af):CF (63::d::s) l=CF s (YS (Ck (d.toNat:Int)) l):=by simp[CF]
theorem RR {c:UInt8} (s:Aj) (x:c≠42) (r:c≠63):CF (c::s) []=false:=by cases s<;>simp[CF,x,r]
theorem Xv (l:Af):CF [] l=l.isEmpty:=by simp[CF]
theorem Xw {c:UInt8} (s:Aj) (x:Int) (l:Af) (y:c≠42) (r:c≠63):CF (c::s) (x::l)=(Ck (c.toNat:Int) x&&CF s l):=by cases s<;>simp[CF,y,r]
theorem AiT {s:Aj} {p:Nat} (l:Af) (h:p+1<s.length) (hc:s.getD p 0=42):CF (s.drop p) l=CF (s.drop (p+2)) (l.dropWhile (Ck ((s.getD (p+1) 0).toNat:Int))):=by rw[Ud s p (by omega),Ud s (p+1) h,hc,AbY]
theorem AiS {s:Aj} {p:Nat} (l:Af) (h:p+1<s.length) (hc:s.getD p 0=63):CF (s.drop p) l=CF (s.drop (p+2)) (YS (Ck ((s.getD (p+1) 0).toNat:Int)) l):=by rw[Ud s p (by omega),Ud s (p+1) h,hc,tN]
theorem AiQ {s:Aj} {p:Nat} (h:p<s.length) (x:s.getD p 0≠42) (r:s.getD p 0≠63):CF (s.drop p) []=false:=by rw[Ud s p h,RR _ x r]
theorem AiR {s:Aj} {p:Nat} (x:Int) (l:Af) (h:p<s.length) (y:s.getD p 0≠42) (r:s.getD p 0≠63):CF (s.drop p) (x::l)=(Ck ((s.getD p 0).toNat:Int) x&&CF (s.drop (p+1)) l):=by rw[Ud s p h,Xw _ _ _ y r]
def letOpts:List Aj:=[[42,100],[42,109],[121],[98],[117,42,108],[117,98],[42,115],[121,101],[118,101],[101],[101,63,118],[101,98,98],[101,98],[101,101],[]]
theorem AiO {α:Type} {c:Prop} [Decidable c] {a b:α} {S:List α} (x:a∈S) (r:b∈S):(if c then a else b)∈S:=by split<;>assumption
theorem Ab5 (k:Int):BT k∈letOpts:=by
 unfold BT
 repeat' refine AiO (by decide) ?_
 decide
theorem Ajb (k:Int):(BT k).length<=3:=(by decide:∀s∈letOpts,s.length<=3) _ (Ab5 k)
theorem Ajc (k:Int):∀p,p<(BT k).length->((BT k).getD p 0=42\/(BT k).getD p 0=63)->p+1<(BT k).length:=(by decide:∀s∈letOpts,∀p,p<s.length->(s.getD p 0=42\/s.getD p 0=63)->p+1<s.length) _ (Ab5 k)
theorem iV {c:UInt8} {n:Nat} (hn:n<256):Au (c.toNat:Int) (n:Int)=true↔c=UInt8.ofNat n:=by
 rw[Ba];constructor
 ·intro h;have h:c.toNat=n:=by omega
  rw[<-h];simp
 ·rintro rfl;simp[Nat.mod_eq_of_lt hn]
def DN (a:Af):=(Aa/\Ae a.length/\Ar λ(r:Nat)=>AD r a.length->(Aa/\Ae (getD a r (0:Int)))/\True)
def O5 (a:Int):=AF (BT a)
@[reducible] def ZM:Int->Af->Nat×Nat->Nat×Nat->Prop:=λ(k:Int) (l:Af) (a r:Nat×Nat)=>(Aa/\(↑a.1:Int)+1+1=(↑r.1:Int))/\(Aa/\k=k)/\(DN l)/\Ae (O5 k)/\True
def IW (a:Nat):=((↑a:Int)+1)
@[reducible] def lH:Int->Af->Nat×Nat->Prop:=λ(k:Int) (l:Af) (a:Nat×Nat)=>(Aa/\k=k)/\(DN l)/\Ae (O5 k)/\(Aa/\Ae (IW a.1))/\True
def Vn (a:Int) (b:Nat) (c:Nat):=Nat.le (Nat.succ (List.length (BT a)-b)) (List.length (BT a)-c)
def KP (a:Nat) (b:Nat):=(Aa/\(↑a:Int)=(↑b:Int))
@[reducible] def lI:Int->Af->Nat×Nat->Nat->Nat×Nat->Prop:=λ(k:Int) (l:Af) (a:Nat×Nat) (x:Nat) (r:Nat×Nat)=>KO (BT k) l r/\Vn k r.1 a.1/\Aa/\((KP x r.2)/\ZM k l a r)/\True
@[reducible] def lJ:Int->Af->Nat×Nat->Nat×Nat->Prop:=λ(k:Int) (l:Af) (a r:Nat×Nat)=>KO (BT k) l r/\Vn k r.1 a.1/\Aa/\((KP a.2 r.2)/\ZM k l a r)/\True
def Dm (a:Af) (b:Nat):=getD a (toNat (↑b:Int)) (0:Int)
def DV:=((True/\True/\True)/\True)
def HU (a:Int):=some (AV.int .i64 a)
def Ez (a:Nat) (b:Af):=Ap (AO (↑a:Int) b.length)
def Dh (a:Nat):=AP (↑a:Int)
def D8 (a:Nat):=AO (↑a:Int)
def O4:=(((True/\True)/\True)/\True)
def Vu (a:Nat):=Ap (Bf .i64 ((↑a:Int)+1+1))
def gM (a:Nat) (b:Int) (c:Af) (d:Nat):=(∀(r:Int),some (AV.int .i64 ((↑a:Int)+1))=HU r->KI (BT b) c (toNat r) d)
def Io (a:Af):=Int.ofNat a.length
def gT (a:Int) (b:Nat):=(↑(UInt8.toNat (getD (O5 a) (B8 b) (0:UInt8))):Int)
def QI (a:Af) (b:Nat) (c:Nat):=Nat.le (Nat.succ (a.length-b)) (a.length-c)
def O7:=(DV/\DV/\True)
def VD (a:Int):=List.length (O5 a)
def vH (a:Int) (b:Nat):=Ck (↑(UInt8.toNat (getD (O5 a) (toNat (IW b)) (0:UInt8))):Int)
theorem Anj:∀(k:Int) (l:Af),Nat.le l.length 100000000->True/\(∃(x0:Nat×Nat),KO (BT k) l x0/\Aa/\((Cr x0.2)/\(Cr x0.1)/\(Aa/\k=k)/\(DN l)/\Ae (O5 k)/\True)/\True)/\∀(x:Nat×Nat),KO (BT k) l x->Ag (Dh x.1 (Int.ofNat (VD k))) (Ap (D8 x.1 (VD k)) (Ag (Au (gT k x.1) (42:Int)) (Bj x.1 ((∃(x0:Nat),(gM x.1 k l x0)/\Aa/\((KP x.2 x0)/\lH k l x)/\True)/\∀(J:Nat),(gM x.1 k l J)->Ag (Dh J (Io l)) (Ez J l (Ap (AO (IW x.1) (VD k)) (True/\O7/\Ag (Ay (vH k x.1 (Dm l J))) (Bj J (∃(z:Nat),(gM x.1 k l z)/\QI l z J/\Aa/\((Cb J z)/\lH k l x)/\True)) (Vu x.1 (∃(z:Nat×Nat),lI k l x J z))))) (O4/\Vu x.1 (∃(z:Nat×Nat),lI k l x J z)))) (Ag (Au (gT k x.1) (63:Int)) (Bj x.1 (Ag (Dh x.2 (Io l)) (Ez x.2 l (Ap (AO (IW x.1) (VD k)) (True/\O7/\Ag (Ay (vH k x.1 (Dm l x.2))) (Bj x.2 (Vu x.1 (∃(z:Nat×Nat),KO (BT k) l z/\Vn k z.1 x.1/\Aa/\((Cb x.2 z.2)/\ZM k l x z)/\True))) (Vu x.1 (∃(z:Nat×Nat),lJ k l x z))))) (O4/\Vu x.1 (∃(z:Nat×Nat),lJ k l x z)))) (Ag (Au (↑x.2:Int) (Io l)) (O4/\false=CF (BT k) l) (Ez x.2 l (Ap (D8 x.1 (VD k)) (True/\O7/\Ag (!Ay (Ck (gT k x.1) (Dm l x.2))) (false=CF (BT k) l) (Bj x.2 (Bj x.1 (∃(z:Nat×Nat),KO (BT k) l z/\Vn k z.1 x.1/\Aa/\((Cb x.2 z.2)/\(Cb x.1 z.1)/\(Aa/\k=k)/\(DN l)/\Ae (O5 k)/\True)/\True)))))))))) (Au (↑x.2:Int) (Io l)=CF (BT k) l)
:=by
 delta AD Dm DN Bj B8 DV Cb Cr HU Ez Vn Dh O5 D8 O4 Vu KP gM Io gT QI O7 IW VD vH;intro k l hl;have hl:l.length<=100000000:=hl;have ab:=Ajb k;have hw:=Ajc k;simp only[Bq,ZM,lH,lI,lJ,AD,DN,O5,IW,Vn,KP];generalize BT k=s at*;refine⟨⟨(0,0),⟨BL _,BL _,rfl⟩,rfl,rfl⟩,λx hx=>?_⟩;obtain⟨p,i⟩:=x;have hp:=hx.p;have hi:=hx.i;have r:=hx.eq;simp only at hp hi r⊢;refine Ao (λh=>?_) λh=>?_
 ·rw[Bd]at h;have U:p<s.length:=by omega
  have hR:Bf .i64 ((p:Int)+1)=true:=AU.2 (by omega);have V:Bf .i64 ((p:Int)+1+1)=true:=AU.2 (by omega);have hB:AO (p:Int) s.length=true:=AK.2 (by omega);refine Am hB (Ao (λW=>Am hR ?_) λW=>?_)
  ·have W:s.getD p 0=42:=(iV (n:=42) (by decide)).1 W;have Z:=hw p U (.inl W);refine⟨⟨i,λa ha=>⟨by omega,hi,?_⟩,rfl⟩,λj Y=>?_⟩
   ·obtain rfl:a=(p:Int)+1:=ha.symm;rw[show((p:Int)+1).toNat=p+1 by omega,<-AiT _ Z W];exact r
   ·have Y:=Y _ rfl;rw[show((p:Int)+1).toNat=p+1 by omega]at Y⊢;have aa:=Y.il;refine Ao (λR=>?_) λR=>?_
    ·rw[Bd]at R;have L:j<l.length:=by omega
     refine Am (AK.2 (by omega)) (Am (AK.2 (by omega)) (Ao (λS=>Am (AU.2 (by omega)) ⟨j+1,λa ha=>?_,by omega,by omega⟩) λS=>Am V ⟨(p+2,j),⟨by simp only;omega,aa,?_⟩,by simp only;omega,by simp,by simp only;omega⟩))
     ·obtain rfl:a=(p:Int)+1:=ha.symm;rw[show((p:Int)+1).toNat=p+1 by omega];have K:=Y.eq;rw[PI l j L,List.dropWhile_cons,As S]at K;exact⟨Y.pl,L,K⟩
     ·have K:=Y.eq;rw[PI l j L,List.dropWhile_cons,An (by rw[S];simp),<-PI l j L]at K;exact K
    ·rw[Bl]at R;obtain rfl:j=l.length:=by omega
     refine Am V ⟨(p+2,l.length),⟨by simp only;omega,AH _,?_⟩,by simp only;omega,by simp,by simp only;omega⟩;have K:=Y.eq;rw[List.drop_length,List.dropWhile_nil]at K;rw[List.drop_length];exact K
  ·have W:s.getD p 0≠42:=λe=>absurd (W.symm.trans ((iV (n:=42) (by decide)).2 e)) (by decide);refine Ao (λR=>Am hR ?_) λR=>?_
   ·have R:s.getD p 0=63:=(iV (n:=63) (by decide)).1 R;have Z:=hw p U (.inr R);rw[AiS _ Z R]at r;rw[show((p:Int)+1).toNat=p+1 by omega];refine Ao (λS=>?_) λS=>?_
    ·rw[Bd]at S;have B:i<l.length:=by omega
     rw[PI l i B]at r;unfold YS at r;refine Am (AK.2 (by omega)) (Am (AK.2 (by omega)) (Ao (λK=>Am (AU.2 (by omega)) (Am V ⟨(p+2,i+1),⟨by simp only;omega,B,?_⟩,by simp only;omega,by simp only;omega,by simp only;omega⟩)) λK=>Am V ⟨(p+2,i),⟨by simp only;omega,hi,?_⟩,by simp only;omega,by simp,by simp only;omega⟩))
     ·simp only[K,if_true]at r;exact r
     ·simp only[K,Bool.false_eq_true,if_false]at r;rw[<-PI l i B]at r;exact r
    ·rw[Bl]at S;obtain rfl:i=l.length:=by omega
     rw[List.drop_length]at r;refine Am V ⟨(p+2,l.length),⟨by simp only;omega,AH _,?_⟩,by simp only;omega,by simp,by simp only;omega⟩;rw[List.drop_length];exact r
   ·have R:s.getD p 0≠63:=λe=>absurd (R.symm.trans ((iV (n:=63) (by decide)).2 e)) (by decide);refine Ao (λS=>?_) λS=>?_
    ·rw[Ba]at S;obtain rfl:i=l.length:=by omega
     rw[List.drop_length,AiQ U W R]at r;exact r
    ·rw[BB]at S;have B:i<l.length:=by omega
     rw[PI l i B,AiR _ _ U W R]at r;refine Am (AK.2 (by omega)) (Am hB (Ao (λK=>?_) λK=>Am (AU.2 (by omega)) (Am hR ⟨(p+1,i+1),⟨U,B,?_⟩,by simp only;omega,by simp,by simp⟩)))
     ·rw[nf K]at r;exact r
     ·rw[nt K,Bool.true_and]at r;exact r
 ·rw[Bl]at h;obtain rfl:p=s.length:=by omega
  rw[List.drop_length]at r;rw[<-r,Xv,DD];cases hd:l.drop i with
  |nil=>have:=congrArg List.length hd;simp at this;simp;omega
  |cons y t=>have:=congrArg List.length hd;simp at this;simp;omega
theorem Ani:∀(k:Int) (l:Af),l.length<=100000000->(A3 (zF (BT k) l) 60).call 63 [.int .i64 k,.vec 1 l.length (Aq l)] .leaf 0 (BS Tryz.prog false (.bool (CF (BT k) l))):=Eq.mpr (by kernel_rfl) Anj
theorem AkB:BC Tryz.prog 85 pY:=by
 refine Cw (gl:=[]) (ng:=0) AS λH args ct r=>?_;unfold pY at r;split at r
 ·rename_i k;injection r with r;subst r;exact⟨AS,_,_,rfl,λ_=>⟨⟨⟨rfl,rfl⟩,trivial⟩,G3,60,rfl,Cc,Bk,by rw[Et];exact Anq k⟩⟩
 ·cases r
theorem Akw:BC Tryz.prog 86 pV:=by
 refine Cw (gl:=[]) (ng:=0) AS λH args ct r=>?_;unfold pV at r;split at r
 ·rename_i k c;injection r with r;subst r;exact⟨AS,_,_,rfl,λ_=>⟨⟨⟨rfl,rfl⟩,⟨rfl,rfl⟩,trivial⟩,_,60,rfl,Cc,BD uB Bk,by rw[F2];exact Anc k c⟩⟩
 ·cases r
theorem Aky:BC Tryz.prog 63 pW:=by
 refine Cw (gl:=[]) (ng:=0) AS λH args ct r=>?_;unfold pW at r;split at r
 ·rename_i k n f;injection r with r;subst r;refine⟨AS,_,_,rfl,?_⟩;rintro⟨S,rfl,rfl,h⟩;rw[F2,EC];exact⟨⟨⟨rfl,rfl⟩,⟨rfl,rfl,⟨λi _=>Ob _ i⟩⟩,trivial⟩,zF (BT k) S,60,rfl,Cc,BD AkB (BD Akw Bk),Ani k S h⟩
 ·cases r
def Fx (L:Ac) (w:Ab) (i next:Nat):Int:=(if(L.getD next Ab.none).kind=12 then 1 else 0)+(if R5 L w i then 1 else 0)+(if w.kind=31/\i=1\/w.kind=34\/w.kind=35 then 1 else 0)
def JQ (w:Ab):Bool:=decide (1<=w.kind/\w.kind<=36)&&(Ka w.kind w.text&&IF w.kind w.n)
mutual
def Dr (L:Ac) (a:Nat) (nest:Int):Nat:=
 if L.length<=a\/64<nest then 0 else if JQ (L.getD a Ab.none)=false then 0 else
  match G7 L a nest (L.getD a Ab.none).kids 0 (a+1) []with
  |none=>0
  |some r=>if CF (BT (L.getD a Ab.none).kind) r.2 then r.1 else 0
termination_by (L.length-a,1,0)
decreasing_by
 exact Prod.Lex.right _ (Prod.Lex.left _ _ Nat.zero_lt_one)
def G7 (L:Ac) (a:Nat) (nest:Int) (ks:Af) (i next:Nat) (l:Af):Option (Nat×Af):=
 match ks with
 | []=>some (next,l)
 |k::ks=>if h:k≠(next:Int)\/L.length<=next\/next<=a then none else
  match Dr L next (nest+Fx L (L.getD a Ab.none) i next)with
  |0=>none
  |r+1=>G7 L a nest ks (i+1) (r+1) (l++[(L.getD next Ab.none).kind])
termination_by (L.length-a,0,ks.length)
decreasing_by
 ·exact Prod.Lex.left _ _ (by omega)
 ·exact Prod.Lex.right _ (Prod.Lex.right _ (Nat.lt_succ_self _))
end
structure Hn (L:List Ab):Prop where
 len:L.length<=1000000
 text:∀i,(L.getD i Ab.none).text.length<=1000000
def W3 (N:Nat):Tr Ah->Al->Option Ct:=λ_ args=>match args with
 | [.agg [.vec 6 n f],.int .i64 a,.int .i64 nest]=>some (.Bb (∃L:Ac,n=L.length/\f=AE L/\Hn L/\0<=a/\L.length-a.toNat<N/\0<=nest/\nest<=1000) (.ret (.int .i64 (AF (Dr (H4 n f) a.toNat nest:Nat)))))
 |_=>none
structure GI (L:List Ab) (a:Nat) (nest:Int) (x:Nat×Nat×List Int):Prop where
 il:x.1<=(L.getD a Ab.none).kids.length
 lo:a+1+x.1<=x.2.1
 hi:x.2.1<=L.length
 ll:x.2.2.length=x.1
 eq:G7 L a nest ((L.getD a Ab.none).kids.drop x.1) x.1 x.2.1 x.2.2=G7 L a nest (L.getD a Ab.none).kids 0 (a+1) []
def SGo (L:Ac) (a:Nat) (nest:Int):B0:={X:=Nat×Nat×Af,T:=λs _ x=>(8,.AR s.nx x.2.2.length 1)::(9,.int .i64 x.2.1)::(10,.int .i64 x.1)::Ig s [0,1,2,3,7],H:=λs n0 x=>(s.nx,.cells 45 .leaf (.rows 1 (Aq x.2.2)) x.2.2.length true)::dp s n0,nx:=λs _=>s.nx+1,I:=λ_ x=>GI L a nest x,m:=λx=>(L.getD a Ab.none).kids.length-x.1}
def kU (f:Nat->Nat->Int):B0:=thin (Nat×Nat) [0,1,2,3,7,8,9,10] (λx=>[(11,.int .i64 (f x.1 x.2))]) (λs x=>(∀b,s.T.get 10=some (.int .i64 b)->b=x.1)/\(∀b,s.T.get 9=some (.int .i64 b)->b=x.2)) λ_=>0
def JW (L:Ac) (w:Ab) (i next:Nat):Int:=if(L.getD next Ab.none).kind=12 then 1 else 0
def ID (L:Ac) (w:Ab) (i next:Nat):Int:=JW L w i next+if R5 L w i then 1 else 0
def zE (N:Nat) (L:Ac) (a:Nat) (nest:Int):Ctx:={P:=Tryz.prog,tb:=[(60,rA),(61,p9),(62,ph),(63,pW),(33,W3 N)],lp:=λf r=>cond (Nat.beq f 33) (cond (Nat.beq r 9) (some (SGo L a nest)) none) none,cut:=λf r=>cond (Nat.beq f 33) (cond (Nat.beq r 16) (some (kU (JW L (L.getD a Ab.none)))) (cond (Nat.beq r 18) (some (kU (ID L (L.getD a Ab.none)))) (cond (Nat.beq r 20) (some (kU (Fx L (L.getD a Ab.none)))) none))) none}
theorem Ux {L:Ac} {a:Nat} {nest:Int} (h:L.length<=a\/64<nest):Dr L a nest=0:=by rw[Dr,As h]
theorem s9 {L:Ac} {a:Nat} {nest:Int} (h:JQ (L.getD a Ab.none)=false):Dr L a nest=0:=by
 rw[Dr];split
 ·rfl
 ·first
   |rfl
   |rw[As h]
theorem sa {L:Ac} {a:Nat} {nest:Int} (h:G7 L a nest (L.getD a Ab.none).kids 0 (a+1) []=none):Dr L a nest=0:=by
 rw[Dr];split
 ·rfl
 ·split
  ·rfl
  ·rw[h]
theorem se {L:Ac} {a:Nat} {nest:Int} {r:Nat×Af} (y:¬(L.length<=a\/64<nest)) (x:JQ (L.getD a Ab.none)=true) (h:G7 L a nest (L.getD a Ab.none).kids 0 (a+1) []=some r): Dr L a nest=if CF (BT (L.getD a Ab.none).kind) r.2 then r.1 else 0:=by rw[Dr,An y,An (by rw[x];simp),h]
theorem dU {L:Ac} {a:Nat} {nest:Int} {i next:Nat} {l:Af}:G7 L a nest [] i next l=some (next,l):=by rw[G7]
theorem dT {L:Ac} {a:Nat} {nest:Int} {k:Int} {ks:Af} {i next:Nat} {l:Af} (h:k≠(next:Int)\/L.length<=next\/next<=a):G7 L a nest (k::ks) i next l=none:=by rw[G7,dif_pos h]
theorem sj {L:Ac} {a:Nat} {nest:Int} {k:Int} {ks:Af} {i next:Nat} {l:Af} (h:Dr L next (nest+Fx L (L.getD a Ab.none) i next)=0):G7 L a nest (k::ks) i next l=none:=by
 rw[G7];split
 ·rfl
 ·rw[h]
theorem si {L:Ac} {a:Nat} {nest:Int} {k:Int} {ks:Af} {i next:Nat} {l:Af} (y:¬(k≠(next:Int)\/L.length<=next\/next<=a)) (h:Dr L next (nest+Fx L (L.getD a Ab.none) i next)≠0): G7 L a nest (k::ks) i next l=G7 L a nest ks (i+1) (Dr L next (nest+Fx L (L.getD a Ab.none) i next)) (l++[(L.getD next Ab.none).kind]):=by
 rw[G7,dif_neg y];split
 ·rename_i x;exact absurd x h
 ·rename_i r x;rw[x]
theorem Ain (L:Ac):∀(d:Nat),(∀a nest,L.length-a<=d->Dr L a nest≠0->a<Dr L a nest/\Dr L a nest<=L.length):=by
 intro d
 induction d with
 |zero=>intro a nest h y;exact absurd (Ux (.inl (by omega))) y
 |succ d U=>
  have R:∀(a:Nat) (nest:Int),L.length-a<=d+1->∀(ks:Af) (i next:Nat) (l:Af) (r:Nat×Af),a<next->next<=L.length->G7 L a nest ks i next l=some r->next<=r.1/\r.1<=L.length:=by
   intro a nest S ks
   induction ks with
   |nil=>
    intro i next l r y z x
    rw[dU]at x;injection x with x;subst x;exact⟨AH _,z⟩
   |cons k ks K=>
    intro i next l r y z x
    by_cases hb:k≠(next:Int)\/L.length<=next\/next<=a
    ·rw[dT hb]at x;cases x
    ·by_cases hz:Dr L next (nest+Fx L (L.getD a Ab.none) i next)=0
     ·rw[sj hz]at x;cases x
     ·rw[si hb hz]at x;have J:=U next _ (by omega) hz
      have V:=K _ _ _ r (by omega) J.2 x;omega
  intro a nest S y;by_cases z:L.length<=a\/64<nest
  ·exact absurd (Ux z) y
  ·by_cases x:JQ (L.getD a Ab.none)=false
   ·exact absurd (s9 x) y
   ·have x:JQ (L.getD a Ab.none)=true:=by simpa using x
    cases B:G7 L a nest (L.getD a Ab.none).kids 0 (a+1) []with
    |none=>exact absurd (sa B) y
    |some r=>
     rw[se z x B]at y⊢;split at y
     ·rename_i J;rw[As J];have:=R a nest S _ _ _ _ r (by omega) (by omega) B;omega
     ·exact absurd rfl y
theorem Aa5 {L:Ac} {a:Nat} {nest:Int} (h:Dr L a nest≠0):a<Dr L a nest/\Dr L a nest<=L.length:=Ain L _ a nest (AH _) h
theorem Ajv (L:Ac) (w:Ab) (i next:Nat):0<=Fx L w i next/\Fx L w i next<=3/\0<=JW L w i next/\JW L w i next<=1/\0<=ID L w i next/\ID L w i next<=2:=by unfold Fx ID JW;refine⟨?_,?_,?_,?_,?_,?_⟩<;>(repeat' split)<;>omega
def Bc (a:Ac) (b:Nat):=getD a b Ab.none
def Cl (a:Ac) (b:Nat):=List.length (Ab.kids (Bc a b))
def Hg (a:Ac) (b:Nat):=(Aa/\Ae (Cl a b)/\Ar λ(r:Nat)=>AD r (Cl a b)->(Aa/\Ae (getD (Ab.kids (Bc a b)) r (0:Int)))/\True)
@[reducible] def Iy:Ac->Prop:=λ(L:Ac)=>Aa/\Ae L.length/\Ar λ(i:Nat)=>AD i L.length->(Aa/\Ae (Ab.kind (Bc L i)))/\Ae (Ab.text (Bc L i))/\(Aa/\Ae (Ab.n (Bc L i)))/\(Aa/\Ae (Ab.line (Bc L i)))/\(Aa/\Ae (Ab.Av (Bc L i)))/\(Hg L i)/\True
def Dl (a:Ac):=Iy a
@[reducible] def Rd:Ac->Prop:=λ(L:Ac)=>Dl L/\True
@[reducible] def TD:Ac->Prop:=λ(L:Ac)=>Aa/\Aa/\Aa/\Aa/\True/\Dl L
def CA (a:Ac) (b:Nat):=getD a (toNat (↑b:Int)) Ab.none
def Ec (a:Ac) (b:Nat):=List.length (Ab.kids (CA a b))
def Vr (a:Ac) (b:Nat):=(((((True/\Aa/\Ae (Ab.kind (CA a b)))/\Ae (Ab.text (CA a b)))/\Aa/\Ae (Ab.n (CA a b)))/\Aa/\Ae (Ab.line (CA a b)))/\Aa/\Ae (Ab.Av (CA a b)))
@[reducible] def lK:Ac->Nat->Prop:=λ(L:Ac) (a:Nat)=>Aa/\Aa/\Aa/\Aa/\(Vr L a)/\Aa/\Ae (Ec L a)/\Ar λ(i:Nat)=>AD i (Ec L a)->(Aa/\Ae (getD (Ab.kids (CA L a)) i (0:Int)))/\True
def Cm:=(Ae (some 0)/\Aa)
def Fh:=(Ae (some 1)/\Aa)
def Fj (a:Nat):=(Aa/\Ae (↑a:Int))
def HA (a:Ac):=Rd a
@[reducible] def lL:Ac->Nat->Int->Prop:=λ(L:Ac) (a:Nat) (nest:Int)=>HA L/\(Fj a)/\(Aa/\Ae nest)/\Cm/\Fh/\True
def EB (a:Af):=List.length (a)
@[reducible] def Re:Ac->Nat->Int->Nat×Nat×Af->Prop:=λ(L:Ac) (a:Nat) (nest:Int) (r:Nat×Nat×Af)=>HA L/\(Fj a)/\(Aa/\Ae nest)/\Cm/\Fh/\(Ae (some 7)/\Ae (EB r.2.2)/\Aa)/\(Aa/\Ae (↑(r.2.1):Int))/\(Fj r.1)/\True
@[reducible] def lM:Ac->Nat->Prop:=λ(L:Ac) (a:Nat)=>TD L/\lK L a/\True
def B7 (a:Nat):=Nat.le (Nat.succ (a*1))
def gL (a:Af):=(Aa/\Aa/\Aa/\Aa/\Ae (EB a)/\Ar λ(r:Nat)=>B7 r (EB a)->(Aa/\Ae (getD (a) r (0:Int)))/\True)
@[reducible] def Rf:Ac->Nat->Nat×Nat×Af->Prop:=λ(L:Ac) (a:Nat) (r:Nat×Nat×Af)=>TD L/\lK L a/\(gL r.2.2)/\True
def QM (a:Nat):=AV.int .i64 (↑a:Int)
def YC (a:Nat) (b:Nat):=(∀(r:Int),some (QM a)=HU r->r=(↑b:Int))
@[reducible] def lN:Ac->Nat->Int->Nat×Nat×Af->Nat×Nat->Nat×Nat->Prop:=λ(L:Ac) (a:Nat) (nest:Int) (x:Nat×Nat×Af) (y r:Nat×Nat)=>((YC x.1 r.1)/\∀(b:Int),some (AV.int .i64 (↑(x.2.1):Int))=HU b->b=(↑r.2:Int))/\Aa/\((Aa/\ID L (Bc L a) y.1 y.2=Fx L (Bc L a) r.1 r.2)/\Re L a nest x)/\Rf L a x
@[reducible] def xf:Ac->Nat->Int->Nat×Nat×Af->Nat×Nat->Nat×Nat->Prop:=λ(L:Ac) (a:Nat) (nest:Int) (x:Nat×Nat×Af) (y r:Nat×Nat)=>((YC x.1 r.1)/\∀(b:Int),some (AV.int .i64 (↑(x.2.1):Int))=HU b->b=(↑r.2:Int))/\Aa/\((Aa/\ID L (Bc L a) y.1 y.2+1=Fx L (Bc L a) r.1 r.2)/\Re L a nest x)/\Rf L a x
def Qt (a:Nat) (b:Nat) (c:Nat) (d:Nat):=((∀(x:Int),some (AV.int .i64 (↑a:Int))=some (AV.int .i64 x)->x=(↑b:Int))/\∀(r:Int),some (AV.int .i64 (↑c:Int))=some (AV.int .i64 r)->r=(↑d:Int))
def Ch (a:Ac) (b:Nat):=Au (Ab.kind (CA a b))
def Dk (a:Ac):=H4 a.length (AE a)
def C6 (a:Nat) (b:Ac):=Ap (AO (↑a:Int) b.length)
def CX (a:Ac):=Int.ofNat a.length
def Jv (a:Ac) (b:Nat) (c:Nat):=getD (Ab.kids (CA a b)) (B8 c) (0:Int)
def My (a:Ac) (b:Nat) (c:Int):=(Aa/\(0:Int)=(↑(Dr a b c):Int))
def Gc (a:Ac) (b:Nat):=Ab.kind (CA a b)
def VC (a:Ac) (b:Nat) (c:Nat) (d:Nat):=Ap (Bf .i64 (ID a (Bc a b) c d+1))
def IV (a:Af):=(↑a.length:Int)
def Im (a:Ac) (b:Nat):=Ab.text (CA a b)
def VE (a:Ac) (b:Nat) (c:Int) (d:Nat×Nat×Af) (e:Nat×Nat):=(∃(r:Nat×Nat),xf a b c d e r)
theorem Am8:∀(N:Nat) (L:Ac) (a:Nat) (nest:Int),Hn L->Nat.le (Nat.succ (L.length-a)) (N+1)->Gy nest->Int.NonNeg ((1000:Int)-nest)->Ag (!AP (↑a:Int) (CX L)) (My L a nest) (Ag (AP (64:Int) nest) (My L a nest) (C6 a L (Ag (AP (Gc L a) (1:Int)) (My L a nest) (Ag (AP (36:Int) (Gc L a)) (My L a nest) (Nat.le (List.length (Im L a)) 1000000/\Ag (!Ay (Ka (Gc L a) (Im L a))) (My L a nest) (True/\Ag (!Ay (IF (Gc L a) (Ab.n (CA L a)))) (My L a nest) (Bj a ((∃(x0:Nat×Nat×Af),GI L a nest x0/\Aa/\(x0.2.2.length=0/\(Cb a x0.2.1)/\(Cr x0.1)/\lL L a nest)/\(Aa/\True)/\lM L a)/\∀(x:Nat×Nat×Af),GI L a nest x->Ag (Dh x.1 (Int.ofNat (Ec L a))) (Ap (D8 x.1 (Ec L a)) (Ag (!Au (Jv L a x.1) (↑x.2.1:Int)) (My L a nest) (Ag (!AP (↑x.2.1:Int) (CX L)) (My L a nest) (C6 x.2.1 L (Ag (Ch L x.2.1 (12:Int)) (∃(B:Nat×Nat),(Qt x.1 B.1 x.2.1 B.2)/\Aa/\((Aa/\(1:Int)=JW L (Bc L a) B.1 B.2)/\Re L a nest x)/\Rf L a x) (∃(B:Nat×Nat),(Qt x.1 B.1 x.2.1 B.2)/\Aa/\((Aa/\(0:Int)=JW L (Bc L a) B.1 B.2)/\Re L a nest x)/\Rf L a x))/\∀(B:Nat×Nat),(Qt x.1 B.1 x.2.1 B.2)->((∃(U:Ac),∃(S:Af),L.length=U.length/\AE L=AE U/\Ec L a=S.length/\Aq (Ab.kids (CA L a))=Aq S/\Jx x.1/\Int.NonNeg ((IV S)-(IW x.1))/\Int.NonNeg (Dm S x.1-0)/\Int.NonNeg ((CH U)-(Dm S x.1+1))/\Int.NonNeg ((100000000:Int)-(↑x.1:Int)))/\Ag (Ay (decide ((0:Int)<Ib (Ab.kind (Je (AE L (toNat (Lg (Aq (Ab.kids (getD L (toNat (↑a:Int)) Ab.none)) (toNat (↑x.1:Int)))))))) (Ab.text (Je (AE L (toNat (Lg (Aq (Ab.kids (getD L (toNat (↑a:Int)) Ab.none)) (toNat (↑x.1:Int))))))))/\Ib (Ab.kind (Je (AE L (toNat (Lg (Aq (Ab.kids (getD L (toNat (↑a:Int)) Ab.none)) (toNat (↑x.1:Int)))))))) (Ab.text (Je (AE L (toNat (Lg (Aq (Ab.kids (getD L (toNat (↑a:Int)) Ab.none)) (toNat (↑x.1:Int))))))))<P2 (Ab.kind (getD L (toNat (↑a:Int)) Ab.none)) (Ab.text (getD L (toNat (↑a:Int)) Ab.none)) (↑x.1:Int)))) (Ap (Bf .i64 (JW L (Bc L a) B.1 B.2+1)) (∃(r:Nat×Nat),(Qt x.1 r.1 x.2.1 r.2)/\Aa/\((Aa/\JW L (Bc L a) B.1 B.2+1=ID L (Bc L a) r.1 r.2)/\Re L a nest x)/\Rf L a x)) (∃(r:Nat×Nat),(Qt x.1 r.1 x.2.1 r.2)/\Aa/\((Aa/\JW L (Bc L a) B.1 B.2=ID L (Bc L a) r.1 r.2)/\Re L a nest x)/\Rf L a x))/\∀(r:Nat×Nat),(Qt x.1 r.1 x.2.1 r.2)->Ag (Ch L a (31:Int)) (Ag (Au (↑x.1:Int) (1:Int)) (VC L a r.1 r.2 (VE L a nest x r)) (Ag (Ch L a (34:Int)) (VC L a r.1 r.2 (VE L a nest x r)) (Ag (Ch L a (35:Int)) (VC L a r.1 r.2 (VE L a nest x r)) (∃(J:Nat×Nat),lN L a nest x r J)))) (Ag (Ch L a (34:Int)) (VC L a r.1 r.2 (VE L a nest x r)) (Ag (Ch L a (35:Int)) (VC L a r.1 r.2 (VE L a nest x r)) (∃(J:Nat×Nat),lN L a nest x r J)))/\∀(J:Nat×Nat),(Qt x.1 J.1 x.2.1 J.2)->C6 x.2.1 L (Ap (bif bif Nat.ble (x.2.2.length*1) x.2.2.length then true else false then decide (x.2.2.length+1<=9223372036854775807/\(x.2.2.length+1)*8<=140737488355328)else false) (Ap (Bf .i64 (nest+Fx L (Bc L a) J.1 J.2)) ((∃(U:Ac),L.length=U.length/\AE L=AE U/\Hn U/\Jx x.2.1/\Nat.le (Nat.succ (U.length-B8 x.2.1)) N/\Int.NonNeg (nest+Fx L (Bc L a) J.1 J.2-0)/\Int.NonNeg ((1000:Int)-(nest+Fx L (Bc L a) J.1 J.2)))/\Ag (Au (AF (↑(Dr (Dk L) (B8 x.2.1) (nest+Fx L (Bc L a) J.1 J.2)):Int)) (0:Int)) (My L a nest) (Bj x.1 (∃(x':Nat×Nat×Af),GI L a nest x'/\Nat.le (Nat.succ (Cl L a-x'.1)) (Cl L a-x.1)/\Aa/\((Ae (some 9)/\x.2.2.length+1=x'.2.2.length/\Aa)/\(Aa/\AF (↑(Dr (Dk L) (B8 x.2.1) (nest+Fx L (Bc L a) J.1 J.2)):Int)=(↑x'.2.1:Int))/\(Cb x.1 x'.1)/\lL L a nest)/\(Aa/\Aa/\Aa/\Aa/\(x.2.2.length+1)*1=x'.2.2.length/\Ar λ(i:Nat)=>B7 i ((x.2.2.length+1)*1)->AZ [(1,1),(0,0),(7,9)] (Aq x'.2.2 i) (BA x.2.2.length (Aq x.2.2) (λ(ar:Nat)=>[AV.int .i64 (Gc L x.2.1)]) i))/\lM L a))))))))) (Ap (bif bif Nat.ble (x.2.2.length*1) x.2.2.length then B1 1 x.2.2.length (Aq x.2.2)else false then true else false) (Ap (bif bif bif Nat.beq x.2.2.length x.2.2.length then true else false then true else false then bif Nat.beq x.2.2.length x.2.2.length then true else false else false) ((∃(S:Af),x.2.2.length=S.length/\Aq x.2.2=Aq S/\Nat.le S.length 100000000)/\Ag (!Ay (CF (BT (Gc L a)) (Dy x.2.2.length (Aq x.2.2)))) (My L a nest) (Aa/\(↑x.2.1:Int)=(↑(Dr L a nest):Int)))))))))))))
:=by
 delta CA Bc Dm Bj B8 Ec Cl B7 Qt Ch Dk Cb Cr C6 CX Jv CH My Dh D8 Gc Jx Gy VC IV Im IW VE;intro N L a nest hL hN h0 h1;have hN:L.length-a<N+1:=hN;have h0:0<=nest:=h0;have h1:nest<=1000:=h1;simp only[Bq,Iy,Rd,TD,lK,lL,Re,lM,Rf,lN,xf,AD,Bc,Cl,Hg,Dl,CA,Ec,Vr,Cm,Fh,Fj,HA,EB,B7,gL,HU,QM,YC];have af:∀q:Nat,Je (AE L q)=L.getD q Ab.none:=λq=>T9 _;have ag:∀(S:Af) (q:Nat),Lg (Aq S q)=S.getD q 0:=λS q=>rfl;simp only[DY,af,ag,EC];have aq:=hL.len;have ab:=hL.text a;have R:Dr L a nest=0->(0:Int)=((Dr L a nest:Nat):Int):=λh=>by rw[h];rfl
 refine Ao (λh=>R (Ux (.inl (by rw[BZ,Bl]at h;omega)))) λha=>Ao (λh=>R (Ux (.inr (by rwa[Bd]at h)))) λhn=>?_;rw[BI,Bd]at ha;rw[Bl]at hn;have aj:¬(L.length<=a\/64<nest):=by omega
 refine Am (AK.2 (by omega)) ?_;have V:∀(h:¬(1<=(L.getD a Ab.none).kind/\(L.getD a Ab.none).kind<=36)\/Ka (L.getD a Ab.none).kind (L.getD a Ab.none).text=false\/IF (L.getD a Ab.none).kind (L.getD a Ab.none).n=false),(0:Int)=((Dr L a nest:Nat):Int):=λh=>R (s9 (by
  unfold JQ;rcases h with h|h|h
  ·rw[E7 h];rfl
  ·rw[h];simp
  ·rw[h];simp))
 refine Ao (λh=>V (.inl (by rw[Bd]at h;omega))) λk1=>Ao (λh=>V (.inl (by rw[Bd]at h;omega))) λk2=>⟨ab,Ao (λh=>V (.inr (.inl (nf h)))) λk3=>Ao (λh=>V (.inr (.inr (nf h)))) λk4=>?_⟩;rw[Bl]at k1 k2;have aa:JQ (L.getD a Ab.none)=true:=by unfold JQ;rw[BF ⟨k1,k2⟩,nt k3,nt k4];rfl
 clear V ab k1 k2 k3 k4;refine Am (AU.2 (by omega)) ⟨⟨(0,a+1,[]),⟨BL _,AH _,by simp only;omega,rfl,rfl⟩,rfl,by simp,rfl⟩,λx hx=>?_⟩;obtain⟨i,next,l⟩:=x;obtain⟨ak,ai,an,ae,W⟩:=hx;simp only at ak ai an ae W⊢;refine Ao (λh=>?_) λh=>?_
 ·rw[Bd]at h;have ad:i<(L.getD a Ab.none).kids.length:=by omega
  have ao:i<=1000000:=by omega
  rw[PI _ _ ad]at W;have Y:∀h:G7 L a nest ((L.getD a Ab.none).kids.getD i 0::(L.getD a Ab.none).kids.drop (i+1)) i next l=none,(0:Int)=((Dr L a nest:Nat):Int):=λh=>R (sa (by rw[<-W];exact h))
  refine Am (AK.2 (by omega)) (Ao (λh2=>Y (dT (.inl (by rw[BZ,BB]at h2;exact h2)))) λh2=>Ao (λh3=>Y (dT (.inr (.inl (by rw[BZ,Bl]at h3;omega))))) λh3=>?_);rw[BI,Ba]at h2;rw[BI,Bd]at h3;have hm:=Ajv L (L.getD a Ab.none) i next
  refine⟨Am (AK.2 (by omega)) (Ao (λh4=>⟨(i,next),⟨λb hb=>hb.symm,λb hb=>hb.symm⟩,?_⟩) λh4=>⟨(i,next),⟨λb hb=>hb.symm,λb hb=>hb.symm⟩,?_⟩),λy hy=>?_⟩
  ·rw[Ba]at h4;unfold JW;rw[As h4]
  ·rw[BB]at h4;unfold JW;rw[An h4]
  obtain⟨i',K⟩:=y;obtain⟨e1,Z⟩:=hy;have e1:=e1 _ rfl;have Z:=Z _ rfl;simp only at e1 Z⊢;obtain rfl:i=i':=by omega
  obtain rfl:next=K:=by omega
  refine⟨⟨⟨L,(L.getD a Ab.none).kids,rfl,rfl,rfl,rfl,(show(0:Int)<=(i:Int) by omega),(show(i:Int)<((L.getD a Ab.none).kids.length:Int) by omega),(show(0:Int)<=(L.getD a Ab.none).kids.getD i 0 by omega),(show(L.getD a Ab.none).kids.getD i 0<(L.length:Int) by omega),(show(i:Int)<=100000000 by omega)⟩,?_⟩,λy hy=>?_⟩
  ·have hp:R5 L (L.getD a Ab.none) i=decide (0<Ib (L.getD ((L.getD a Ab.none).kids.getD i 0).toNat Ab.none).kind (L.getD ((L.getD a Ab.none).kids.getD i 0).toNat Ab.none).text/\Ib (L.getD ((L.getD a Ab.none).kids.getD i 0).toNat Ab.none).kind (L.getD ((L.getD a Ab.none).kids.getD i 0).toNat Ab.none).text<P2 (L.getD a Ab.none).kind (L.getD a Ab.none).text i):=rfl;rw[<-hp];refine Ao (λh5=>Am (AU.2 (by omega)) ⟨(i,next),⟨λb hb=>hb.symm,λb hb=>hb.symm⟩,?_⟩) λh5=>⟨(i,next),⟨λb hb=>hb.symm,λb hb=>hb.symm⟩,?_⟩
   ·unfold ID;rw[h5];rfl
   ·unfold ID;rw[h5];simp
  obtain⟨i',K⟩:=y;obtain⟨e1,Z⟩:=hy;have e1:=e1 _ rfl;have Z:=Z _ rfl;simp only at e1 Z⊢;obtain rfl:i=i':=by omega
  obtain rfl:next=K:=by omega
  refine⟨?_,λy hy=>?_⟩
  ·have ah:∀(h6:(L.getD a Ab.none).kind=31/\i=1\/(L.getD a Ab.none).kind=34\/(L.getD a Ab.none).kind=35),ID L (L.getD a Ab.none) i next+1=Fx L (L.getD a Ab.none) i next:=λh6=>by unfold Fx ID JW;rw[As h6]
   have no:∀(h6:¬((L.getD a Ab.none).kind=31/\i=1\/(L.getD a Ab.none).kind=34\/(L.getD a Ab.none).kind=35)),ID L (L.getD a Ab.none) i next=Fx L (L.getD a Ab.none) i next:=λh6=>by unfold Fx ID JW;rw[An h6];omega
   have hR:Bf .i64 (ID L (L.getD a Ab.none) i next+1)=true:=AU.2 (by omega)
   repeat' first
    |with_reducible refine Ao (λ_=>?_) (λ_=>?_)
    |with_reducible refine Am hR ?_
   all_goals simp only[Ba,BB]at*
   all_goals first
    |exact⟨(i,next),⟨λb hb=>hb.symm,λb hb=>hb.symm⟩,ah (by omega)⟩
    |exact⟨(i,next),⟨λb hb=>hb.symm,λb hb=>hb.symm⟩,no (by omega)⟩
  obtain⟨i',K⟩:=y;obtain⟨e1,Z⟩:=hy;have e1:=e1 _ rfl;have Z:=Z _ rfl;simp only at e1 Z⊢;obtain rfl:i=i':=by omega
  obtain rfl:next=K:=by omega
  refine Am (AK.2 (by omega)) (Am (BF ⟨by omega,by omega⟩) (Am (AU.2 (by omega)) ⟨⟨L,rfl,rfl,hL,(show(0:Int)<=(next:Int) by omega),(show L.length-next<N by omega),(show(0:Int)<=nest+Fx L (L.getD a Ab.none) i next by omega),(show nest+Fx L (L.getD a Ab.none) i next<=1000 by omega)⟩,Ao (λh6=>Y (sj ?_)) λh6=>Am (AU.2 (by omega)) ?_⟩))
  ·rw[Ba]at h6;omega
  ·rw[BB]at h6;have hz:Dr L next (nest+Fx L (L.getD a Ab.none) i next)≠0:=λe=>h6 (by rw[e];rfl)
   have hg:=Aa5 hz;rw[si (by omega) hz]at W;refine⟨(i+1,Dr L next (nest+Fx L (L.getD a Ab.none) i next),l++[(L.getD next Ab.none).kind]),⟨ad,by simp only;omega,hg.2,by simp[ae],W⟩,by simp only;omega,⟨by simp,rfl,by simp⟩,by simp,?_⟩;exact⟨λj hj=>(QS (row:=λz:Int=>[AV.int .i64 z]) (d:=0) (e:=1) (n:=l.length+1) (out:=l) (t:=(L.getD next Ab.none).kind) (g:=λ_=>[AV.int .i64 (L.getD next Ab.none).kind]) (λt=>⟨⟨rfl,rfl⟩,trivial⟩) rfl rfl).h j (by have:j<l.length+1:=hj;omega)⟩
 ·rw[Bl]at h;obtain rfl:i=(L.getD a Ab.none).kids.length:=by omega
  rw[List.drop_length,dU]at W;refine Am (DL λi _=>rfl) ⟨⟨l,rfl,rfl,by omega⟩,?_⟩;have hs:=se aj aa W.symm;refine Ao (λh=>R ?_) λh=>?_
  ·rw[hs];simp only[nf h,Bool.false_eq_true,if_false]
  ·rw[hs];simp only[nt h,if_true]
theorem Am7:∀(N:Nat) (L:Ac) (a:Nat) (nest:Int),Hn L->L.length-a<N+1->0<=nest->nest<=1000->(A3 (zE N L a nest) 60).call 33 [tree L,.int .i64 a,.int .i64 nest] .leaf 0 (BS Tryz.prog false (.int .i64 (Dr L a nest))):=Eq.mpr (by kernel_rfl) Am8
theorem Akt:∀N:Nat,BC Tryz.prog 33 (W3 N):=by
 intro N
 induction N with
 |zero=>
  refine Cw (gl:=[]) (ng:=0) AS λH args ct r=>?_;unfold W3 at r;split at r
  ·injection r with r;subst r;refine⟨AS,_,_,rfl,?_⟩;rintro⟨L,rfl,rfl,y,K,x,B,z⟩;omega
  ·cases r
 |succ N J=>
  refine Cw (gl:=[]) (ng:=0) AS λH args ct r=>?_;unfold W3 at r;split at r
  ·rename_i n f a nest;injection r with r;subst r;refine⟨AS,_,_,rfl,?_⟩;rintro⟨L,rfl,rfl,y,K,x,B,z⟩;obtain⟨b,rfl⟩:∃b:Nat,a=b:=⟨a.toNat,by omega⟩;rw[Et,DY];exact⟨⟨FK L,⟨rfl,rfl⟩,⟨rfl,rfl⟩,trivial⟩,zE N L b nest,60,rfl,Cc,BD Ak8 (BD AkJ (BD AkP (BD Aky (BD J Bk)))),Am7 N L b nest y x B z⟩
  ·cases r
def OC (L:Ac):Bool:=decide (0<L.length)&&(decide ((L.getD 0 Ab.none).kind=1)&&decide (Dr L 0 0=L.length))
def pZ:Tr Ah->Al->Option Ct:=λ_ args=>match args with
 | [.agg [.vec 6 n f]]=>some (.Bb (∃L:Ac,n=L.length/\f=AE L/\Hn L) (.ret (.bool (Ay (OC (H4 n f))))))
 |_=>none
def DM (L:Ac) (c:Int):Int:=(L.getD c.toNat Ab.none).kind
structure Good (L:List Ab):Prop where
 pos:0<L.length
 root:(L.getD 0 Ab.none).kind=1
 Gn:∀i,i<L.length->∀c∈(L.getD i Ab.none).kids,(i:Int)<c/\c<L.length
 head:∀i,i<L.length->JQ (L.getD i Ab.none)=true
 kinds:∀i,i<L.length->CF (BT (L.getD i Ab.none).kind) ((L.getD i Ab.none).kids.map (DM L))=true
 Mf:∀i,i<L.length->(L.getD i Ab.none).kids.length<=L.length
 Ru:∀x,0<x->x<L.length->∃i,i<x/\(x:Int)∈(L.getD i Ab.none).kids
def Eh (k:Int):Bool:=decide (k=7\/k=9\/k=10\/k=11\/k=36)
def Ky (k:Int):Bool:=decide (k=2\/k=3\/k=6\/k=7\/k=8\/k=10)
def Ml (f:Int->Bool):Tr Ah->Al->Option Ct:=λ_ args=>match args with
 | [.int .i64 z]=>some (.Bb True (.ret (.bool (Ay (f z)))))
 |_=>none
def BN (L:Ac) (k:Int):Nat->Nat
 |0=>0
 |n+1=>BN L k n+if(L.getD n Ab.none).kind=k then 1 else 0
def W1:Tr Ah->Al->Option Ct:=λ_ args=>match args with
 | [.agg [.vec 6 n f],.int .i64 k,.int .i64 a]=>some (.Bb (∃L:Ac,n=L.length/\f=AE L/\L.length<=1000000/\0<=a/\a<=L.length) (.ret (.int .i64 (AF (BN (H4 n f) k a.toNat:Nat)))))
 |_=>none
def AfT (L:Ac) (k:Int):B0:=thin Nat [0,1,2,3] (λi=>[(7,.int .i64 (BN L k i)),(8,.int .i64 i)]) (λs i=>i<=L.length/\∀a,s.T.get 2=some (.int .i64 a)->i<=a.toNat) λi=>L.length-i
def gf:H9:=λ_ args=>match args with
 | [.agg [.vec 6 n f],.bs s]=>some ⟨Int,∃L:Ac,n=L.length/\f=AE L/\L.length<=1000000,λd=>d= -1\/0<=d/\d<n,λd=>.int .i64 d⟩
 |_=>none
def AfU (L:Ac):B0:=thin Nat [0,1,2] (λi=>[(5,.int .i64 i)]) (λ_ i=>i<=L.length) λi=>L.length-i
structure Oj (L:List Ab) (U:List Int):Prop where
 len:U.length=L.length
 zero:U.getD 0 0= -1
 lo:∀x,0<x->x<L.length->0<=U.getD x 0/\U.getD x 0<x
 up:∀x,0<x->x<L.length->(x:Int)∈(L.getD (U.getD x 0).toNat Ab.none).kids
def vY:H9:=λ_ args=>match args with
 | [.agg [.vec 6 n f]]=>some ⟨Af,(∃L:Ac,n=L.length/\f=AE L/\L.length<=1000000/\Good L),λU=>∀L:Ac,n=L.length->f=AE L->Oj L U,λU=>.vec 1 U.length (Aq U)⟩
 |_=>none
structure UI (L:List Ab) (i k:Nat) (U:List Int):Prop where
 le:i<=L.length
 len:U.length=L.length
 zero:U.getD 0 0= -1
 lo:∀x,0<x->x<L.length->0<=U.getD x 0/\U.getD x 0<x
 up:∀x,0<x->x<L.length->(∃j,j<i/\(x:Int)∈(L.getD j Ab.none).kids)\/(∃q,q<k/\(L.getD i Ab.none).kids.getD q 0=x)->(x:Int)∈(L.getD (U.getD x 0).toNat Ab.none).kids
def Xs (s:St) (l:List Nat):List (Nat×Ah):=List.rec (motive:=λ_=>List (Nat×Ah)) [] (λt _ r=>Option.rec (motive:=λ_=>List (Nat×Ah)) r (λv=>(t,v)::r) (s.H.get t)) l
def Oa (U:Af):Ah:=.cells 3 .leaf (.rows 1 (Aq U)) U.length true
def SUo (L:Ac):B0:={X:=Nat×Af,T:=λs _ x=>(3,.AR 1 x.2.length 1)::(4,.int .i64 x.1)::Ig s [0,1],H:=λs n0 x=>(1,Oa x.2)::Xs s [0],nx:=λs _=>s.nx,I:=λ_ x=>UI L x.1 0 x.2,m:=λx=>L.length-x.1}
def SUi (L:Ac):B0:={X:=Nat×Nat×Af,T:=λs _ x=>(3,.AR 1 x.2.2.length 1)::(5,.int .i64 x.2.1)::Ig s [0,1,4],H:=λs n0 x=>(1,Oa x.2.2)::Xs s [0],nx:=λs _=>s.nx,I:=λs x=>(∀a,s.T.get 4=some (.int .i64 a)->a=x.1)/\x.1<L.length/\x.2.1<=(L.getD x.1 Ab.none).kids.length/\UI L x.1 x.2.1 x.2.2,m:=λx=>(L.getD x.1 Ab.none).kids.length-x.2.1}
def zc (L:Ac):Ctx:={P:=Tryz.prog,tb:=[],lp:=λf r=>cond (Nat.beq f 15) (cond (Nat.beq r 5) (some (SUo L)) (cond (Nat.beq r 8) (some (SUi L)) none)) none,cut:=λ_ _=>none}
def L0 {X:Type} (Q:X->Prop) (v:X->AV) (r:CR):Prop:=∃x,Q x/\BS Tryz.prog false (v x) r
def Eo (a:Ac):=AV.vec 6 a.length (AE a)
def Qx:=((True/\True/\True/\True/\True/\True/\True/\True)/\True)
def IQ (a:Ac):=getD a 0 Ab.none
def NV:=Int.NonNeg (0:Int)
theorem Anv:∀(L:Ac),Hn L->Ag (AP (0:Int) (CX L)) (Ap (AO (0:Int) L.length) (Ag (Au (Ab.kind (IQ L)) (1:Int)) ((∃(r:Ac),L.length=r.length/\AE L=AE r/\Hn r/\NV/\Nat.le (Nat.succ (r.length-0)) (L.length+1)/\NV/\Int.NonNeg (1000:Int))/\(((Ae (AV.int .i64 (CX L))/\Ae (Eo L)/\True/\True/\True/\True/\True/\True)/\True)/\Qx/\True)/\Au (AF (↑(Dr (Dk L) 0 (0:Int)):Int)) (CX L)=OC L) ((CI/\True)/\false=OC L))) ((DV/\True)/\false=OC L)
:=by
 delta CI DV Dk Eo CX Qx IQ NV;intro L y;simp only[Bq];simp only[DY];unfold OC;refine Ao (λh=>Am (AK.2 (by rw[Bd]at h;omega)) (Ao (λx=>⟨⟨L,rfl,rfl,y,(show(0:Int)<=0 by omega),(show L.length-0<L.length+1 by omega),(show(0:Int)<=0 by omega),(show(0:Int)<=1000 by omega)⟩,?_⟩) λx=>?_)) λh=>?_
 ·rw[Bd]at h;rw[Ba]at x;rw[BF (show 0<L.length by omega),BF x,DD,Bool.true_and,Bool.true_and];apply decide_eq_decide.2;omega
 ·rw[BB]at x;rw[E7 x];simp
 ·rw[Bl]at h;rw[E7 (by omega)];simp
theorem Anu:∀(L:Ac),Hn L->(A3 (Rv [(33,W3 (L.length+1))]) 60).call 13 [tree L] .leaf 0 (BS Tryz.prog false (.bool (OC L))):=Eq.mpr (by kernel_rfl) Anv
theorem Aoa:∀(k:Int),Ag (Au k (7:Int)) (true=Eh k) (Ag (Au k (9:Int)) (true=Eh k) (NY k (true=Eh k) (Ag (Au k (11:Int)) (true=Eh k) (Au k (36:Int)=Eh k))))
:=by
 delta NY;intro k;simp only[GC,DD,EX,BZ,BI,Bn,CU];unfold Eh
 grind
theorem An9:∀(k:Int),(A3 G3 60).call 37 [.int .i64 k] .leaf 0 (BS Tryz.prog false (.bool (Eh k))):=Eq.mpr (by kernel_rfl) Aoa
theorem AnM:∀(k:Int),Ag (Au k (2:Int)) (true=Ky k) (Ag (Au k (3:Int)) (true=Ky k) (Ag (Au k (6:Int)) (true=Ky k) (Ag (Au k (7:Int)) (true=Ky k) (Ag (Au k (8:Int)) (true=Ky k) (Au k (10:Int)=Ky k)))))
:=by
 intro k;simp only[GC,DD,EX,BZ,BI,Bn,CU];unfold Ky
 grind
theorem AnL:∀(k:Int),(A3 G3 60).call 34 [.int .i64 k] .leaf 0 (BS Tryz.prog false (.bool (Ky k))):=Eq.mpr (by kernel_rfl) AnM
@[reducible] def Pu:Ac->Prop:=λ(L:Ac)=>(Aa/\Aa/\Aa/\Aa/\True/\Dl L)/\True
@[reducible] def lO:Ac->Int->Nat->Prop:=λ(L:Ac) (k:Int) (a:Nat)=>(Dl L/\True)/\(Aa/\k=k)/\(Fj a)/\Cm/\True
@[reducible] def lP:Ac->Int->Nat->Nat->Nat->Prop:=λ(L:Ac) (k:Int) (a x r:Nat)=>(Cb x r)/\lO L k a
def Dx (a:Ac) (b:Nat) (c:Nat):=Nat.le (Nat.succ (a.length-b)) (a.length-c)
def Fk (a:Nat) (b:Ac):=Nat.le a b.length
def Ed (a:Ac):=Pu a
def Yl (a:Nat) (b:Ac) (c:Nat):=(Fk a b/\∀(r:Int),some (AV.int .i64 (↑c:Int))=HU r->Nat.le a (toNat r))
def HZ (a:Ac):=Nat.le a.length 1000000
def O8 (a:Ac) (b:Int) (c:Nat):=(↑(BN a b c):Int)
theorem AmI:∀(L:Ac) (k:Int) (a:Nat),HZ L->Fk a L->(∃(z:Nat),(Yl z L a)/\Aa/\((Aa/\(0:Int)=(O8 L k z))/\(Cr z)/\lO L k a)/\Ed L)/\∀(x:Nat),(Yl x L a)->Ag (AP (↑x:Int) (↑a:Int)) (C6 x L (Ag (Ch L x k) (Ap (Bf .i64 ((O8 L k x)+1)) (Bj x (∃(r:Nat),(Yl r L a)/\Dx L r x/\Aa/\((Aa/\(O8 L k x)+1=(O8 L k r))/\lP L k a x r)/\Ed L))) (Bj x (∃(r:Nat),(Yl r L a)/\Dx L r x/\Aa/\((Aa/\(O8 L k x)=(O8 L k r))/\lP L k a x r)/\Ed L)))) (Aa/\(O8 L k x)=(O8 L k a))
:=by
 delta CA Bj Dx Ch Cr C6 HU Fk Ed Yl HZ O8;intro L k a J B;have J:L.length<=1000000:=J;have B:a<=L.length:=B;have hc:∀n,BN L k n<=n:=λn=>by
  induction n with
  |zero=>exact AH _
  |succ n S=>unfold BN;split<;>omega
 simp only[Bq,Iy,Pu,lO,lP,AD,Bc,Cl,Hg,Dl,Cm,Fj,Cb];refine⟨⟨0,⟨BL _,λ_ _=>BL _⟩,rfl,rfl⟩,λx K=>Ao (λh=>?_) λh=>?_⟩
 ·rw[Bd]at h;have R:=hc x;refine Am (AK.2 (by omega)) (Ao (λy=>Am (AU.2 (by omega)) (Am (AU.2 (by omega)) ⟨x+1,⟨by omega,λb hb=>by omega⟩,by omega,?_,by omega⟩)) λy=>Am (AU.2 (by omega)) ⟨x+1,⟨by omega,λb hb=>by omega⟩,by omega,?_,by omega⟩)
  ·rw[Ba]at y;rw[BN,As y];omega
  ·rw[BB]at y;rw[BN,An y];omega
 ·rw[Bl]at h;have:=K.2 _ rfl;obtain rfl:x=a:=by omega
  rfl
theorem AmH:∀(L:Ac) (k:Int) (a:Nat),L.length<=1000000->a<=L.length->(A3 (M4 [] 14 3 (AfT L k)) 60).call 14 [tree L,.int .i64 k,.int .i64 a] .leaf 0 (BS Tryz.prog false (.int .i64 (BN L k a))):=Eq.mpr (by kernel_rfl) AmI
@[reducible] def lQ:Ac->Aj->Prop:=λ(L:Ac) (s:Aj)=>(Dl L/\True)/\s=s/\Cm/\True
@[reducible] def lR:Ac->Aj->Nat->Nat->Prop:=λ(L:Ac) (s:Aj) (a r:Nat)=>Fk r L/\Dx L r a/\Aa/\((Cb a r)/\lQ L s)/\Ed L
def VB (a:Int) (b:Ac):=(a=Int.negSucc 0\/(0:Int)<=a/\a<(CH b))
theorem AmL:∀(L:Ac) (s:Aj),HZ L->(∃(z:Nat),Fk z L/\Aa/\((Cr z)/\lQ L s)/\Ed L)/\∀(x:Nat),Fk x L->Ag (AP (↑x:Int) (CX L)) (C6 x L (True/\Ag (Ay (Ky (Gc L x))) (C6 x L (Ag (decide (Ab.text (getD L (toNat (↑x:Int)) Ab.none)=s)) (∃(y:Int),(VB y L)/\Aa/\(↑x:Int)=y) (Bj x (∃(r:Nat),lR L s x r)))) (Bj x (∃(r:Nat),lR L s x r)))) (∃(x:Int),(VB x L)/\Aa/\Int.negSucc 0=x)
:=by delta CA Bj Cr C6 CX CH Fk Ed HZ Gc VB;intro L s K;have K:L.length<=1000000:=K;simp only[Bq,Iy,Pu,lQ,lR,AD,Bc,Cl,Hg,Dl,Cm,Dx,Cb,Fk,Ed];refine⟨⟨0,BL _,rfl⟩,λx V=>Ao (λh=>?_) λh=>⟨-1,.inl rfl,rfl⟩⟩;rw[Bd]at h;have R:AO (x:Int) L.length=true:=AK.2 (by omega);have J:Bf .i64 ((x:Int)+1)=true:=AU.2 (by omega);have B:∃r,r<=L.length/\(L.length-r).succ<=L.length-x/\(x:Int)+1=(r:Int):=⟨x+1,by omega,by omega,by omega⟩;exact Am R (Ao (λU=>Am R (Ao (λS=>⟨(x:Int),.inr (by omega),rfl⟩) λS=>Am J B)) λU=>Am J B)
theorem AmK:∀(L:Ac) (s:Aj),L.length<=1000000->(A3 (M4 [(34,Ml Ky)] 35 2 (AfU L)) 60).call 35 [tree L,.bs s] .leaf 0 (L0 (λd:Int=>d= -1\/0<=d/\d<L.length) λd=>.int .i64 d):=Eq.mpr (by kernel_rfl) AmL
theorem G6 {l:Af} {k:Nat} (h:k<l.length):l.getD k 0∈l:=by rw[Bt,Ce h];exact List.getElem_mem _
theorem Afk (U:Af) (c:Nat) (z:Int) (h:c<U.length) (j:Nat):E4 (Aq U) c 0 [AV.int .i64 z] j=Aq (U.set c z) j:=by
 unfold E4 Aq;cases hb:Nat.beq j c with
 |true=>have:=D4 hb;subst this;simp[MK,h,Bt]
 |false=>
  have r:c≠j:=λe=>by subst e;simp at hb
  simp[Bt,List.getElem?_set_ne r]
theorem wI (U:Af) (c:Nat) (z:Int) (h:c<U.length) (j:Nat):(U.set c z).getD j 0=if j=c then z else U.getD j 0:=by
 by_cases e:j=c
 ·subst e;rw[As rfl];simp[Bt,h]
 ·rw[An e];simp[Bt,List.getElem?_set_ne (Ne.symm e)]
theorem UI.store {L:Ac} {i k:Nat} {U:Af} (h:UI L i k U) (hi:i<L.length) (V:k<(L.getD i Ab.none).kids.length) (Y:(i:Int)<(L.getD i Ab.none).kids.getD k 0) (W:(L.getD i Ab.none).kids.getD k 0<L.length): UI L i (k+1) (U.set ((L.getD i Ab.none).kids.getD k 0).toNat i):=by
 obtain⟨c,hc⟩:∃c:Nat,(L.getD i Ab.none).kids.getD k 0=c:=⟨((L.getD i Ab.none).kids.getD k 0).toNat,by omega⟩;have B:(c:Int)∈(L.getD i Ab.none).kids:=by rw[<-hc];exact G6 V
 rw[hc]at Y W⊢;rw[Int.toNat_natCast];have J:=h.len;have y:c<U.length:=by omega
 refine⟨h.le,by simpa using J,?_,λx K r=>?_,λx K r R=>?_⟩
 ·rw[wI _ _ _ y,An (by omega)];exact h.zero
 ·rw[wI _ _ _ y];split
  ·omega
  ·exact h.lo x K r
 ·rw[wI _ _ _ y];split
  ·rename_i e;subst e;rw[Int.toNat_natCast];exact B
  ·rename_i e;refine h.up x K r ?_;rcases R with R|⟨q,Z,z⟩
   ·exact .inl R
   ·rcases D9 q k with S|S
    ·exact .inr ⟨q,S,z⟩
    ·obtain rfl:q=k:=by omega
     rw[hc]at z;exact absurd (by omega) e
theorem UI.next {L:Ac} {i k:Nat} {U:Af} (h:UI L i k U) (hi:i<L.length) (S:(L.getD i Ab.none).kids.length<=k):UI L (i+1) 0 U:=
 ⟨hi,h.len,h.zero,h.lo,λx K r R=>h.up x K r (by
  rcases R with⟨j,V,B⟩|⟨q,z,_⟩
  ·rcases D9 j i with J|J
   ·exact .inl ⟨j,J,B⟩
   ·obtain rfl:j=i:=by omega
    obtain⟨q,z,y⟩:=List.getElem_of_mem B;exact .inr ⟨q,by omega,by rw[Bt,Ce z];exact y⟩
  ·omega)⟩
theorem UI.done {L:Ac} {i:Nat} {U:Af} (h:UI L i 0 U) (hi:L.length<=i) (B:Good L):Oj L U:=⟨h.len,h.zero,h.lo,λx y r=>h.up x y r (by obtain⟨j,J,z⟩:=B.Ru x y r;exact .inl ⟨j,by omega,z⟩)⟩
@[reducible] def ZN:Ac->Nat×Af->Nat×Nat×Af->Prop:=λ(L:Ac) (a:Nat×Af) (r:Nat×Nat×Af)=>(YC a.1 r.1)/\AD r.1 L.length/\Nat.le (r.2.1) (Cl L r.1)/\UI L r.1 (r.2.1) (r.2.2)
def DG (a:Af) (b:Nat):=getD a b (0:Int)
def gK (a:Nat×Af) (b:Af) (c:Af):=Ap (bif Nat.ble (a.2.length*1) a.2.length then B1 1 a.2.length (Aq b)else false) (Aa/\a.2.length=c.length/\Ar λ(r:Nat)=>AD r a.2.length->(Aa/\DG b r=DG c r)/\True)
@[reducible] def lS:Ac->Nat×Af->Af->Prop:=λ(L:Ac) (a:Nat×Af) (r:Af)=>Oj L r/\gK a a.2 r
@[reducible] def lT:Ac->Prop:=λ(L:Ac)=>HA L/\Cm/\True
@[reducible] def lU:Ac->Nat×Af->Prop:=λ(L:Ac) (a:Nat×Af)=>HA L/\Cm/\(Fj a.1)/\True
def CT (a:Ac):=toNat (Int.ofNat a.length)
@[reducible] def lV:Ac->Nat×Af->Prop:=λ(L:Ac) (a:Nat×Af)=>(Ae (some 1)/\CT L=a.2.length/\Aa)/\(Cr a.1)/\lT L
@[reducible] def lW:Ac->Nat×Af->Prop:=λ(L:Ac) (a:Nat×Af)=>(∃(y:Nat×Nat×Af),ZN L a y/\Aa/\((Ae (some 1)/\a.2.length=y.2.2.length/\Aa)/\(Cr y.2.1)/\lU L a)/\(Aa/\Aa/\Aa/\Aa/\a.2.length=y.2.2.length/\Ar λ(i:Nat)=>B7 i a.2.length->(Aa/\DG a.2 i=DG y.2.2 i)/\True)/\Ed L)/\∀(x:Nat×Nat×Af),ZN L a x->C6 a.1 L (Ag (Dh x.2.1 (Int.ofNat (Ec L a.1))) (C6 a.1 L (Ap (D8 x.2.1 (Ec L a.1)) (Ap (AO (Jv L a.1 x.2.1) x.2.2.length) (Ap (bif Nat.ble (0+List.length [QM a.1]) (List.length (Aq x.2.2 (toNat (Jv L a.1 x.2.1))))then Nat.ble (toNat (Jv L a.1 x.2.1)*1+0+List.length [QM a.1]) x.2.2.length else false) (Bj x.2.1 (∃(r:Nat×Nat×Af),ZN L a r/\Nat.le (Nat.succ (Cl L r.1-r.2.1)) (Cl L x.1-x.2.1)/\Aa/\((Ae (some 1)/\x.2.2.length=r.2.2.length/\Aa)/\(Cb x.2.1 r.2.1)/\lU L a)/\(Aa/\Aa/\Aa/\Aa/\x.2.2.length=r.2.2.length/\Ar λ(i:Nat)=>B7 i x.2.2.length->AZ [(0,0),(1,1)] (Aq r.2.2 i) (E4 (Aq x.2.2) (toNat (Jv L a.1 x.2.1)) 0 [QM a.1] i))/\Ed L)))))) (Bj a.1 (∃(r:Nat×Af),UI L r.1 0 r.2/\Dx L r.1 a.1/\Aa/\((Ae (some 1)/\x.2.2.length=r.2.length/\Aa)/\(Cb a.1 r.1)/\lT L)/\(Aa/\Aa/\Aa/\Aa/\x.2.2.length=r.2.length/\Ar λ(i:Nat)=>B7 i x.2.2.length->(Aa/\DG x.2.2 i=DG r.2 i)/\True)/\Ed L)))
def Vq (a:Ac):=Ap (decide ((0:Int)<=Int.ofNat a.length/\Int.ofNat a.length<=Int.ofNat a.length/\Int.ofNat a.length<=9223372036854775807/\(↑8:Int)*Int.ofNat a.length<=281474976710656))
theorem Apb:∀(L:Ac),HZ L->Good L->Vq L (Ag (AP (0:Int) (Int.ofNat (CT L))) (Ap (AO (0:Int) (CT L)) (Ap (Nat.ble (0*1+0+1) (CT L*1)) ((∃(r:Nat×Af),UI L r.1 0 r.2/\Aa/\lV L r/\(Aa/\Aa/\Aa/\Aa/\CT L*1=r.2.length/\Ar λ(i:Nat)=>B7 i (CT L*1)->AZ [(0,0),(1,1)] (Aq r.2 i) (E4 (λ(x:Nat)=>[AV.int .i64 (0:Int)]) 0 0 [AV.int .i64 (Int.negSucc 0)] i))/\Ed L)/\∀(x:Nat×Af),UI L x.1 0 x.2->Ag (Dh x.1 (CX L)) (lW L x) (∃(z:Af),lS L x z)))) ((∃(r:Nat×Af),UI L r.1 0 r.2/\Aa/\lV L r/\(Aa/\Aa/\Aa/\Aa/\CT L*1=r.2.length/\Ar λ(i:Nat)=>B7 i (CT L*1)->(Aa/\(0:Int)=DG r.2 i)/\True)/\Ed L)/\∀(x:Nat×Af),UI L x.1 0 x.2->Ag (Dh x.1 (CX L)) (lW L x) (∃(z:Af),lS L x z)))
:=by
 delta CT B7 DG CX Vq Ed Dh HZ;intro L hL Z;have hL:L.length<=1000000:=hL;have ah:=Z.pos;simp only[Bq,ZN,lS,Iy,Rd,Pu,lT,lU,lV,lW,AD,Bc,Cl,HU,QM,YC,DG,gK,Hg,Dl,Cm,HA,Fj,CT,Cr,CA,Bj,B8,Ec,B7,Dx,Cb,C6,Jv,Ed,Dh,D8];refine Am (BF (by omega)) (Ao (λ_=>Am (AK.2 (by omega)) (Am (by rw[Nat.ble_eq];omega) ?_)) λh=>absurd (Bl.1 h) (by omega));refine⟨⟨(0,(-1:Int)::List.replicate (L.length-1) 0),⟨BL _,by simp;omega,rfl,λx J aa=>?_,λx J aa ha=>?_⟩,⟨by simp;omega,rfl⟩,by simp;omega,⟨λj W=>?_⟩⟩,λx J=>?_⟩
 ·obtain⟨y,rfl⟩:∃y,x=y+1:=⟨x-1,by omega⟩;have:y<L.length-1:=by omega
  simp[Bt,List.getElem?_replicate,this]
 ·rcases ha with⟨j,W,_⟩|⟨q,hq,_⟩<;>omega
 ·cases j with
  |zero=>exact⟨⟨rfl,rfl⟩,trivial⟩
  |succ j=>
   have W:j+1<L.length:=W;have ae:j<L.length-1:=by omega
   have e:Aq ((-1:Int)::List.replicate (L.length-1) 0) (j+1)=[AV.int .i64 0]:=by simp[Aq,Bt,List.getElem?_replicate,ae]
   rw[e];exact⟨⟨rfl,rfl⟩,trivial⟩
 ·obtain⟨i,U⟩:=x;have S:=J.len;have ad:=J.le;simp only at S ad⊢;refine Ao (λh=>?_) λh=>?_
  ·rw[Bd]at h;have hi:i<L.length:=by omega
   have K:AO (i:Int) L.length=true:=AK.2 (by omega);refine⟨⟨(i,0,U),⟨λb hb=>hb.symm,hi,BL _,J⟩,⟨rfl,rfl⟩,rfl,⟨λ_ _=>rfl⟩⟩,λy hy=>?_⟩;obtain⟨i',k,V⟩:=y;obtain⟨e1,af,hk,Y⟩:=hy;have e1:=e1 _ rfl;simp only at e1 af hk Y⊢;obtain rfl:i=i':=by omega
   have aj:=Y.len;refine Am K (Ao (λh2=>?_) λh2=>Am (AU.2 (by omega)) ⟨(i+1,V),Y.next hi (by rw[Bl]at h2;omega),by simp only;omega,⟨rfl,by simp⟩,rfl,⟨λ_ _=>rfl⟩⟩);rw[Bd]at h2;have B:k<(L.getD i Ab.none).kids.length:=by omega
   have R:(L.getD i Ab.none).kids.getD k 0∈(L.getD i Ab.none).kids:=G6 B;obtain⟨g1,g2⟩:=Z.Gn i hi _ R;have ab:=Y.store hi B g1 g2;have ag:((L.getD i Ab.none).kids.getD k 0).toNat<V.length:=by omega
   have ai:k<=1000000:=by have:=Z.Mf i hi;omega
   refine Am K (Am (AK.2 (by omega)) (Am (AK.2 (by omega)) (Am ?_ (Am (AU.2 (by omega)) ⟨(i,k+1,V.set ((L.getD i Ab.none).kids.getD k 0).toNat i),⟨λb hb=>hb.symm,hi,B,ab⟩,by simp only;omega,⟨by simp,by simp⟩,by simp,⟨λj W=>?_⟩⟩))))
   ·rw[B4,Nat.ble_eq,Nat.ble_eq];exact⟨AH _,by show((L.getD i Ab.none).kids.getD k 0).toNat+0+1<=V.length;omega⟩
   ·rw[Afk _ _ _ ag];exact⟨⟨rfl,rfl⟩,trivial⟩
  ·rw[Bl]at h;exact⟨U,J.done (by omega) Z,Am (DL λ_ _=>rfl) ⟨rfl,⟨λ_ _=>rfl⟩⟩⟩
theorem Apa:∀(L:Ac),L.length<=1000000->Good L->(A3 (zc L) 60).call 15 [tree L] .leaf 0 (L0 (λU:Af=>Oj L U) λU=>.vec 1 U.length (Aq U)):=Eq.mpr (by kernel_rfl) Apb
structure Wc (L:List Ab) (i r:Nat):Prop where
 Gn:∀c∈(L.getD i Ab.none).kids,(i:Int)<c/\c<r
 head:JQ (L.getD i Ab.none)=true
 kinds:CF (BT (L.getD i Ab.none).kind) ((L.getD i Ab.none).kids.map (DM L))=true
 Mf:(L.getD i Ab.none).kids.length<=L.length
structure Seg (L:List Ab) (a r:Nat):Prop where
 node:∀i,a<=i->i<r->Wc L i r
 Ru:∀x,a<x->x<r->∃i,i<x/\(x:Int)∈(L.getD i Ab.none).kids
structure xd (L:List Ab) (a i next:Nat) (l:List Int):Prop where
 il:i<=(L.getD a Ab.none).kids.length
 lo:a+1+i<=next
 hi:next<=L.length
 ks:∀c∈(L.getD a Ab.none).kids.take i,(a:Int)<c/\c<next
 lk:l=((L.getD a Ab.none).kids.take i).map (DM L)
 node:∀j,a+1<=j->j<next->Wc L j next
 Ru:∀x,a<x->x<next->∃j,j<x/\(x:Int)∈(L.getD j Ab.none).kids
theorem Wc.mono {L:Ac} {i r x:Nat} (h:Wc L i r) (y:r<=x):Wc L i x:=⟨λc hc=>⟨(h.Gn c hc).1,by have:=(h.Gn c hc).2;omega⟩,h.head,h.kinds,h.Mf⟩
theorem Aio (L:Ac):∀(d:Nat),(∀a nest,L.length-a<=d->Dr L a nest≠0->Seg L a (Dr L a nest)):=by
 intro d
 induction d with
 |zero=>intro a nest h S;exact absurd (Ux (.inl (by omega))) S
 |succ d ih=>
  have R:∀(a:Nat) (nest:Int),L.length-a<=d+1->a<L.length->∀(n i next:Nat) (l:Af) (r:Nat×Af),(L.getD a Ab.none).kids.length-i<=n->xd L a i next l->G7 L a nest ((L.getD a Ab.none).kids.drop i) i next l=some r->
    xd L a (L.getD a Ab.none).kids.length r.1 r.2:=by
   intro a nest ha an n
   induction n with
   |zero=>
    intro i next l r hn J y
    have:=J.il;obtain rfl:i=(L.getD a Ab.none).kids.length:=by omega
    rw[List.drop_length,dU]at y;injection y with y;subst y;exact J
   |succ n ab=>
    intro i next l r hn J y
    rcases D9 i (L.getD a Ab.none).kids.length with B|ak
    ·rw[PI _ _ B]at y;by_cases hb:(L.getD a Ab.none).kids.getD i 0≠(next:Int)\/L.length<=next\/next<=a
     ·rw[dT hb]at y;cases y
     ·by_cases hz:Dr L next (nest+Fx L (L.getD a Ab.none) i next)=0
      ·rw[sj hz]at y;cases y
      ·rw[si hb hz]at y;have ae:=J.lo;have hg:=Aa5 hz;have U:=ih next _ (by omega) hz
       have V:(L.getD a Ab.none).kids.getD i 0=(next:Int):=by
        by_cases e:(L.getD a Ab.none).kids.getD i 0=(next:Int)
        ·exact e
        ·exact absurd (.inl e) hb
       have aa:(next:Int)∈(L.getD a Ab.none).kids:=V▸G6 B;have Y:(L.getD a Ab.none).kids.take (i+1)=(L.getD a Ab.none).kids.take i++[(next:Int)]:=by rw[List.take_succ_eq_append_getElem B];rw[Bt,Ce B]at V;exact congrArg (λz=>(L.getD a Ab.none).kids.take i++[z]) V
       refine ab (i+1) _ _ r (by omega) ⟨B,by omega,hg.2,λc hc=>?_,?_,λj hj af=>?_,λx hx ad=>?_⟩ y
       ·rw[Y]at hc;rcases List.mem_append.1 hc with hc|hc
        ·have:=J.ks c hc;omega
        ·simp at hc;omega
       ·rw[Y,List.map_append,<-J.lk];simp[DM]
       ·rcases D9 j next with K|K
        ·exact(J.node j hj K).mono (by omega)
        ·exact U.node j K af
       ·rcases D9 x next with K|K
        ·exact J.Ru x hx K
        ·rcases D9 next x with h6|h6
         ·exact U.Ru x h6 ad
         ·obtain rfl:x=next:=by omega
          exact⟨a,hx,aa⟩
    ·have:=J.il;obtain rfl:i=(L.getD a Ab.none).kids.length:=by omega
     rw[List.drop_length,dU]at y;injection y with y;subst y;exact J
  intro a nest ha S;by_cases h2:L.length<=a\/64<nest
  ·exact absurd (Ux h2) S
  ·by_cases y:JQ (L.getD a Ab.none)=false
   ·exact absurd (s9 y) S
   ·have y:JQ (L.getD a Ab.none)=true:=by simpa using y
    cases V:G7 L a nest (L.getD a Ab.none).kids 0 (a+1) []with
    |none=>exact absurd (sa V) S
    |some r=>
     have W:=R a nest ha (by omega) _ 0 (a+1) [] r (AH _) ⟨BL _,AH _,by omega,λc hc=>by simp at hc,by simp,λj hj ai=>by omega,λx hx ah=>by omega⟩ (by rw[List.drop_zero];exact V);rw[se h2 y V]at S⊢;split at S
     ·rename_i h4;rw[As h4];have R:=W.ks;have Z:=W.lk;have ae:=W.lo;have aj:=W.hi;rw[List.take_length]at R Z;refine⟨λi hi ag=>?_,W.Ru⟩;rcases D9 a i with K|K
      ·exact W.node i K ag
      ·obtain rfl:i=a:=by omega
       exact⟨R,y,by rw[<-Z];exact h4,by omega⟩
     ·exact absurd rfl S
theorem Ajt {L:Ac} (h:OC L=true):Good L:=by unfold OC at h;simp only[B4,Bn]at h;obtain⟨K,J,B⟩:=h;have r:=Aio L _ 0 0 (AH _) (by omega);rw[B]at r;exact⟨K,J,λi hi c hc=>(r.node i (BL _) hi).Gn c hc,λi hi=>(r.node i (BL _) hi).head,λi hi=>(r.node i (BL _) hi).kinds,λi hi=>(r.node i (BL _) hi).Mf,λx z y=>r.Ru x z y⟩
theorem AkD:BC Tryz.prog 13 pZ:=by
 refine Cw (gl:=[]) (ng:=0) AS λH args ct r=>?_;unfold pZ at r;split at r
 ·rename_i n f;injection r with r;subst r;refine⟨AS,_,_,rfl,?_⟩;rintro⟨L,rfl,rfl,x⟩;rw[F2,DY];exact⟨⟨FK L,trivial⟩,_,60,rfl,Cc,BD (Akt _) Bk,Anu L x⟩
 ·cases r
theorem Adb {g:FuncId} {f:Int->Bool} (h:∀z:Int,(A3 G3 60).call g [.int .i64 z] .leaf 0 (BS Tryz.prog false (.bool (f z)))):BC Tryz.prog g (Ml f):=by
 refine W6 (gl:=[]) (ng:=0) AS λH args ct r=>?_;unfold Ml at r;split at r
 ·rename_i z;injection r with r;subst r;exact⟨AS,⟨⟨rfl,rfl⟩,trivial⟩,_,_,rfl,λ_=>⟨G3,60,rfl,Cc,Bk,by rw[F2];exact h z⟩⟩
 ·cases r
theorem eb:BC Tryz.prog 37 (Ml Eh):=Adb An9
theorem Ac2:BC Tryz.prog 34 (Ml Ky):=Adb AnL
theorem tv:BC Tryz.prog 14 W1:=by
 refine Cw (gl:=[]) (ng:=0) AS λH args ct r=>?_;unfold W1 at r;split at r
 ·rename_i n f k a;injection r with r;subst r;refine⟨AS,_,_,rfl,?_⟩;rintro⟨L,rfl,rfl,x,z,y⟩;obtain⟨b,rfl⟩:∃b:Nat,a=b:=⟨a.toNat,by omega⟩;rw[Et,DY];exact⟨⟨FK L,⟨rfl,rfl⟩,⟨rfl,rfl⟩,trivial⟩,_,60,rfl,Cc,Bk,AmH L k b x (by omega)⟩
 ·cases r
theorem AcX:JG Tryz.prog 35 gf:=by
 refine MI (gl:=[]) (ng:=0) AS λH args z r x=>?_;unfold gf at r;split at r
 ·rename_i n f s;injection r with r;subst r;obtain⟨L,rfl,rfl,y⟩:=x;exact⟨AS,⟨FK L,rfl,trivial⟩,_,60,rfl,Cc,BD Ac2 Bk,AmK L s y⟩
 ·cases r
theorem QR {L M:Ac} (x:L.length=M.length) (r:AE L=AE M):L=M:=by rw[<-DY L,<-DY M,x,r]
theorem Alj:JG Tryz.prog 15 vY:=by
 refine MI (gl:=[]) (ng:=0) AS λH args K r x=>?_;unfold vY at r;split at r
 ·rename_i n f;injection r with r;subst r;obtain⟨L,rfl,rfl,y,z⟩:=x;refine⟨AS,⟨FK L,trivial⟩,zc L,60,rfl,Cc,Bk,?_⟩;have:=Apa L y z;have e:(λU:Af=>Oj L U)=λU=>∀M:Ac,L.length=M.length->AE L=AE M->Oj M U:=by funext U;exact propext ⟨λh M J B=>QR J B▸h,λh=>h L rfl rfl⟩
  rw[e]at this;exact this
 ·cases r
end Go.Proofs.YthallodoidghoaaGreat
end
end
