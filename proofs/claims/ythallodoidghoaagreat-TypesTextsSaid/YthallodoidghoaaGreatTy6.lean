/- Laid by program out of its parts: TyU, TyV, TyW, TyX. -/
import Derived.Test.YthallodoidghoaaGreatTy5
noncomputable section
open List(getD)
set_option linter.unusedVariables false
set_option linter.unusedSimpArgs false
section
set_option maxRecDepth 100000
set_option maxHeartbeats 2000000
open Go Go.Ev
namespace Go.Proofs.YthallodoidghoaaGreat
def Nm:List (Int×AV):=[(31,vI [5,1]),(34,vI [1]),(35,vI [5]),(15,vI [2]),(19,vI [2,3]),(20,vI [2,4]),(16,vI [3]),(17,vI [4]),(18,vI [1]),(23,vI [1]),(24,vI [1]),(32,vI [1,1])]
def Yp:=(Aa/\1=1/\Ar λ(r:Nat)=>AD r 1->(Aa/\(1:Int)=getD [(1:Int)] r (0:Int))/\True)
def Ys (a:Al):=wg (λ(x:Al)=>Prop) a (λ(r:Unit)=>True)
def Yv:=Afr (λ(r:AV)=>Prop)
theorem AnO:(Ae (AV.int .i64 (31:Int))/\Ae (AV.int .i64 (34:Int))/\Ae (AV.int .i64 (35:Int))/\Ae (AV.int .i64 (15:Int))/\Ae (AV.int .i64 (19:Int))/\Ae (AV.int .i64 (20:Int))/\Ae (AV.int .i64 (16:Int))/\Ae (AV.int .i64 (17:Int))/\Ae (AV.int .i64 (18:Int))/\Ae (AV.int .i64 (23:Int))/\Ae (AV.int .i64 (24:Int))/\Ae (AV.int .i64 (32:Int))/\True)/\(Aa/\2=2/\Ar λ(i:Nat)=>AD i 2->List.rec False (λ(head:AV) (r:Al) (y:Prop)=>(Yv head (λ(z:IntKind) (n:Int)=>Nat.beq 3 (Md z)=true/\n=getD [(5:Int),(1:Int)] i (0:Int)) λ(x:AV)=>False)/\Ys r λ(x:Al)=>False) (List.take 1 (List.drop (i*1) [AV.int .i64 (5:Int),AV.int .i64 (1:Int)])))/\Yp/\(Aa/\1=1/\Ar λ(i:Nat)=>AD i 1->(Aa/\(5:Int)=getD [(5:Int)] i (0:Int))/\True)/\(Aa/\1=1/\Ar λ(i:Nat)=>AD i 1->(Aa/\(2:Int)=getD [(2:Int)] i (0:Int))/\True)/\(Aa/\2=2/\Ar λ(i:Nat)=>AD i 2->List.rec False (λ(head:AV) (r:Al) (y:Prop)=>(Yv head (λ(z:IntKind) (n:Int)=>Nat.beq 3 (Md z)=true/\n=getD [(2:Int),(3:Int)] i (0:Int)) λ(x:AV)=>False)/\Ys r λ(x:Al)=>False) (List.take 1 (List.drop (i*1) [AV.int .i64 (2:Int),AV.int .i64 (3:Int)])))/\(Aa/\2=2/\Ar λ(i:Nat)=>AD i 2->List.rec False (λ(head:AV) (r:Al) (y:Prop)=>(Yv head (λ(z:IntKind) (n:Int)=>Nat.beq 3 (Md z)=true/\n=getD [(2:Int),(4:Int)] i (0:Int)) λ(x:AV)=>False)/\Ys r λ(x:Al)=>False) (List.take 1 (List.drop (i*1) [AV.int .i64 (2:Int),AV.int .i64 (4:Int)])))/\(Aa/\1=1/\Ar λ(i:Nat)=>AD i 1->(Aa/\(3:Int)=getD [(3:Int)] i (0:Int))/\True)/\(Aa/\1=1/\Ar λ(i:Nat)=>AD i 1->(Aa/\(4:Int)=getD [(4:Int)] i (0:Int))/\True)/\Yp/\Yp/\Yp/\(Aa/\2=2/\Ar λ(i:Nat)=>AD i 2->List.rec False (λ(head:AV) (r:Al) (y:Prop)=>(Yv head (λ(z:IntKind) (n:Int)=>Nat.beq 3 (Md z)=true/\n=getD [(1:Int),(1:Int)] i (0:Int)) λ(x:AV)=>False)/\Ys r λ(x:Al)=>False) (List.take 1 (List.drop (i*1) [AV.int .i64 (1:Int),AV.int .i64 (1:Int)])))/\True
:=by
 delta AD Yp Ys Yv
 repeat' with_reducible first
  |exact trivial
  |exact rfl
  |refine And.intro ?_ ?_
  |refine Ar.mk λi hi=>?_
 all_goals (rcases i with _|_|i)
 all_goals first
  |exact⟨⟨rfl,rfl⟩,trivial⟩
  |(have B:0+1+1<=1:=hi;omega)
  |(have B:i+1+1+1<=1:=hi;omega)
  |(have B:i+1+1+1<=2:=hi;omega)
  |exact rfl
  |exact⟨rfl,trivial⟩
  |trace_state
theorem AnN:(A3 K6 100).call 19 [] .leaf 0 (xY Tryz.prog .i64 Nm):=Eq.mpr (by kernel_rfl) AnO
def US:List (Int×Af):=[(31,[5,1]),(34,[1]),(35,[5]),(15,[2]),(19,[2,3]),(20,[2,4]),(16,[3]),(17,[4]),(18,[1]),(23,[1]),(24,[1]),(32,[1,1])]
def Cu (k:Int):Af:=(EK US k).getD []
def JY:Cn->Af
 |.int n=>Cu n
 |.str _=>[]
def Fe:Cn->AV:=λk=>vI (AF (JY k))
def Gp:Cn->Bool:=λk=>Ay (JP .i64 Nm k)
def p8:Tr Ah->Al->Option Ct:=λ_ args=>match args with
 | []=>some (.Bb True (.ret (.Fb Gp Fe .AW)))
 |_=>none
theorem tU {α r:Type} (f:α->r) (n:Int):∀kv:List (Int×α),EK (kv.map λp=>(p.1,f p.2)) n=(EK kv n).map f
 | []=>rfl
 |p::kv=>by
  rw[List.map_cons,EK,EK];split
  ·rfl
  ·exact tU f n kv
theorem AcG:Nm=US.map λp=>(p.1,vI p.2):=rfl
theorem AjZ {n:Int} {a:AV} (h:EK Nm n=some a):vI (Cu n)=a:=by
 rw[AcG,tU]at h;unfold Cu;cases e:EK US n with
 |none=>rw[e]at h;cases h
 |some l=>rw[e]at h;injection h
theorem AcI {n:Int} (h:EK Nm n=none):Cu n=[]:=by
 rw[AcG,tU]at h;unfold Cu;cases e:EK US n with
 |none=>rfl
 |some l=>rw[e]at h;cases h
theorem AjY {n:Int} (h:KV<=n):EK Nm n=none:=by
 have r:(100:Int)<KV:=by decide
 unfold Nm;simp only[EK]
 repeat' rw[An (by omega)]
theorem tj:Gp=JP .i64 Nm:=funext λk=>F2 _
theorem UT (k:Cn):Fe k=vI (JY k):=by unfold Fe;rw[Et]
theorem AkI:BC Tryz.prog 19 p8:=by
 refine Ahq (call:=(A3 K6 100).call) (PD Cc Bk 100) (ik:=.i64) (kv:=Nm) (val:=Fe) (z:=.AW) (gl:=[]) (ng:=0) ?_ (λn a h=>by rw[UT];exact AjZ h) (λn h=>?_) (λl=>?_) (λn h=>AjY h) (λk=>?_) (λH args ct h=>?_) AnN
 ·exact⟨_,λρ=>.AW⟩
 ·exact .inr ⟨rfl,1,Aq (Cu n),by rw[UT];show vI (Cu n)=_;rw[AcI h];rfl⟩
 ·exact .inr ⟨rfl,1,Aq [],by rw[UT];rfl⟩
 ·rw[UT];exact⟨rfl,rfl,⟨λ_ _=>FJ [] _ _⟩⟩
 ·unfold p8 at h;split at h
  ·injection h with h;exact⟨rfl,AS,by rw[<-h,tj]⟩
  ·cases h
def RZ:AV:=.Fb Gp Fe .AW
def Bx (L:Ac) (x:LN) (X:Af):Al:=[.vec 6 L.length (AE L),.vec 2 x.M.length (rM x.M),vI x.O,vI x.Lo,vI x.C,vI x.G,vI x.Co,vI x.E,.vec 4 x.Fs.length (Fl x.Fs),.int .i64 x.main,vI X,RZ]
def cT (cs:Al):Af:=match cs with
 | [_,_,_,_,_,_,_,_,_,_,.vec 1 n f,_]=>Dy n f
 |_=>[]
def Du:Int:=1073741824
def G5 (a b:Int):Bool:=decide (a=Du)||decide (b=Du)||Gl a b
def K0 (L:Ac) (M:List (Int×Int)) (G:Af) (k n:Int):Int:=if k=1 then CG L M n else if k=2 then CG L M (G.getD n.toNat 0)else if k=3 then 2 else 0
structure CN (L:List Ab) (x:LN) (X:List Int):Prop where
 CO:Good L
 m:BM L x.M
 c:Hm L x.C
 g:GB L x
 xl:X.length=L.length
 b:∀j,-1000000000<=X.getD j 0/\X.getD j 0<=2000000000
def Bo (X S:Af) (i:Int):Int:=X.getD (S.getD i.toNat 0).toNat 0
def JB (M:List (Int×Int)) (S:Af) (i:Int):Bool:=decide ((S.length:Int)<=i)||Hv M (S.getD i.toNat 0).toNat
structure C0 (L:List Ab) (S:List Int):Prop where
 len:S.length<=L.length
 al:∀c∈S,0<=c/\c<L.length
def W4:Tr Ah->Al->Option Ct:=λ_ args=>match args with
 | [.pv cs,.agg [.int .i64 k,.bs s,.int .i64 n,.int .i64 a,.int .i64 b,.vec 1 m f],.int .i64 i]=>some (.Bb (∃(L:Ac) (x:LN) (X S:Af),cs=Bx L x X/\CN L x X/\m=S.length/\f=Aq S/\C0 L S/\0<=i/\i<S.length) (.ret (.int .i64 (AF (Bo (cT cs) (Dy m f) i)))))
 |_=>none
def pz:Tr Ah->Al->Option Ct:=λ_ args=>match args with
 | [.pv cs,.agg [.int .i64 k,.bs s,.int .i64 n,.int .i64 a,.int .i64 b,.vec 1 m f],.int .i64 i]=>some (.Bb (∃(L:Ac) (x:LN) (X S:Af),cs=Bx L x X/\CN L x X/\m=S.length/\f=Aq S/\C0 L S/\0<=i) (.ret (.bool (Ay (JB (cM cs) (Dy m f) i)))))
 |_=>none
def pR:Tr Ah->Al->Option Ct:=λ_ args=>match args with
 | [.pv cs,.agg [.int .i64 k,.bs s,.int .i64 n,.int .i64 a,.int .i64 b,.vec 1 m f],.int .i64 i,.int .i64 j]=>some (.Bb (∃(L:Ac) (x:LN) (X S:Af),cs=Bx L x X/\CN L x X/\m=S.length/\f=Aq S/\C0 L S/\0<=i/\i<S.length/\0<=j/\j<S.length) (.ret (.bool (Ay (G5 (Bo (cT cs) (Dy m f) i) (Bo (cT cs) (Dy m f) j))))))
 |_=>none
def rG:Tr Ah->Al->Option Ct:=λ_ args=>match args with
 | [.pv cs,.agg [.int .i64 k,.int .i64 n]]=>some (.Bb (∃(L:Ac) (x:LN) (X:Af),cs=Bx L x X/\CN L x X/\0<=n/\(k=2->n<x.G.length)) (.ret (.int .i64 (AF (K0 (cL cs) (cM cs) (cG cs) k n)))))
 |_=>none
def IE (X S:Af):Bool:=S.any λc=>decide (X.getD c.toNat 0=Du)
def XH (cs:Al) (S:Af):Bool:=IE (cT cs) S
def pP:Tr Ah->Al->Option Ct:=λ_ args=>match args with
 | [.vec 1 m f,.fn (.func 25) [] [.pv [.pv cs]]]=>some (.Bb (∃(L:Ac) (x:LN) (X S:Af),cs=Bx L x X/\CN L x X/\m=S.length/\f=Aq S/\C0 L S) (.ret (.bool (Ay (XH cs (Dy m f))))))
 |_=>none
structure Y7 (X S:List Int) (i:Nat):Prop where
 le:i<=S.length
 al:∀k,k<i->X.getD (S.getD k 0).toNat 0≠Du
def SCf (X S:Af):B0:=thin Nat [0,1,7] (λi=>[(8,.int .i64 i)]) (λ_ i=>Y7 X S i) λi=>S.length-i
def yy (X S:Af):Ctx:={P:=Tryz.prog,tb:=[],lp:=λf r=>cond (Nat.beq f 49) (cond (Nat.beq r 2) (some (SCf X S)) none) none,cut:=λ_ _=>none}
def zD:Ctx:={P:=Tryz.prog,tb:=[(65,Rz),(48,W4)],lp:=λ_ _=>none,cut:=λ_ _=>none}
def zR:Ctx:={P:=Tryz.prog,tb:=[(23,L8)],lp:=λ_ _=>none,cut:=λ_ _=>none}
theorem AcH (k:Cn) (h:Gp k=false):JY k=[]:=by
 rw[tj]at h;cases k with
 |str l=>rfl
 |int n=>
  refine AcI ?_;cases e:EK Nm n with
  |none=>rfl
  |some a=>simp[JP,e]at h
theorem EM:∀k:Cn,Gp k=false->Fe k=AV.AW\/∃e f,Fe k=AV.vec e 0 f:=λk r=>.inr ⟨1,Aq [],by rw[UT,AcH k r];rfl⟩
theorem AqR:Bi [] RZ RZ:=⟨λ_=>rfl,λk=>⟨rfl,rfl,⟨λ_ _=>FJ [] _ _⟩⟩,λk r=>.inr ⟨rfl,1,Aq [],by rw[UT,AcH k r];rfl⟩⟩
theorem Te (L:Ac) (x:LN) (X:Af):Bi [] (.pv (Bx L x X)) (.pv (Bx L x X)):=⟨⟨rfl,rfl,⟨λ_ _=>Q4 _⟩⟩,⟨rfl,rfl,⟨λ_ _=>iq [] _⟩⟩,⟨rfl,rfl,⟨λ_ _=>FJ [] _ _⟩⟩,⟨rfl,rfl,⟨λ_ _=>FJ [] _ _⟩⟩,⟨rfl,rfl,⟨λ_ _=>FJ [] _ _⟩⟩,⟨rfl,rfl,⟨λ_ _=>FJ [] _ _⟩⟩,⟨rfl,rfl,⟨λ_ _=>FJ [] _ _⟩⟩,⟨rfl,rfl,⟨λ_ _=>FJ [] _ _⟩⟩,⟨rfl,rfl,⟨λ_ _=>⟨⟨rfl,rfl⟩,⟨rfl,rfl⟩,rfl,⟨rfl,rfl,⟨λ_ _=>FJ [] _ _⟩⟩,trivial⟩⟩⟩,⟨rfl,rfl⟩,⟨rfl,rfl,⟨λ_ _=>FJ [] _ _⟩⟩,AqR,trivial⟩
theorem WR (L:Ac) (x:LN) (X:Af):cL (Bx L x X)=L:=DY L
theorem Rs (L:Ac) (x:LN) (X:Af):cM (Bx L x X)=x.M:=HB x.M
theorem bX (L:Ac) (x:LN) (X:Af):cC (Bx L x X)=x.C:=EC x.C
theorem cD (L:Ac) (x:LN) (X:Af):cG (Bx L x X)=x.G:=EC x.G
theorem On (L:Ac) (x:LN) (X:Af):cT (Bx L x X)=X:=EC X
theorem tA {L:Ac} {S:Af} (h:C0 L S) {i:Nat} (hi:i<S.length):0<=S.getD i 0/\S.getD i 0<L.length:=h.al _ (G6 hi)
theorem Am2:∀(a b:Int),Ag (Au a b) (true=Ay (Gl a b)) (Ag (Au a (0:Int)) ((!Au b (1:Int))=Ay (Gl a b)) (false=Ay (Gl a b)))
:=by
 intro a b;simp only[Bq];unfold Gl;refine Ao (λh=>?_) λh=>Ao (λg=>?_) λg=>?_
 ·rw[Ba]at h;subst h;by_cases r:a=0<;>simp[r]
 ·rw[Ba]at g;subst g;rw[As rfl,DD];by_cases hb:b=1<;>simp[hb]
 ·rw[BB]at h g;rw[An g];simp[h]
theorem Am1:∀(a b:Int),(A3 K6 60).call 65 [.int .i64 a,.int .i64 b] .leaf 0 (BS Tryz.prog false (.bool (Ay (Gl a b)))):=Eq.mpr (by kernel_rfl) Am2
theorem AoN:∀(k:Int),gZ k
:=by
 delta gZ;intro k;unfold B9;refine Ao (λh=>?_) λh=>?_
 ·rw[BZ,Bl]at h;by_cases r:36<k
  ·rw[Bd.2 r];exact(E7 (by omega)).symm
  ·rw[Bl.2 (by omega)];exact(BF (by omega)).symm
 ·rw[BI,Bd]at h;exact(E7 (by omega)).symm
theorem AoK:∀(k:Int),(A3 G3 60).call 22 [.int .i64 k] .leaf 0 (BS Tryz.prog false (.bool (B9 k))):=Eq.mpr (by kernel_rfl) AoN
theorem Anh:∀(L:Ac) (x:LN) (X S:Af) (k:Int) (s:Aj) (n a b i:Int),CN L x X->C0 L S->Gy i->Int.NonNeg ((IV S)-(i+1))->H3 i S (Ap (AO (FD S i) X.length) ((CI/\True)/\Aa/\getD X (Int.toNat (FD S i)) (0:Int)=AF (Bo X S i)))
:=by delta CI FD H3 Gy IV;intro L x X S k s n a b i B z y r;simp only[Bq];have y:0<=i:=y;have r:i<S.length:=r;have J:=B.xl;have K:=tA z (i:=i.toNat) (by omega);exact Am (AK.2 (by omega)) (Am (AK.2 (by omega)) rfl)
theorem Ang:∀(L:Ac) (x:LN) (X S:Af) (k:Int) (s:Aj) (n a b i:Int),CN L x X->C0 L S->0<=i->i<S.length->(A3 K6 60).call 48 [.pv (Bx L x X),.agg [.int .i64 k,.bs s,.int .i64 n,.int .i64 a,.int .i64 b,.vec 1 S.length (Aq S)],.int .i64 i] .leaf 0 (BS Tryz.prog false (.int .i64 (AF (Bo X S i)))):=Eq.mpr (by kernel_rfl) Anh
theorem Aov:∀(L:Ac) (x:LN) (X S:Af) (k:Int) (s:Aj) (n a b i:Int),CN L x X->C0 L S->Gy i->Ag (!AP i (Io S)) ((DV/\True)/\true=Ay (JB x.M S i)) (H3 i S (Ap (AO (FD S i) x.M.length) ((Js/\True)/\(!Au (Prod.fst (getD x.M (Int.toNat (FD S i)) C7)) (3:Int))=Ay (JB x.M S i))))
:=by
 delta DV Js C7 FD H3 Gy Io;intro L x X S k s n a b i z y r;simp only[Bq];have r:0<=i:=r;have B:=z.m.Mi;unfold JB Hv;refine Ao (λh=>?_) λh=>?_
 ·rw[BZ,Bl]at h;rw[BF h];rfl
 ·rw[BI,Bd]at h;have J:=tA y (i:=i.toNat) (by omega);refine Am (AK.2 (by omega)) (Am (AK.2 (by omega)) ?_);rw[E7 (by omega),Bool.false_or,DD];generalize(x.M.getD (S.getD i.toNat 0).toNat (0,0)).1=u;by_cases hb:u=3<;>simp[hb]
theorem Aou:∀(L:Ac) (x:LN) (X S:Af) (k:Int) (s:Aj) (n a b i:Int),CN L x X->C0 L S->0<=i->(A3 K6 60).call 46 [.pv (Bx L x X),.agg [.int .i64 k,.bs s,.int .i64 n,.int .i64 a,.int .i64 b,.vec 1 S.length (Aq S)],.int .i64 i] .leaf 0 (BS Tryz.prog false (.bool (Ay (JB x.M S i)))):=Eq.mpr (by kernel_rfl) Aov
def uq (a:Ac) (b:LN) (c:Af) (d:Af) (e:Int):=(∃(x:Ac),∃(z:LN),∃(y:Af),∃(r:Af),Bx a b c=Bx x z y/\CN x z y/\d.length=r.length/\Aq d=Aq r/\C0 x r/\Int.NonNeg (e-0)/\Int.NonNeg ((↑r.length:Int)-(e+1)))
def MC:=(1073741824:Int)
theorem AmY:∀(L:Ac) (x:LN) (X S:Af) (k:Int) (s:Aj) (n a b i j:Int),CN L x X->C0 L S->Gy i->Int.NonNeg ((IV S)-(i+1))->Gy j->Int.NonNeg ((IV S)-(j+1))->(uq L x X S i)/\(uq L x X S j)/\(((Ae (AV.agg [AV.int .i64 k,AV.bs s,AV.int .i64 n,AV.int .i64 a,AV.int .i64 b,AV.vec 1 S.length (Aq S)])/\True/\True)/\True)/\DV/\DV/\True)/\Ag (Au (AF (Bo (cT (Bx L x X)) (NN S) i)) MC) (true=Ay (G5 (Bo X S i) (Bo X S j))) (Ag (Au (AF (Bo (cT (Bx L x X)) (NN S) j)) MC) (true=Ay (G5 (Bo X S i) (Bo X S j))) (True/\Ay (Gl (AF (Bo (cT (Bx L x X)) (NN S) i)) (AF (Bo (cT (Bx L x X)) (NN S) j)))=Ay (G5 (Bo X S i) (Bo X S j))))
:=by
 delta DV uq NN Gy IV MC;intro L x X S k s n a b i j y r K J B z;simp only[Bq];simp only[On,EC];refine⟨⟨L,x,X,S,rfl,y,rfl,rfl,r,K,J⟩,⟨L,x,X,S,rfl,y,rfl,rfl,r,B,z⟩,?_⟩;unfold G5 Du;generalize Bo X S i=u;generalize Bo X S j=v;refine Ao (λh=>?_) λh=>Ao (λg=>?_) λg=>?_
 ·rw[Ba]at h;simp[h]
 ·rw[Ba]at g;simp[g]
 ·rw[BB]at h g;simp[h,g]
theorem AmX:∀(L:Ac) (x:LN) (X S:Af) (k:Int) (s:Aj) (n a b i j:Int),CN L x X->C0 L S->0<=i->i<S.length->0<=j->j<S.length->(A3 zD 60).call 45 [.pv (Bx L x X),.agg [.int .i64 k,.bs s,.int .i64 n,.int .i64 a,.int .i64 b,.vec 1 S.length (Aq S)],.int .i64 i,.int .i64 j] .leaf 0 (BS Tryz.prog false (.bool (Ay (G5 (Bo X S i) (Bo X S j))))):=Eq.mpr (by kernel_rfl) AmY
@[reducible] def nP:Ac->LN->Af->Ac->LN->Prop:=λ(L:Ac) (x:LN) (X:Af) (a:Ac) (r:LN)=>L.length=a.length/\AE L=AE a/\x.M.length=r.M.length/\rM x.M=rM r.M/\List.take 8 [vI x.O,vI x.Lo,vI x.C,vI x.G,vI x.Co,vI x.E,Cz x,CL x,vI X,RZ]=LN.rest r/\BM a r.M/\Good a
theorem Ape:∀(L:Ac) (x:LN) (X:Af) (k n:Int),CN L x X->Gy n->(k=(2:Int)->Int.NonNeg ((↑x.G.length:Int)-(n+1)))->Ag (Au k (1:Int)) ((∃(y:Ac),∃(r:LN),nP L x X y r)/\(ES/\ES/\True)/\Aa/\AF (IM L x n)=AF (K0 L x.M x.G k n)) (Ag (Au k (2:Int)) (Ap (AO n x.G.length) ((∃(y:Ac),∃(r:LN),nP L x X y r)/\(IP/\IP/\True)/\Aa/\AF (IM L x (getD x.G (Int.toNat n) (0:Int)))=AF (K0 L x.M x.G k n))) (Ag (Au k (3:Int)) (Aa/\(2:Int)=AF (K0 L x.M x.G k n)) (Aa/\(0:Int)=AF (K0 L x.M x.G k n))))
:=by
 delta Dk ES IP IM Gy;intro L x X k n J z K;simp only[Bq,nP,Cz,CL];have z:0<=n:=z;have B:∃y r,L.length=List.length y/\AE L=AE y/\x.M.length=r.M.length/\rM x.M=rM r.M/\x.rest=LN.rest r/\BM y r.M/\Good y:=⟨L,x,rfl,rfl,rfl,rfl,rfl,J.m,J.CO⟩;simp only[DY,HB];unfold K0;refine Ao (λh=>⟨B,?_⟩) λh=>Ao (λg=>Am (AK.2 ⟨z,?_⟩) ⟨B,?_⟩) λg=>Ao (λe=>?_) λe=>?_
 ·rw[Ba]at h;rw[As h]
 ·rw[Ba]at g;have:n<x.G.length:=K g;omega
 ·rw[BB]at h;rw[Ba]at g;rw[An h,As g]
 ·rw[BB]at h g;rw[Ba]at e;rw[An h,An g,As e]
 ·rw[BB]at h g e;rw[An h,An g,An e]
theorem Apd:∀(L:Ac) (x:LN) (X:Af) (k n:Int),CN L x X->0<=n->(k=2->n<x.G.length)->(A3 zR 60).call 50 [.pv (Bx L x X),.agg [.int .i64 k,.int .i64 n]] .leaf 0 (BS Tryz.prog false (.int .i64 (AF (K0 L x.M x.G k n)))):=Eq.mpr (by kernel_rfl) Ape
def fu (a:Ac) (b:LN) (c:Af):=((Aa/\Ae a.length/\Ar λ(x:Nat)=>AD x a.length->(Aa/\Ae (Ab.kind (Bc a x)))/\Ae (Ab.text (Bc a x))/\(Aa/\Ae (Ab.n (Bc a x)))/\(Aa/\Ae (Ab.line (Bc a x)))/\(Aa/\Ae (Ab.Av (Bc a x)))/\(Aa/\Ae (List.length (Ab.kids (Bc a x)))/\Ar λ(v2:Nat)=>AD v2 (List.length (Ab.kids (Bc a x)))->(Aa/\Ae (getD (Ab.kids (Bc a x)) v2 (0:Int)))/\True)/\True)/\(Aa/\Ae b.M.length/\Ar λ(K:Nat)=>AD K b.M.length->(Aa/\Ae (Prod.fst (getD b.M K ((0:Int),(0:Int)))))/\(Aa/\Ae (Prod.snd (getD b.M K ((0:Int),(0:Int)))))/\True)/\(Aa/\Ae b.O.length/\Ar λ(v4:Nat)=>AD v4 b.O.length->(Aa/\Ae (getD b.O v4 (0:Int)))/\True)/\(Aa/\Ae b.Lo.length/\Ar λ(Z:Nat)=>AD Z b.Lo.length->(Aa/\Ae (getD b.Lo Z (0:Int)))/\True)/\(Aa/\Ae b.C.length/\Ar λ(Y:Nat)=>AD Y b.C.length->(Aa/\Ae (getD b.C Y (0:Int)))/\True)/\(Aa/\Ae b.G.length/\Ar λ(W:Nat)=>AD W b.G.length->(Aa/\Ae (getD b.G W (0:Int)))/\True)/\(Aa/\Ae b.Co.length/\Ar λ(V:Nat)=>AD V b.Co.length->(Aa/\Ae (getD b.Co V (0:Int)))/\True)/\(Aa/\Ae b.E.length/\Ar λ(U:Nat)=>AD U b.E.length->(Aa/\Ae (getD b.E U (0:Int)))/\True)/\(Aa/\Ae b.Fs.length/\Ar λ(r:Nat)=>AD r b.Fs.length->(Aa/\Ae (A6.Pf (getD b.Fs r A6.none)))/\(Aa/\Ae (A6.up (getD b.Fs r A6.none)))/\Ae (A6.name (getD b.Fs r A6.none))/\(Aa/\Ae (List.length (A6.Hs (getD b.Fs r A6.none)))/\Ar λ(J:Nat)=>AD J (List.length (A6.Hs (getD b.Fs r A6.none)))->(Aa/\Ae (getD (A6.Hs (getD b.Fs r A6.none)) J (0:Int)))/\True)/\True)/\(Aa/\Ae b.main)/\(DN c)/\((∀(S:Cn),Ae (Gp S))/\(∀(z:Cn),Aa/\Ae (List.length (AF (JY z)))/\Ar λ(B:Nat)=>AD B (List.length (AF (JY z)))->(Aa/\Ae (getD (AF (JY z)) B (0:Int)))/\True)/\∀(y:Cn),Gp y=false->Fe y=AV.AW\/Ae AV.AW/\∃(R:Nat),∃(L:Nat->Al),Fe y=AV.vec R 0 L)/\True)
@[reducible] def nO:Ac->LN->Af->Af->Prop:=λ(L:Ac) (x:LN) (X S:Af)=>(DN S)/\(Aa/\True/\((fu L x X)/\True)/\True)/\(Aa/\Ae (Io S))/\True
theorem AmE:∀(L:Ac) (x:LN) (X S:Af),CN L x X->C0 L S->(∃(B:Nat),Y7 X S B/\Aa/\((Cr B)/\nO L x X S)/\True)/\∀(r:Nat),Y7 X S r->Ag (Dh r (Io S)) (Ez r S (Ap (AO (Dm S r) X.length) (Ag (Au (getD X (Lw S r) (0:Int)) MC) ((!AP (↑r:Int) (0:Int))=Ay (IE X S)) (Bj r (∃(y:Nat),Y7 X S y/\QI S y r/\Aa/\((Cb r y)/\nO L x X S)/\True))))) (false=Ay (IE X S))
:=by
 delta Dm Bj Cb Cr Ez Lw Dh Io QI MC;intro L x X S K J;simp only[Bq,nO,AD,Bc,DN,fu,Io];have W:=K.xl;have R:=J.len;have V:=K.m.len;refine⟨⟨0,⟨BL _,λk z=>by omega⟩,rfl,EM⟩,λi hi=>Ao (λh=>?_) λh=>?_⟩
 ·rw[Bd]at h;have h':i<S.length:=by omega
  have z:=tA J h';refine Am (AK.2 (by omega)) (Am (AK.2 (by omega)) (Ao (λg=>?_) λg=>Am (AU.2 (by omega)) ⟨i+1,⟨h',λk U=>?_⟩,by omega,by omega,EM⟩))
  ·rw[Ba]at g;rw[Bl.2 (by omega)];refine Eq.symm (show IE X S=true from ?_);unfold IE;rw[List.any_eq_true];exact⟨_,G6 h',by rw[g];rfl⟩
  ·rw[BB]at g;rcases D9 k i with e|e
   ·exact hi.al k e
   ·obtain rfl:k=i:=by omega
    exact g
 ·rw[Bl]at h;have:=hi.le;refine Eq.symm ?_;unfold IE;rw[List.any_eq_false];intro c hc;obtain⟨k,z,rfl⟩:=List.getElem_of_mem hc;have:=hi.al k (by omega);rw[Bt (l:=S),Ce z]at this;simpa using this
theorem AmD:∀(L:Ac) (x:LN) (X S:Af),CN L x X->C0 L S->(A3 (yy X S) 60).call 24 [.vec 1 S.length (Aq S),.fn (.func 25) [] [.pv [.pv (Bx L x X)]]] .leaf 0 (BS Tryz.prog false (.bool (Ay (IE X S)))):=Eq.mpr (by kernel_rfl) AmE
def Gz (L:Ac) (M:List (Int×Int)) (C X:Af) (t:Ab):Bool:=
 if t.kind=13 then G5 (Bo X t.kids 1) (Bo X t.kids 0)
 else if t.kind=14 then JB M t.kids 0&&G5 (Bo X t.kids 1) (Bo X t.kids 0)
 else if t.kind=32/\t.text=[61,61]then G5 (Bo X t.kids 0) (Bo X t.kids 1)||G5 (Bo X t.kids 1) (Bo X t.kids 0)
 else if t.kind=30 then decide (Bo X t.kids 0=Du)||decide (0<=(Ea L M C (Bo X t.kids 0) t.text).1)
 else if(t.kind=19\/t.kind=20)/\JB M t.kids 1=false then false
 else decide (∀i,i<(Cu t.kind).length->i<t.kids.length->Bo X t.kids i=(Cu t.kind).getD i 0\/Bo X t.kids i=Du)
def Fo (L:Ac) (M:List (Int×Int)) (C G X:Af) (i:Nat):Int:=
 if(L.getD i Ab.none).kind=27 then 0
 else if(L.getD i Ab.none).kind=29 then K0 L M G (M.getD i (0,0)).1 (M.getD i (0,0)).2
 else if(L.getD i Ab.none).kind=30 then(Ea L M C (Bo X (L.getD i Ab.none).kids 0) (L.getD i Ab.none).text).2
 else if(L.getD i Ab.none).kind=33 then-1-(M.getD i (0,0)).2
 else if(L.getD i Ab.none).kind=34 then 5
 else if(L.getD i Ab.none).kind=36 then 2
 else 1
def VK (cs w:Al):Bool:=Gz (cL cs) (cM cs) (cC cs) (cT cs) (Je w)
def S8 (cs:Al) (i:Nat):Int:=Fo (cL cs) (cM cs) (cC cs) (cG cs) (cT cs) i
def pt:Tr Ah->Al->Option Ct:=λ_ args=>match args with
 | [.pv cs,.agg w]=>some (.Bb (∃(L:Ac) (x:LN) (X:Af) (j:Nat),cs=Bx L x X/\CN L x X/\j<L.length/\w=(L.getD j Ab.none).row) (.ret (.bool (Ay (VK cs w)))))
 |_=>none
def qs:Tr Ah->Al->Option Ct:=λ_ args=>match args with
 | [.pv cs,.int .i64 i]=>some (.Bb (∃(L:Ac) (x:LN) (X:Af),cs=Bx L x X/\CN L x X/\0<=i/\i<L.length) (.ret (.int .i64 (AF (S8 cs i.toNat)))))
 |_=>none
structure MW (X S N:List Int) (i:Nat):Prop where
 le:i<=N.length
 al:∀q,q<i->q<S.length->Bo X S q=N.getD q 0\/Bo X S q=Du
def SNd (X S:Af) (k:Int):B0:=thin Nat [0,3,95,96] (λi=>[(97,.int .i64 i)]) (λ_ i=>MW X S (Cu k) i) λi=>(Cu k).length-i
def zX (X S:Af) (k:Int):Ctx:={P:=Tryz.prog,tb:=[(45,pR),(46,pz),(48,W4),(47,PJ)],lp:=λf r=>cond (Nat.beq f 21) (cond (Nat.beq r 13) (some (SNd X S k)) none) none,cut:=λ_ _=>none}
def z6:Ctx:={P:=Tryz.prog,tb:=[(48,W4),(50,rG),(47,PJ)],lp:=λ_ _=>none,cut:=λ_ _=>none}
theorem Akq:BC Tryz.prog 65 Rz:=by
 refine Cw (gl:=[]) (ng:=0) AS λH args ct r=>?_;unfold Rz at r;split at r
 ·rename_i a b;injection r with r;subst r;refine⟨AS,_,_,rfl,?_⟩;intro _;exact⟨⟨⟨rfl,rfl⟩,⟨rfl,rfl⟩,trivial⟩,K6,60,rfl,Cc,Bk,Am1 a b⟩
 ·cases r
theorem Ak7:BC Tryz.prog 22 PK:=by
 refine Cw (gl:=[]) (ng:=0) AS λH args ct r=>?_;unfold PK at r;split at r
 ·rename_i k;injection r with r;subst r;exact⟨AS,_,_,rfl,λ_=>⟨⟨⟨rfl,rfl⟩,trivial⟩,G3,60,rfl,Cc,Bk,by rw[F2];exact AoK k⟩⟩
 ·cases r
theorem wi (k:Int) (s:Aj) (n a b:Int) (S:Af):Bi [] (.agg [.int .i64 k,.bs s,.int .i64 n,.int .i64 a,.int .i64 b,.vec 1 S.length (Aq S)]) (.agg [.int .i64 k,.bs s,.int .i64 n,.int .i64 a,.int .i64 b,.vec 1 S.length (Aq S)]):=Q4 ⟨k,s,n,a,b,S⟩
theorem tz:BC Tryz.prog 48 W4:=by
 refine Cw (gl:=[]) (ng:=0) AS λH args ct r=>?_;unfold W4 at r;split at r
 ·rename_i cs k s n a b m f i;injection r with r;subst r;refine⟨AS,_,_,rfl,?_⟩;rintro⟨L,x,X,S,rfl,z,rfl,rfl,y,J,B⟩;rw[On,EC];exact⟨⟨Te L x X,wi k s n a b S,⟨rfl,rfl⟩,trivial⟩,K6,60,rfl,Cc,Bk,Ang L x X S k s n a b i z y J B⟩
 ·cases r
theorem AkY:BC Tryz.prog 46 pz:=by
 refine Cw (gl:=[]) (ng:=0) AS λH args ct r=>?_;unfold pz at r;split at r
 ·rename_i cs k s n a b m f i;injection r with r;subst r;refine⟨AS,_,_,rfl,?_⟩;rintro⟨L,x,X,S,rfl,z,rfl,rfl,y,B⟩;rw[Rs,EC];exact⟨⟨Te L x X,wi k s n a b S,⟨rfl,rfl⟩,trivial⟩,K6,60,rfl,Cc,Bk,Aou L x X S k s n a b i z y B⟩
 ·cases r
theorem Ako:BC Tryz.prog 45 pR:=by
 refine Cw (gl:=[]) (ng:=0) AS λH args ct r=>?_;unfold pR at r;split at r
 ·rename_i cs k s n a b m f i j;injection r with r;subst r;refine⟨AS,_,_,rfl,?_⟩;rintro⟨L,x,X,S,rfl,z,rfl,rfl,y,R,K,J,B⟩;rw[On,EC];exact⟨⟨Te L x X,wi k s n a b S,⟨rfl,rfl⟩,⟨rfl,rfl⟩,trivial⟩,zD,60,rfl,Cc,BD Akq (BD tz Bk),AmX L x X S k s n a b i j z y R K J B⟩
 ·cases r
theorem Alk:BC Tryz.prog 50 rG:=by
 refine Cw (gl:=[]) (ng:=0) AS λH args ct r=>?_;unfold rG at r;split at r
 ·rename_i cs k n;injection r with r;subst r;refine⟨AS,_,_,rfl,?_⟩;rintro⟨L,x,X,rfl,y,B,z⟩;rw[WR,Rs,cD];exact⟨⟨Te L x X,⟨⟨rfl,rfl⟩,⟨rfl,rfl⟩,trivial⟩,trivial⟩,zR,60,rfl,Cc,BD uA Bk,Apd L x X k n y B z⟩
 ·cases r
theorem Akh:BC Tryz.prog 24 pP:=by
 refine Cw (gl:=[]) (ng:=0) AS λH args ct r=>?_;unfold pP at r;split at r
 ·rename_i m f cs;injection r with r;subst r;refine⟨AS,_,_,rfl,?_⟩;rintro⟨L,x,X,S,rfl,z,rfl,rfl,y⟩;rw[XH,On,EC];exact⟨⟨⟨rfl,rfl,⟨λi _=>Ob S i⟩⟩,⟨rfl,trivial,⟨⟨Te L x X,trivial⟩,trivial⟩⟩,trivial⟩,yy X S,60,rfl,Cc,Bk,AmD L x X S z y⟩
 ·cases r
theorem AjX (k:Int):(Cu k).length<=2:=by
 unfold Cu US;simp only[EK]
 repeat' split
 all_goals simp
theorem tM {L:Ac} (x:Good L) {j:Nat} (r:j<L.length):C0 L (L.getD j Ab.none).kids:=⟨x.Mf j r,λc hc=>by obtain⟨z,y⟩:=x.Gn j r c hc;exact⟨by omega,y⟩⟩
theorem AjT {L:Ac} {x:LN} {X S:Af} {k:Int} {r:Bool} (hR:CN L x X) (hS:C0 L S) (hW:r=decide (∀i:Nat,i<(Cu k).length->i<S.length->Bo X S i=(Cu k).getD i 0\/Bo X S i=Du)): (∃Z,MW X S (Cu k) Z/\(0:Int)= ↑Z/\∀k:Cn,Gp k=false->Fe k=AV.AW\/∃e f,Fe k=AV.vec e 0 f)/\∀i:Nat,MW X S (Cu k) i-> Ag (AP ↑i ↑(JY (.int k)).length) (Ap (AO ↑i (JY (.int k)).length) (Ag (AP ↑i ↑S.length) ((∃z B J y,Bx L x X=Bx z B J/\CN z B J/\S.length=y.length/\Aq S=Aq y/\C0 z y/\((i:Int)-0).NonNeg/\((y.length:Int)-(i+1)).NonNeg)/\ Ag (!Au (Bo X S ↑i) ((JY (.int k)).getD i 0)) ((∃z B J y,Bx L x X=Bx z B J/\CN z B J/\S.length=y.length/\Aq S=Aq y/\C0 z y/\((i:Int)-0).NonNeg/\((y.length:Int)-(i+1)).NonNeg)/\ Ag (!Au (Bo X S ↑i) 1073741824) (false=r) (Ap (Bf IntKind.i64 (↑i+1)) (∃K,MW X S (Cu k) K/\((Cu k).length-K).succ<=(Cu k).length-i/\(i:Int)+1= ↑K/\∀k:Cn,Gp k=false->Fe k=AV.AW\/∃e f,Fe k=AV.vec e 0 f))) (Ap (Bf IntKind.i64 (↑i+1)) (∃K,MW X S (Cu k) K/\((Cu k).length-K).succ<=(Cu k).length-i/\(i:Int)+1= ↑K/\∀k:Cn,Gp k=false->Fe k=AV.AW\/∃e f,Fe k=AV.vec e 0 f))) (Ap (Bf IntKind.i64 (↑i+1)) (∃K,MW X S (Cu k) K/\((Cu k).length-K).succ<=(Cu k).length-i/\(i:Int)+1= ↑K/\∀k:Cn,Gp k=false->Fe k=AV.AW\/∃e f,Fe k=AV.vec e 0 f)))) (true=r):=by
 have h2:=AjX k;refine⟨⟨0,⟨BL _,λq hq=>by omega⟩,rfl,EM⟩,λi hi=>?_⟩;have nk:JY (.int k)=Cu k:=rfl;rw[nk];have R:(i<(Cu k).length)->(i<S.length->Bo X S i=(Cu k).getD i 0\/Bo X S i=Du)->Ap (Bf IntKind.i64 (↑i+1)) (∃K,MW X S (Cu k) K/\((Cu k).length-K).succ<=(Cu k).length-i/\(i:Int)+1= ↑K/\∀k:Cn,Gp k=false->Fe k=AV.AW\/∃e f,Fe k=AV.vec e 0 f):=λU h4=>
  Am (AU.2 (by omega)) ⟨i+1,⟨U,λq hq Y=>by
   rcases D9 q i with e|e
   ·exact hi.al q e Y
   ·obtain rfl:q=i:=by omega
    exact h4 Y⟩,by omega,by omega,EM⟩
 refine Ao (λh=>Am (AK.2 ⟨by omega,by rw[Bd]at h;omega⟩) ?_) λh=>?_
 ·rw[Bd]at h;have U:i<(Cu k).length:=by omega
  refine Ao (λg=>?_) λg=>R U λg2=>by rw[Bl]at g;omega
  rw[Bd]at g;have ex:∃z B J y,Bx L x X=Bx z B J/\CN z B J/\S.length=y.length/\Aq S=Aq y/\C0 z y/\((i:Int)-0).NonNeg/\((y.length:Int)-(i+1)).NonNeg:=⟨L,x,X,S,rfl,hR,rfl,rfl,hS,(show(0:Int)<=i by omega),(show(i:Int)+1<=S.length by omega)⟩;refine⟨ex,Ao (λe=>⟨ex,Ao (λV=>?_) λV=>R U λ_=>?_⟩) λe=>R U λ_=>?_⟩
  ·rw[BZ,BB]at e V;rw[hW];exact(E7 λW=>by
    rcases W i U (by omega)with q|q
    ·exact e q
    ·exact V q).symm
  ·rw[BI,Ba]at V;exact .inr V
  ·rw[BI,Ba]at e;exact .inl e
 ·rw[Bl]at h;have:=hi.le;rw[hW];exact(BF λq hq Y=>hi.al q (by omega) Y).symm
def KQ (a:Ac) (b:Nat):=Ab.kids (Bc a b)
@[reducible] def nQ:Ac->LN->Af->Nat->Nat->Ac->LN->Af->Af->Prop:=λ(L:Ac) (x:LN) (X:Af) (j a:Nat) (y:Ac) (B:LN) (z r:Af)=>Bx L x X=Bx y B z/\CN y B z/\Cl L j=r.length/\Aq (KQ L j)=Aq r/\C0 y r/\Jx a/\Int.NonNeg ((IV r)-(IW a))
def Ln (a:Ac) (b:LN) (c:Af) (d:Nat):=Bo (cT (Bx a b c)) (Dy (Cl a d) (Aq (Ab.kids (Bc a d))))
def NJ (a:Ac) (b:LN) (c:Af) (d:Nat):=Ay (Gz a b.M b.C c (Bc a d))
@[reducible] def Z3:Ac->LN->Af->Nat->Prop:=λ(L:Ac) (x:LN) (X:Af) (j:Nat)=>(∃(r:Ac),∃(y:LN),∃(z:Af),∃(S:Af),Bx L x X=Bx r y z/\CN r y z/\Cl L j=S.length/\Aq (KQ L j)=Aq S/\C0 r S/\Int.NonNeg (1:Int)/\Int.NonNeg ((IV S)-2)/\NV/\Int.NonNeg ((IV S)-1))/\Ay (G5 (Ln L x X j (1:Int)) (Ln L x X j (0:Int)))=NJ L x X j
@[reducible] def nR:Ac->Nat->Prop:=λ(L:Ac) (j:Nat)=>(Aa/\Aa/\Aa/\Aa/\(((((True/\Aa/\Ae (Ab.kind (Bc L j)))/\Ae (Ab.text (Bc L j)))/\Aa/\Ae (Ab.n (Bc L j)))/\Aa/\Ae (Ab.line (Bc L j)))/\Aa/\Ae (Ab.Av (Bc L j)))/\Aa/\Ae (Cl L j)/\Ar λ(i:Nat)=>AD i (Cl L j)->(Aa/\Ae (getD (KQ L j) i (0:Int)))/\True)/\True
def Qy (a:Ac) (b:Nat):=AF (JY (Cn.int (Ab.kind (Bc a b))))
@[reducible] def nS:Ac->LN->Af->Nat->Prop:=λ(L:Ac) (x:LN) (X:Af) (j:Nat)=>(fu L x X)/\Cm/\(Aa/\Ae (List.length (Qy L j))/\Ar λ(i:Nat)=>AD i (List.length (Qy L j))->(Aa/\Ae (getD (Qy L j) i (0:Int)))/\True)/\(Aa/\Ae (Int.ofNat (List.length (Qy L j))))/\True
def Vx (a:Ac) (b:Nat):=Cu (Ab.kind (Bc a b))
@[reducible] def Z4:Ac->LN->Af->Nat->Nat->Nat->Prop:=λ(L:Ac) (x:LN) (X:Af) (j a r:Nat)=>MW X (KQ L j) (Vx L j) r/\Nat.le (Nat.succ (List.length (Vx L j)-r)) (List.length (Vx L j)-a)/\Aa/\((Cb a r)/\nS L x X j)/\nR L j
def ue (a:Ac) (b:LN) (c:Af) (d:Nat):=(∃(x:Ac),∃(z:LN),∃(y:Af),∃(r:Af),Bx a b c=Bx x z y/\CN x z y/\Cl a d=r.length/\Aq (Ab.kids (Bc a d))=Aq r/\C0 x r/\Int.NonNeg (0:Int)/\Int.NonNeg ((↑r.length:Int)-1))
@[reducible] def xo:Ac->LN->Af->Nat->Prop:=λ(L:Ac) (x:LN) (X:Af) (j:Nat)=>(ue L x X j)/\(∃(y:Ac),∃(r:LN),L.length=y.length/\AE L=AE y/\x.M.length=r.M.length/\rM x.M=rM r.M/\vI x.O=vI r.O/\vI x.Lo=vI r.Lo/\x.C.length=r.C.length/\Aq x.C=Aq r.C/\List.take 5 [vI x.G,vI x.Co,vI x.E,Cz x,CL x,vI X,RZ]=LN.YI r/\BM y r.M/\Good y/\(GL r y)/\Int.NonNeg (AF (Ln L x X j (0:Int))-LF)/\Int.NonNeg (LD-AF (Ln L x X j (0:Int))))/\(((Ae (AV.bs (Ab.text (Bc L j)))/\True/\True/\True/\True)/\True)/\CI/\((True/\True/\Ae (AV.agg (List.take (Jq 31) (List.drop 1 (Bx L x X))))/\Ae (AV.agg (List.take (Jq 24) (List.drop 0 (Bx L x X))))/\True)/\True)/\True)/\(ue L x X j)/\Ag (Au (AF (Ln L x X j (0:Int))) MC) (true=NJ L x X j) ((!AP (AF (Prod.fst (QE L x (AF (Ln L x X j (0:Int))) (Ab.text (Bc L j))))) (0:Int))=NJ L x X j)
@[reducible] def nT:Ac->LN->Af->Nat->Prop:=λ(L:Ac) (x:LN) (X:Af) (j:Nat)=>(CI/\True)/\(∃(K:Nat),MW X (KQ L j) (Vx L j) K/\Aa/\((Cr K)/\nS L x X j)/\nR L j)/\∀(r:Nat),MW X (KQ L j) (Vx L j) r->Ag (Dh r (Int.ofNat (List.length (Qy L j)))) (Ap (D8 r (List.length (Qy L j))) (Ag (Dh r (Int.ofNat (Cl L j))) ((∃(B:Ac),∃(y:LN),∃(z:Af),∃(S:Af),nQ L x X j r B y z S)/\Ag (!Au (AF (Ln L x X j (↑r:Int))) (getD (Qy L j) (B8 r) (0:Int))) ((∃(B:Ac),∃(y:LN),∃(z:Af),∃(S:Af),nQ L x X j r B y z S)/\Ag (!Au (AF (Ln L x X j (↑r:Int))) MC) (false=NJ L x X j) (Bj r (∃(J:Nat),Z4 L x X j r J))) (Bj r (∃(J:Nat),Z4 L x X j r J))) (Bj r (∃(J:Nat),Z4 L x X j r J)))) (true=NJ L x X j)
@[reducible] def nU:Ac->LN->Af->Nat->Prop:=λ(L:Ac) (x:LN) (X:Af) (j:Nat)=>(∃(r:Ac),∃(y:LN),∃(z:Af),∃(S:Af),Bx L x X=Bx r y z/\CN r y z/\Cl L j=S.length/\Aq (KQ L j)=Aq S/\C0 r S/\Int.NonNeg (1:Int))/\Ag (!Ay (JB (cM (Bx L x X)) (Dy (Cl L j) (Aq (KQ L j))) (1:Int))) (false=NJ L x X j) (Ap (bif Gp (Cn.int (1180591620717411303428:Int))then AP (Ab.kind (Bc L j)) (1180591620717411303424:Int)else false) (nT L x X j))
def ug (a:Ac) (b:Nat) (c:LN) (d:Af):=Ag (Au (Ab.kind (Bc a b)) (30:Int)) (xo a c d b) (Ag (Au (Ab.kind (Bc a b)) (19:Int)) (nU a c d b) (Ag (Au (Ab.kind (Bc a b)) (20:Int)) (nU a c d b) (Ap (bif Gp (Cn.int (1180591620717411303428:Int))then AP (Ab.kind (Bc a b)) (1180591620717411303424:Int)else false) (nT a c d b))))
theorem Aoo:∀(L:Ac) (x:LN) (X:Af) (j:Nat),CN L x X->AD j L.length->Ag (Au (Ab.kind (Bc L j)) (13:Int)) (Z3 L x X j) (Ag (Au (Ab.kind (Bc L j)) (14:Int)) ((∃(y:Ac),∃(K:LN),∃(z:Af),∃(S:Af),Bx L x X=Bx y K z/\CN y K z/\Cl L j=S.length/\Aq (KQ L j)=Aq S/\C0 y S/\NV)/\Ag (Ay (JB (cM (Bx L x X)) (Dy (Cl L j) (Aq (KQ L j))) (0:Int))) (Z3 L x X j) (false=NJ L x X j)) (Ag (Au (Ab.kind (Bc L j)) (32:Int)) (Ag (decide (Ab.text (getD L j Ab.none)=[(61:UInt8),61])) ((∃(y:Ac),∃(K:LN),∃(z:Af),∃(S:Af),Bx L x X=Bx y K z/\CN y K z/\Cl L j=S.length/\Aq (KQ L j)=Aq S/\C0 y S/\NV/\Int.NonNeg ((IV S)-1)/\Int.NonNeg (1:Int)/\Int.NonNeg ((IV S)-2))/\Ag (Ay (G5 (Ln L x X j (0:Int)) (Ln L x X j (1:Int)))) (true=NJ L x X j) (Z3 L x X j)) (ug L j x X)) (ug L j x X)))
:=by
 delta AD Bc Cl Ln ug NJ KQ NV IV;intro L x X j R hj;simp only[Bq,nQ,Z3,nR,nS,Z4,xo,nT,nU,Bc,Cl,Jx,KQ,IV,IW,Ln,NJ,NV,AD,DN,fu,Cm,Qy,Cb,Vx,CI,Cz,GL,Dk,Jq,CL,ue,QE,LD,LF,MC,Bj,B8,Cr,Dh,D8];have hi:j<L.length:=hj;have W:=R.CO;have hx:=R.xl;have Y:=tM W hi;have n1:=dv W hi;have n2:=AbU W hi;have hb:=R.b;have V:(L.getD j Ab.none).kind<1180591620717411303424:=by have U:=W.head j hi;unfold JQ at U;rw[B4,Bn]at U;omega
 have hN:(Gp (Cn.int 1180591620717411303428)&&AP (L.getD j Ab.none).kind 1180591620717411303424)=true:=by rw[Bd.2 V,tj];rfl
 simp only[On,Rs,EC,DY,HB];have ab:∀a:Int,0<=a->∃y J z B,Bx L x X=Bx y J z/\CN y J z/\(L.getD j Ab.none).kids.length=List.length B/\Aq (L.getD j Ab.none).kids=Aq B/\C0 y B/\a.NonNeg:=λa U=>⟨L,x,X,_,rfl,R,rfl,rfl,Y,by have:=(show(0:Int)<=a from U);rw[show a=a-0 by omega];exact this⟩;have aa:∀a b:Int,0<=a->b<=(L.getD j Ab.none).kids.length->∃y J z B,Bx L x X=Bx y J z/\CN y J z/\(L.getD j Ab.none).kids.length=List.length B/\Aq (L.getD j Ab.none).kids=Aq B/\C0 y B/\a.NonNeg/\((B.length:Int)-b).NonNeg:=λa b U h2=>⟨L,x,X,_,rfl,R,rfl,rfl,Y,by have:=(show(0:Int)<=a from U);rw[show a=a-0 by omega];exact this,h2⟩;have Z:∀a b c d:Int,0<=a->b<=(L.getD j Ab.none).kids.length->0<=c->d<=(L.getD j Ab.none).kids.length->∃y J z B,Bx L x X=Bx y J z/\CN y J z/\(L.getD j Ab.none).kids.length=List.length B/\Aq (L.getD j Ab.none).kids=Aq B/\C0 y B/\a.NonNeg/\((B.length:Int)-b).NonNeg/\c.NonNeg/\((B.length:Int)-d).NonNeg:=λa b c d U h2 h3 h4=>⟨L,x,X,_,rfl,R,rfl,rfl,Y,by have:=(show(0:Int)<=a from U);rw[show a=a-0 by omega];exact this,h2,by have:=(show(0:Int)<=c from h3);rw[show c=c-0 by omega];exact this,h4⟩;generalize hT:L.getD j Ab.none=t at*;have dW:∀r,Gz L x.M x.C X t=r->r=Gz L x.M x.C X t:=λr h=>h.symm
 repeat' with_reducible first
  |refine Ao (λhk=>?_) λhk=>?_
  |refine Am hN (AjT R Y ?_)
  |refine And.intro ?_ ?_
 all_goals first
  |exact ab _ (by decide)
  |(simp only[Ba,BB]at*;exact Z _ _ _ _ (by decide) (by omega) (by decide) (by omega))
  |(simp only[Ba,BB]at*;exact aa _ _ (by decide) (by omega))
  |exact⟨L,x,rfl,rfl,rfl,rfl,rfl,rfl,rfl,rfl,rfl,R.m,W,R.c,(hb _).1,Int.le_trans (hb _).2 (by decide)⟩
  |skip
 all_goals clear ab aa Z hb n1 n2 Y hx dW hN V hT R hi hj W
 all_goals unfold Gz Du
 all_goals simp only[Ba,BB,Bn,CU,BZ,BI]at*
 all_goals first
  |(simp_all[EX];done)
  |(simp_all[EX];rw[<-decide_not];exact decide_eq_decide.2 (by omega))
theorem Aon:∀(L:Ac) (x:LN) (X:Af) (j:Nat),CN L x X->j<L.length->(A3 (zX X (L.getD j Ab.none).kids (L.getD j Ab.none).kind) 60).call 21 [.pv (Bx L x X),.agg (L.getD j Ab.none).row] .leaf 0 (BS Tryz.prog false (.bool (Ay (Gz L x.M x.C X (L.getD j Ab.none))))):=Eq.mpr (by kernel_rfl) Aoo
def gU (a:Ac) (b:LN) (c:Af) (d:Nat):=AF (Bo (cT (Bx a b c)) (Dy (Ec a d) (Aq (Ab.kids (CA a d)))) (0:Int))
def QJ (a:Ac) (b:LN) (c:Af) (d:Nat):=AF (Fo a b.M b.C b.G c d)
theorem AoM:∀(L:Ac) (x:LN) (X:Af) (i:Nat),CN L x X->AD i L.length->C6 i L (Ag (Ch L i (27:Int)) (Aa/\(0:Int)=QJ L x X i) (Ag (Ch L i (29:Int)) (Vy i x ((∃(y:Ac),∃(r:LN),∃(z:Af),Bx L x X=Bx y r z/\CN y r z/\Int.NonNeg (Ly x i-0)/\(SH x i=(2:Int)->Int.NonNeg ((↑r.G.length:Int)-(Ly x i+1))))/\Aa/\AF (K0 (cL (Bx L x X)) (cM (Bx L x X)) (cG (Bx L x X)) (SH x i) (Ly x i))=QJ L x X i)) (Ag (Ch L i (30:Int)) ((∃(y:Ac),∃(r:LN),∃(z:Af),∃(S:Af),Bx L x X=Bx y r z/\CN y r z/\Ec L i=S.length/\Aq (Ab.kids (CA L i))=Aq S/\C0 y S/\NV/\Int.NonNeg ((IV S)-1))/\(∃(y:Ac),∃(r:LN),L.length=y.length/\AE L=AE y/\x.M.length=r.M.length/\rM x.M=rM r.M/\vI x.O=vI r.O/\vI x.Lo=vI r.Lo/\x.C.length=r.C.length/\Aq x.C=Aq r.C/\List.take 5 [vI x.G,vI x.Co,vI x.E,Cz x,CL x,vI X,RZ]=LN.YI r/\BM y r.M/\Good y/\(GL r y)/\Int.NonNeg (gU L x X i-LF)/\Int.NonNeg (LD-gU L x X i))/\(((Ae (AV.bs (Im L i))/\True/\True/\True/\True)/\True)/\CI/\((True/\True/\Ae (AV.agg (List.take 9 (List.drop 1 (Bx L x X))))/\Ae (AV.agg (List.take 1 (List.drop 0 (Bx L x X))))/\True)/\True)/\True)/\Aa/\AF (Prod.snd (QE L x (gU L x X i) (Im L i)))=QJ L x X i) (Ag (Ch L i (33:Int)) (Vy i x (Ap (Bf .i64 (Int.negSucc 0-Ly x i)) (Aa/\Int.negSucc 0-Ly x i=QJ L x X i))) (Ag (Ch L i (34:Int)) (Aa/\(5:Int)=QJ L x X i) (Ag (Ch L i (36:Int)) (Aa/\(2:Int)=QJ L x X i) (Aa/\(1:Int)=QJ L x X i)))))))
:=by
 delta CA AD B8 Ec CI Cz GL Ch Dk C7 C6 CL Ly QE SH LD LF gU NV QJ IV Im Vy;intro L x X i B hj;simp only[Bq];have hi:i<L.length:=hj;have Y:=B.CO;have aa:=B.m.Mi;have Z:=B.m.len;have hS:=tM Y hi;have n1:=dv Y hi;have hb:=B.b;have hn:=B.m.n i hi;have hg:=B.g.g i hi;simp only[On,Rs,WR,bX,cD,EC,DY,HB];have e1:Int.negSucc 0= -1:=rfl
 try simp only[e1]
 refine Am (AK.2 (by omega)) (Ao (λh=>?_) λW=>Ao (λh=>Am (AK.2 (by omega)) ⟨⟨L,x,X,rfl,B,hn.1,λh=>hg h⟩,?_⟩) λV=>Ao (λh=>⟨⟨L,x,X,_,rfl,B,rfl,rfl,hS,(show(0:Int)<=0 by omega),?_⟩,⟨L,x,rfl,rfl,rfl,rfl,rfl,rfl,rfl,rfl,rfl,B.m,Y,B.c,(hb _).1,Int.le_trans (hb _).2 (by decide)⟩,?_⟩) λU=>Ao (λh=>Am (AK.2 (by omega)) (Am (AU.2 (by omega)) ?_)) λR=>Ao (λh=>?_) λK=>Ao (λh=>?_) λJ=>?_)
 all_goals (try rw[Ba]at h)
 all_goals (try rw[BB]at W)
 all_goals (try rw[BB]at V)
 all_goals (try rw[BB]at U)
 all_goals (try rw[BB]at R)
 all_goals (try rw[BB]at K)
 all_goals (try rw[BB]at J)
 all_goals first
  |(unfold Fo;rw[h];rfl)
  |(unfold Fo;rw[An W,An V,An U,An R,An K,An J];done)
  |(have:=n1 (by omega);exact(show(0:Int)+1<=(L.getD i Ab.none).kids.length by omega))
  |trace_state
theorem AoL:∀(L:Ac) (x:LN) (X:Af) (i:Nat),CN L x X->i<L.length->(A3 z6 60).call 26 [.pv (Bx L x X),.int .i64 i] .leaf 0 (BS Tryz.prog false (.int .i64 (AF (Fo L x.M x.C x.G X i)))):=Eq.mpr (by kernel_rfl) AoM
end Go.Proofs.YthallodoidghoaaGreat
end
end
