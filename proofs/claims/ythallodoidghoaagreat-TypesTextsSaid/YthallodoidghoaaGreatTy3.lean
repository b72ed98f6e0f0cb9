/- Laid by program out of its parts: TyL, TyM. -/
import Derived.Test.YthallodoidghoaaGreatTy2
noncomputable section
open List(getD)
open Int(toNat)
set_option linter.unusedVariables false
set_option linter.unusedSimpArgs false
section
set_option maxRecDepth 100000
set_option maxHeartbeats 2000000
open Go Go.Ev
namespace Go.Proofs.YthallodoidghoaaGreat
structure A6 where
 Pf:Int
 up:Int
 name:List UInt8
 Hs:List Int
def A6.none:A6:=⟨0,0,[],[]⟩
def A6.row (x:A6):Al:=[.int .i64 x.Pf,.int .i64 x.up,.bs x.name,.vec 1 x.Hs.length (Aq x.Hs)]
def Fl (l:List A6):Nat->Al:=λi=>(l.getD i A6.none).row
structure LN where
 M:List (Int×Int)
 O:List Int
 Lo:List Int
 C:List Int
 G:List Int
 Co:List Int
 E:List Int
 Fs:List A6
 main:Int
def LN.zero:LN:=⟨[],[],[],[],[],[],[],[],0⟩
def UL (x:Int×Int):Al:=[.int .i64 x.1,.int .i64 x.2]
def rM (M:List (Int×Int)):Nat->Al:=λi=>UL (M.getD i (0,0))
def M5 (x:Int×Int×Int):Al:=[.int .i64 x.1,.int .i64 x.2.1,.int .i64 x.2.2]
def rD (D:At):Nat->Al:=λi=>M5 (D.getD i (0,0,0))
def vI (l:Af):AV:=.vec 1 l.length (Aq l)
def LN.row (x:LN):Al:=[.vec 2 x.M.length (rM x.M),vI x.O,vI x.Lo,vI x.C,vI x.G,vI x.Co,vI x.E,.vec 4 x.Fs.length (Fl x.Fs),.int .i64 x.main]
structure LY (L:List Ab) (x:LN):Prop where
 CO:Good L
 Mi:x.M.length=L.length
 mn:∀j,j<L.length->0<=(x.M.getD j (0,0)).2/\(x.M.getD j (0,0)).2<=L.length/\((x.M.getD j (0,0)).1=2->(x.M.getD j (0,0)).2<BN L 6 L.length)
 cl:∀c∈x.C,0<=c/\c<L.length
 gl:x.G.length=BN L 6 L.length
def J1 (o:Option AV):Nat:=match o with
 |some (.ptr i _)=>i
 |_=>0
def dn (s:St) (q:Nat):List (Nat×Ah):=List.rec (motive:=λ_=>List (Nat×Ah)) [] (λt _ r=>cond (Nat.beq t q) r (Option.rec (motive:=λ_=>List (Nat×Ah)) r (λv=>(t,v)::r) (s.H.get t))) (List.range s.nx)
def cQ (s:St) (id n:Nat):Al:=(EV s.H id 0 n).getD []
def KT (D:At):Ah:=.cells 51 .leaf (.rows 3 (rD D)) (D.length*3) true
def Al6 (M:List (Int×Int)):Ah:=.cells 57 .leaf (.rows 2 (rM M)) (M.length*2) true
def Al3 (l:List A6):Ah:=.cells 93 .leaf (.rows 4 (Fl l)) (l.length*4) true
def th (l:Al):Ah:=.cells 31 .leaf (.Dv l) 9 false
def xc (n:Nat):B0:={X:=At,T:=λs _ D=>(4,.AR s.nx D.length 3)::Ig s [1,2,5],H:=λs _ D=>(s.nx,KT D)::Xs s [0,1,J1 (s.T.get 5)],nx:=λs _=>s.nx+1,I:=λ_ D=>D.length<=n,m:=λ_=>0}
structure RI (L:List Ab) (i:Nat) (D:List (Int×Int×Int)) (M:List (Int×Int)):Prop where
 le:i<=L.length
 dl:D.length<=2+2*i
 ml:M.length=i
 mn:∀j,j<i->0<=(M.getD j (0,0)).2/\(M.getD j (0,0)).2<=L.length/\((M.getD j (0,0)).1=2->(M.getD j (0,0)).2<BN L 6 L.length)
def SR2 (L:Ac):B0:={X:=Nat×At×List (Int×Int),T:=λs _ x=>(4,.AR s.nx x.2.1.length 3)::(8,.int .i64 x.1)::Ig s [1,2,6,7],H:=λs _ x=>(J1 (s.T.get 6),th [.AR (s.nx+1) x.2.2.length 2,.AW,.AW,.AW,.AW,.AW,.AW,.AW,.int .i64 0])::(s.nx,KT x.2.1)::(s.nx+1,Al6 x.2.2)::Xs s [0,1],nx:=λs _=>s.nx+2,I:=λ_ x=>RI L x.1 x.2.1 x.2.2,m:=λx=>L.length-x.1}
structure Y9 (L:List Ab) (i:Nat) (O Lo C G Co E:List Int):Prop where
 le:i<=L.length
 ol:O.length=i
 ll:Lo.length<=i
 cl:C.length<=i
 Av:Co.length<=i
 el:E.length<=i
 cm:∀c∈C,0<=c/\c<L.length
 gl:G.length=BN L 6 i
structure NS where
 i:Nat
 O:List Int
 Lo:List Int
 C:List Int
 G:List Int
 Co:List Int
 E:List Int
def SF1 (L:Ac):B0:={X:=NS,T:=λs _ x=>(7,.int .i64 x.i)::Ig s [1,2,3,6],H:=λs _ x=>(J1 (s.T.get 2),th (((cQ s (J1 (s.T.get 2)) 9).take 1)++[.AR s.nx x.O.length 1,.AR (s.nx+1) x.Lo.length 1,.AR (s.nx+2) x.C.length 1,.AR (s.nx+3) x.G.length 1,.AR (s.nx+4) x.Co.length 1,.AR (s.nx+5) x.E.length 1,.AW,.int .i64 0])):: (s.nx,Oa x.O)::(s.nx+1,Oa x.Lo)::(s.nx+2,Oa x.C)::(s.nx+3,Oa x.G)::(s.nx+4,Oa x.Co)::(s.nx+5,Oa x.E)::dn s (J1 (s.T.get 2)),nx:=λs _=>s.nx+6,I:=λ_ x=>Y9 L x.i x.O x.Lo x.C x.G x.Co x.E,m:=λx=>L.length-x.i}
def SF2 (L:Ac):B0:={X:=Nat×List A6×Int,T:=λs _ x=>(8,.int .i64 x.1)::Ig s [1,2,3,6],H:=λs _ x=>(J1 (s.T.get 2),th (((cQ s (J1 (s.T.get 2)) 9).take 7)++[.AR s.nx x.2.1.length 4,.int .i64 x.2.2]))::(s.nx,Al3 x.2.1)::dn s (J1 (s.T.get 2)),nx:=λs _=>s.nx+1,I:=λ_ x=>x.1<=L.length/\x.2.1.length=x.1,m:=λx=>L.length-x.1}
def SF3 (L:Ac):B0:={X:=Nat×Af,T:=λs _ x=>(11,.int .i64 x.1)::Ig s [1,2,3,6,8,9,10],H:=λs _ x=>(J1 (s.T.get 9),.cells 93 .leaf (.Dv (((cQ s (J1 (s.T.get 9)) 4).take 3)++[.AR s.nx x.2.length 1])) 4 false)::(s.nx,Oa x.2)::dn s (J1 (s.T.get 9)),nx:=λs _=>s.nx+1,I:=λ_ x=>x.1<=L.length/\x.2.length<=x.1,m:=λx=>L.length-x.1}
theorem AkH:∀N:Nat,BC Tryz.prog 40 (W5 N):=by
 intro N
 induction N with
 |zero=>
  refine Cw (gl:=[]) (ng:=0) AS λH args ct r=>?_;unfold W5 at r;split at r
  ·injection r with r;subst r;refine⟨AS,_,_,rfl,?_⟩;rintro⟨L,U,rfl,rfl,rfl,rfl,hT,x,J,B,z⟩;omega
  ·cases r
 |succ N y=>
  refine Cw (gl:=[]) (ng:=0) AS λH args ct r=>?_;unfold W5 at r;split at r
  ·rename_i n f m g a;injection r with r;subst r;refine⟨AS,_,_,rfl,?_⟩;rintro⟨L,U,rfl,rfl,rfl,rfl,hT,x,J,B,z⟩;obtain⟨b,rfl⟩:∃b:Nat,a=b:=⟨a.toNat,by omega⟩;rw[Et,DY,EC];exact⟨⟨FK L,⟨rfl,rfl,⟨λi _=>Ob _ i⟩⟩,⟨rfl,rfl⟩,trivial⟩,zO N L U b,60,rfl,Cc,BD eb (BD Akl (BD y Bk)),AnH N L U b hT x (by omega) (by omega)⟩
  ·cases r
def rtR:Pr:=[(15,vY),(16,vX),(17,vQ),(38,vO)]
theorem Amd:Pt Tryz.prog rtR:=LI Alj (LI Ale (LI AkE (LI Aks (VM _))))
def htR:CZ:=[(42,SZ Tryz.prog pU)]
theorem AiC:Es Tryz.prog htR:=Dj (UA Aku) (UC _)
def zU (L:Ac):Ctx:={P:=Tryz.prog,tb:=[(13,pZ),(14,W1),(39,pd),(40,W5 (L.length+1)),(41,W2 (L.length+1))],rt:=rtR,VL:=Amd,ht:=htR,AA:=AiC,lp:=λf r=>cond (Nat.beq f 7) (cond (Nat.beq r 12) (some (SR2 L)) none) (cond (Nat.beq f 18) (cond (Nat.beq r 3) (some (SF1 L)) (cond (Nat.beq r 18) (some (SF2 L)) (cond (Nat.beq r 25) (some (SF3 L)) none))) none),cut:=λf r=>cond (Nat.beq f 7) (cond (Nat.beq r 7) (some (xc 1)) (cond (Nat.beq r 9) (some (xc 2)) none)) none}
theorem wh (r:List (Nat×Nat)) (x:Int×Int×Int):AZ r (M5 x) (M5 x):=⟨⟨rfl,rfl⟩,⟨rfl,rfl⟩,⟨rfl,rfl⟩,trivial⟩
theorem iq (r:List (Nat×Nat)) (x:Int×Int):AZ r (UL x) (UL x):=⟨⟨rfl,rfl⟩,⟨rfl,rfl⟩,trivial⟩
theorem Ia {r:List (Nat×Nat)} (l:Af) (v:Int) (g:Nat->Al) (y:g 0=[AV.int .i64 v]):Ar λi=>i.succ<=l.length+1->AZ r (Aq (l++[v]) i) (BA l.length (Aq l) g i):=⟨λj x=>(QS (row:=λz:Int=>[AV.int .i64 z]) (d:=0) (e:=1) (n:=l.length+1) (out:=l) (t:=v) (g:=g) (λt=>⟨⟨rfl,rfl⟩,trivial⟩) y rfl).h j (by have:j<l.length+1:=x;omega)⟩
theorem Rl {r:List (Nat×Nat)} (l:At) (t:Int×Int×Int) (g:Nat->Al) (y:g 0=M5 t):Ar λi=>(i*3).succ<=(l.length+1)*3->AZ r (rD (l++[t]) i) (BA l.length (rD l) g i):=⟨λj x=>(QS (row:=M5) (d:=(0,0,0)) (e:=3) (n:=l.length+1) (out:=l) (t:=t) (g:=g) (λt=>wh r t) y rfl).h j x⟩
theorem bQ {r:List (Nat×Nat)} (l:List (Int×Int)) (t:Int×Int) (g:Nat->Al) (y:g 0=UL t):Ar λi=>(i*2).succ<=(l.length+1)*2->AZ r (rM (l++[t]) i) (BA l.length (rM l) g i):=⟨λj x=>(QS (row:=UL) (d:=(0,0)) (e:=2) (n:=l.length+1) (out:=l) (t:=t) (g:=g) (λt=>iq r t) y rfl).h j x⟩
theorem Xi {α:Type} {d:α} {l m:List α} {i:Nat} (h:i<l.length):(l++m).getD i d=l.getD i d:=by simp[Bt,List.getElem?_append_left h]
theorem dQ {α:Type} {d:α} {l:List α} {t:α}:(l++[t]).getD l.length d=t:=by simp[Bt]
theorem yD {n i:Nat} {f g:Nat->Al} {r:Al} (y:i<n->f i=r) (x:¬i<n->g (i-n)=r):BA n f g i=r:=by
 unfold BA;by_cases h:i<n
 ·rw[show Nat.blt i n=true by simpa[CE]using h,cond_true,y h]
 ·rw[show Nat.blt i n=false by exact Bool.eq_false_iff.2 λhb=>h (by simpa[CE]using hb),cond_false,x h]
theorem Ags {z:List (Nat×Nat)} (l:At) (t r:Int×Int×Int) (g x:Nat->Al) (J:g 0=M5 t) (y:x 0=M5 r):Ar λi=>(i*3).succ<=(l.length+1+1)*3->AZ z (rD (l++[t]++[r]) i) (BA (l.length+1) (BA l.length (rD l) g) x i):=⟨λj K=>by
  have e:BA (l.length+1) (BA l.length (rD l) g) x j=rD (l++[t]++[r]) j:=by
   unfold rD;refine yD (λh=>yD (λB=>?_) λB=>?_) λh=>?_
   ·rw[Xi (by simp;omega),Xi B]
   ·obtain rfl:j=l.length:=by omega
    rw[Xi (by simp),dQ,Of,J]
   ·obtain rfl:j=(l++[t]).length:=by simp;omega
    rw[dQ,show(l++[t]).length-(l.length+1)=0 by simp,y]
  rw[e];exact wh z _⟩
theorem yC {r:List (Nat×Nat)} (l:List A6) (t:A6) (g:Nat->Al) (y:g 0=t.row):Ar λi=>(i*4).succ<=(l.length+1)*4->AZ r (Fl (l++[t]) i) (BA l.length (Fl l) g i):=⟨λj x=>(QS (row:=A6.row) (d:=A6.none) (e:=4) (n:=l.length+1) (out:=l) (t:=t) (g:=g) (λt=>⟨⟨rfl,rfl⟩,⟨rfl,rfl⟩,rfl,⟨rfl,rfl,⟨λi _=>⟨⟨rfl,rfl⟩,trivial⟩⟩⟩,trivial⟩) y rfl).h j x⟩
theorem ZB {L:Ac} {i:Nat} {D y:At} {M:List (Int×Int)} {k n:Int} (h:RI L i D M) (hi:i<L.length) (hD:y.length<=2+2*(i+1)) (hn:0<=n/\n<=L.length/\(k=2->n<BN L 6 L.length)):RI L (i+1) y (M++[(k,n)]):=by
 have r:=h.ml;refine⟨hi,hD,by simp[r],λj z=>?_⟩;rcases D9 j i with x|x
 ·rw[Xi (by omega)];exact h.mn j x
 ·obtain rfl:j=M.length:=by omega
  rw[dQ];exact hn
theorem eG {L:Ac} {k n:Int} (h:∀r:Ac,L.length=r.length->AE L=AE r->(n-0).NonNeg/\((r.length:Int)-n).NonNeg/\(k=2->((BN r 6 r.length:Int)-(n+1)).NonNeg)):0<=n/\n<=L.length/\(k=2->n<BN L 6 L.length):=by obtain⟨z,y,x⟩:=h L rfl rfl;exact⟨z,y,λh=>x h⟩
theorem Tl {L:Ac} {i:Nat} {O Lo C G Co E z r y B x J:Af} (h:Y9 L i O Lo C G Co E) (hi:i<L.length) (Y:z.length=i+1) (W:r.length<=i+1) (V:y.length<=i+1) (U:x.length<=i+1) (S:J.length<=i+1) (R:∀c∈y,0<=c/\c<L.length) (K:B.length=BN L 6 (i+1)):Y9 L (i+1) z r y B x J:=⟨hi,Y,W,V,U,S,R,K⟩
@[reducible] def ZT:Nat×At×List (Int×Int)->Nat×At×List (Int×Int)->Prop:=λ(a r:Nat×At×List (Int×Int))=>List.length (a.2.2)+1=List.length (r.2.2)/\Aa
@[reducible] def mA:Nat×List A6×Int->Prop:=λ(a:Nat×List A6×Int)=>List.length (a.2.1)+1<=9223372036854775807/\(List.length (a.2.1)+1)*56<=140737488355328
def DW (a:NS):=List.length (NS.O a)
@[reducible] def mF:NS->Prop:=λ(a:NS)=>Aa/\Aa/\Aa/\Aa/\Ae (DW a)/\Ar λ(i:Nat)=>B7 i (DW a)->(Aa/\Ae (getD (NS.O a) i (0:Int)))/\True
def FU (a:NS):=List.length (NS.Lo a)
def VG (a:NS) (b:Nat):=getD (NS.Lo a) b (0:Int)
@[reducible] def mM:NS->Prop:=λ(a:NS)=>Aa/\Aa/\Aa/\Aa/\Ae (FU a)/\Ar λ(i:Nat)=>B7 i (FU a)->(Aa/\Ae (VG a i))/\True
def FT (a:At):=List.length (a)
@[reducible] def mT:Nat×At×List (Int×Int)->Nat×At×List (Int×Int)->Prop:=λ(a r:Nat×At×List (Int×Int))=>FT a.2.1+1=FT r.2.1/\Aa
def EP (a:NS):=List.length (NS.G a)
@[reducible] def mZ:NS->Prop:=λ(a:NS)=>Aa/\Aa/\Aa/\Aa/\Ae (EP a)/\Ar λ(i:Nat)=>B7 i (EP a)->(Aa/\Ae (getD (NS.G a) i (0:Int)))/\True
def D7 (a:NS):=List.length (NS.E a)
@[reducible] def m8:NS->Prop:=λ(a:NS)=>Aa/\Aa/\Aa/\Aa/\Ae (D7 a)/\Ar λ(i:Nat)=>B7 i (D7 a)->(Aa/\Ae (getD (NS.E a) i (0:Int)))/\True
def Em (a:NS):=List.length (NS.Co a)
def VH (a:NS) (b:Nat):=getD (NS.Co a) b (0:Int)
@[reducible] def m9:NS->Prop:=λ(a:NS)=>Aa/\Aa/\Aa/\Aa/\Ae (Em a)/\Ar λ(i:Nat)=>B7 i (Em a)->(Aa/\Ae (VH a i))/\True
def Fg (a:NS):=List.length (NS.C a)
@[reducible] def mb:NS->Prop:=λ(a:NS)=>Aa/\Aa/\Aa/\Aa/\Ae (Fg a)/\Ar λ(i:Nat)=>B7 i (Fg a)->(Aa/\Ae (getD (NS.C a) i (0:Int)))/\True
@[reducible] def TG:NS->NS->Prop:=λ(a r:NS)=>Aa/\Aa/\Aa/\Aa/\FU a=FU r/\Ar λ(i:Nat)=>B7 i (FU a)->(Aa/\VG a i=VG r i)/\True
@[reducible] def Wu:NS->NS->Prop:=λ(a r:NS)=>Aa/\Aa/\Aa/\Aa/\Fg a=Fg r/\Ar λ(i:Nat)=>B7 i (Fg a)->(Aa/\getD (NS.C a) i (0:Int)=getD (NS.C r) i (0:Int))/\True
@[reducible] def ZU:NS->NS->Prop:=λ(a r:NS)=>Aa/\Aa/\Aa/\Aa/\EP a=EP r/\Ar λ(i:Nat)=>B7 i (EP a)->(Aa/\getD (NS.G a) i (0:Int)=getD (NS.G r) i (0:Int))/\True
@[reducible] def mB:NS->NS->Prop:=λ(a r:NS)=>Aa/\Aa/\Aa/\Aa/\Em a=Em r/\Ar λ(i:Nat)=>B7 i (Em a)->(Aa/\VH a i=VH r i)/\True
@[reducible] def mC:Nat×Af->Nat×Af->Prop:=λ(a r:Nat×Af)=>Aa/\Aa/\Aa/\Aa/\a.2.length=r.2.length/\Ar λ(i:Nat)=>B7 i a.2.length->(Aa/\DG a.2 i=DG r.2 i)/\True
@[reducible] def ZV:Nat×At×List (Int×Int)->Prop:=λ(a:Nat×At×List (Int×Int))=>True/\some 12=some (11+1)/\Ae (List.length (a.2.2))/\Aa
@[reducible] def mD:Int×Int×Bool->Ac->Prop:=λ(a:Int×Int×Bool) (r:Ac)=>Gy a.2.1/\Int.NonNeg ((CH r)-a.2.1)/\(a.1=(2:Int)->Int.NonNeg ((↑(BN r (6:Int) r.length):Int)-(a.2.1+1)))
@[reducible] def xi:Nat×At×List (Int×Int)->Prop:=λ(a:Nat×At×List (Int×Int))=>List.length (a.2.2)+1<=9223372036854775807/\(List.length (a.2.2)+1)*16<=140737488355328
@[reducible] def ZW:Ac->Af->Nat×At×List (Int×Int)->Ac->Af->Prop:=λ(L:Ac) (a:Af) (y:Nat×At×List (Int×Int)) (r:Ac) (x:Af)=>L.length=r.length/\AE L=AE r/\a.length=x.length/\Aq a=Aq x/\TU r x/\Jx y.1/\Int.NonNeg ((CH r)-(IW y.1))
@[reducible] def xj:Nat×At×List (Int×Int)->Prop:=λ(a:Nat×At×List (Int×Int))=>FT a.2.1+1<=9223372036854775807/\(FT a.2.1+1)*24<=140737488355328
@[reducible] def mE:Af->Prop:=λ(a:Af)=>Cm/\Fh/\(Ae (some 8)/\Aa)/\(DN a)/\True
@[reducible] def mG:Nat×At×List (Int×Int)->NS->NS->Prop:=λ(a:Nat×At×List (Int×Int)) (x r:NS)=>ZV a/\Ae (some 34)/\DW x+1=DW r/\Aa
@[reducible] def Wv:Af->Af->Prop:=λ(a r:Af)=>(DN a)/\(Ae (some 8)/\Aa)/\(Ae (some 14)/\Aa)/\(DN r)/\True
@[reducible] def mH:Nat×At×List (Int×Int)->Nat×At×List (Int×Int)->Prop:=λ(a r:Nat×At×List (Int×Int))=>Aa/\Aa/\Aa/\Aa/\((((((((True/\Ae (some 24)/\ZT a r)/\True)/\True)/\True)/\True)/\True)/\True)/\True)/\Aa/\Ae (0:Int)
def Lw (a:Af) (b:Nat):=toNat (Dm a b)
@[reducible] def mI:Ac->Af->Nat×List A6×Int->Ac->Prop:=λ(L:Ac) (a:Af) (x:Nat×List A6×Int) (r:Ac)=>L.length=r.length/\AE L=AE r/\HZ r/\Good r/\Int.NonNeg (Dm a x.1-0)/\Int.NonNeg ((CH r)-(Dm a x.1+1))/\Nat.le (Nat.succ (r.length-Lw a x.1)) (L.length+1)
@[reducible] def Ww:Af->Nat×At×List (Int×Int)->Nat×At×List (Int×Int)->Prop:=λ(a:Af) (x r:Nat×At×List (Int×Int))=>(Cb x.1 r.1)/\mE a
def Lv (a:NS):=(↑(NS.i a):Int)
@[reducible] def xk:Af->Af->NS->NS->Prop:=λ(a y:Af) (x r:NS)=>(Aa/\(Lv x)+1=(Lv r))/\Wv a y
@[reducible] def mJ:LN×At->Prop:=λ(a:LN×At)=>a.1.M.length=0/\a.1.O.length=0/\a.1.Lo.length=0/\a.1.C.length=0/\a.1.G.length=0/\a.1.Co.length=0/\a.1.E.length=0/\a.1.Fs.length=0/\(Aa/\(0:Int)=a.1.main)/\True
@[reducible] def mK:Af->Af->Nat×List A6×Int->Nat×List A6×Int->Prop:=λ(a y:Af) (x r:Nat×List A6×Int)=>(Cb x.1 r.1)/\Wv a y
def SW (a:Ac) (b:Af) (c:Af) (d:Nat):=AF (FP (Dk a) (NN b) (Lw c d))
@[reducible] def TE:Ac->Af->Af->NS->Nat×List A6×Int->Prop:=λ(L:Ac) (a x:Af) (y:NS) (r:Nat×List A6×Int)=>((True/\Aa/\Ae (Dm x r.1))/\Aa/\Ae (getD (NS.O y) (Lw x r.1) (0:Int)))/\Ae (SW L a x r.1)
@[reducible] def mL:Nat×At×List (Int×Int)->NS->NS->Prop:=λ(a:Nat×At×List (Int×Int)) (x r:NS)=>mG a x r/\some 18=some (17+1)/\FU x=FU r/\Aa
@[reducible] def xm:Ac->Prop:=λ(L:Ac)=>Aa/\Aa/\Aa/\Aa/\True/\Aa/\Ae L.length/\Ar λ(i:Nat)=>AD i L.length->(Aa/\Ae (Ab.kind (Bc L i)))/\Ae (Ab.text (Bc L i))/\(Aa/\Ae (Ab.n (Bc L i)))/\(Aa/\Ae (Ab.line (Bc L i)))/\(Aa/\Ae (Ab.Av (Bc L i)))/\(Hg L i)/\True
@[reducible] def mN:Ac->Af->Af->NS->Nat×List A6×Int->Nat×Af->Prop:=λ(L:Ac) (a z:Af) (y:NS) (x:Nat×List A6×Int) (r:Nat×Af)=>Aa/\Aa/\Aa/\Aa/\TE L a z y x/\r.2.length=0
@[reducible] def mO:Nat×At×List (Int×Int)->NS->NS->Prop:=λ(a:Nat×At×List (Int×Int)) (x r:NS)=>mL a x r/\some 19=some (17+2)/\Fg x=Fg r/\Aa
def C7:=((0:Int),(0:Int))
@[reducible] def Wy:Nat×At×List (Int×Int)->Nat×Af->Prop:=λ(a:Nat×At×List (Int×Int)) (r:Nat×Af)=>(bif bif Nat.ble (r.2.length*1) r.2.length then B1 1 r.2.length (Aq r.2)else false then true else false)=true/\(Aa/\Ae r.2.length/\Ar λ(i:Nat)=>AD i r.2.length->(Aa/\Ae (DG r.2 i))/\True)/\(Aa/\Ae (Prod.snd (getD (a.2.2) (B8 r.1) C7)))/\True
def SS (a:Ac) (b:Af) (c:Nat):=AF (↑(Jf (Dk a) (Lw b c)):Int)
@[reducible] def mP:Ac->Af->Af->Nat×List A6×Int->Prop:=λ(L:Ac) (a x:Af) (r:Nat×List A6×Int)=>(DN a)/\(Ae (some 8)/\Aa)/\(Ae (some 14)/\Aa)/\(DN x)/\(Fj r.1)/\(Ae (some 46)/\Aa)/\(Aa/\Ae (SS L x r.1))/\True
def SE:=(Aa/\Aa/\Aa/\Aa/\((((((((True/\True)/\True)/\True)/\True)/\True)/\True)/\True)/\True)/\Aa/\Ae (0:Int))
def NQ (a:Ac):=xm a
@[reducible] def TF:Ac->Prop:=λ(L:Ac)=>NQ L/\SE/\True
@[reducible] def mQ:Nat×At×List (Int×Int)->NS->NS->Prop:=λ(a:Nat×At×List (Int×Int)) (x r:NS)=>mO a x r/\some 20=some (17+3)/\EP x=EP r/\Aa
@[reducible] def mR:Ac->Af->Af->Nat×List A6×Int->Nat×Af->Prop:=λ(L:Ac) (a x:Af) (r:Nat×List A6×Int) (y:Nat×Af)=>(Aa/\Dm x r.1=(↑y.1:Int))/\mP L a x r
@[reducible] def Wz:Ac->Af->Af->Nat×List A6×Int->Nat×Af->Nat×Af->Prop:=λ(L:Ac) (a z:Af) (y:Nat×List A6×Int) (x r:Nat×Af)=>(Cb x.1 r.1)/\mP L a z y
@[reducible] def mS:Nat×At×List (Int×Int)->NS->NS->Prop:=λ(a:Nat×At×List (Int×Int)) (x r:NS)=>mQ a x r/\some 21=some (17+4)/\Em x=Em r/\Aa
@[reducible] def WA:Nat×At×List (Int×Int)->NS->Prop:=λ(a:Nat×At×List (Int×Int)) (r:NS)=>(((((ZV a/\Ae (some 17)/\Ae (DW r)/\Aa)/\some 18=some (17+1)/\Ae (FU r)/\Aa)/\some 19=some (17+2)/\Ae (Fg r)/\Aa)/\some 20=some (17+3)/\Ae (EP r)/\Aa)/\some 21=some (17+4)/\Ae (Em r)/\Aa)/\some 22=some (17+5)/\Ae (D7 r)/\Aa
@[reducible] def ZX:Nat×At×List (Int×Int)->Prop:=λ(a:Nat×At×List (Int×Int))=>Aa/\Aa/\Aa/\Aa/\Ae (List.length (a.2.2)*2)/\Ar λ(i:Nat)=>Nat.le (Nat.succ (i*2)) (List.length (a.2.2)*2)->(Aa/\Ae (Prod.fst (getD (a.2.2) i C7)))/\(Aa/\Ae (Prod.snd (getD (a.2.2) i C7)))/\True
@[reducible] def mU:Nat×At×List (Int×Int)->NS->Nat×List A6×Int->Prop:=λ(a:Nat×At×List (Int×Int)) (x:NS) (r:Nat×List A6×Int)=>WA a x/\Ae (some 23)/\Ae (List.length (r.2.1))/\Aa
@[reducible] def WB:Ac->Prop:=λ(L:Ac)=>NQ L/\SE/\(Aa/\Aa/\Aa/\Aa/\(((((True/\Aa/\Ae (Ab.kind (IQ L)))/\Ae (Ab.text (IQ L)))/\Aa/\Ae (Ab.n (IQ L)))/\Aa/\Ae (Ab.line (IQ L)))/\Aa/\Ae (Ab.Av (IQ L)))/\Aa/\Ae (List.length (Ab.kids (IQ L)))/\Ar λ(i:Nat)=>AD i (List.length (Ab.kids (IQ L)))->(Aa/\Ae (getD (Ab.kids (IQ L)) i (0:Int)))/\True)/\True
def HV (a:Nat):=Nat.le (Nat.succ (a*3))
def NG:=((0:Int),(0:Int),(0:Int))
@[reducible] def ZY:Nat×At×List (Int×Int)->Prop:=λ(a:Nat×At×List (Int×Int))=>Aa/\Aa/\Aa/\Aa/\Ae (FT a.2.1*3)/\Ar λ(i:Nat)=>HV i (FT a.2.1*3)->(Aa/\Ae (Prod.fst (getD (a.2.1) i NG)))/\(Aa/\Ae (Prod.fst (Prod.snd (getD (a.2.1) i NG))))/\(Aa/\Ae (Prod.snd (Prod.snd (getD (a.2.1) i NG))))/\True
@[reducible] def ZZ:Ac->Nat×At×List (Int×Int)->Prop:=λ(L:Ac) (a:Nat×At×List (Int×Int))=>NQ L/\SE/\ZY a/\ZX a/\NQ L/\True
@[reducible] def mV:Ac->Nat×At×List (Int×Int)->NS->NS->Prop:=λ(L:Ac) (a:Nat×At×List (Int×Int)) (r x:NS)=>(Aa/\Aa/\Aa/\Aa/\D7 r=D7 x/\Ar λ(i:Nat)=>B7 i (D7 r)->(Aa/\getD (NS.E r) i (0:Int)=getD (NS.E x) i (0:Int))/\True)/\ZZ L a
@[reducible] def mW:Ac->Nat×At×List (Int×Int)->NS->NS->Prop:=λ(L:Ac) (a:Nat×At×List (Int×Int)) (x r:NS)=>mB x r/\mV L a x r
@[reducible] def mX:Ac->Nat×At×List (Int×Int)->NS->NS->Prop:=λ(L:Ac) (a:Nat×At×List (Int×Int)) (x r:NS)=>ZU x r/\mW L a x r
@[reducible] def mY:Ac->Nat×At×List (Int×Int)->NS->NS->Prop:=λ(L:Ac) (a:Nat×At×List (Int×Int)) (x r:NS)=>Wu x r/\mX L a x r
@[reducible] def Z0:Ac->Nat×At×List (Int×Int)->NS->Prop:=λ(L:Ac) (a:Nat×At×List (Int×Int)) (r:NS)=>NQ L/\SE/\ZY a/\ZX a/\NQ L/\mF r/\mM r/\mb r/\mZ r/\m9 r/\m8 r/\True
def SP (a:List A6) (b:Nat):=getD (a) b A6.none
@[reducible] def m5:Ac->Nat×At×List (Int×Int)->NS->Nat×List A6×Int->Prop:=λ(L:Ac) (a:Nat×At×List (Int×Int)) (x:NS) (r:Nat×List A6×Int)=>ZY a/\ZX a/\NQ L/\mF x/\mM x/\mb x/\mZ x/\m9 x/\m8 x/\(Aa/\Aa/\Aa/\Aa/\Ae (List.length (r.2.1)*4)/\Ar λ(i:Nat)=>Nat.le (Nat.succ (i*4)) (List.length (r.2.1)*4)->(Aa/\Ae (A6.Pf (SP r.2.1 i)))/\(Aa/\Ae (A6.up (SP r.2.1 i)))/\Ae (A6.name (SP r.2.1 i))/\(Aa/\Ae (List.length (A6.Hs (SP r.2.1 i)))/\Ar λ(y:Nat)=>AD y (List.length (A6.Hs (SP r.2.1 i)))->(Aa/\Ae (getD (A6.Hs (SP r.2.1 i)) y (0:Int)))/\True)/\True)/\True
@[reducible] def Z1:Ac->Nat×At×List (Int×Int)->NS->Nat×List A6×Int->Prop:=λ(L:Ac) (a:Nat×At×List (Int×Int)) (x:NS) (r:Nat×List A6×Int)=>NQ L/\SE/\(Aa/\Aa/\Aa/\Aa/\mU a x r/\Aa/\Ae (↑r.1:Int))/\m5 L a x r
@[reducible] def Z2:Ac->Nat×At×List (Int×Int)->NS->Nat×List A6×Int->Prop:=λ(L:Ac) (a:Nat×At×List (Int×Int)) (x:NS) (r:Nat×List A6×Int)=>NQ L/\SE/\(Aa/\Aa/\Aa/\Aa/\mU a x r/\Aa/\Ae r.2.2)/\m5 L a x r
def QL (a:Nat) (b:Ac) (c:Nat×Af):=(Fk a b/\Nat.le c.2.length a)
@[reducible] def WC:Ac->Af->Nat×At×List (Int×Int)->Af->NS->Nat×List A6×Int->Nat×Af->Nat×Af->Prop:=λ(L:Ac) (a:Af) (J:Nat×At×List (Int×Int)) (B:Af) (z:NS) (y:Nat×List A6×Int) (x r:Nat×Af)=>(QL r.1 L r)/\Dx L r.1 x.1/\Aa/\Wz L a B y x r/\(Aa/\Aa/\Aa/\Aa/\TE L a B z y/\Ae (some 68)/\x.2.length=r.2.length/\Aa)/\mC x r/\Z1 L J z y
@[reducible] def WD:Ac->Af->Nat×At×List (Int×Int)->Af->NS->Nat×List A6×Int->Nat×Af->Nat×Af->Prop:=λ(L:Ac) (a:Af) (J:Nat×At×List (Int×Int)) (B:Af) (z:NS) (y:Nat×List A6×Int) (x r:Nat×Af)=>(QL r.1 L r)/\Dx L r.1 x.1/\Aa/\Wz L a B y x r/\(Aa/\Aa/\Aa/\Aa/\TE L a B z y/\Ae (some 67)/\x.2.length=r.2.length/\Aa)/\mC x r/\Z2 L J z y
@[reducible] def m6:Ac->Af->Nat×At×List (Int×Int)->Af->NS->Nat×List A6×Int->Nat×Af->Nat×Af->Prop:=λ(L:Ac) (a:Af) (K:Nat×At×List (Int×Int)) (J:Af) (B:NS) (z:Nat×List A6×Int) (r y:Nat×Af)=>(QL y.1 L y)/\Dx L y.1 r.1/\Aa/\Wz L a J z r y/\(Aa/\Aa/\Aa/\Aa/\TE L a J B z/\Ae (some 99)/\r.2.length+1=y.2.length/\Aa)/\(Aa/\Aa/\Aa/\Aa/\(r.2.length+1)*1=y.2.length/\Ar λ(i:Nat)=>B7 i ((r.2.length+1)*1)->AZ [(23,23),(22,22),(21,21),(20,20),(19,19),(18,18),(17,17),(68,99),(46,46),(14,14),(0,0),(1,1),(2,2),(3,3),(4,4),(5,5),(6,6),(7,7),(8,8),(9,9),(10,10),(11,11),(12,12),(13,13)] (Aq y.2 i) (BA r.2.length (Aq r.2) (λ(x:Nat)=>[AV.int .i64 (Prod.snd (getD (K.2.2) (B8 r.1) C7))]) i))/\Z1 L K B z
@[reducible] def m7:Ac->Af->Nat×At×List (Int×Int)->Af->NS->Nat×List A6×Int->Nat×Af->Nat×Af->Prop:=λ(L:Ac) (a:Af) (K:Nat×At×List (Int×Int)) (J:Af) (B:NS) (z:Nat×List A6×Int) (r y:Nat×Af)=>(QL y.1 L y)/\Dx L y.1 r.1/\Aa/\Wz L a J z r y/\(Aa/\Aa/\Aa/\Aa/\TE L a J B z/\Ae (some 98)/\r.2.length+1=y.2.length/\Aa)/\(Aa/\Aa/\Aa/\Aa/\(r.2.length+1)*1=y.2.length/\Ar λ(i:Nat)=>B7 i ((r.2.length+1)*1)->AZ [(23,23),(22,22),(21,21),(20,20),(19,19),(18,18),(17,17),(67,98),(46,46),(14,14),(0,0),(1,1),(2,2),(3,3),(4,4),(5,5),(6,6),(7,7),(8,8),(9,9),(10,10),(11,11),(12,12),(13,13)] (Aq y.2 i) (BA r.2.length (Aq r.2) (λ(x:Nat)=>[AV.int .i64 (Prod.snd (getD (K.2.2) (B8 r.1) C7))]) i))/\Z2 L K B z
def Vc (a:At) (b:Nat):=getD a b ((0:Int),(0:Int),(0:Int))
def Sv (a:NS) (b:Ac) (c:Af) (d:Af):=BA (List.length (NS.O a)) (Aq (NS.O a)) (λ(r:Nat)=>[AV.int .i64 (AF (F9 (H4 b.length (AE b)) (Dy c.length (Aq c)) (Dy d.length (Aq d)) (toNat (↑(NS.i a):Int))))])
def Js:=((True/\True/\True/\True/\True/\True/\True)/\True)
def O0 (a:Ac) (b:NS):=Y9 a (NS.i b) (NS.O b) (NS.Lo b) (NS.C b) (NS.G b) (NS.Co b) (NS.E b)
def Jq:=Program.cellsOf Tryz.prog
def O3 (a:At) (b:Nat):=Prod.snd (Vc a b)
def Ym (a:Nat×At×List (Int×Int)):=Ap (bif bif Nat.ble (a.2.2.length*2) (a.2.2.length*2)then true else false then decide (xi a)else false)
def Yj (a:List (Int×Int)) (b:Nat) (c:Nat×Af) (d:Af):=Ag (!Ay (decide (Prod.snd (getD a (toNat (↑b:Int)) ((0:Int),(0:Int)))∈Dy c.2.length (Aq d))))
def SF (a:Ac) (b:NS) (c:NS):=Nat.le (Nat.succ (a.length-NS.i b)) (a.length-NS.i c)
def Vm (a:Ac) (b:NS):=Au (Ab.kind (getD a (toNat (Lv b)) Ab.none))
def Yh (a:Nat×Af) (b:Af):=(∃(r:Af),a.2.length=r.length/\Aq b=Aq r/\Nat.le r.length 1000000)
def KL (a:LN×At) (b:Nat):=getD a.1.Fs b A6.none
def ur:=AZ [(22,40),(21,21),(20,20),(19,19),(18,18),(17,34),(14,14),(0,0),(1,1),(2,2),(3,3),(4,4),(5,5),(6,6),(7,7),(8,8),(9,9),(10,10),(11,11),(12,12),(13,13)]
def uu:=AZ [(22,22),(21,40),(20,20),(19,19),(18,18),(17,34),(14,14),(0,0),(1,1),(2,2),(3,3),(4,4),(5,5),(6,6),(7,7),(8,8),(9,9),(10,10),(11,11),(12,12),(13,13)]
def uw:=AZ [(22,22),(21,21),(20,40),(19,19),(18,18),(17,34),(14,14),(0,0),(1,1),(2,2),(3,3),(4,4),(5,5),(6,6),(7,7),(8,8),(9,9),(10,10),(11,11),(12,12),(13,13)]
def uz:=AZ [(22,22),(21,21),(20,20),(19,40),(18,18),(17,34),(14,14),(0,0),(1,1),(2,2),(3,3),(4,4),(5,5),(6,6),(7,7),(8,8),(9,9),(10,10),(11,11),(12,12),(13,13)]
def vA:=AZ [(22,22),(21,21),(20,20),(19,19),(18,40),(17,34),(14,14),(0,0),(1,1),(2,2),(3,3),(4,4),(5,5),(6,6),(7,7),(8,8),(9,9),(10,10),(11,11),(12,12),(13,13)]
def O6 (a:At) (b:Nat) (c:At):=(Aa/\Prod.snd (O3 a b)=Prod.snd (O3 c b))
def HX (a:At) (b:Nat):=Prod.fst (O3 a b)
def HY (a:At) (b:Nat):=Prod.fst (Vc a b)
def Vt (a:NS) (b:Af) (c:Nat):=AV.int .i64 (getD (NS.O a) (Lw b c) (0:Int))
def SK (a:NS):=Ap (Bf .i64 ((Lv a)+1))
def uj (a:Ac):=(∃(r:Ac),a.length=r.length/\AE a=AE r/\HZ r/\Int.NonNeg (CX a-0)/\Int.NonNeg ((CH r)-CX a))
def Vv (a:NS):=(λ(r:Nat)=>[AV.int .i64 (Lv a)])
def QB (a:Ac) (b:Nat):=AV.int .i64 (Ab.line (CA a b))
def QC (a:Ac) (b:Nat):=AV.int .i64 (Ab.Av (CA a b))
def Yy (a:Int) (b:Int):=(λ(r:Nat)=>[AV.int .i64 a,AV.int .i64 b])
def Jz (a:Nat×List A6×Int):=a.2.1.length
def NU (a:Af) (b:Nat):=AV.int .i64 (Dm a b)
def YB (a:Nat) (b:Nat×At×List (Int×Int)):=Nat.le (Nat.succ (a*2)) ((b.2.2.length+1)*2)
def vE (a:Nat×At×List (Int×Int)):=Ap (bif bif Nat.ble (a.2.1.length*3) (a.2.1.length*3)then true else false then decide (xj a)else false)
def SO (a:Nat) (b:NS):=B7 a ((DW b+1)*1)
def SL (a:List A6) (b:Nat):=getD a b A6.none
def vD (a:Nat) (b:Nat×At×List (Int×Int)) (c:List (Int×Int)):=Ap (bif Nat.ble (B8 a*2+0+Jq 57) (b.2.2.length*2)then Nat.ble (Jq 57) (List.length (List.drop 0 (rM c (B8 a))))else false)
def SM (a:List (Int×Int)) (b:Nat):=getD a (B8 b) C7
def gW (a:Ac):=(∃(r:Ac),a.length=r.length/\AE a=AE r/\Hn r)
def YD:=(Ae (some 4)/\Aa)
def SY (a:Af):=xk a
theorem Aok:∀(L:Ac),Hn L->(gW L)/\Ag (!Ay (OC (Dk L))) (∃(x:LN×At),(x.2≠[]\/LY L x.1)/\mJ x/\(Aa/\1=x.2.length/\Ar λ(i:Nat)=>AD i 1->(Aa/\(0:Int)=HY x.2 i)/\(Aa/\(0:Int)=HX x.2 i)/\(Aa/\(2:Int)=Prod.snd (O3 x.2 i))/\True)/\True) (Ap (AO (0:Int) L.length) (((uj L)/\Ag (Au (AF (↑(BN (Dk L) (11:Int) (CT L)):Int)) (0:Int)) (∃(x:At),Nat.le x.length 1/\Aa/\((Ae (some 9)/\Aa/\1=x.length/\Aa)/\Cm/\Fh/\YD/\True)/\(Aa/\Aa/\Aa/\3=x.length*3/\((True/\Aa/\Ab.line (IQ L)=Prod.fst (getD x 0 NG))/\Aa/\Ab.Av (IQ L)=Prod.fst (Prod.snd (getD x 0 NG)))/\Aa/\(13:Int)=Prod.snd (Prod.snd (getD x 0 NG)))/\WB L) (∃(x:At),Nat.le x.length 1/\Aa/\(x.length=0/\Cm/\Fh/\YD/\True)/\(Aa/\True)/\WB L))/\∀(x:At),Nat.le x.length 1->((uj L)/\Ag (Au (AF (↑(BN (Dk L) (2:Int) (CT L)):Int)) (0:Int)) (Ap (bif bif Nat.ble (x.length*3) (x.length*3)then true else false then decide (x.length+1<=9223372036854775807/\(x.length+1)*24<=140737488355328)else false) (∃(S:At),Nat.le S.length 2/\Aa/\((Ae (some 10)/\x.length+1=S.length/\Aa)/\Cm/\Fh/\YD/\True)/\(Aa/\Aa/\Aa/\Aa/\(x.length+1)*3=S.length*3/\Ar λ(i:Nat)=>HV i ((x.length+1)*3)->AZ [(4,4),(1,1),(0,0),(7,10)] (rD S i) (BA x.length (rD x) (λ(x:Nat)=>[AV.int .i64 (Ab.line (IQ L)),AV.int .i64 (Ab.Av (IQ L)),AV.int .i64 (13:Int)]) i))/\WB L)) (∃(S:At),Nat.le S.length 2/\Aa/\((Ae (some 6)/\x.length=S.length/\Aa)/\Cm/\Fh/\YD/\True)/\(Aa/\Aa/\Aa/\Aa/\x.length*3=S.length*3/\Ar λ(i:Nat)=>HV i (x.length*3)->(Aa/\HY x i=HY S i)/\(Aa/\HX x i=HX S i)/\(O6 x i S)/\True)/\WB L))/\∀(x:At),Nat.le x.length 2->(∃(V:Ac),L.length=V.length/\AE L=AE V/\HZ V/\Good V)/\∀(S:Af),(∀(V:Ac),L.length=V.length->AE L=AE V->Oj V S)->(∃(Y:Nat×At×List (Int×Int)),RI L Y.1 Y.2.1 Y.2.2/\Aa/\((Ae (some 7)/\x.length=Y.2.1.length/\Aa)/\(Cr Y.1)/\mE S)/\(Aa/\Aa/\Aa/\Aa/\((((((((True/\Y.2.2.length=0)/\True)/\True)/\True)/\True)/\True)/\True)/\True)/\Aa/\Ae (0:Int))/\(Aa/\Aa/\Aa/\Aa/\x.length*3=Y.2.1.length*3/\Ar λ(i:Nat)=>HV i (x.length*3)->(Aa/\HY x i=HY Y.2.1 i)/\(Aa/\HX x i=HX Y.2.1 i)/\(O6 x i Y.2.1)/\True)/\(Aa/\True)/\TF L)/\∀(x:Nat×At×List (Int×Int)),RI L x.1 x.2.1 x.2.2->Ag (Dh x.1 (CX L)) (C6 x.1 L ((∃(V:Ac),∃(U:Af),ZW L S x V U)/\∀(R:Bool),True->Ag R (vE x ((∃(V:Ac),∃(U:Af),ZW L S x V U)/\∀(r:Int×Int×Bool),(∀(V:Ac),L.length=V.length->AE L=AE V->mD r V)->Ag (!r.2.2) (Ap (bif bif Nat.ble ((x.2.1.length+1)*3) ((x.2.1.length+1)*3)then true else false then decide (x.2.1.length+1+1<=9223372036854775807/\(x.2.1.length+1+1)*24<=140737488355328)else false) (Ym x (Bj x.1 (∃(J:Nat×At×List (Int×Int)),RI L J.1 J.2.1 J.2.2/\Dx L J.1 x.1/\Aa/\((Ae (some 24)/\x.2.1.length+1+1=J.2.1.length/\Aa)/\Ww S x J)/\(Aa/\Aa/\Aa/\Aa/\((((((((True/\Ae (some 26)/\ZT x J)/\True)/\True)/\True)/\True)/\True)/\True)/\True)/\Aa/\Ae (0:Int))/\(Aa/\Aa/\Aa/\Aa/\(x.2.1.length+1+1)*3=J.2.1.length*3/\Ar λ(i:Nat)=>HV i ((x.2.1.length+1+1)*3)->AZ [(12,26),(8,8),(1,1),(0,0),(11,24)] (rD J.2.1 i) (BA (x.2.1.length+1) (BA x.2.1.length (rD x.2.1) λ(K:Nat)=>[QB L x.1,QC L x.1,AV.int .i64 (7:Int)]) (λ(K:Nat)=>[QB L x.1,QC L x.1,AV.int .i64 (6:Int)]) i))/\(Aa/\Aa/\Aa/\Aa/\(x.2.2.length+1)*2=J.2.2.length*2/\Ar λ(i:Nat)=>YB i x->AZ [(12,26),(8,8),(1,1),(0,0),(11,24)] (rM J.2.2 i) (BA x.2.2.length (rM x.2.2) (Yy r.1 r.2.1) i))/\TF L)))) (Ym x (Bj x.1 (∃(J:Nat×At×List (Int×Int)),RI L J.1 J.2.1 J.2.2/\Dx L J.1 x.1/\Aa/\((Ae (some 18)/\mT x J)/\Ww S x J)/\mH x J/\(Aa/\Aa/\Aa/\Aa/\(x.2.1.length+1)*3=J.2.1.length*3/\Ar λ(i:Nat)=>HV i ((x.2.1.length+1)*3)->AZ [(12,24),(8,8),(1,1),(0,0),(11,18)] (rD J.2.1 i) (BA x.2.1.length (rD x.2.1) (λ(K:Nat)=>[QB L x.1,QC L x.1,AV.int .i64 (7:Int)]) i))/\(Aa/\Aa/\Aa/\Aa/\(x.2.2.length+1)*2=J.2.2.length*2/\Ar λ(i:Nat)=>YB i x->AZ [(12,24),(8,8),(1,1),(0,0),(11,18)] (rM J.2.2 i) (BA x.2.2.length (rM x.2.2) (Yy r.1 r.2.1) i))/\TF L))))) ((∃(V:Ac),∃(U:Af),ZW L S x V U)/\∀(r:Int×Int×Bool),(∀(V:Ac),L.length=V.length->AE L=AE V->mD r V)->Ag (!r.2.2) (vE x (Ym x (Bj x.1 (∃(J:Nat×At×List (Int×Int)),RI L J.1 J.2.1 J.2.2/\Dx L J.1 x.1/\Aa/\((Ae (some 22)/\mT x J)/\Ww S x J)/\mH x J/\(Aa/\Aa/\Aa/\Aa/\(x.2.1.length+1)*3=J.2.1.length*3/\Ar λ(i:Nat)=>HV i ((x.2.1.length+1)*3)->AZ [(12,24),(8,8),(1,1),(0,0),(11,22)] (rD J.2.1 i) (BA x.2.1.length (rD x.2.1) (λ(K:Nat)=>[QB L x.1,QC L x.1,AV.int .i64 (6:Int)]) i))/\(Aa/\Aa/\Aa/\Aa/\(x.2.2.length+1)*2=J.2.2.length*2/\Ar λ(i:Nat)=>YB i x->AZ [(12,24),(8,8),(1,1),(0,0),(11,22)] (rM J.2.2 i) (BA x.2.2.length (rM x.2.2) (Yy r.1 r.2.1) i))/\TF L)))) (Ym x (Bj x.1 (∃(J:Nat×At×List (Int×Int)),RI L J.1 J.2.1 J.2.2/\Dx L J.1 x.1/\Aa/\((Ae (some 11)/\x.2.1.length=J.2.1.length/\Aa)/\Ww S x J)/\(Aa/\Aa/\Aa/\Aa/\((((((((True/\Ae (some 22)/\ZT x J)/\True)/\True)/\True)/\True)/\True)/\True)/\True)/\Aa/\Ae (0:Int))/\(Aa/\Aa/\Aa/\Aa/\x.2.1.length*3=J.2.1.length*3/\Ar λ(i:Nat)=>HV i (x.2.1.length*3)->(Aa/\HY x.2.1 i=HY J.2.1 i)/\(Aa/\HX x.2.1 i=HX J.2.1 i)/\(O6 x.2.1 i J.2.1)/\True)/\(Aa/\Aa/\Aa/\Aa/\(x.2.2.length+1)*2=J.2.2.length*2/\Ar λ(i:Nat)=>YB i x->AZ [(12,22),(8,8),(1,1),(0,0),(11,11)] (rM J.2.2 i) (BA x.2.2.length (rM x.2.2) (Yy r.1 r.2.1) i))/\TF L)))))) (Ag (AP (0:Int) (Int.ofNat x.2.1.length)) (∃(R:LN×At),(R.2≠[]\/LY L R.1)/\Ap (bif bif Nat.ble (x.2.1.length*3) (x.2.1.length*3)then B1 3 x.2.1.length (rD x.2.1)else false then true else false) (mJ R/\(Aa/\x.2.1.length=R.2.length/\Ar λ(i:Nat)=>AD i x.2.1.length->(Aa/\HY x.2.1 i=HY R.2 i)/\(Aa/\HX x.2.1 i=HX R.2 i)/\(O6 x.2.1 i R.2)/\True)/\True)) ((OZ L)/\∀(R:Af),(∀(V:Ac),L.length=V.length->AE L=AE V->LS V R)->(∃(Y:NS),O0 L Y/\Aa/\((Aa/\(0:Int)=(Lv Y))/\Wv S R)/\(Aa/\Aa/\Aa/\Aa/\(((((((ZV x/\DW Y=0)/\FU Y=0)/\Fg Y=0)/\EP Y=0)/\Em Y=0)/\D7 Y=0)/\True)/\Aa/\Ae (0:Int))/\(Aa/\True)/\(Aa/\True)/\(Aa/\True)/\(Aa/\True)/\(Aa/\True)/\(Aa/\True)/\ZZ L x)/\∀(r:NS),O0 L r->Ag (AP (Lv r) (CX L)) ((∃(V:Ac),∃(U:Af),∃(F:Af),L.length=V.length/\AE L=AE V/\S.length=U.length/\Aq S=Aq U/\R.length=F.length/\Aq R=Aq F/\TU V U/\LS V F/\Int.NonNeg ((Lv r)-0)/\Int.NonNeg ((CH V)-((Lv r)+1)))/\Ap (bif bif Nat.ble (DW r*1) (DW r)then true else false then decide (List.length (NS.O r)+1<=9223372036854775807/\(List.length (NS.O r)+1)*8<=140737488355328)else false) ((DV/\DV/\DV/\((True/\Ae (AV.AR 17 (DW r) 1)/\True)/\True)/\True)/\Ap (AO (Lv r) L.length) (Ag (Vm L r (2:Int)) (Ap (bif bif Nat.ble (FU r*1) (FU r)then true else false then decide (List.length (NS.Lo r)+1<=9223372036854775807/\(List.length (NS.Lo r)+1)*8<=140737488355328)else false) (SK r (∃(J:NS),O0 L J/\SF L J r/\Aa/\SY S R r J/\(Aa/\Aa/\Aa/\Aa/\((((((mG x r J/\Ae (some 40)/\FU r+1=FU J/\Aa)/\some 19=some (17+2)/\Fg r=Fg J/\Aa)/\some 20=some (17+3)/\EP r=EP J/\Aa)/\some 21=some (17+4)/\Em r=Em J/\Aa)/\some 22=some (17+5)/\D7 r=D7 J/\Aa)/\True)/\Aa/\Ae (0:Int))/\(Aa/\Aa/\Aa/\Aa/\(DW r+1)*1=DW J/\Ar λ(i:Nat)=>SO i r->vA (Aq (NS.O J) i) (Sv r L S R i))/\(Aa/\Aa/\Aa/\Aa/\(FU r+1)*1=FU J/\Ar λ(i:Nat)=>B7 i ((FU r+1)*1)->vA (Aq (NS.Lo J) i) (BA (FU r) (Aq (NS.Lo r)) (Vv r) i))/\mY L x r J))) (Ag (Vm L r (3:Int)) (Ap (bif bif Nat.ble (Fg r*1) (Fg r)then true else false then decide (List.length (NS.C r)+1<=9223372036854775807/\(List.length (NS.C r)+1)*8<=140737488355328)else false) (SK r (∃(J:NS),O0 L J/\SF L J r/\Aa/\SY S R r J/\(Aa/\Aa/\Aa/\Aa/\(((((mL x r J/\Ae (some 40)/\Fg r+1=Fg J/\Aa)/\some 20=some (17+3)/\EP r=EP J/\Aa)/\some 21=some (17+4)/\Em r=Em J/\Aa)/\some 22=some (17+5)/\D7 r=D7 J/\Aa)/\True)/\Aa/\Ae (0:Int))/\(Aa/\Aa/\Aa/\Aa/\(DW r+1)*1=DW J/\Ar λ(i:Nat)=>SO i r->uz (Aq (NS.O J) i) (Sv r L S R i))/\TG r J/\(Aa/\Aa/\Aa/\Aa/\(Fg r+1)*1=Fg J/\Ar λ(i:Nat)=>B7 i ((Fg r+1)*1)->uz (Aq (NS.C J) i) (BA (Fg r) (Aq (NS.C r)) (Vv r) i))/\mX L x r J))) (Ag (Vm L r (6:Int)) (Ap (bif bif Nat.ble (EP r*1) (EP r)then true else false then decide (List.length (NS.G r)+1<=9223372036854775807/\(List.length (NS.G r)+1)*8<=140737488355328)else false) (SK r (∃(J:NS),O0 L J/\SF L J r/\Aa/\SY S R r J/\(Aa/\Aa/\Aa/\Aa/\((((mO x r J/\Ae (some 40)/\EP r+1=EP J/\Aa)/\some 21=some (17+4)/\Em r=Em J/\Aa)/\some 22=some (17+5)/\D7 r=D7 J/\Aa)/\True)/\Aa/\Ae (0:Int))/\(Aa/\Aa/\Aa/\Aa/\(DW r+1)*1=DW J/\Ar λ(i:Nat)=>SO i r->uw (Aq (NS.O J) i) (Sv r L S R i))/\TG r J/\Wu r J/\(Aa/\Aa/\Aa/\Aa/\(EP r+1)*1=EP J/\Ar λ(i:Nat)=>B7 i ((EP r+1)*1)->uw (Aq (NS.G J) i) (BA (EP r) (Aq (NS.G r)) (Vv r) i))/\mW L x r J))) (Ag (Vm L r (8:Int)) (Ap (bif bif Nat.ble (Em r*1) (Em r)then true else false then decide (List.length (NS.Co r)+1<=9223372036854775807/\(List.length (NS.Co r)+1)*8<=140737488355328)else false) (SK r (∃(J:NS),O0 L J/\SF L J r/\Aa/\SY S R r J/\(Aa/\Aa/\Aa/\Aa/\(((mQ x r J/\Ae (some 40)/\Em r+1=Em J/\Aa)/\some 22=some (17+5)/\D7 r=D7 J/\Aa)/\True)/\Aa/\Ae (0:Int))/\(Aa/\Aa/\Aa/\Aa/\(DW r+1)*1=DW J/\Ar λ(i:Nat)=>SO i r->uu (Aq (NS.O J) i) (Sv r L S R i))/\TG r J/\Wu r J/\ZU r J/\(Aa/\Aa/\Aa/\Aa/\(Em r+1)*1=Em J/\Ar λ(i:Nat)=>B7 i ((Em r+1)*1)->uu (Aq (NS.Co J) i) (BA (Em r) (Aq (NS.Co r)) (Vv r) i))/\mV L x r J))) (Ag (Vm L r (10:Int)) (Ap (bif bif Nat.ble (D7 r*1) (D7 r)then true else false then decide (List.length (NS.E r)+1<=9223372036854775807/\(List.length (NS.E r)+1)*8<=140737488355328)else false) (SK r (∃(J:NS),O0 L J/\SF L J r/\Aa/\SY S R r J/\(Aa/\Aa/\Aa/\Aa/\((mS x r J/\Ae (some 40)/\D7 r+1=D7 J/\Aa)/\True)/\Aa/\Ae (0:Int))/\(Aa/\Aa/\Aa/\Aa/\(DW r+1)*1=DW J/\Ar λ(i:Nat)=>SO i r->ur (Aq (NS.O J) i) (Sv r L S R i))/\TG r J/\Wu r J/\ZU r J/\mB r J/\(Aa/\Aa/\Aa/\Aa/\(D7 r+1)*1=D7 J/\Ar λ(i:Nat)=>B7 i ((D7 r+1)*1)->ur (Aq (NS.E J) i) (BA (D7 r) (Aq (NS.E r)) (Vv r) i))/\ZZ L x))) (SK r (∃(J:NS),O0 L J/\SF L J r/\Aa/\SY S R r J/\(Aa/\Aa/\Aa/\Aa/\((mS x r J/\some 22=some (17+5)/\D7 r=D7 J/\Aa)/\True)/\Aa/\Ae (0:Int))/\(Aa/\Aa/\Aa/\Aa/\(DW r+1)*1=DW J/\Ar λ(i:Nat)=>SO i r->AZ [(22,22),(21,21),(20,20),(19,19),(18,18),(17,34),(14,14),(0,0),(1,1),(2,2),(3,3),(4,4),(5,5),(6,6),(7,7),(8,8),(9,9),(10,10),(11,11),(12,12),(13,13)] (Aq (NS.O J) i) (Sv r L S R i))/\TG r J/\mY L x r J))))))))) ((∃(Y:Nat×List A6×Int),(Fk Y.1 L/\Y.2.1.length=Y.1)/\Aa/\((Cr Y.1)/\Wv S R)/\(Aa/\Aa/\Aa/\Aa/\(WA x r/\Y.2.1.length=0)/\Aa/\(0:Int)=Y.2.2)/\(Aa/\True)/\Z0 L x r)/\∀(K:Nat×List A6×Int),Fk K.1 L/\Jz K=K.1->Ag (Dh K.1 (Io R)) (Ez K.1 R (Ez K.1 R (Ap (AO (Dm R K.1) (DW r)) (Ap (bif Nat.ble (Lw R K.1*1+0+Jq 3) (DW r)then true else false) (Ez K.1 R ((∃(V:Ac),∃(U:Af),L.length=V.length/\AE L=AE V/\S.length=U.length/\Aq S=Aq U/\TU V U/\Hn V/\Int.NonNeg (Dm R K.1-0)/\Int.NonNeg ((CH V)-(Dm R K.1+1))/\Nat.le (Nat.succ (Lw R K.1)) (L.length+1))/\(Js/\Js/\((True/\True/\Ap (bif Nat.ble (Lw R K.1*1+0+Jq 3) (DW r)then true else false) (Ae (Vt r R K.1))/\Ae (NU R K.1)/\Ae (AV.AR 17 (DW r) 1)/\Ae (NU R K.1)/\True)/\True)/\True)/\Ez K.1 R (ME R K.1 L ((ES/\True)/\Ag (Au (Ab.kind (J4 L R K.1)) (11:Int)) (Ez K.1 R ((∃(V:Ac),mI L R K V)/\O7/\Ez K.1 R ((∃(Y:Nat×Af),(QL Y.1 L Y)/\Aa/\mR L S R K Y/\mN L S R r K Y/\(Aa/\True)/\Z1 L x r K)/\∀(B:Nat×Af),Fk B.1 L/\Nat.le B.2.length B.1->Ag (Dh B.1 (SS L R K.1)) (Ap (D8 B.1 x.2.2.length) (vD B.1 x x.2.2 (Ag (Au (Prod.fst (SM x.2.2 B.1)) (1:Int)) (Ez K.1 R (Ag (AP (Prod.snd (SM x.2.2 B.1)) (Dm R K.1)) (Wy x B/\(Yh B B.2)/\Aa/\(IP/\IP/\True)/\Yj x.2.2 B.1 B B.2 (SD B (Bj B.1 (∃(J:Nat×Af),m6 L S x R r K B J))) (Bj B.1 (∃(J:Nat×Af),WC L S x R r K B J))) (Ag (!AP (Prod.snd (SM x.2.2 B.1)) (SS L R K.1)) (Wy x B/\(Yh B B.2)/\Aa/\(Js/\Js/\True)/\Yj x.2.2 B.1 B B.2 (SD B (Bj B.1 (∃(J:Nat×Af),m6 L S x R r K B J))) (Bj B.1 (∃(J:Nat×Af),WC L S x R r K B J))) ((CI/\True)/\Bj B.1 (∃(J:Nat×Af),WC L S x R r K B J))))) (O4/\Bj B.1 (∃(J:Nat×Af),WC L S x R r K B J))))) (Ap (bif bif bif Nat.ble (B.2.length*1) B.2.length then B1 1 B.2.length (Aq B.2)else false then true else false then bif bif Nat.ble (Jz K*4) (Jz K*4)then B1 4 1 λ(x:Nat)=>[NU R K.1,Vt r R K.1,AV.bs (SW L S R K.1),AV.vec 1 B.2.length (Aq B.2)]else false then decide (mA K)else false else false) ((DV/\DV/\DV/\True)/\Bj K.1 (∃(J:Nat×List A6×Int),(Fk J.1 L/\J.2.1.length=J.1)/\Dx L J.1 K.1/\Aa/\mK S R K J/\(Aa/\Aa/\Aa/\Aa/\(WA x r/\Ae (some 76)/\Jz K+1=J.2.1.length/\Aa)/\Aa/\(↑K.1:Int)=J.2.2)/\(Aa/\Aa/\Aa/\Aa/\(Jz K+1)*4=J.2.1.length*4/\Ar λ(i:Nat)=>Nat.le (Nat.succ (i*4)) ((Jz K+1)*4)->AZ [(23,76),(22,22),(21,21),(20,20),(19,19),(18,18),(17,17),(14,14),(0,0),(1,1),(2,2),(3,3),(4,4),(5,5),(6,6),(7,7),(8,8),(9,9),(10,10),(11,11),(12,12),(13,13)] (Fl J.2.1 i) (BA K.2.1.length (Fl K.2.1) (λ(x:Nat)=>[NU R K.1,Vt r R K.1,AV.bs (SW L S R K.1),AV.vec 1 B.2.length (Aq B.2)]) i))/\Z0 L x r)))))) (Ez K.1 R ((∃(V:Ac),mI L R K V)/\O7/\Ez K.1 R ((∃(Y:Nat×Af),(QL Y.1 L Y)/\Aa/\mR L S R K Y/\mN L S R r K Y/\(Aa/\True)/\Z2 L x r K)/\∀(B:Nat×Af),Fk B.1 L/\Nat.le B.2.length B.1->Ag (Dh B.1 (SS L R K.1)) (Ap (D8 B.1 x.2.2.length) (vD B.1 x x.2.2 (Ag (Au (Prod.fst (SM x.2.2 B.1)) (1:Int)) (Ez K.1 R (Ag (AP (Prod.snd (SM x.2.2 B.1)) (Dm R K.1)) (Wy x B/\(Yh B B.2)/\Aa/\(IP/\IP/\True)/\Yj x.2.2 B.1 B B.2 (SD B (Bj B.1 (∃(J:Nat×Af),m7 L S x R r K B J))) (Bj B.1 (∃(J:Nat×Af),WD L S x R r K B J))) (Ag (!AP (Prod.snd (SM x.2.2 B.1)) (SS L R K.1)) (Wy x B/\(Yh B B.2)/\Aa/\(Js/\Js/\True)/\Yj x.2.2 B.1 B B.2 (SD B (Bj B.1 (∃(J:Nat×Af),m7 L S x R r K B J))) (Bj B.1 (∃(J:Nat×Af),WD L S x R r K B J))) ((CI/\True)/\Bj B.1 (∃(J:Nat×Af),WD L S x R r K B J))))) (O4/\Bj B.1 (∃(J:Nat×Af),WD L S x R r K B J))))) (Ap (bif bif bif Nat.ble (B.2.length*1) B.2.length then B1 1 B.2.length (Aq B.2)else false then true else false then bif bif Nat.ble (Jz K*4) (Jz K*4)then B1 4 1 λ(x:Nat)=>[NU R K.1,Vt r R K.1,AV.bs (SW L S R K.1),AV.vec 1 B.2.length (Aq B.2)]else false then decide (mA K)else false else false) ((DV/\DV/\DV/\True)/\Bj K.1 (∃(J:Nat×List A6×Int),(Fk J.1 L/\J.2.1.length=J.1)/\Dx L J.1 K.1/\Aa/\mK S R K J/\(Aa/\Aa/\Aa/\Aa/\(WA x r/\Ae (some 75)/\Jz K+1=J.2.1.length/\Aa)/\Aa/\K.2.2=J.2.2)/\(Aa/\Aa/\Aa/\Aa/\(Jz K+1)*4=J.2.1.length*4/\Ar λ(i:Nat)=>Nat.le (Nat.succ (i*4)) ((Jz K+1)*4)->AZ [(23,75),(22,22),(21,21),(20,20),(19,19),(18,18),(17,17),(14,14),(0,0),(1,1),(2,2),(3,3),(4,4),(5,5),(6,6),(7,7),(8,8),(9,9),(10,10),(11,11),(12,12),(13,13)] (Fl J.2.1 i) (BA K.2.1.length (Fl K.2.1) (λ(x:Nat)=>[NU R K.1,Vt r R K.1,AV.bs (SW L S R K.1),AV.vec 1 B.2.length (Aq B.2)]) i))/\Z0 L x r)))))))))))))) (∃(B:LN×At),(B.2≠[]\/LY L B.1)/\Ap (bif bif bif Nat.ble (x.2.2.length*2) (x.2.2.length*2)then B1 2 x.2.2.length (rM x.2.2)else false then bif bif Nat.ble (DW r*1) (DW r)then B1 1 (DW r) (Aq (NS.O r))else false then bif bif Nat.ble (FU r*1) (FU r)then B1 1 (FU r) (Aq (NS.Lo r))else false then bif bif Nat.ble (Fg r*1) (Fg r)then B1 1 (Fg r) (Aq (NS.C r))else false then bif bif Nat.ble (EP r*1) (EP r)then B1 1 (EP r) (Aq (NS.G r))else false then bif bif Nat.ble (Em r*1) (Em r)then B1 1 (Em r) (Aq (NS.Co r))else false then bif bif Nat.ble (D7 r*1) (D7 r)then B1 1 (D7 r) (Aq (NS.E r))else false then bif bif Nat.ble (Jz K*4) (Jz K*4)then B1 4 K.2.1.length (Fl K.2.1)else false then true else false else false else false else false else false else false else false else false then true else false) (((Aa/\x.2.2.length=B.1.M.length/\Ar λ(i:Nat)=>AD i x.2.2.length->(Aa/\Prod.fst (getD x.2.2 i C7)=Prod.fst (getD B.1.M i C7))/\(Aa/\Prod.snd (getD x.2.2 i C7)=Prod.snd (getD B.1.M i C7))/\True)/\(Aa/\DW r=B.1.O.length/\Ar λ(i:Nat)=>AD i (DW r)->(Aa/\getD (NS.O r) i (0:Int)=getD B.1.O i (0:Int))/\True)/\(Aa/\FU r=B.1.Lo.length/\Ar λ(i:Nat)=>AD i (FU r)->(Aa/\VG r i=getD B.1.Lo i (0:Int))/\True)/\(Aa/\Fg r=B.1.C.length/\Ar λ(i:Nat)=>AD i (Fg r)->(Aa/\getD (NS.C r) i (0:Int)=getD B.1.C i (0:Int))/\True)/\(Aa/\EP r=B.1.G.length/\Ar λ(i:Nat)=>AD i (EP r)->(Aa/\getD (NS.G r) i (0:Int)=getD B.1.G i (0:Int))/\True)/\(Aa/\Em r=B.1.Co.length/\Ar λ(i:Nat)=>AD i (Em r)->(Aa/\VH r i=getD B.1.Co i (0:Int))/\True)/\(Aa/\D7 r=B.1.E.length/\Ar λ(i:Nat)=>AD i (D7 r)->(Aa/\getD (NS.E r) i (0:Int)=getD B.1.E i (0:Int))/\True)/\(Aa/\Jz K=B.1.Fs.length/\Ar λ(i:Nat)=>AD i K.2.1.length->(Aa/\A6.Pf (SL K.2.1 i)=A6.Pf (KL B i))/\(Aa/\A6.up (SL K.2.1 i)=A6.up (KL B i))/\A6.name (SL K.2.1 i)=A6.name (KL B i)/\(Aa/\List.length (A6.Hs (SL K.2.1 i))=List.length (A6.Hs (KL B i))/\Ar λ(ai:Nat)=>AD ai (List.length (A6.Hs (SL K.2.1 i)))->(Aa/\getD (A6.Hs (SL K.2.1 i)) ai (0:Int)=getD (A6.Hs (KL B i)) ai (0:Int))/\True)/\True)/\(Aa/\K.2.2=B.1.main)/\True)/\B.2.length=0/\True)))))))
:=by
 delta CA AD Dm Bj Vc B8 CT CI B7 Sv Dx DV Dk SD J4 Js C7 ES DW IP O0 Cr D7 Em C6 Ez Jq Cm OZ EP Fg FU CX O3 CH Ym Fk Yj HV Lv NG Lw SF Fh IQ Vm Yh Dh KL HZ ur uu uw uz vA D8 NN O6 HX HY Vt O4 SK uj Vv QB QC Io Yy Jz NU SS YB vE ME SO QL O7 SL vD SM gW SW YD SY VG VH;intro L hL;have ag:=hL.len;simp only[Bq,ZT,mA,mF,mM,mT,mZ,m8,m9,mb,TG,Wu,ZU,mB,mC,ZV,mD,xi,ZW,xj,mE,mG,Wv,mH,mI,Ww,xk,mJ,mK,TE,mL,xm,mN,mO,Wy,mP,TF,mQ,mR,Wz,mS,WA,ZX,mU,WB,ZY,ZZ,mV,mW,mX,mY,Z0,m5,Z1,Z2,WC,WD,m6,m7,B7,DW,FU,VG,FT,EP,D7,Em,VH,Fg,DG,CH,Gy,Jx,IW,AD,DN,Cm,Fh,Dm,Lw,HZ,Cb,Lv,Dk,NN,SW,Bc,Cl,Hg,B8,C7,Fj,SS,SE,NQ,IQ,HV,NG,SP,Dx,Fk,QL];simp only[DY,EC];have an:∃V:Ac,L.length=V.length/\AE L=AE V/\V.length<=1000000/\((L.length:Int)-0).NonNeg/\((V.length:Int)-(L.length:Int)).NonNeg:=⟨L,rfl,rfl,ag,(show(0:Int)<=L.length by omega),(show(L.length:Int)<=L.length by omega)⟩;refine⟨⟨L,rfl,rfl,hL⟩,Ao (λh=>?_) λhm=>?_⟩
 ·refine⟨(LN.zero,[(0,0,2)]),.inl (by simp),⟨⟨rfl,rfl,rfl,rfl,rfl,rfl,rfl,rfl,rfl⟩,rfl,⟨λi hi=>?_⟩⟩⟩;obtain rfl:i=0:=by omega
  exact⟨rfl,rfl,rfl⟩
 have hG:Good L:=Ajt (by simpa using hm);have hp:=hG.pos;refine Am (AK.2 (by omega)) ⟨⟨an,Ao (λh=>⟨[((L.getD 0 Ab.none).line,(L.getD 0 Ab.none).Av,13)],by simp,rfl,rfl,⟨rfl,rfl⟩,rfl⟩) λh=>⟨[],by simp,rfl⟩⟩,λD0 au=>?_⟩;have au:D0.length<=1:=au;refine⟨⟨an,Ao (λh=>Am (BF (by omega)) ⟨D0++[((L.getD 0 Ab.none).line,(L.getD 0 Ab.none).Av,13)],by simp;omega,by simp,by simp,Rl _ _ _ rfl⟩) λh=>⟨D0,by omega,rfl,rfl,⟨λi _=>⟨rfl,rfl,rfl⟩⟩⟩⟩,λD1 ar=>?_⟩;have ar:D1.length<=2:=ar;refine⟨⟨L,rfl,rfl,ag,hG⟩,λU hU=>?_⟩;have hU:Oj L U:=hU L rfl rfl;have hT:TU L U:=⟨ag,hG,hU⟩;refine⟨⟨(0,D1,[]),⟨BL _,by simp only;omega,rfl,λj hj=>by omega⟩,⟨rfl,rfl⟩,rfl,rfl,⟨λi _=>⟨rfl,rfl,rfl⟩⟩⟩,λx hx=>Ao (λh=>?_) λh=>?_⟩
 ·rw[Bd]at h;have hi:x.1<L.length:=by omega
  have aF:=hx.dl;have ao:=hx.ml;have ah:∃(V:Ac) (aj:Af),L.length=V.length/\AE L=AE V/\U.length=aj.length/\Aq U=Aq aj/\TU V aj/\((x.1:Int)-0).NonNeg/\((V.length:Int)-((x.1:Int)+1)).NonNeg:=⟨L,U,rfl,rfl,rfl,rfl,hT,(show(0:Int)<=x.1 by omega),(show(x.1:Int)+1<=L.length by omega)⟩;have W:(x.1:Int)+1=((x.1+1:Nat):Int):=by omega
  refine Am (AK.2 (by omega)) ⟨ah,λtw _=>Ao (λh1=>Am (BF (by omega)) ⟨ah,λm ae=>Ao (λh2=>Am (BF (by omega)) (Am (BF (by omega)) (Am (AU.2 (by omega)) ?_))) λh2=>Am (BF (by omega)) (Am (AU.2 (by omega)) ?_)⟩) λh1=>⟨ah,λm ae=>Ao (λh2=>Am (BF (by omega)) (Am (BF (by omega)) (Am (AU.2 (by omega)) ?_))) λh2=>Am (BF (by omega)) (Am (AU.2 (by omega)) ?_)⟩⟩
  ·exact⟨(x.1+1,x.2.1++[((L.getD x.1 Ab.none).line,(L.getD x.1 Ab.none).Av,7)]++[((L.getD x.1 Ab.none).line,(L.getD x.1 Ab.none).Av,6)],x.2.2++[(m.1,m.2.1)]),ZB hx hi (by simp;omega) (eG ae),by simp only;omega,⟨by simp,W⟩,by simp,⟨by simp,Ags _ _ _ _ _ rfl rfl⟩,by simp,bQ _ _ _ rfl⟩
  ·exact⟨(x.1+1,x.2.1++[((L.getD x.1 Ab.none).line,(L.getD x.1 Ab.none).Av,7)],x.2.2++[(m.1,m.2.1)]),ZB hx hi (by simp;omega) (eG ae),by simp only;omega,⟨by simp,W⟩,by simp,⟨by simp,Rl _ _ _ rfl⟩,by simp,bQ _ _ _ rfl⟩
  ·exact⟨(x.1+1,x.2.1++[((L.getD x.1 Ab.none).line,(L.getD x.1 Ab.none).Av,6)],x.2.2++[(m.1,m.2.1)]),ZB hx hi (by simp;omega) (eG ae),by simp only;omega,⟨by simp,W⟩,by simp,⟨by simp,Rl _ _ _ rfl⟩,by simp,bQ _ _ _ rfl⟩
  ·exact⟨(x.1+1,x.2.1,x.2.2++[(m.1,m.2.1)]),ZB hx hi (show x.2.1.length<=2+2*(x.1+1) by omega) (eG ae),by simp only;omega,⟨rfl,W⟩,by simp,⟨rfl,⟨λi _=>⟨rfl,rfl,rfl⟩⟩⟩,by simp,bQ _ _ _ rfl⟩
 ·rw[Bl]at h;have az:x.1=L.length:=by have:=hx.le;omega
  have ao:=hx.ml;have aA:=hx.mn;refine Ao (λh1=>?_) λh1=>?_
  ·rw[Bd]at h1;exact⟨(LN.zero,x.2.1),.inl (λh2=>by have h3:x.2.1.length=0:=(show x.2.1=[]from h2)▸rfl;omega),Am (DL λ_ _=>rfl) ⟨⟨rfl,rfl,rfl,rfl,rfl,rfl,rfl,rfl,rfl⟩,rfl,⟨λi _=>⟨rfl,rfl,rfl⟩⟩⟩⟩
  ·refine⟨⟨L,rfl,rfl,ag⟩,λF hF=>?_⟩;have hF:LS L F:=hF L rfl rfl;refine⟨⟨⟨0,[],[],[],[],[],[]⟩,⟨BL _,rfl,by simp,by simp,by simp,by simp,by simp,rfl⟩,rfl,⟨⟨⟨⟨⟨rfl,rfl⟩,rfl⟩,rfl⟩,rfl⟩,rfl⟩⟩,λy hy=>Ao (λh2=>?_) λh2=>?_⟩
   ·rw[Bd]at h2;have ab:y.i<L.length:=by omega
    have b1:=hy.ol;have b2:=hy.ll;have b3:=hy.cl;have b4:=hy.Av;have b5:=hy.el;have b6:=hy.gl;have b7:=count_le L 6 y.i;have W:(y.i:Int)+1=((y.i+1:Nat):Int):=by omega
    have af:(L.getD y.i Ab.none).kind≠6->y.G.length=BN L 6 (y.i+1):=λk=>by rw[BN,An k];omega
    have c2:y.Lo.length<=y.i+1:=by omega
    have c3:y.C.length<=y.i+1:=by omega
    have c4:y.Co.length<=y.i+1:=by omega
    have c5:y.E.length<=y.i+1:=by omega
    have sm:∀l:Af,Ar λi=>i.succ<=l.length->l.getD i 0=l.getD i 0:=λl=>⟨λ_ _=>rfl⟩;refine⟨⟨L,U,F,rfl,rfl,rfl,rfl,rfl,rfl,hT,hF,(show(0:Int)<=y.i by omega),(show(y.i:Int)+1<=L.length by omega)⟩,Am (BF (by omega)) (Am (AK.2 (by omega)) (Ao (λk=>Am (BF (by omega)) (Am (AU.2 (by omega)) ?_)) λk2=>Ao (λk=>Am (BF (by omega)) (Am (AU.2 (by omega)) ?_)) λk3=>Ao (λk=>Am (BF (by omega)) (Am (AU.2 (by omega)) ?_)) λk6=>Ao (λk=>Am (BF (by omega)) (Am (AU.2 (by omega)) ?_)) λk8=>Ao (λk=>Am (BF (by omega)) (Am (AU.2 (by omega)) ?_)) λaC=>Am (AU.2 (by omega)) ?_))⟩
    ·rw[Ba]at k;exact⟨⟨y.i+1,y.O++[F9 L U F y.i],y.Lo++[(y.i:Int)],y.C,y.G,y.Co,y.E⟩,Tl hy ab (by simp;omega) (by simp;omega) c3 c4 c5 hy.cm (af (by rw[k];decide)),by simp only;omega,W,⟨⟨⟨⟨⟨by simp,by simp⟩,rfl⟩,rfl⟩,rfl⟩,rfl⟩,⟨by simp,Ia _ _ _ rfl⟩,⟨by simp,Ia _ _ _ rfl⟩,⟨rfl,sm _⟩,⟨rfl,sm _⟩,⟨rfl,sm _⟩,rfl,sm _⟩
    ·rw[Ba]at k;refine⟨⟨y.i+1,y.O++[F9 L U F y.i],y.Lo,y.C++[(y.i:Int)],y.G,y.Co,y.E⟩,Tl hy ab (by simp;omega) c2 (by simp;omega) c4 c5 (λc hc=>?_) (af (by rw[k];decide)),by simp only;omega,W,⟨⟨⟨⟨⟨by simp,rfl⟩,by simp⟩,rfl⟩,rfl⟩,rfl⟩,⟨by simp,Ia _ _ _ rfl⟩,⟨rfl,sm _⟩,⟨by simp,Ia _ _ _ rfl⟩,⟨rfl,sm _⟩,⟨rfl,sm _⟩,rfl,sm _⟩;rcases List.mem_append.1 hc with hc|hc
     ·exact hy.cm c hc
     ·simp only[I7]at hc;subst hc;omega
    ·rw[Ba]at k;exact⟨⟨y.i+1,y.O++[F9 L U F y.i],y.Lo,y.C,y.G++[(y.i:Int)],y.Co,y.E⟩,Tl hy ab (by simp;omega) c2 c3 c4 c5 hy.cm (by rw[BN,As k];simp;omega),by simp only;omega,W,⟨⟨⟨⟨⟨by simp,rfl⟩,rfl⟩,by simp⟩,rfl⟩,rfl⟩,⟨by simp,Ia _ _ _ rfl⟩,⟨rfl,sm _⟩,⟨rfl,sm _⟩,⟨by simp,Ia _ _ _ rfl⟩,⟨rfl,sm _⟩,rfl,sm _⟩
    ·rw[Ba]at k;exact⟨⟨y.i+1,y.O++[F9 L U F y.i],y.Lo,y.C,y.G,y.Co++[(y.i:Int)],y.E⟩,Tl hy ab (by simp;omega) c2 c3 (by simp;omega) c5 hy.cm (af (by rw[k];decide)),by simp only;omega,W,⟨⟨⟨⟨⟨by simp,rfl⟩,rfl⟩,rfl⟩,by simp⟩,rfl⟩,⟨by simp,Ia _ _ _ rfl⟩,⟨rfl,sm _⟩,⟨rfl,sm _⟩,⟨rfl,sm _⟩,⟨by simp,Ia _ _ _ rfl⟩,rfl,sm _⟩
    ·rw[Ba]at k;exact⟨⟨y.i+1,y.O++[F9 L U F y.i],y.Lo,y.C,y.G,y.Co,y.E++[(y.i:Int)]⟩,Tl hy ab (by simp;omega) c2 c3 c4 (by simp;omega) hy.cm (af (by rw[k];decide)),by simp only;omega,W,⟨⟨⟨⟨⟨by simp,rfl⟩,rfl⟩,rfl⟩,rfl⟩,by simp⟩,⟨by simp,Ia _ _ _ rfl⟩,⟨rfl,sm _⟩,⟨rfl,sm _⟩,⟨rfl,sm _⟩,⟨rfl,sm _⟩,by simp,Ia _ _ _ rfl⟩
    ·rw[BB]at k6;exact⟨⟨y.i+1,y.O++[F9 L U F y.i],y.Lo,y.C,y.G,y.Co,y.E⟩,Tl hy ab (by simp;omega) c2 c3 c4 c5 hy.cm (af k6),by simp only;omega,W,⟨⟨⟨⟨⟨by simp,rfl⟩,rfl⟩,rfl⟩,rfl⟩,rfl⟩,⟨by simp,Ia _ _ _ rfl⟩,⟨rfl,sm _⟩,⟨rfl,sm _⟩,⟨rfl,sm _⟩,⟨rfl,sm _⟩,rfl,sm _⟩
   ·rw[Bl]at h2;have ay:y.i=L.length:=by have:=hy.le;omega
    have aD:=hy.ol;have hFl:=hF.len;have hM:x.2.2.length=L.length:=by rw[ao,az]
    have e3:Program.cellsOf Tryz.prog 3=1:=by kernel_rfl
    have av:Program.cellsOf Tryz.prog 57=2:=by kernel_rfl
    refine⟨⟨(0,[],0),⟨BL _,rfl⟩,rfl,rfl,rfl⟩,λz hz=>Ao (λh3=>?_) λh3=>?_⟩
    ·rw[Bd]at h3;obtain⟨z1,z2⟩:=hz;have aw:z.1<F.length:=by omega
     obtain⟨a1,a2,a3⟩:=hF.al _ (G6 aw);obtain⟨a,ha⟩:∃a:Nat,F.getD z.1 0=a:=⟨(F.getD z.1 0).toNat,by omega⟩;simp only[ha,Int.toNat_natCast]at a1 a2 a3⊢;have aB:a<L.length:=by omega
     have aE:Jf L a<=L.length:=(Ahm hG _ a (AH _) aB).2;have ak:∃V:Ac,L.length=V.length/\AE L=AE V/\V.length<=1000000/\Good V/\((a:Int)-0).NonNeg/\((V.length:Int)-((a:Int)+1)).NonNeg/\(V.length-a).succ<=L.length+1:=⟨L,rfl,rfl,ag,hG,(show(0:Int)<=a by omega),(show(a:Int)+1<=L.length by omega),by omega⟩;have aq:(a+0+Program.cellsOf Tryz.prog 3).ble y.O.length=true:=by rw[e3];exact E5 (by omega)
     have aa:AO (z.1:Int) F.length=true:=AK.2 (by omega);refine Am aa (Am aa (Am (AK.2 (by omega)) (Am aq (Am aa ⟨⟨L,U,rfl,rfl,rfl,rfl,hT,hL,(show(0:Int)<=a by omega),(show(a:Int)+1<=L.length by omega),by omega⟩,Am aq trivial,Am aa (Am (AK.2 (by omega)) (Ao (λhk=>Am aa ⟨ak,Am aa ⟨⟨(a,[]),⟨show a<=L.length by omega,BL _⟩,rfl,rfl⟩,λw hw=>Ao (λh4=>?_) λh4=>?_⟩⟩) λhk=>Am aa ⟨ak,Am aa ⟨⟨(a,[]),⟨show a<=L.length by omega,BL _⟩,rfl,rfl⟩,λw hw=>Ao (λh4=>?_) λh4=>?_⟩⟩))⟩))))
     ·rw[Bd]at h4;obtain⟨w1,w2⟩:=hw;have ad:(w.1:Int)+1=((w.1+1:Nat):Int):=by omega
      have Z:∃J:Nat×Af,(J.1<=L.length/\J.2.length<=J.1)/\(L.length-J.1).succ<=L.length-w.1/\(w.1:Int)+1=(J.1:Int)/\w.2.length=J.2.length/\w.2.length=J.2.length/\Ar λi=>i.succ<=w.2.length->w.2.getD i 0=J.2.getD i 0:=⟨(w.1+1,w.2),⟨show w.1+1<=L.length by omega,show w.2.length<=w.1+1 by omega⟩,show(L.length-(w.1+1)).succ<=L.length-w.1 by omega,ad,rfl,rfl,⟨λ_ _=>rfl⟩⟩;have put:∀(σ:List (Nat×Nat)) (v:Int),∃J:Nat×Af,(J.1<=L.length/\J.2.length<=J.1)/\(L.length-J.1).succ<=L.length-w.1/\(w.1:Int)+1=(J.1:Int)/\w.2.length+1=J.2.length/\w.2.length+1=J.2.length/\Ar λi=>i.succ<=w.2.length+1->AZ σ (Aq J.2 i) (BA w.2.length (Aq w.2) (λ_=>[AV.int .i64 v]) i):=λσ v=>⟨(w.1+1,w.2++[v]),⟨show w.1+1<=L.length by omega,by simp;omega⟩,show(L.length-(w.1+1)).succ<=L.length-w.1 by omega,ad,by simp,by simp,Ia _ _ _ rfl⟩;refine Am (AK.2 (by omega)) (Am ?_ (Ao (λk1=>Am (AK.2 (by omega)) (Ao (λk2=>⟨DL λ_ _=>rfl,⟨w.2,rfl,rfl,by omega⟩,Ao (λk3=>Am (BF (by omega)) (Am (AU.2 (by omega)) (put _ _))) λk3=>Am (AU.2 (by omega)) Z⟩) λk2=>Ao (λk3=>⟨DL λ_ _=>rfl,⟨w.2,rfl,rfl,by omega⟩,Ao (λk4=>Am (BF (by omega)) (Am (AU.2 (by omega)) (put _ _))) λk4=>Am (AU.2 (by omega)) Z⟩) λk3=>Am (AU.2 (by omega)) Z)) λk1=>Am (AU.2 (by omega)) Z));rw[av,B4];exact⟨E5 (by omega),rfl⟩
     ·obtain⟨w1,w2⟩:=hw;refine Am ?_ (Am (AU.2 (by omega)) ⟨(z.1+1,z.2.1++[⟨(a:Int),y.O.getD a 0,FP L U a,w.2⟩],(z.1:Int)),⟨show z.1+1<=L.length by omega,by simp;omega⟩,show(L.length-(z.1+1)).succ<=L.length-z.1 by omega,(show(z.1:Int)+1=((z.1+1:Nat):Int) by omega),⟨by simp,rfl⟩,by simp,yC _ _ _ rfl⟩);rw[B4,B4];exact⟨DL λ_ _=>rfl,DL λ_ _=>rfl,BF (by omega)⟩
     ·rw[Bd]at h4;obtain⟨w1,w2⟩:=hw;have ad:(w.1:Int)+1=((w.1+1:Nat):Int):=by omega
      have Z:∃J:Nat×Af,(J.1<=L.length/\J.2.length<=J.1)/\(L.length-J.1).succ<=L.length-w.1/\(w.1:Int)+1=(J.1:Int)/\w.2.length=J.2.length/\w.2.length=J.2.length/\Ar λi=>i.succ<=w.2.length->w.2.getD i 0=J.2.getD i 0:=⟨(w.1+1,w.2),⟨show w.1+1<=L.length by omega,show w.2.length<=w.1+1 by omega⟩,show(L.length-(w.1+1)).succ<=L.length-w.1 by omega,ad,rfl,rfl,⟨λ_ _=>rfl⟩⟩;have put:∀(σ:List (Nat×Nat)) (v:Int),∃J:Nat×Af,(J.1<=L.length/\J.2.length<=J.1)/\(L.length-J.1).succ<=L.length-w.1/\(w.1:Int)+1=(J.1:Int)/\w.2.length+1=J.2.length/\w.2.length+1=J.2.length/\Ar λi=>i.succ<=w.2.length+1->AZ σ (Aq J.2 i) (BA w.2.length (Aq w.2) (λ_=>[AV.int .i64 v]) i):=λσ v=>⟨(w.1+1,w.2++[v]),⟨show w.1+1<=L.length by omega,by simp;omega⟩,show(L.length-(w.1+1)).succ<=L.length-w.1 by omega,ad,by simp,by simp,Ia _ _ _ rfl⟩;refine Am (AK.2 (by omega)) (Am ?_ (Ao (λk1=>Am (AK.2 (by omega)) (Ao (λk2=>⟨DL λ_ _=>rfl,⟨w.2,rfl,rfl,by omega⟩,Ao (λk3=>Am (BF (by omega)) (Am (AU.2 (by omega)) (put _ _))) λk3=>Am (AU.2 (by omega)) Z⟩) λk2=>Ao (λk3=>⟨DL λ_ _=>rfl,⟨w.2,rfl,rfl,by omega⟩,Ao (λk4=>Am (BF (by omega)) (Am (AU.2 (by omega)) (put _ _))) λk4=>Am (AU.2 (by omega)) Z⟩) λk3=>Am (AU.2 (by omega)) Z)) λk1=>Am (AU.2 (by omega)) Z));rw[av,B4];exact⟨E5 (by omega),rfl⟩
     ·obtain⟨w1,w2⟩:=hw;refine Am ?_ (Am (AU.2 (by omega)) ⟨(z.1+1,z.2.1++[⟨(a:Int),y.O.getD a 0,FP L U a,w.2⟩],z.2.2),⟨show z.1+1<=L.length by omega,by simp;omega⟩,show(L.length-(z.1+1)).succ<=L.length-z.1 by omega,(show(z.1:Int)+1=((z.1+1:Nat):Int) by omega),⟨by simp,rfl⟩,by simp,yC _ _ _ rfl⟩);rw[B4,B4];exact⟨DL λ_ _=>rfl,DL λ_ _=>rfl,BF (by omega)⟩
    ·refine⟨(⟨x.2.2,y.O,y.Lo,y.C,y.G,y.Co,y.E,z.2.1,z.2.2⟩,x.2.1),.inr ⟨hG,hM,λj hj=>aA j (by omega),hy.cm,by rw[<-ay];exact hy.gl⟩,Am ?_ ?_⟩
     ·simp only[B4];exact⟨DL λ_ _=>rfl,DL λ_ _=>rfl,DL λ_ _=>rfl,DL λ_ _=>rfl,DL λ_ _=>rfl,DL λ_ _=>rfl,DL λ_ _=>rfl,DL λ_ _=>rfl⟩
     ·rw[Bl]at h1;have h0:x.2.1.length=0:=by omega
      exact⟨⟨⟨rfl,⟨λ_ _=>⟨rfl,rfl⟩⟩⟩,⟨rfl,⟨λ_ _=>rfl⟩⟩,⟨rfl,⟨λ_ _=>rfl⟩⟩,⟨rfl,⟨λ_ _=>rfl⟩⟩,⟨rfl,⟨λ_ _=>rfl⟩⟩,⟨rfl,⟨λ_ _=>rfl⟩⟩,⟨rfl,⟨λ_ _=>rfl⟩⟩,⟨rfl,⟨λ_ _=>⟨rfl,rfl,rfl,rfl,⟨λ_ _=>rfl⟩⟩⟩⟩,rfl⟩,h0⟩
theorem Aoj:∀(L:Ac),Hn L->(A3 (zU L) 100).call 7 [tree L] .leaf 0 (L0 (λx:LN×At=>x.2≠[]\/LY L x.1) λx=>.AM [.agg x.1.row,.vec 3 x.2.length (rD x.2)]):=Eq.mpr (by kernel_rfl) Aok
def vU:H9:=λ_ args=>match args with
 | [.agg [.vec 6 n f]]=>some ⟨LN×At,(∃L:Ac,n=L.length/\f=AE L/\Hn L),λx=>∀L:Ac,n=L.length->f=AE L->x.2≠[]\/LY L x.1,λx=>.AM [.agg x.1.row,.vec 3 x.2.length (rD x.2)]⟩
 |_=>none
structure LX (L:List Ab):Prop where
 len:L.length<=200
 text:∀i,i<L.length->(L.getD i Ab.none).text.length<=100
def vR:H9:=λ_ args=>match args with
 | [.agg [.vec 6 n f],.int .i64 a]=>some ⟨Bool,(∃L:Ac,n=L.length/\f=AE L/\a=200),λb=>b=false->∀L:Ac,n=L.length->f=AE L->LX L,λb=>.bool b⟩
 |_=>none
structure Zd (L:List Ab) (i:Nat):Prop where
 le:i<=L.length
 le2:i<=200
 text:∀j,j<i->(L.getD j Ab.none).text.length<=100
def SMu (L:Ac):B0:=thin Nat [0,1,2,4] (λi=>[(5,.int .i64 i)]) (λ_ i=>Zd L i) λi=>L.length-i
def zM (L:Ac):Ctx:={P:=Tryz.prog,tb:=[],lp:=λf r=>cond (Nat.beq f 5) (cond (Nat.beq r 2) (some (SMu L)) none) none,cut:=λ_ _=>none}
def Kc (s:Aj) (n:Int):Int:=if s=[105,110,116]then 1 else if s=[102,110]then 2 else if s=[116,111,107]then 3 else if s=[104,97,110,100]then 4 else if s=[97,114,114]then 5 else-1-n
def E2 (L:Ac) (M:List (Int×Int)) (i:Int):Int:=if i<0\/(L.length:Int)<=i then 0 else if DM L i=5 then Kc (L.getD i.toNat Ab.none).text (M.getD i.toNat (0,0)).2 else 0
def HE (k:Int):Prop:=k=13\/k=6\/k=4
instance (k:Int):Decidable (HE k):=by unfold HE;exact inferInstance
def CG (L:Ac) (M:List (Int×Int)) (i:Int):Int:=if 0<=i/\i<L.length/\HE (DM L i)then E2 L M ((L.getD i.toNat Ab.none).kids.getD 0 0)else E2 L M i
def dM (l:Al):Int×Int:=match l with
 | [.int _ a,.int _ b]=>(a,b)
 |_=>(0,0)
def LH (m:Nat) (g:Nat->Al):List (Int×Int):=(List.range m).map λi=>dM (g i)
def LN.rest (x:LN):Al:=[vI x.O,vI x.Lo,vI x.C,vI x.G,vI x.Co,vI x.E,.vec 4 x.Fs.length (Fl x.Fs),.int .i64 x.main]
structure BM (L:List Ab) (M:List (Int×Int)):Prop where
 len:L.length<=1000000
 Mi:M.length=L.length
 n:∀j,j<L.length->0<=(M.getD j (0,0)).2/\(M.getD j (0,0)).2<=1000000
def tO (L:Ac) (i:Int):Prop:=0<=i->i<L.length->¬HE (DM L i)
def Ug:Tr Ah->Al->Option Ct:=λ_ args=>match args with
 | [.agg [.vec 6 n f],.agg (.vec 2 m g::q),.int .i64 i]=>some (.Bb (∃(L:Ac) (x:LN),n=L.length/\f=AE L/\m=x.M.length/\g=rM x.M/\q=x.rest/\BM L x.M/\tO L i) (.ret (.int .i64 (AF (E2 (H4 n f) (LH m g) i)))))
 |_=>none
def L8:Tr Ah->Al->Option Ct:=λ_ args=>match args with
 | [.agg [.vec 6 n f],.agg (.vec 2 m g::q),.int .i64 i]=>some (.Bb (∃(L:Ac) (x:LN),n=L.length/\f=AE L/\m=x.M.length/\g=rM x.M/\q=x.rest/\BM L x.M/\Good L) (.ret (.int .i64 (AF (CG (H4 n f) (LH m g) i)))))
 |_=>none
def ca:Ctx:={P:=Tryz.prog,tb:=[],lp:=λ_ _=>none,cut:=λ_ _=>none}
def zQ:Ctx:={P:=Tryz.prog,tb:=[(23,Ug)],lp:=λ_ _=>none,cut:=λ_ _=>none}
def zS:Ctx:={P:=Tryz.prog,tb:=[(30,Ug)],lp:=λ_ _=>none,cut:=λ_ _=>none}
theorem AkS:JG Tryz.prog 7 vU:=by
 refine MI (gl:=[]) (ng:=0) AS λH args K r y=>?_;unfold vU at r;split at r
 ·rename_i n f;injection r with r;subst r;obtain⟨L,rfl,rfl,z⟩:=y;refine⟨AS,⟨FK L,trivial⟩,zU L,100,rfl,Cc,BD AkD (BD tv (BD AkO (BD (AkH _) (BD (Akm _) Bk)))),?_⟩;have:=Aoj L z;have e:(λx:LN×At=>x.2≠[]\/LY L x.1)=λx=>∀M:Ac,L.length=M.length->AE L=AE M->x.2≠[]\/LY M x.1:=by funext x;exact propext ⟨λh M J B=>QR J B▸h,λh=>h L rfl rfl⟩
  rw[e]at this;exact this
 ·cases r
theorem HB (M:List (Int×Int)):LH M.length (rM M)=M:=by
 apply List.ext_getElem
 ·simp[LH]
 ·intro i x r;simp[LH,rM,UL,dM,Bt,Ce r]
theorem XJ {L:Ac} {M:List (Int×Int)} {i:Int} (h:i<0\/(L.length:Int)<=i):E2 L M i=0:=by unfold E2;rw[As h]
theorem eX {L:Ac} {M:List (Int×Int)} {j:Nat} (h:j<L.length) (r:(L.getD j Ab.none).kind=5):E2 L M (j:Int)=Kc (L.getD j Ab.none).text (M.getD j (0,0)).2:=by unfold E2 DM;rw[An (by omega),Int.toNat_natCast,As r]
theorem XI {L:Ac} {M:List (Int×Int)} {j:Nat} (r:(L.getD j Ab.none).kind≠5):E2 L M (j:Int)=0:=by unfold E2 DM;rw[Int.toNat_natCast,An r,ite_self]
theorem eY {L:Ac} {M:List (Int×Int)} {i:Int} (h:i<0\/(L.length:Int)<=i):CG L M i=0:=by unfold CG;rw[An (by omega),XJ h]
theorem XL {L:Ac} {M:List (Int×Int)} {j:Nat} (h:¬HE (L.getD j Ab.none).kind):CG L M (j:Int)=E2 L M j:=by unfold CG DM;rw[Int.toNat_natCast,An λg=>h g.2.2]
theorem AcS {L:Ac} {M:List (Int×Int)} {j:Nat} (r:j<L.length) (h:HE (L.getD j Ab.none).kind):CG L M (j:Int)=E2 L M ((L.getD j Ab.none).kids.getD 0 0):=by unfold CG DM;rw[Int.toNat_natCast,As ⟨by omega,by omega,h⟩]
theorem du {L:Ac} (z:Good L) {i:Nat} (hi:i<L.length) (x:HE (L.getD i Ab.none).kind):0<(L.getD i Ab.none).kids.length/\0<=(L.getD i Ab.none).kids.getD 0 0/\(L.getD i Ab.none).kids.getD 0 0<L.length/\DM L ((L.getD i Ab.none).kids.getD 0 0)=5:=by
 have h:=z.kinds i hi;have r:=z.Gn i hi;have hl:∃s,BT (L.getD i Ab.none).kind=121::s:=by
  rcases x with x|x|x<;>rw[x]
  ·exact⟨[101],by decide⟩
  ·exact⟨[],by decide⟩
  ·exact⟨[],by decide⟩
 obtain⟨s,B⟩:=hl;rw[B]at h;revert h r;cases(L.getD i Ab.none).kids with
 |nil=>intro r h;rw[List.map_nil,RR _ (by decide) (by decide)]at h;cases h
 |cons c t=>intro r h;rw[List.map_cons,Xw _ _ _ (by decide) (by decide),B4]at h;have y:=h.1;unfold Ck at y;rw[As (by decide),Bn]at y;obtain⟨K,J⟩:=r c (by simp);exact⟨by simp,show 0<=c by omega,J,y⟩
theorem Afe {s:Aj} {n:Int} {K:Prop} (J:Kc s n= -1-n->K):Ag (bif decide (s=[105,110,116])then true else bif decide (s=[102,110])then true else bif decide (s=[116,111,107])then true else bif decide (s=[104,97,110,100])then true else decide (s=[97,114,114])) ((bif decide (s=[105,110,116])then 1 else bif decide (s=[102,110])then 2 else bif decide (s=[116,111,107])then 3 else bif decide (s=[104,97,110,100])then 4 else bif decide (s=[97,114,114])then 5 else 0)=Kc s n) K:=by
 unfold Kc at*;by_cases B:s=[105,110,116]
 ·exact Ao (λ_=>by simp[B]) λh=>by simp[B]at h
 by_cases z:s=[102,110]
 ·exact Ao (λ_=>by simp[z]) λh=>by simp[z]at h
 by_cases y:s=[116,111,107]
 ·exact Ao (λ_=>by simp[y]) λh=>by simp[y]at h
 by_cases x:s=[104,97,110,100]
 ·exact Ao (λ_=>by simp[x]) λh=>by simp[x]at h
 by_cases r:s=[97,114,114]
 ·exact Ao (λ_=>by simp[r]) λh=>by simp[r]at h
 ·exact Ao (λh=>by simp[B,z,y,x,r]at h) λ_=>J (by simp[B,z,y,x,r])
theorem Aff {s:Aj} {n:Int} {K:Prop} (J:Kc s n= -1-n->K):Ag (decide (s=[105,110,116])) (1=Kc s n) (Ag (decide (s=[102,110])) (2=Kc s n) (Ag (decide (s=[116,111,107])) (3=Kc s n) (Ag (decide (s=[104,97,110,100])) (4=Kc s n) (Ag (decide (s=[97,114,114])) (5=Kc s n) K)))):=by
 unfold Kc at*;refine Ao (λh=>?_) λB=>Ao (λh=>?_) λz=>Ao (λh=>?_) λy=>Ao (λh=>?_) λx=>Ao (λh=>?_) λr=>J ?_
 ·rw[Bn]at h;simp[h]
 ·rw[Bn]at h;simp[h]
 ·rw[Bn]at h;simp[h]
 ·rw[Bn]at h;simp[h]
 ·rw[Bn]at h;simp[h]
 ·simp only[CU]at B z y x r;simp[B,z,y,x,r]
@[reducible] def mc:Ac->Prop:=λ(L:Ac)=>(Dl L/\True)/\(Aa/\Ae (200:Int))/\Cm/\Ae false/\True
theorem AnE:∀(L:Ac),(∃(K:Nat),Zd L K/\Aa/\((Cr K)/\mc L)/\Ed L)/\∀(x:Nat),Zd L x->Ag (AP (↑x:Int) (CX L)) (Ag (AP (↑x:Int) (200:Int)) (C6 x L (Ag (AP (100:Int) (Int.ofNat (List.length (Im L x)))) (∃(x:Bool),(x=false->LX L)/\true=x) (Bj x (∃(z:Nat),Zd L z/\Dx L z x/\Aa/\((Cb x z)/\mc L)/\Ed L)))) (∃(x:Bool),(x=false->LX L)/\AP (200:Int) (CX L)=x)) (∃(x:Bool),(x=false->LX L)/\AP (200:Int) (CX L)=x)
:=by
 delta CA Bj Dx Cb Cr C6 CX Ed Im;intro L;simp only[Bq,Iy,Pu,mc,AD,Bc,Cl,Hg,Dl,Cm];refine⟨⟨0,⟨BL _,BL _,λj S=>by omega⟩,rfl⟩,λx y=>?_⟩;have V:=y.le;have U:=y.le2;have r:(L.length<=x\/200<=x)->∃b:Bool,(b=false->LX L)/\AP 200 (L.length:Int)=b:=λh=>⟨_,λhb=>by rw[Bl]at hb;exact⟨by omega,λi hi=>y.text i (by omega)⟩,rfl⟩;refine Ao (λJ=>Ao (λB=>?_) λB=>r ?_) λJ=>r ?_
 ·rw[Bd]at J B;refine Am (AK.2 (by omega)) (Ao (λR=>⟨true,(λh=>by cases h),rfl⟩) λR=>Am (AU.2 (by omega)) ⟨x+1,⟨by omega,by omega,λj S=>?_⟩,by omega,by omega⟩);rw[Bl]at R;rcases D9 j x with h|h
  ·exact y.text j h
  ·obtain rfl:j=x:=by omega
   omega
 ·rw[Bl]at B;omega
 ·rw[Bl]at J;omega
theorem AnD:∀(L:Ac),(A3 (zM L) 60).call 5 [tree L,.int .i64 200] .leaf 0 (L0 (λb:Bool=>b=false->LX L) λb=>.bool b):=Eq.mpr (by kernel_rfl) AnE
def gF (a:Ac) (b:Int):=(bif decide (Ab.text (getD a (toNat b) Ab.none)=[(105:UInt8),110,116])then(1:Int)else bif decide (Ab.text (getD a (toNat b) Ab.none)=[(102:UInt8),110])then(2:Int)else bif decide (Ab.text (getD a (toNat b) Ab.none)=[(116:UInt8),111,107])then(3:Int)else bif decide (Ab.text (getD a (toNat b) Ab.none)=[(104:UInt8),97,110,100])then(4:Int)else bif decide (Ab.text (getD a (toNat b) Ab.none)=[(97:UInt8),114,114])then(5:Int)else(0:Int))
def gG (a:Ac) (b:Int):=Ag (bif decide (Ab.text (getD a (toNat b) Ab.none)=[(105:UInt8),110,116])then true else bif decide (Ab.text (getD a (toNat b) Ab.none)=[(102:UInt8),110])then true else bif decide (Ab.text (getD a (toNat b) Ab.none)=[(116:UInt8),111,107])then true else bif decide (Ab.text (getD a (toNat b) Ab.none)=[(104:UInt8),97,110,100])then true else bif decide (Ab.text (getD a (toNat b) Ab.none)=[(97:UInt8),114,114])then true else false)
def Mx (a:Ac) (b:Int):=Ap (AO (0:Int) (List.length (Ab.kids (Ll a b))))
def QA (a:Ac) (b:Int):=Ag (Au (Int.ofNat (List.length (Ab.kids (Ll a b)))) (0:Int))
def O2 (a:LN) (b:Int):=Prod.snd (getD a.M (toNat b) C7)
def MB (a:Ac) (b:LN) (c:Int):=(Aa/\(0:Int)=AF (E2 a b.M c))
def QN (a:LN) (b:Int):=Ap (Bf .i64 (Int.negSucc 0-O2 a b))
def gY (a:Int) (b:Ac):=(Gy a->Lz b a->DM b a=(13:Int)\/DM b a=(6:Int)\/DM b a=(4:Int)->False)
theorem AnS:∀(L:Ac) (x:LN) (i:Int),BM L x.M->(gY i L)->Ag (AP i (0:Int)) (MB L x i) (Ag (!AP i (CX L)) (MB L x i) (IY i L (Ag (Au (ET L i) (13:Int)) (QA L i (MB L x i) (Mx L i False)) (Ag (Au (ET L i) (6:Int)) (QA L i (MB L x i) (Mx L i False)) (Ag (Au (ET L i) (4:Int)) (QA L i (MB L x i) (Mx L i False)) (Ag (Au (ET L i) (5:Int)) (gG L i (Aa/\(gF L i)=AF (E2 L x.M i)) (Ap (AO i x.M.length) (QN x i (Aa/\Int.negSucc 0-O2 x i=AF (E2 L x.M i))))) (MB L x i)))))))
:=by
 delta Ll C7 gF gG Mx CX CH QA O2 ET MB Gy Lz IY QN gY;intro L x i U hi;have K:0<=i->i<L.length->¬HE (DM L i):=hi;have y:BM L x.M:=U;have V:=y.Mi;have S:=y.len;simp only[Bq];refine Ao (λB=>?_) λB=>Ao (λJ=>?_) λJ=>?_
 ·rw[Bd]at B;rw[XJ (.inl B)]
 ·rw[BZ,Bl]at J;rw[XJ (.inr (by omega))]
 rw[Bl]at B;rw[BI,Bd]at J;obtain⟨j,rfl⟩:∃j:Nat,i=j:=⟨i.toNat,by omega⟩;simp only[Int.toNat_natCast];have R:j<L.length:=by omega
 have hn:=y.n j R;have r:¬HE (L.getD j Ab.none).kind:=by have:=K (by omega) (by omega);unfold DM at this;rwa[Int.toNat_natCast]at this
 refine Am (AK.2 (by omega)) (Ao (λh=>absurd (.inl (Ba.1 h)) r) λW=>Ao (λh=>absurd (.inr (.inl (Ba.1 h))) r) λY=>Ao (λh=>absurd (.inr (.inr (Ba.1 h))) r) λZ=>?_);refine Ao (λz=>?_) λz=>?_
 ·rw[Ba]at z;rw[eX R z];exact Afe λe=>Am (AK.2 (by omega)) (Am (AU.2 (by omega)) (by rw[e];rfl))
 ·rw[BB]at z;rw[XI z]
theorem AnR:∀(L:Ac) (x:LN) (i:Int),BM L x.M->tO L i->(A3 ca 60).call 23 [tree L,.agg x.row,.int .i64 i] .leaf 0 (BS Tryz.prog false (.int .i64 (AF (E2 L x.M i)))):=Eq.mpr (by kernel_rfl) AnS
def Cz (a:LN):=AV.vec 4 a.Fs.length (Fl a.Fs)
def CL (a:LN):=AV.int .i64 a.main
def QF (a:Ac) (b:Int):=getD (Ab.kids (Ll a b)) 0 (0:Int)
@[reducible] def mf:Ac->LN->Int->Prop:=λ(L:Ac) (x:LN) (i:Int)=>(∃(r:Ac),∃(y:LN),L.length=r.length/\AE L=AE r/\x.M.length=y.M.length/\rM x.M=rM y.M/\[vI x.O,vI x.Lo,vI x.C,vI x.G,vI x.Co,vI x.E,Cz x,CL x]=LN.rest y/\BM r y.M/\(Int.NonNeg (QF L i-0)->Int.NonNeg ((CH r)-(QF L i+1))->DM r (QF L i)=(13:Int)\/DM r (QF L i)=(6:Int)\/DM r (QF L i)=(4:Int)->False))/\(CI/\CI/\True)/\Aa/\AF (E2 (Dk L) (LH x.M.length (rM x.M)) (QF L i))=AF (CG L x.M i)
def MA (a:Ac) (b:LN) (c:Int):=(Aa/\(0:Int)=AF (CG a b.M c))
def QK (a:Ac) (b:Int) (c:LN):=Mx a b (mf a c b)
theorem AnU:∀(L:Ac) (x:LN) (i:Int),BM L x.M->Good L->Ag (AP i (0:Int)) (MA L x i) (Ag (!AP i (CX L)) (MA L x i) (IY i L (Ag (Au (ET L i) (13:Int)) (QA L i (MA L x i) (QK L i x)) (Ag (Au (ET L i) (6:Int)) (QA L i (MA L x i) (QK L i x)) (Ag (Au (ET L i) (4:Int)) (QA L i (MA L x i) (QK L i x)) (Ag (Au (ET L i) (5:Int)) (gG L i (Aa/\(gF L i)=AF (CG L x.M i)) (Ap (AO i x.M.length) (QN x i (Aa/\Int.negSucc 0-O2 x i=AF (CG L x.M i))))) (MA L x i)))))))
:=by
 delta Ll C7 gF gG Mx CX QA O2 ET MA IY QN QK;intro L x i hM Y;have Y:Good L:=Y;have J:BM L x.M:=hM;have ab:=J.Mi;have aa:=J.len;simp only[Bq,mf,Ll,CI,Cz,Dk,CL,CH,QF];simp only[DY,HB];refine Ao (λZ=>?_) λZ=>Ao (λh2=>?_) λh2=>?_
 ·rw[Bd]at Z;rw[eY (.inl Z)]
 ·rw[BZ,Bl]at h2;rw[eY (.inr (by omega))]
 rw[Bl]at Z;rw[BI,Bd]at h2;obtain⟨j,rfl⟩:∃j:Nat,i=j:=⟨i.toNat,by omega⟩;simp only[Int.toNat_natCast];have K:j<L.length:=by omega
 have hn:=J.n j K;have W:∀(y:HE (L.getD j Ab.none).kind),(∃(r:Ac) (B:LN),L.length=r.length/\AE L=AE r/\x.M.length=B.M.length/\rM x.M=rM B.M/\[vI x.O,vI x.Lo,vI x.C,vI x.G,vI x.Co,vI x.E,AV.vec 4 x.Fs.length (Fl x.Fs),AV.int IntKind.i64 x.main]=B.rest/\BM r B.M/\(((L.getD j Ab.none).kids.getD 0 0-0).NonNeg->((r.length:Int)-((L.getD j Ab.none).kids.getD 0 0+1)).NonNeg->DM r ((L.getD j Ab.none).kids.getD 0 0)=13\/DM r ((L.getD j Ab.none).kids.getD 0 0)=6\/DM r ((L.getD j Ab.none).kids.getD 0 0)=4->False))/\E2 L x.M ((L.getD j Ab.none).kids.getD 0 0)=CG L x.M j:=λy=>by obtain⟨g1,g2,g3,g4⟩:=du Y K y;refine⟨⟨L,x,rfl,rfl,rfl,rfl,rfl,J,λ_ _ h=>?_⟩,(AcS K y).symm⟩;rw[g4]at h;omega
 have U:∀(y:HE (L.getD j Ab.none).kind),0<(L.getD j Ab.none).kids.length:=λy=>(du Y K y).1;have z:∀(y:HE (L.getD j Ab.none).kind),Ag (Au ((L.getD j Ab.none).kids.length:Int) 0) (0=CG L x.M j) (Ap (AO 0 (L.getD j Ab.none).kids.length) _):=λy=>Ao (λh=>by have:=U y;rw[Ba]at h;omega) λh=>Am (AK.2 (by have:=U y;omega)) (W y);refine Am (AK.2 (by omega)) (Ao (λh=>z (.inl (Ba.1 h))) λV=>Ao (λh=>z (.inr (.inl (Ba.1 h)))) λh6=>Ao (λh=>z (.inr (.inr (Ba.1 h)))) λh4=>?_);rw[BB]at V h6 h4;have S:¬HE (L.getD j Ab.none).kind:=λh=>by
  rcases h with h|h|h
  ·exact V h
  ·exact h6 h
  ·exact h4 h
 refine Ao (λR=>?_) λR=>?_
 ·rw[Ba]at R;rw[XL S,eX K R];exact Afe λe=>Am (AK.2 (by omega)) (Am (AU.2 (by omega)) (by rw[e];rfl))
 ·rw[BB]at R;rw[XL S,XI R]
theorem AnT:∀(L:Ac) (x:LN) (i:Int),BM L x.M->Good L->(A3 zQ 60).call 23 [tree L,.agg x.row,.int .i64 i] .leaf 0 (BS Tryz.prog false (.int .i64 (AF (CG L x.M i)))):=Eq.mpr (by kernel_rfl) AnU
def gV (a:Ac) (b:Int):=Ag (decide (Ab.text (getD a (toNat b) Ab.none)=[(104:UInt8),97,110,100]))
def gP (a:Ac) (b:Int):=Ag (decide (Ab.text (getD a (toNat b) Ab.none)=[(116:UInt8),111,107]))
def gQ (a:Ac) (b:Int):=Ag (decide (Ab.text (getD a (toNat b) Ab.none)=[(105:UInt8),110,116]))
def gR (a:Ac) (b:Int):=Ag (decide (Ab.text (getD a (toNat b) Ab.none)=[(97:UInt8),114,114]))
def gX (a:Ac) (b:Int):=Ag (decide (Ab.text (getD a (toNat b) Ab.none)=[(102:UInt8),110]))
theorem AnW:∀(L:Ac) (x:LN) (i:Int),BM L x.M->(gY i L)->Ag (AP i (0:Int)) (MB L x i) (Ag (!AP i (CX L)) (MB L x i) (IY i L (Ag (Au (ET L i) (13:Int)) (Mx L i False) (Ag (Au (ET L i) (6:Int)) (Mx L i False) (Ag (Au (ET L i) (4:Int)) (Mx L i False) (Ag (!Au (ET L i) (5:Int)) (MB L x i) (gQ L i (Aa/\(1:Int)=AF (E2 L x.M i)) (gX L i (Aa/\(2:Int)=AF (E2 L x.M i)) (gP L i (Aa/\(3:Int)=AF (E2 L x.M i)) (gV L i (Aa/\(4:Int)=AF (E2 L x.M i)) (gR L i (Aa/\(5:Int)=AF (E2 L x.M i)) (Ap (AO i x.M.length) (QN x i (Aa/\Int.negSucc 0-O2 x i=AF (E2 L x.M i)))))))))))))))
:=by
 delta Ll C7 Mx CX CH O2 ET MB Gy Lz IY gV QN gP gQ gR gX gY;intro L x i U hi;have K:0<=i->i<L.length->¬HE (DM L i):=hi;have y:BM L x.M:=U;have V:=y.Mi;have S:=y.len;simp only[Bq];refine Ao (λB=>?_) λB=>Ao (λJ=>?_) λJ=>?_
 ·rw[Bd]at B;rw[XJ (.inl B)]
 ·rw[BZ,Bl]at J;rw[XJ (.inr (by omega))]
 rw[Bl]at B;rw[BI,Bd]at J;obtain⟨j,rfl⟩:∃j:Nat,i=j:=⟨i.toNat,by omega⟩;simp only[Int.toNat_natCast];have R:j<L.length:=by omega
 have hn:=y.n j R;have r:¬HE (L.getD j Ab.none).kind:=by have:=K (by omega) (by omega);unfold DM at this;rwa[Int.toNat_natCast]at this
 refine Am (AK.2 (by omega)) (Ao (λh=>absurd (.inl (Ba.1 h)) r) λW=>Ao (λh=>absurd (.inr (.inl (Ba.1 h))) r) λY=>Ao (λh=>absurd (.inr (.inr (Ba.1 h))) r) λZ=>?_);refine Ao (λz=>?_) λz=>?_
 ·rw[BZ,BB]at z;rw[XI z]
 ·rw[BI,Ba]at z;rw[eX R z];exact Aff λe=>Am (AK.2 (by omega)) (Am (AU.2 (by omega)) (by rw[e];rfl))
theorem AnV:∀(L:Ac) (x:LN) (i:Int),BM L x.M->tO L i->(A3 ca 60).call 30 [tree L,.agg x.row,.int .i64 i] .leaf 0 (BS Tryz.prog false (.int .i64 (AF (E2 L x.M i)))):=Eq.mpr (by kernel_rfl) AnW
theorem AnY:∀(L:Ac) (x:LN) (i:Int),BM L x.M->Good L->Ag (AP i (0:Int)) (MA L x i) (Ag (!AP i (CX L)) (MA L x i) (IY i L (Ag (Au (ET L i) (13:Int)) (QK L i x) (Ag (Au (ET L i) (6:Int)) (QK L i x) (Ag (Au (ET L i) (4:Int)) (QK L i x) (Ag (!Au (ET L i) (5:Int)) (MA L x i) (gQ L i (Aa/\(1:Int)=AF (CG L x.M i)) (gX L i (Aa/\(2:Int)=AF (CG L x.M i)) (gP L i (Aa/\(3:Int)=AF (CG L x.M i)) (gV L i (Aa/\(4:Int)=AF (CG L x.M i)) (gR L i (Aa/\(5:Int)=AF (CG L x.M i)) (Ap (AO i x.M.length) (QN x i (Aa/\Int.negSucc 0-O2 x i=AF (CG L x.M i)))))))))))))))
:=by
 delta Ll C7 Mx CX O2 ET MA IY gV QN QK gP gQ gR gX;intro L x i hM W;have W:Good L:=W;have J:BM L x.M:=hM;have ad:=J.Mi;have ab:=J.len;simp only[Bq,mf,Ll,CI,Cz,Dk,CL,CH,QF];simp only[DY,HB];refine Ao (λY=>?_) λY=>Ao (λZ=>?_) λZ=>?_
 ·rw[Bd]at Y;rw[eY (.inl Y)]
 ·rw[BZ,Bl]at Z;rw[eY (.inr (by omega))]
 rw[Bl]at Y;rw[BI,Bd]at Z;obtain⟨j,rfl⟩:∃j:Nat,i=j:=⟨i.toNat,by omega⟩;simp only[Int.toNat_natCast];have K:j<L.length:=by omega
 have hn:=J.n j K;have V:∀(z:HE (L.getD j Ab.none).kind),(∃(r:Ac) (B:LN),L.length=r.length/\AE L=AE r/\x.M.length=B.M.length/\rM x.M=rM B.M/\[vI x.O,vI x.Lo,vI x.C,vI x.G,vI x.Co,vI x.E,AV.vec 4 x.Fs.length (Fl x.Fs),AV.int IntKind.i64 x.main]=B.rest/\BM r B.M/\(((L.getD j Ab.none).kids.getD 0 0-0).NonNeg->((r.length:Int)-((L.getD j Ab.none).kids.getD 0 0+1)).NonNeg->DM r ((L.getD j Ab.none).kids.getD 0 0)=13\/DM r ((L.getD j Ab.none).kids.getD 0 0)=6\/DM r ((L.getD j Ab.none).kids.getD 0 0)=4->False))/\E2 L x.M ((L.getD j Ab.none).kids.getD 0 0)=CG L x.M j:=λz=>by obtain⟨g1,g2,g3,g4⟩:=du W K z;refine⟨⟨L,x,rfl,rfl,rfl,rfl,rfl,J,λ_ _ h=>?_⟩,(AcS K z).symm⟩;rw[g4]at h;omega
 have aa:∀(z:HE (L.getD j Ab.none).kind),0<(L.getD j Ab.none).kids.length:=λz=>(du W K z).1;have y:∀(z:HE (L.getD j Ab.none).kind),(Ap (AO 0 (L.getD j Ab.none).kids.length) _):=λz=>Am (AK.2 (by have:=aa z;omega)) (V z);refine Am (AK.2 (by omega)) (Ao (λh=>y (.inl (Ba.1 h))) λU=>Ao (λh=>y (.inr (.inl (Ba.1 h)))) λh6=>Ao (λh=>y (.inr (.inr (Ba.1 h)))) λh4=>?_);rw[BB]at U h6 h4;have S:¬HE (L.getD j Ab.none).kind:=λh=>by
  rcases h with h|h|h
  ·exact U h
  ·exact h6 h
  ·exact h4 h
 refine Ao (λR=>?_) λR=>?_
 ·rw[BZ,BB]at R;rw[XL S,XI R]
 ·rw[BI,Ba]at R;rw[XL S,eX K R];exact Aff λe=>Am (AK.2 (by omega)) (Am (AU.2 (by omega)) (by rw[e];rfl))
theorem AnX:∀(L:Ac) (x:LN) (i:Int),BM L x.M->Good L->(A3 zS 60).call 30 [tree L,.agg x.row,.int .i64 i] .leaf 0 (BS Tryz.prog false (.int .i64 (AF (CG L x.M i)))):=Eq.mpr (by kernel_rfl) AnY
end Go.Proofs.YthallodoidghoaaGreat
end
end
