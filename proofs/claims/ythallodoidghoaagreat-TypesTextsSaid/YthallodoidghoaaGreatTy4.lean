/- Laid by program out of its parts: TyN, TyO, TyP, TyQ. -/
import Derived.Test.YthallodoidghoaaGreatTy3
noncomputable section
open List(getD)
open Int(toNat)
set_option linter.unusedVariables false
set_option linter.unusedSimpArgs false
section
set_option maxRecDepth 100000
set_option maxHeartbeats 2000000
open Go Go.Ev
namespace Go.Proofs.YthallodoidghoaaGreat
def JJ (L:Ac) (s:Aj) (l:Af) (i:Nat):Int:=if h:i<l.length then(if(L.getD (l.getD i 0).toNat Ab.none).text=s then(i:Int)else JJ L s l (i+1))else-1
termination_by l.length-i
decreasing_by omega
def Fw (L:Ac) (C:Af) (c:Int):Af:=(L.getD (C.getD (-1-c).toNat 0).toNat Ab.none).kids
def Ea (L:Ac) (M:List (Int×Int)) (C:Af) (c:Int) (s:Aj):Int×Int:=if 0<=c\/(C.length:Int)<=-1-c then(-1,0)else if JJ L s (Fw L C c) 0<0 then(-1,0)else(JJ L s (Fw L C c) 0,CG L M ((Fw L C c).getD (JJ L s (Fw L C c) 0).toNat 0))
def LN.YI (x:LN):Al:=[vI x.G,vI x.Co,vI x.E,.vec 4 x.Fs.length (Fl x.Fs),.int .i64 x.main]
def Hm (L:Ac) (C:Af):Prop:=∀c∈C,0<=c/\c<L.length
def PJ:Tr Ah->Al->Option Ct:=λ_ args=>match args with
 | [.agg [.vec 6 n f],.agg (.vec 2 m g::o::lo::.vec 1 r y::q),.int .i64 c,.bs s]=>some (.Bb (∃(L:Ac) (x:LN),n=L.length/\f=AE L/\m=x.M.length/\g=rM x.M/\o=vI x.O/\lo=vI x.Lo/\r=x.C.length/\y=Aq x.C/\q=x.YI/\BM L x.M/\Good L/\Hm L x.C/\-1000000000<=c/\c<=9223372036854775807) (.ret (.AM [.int .i64 (AF (Ea (H4 n f) (LH m g) (Dy r y) c s).1),.int .i64 (AF (Ea (H4 n f) (LH m g) (Dy r y) c s).2)])))
 |_=>none
structure Pp (L:List Ab) (s:List UInt8) (l:List Int) (i:Nat):Prop where
 le:i<=l.length
 eq:JJ L s l i=JJ L s l 0
def Af6 (L:Ac) (s:Aj) (l:Af):B0:=thin Nat [0,1,4,7] (λi=>[(8,.int .i64 i)]) (λ_ i=>Pp L s l i) λi=>l.length-i
def Af7 (L:Ac) (s:Aj) (l:Af):B0:=thin Nat [0,1,2,3,4,5,8,9,10,11] (λi=>[(12,.int .i64 i)]) (λ_ i=>Pp L s l i) λi=>l.length-i
def zK (L:Ac) (s:Aj) (l:Af):Ctx:={P:=Tryz.prog,tb:=[(23,L8)],lp:=λf r=>cond (Nat.beq f 49) (cond (Nat.beq r 2) (some (Af6 L s l)) none) none,cut:=λ_ _=>none}
def zL (L:Ac) (s:Aj) (l:Af):Ctx:={P:=Tryz.prog,tb:=[(30,L8)],lp:=λf r=>cond (Nat.beq f 70) (cond (Nat.beq r 6) (some (Af7 L s l)) none) none,cut:=λ_ _=>none}
theorem FJ (r:List (Nat×Nat)) (S:Af) (i:Nat):AZ r (Aq S i) (Aq S i):=⟨⟨rfl,rfl⟩,trivial⟩
theorem Ph (x:LN):Bi [] (.agg x.row) (.agg x.row):=⟨⟨rfl,rfl,⟨λ_ _=>iq [] _⟩⟩,⟨rfl,rfl,⟨λ_ _=>FJ [] _ _⟩⟩,⟨rfl,rfl,⟨λ_ _=>FJ [] _ _⟩⟩,⟨rfl,rfl,⟨λ_ _=>FJ [] _ _⟩⟩,⟨rfl,rfl,⟨λ_ _=>FJ [] _ _⟩⟩,⟨rfl,rfl,⟨λ_ _=>FJ [] _ _⟩⟩,⟨rfl,rfl,⟨λ_ _=>FJ [] _ _⟩⟩,⟨rfl,rfl,⟨λ_ _=>⟨⟨rfl,rfl⟩,⟨rfl,rfl⟩,rfl,⟨rfl,rfl,⟨λ_ _=>FJ [] _ _⟩⟩,trivial⟩⟩⟩,⟨rfl,rfl⟩,trivial⟩
theorem AkF:JG Tryz.prog 5 vR:=by
 refine MI (gl:=[]) (ng:=0) AS λH args J r y=>?_;unfold vR at r;split at r
 ·rename_i n f a;injection r with r;subst r;obtain⟨L,rfl,rfl,rfl⟩:=y;refine⟨AS,⟨FK L,⟨rfl,rfl⟩,trivial⟩,zM L,60,rfl,Cc,Bk,?_⟩;have:=AnD L;have e:(λb:Bool=>b=false->LX L)=λb=>b=false->∀M:Ac,L.length=M.length->AE L=AE M->LX M:=by funext b;exact propext ⟨λh x M B z=>QR B z▸h x,λh x=>h x L rfl rfl⟩
  rw[e]at this;exact this
 ·cases r
theorem AkK:BC Tryz.prog 23 Ug:=by
 refine Cw (gl:=[]) (ng:=0) AS λH args ct r=>?_;unfold Ug at r;split at r
 ·rename_i n f m g q i;injection r with r;subst r;refine⟨AS,_,_,rfl,?_⟩;rintro⟨L,x,rfl,rfl,rfl,rfl,rfl,y,hi⟩;rw[DY,HB];exact⟨⟨FK L,Ph x,⟨rfl,rfl⟩,trivial⟩,ca,60,rfl,Cc,Bk,AnR L x i y hi⟩
 ·cases r
theorem uA:BC Tryz.prog 23 L8:=by
 refine Cw (gl:=[]) (ng:=0) AS λH args ct r=>?_;unfold L8 at r;split at r
 ·rename_i n f m g q i;injection r with r;subst r;refine⟨AS,_,_,rfl,?_⟩;rintro⟨L,x,rfl,rfl,rfl,rfl,rfl,y,hi⟩;rw[DY,HB];exact⟨⟨FK L,Ph x,⟨rfl,rfl⟩,trivial⟩,zQ,60,rfl,Cc,BD AkK Bk,AnT L x i y hi⟩
 ·cases r
theorem AkL:BC Tryz.prog 30 Ug:=by
 refine Cw (gl:=[]) (ng:=0) AS λH args ct r=>?_;unfold Ug at r;split at r
 ·rename_i n f m g q i;injection r with r;subst r;refine⟨AS,_,_,rfl,?_⟩;rintro⟨L,x,rfl,rfl,rfl,rfl,rfl,y,hi⟩;rw[DY,HB];exact⟨⟨FK L,Ph x,⟨rfl,rfl⟩,trivial⟩,ca,60,rfl,Cc,Bk,AnV L x i y hi⟩
 ·cases r
theorem e9:BC Tryz.prog 30 L8:=by
 refine Cw (gl:=[]) (ng:=0) AS λH args ct r=>?_;unfold L8 at r;split at r
 ·rename_i n f m g q i;injection r with r;subst r;refine⟨AS,_,_,rfl,?_⟩;rintro⟨L,x,rfl,rfl,rfl,rfl,rfl,y,hi⟩;rw[DY,HB];exact⟨⟨FK L,Ph x,⟨rfl,rfl⟩,trivial⟩,zS,60,rfl,Cc,BD AkL Bk,AnX L x i y hi⟩
 ·cases r
theorem Acj {L:Ac} {M:List (Int×Int)} {C:Af} {c:Int} {s:Aj} (h:0<=c\/(C.length:Int)<=-1-c):Ea L M C c s=(-1,0):=by unfold Ea;rw[As h]
theorem Aci {L:Ac} {M:List (Int×Int)} {C:Af} {c:Int} {s:Aj} (x:c<0) (r:-1-c<(C.length:Int)) (h:JJ L s (Fw L C c) 0= -1):Ea L M C c s=(-1,0):=by unfold Ea;rw[An (by omega),As (by omega)]
theorem Acg {L:Ac} {M:List (Int×Int)} {C:Af} {c:Int} {s:Aj} {i:Nat} (x:c<0) (r:-1-c<(C.length:Int)) (h:JJ L s (Fw L C c) 0=i):Ea L M C c s=((i:Int),CG L M ((Fw L C c).getD i 0)):=by unfold Ea;rw[An (by omega),An (by omega),h,Int.toNat_natCast]
def IK (a:Ac) (b:LN) (c:Int):=Ab.kids (getD a (toNat (getD b.C (toNat (Int.negSucc 0-c)) (0:Int))) Ab.none)
def gS (a:Ac) (b:LN) (c:Int):=(Aa/\Ae (List.length (IK a b c))/\Ar λ(r:Nat)=>AD r (List.length (IK a b c))->(Aa/\Ae (getD (IK a b c) r (0:Int)))/\True)
@[reducible] def mh:Ac->LN->Int->Prop:=λ(L:Ac) (x:LN) (c:Int)=>(gS L x c)/\(Aa/\True/\Cm/\(Ae (some 2)/\Aa)/\True)/\NT/\(Aa/\Ae (Int.ofNat (List.length (IK L x c))))/\True
def O1 (a:LN) (b:Nat):=(Aa/\Ae (List.length (A6.Hs (getD a.Fs b A6.none)))/\Ar λ(r:Nat)=>AD r (List.length (A6.Hs (getD a.Fs b A6.none)))->(Aa/\Ae (getD (A6.Hs (getD a.Fs b A6.none)) r (0:Int)))/\True)
def Jy (a:LN) (b:Nat):=getD a.Fs b A6.none
@[reducible] def mm:Ac->LN->Aj->Prop:=λ(L:Ac) (x:LN) (s:Aj)=>(Vk L)/\(Aa/\Aa/\Aa/\Aa/\((((((((True/\Aa/\Ae x.M.length/\Ar λ(i:Nat)=>AD i x.M.length->(Aa/\Ae (Prod.fst (getD x.M i C7)))/\(Aa/\Ae (Prod.snd (getD x.M i C7)))/\True)/\Aa/\Ae x.O.length/\Ar λ(i:Nat)=>AD i x.O.length->(Aa/\Ae (getD x.O i (0:Int)))/\True)/\Aa/\Ae x.Lo.length/\Ar λ(i:Nat)=>AD i x.Lo.length->(Aa/\Ae (getD x.Lo i (0:Int)))/\True)/\Aa/\Ae x.C.length/\Ar λ(i:Nat)=>AD i x.C.length->(Aa/\Ae (getD x.C i (0:Int)))/\True)/\Aa/\Ae x.G.length/\Ar λ(i:Nat)=>AD i x.G.length->(Aa/\Ae (getD x.G i (0:Int)))/\True)/\Aa/\Ae x.Co.length/\Ar λ(i:Nat)=>AD i x.Co.length->(Aa/\Ae (getD x.Co i (0:Int)))/\True)/\Aa/\Ae x.E.length/\Ar λ(i:Nat)=>AD i x.E.length->(Aa/\Ae (getD x.E i (0:Int)))/\True)/\Aa/\Ae x.Fs.length/\Ar λ(i:Nat)=>AD i x.Fs.length->(Aa/\Ae (A6.Pf (Jy x i)))/\(Aa/\Ae (A6.up (Jy x i)))/\Ae (A6.name (Jy x i))/\(O1 x i)/\True)/\Aa/\Ae x.main)/\(Aa/\Aa/\Aa/\Aa/\True/\s=s)/\True
def GL (a:LN) (b:Ac):=(∀(r:Int),List.Mem r a.C->Int.NonNeg (r-0)/\Int.NonNeg ((↑b.length:Int)-(r+1)))
def gD (a:Ac) (b:LN) (c:Int) (d:Nat) (e:Aj):=Ag (decide (Ab.text (getD a (toNat (getD (Ab.kids (getD a (toNat (getD b.C (toNat (Int.negSucc 0-c)) (0:Int))) Ab.none)) (toNat (↑d:Int)) (0:Int))) Ab.none)=e)) (Ap (AO (↑d:Int) (List.length (IK a b c))) ((∃(x:Ac),∃(r:LN),a.length=x.length/\AE a=AE x/\b.M.length=r.M.length/\rM b.M=rM r.M/\[vI b.O,vI b.Lo,vI b.C,vI b.G,vI b.Co,vI b.E,Cz b,AV.int .i64 b.main]=LN.rest r/\BM x r.M/\Good x)/\(((True/\True/\True/\True)/\True)/\((True/\True/\True/\True)/\True)/\True)/\(Aa/\(↑d:Int)=AF (Prod.fst (Ea a b.M b.C c e)))/\(Aa/\AF (CG (Dk a) (LH b.M.length (rM b.M)) (getD (IK a b c) (B8 d) (0:Int)))=AF (Prod.snd (Ea a b.M b.C c e)))/\True))
def Qw (a:Ac) (b:LN) (c:Int) (d:Aj):=((Aa/\Int.negSucc 0=AF (Prod.fst (Ea a b.M b.C c d)))/\(Aa/\(0:Int)=AF (Prod.snd (Ea a b.M b.C c d)))/\True)
def J5 (a:Int):=(Int.negSucc 0-a)
def LD:=(9223372036854775807:Int)
def LF:=Int.negSucc 999999999
theorem AnC:∀(L:Ac) (x:LN) (c:Int) (s:Aj),BM L x.M->Good L->(GL x L)->Int.NonNeg (c-LF)->Int.NonNeg (LD-c)->IU c (Qw L x c s) (Ap (Bf .i64 (J5 c)) (Ag (!AP (J5 c) (Int.ofNat x.C.length)) (Qw L x c s) (Ap (Bf .i64 (J5 c)) (Ap (AO (J5 c) x.C.length) (Ap (AO (getD x.C (toNat (J5 c)) (0:Int)) L.length) ((CI/\True)/\(∃(x0:Nat),Pp L s (Fw L x.C c) x0/\Aa/\((Cr x0)/\mh L x c)/\mm L x s)/\∀(r:Nat),Pp L s (Fw L x.C c) r->Ag (Dh r (Int.ofNat (List.length (IK L x c)))) (Ap (D8 r (List.length (IK L x c))) (Ap (AO (getD (IK L x c) (B8 r) (0:Int)) L.length) ((ES/\True)/\gD L x c r s (Bj r (∃(W:Nat),Pp L s (Fw L x.C c) W/\Nat.le (Nat.succ (List.length (Fw L x.C c)-W)) (List.length (Fw L x.C c)-r)/\Aa/\((Cb r W)/\mh L x c)/\mm L x s))))) (Qw L x c s)))))))
:=by
 delta Bj IK B8 CI Cz GL Dk Cb gD ES Qw Cr Dh D8 IU J5 LD LF;intro L x c s hM hG hC hc S;have U:BM L x.M:=hM;have B:Good L:=hG;have aa:Hm L x.C:=hC;have ae:-1000000000<=c:=hc;have ad:c<=9223372036854775807:=S;clear hc S;simp only[Bq,mh,mm,AD,IK,Cm,gS,NT,Bc,Cl,Vk,C7,O1,Jy];have e1:Int.negSucc 0= -1:=rfl;have hk:(L.getD (x.C.getD (-1-c).toNat 0).toNat Ab.none).kids=Fw L x.C c:=rfl;simp only[e1,hk,DY,HB];have ab:=U.len;have z:(0<=c\/(x.C.length:Int)<=-1-c)->-1=(Ea L x.M x.C c s).1/\0=(Ea L x.M x.C c s).2:=λh=>by rw[Acj h];exact⟨rfl,rfl⟩
 refine Ao (λK=>z ?_) λK=>Am (AU.2 (by rw[BI,Bd]at K;omega)) (Ao (λV=>z ?_) λV=>?_)
 ·rw[BZ,Bl]at K;omega
 ·rw[BZ,Bl]at V;omega
 rw[BI,Bd]at K V;have q1:c<0:=K;have q2:-1-c<(x.C.length:Int):=V;refine Am (AU.2 (by omega)) ?_;obtain⟨g1,g2⟩:=aa _ (G6 (l:=x.C) (k:=(-1-c).toNat) (by omega));have Z:=B.Mf (x.C.getD (-1-c).toNat 0).toNat (by omega);have R:=B.Gn (x.C.getD (-1-c).toNat 0).toNat (by omega);rw[hk]at Z R;refine Am (AK.2 (by omega)) (Am (AK.2 (by omega)) ⟨⟨0,⟨BL _,rfl⟩,rfl⟩,λi hi=>Ao (λY=>?_) λY=>?_⟩)
 ·rw[Bd]at Y;have y:i<(Fw L x.C c).length:=by omega
  obtain⟨g3,g4⟩:=R _ (G6 y);refine Am (AK.2 (by omega)) (Am (AK.2 (by omega)) (Ao (λJ=>Am (AK.2 (by omega)) ⟨⟨L,x,rfl,rfl,rfl,rfl,rfl,U,B⟩,?_⟩) λJ=>Am (AU.2 (by omega)) ⟨i+1,⟨y,?_⟩,by omega,by omega⟩))
  ·rw[Bn]at J;rw[Acg q1 q2 (i:=i) (by rw[<-hi.eq,JJ,dif_pos y,As J])];exact⟨rfl,rfl⟩
  ·rw[CU]at J;rw[<-hi.eq]
   conv=>rhs;rw[JJ,dif_pos y,An J]
 ·rw[Bl]at Y;have:=hi.le;rw[Aci q1 q2 (by rw[<-hi.eq,JJ,dif_neg (by omega)])];exact⟨rfl,rfl⟩
theorem Anz:∀(L:Ac) (x:LN) (c:Int) (s:Aj),BM L x.M->Good L->Hm L x.C->-1000000000<=c->c<=9223372036854775807->(A3 (zK L s (Fw L x.C c)) 60).call 47 [tree L,.agg x.row,.int .i64 c,.bs s] .leaf 0 (BS Tryz.prog false (.AM [.int .i64 (AF (Ea L x.M x.C c s).1),.int .i64 (AF (Ea L x.M x.C c s).2)])):=Eq.mpr (by kernel_rfl) AnC
@[reducible] def Pv:LN->Prop:=λ(x:LN)=>Aa/\Ae x.M.length/\Ar λ(i:Nat)=>AD i x.M.length->(Aa/\Ae (Prod.fst (getD x.M i C7)))/\(Aa/\Ae (Prod.snd (getD x.M i C7)))/\True
@[reducible] def Pw:LN->Prop:=λ(x:LN)=>Aa/\Ae x.Fs.length/\Ar λ(i:Nat)=>AD i x.Fs.length->(Aa/\Ae (A6.Pf (Jy x i)))/\(Aa/\Ae (A6.up (Jy x i)))/\Ae (A6.name (Jy x i))/\(O1 x i)/\True
def Sy (a:LN):=((((((((True/\Pv a)/\Aa/\Ae a.O.length/\Ar λ(J:Nat)=>AD J a.O.length->(Aa/\Ae (getD a.O J (0:Int)))/\True)/\Aa/\Ae a.Lo.length/\Ar λ(B:Nat)=>AD B a.Lo.length->(Aa/\Ae (getD a.Lo B (0:Int)))/\True)/\Aa/\Ae a.C.length/\Ar λ(z:Nat)=>AD z a.C.length->(Aa/\Ae (getD a.C z (0:Int)))/\True)/\Aa/\Ae a.G.length/\Ar λ(y:Nat)=>AD y a.G.length->(Aa/\Ae (getD a.G y (0:Int)))/\True)/\Aa/\Ae a.Co.length/\Ar λ(x:Nat)=>AD x a.Co.length->(Aa/\Ae (getD a.Co x (0:Int)))/\True)/\Aa/\Ae a.E.length/\Ar λ(r:Nat)=>AD r a.E.length->(Aa/\Ae (getD a.E r (0:Int)))/\True)/\Pw a)
@[reducible] def Px:Ac->LN->Prop:=λ(L:Ac) (x:LN)=>(Aa/\Aa/\Aa/\Aa/\True/\Dl L)/\(Aa/\Aa/\Aa/\Aa/\(Sy x)/\Aa/\Ae x.main)/\True
def Vd (a:LN):=(Pv a/\(Aa/\Ae a.O.length/\Ar λ(J:Nat)=>AD J a.O.length->(Aa/\Ae (getD a.O J (0:Int)))/\True)/\(Aa/\Ae a.Lo.length/\Ar λ(B:Nat)=>AD B a.Lo.length->(Aa/\Ae (getD a.Lo B (0:Int)))/\True)/\(Aa/\Ae a.C.length/\Ar λ(z:Nat)=>AD z a.C.length->(Aa/\Ae (getD a.C z (0:Int)))/\True)/\(Aa/\Ae a.G.length/\Ar λ(y:Nat)=>AD y a.G.length->(Aa/\Ae (getD a.G y (0:Int)))/\True)/\(Aa/\Ae a.Co.length/\Ar λ(x:Nat)=>AD x a.Co.length->(Aa/\Ae (getD a.Co x (0:Int)))/\True)/\(Aa/\Ae a.E.length/\Ar λ(r:Nat)=>AD r a.E.length->(Aa/\Ae (getD a.E r (0:Int)))/\True)/\Pw a/\(Aa/\Ae a.main)/\True)
@[reducible] def mg:Ac->LN->Int->Aj->Prop:=λ(L:Ac) (x:LN) (c:Int) (s:Aj)=>(Dl L/\True)/\(Vd x)/\(Aa/\c=c)/\s=s/\Cm/\Fh/\NT/\NT/\(Aa/\Ae (J5 c))/\(gS L x c)/\True
theorem AnB:∀(L:Ac) (x:LN) (c:Int) (s:Aj),BM L x.M->Good L->(GL x L)->Int.NonNeg (c-LF)->Int.NonNeg (LD-c)->Ap (Bf .i64 (J5 c)) (Ag (AP (J5 c) (0:Int)) (Qw L x c s) (Ag (!AP (J5 c) (Int.ofNat x.C.length)) (Qw L x c s) (Ap (AO (J5 c) x.C.length) (Ap (AO (getD x.C (toNat (J5 c)) (0:Int)) L.length) ((CI/\True)/\(∃(x0:Nat),Pp L s (Fw L x.C c) x0/\Aa/\((Cr x0)/\mg L x c s)/\Px L x)/\∀(r:Nat),Pp L s (Fw L x.C c) r->Ag (Dh r (Int.ofNat (List.length (IK L x c)))) (Ap (D8 r (List.length (IK L x c))) (Ap (AO (getD (IK L x c) (B8 r) (0:Int)) L.length) ((ES/\True)/\gD L x c r s (Bj r (∃(V:Nat),Pp L s (Fw L x.C c) V/\Nat.le (Nat.succ (List.length (Fw L x.C c)-V)) (List.length (Fw L x.C c)-r)/\Aa/\((Cb r V)/\mg L x c s)/\Px L x))))) (Qw L x c s))))))
:=by
 delta Bj IK B8 CI Cz GL Dk Cb gD ES Qw Cr Dh D8 J5 LD LF;intro L x c s hM hG hC hc R;have S:BM L x.M:=hM;have B:Good L:=hG;have aa:Hm L x.C:=hC;have ae:-1000000000<=c:=hc;have ad:c<=9223372036854775807:=R;clear hc R;simp only[Bq,Pv,Pw,Iy,Px,mg,AD,C7,O1,Jy,Bc,Cl,Hg,Sy,Dl,IK,Vd,Cm,Fh,J5,gS,NT];have e1:Int.negSucc 0= -1:=rfl;have hk:(L.getD (x.C.getD (-1-c).toNat 0).toNat Ab.none).kids=Fw L x.C c:=rfl;simp only[e1,hk,DY,HB];have ab:=S.len;have z:(0<=c\/(x.C.length:Int)<=-1-c)->-1=(Ea L x.M x.C c s).1/\0=(Ea L x.M x.C c s).2:=λh=>by rw[Acj h];exact⟨rfl,rfl⟩
 refine Am (AU.2 (by omega)) (Ao (λY=>z ?_) λY=>Ao (λU=>z ?_) λU=>?_)
 ·rw[Bd]at Y;omega
 ·rw[BZ,Bl]at U;omega
 rw[Bl]at Y;rw[BI,Bd]at U;have q1:c<0:=by omega
 have q2:-1-c<(x.C.length:Int):=U;obtain⟨g1,g2⟩:=aa _ (G6 (l:=x.C) (k:=(-1-c).toNat) (by omega));have Z:=B.Mf (x.C.getD (-1-c).toNat 0).toNat (by omega);have K:=B.Gn (x.C.getD (-1-c).toNat 0).toNat (by omega);rw[hk]at Z K;refine Am (AK.2 (by omega)) (Am (AK.2 (by omega)) ⟨⟨0,⟨BL _,rfl⟩,rfl⟩,λi hi=>Ao (λW=>?_) λW=>?_⟩)
 ·rw[Bd]at W;have y:i<(Fw L x.C c).length:=by omega
  obtain⟨g3,g4⟩:=K _ (G6 y);refine Am (AK.2 (by omega)) (Am (AK.2 (by omega)) (Ao (λJ=>Am (AK.2 (by omega)) ⟨⟨L,x,rfl,rfl,rfl,rfl,rfl,S,B⟩,?_⟩) λJ=>Am (AU.2 (by omega)) ⟨i+1,⟨y,?_⟩,by omega,by omega⟩))
  ·rw[Bn]at J;rw[Acg q1 q2 (i:=i) (by rw[<-hi.eq,JJ,dif_pos y,As J])];exact⟨rfl,rfl⟩
  ·rw[CU]at J;rw[<-hi.eq]
   conv=>rhs;rw[JJ,dif_pos y,An J]
 ·rw[Bl]at W;have:=hi.le;rw[Aci q1 q2 (by rw[<-hi.eq,JJ,dif_neg (by omega)])];exact⟨rfl,rfl⟩
theorem AnA:∀(L:Ac) (x:LN) (c:Int) (s:Aj),BM L x.M->Good L->Hm L x.C->-1000000000<=c->c<=9223372036854775807->(A3 (zL L s (Fw L x.C c)) 60).call 70 [tree L,.agg x.row,.int .i64 c,.bs s] .leaf 0 (BS Tryz.prog false (.AM [.int .i64 (AF (Ea L x.M x.C c s).1),.int .i64 (AF (Ea L x.M x.C c s).2)])):=Eq.mpr (by kernel_rfl) AnB
def rB (l:List Bool):Nat->Al:=λi=>[.bool (l.getD i false)]
def vB (l:List Bool):AV:=.vec 1 l.length (rB l)
def Ac7 (l:Al):Bool:=match l with
 | [.bool b]=>b
 |_=>false
def S0 (n:Nat) (f:Nat->Al):List Bool:=(List.range n).map λi=>Ac7 (f i)
def Dw (L:Ac) (x:LN) (X:Af) (H R:List Bool):Al:=[.vec 6 L.length (AE L),.vec 2 x.M.length (rM x.M),vI x.O,vI x.Lo,vI x.C,vI x.G,vI x.Co,vI x.E,.vec 4 x.Fs.length (Fl x.Fs),.int .i64 x.main,vI X,vB H,vB R]
def cL (cs:Al):Ac:=match cs with
 |.vec 6 n f::_=>H4 n f
 |_=>[]
def cM (cs:Al):List (Int×Int):=match cs with
 |_::.vec 2 n f::_=>LH n f
 |_=>[]
def cC (cs:Al):Af:=match cs with
 |_::_::_::_::.vec 1 n f::_=>Dy n f
 |_=>[]
def cG (cs:Al):Af:=match cs with
 |_::_::_::_::_::.vec 1 n f::_=>Dy n f
 |_=>[]
def cX (cs:Al):Af:=match cs with
 | [_,_,_,_,_,_,_,_,_,_,.vec 1 n f,_,_]=>Dy n f
 |_=>[]
def cH (cs:Al):List Bool:=match cs with
 | [_,_,_,_,_,_,_,_,_,_,_,.vec 1 n f,_]=>S0 n f
 |_=>[]
def cR (cs:Al):List Bool:=match cs with
 | [_,_,_,_,_,_,_,_,_,_,_,_,.vec 1 n f]=>S0 n f
 |_=>[]
def Gl (a b:Int):Bool:=if a=0 then decide (b≠1)else decide (a=b)
def JK (X:Af) (H:List Bool) (i:Nat) (r:Int):Bool:=!H.getD i false||Gl (X.getD i 0) r
def F8 (X:Af) (H:List Bool) (i:Nat) (r:Int):Bool:=!H.getD i false||decide (X.getD i 0=r)
def Hv (M:List (Int×Int)) (i:Nat):Bool:=decide ((M.getD i (0,0)).1≠3)
def A8 (L:Ac) (i j:Nat):Nat:=((L.getD i Ab.none).kids.getD j 0).toNat
def CC (L:Ac) (M:List (Int×Int)) (C:Af) (X:Af) (H:List Bool) (i:Nat):Bool:=
 let k:=(L.getD i Ab.none).kind;let n:=(L.getD i Ab.none).kids.length;let a:=A8 L i 0;let b:=A8 L i 1
 if k=13 then JK X H b (CG L M ((L.getD i Ab.none).kids.getD 0 0))
 else if k=14 then Hv M a&&(!H.getD a false||JK X H b (X.getD a 0))
 else if k=15 then F8 X H a 2
 else if k=19 then F8 X H a 2&&(decide (n=1)||Hv M b&&F8 X H b 3)
 else if k=20 then F8 X H a 2&&(decide (n=1)||Hv M b&&F8 X H b 4)
 else if k=16 then F8 X H a 3
 else if k=17 then F8 X H a 4
 else if k=18\/k=23\/k=24\/k=34 then F8 X H a 1
 else if k=35 then F8 X H a 5
 else if k=31 then F8 X H a 5&&F8 X H b 1
 else if k=30 then !H.getD a false||decide (0<=(Ea L M C (X.getD a 0) (L.getD i Ab.none).text).1)
 else if k=32 then(if(L.getD i Ab.none).text≠[61,61]then F8 X H a 1&&F8 X H b 1 else !H.getD a false|| !H.getD b false||Gl (X.getD a 0) (X.getD b 0)||Gl (X.getD b 0) (X.getD a 0))
 else true
def IZ (cs:Al) (i:Nat):Bool:=CC (cL cs) (cM cs) (cC cs) (cX cs) (cH cs) i
structure Hp (L:List Ab) (x:LN) (X:List Int) (H R:List Bool):Prop where
 CO:Good L
 m:BM L x.M
 c:Hm L x.C
 xl:X.length=L.length
 hl:H.length=L.length
 rl:R.length=L.length
 b:∀j,-1000000000<=X.getD j 0/\X.getD j 0<=9000000000
def Rz:Tr Ah->Al->Option Ct:=λ_ args=>match args with
 | [.int .i64 a,.int .i64 b]=>some (.Bb True (.ret (.bool (Ay (Gl a b)))))
 |_=>none
def pS:Tr Ah->Al->Option Ct:=λ_ args=>match args with
 | [.pv cs,.int .i64 i,.int .i64 r]=>some (.Bb (∃(L:Ac) (x:LN) (X:Af) (H R:List Bool),cs=Dw L x X H R/\Hp L x X H R/\0<=i/\i<L.length) (.ret (.bool (Ay (JK (cX cs) (cH cs) i.toNat r)))))
 |_=>none
def pT:Tr Ah->Al->Option Ct:=λ_ args=>match args with
 | [.pv cs,.int .i64 i]=>some (.Bb (∃(L:Ac) (x:LN) (X:Af) (H R:List Bool),cs=Dw L x X H R/\Hp L x X H R/\0<=i/\i<L.length) (.ret (.bool (Ay (Hv (cM cs) i.toNat)))))
 |_=>none
def pj:Tr Ah->Al->Option Ct:=λ_ args=>match args with
 | [.pv cs,.int .i64 i]=>some (.Bb (∃(L:Ac) (x:LN) (X:Af) (H R:List Bool),cs=Dw L x X H R/\Hp L x X H R/\0<=i/\i<L.length) (.ret (.bool (Ay (IZ cs i.toNat)))))
 |_=>none
def K6:Ctx:={P:=Tryz.prog,tb:=[],lp:=λ_ _=>none,cut:=λ_ _=>none}
def zC:Ctx:={P:=Tryz.prog,tb:=[(71,Rz)],lp:=λ_ _=>none,cut:=λ_ _=>none}
def zT:Ctx:={P:=Tryz.prog,tb:=[(30,L8),(71,Rz),(67,pS),(68,pT),(70,PJ)],lp:=λ_ _=>none,cut:=λ_ _=>none}
theorem gm (l:List Bool):S0 l.length (rB l)=l:=by
 apply List.ext_getElem
 ·simp[S0]
 ·intro i x r;simp[S0,rB,Ac7,Bt,Ce r]
theorem cE (L:Ac) (x:LN) (X:Af) (H R:List Bool):cL (Dw L x X H R)=L:=DY L
theorem TX (L:Ac) (x:LN) (X:Af) (H R:List Bool):cM (Dw L x X H R)=x.M:=HB x.M
theorem bY (L:Ac) (x:LN) (X:Af) (H R:List Bool):cC (Dw L x X H R)=x.C:=EC x.C
theorem oX (L:Ac) (x:LN) (X:Af) (H R:List Bool):cG (Dw L x X H R)=x.G:=EC x.G
theorem T3 (L:Ac) (x:LN) (X:Af) (H R:List Bool):cX (Dw L x X H R)=X:=EC X
theorem TW (L:Ac) (x:LN) (X:Af) (H R:List Bool):cH (Dw L x X H R)=H:=gm H
theorem o6 (L:Ac) (x:LN) (X:Af) (H R:List Bool):cR (Dw L x X H R)=R:=gm R
theorem Aft (l:List Bool) (i:Nat):AZ [] (rB l i) (rB l i):=⟨rfl,trivial⟩
theorem AcZ:BC Tryz.prog 47 PJ:=by
 refine Cw (gl:=[]) (ng:=0) AS λH args ct r=>?_;unfold PJ at r;split at r
 ·rename_i n f m g o lo R S q c s;injection r with r;subst r;refine⟨AS,_,_,rfl,?_⟩;rintro⟨L,x,rfl,rfl,rfl,rfl,rfl,rfl,rfl,rfl,rfl,y,z,B,K,J⟩;rw[DY,HB,EC];exact⟨⟨FK L,Ph x,⟨rfl,rfl⟩,rfl,trivial⟩,zK L s (Fw L x.C c),60,rfl,Cc,BD uA Bk,Anz L x c s y z B K J⟩
 ·cases r
theorem Ac0:BC Tryz.prog 70 PJ:=by
 refine Cw (gl:=[]) (ng:=0) AS λH args ct r=>?_;unfold PJ at r;split at r
 ·rename_i n f m g o lo R S q c s;injection r with r;subst r;refine⟨AS,_,_,rfl,?_⟩;rintro⟨L,x,rfl,rfl,rfl,rfl,rfl,rfl,rfl,rfl,rfl,y,z,B,K,J⟩;rw[DY,HB,EC];exact⟨⟨FK L,Ph x,⟨rfl,rfl⟩,rfl,trivial⟩,zL L s (Fw L x.C c),60,rfl,Cc,BD e9 Bk,AnA L x c s y z B K J⟩
 ·cases r
theorem Agx (a b:Int):(a==b)=decide (a=b):=by by_cases h:a=b<;>simp[h]
theorem AgZ (n:Nat):((n:Int)=1)=(n=1):=propext (by omega)
theorem AbX {c:UInt8} {s:Aj} {l:Af} (y:c≠42) (r:c≠63) (h:CF (c::s) l=true):0<l.length:=by
 cases l with
 |nil=>rw[RR _ y r]at h;cases h
 |cons x l=>simp
theorem Ai0 {c d:UInt8} {s:Aj} {l:Af} (y:c≠42) (r:c≠63) (B:d≠42) (z:d≠63) (h:CF (c::d::s) l=true):1<l.length:=by
 cases l with
 |nil=>rw[RR _ y r]at h;cases h
 |cons x l=>rw[Xw _ _ _ y r,B4]at h;have:=AbX B z h.2;simp only[Dn];omega
theorem dv {L:Ac} (y:Good L) {i:Nat} (hi:i<L.length) (r:(L.getD i Ab.none).kind=15\/(L.getD i Ab.none).kind=16\/(L.getD i Ab.none).kind=17\/(L.getD i Ab.none).kind=18\/(L.getD i Ab.none).kind=19\/(L.getD i Ab.none).kind=20\/(L.getD i Ab.none).kind=23\/(L.getD i Ab.none).kind=24\/(L.getD i Ab.none).kind=30\/(L.getD i Ab.none).kind=34\/(L.getD i Ab.none).kind=35):0<(L.getD i Ab.none).kids.length:=by
 have h:=y.kinds i hi;have hl:∃s,BT (L.getD i Ab.none).kind=101::s:=by rcases r with r|r|r|r|r|r|r|r|r|r|r<;>rw[r]<;>exact⟨_,rfl⟩
 obtain⟨s,x⟩:=hl;rw[x]at h;have:=AbX (by decide) (by decide) h;rwa[HJ]at this
theorem AbU {L:Ac} (y:Good L) {i:Nat} (hi:i<L.length) (r:(L.getD i Ab.none).kind=13\/(L.getD i Ab.none).kind=14\/(L.getD i Ab.none).kind=31\/(L.getD i Ab.none).kind=32):1<(L.getD i Ab.none).kids.length:=by
 have h:=y.kinds i hi;have hl:∃c s,BT (L.getD i Ab.none).kind=c::101::s/\c≠42/\c≠63:=by rcases r with r|r|r|r<;>rw[r]<;>exact⟨_,_,rfl,by decide,by decide⟩
 obtain⟨c,s,x,B,z⟩:=hl;rw[x]at h;have:=Ai0 B z (by decide) (by decide) h;rwa[HJ]at this
theorem Xu {L:Ac} (x:Good L) {i j:Nat} (hi:i<L.length) (r:j<(L.getD i Ab.none).kids.length):0<=(L.getD i Ab.none).kids.getD j 0/\(L.getD i Ab.none).kids.getD j 0<L.length:=by obtain⟨z,y⟩:=x.Gn i hi _ (G6 r);exact⟨by omega,y⟩
theorem AmW:∀(a b:Int),Ag (Au a (0:Int)) ((!Au b (1:Int))=Ay (Gl a b)) (Au a b=Ay (Gl a b))
:=by
 intro a b;simp only[Bq];unfold Gl;simp only[DD];refine Ao (λh=>?_) λh=>?_
 ·rw[As (by simpa using h)];by_cases hb:b=1<;>simp[hb]
 ·rw[An (by simpa using h)];by_cases hb:a=b<;>simp[hb]
theorem AmV:∀(a b:Int),(A3 K6 60).call 71 [.int .i64 a,.int .i64 b] .leaf 0 (BS Tryz.prog false (.bool (Ay (Gl a b)))):=Eq.mpr (by kernel_rfl) AmW
theorem Am0:∀(L:Ac) (x:LN) (X:Af) (H R:List Bool) (i r:Int),Hp L x X H R->Gy i->Lz L i->Ap (AO i H.length) (Ag (!getD H (toNat i) false) (true=Ay (JK X H (toNat i) r)) (H3 i X (True/\Ay (Gl (FD X i) r)=Ay (JK X H (toNat i) r))))
:=by
 delta FD CH H3 Gy Lz;intro L x X H R i r y B z;have B:0<=i:=B;have z:i<L.length:=z;have J:=y.xl;have K:=y.hl;simp only[Bq];unfold JK;refine Am (AK.2 (by omega)) (Ao (λh=>?_) λh=>Am (AK.2 (by omega)) ?_)
 ·rw[h];rfl
 ·rw[h];rfl
theorem AmZ:∀(L:Ac) (x:LN) (X:Af) (H R:List Bool) (i r:Int),Hp L x X H R->0<=i->i<L.length->(A3 zC 60).call 67 [.pv (Dw L x X H R),.int .i64 i,.int .i64 r] .leaf 0 (BS Tryz.prog false (.bool (Ay (JK X H i.toNat r)))):=Eq.mpr (by kernel_rfl) Am0
theorem Am4:∀(L:Ac) (x:LN) (X:Af) (H R:List Bool) (i:Int),Hp L x X H R->Gy i->Lz L i->Ap (AO i x.M.length) ((!Au (Prod.fst (getD x.M (toNat i) C7)) (3:Int))=Ay (Hv x.M (toNat i)))
:=by delta C7 CH Gy Lz;intro L x X H R i z y r;have y:0<=i:=y;have r:i<L.length:=r;have B:=z.m.Mi;simp only[Bq];unfold Hv;refine Am (AK.2 (by omega)) ?_;rw[DD];generalize(x.M.getD i.toNat (0,0)).1=a;by_cases hb:a=3<;>simp[hb]
theorem Am3:∀(L:Ac) (x:LN) (X:Af) (H R:List Bool) (i:Int),Hp L x X H R->0<=i->i<L.length->(A3 K6 60).call 68 [.pv (Dw L x X H R),.int .i64 i] .leaf 0 (BS Tryz.prog false (.bool (Ay (Hv x.M i.toNat)))):=Eq.mpr (by kernel_rfl) Am4
def Il (a:Ac) (b:Nat):=getD (Ab.kids (CA a b)) 1 (0:Int)
@[reducible] def WE:Ac->LN->Af->List Bool->List Bool->Nat->Ac->LN->Af->List Bool->List Bool->Prop:=λ(L:Ac) (x:LN) (X:Af) (H R:List Bool) (i:Nat) (a:Ac) (B:LN) (z:Af) (y r:List Bool)=>Dw L x X H R=Dw a B z y r/\Hp a B z y r/\Int.NonNeg (Il L i-0)/\Int.NonNeg ((CH a)-(Il L i+1))
def Df (a:Ac) (b:LN) (c:Af) (d:List Bool) (e:Nat):=Ay (CC a b.M b.C c d e)
def KK (a:Ac) (b:Nat):=Ap (AO (1:Int) (Ec a b))
def KN (a:Ac) (b:Nat):=toNat (Il a b)
@[reducible] def mo:Ac->LN->Af->List Bool->List Bool->Nat->Prop:=λ(L:Ac) (x:LN) (X:Af) (H R:List Bool) (i:Nat)=>(∃(B:Ac),∃(r:LN),∃(y:Af),∃(J:List Bool),∃(z:List Bool),WE L x X H R i B r y J z)/\Ag (Ay (Hv (cM (Dw L x X H R)) (KN L i))) (KK L i (Ap (AO (Il L i) H.length) (Ag (!getD H (KN L i) false) (true=Df L x X H i) (Ap (AO (Il L i) X.length) (Au (getD X (KN L i) (0:Int)) (4:Int)=Df L x X H i))))) (false=Df L x X H i)
@[reducible] def mq:Ac->LN->Af->List Bool->List Bool->Nat->Prop:=λ(L:Ac) (x:LN) (X:Af) (H R:List Bool) (i:Nat)=>(∃(B:Ac),∃(r:LN),∃(y:Af),∃(J:List Bool),∃(z:List Bool),WE L x X H R i B r y J z)/\Ag (Ay (Hv (cM (Dw L x X H R)) (KN L i))) (KK L i (Ap (AO (Il L i) H.length) (Ag (!getD H (KN L i) false) (true=Df L x X H i) (Ap (AO (Il L i) X.length) (Au (getD X (KN L i) (0:Int)) (3:Int)=Df L x X H i))))) (false=Df L x X H i)
def KJ (a:Ac) (b:Nat):=getD (Ab.kids (CA a b)) 0 (0:Int)
def Hf (a:Af) (b:Ac) (c:Nat):=getD a (toNat (KJ b c)) (0:Int)
def Yd (a:Ac) (b:Nat) (c:List Bool) (d:LN) (e:Af):=Ap (AO (Il a b) c.length) (Ag (!getD c (toNat (Il a b)) false) (true=Df a d e c b) (Ap (AO (Il a b) e.length) (Au (getD e (toNat (Il a b)) (0:Int)) (1:Int)=Df a d e c b)))
def Ye (a:Ac) (b:Nat) (c:List Bool) (d:LN) (e:Af):=Ap (AO (0:Int) (Ec a b)) (Ap (AO (KJ a b) c.length) (Ag (!getD c (toNat (KJ a b)) false) (true=Df a d e c b) (Ap (AO (KJ a b) e.length) (Au (Hf e a b) (1:Int)=Df a d e c b))))
def IM (a:Ac) (b:LN):=CG (Dk a) (LH b.M.length (rM b.M))
def Lx (a:List Bool) (b:Ac) (c:Nat):=Ag (!getD a (toNat (KJ b c)) false)
def Jt (a:Ac) (b:Nat):=Ap (AO (0:Int) (Ec a b))
def Ju (a:Ac) (b:Nat) (c:Af):=Ap (AO (KJ a b) c.length)
def gH:=((True/\True/\True/\True/\True/\True/\True/\True/\True/\True/\True/\True/\True)/\True)
def LB (a:Ac) (b:Nat) (c:List Bool):=Ap (AO (KJ a b) c.length)
def QE (a:Ac) (b:LN):=Ea (Dk a) (LH b.M.length (rM b.M)) (Dy b.C.length (Aq b.C))
def Yr:=((True/\True/\True/\True/\True/\True/\True/\True/\True)/\True)
def YA (a:Ac) (b:Nat):=Ag (Au (Int.ofNat (Ec a b)) (1:Int))
theorem Aom:∀(L:Ac) (x:LN) (X:Af) (H R:List Bool) (i:Nat),Hp L x X H R->AD i L.length->C6 i L (Ag (Ch L i (13:Int)) (KK L i (Jt L i ((∃(y:Ac),∃(r:LN),L.length=y.length/\AE L=AE y/\x.M.length=r.M.length/\rM x.M=rM r.M/\List.take 8 [vI x.O,vI x.Lo,vI x.C,vI x.G,vI x.Co,vI x.E,Cz x,CL x,vI X,vB H,vB R]=LN.rest r/\BM y r.M/\Good y)/\(∃(y:Ac),∃(r:LN),∃(z:Af),∃(J:List Bool),∃(B:List Bool),WE L x X H R i y r z J B)/\(Js/\Js/\((True/\True/\True/\True/\Ae (AV.int .i64 (Il L i))/\Ae (AV.vec 1 (Ec L i) (Aq (Ab.kids (CA L i))))/\True)/\True)/\True)/\Ay (JK (cX (Dw L x X H R)) (cH (Dw L x X H R)) (KN L i) (AF (IM L x (KJ L i))))=Df L x X H i))) (Ag (Ch L i (14:Int)) (Jt L i ((∃(y:Ac),∃(r:LN),∃(z:Af),∃(J:List Bool),∃(B:List Bool),Dw L x X H R=Dw y r z J B/\Hp y r z J B/\Int.NonNeg (KJ L i-0)/\Int.NonNeg ((CH y)-(KJ L i+1)))/\Ag (Ay (Hv (cM (Dw L x X H R)) (toNat (KJ L i)))) (LB L i H (Lx H L i (O7/\true=Df L x X H i) (KK L i (Ju L i X ((∃(y:Ac),∃(r:LN),∃(z:Af),∃(J:List Bool),∃(B:List Bool),WE L x X H R i y r z J B)/\(Js/\Js/\Js/\True)/\Ay (JK (cX (Dw L x X H R)) (cH (Dw L x X H R)) (KN L i) (Hf X L i))=Df L x X H i))))) (((True/\True)/\(True/\True)/\True)/\false=Df L x X H i))) (Ag (Ch L i (15:Int)) (Jt L i (LB L i H (Lx H L i (true=Df L x X H i) (Ju L i X (Au (Hf X L i) (2:Int)=Df L x X H i))))) (Ag (Ch L i (19:Int)) (Jt L i (LB L i H (Lx H L i (YA L i (true=Df L x X H i) (KK L i (mq L x X H R i))) (Ju L i X (Ag (Au (Hf X L i) (2:Int)) (YA L i (true=Df L x X H i) (KK L i (mq L x X H R i))) (false=Df L x X H i)))))) (Ag (Ch L i (20:Int)) (Jt L i (LB L i H (Lx H L i (YA L i (true=Df L x X H i) (KK L i (mo L x X H R i))) (Ju L i X (Ag (Au (Hf X L i) (2:Int)) (YA L i (true=Df L x X H i) (KK L i (mo L x X H R i))) (false=Df L x X H i)))))) (Ag (Ch L i (16:Int)) (Jt L i (LB L i H (Lx H L i (true=Df L x X H i) (Ju L i X (Au (Hf X L i) (3:Int)=Df L x X H i))))) (Ag (Ch L i (17:Int)) (Jt L i (LB L i H (Lx H L i (true=Df L x X H i) (Ju L i X (Au (Hf X L i) (4:Int)=Df L x X H i))))) (Ag (Ch L i (18:Int)) (Ye L i H x X) (Ag (Ch L i (23:Int)) (Ye L i H x X) (Ag (Ch L i (24:Int)) (Ye L i H x X) (Ag (Ch L i (34:Int)) (Ye L i H x X) (Ag (Ch L i (35:Int)) (Jt L i (LB L i H (Lx H L i (true=Df L x X H i) (Ju L i X (Au (Hf X L i) (5:Int)=Df L x X H i))))) (Ag (Ch L i (31:Int)) (Jt L i (LB L i H (Lx H L i (KK L i (Yd L i H x X)) (Ju L i X (Ag (Au (Hf X L i) (5:Int)) (KK L i (Yd L i H x X)) (false=Df L x X H i)))))) (Ag (Ch L i (30:Int)) (Jt L i (Ju L i X ((∃(y:Ac),∃(r:LN),L.length=y.length/\AE L=AE y/\x.M.length=r.M.length/\rM x.M=rM r.M/\vI x.O=vI r.O/\vI x.Lo=vI r.Lo/\x.C.length=r.C.length/\Aq x.C=Aq r.C/\List.take 5 [vI x.G,vI x.Co,vI x.E,Cz x,CL x,vI X,vB H,vB R]=LN.YI r/\BM y r.M/\Good y/\(GL r y)/\Int.NonNeg (Hf X L i-LF)/\Int.NonNeg (LD-Hf X L i))/\(Qx/\Qx/\True)/\Jt L i (LB L i H (Lx H L i ((CI/\True)/\true=Df L x X H i) ((CI/\True)/\(!AP (AF (Prod.fst (QE L x (Hf X L i) (Im L i)))) (0:Int))=Df L x X H i)))))) (Ag (Ch L i (32:Int)) (Jt L i (KK L i ((CI/\True)/\Ag (!decide (Ab.text (getD L (toNat (↑i:Int)) Ab.none)=[(61:UInt8),61])) (LB L i H (Lx H L i (Yd L i H x X) (Ju L i X (Ag (Au (Hf X L i) (1:Int)) (Yd L i H x X) (false=Df L x X H i))))) (LB L i H (Lx H L i ((DV/\True)/\true=Df L x X H i) (Ap (AO (Il L i) H.length) (Ag (!getD H (KN L i) false) ((CI/\True)/\true=Df L x X H i) (Ju L i X (Ap (AO (Il L i) X.length) (True/\Ag (Ay (Gl (Hf X L i) (getD X (KN L i) (0:Int)))) ((Yr/\Yr/\True)/\true=Df L x X H i) (Ap (AO (Il L i) X.length) (Ju L i X (True/\(gH/\gH/\gH/\True)/\Ay (Gl (getD X (KN L i) (0:Int)) (Hf X L i))=Df L x X H i))))))))))))) (true=Df L x X H i))))))))))))))))
:=by
 delta CA AD KJ Ec Il CI Cz DV GL Ch Dk Df Hf Js Yd Ye C6 IM Lx CL CH Qx Jt Ju gH KK LB QE Yr KN LD LF YA O7 Im;intro L x X H R i K V;have hi:i<L.length:=V;have hx:=K.xl;have hh:=K.hl;have hm:=K.m.Mi;have S:=K.CO;have n1:=dv S hi;have Z:=AbU S hi;have Y:=Xu (j:=0) S hi;have W:=Xu (j:=1) S hi;have hb:=K.b;simp only[Bq,WE,mo,mq,CA,Il,CH,Ec,Df,KK,KN];simp only[T3,TW,TX,DY,HB,EC];refine Am (AK.2 (by omega)) ?_;have U:∀k:Int,0<=k->k<L.length->∃(y:Ac) (r:LN) (z:Af) (J B:List Bool),Dw L x X H R=Dw y r z J B/\Hp y r z J B/\(k-0).NonNeg/\((y.length:Int)-(k+1)).NonNeg:=λk k1 k2=>⟨L,x,X,H,R,rfl,K,k1,k2⟩
 repeat' with_reducible first
  |refine Ao (λhk=>?_) λhk=>?_
  |refine Am ?_ ?_
  |refine And.intro ?_ ?_
 all_goals simp only[Ba,BB,AK,BZ,BI,Bn,CU,Bd,Bl]at*
 all_goals first
  |omega
  |exact U _ (by omega) (by omega)
  |exact⟨L,x,rfl,rfl,rfl,rfl,rfl,K.m,K.CO⟩
  |exact⟨L,x,rfl,rfl,rfl,rfl,rfl,rfl,rfl,rfl,rfl,K.m,K.CO,K.c,(hb _).1,Int.le_trans (hb _).2 (by decide)⟩
  |skip
 all_goals unfold CC A8 F8 JK
 all_goals clear n1 Z Y W hb U K V hx hh hm S
 all_goals simp only[DD,EX,Agx,AgZ]at*
 all_goals (try generalize(Ea L x.M x.C (X.getD ((L.getD i Ab.none).kids.getD 0 0).toNat 0) (L.getD i Ab.none).text).1=me at*)
 all_goals (try generalize(L.getD i Ab.none).text=tx at*)
 all_goals (try generalize(L.getD i Ab.none).kind=k at*)
 all_goals (try generalize(L.getD i Ab.none).kids.length=n at*)
 all_goals (try generalize(L.getD i Ab.none).kids.getD 0 0=a at*)
 all_goals (try generalize(L.getD i Ab.none).kids.getD 1 0=b at*)
 all_goals (try generalize CG L x.M a=oa at*)
 all_goals (try generalize X.getD a.toNat 0=xa at*)
 all_goals (try generalize X.getD b.toNat 0=xb at*)
 all_goals (try generalize H.getD a.toNat false=ha at*)
 all_goals (try generalize H.getD b.toNat false=hb at*)
 all_goals (try generalize Hv x.M a.toNat=fa at*)
 all_goals (try generalize Hv x.M b.toNat=fb at*)
 all_goals first
  |(subst_vars;simp_all;done)
  |(subst_vars;simp_all;rw[<-decide_not];exact decide_eq_decide.2 (by omega))
theorem Aol:∀(L:Ac) (x:LN) (X:Af) (H R:List Bool) (i:Nat),Hp L x X H R->i<L.length->(A3 zT 60).call 51 [.pv (Dw L x X H R),.int .i64 i] .leaf 0 (BS Tryz.prog false (.bool (Ay (CC L x.M x.C X H i)))):=Eq.mpr (by kernel_rfl) Aom
def CY (L:Ac) (M:List (Int×Int)) (C G X:Af) (H R:List Bool) (i:Nat):Int×Bool:=
 let k:=(L.getD i Ab.none).kind;let m:=M.getD i (0,0);let l:=(L.getD i Ab.none).kids
 if k=26\/k=28 then(1,true)
 else if k=27 then(0,true)
 else if k=36 then(2,true)
 else if k=33 then(-1-m.2,true)
 else if k=29 then(if m.1=1 then(CG L M m.2,true)else if m.1=2 then(CG L M (G.getD m.2.toNat 0),true)else if m.1=3 then(2,true)else(0,true))
 else if R.getD i false=false then(0,false)
 else if(∃j,j<l.length/\H.getD (l.getD j 0).toNat false=false)then(0,false)
 else if k=34 then(5,true)
 else if k=30 then((Ea L M C (X.getD (A8 L i 0) 0) (L.getD i Ab.none).text).2,true)
 else(1,true)
def MN (cs:Al) (i:Nat):Int×Bool:=CY (cL cs) (cM cs) (cC cs) (cG cs) (cX cs) (cH cs) (cR cs) i
structure GB (L:List Ab) (x:LN):Prop where
 g:∀j,j<L.length->(x.M.getD j (0,0)).1=2->(x.M.getD j (0,0)).2<x.G.length
structure Wr (L:List Ab) (H:List Bool) (i j:Nat):Prop where
 le:j<=(L.getD i Ab.none).kids.length
 al:∀k,k<j->H.getD ((L.getD i Ab.none).kids.getD k 0).toNat false=true
def STk (L:Ac) (H:List Bool) (i:Nat):B0:=thin Nat [0,1,4,5,6] (λj=>[(8,.int .i64 j)]) (λ_ j=>Wr L H i j) λj=>(L.getD i Ab.none).kids.length-j
def z3 (L:Ac) (H:List Bool) (i:Nat):Ctx:={P:=Tryz.prog,tb:=[(30,L8),(70,PJ)],lp:=λf r=>cond (Nat.beq f 52) (cond (Nat.beq r 25) (some (STk L H i)) none) none,cut:=λ_ _=>none}
theorem ig (L:Ac) (x:LN) (X:Af) (H R:List Bool):Bi [] (.pv (Dw L x X H R)) (.pv (Dw L x X H R)):=⟨⟨rfl,rfl,⟨λ_ _=>Q4 _⟩⟩,⟨rfl,rfl,⟨λ_ _=>iq [] _⟩⟩,⟨rfl,rfl,⟨λ_ _=>FJ [] _ _⟩⟩,⟨rfl,rfl,⟨λ_ _=>FJ [] _ _⟩⟩,⟨rfl,rfl,⟨λ_ _=>FJ [] _ _⟩⟩,⟨rfl,rfl,⟨λ_ _=>FJ [] _ _⟩⟩,⟨rfl,rfl,⟨λ_ _=>FJ [] _ _⟩⟩,⟨rfl,rfl,⟨λ_ _=>FJ [] _ _⟩⟩,⟨rfl,rfl,⟨λ_ _=>⟨⟨rfl,rfl⟩,⟨rfl,rfl⟩,rfl,⟨rfl,rfl,⟨λ_ _=>FJ [] _ _⟩⟩,trivial⟩⟩⟩,⟨rfl,rfl⟩,⟨rfl,rfl,⟨λ_ _=>FJ [] _ _⟩⟩,⟨rfl,rfl,⟨λ_ _=>Aft _ _⟩⟩,⟨rfl,rfl,⟨λ_ _=>Aft _ _⟩⟩,trivial⟩
theorem AcY:BC Tryz.prog 71 Rz:=by
 refine Cw (gl:=[]) (ng:=0) AS λH args ct r=>?_;unfold Rz at r;split at r
 ·rename_i a b;injection r with r;subst r;refine⟨AS,_,_,rfl,?_⟩;intro _;exact⟨⟨⟨rfl,rfl⟩,⟨rfl,rfl⟩,trivial⟩,K6,60,rfl,Cc,Bk,AmV a b⟩
 ·cases r
theorem Akp:BC Tryz.prog 67 pS:=by
 refine Cw (gl:=[]) (ng:=0) AS λH args ct r=>?_;unfold pS at r;split at r
 ·rename_i cs i y;injection r with r;subst r;refine⟨AS,_,_,rfl,?_⟩;rintro⟨L,x,X,B,R,rfl,z,K,J⟩;rw[T3,TW];exact⟨⟨ig L x X B R,⟨rfl,rfl⟩,⟨rfl,rfl⟩,trivial⟩,zC,60,rfl,Cc,BD AcY Bk,AmZ L x X B R i y z K J⟩
 ·cases r
theorem Akr:BC Tryz.prog 68 pT:=by
 refine Cw (gl:=[]) (ng:=0) AS λH args ct r=>?_;unfold pT at r;split at r
 ·rename_i cs i;injection r with r;subst r;refine⟨AS,_,_,rfl,?_⟩;rintro⟨L,x,X,B,R,rfl,y,J,z⟩;rw[TX];exact⟨⟨ig L x X B R,⟨rfl,rfl⟩,trivial⟩,K6,60,rfl,Cc,Bk,Am3 L x X B R i y J z⟩
 ·cases r
theorem AkT:BC Tryz.prog 51 pj:=by
 refine Cw (gl:=[]) (ng:=0) AS λH args ct r=>?_;unfold pj at r;split at r
 ·rename_i cs i;injection r with r;subst r;refine⟨AS,_,_,rfl,?_⟩;rintro⟨L,x,X,B,R,rfl,y,J,z⟩;obtain⟨j,rfl⟩:∃j:Nat,i=j:=⟨i.toNat,by omega⟩;rw[IZ,cE,TX,bY,T3,TW,Int.toNat_natCast];exact⟨⟨ig L x X B R,⟨rfl,rfl⟩,trivial⟩,zT,60,rfl,Cc,BD e9 (BD AcY (BD Akp (BD Akr (BD Ac0 Bk)))),Aol L x X B R j y (by omega)⟩
 ·cases r
theorem wX {L:Ac} {M:List (Int×Int)} {C G X:Af} {H R:List Bool} {i:Nat} (J:(L.getD i Ab.none).kind≠26) (B:(L.getD i Ab.none).kind≠28) (z:(L.getD i Ab.none).kind≠27) (y:(L.getD i Ab.none).kind≠36) (x:(L.getD i Ab.none).kind≠33) (r:(L.getD i Ab.none).kind≠29): CY L M C G X H R i=if R.getD i false=false then(0,false)else if(∃j,j<(L.getD i Ab.none).kids.length/\H.getD ((L.getD i Ab.none).kids.getD j 0).toNat false=false)then(0,false)
   else if(L.getD i Ab.none).kind=34 then(5,true)else if(L.getD i Ab.none).kind=30 then((Ea L M C (X.getD (A8 L i 0) 0) (L.getD i Ab.none).text).2,true)else(1,true):=by
 unfold CY;dsimp only
 rw[An (by rintro(h|h)<;>contradiction),An z,An y,An x,An r]
theorem YU {L:Ac} {M:List (Int×Int)} {C G X:Af} {H R:List Bool} {i:Nat} (h:(L.getD i Ab.none).kind=29): CY L M C G X H R i=if(M.getD i (0,0)).1=1 then(CG L M (M.getD i (0,0)).2,true)else if(M.getD i (0,0)).1=2 then(CG L M (G.getD (M.getD i (0,0)).2.toNat 0),true)else if(M.getD i (0,0)).1=3 then(2,true)else(0,true):=by
 unfold CY;dsimp only
 rw[h,An (by decide),An (by decide),An (by decide),An (by decide),As rfl]
@[reducible] def mr:Ac->Nat->Prop:=λ(L:Ac) (i:Nat)=>(Yt L i)/\True
def Lp (a:LN):=(Aa/\Ae a.Lo.length/\Ar λ(r:Nat)=>AD r a.Lo.length->(Aa/\Ae (getD a.Lo r (0:Int)))/\True)
def Lq (a:LN):=(Aa/\Ae a.Co.length/\Ar λ(r:Nat)=>AD r a.Co.length->(Aa/\Ae (getD a.Co r (0:Int)))/\True)
def Lr (a:LN):=(Aa/\Ae a.O.length/\Ar λ(r:Nat)=>AD r a.O.length->(Aa/\Ae (getD a.O r (0:Int)))/\True)
def Lt (a:LN):=(Aa/\Ae a.G.length/\Ar λ(r:Nat)=>AD r a.G.length->(Aa/\Ae (getD a.G r (0:Int)))/\True)
def Lu (a:LN):=(Aa/\Ae a.E.length/\Ar λ(r:Nat)=>AD r a.E.length->(Aa/\Ae (getD a.E r (0:Int)))/\True)
def Lm (a:LN):=(Aa/\Ae a.C.length/\Ar λ(r:Nat)=>AD r a.C.length->(Aa/\Ae (getD a.C r (0:Int)))/\True)
def vF (a:List Bool):=(Aa/\Ae a.length/\Ar λ(r:Nat)=>AD r a.length->Ae (getD a r false)/\True)
def LC (a:LN):=(Aa/\Ae a.main)
@[reducible] def mu:Ac->LN->Af->List Bool->List Bool->Nat->Prop:=λ(L:Ac) (x:LN) (X:Af) (H R:List Bool) (i:Nat)=>((Aa/\Ae L.length/\Ar λ(i:Nat)=>AD i L.length->(Aa/\Ae (Ab.kind (Bc L i)))/\Ae (Ab.text (Bc L i))/\(Aa/\Ae (Ab.n (Bc L i)))/\(Aa/\Ae (Ab.line (Bc L i)))/\(Aa/\Ae (Ab.Av (Bc L i)))/\(Hg L i)/\True)/\(Aa/\Ae x.M.length/\Ar λ(i:Nat)=>AD i x.M.length->(Aa/\Ae (Prod.fst (getD x.M i C7)))/\(Aa/\Ae (Prod.snd (getD x.M i C7)))/\True)/\(Lr x)/\(Lp x)/\(Lm x)/\(Lt x)/\(Lq x)/\(Lu x)/\(Aa/\Ae x.Fs.length/\Ar λ(i:Nat)=>AD i x.Fs.length->(Aa/\Ae (A6.Pf (Jy x i)))/\(Aa/\Ae (A6.up (Jy x i)))/\Ae (A6.name (Jy x i))/\(O1 x i)/\True)/\(LC x)/\(DN X)/\(vF H)/\(vF R)/\True)/\(Fj i)/\NT/\Ae false/\Cm/\True
@[reducible] def mw:Ac->LN->Af->List Bool->List Bool->Ac->LN->Prop:=λ(L:Ac) (x:LN) (X:Af) (H R:List Bool) (a:Ac) (r:LN)=>L.length=a.length/\AE L=AE a/\x.M.length=r.M.length/\rM x.M=rM r.M/\List.take 8 [vI x.O,vI x.Lo,vI x.C,vI x.G,vI x.Co,vI x.E,Cz x,CL x,vI X,vB H,vB R]=LN.rest r/\BM a r.M/\Good a
def EA (a:Ac) (b:LN):=CY a b.M b.C b.G
def Ly (a:LN) (b:Nat):=Prod.snd (getD a.M (B8 b) C7)
def SH (a:LN) (b:Nat):=Prod.fst (getD a.M (B8 b) C7)
def Vy (a:Nat) (b:LN):=Ap (AO (↑a:Int) b.M.length)
theorem AoJ:∀(L:Ac) (x:LN) (X:Af) (H R:List Bool) (i:Nat),Hp L x X H R->GB L x->AD i L.length->C6 i L (Ag (Ch L i (26:Int)) ((Aa/\(1:Int)=AF (Prod.fst (EA L x X H R i)))/\true=Ay (Prod.snd (EA L x X H R i))/\True) (Ag (Ch L i (28:Int)) ((Aa/\(1:Int)=AF (Prod.fst (EA L x X H R i)))/\true=Ay (Prod.snd (EA L x X H R i))/\True) (Ag (Ch L i (27:Int)) ((Aa/\(0:Int)=AF (Prod.fst (EA L x X H R i)))/\true=Ay (Prod.snd (EA L x X H R i))/\True) (Ag (Ch L i (36:Int)) ((Aa/\(2:Int)=AF (Prod.fst (EA L x X H R i)))/\true=Ay (Prod.snd (EA L x X H R i))/\True) (Ag (Ch L i (33:Int)) (Vy i x (Ap (Bf .i64 (Int.negSucc 0-Ly x i)) ((Aa/\Int.negSucc 0-Ly x i=AF (Prod.fst (EA L x X H R i)))/\true=Ay (Prod.snd (EA L x X H R i))/\True))) (Ag (Ch L i (29:Int)) (Vy i x (Ag (Au (SH x i) (1:Int)) ((∃(y:Ac),∃(r:LN),mw L x X H R y r)/\(ES/\ES/\True)/\(Aa/\AF (IM L x (Ly x i))=AF (Prod.fst (EA L x X H R i)))/\true=Ay (Prod.snd (EA L x X H R i))/\True) (Ag (Au (SH x i) (2:Int)) (Ap (AO (Ly x i) x.G.length) ((∃(y:Ac),∃(r:LN),mw L x X H R y r)/\(IP/\IP/\True)/\(Aa/\AF (IM L x (getD x.G (toNat (Ly x i)) (0:Int)))=AF (Prod.fst (EA L x X H R i)))/\true=Ay (Prod.snd (EA L x X H R i))/\True)) (Ag (Au (SH x i) (3:Int)) ((Aa/\(2:Int)=AF (Prod.fst (EA L x X H R i)))/\true=Ay (Prod.snd (EA L x X H R i))/\True) ((Aa/\(0:Int)=AF (Prod.fst (EA L x X H R i)))/\true=Ay (Prod.snd (EA L x X H R i))/\True))))) (Ap (AO (↑i:Int) R.length) (Ag (!getD R (B8 i) false) ((Aa/\(0:Int)=AF (Prod.fst (EA L x X H R i)))/\false=Ay (Prod.snd (EA L x X H R i))/\True) ((∃(x0:Nat),Wr L H i x0/\Aa/\((Cr x0)/\mu L x X H R i)/\mr L i)/\∀(r:Nat),Wr L H i r->Ag (Dh r (Int.ofNat (Ec L i))) (Ap (D8 r (Ec L i)) (Ap (AO (Jv L i r) H.length) ((CI/\True)/\Ag (!getD H (toNat (Jv L i r)) false) ((Aa/\(0:Int)=AF (Prod.fst (EA L x X H R i)))/\false=Ay (Prod.snd (EA L x X H R i))/\True) (Bj r (∃(x':Nat),Wr L H i x'/\Nat.le (Nat.succ (Cl L i-x')) (Cl L i-r)/\Aa/\((Cb r x')/\mu L x X H R i)/\mr L i))))) (Ag (Ch L i (34:Int)) ((Aa/\(5:Int)=AF (Prod.fst (EA L x X H R i)))/\true=Ay (Prod.snd (EA L x X H R i))/\True) (Ag (Ch L i (30:Int)) (Jt L i (Ju L i X ((∃(y:Ac),∃(z:LN),L.length=y.length/\AE L=AE y/\x.M.length=z.M.length/\rM x.M=rM z.M/\vI x.O=vI z.O/\vI x.Lo=vI z.Lo/\x.C.length=z.C.length/\Aq x.C=Aq z.C/\List.take 5 [vI x.G,vI x.Co,vI x.E,Cz x,CL x,vI X,vB H,vB R]=LN.YI z/\BM y z.M/\Good y/\(GL z y)/\Int.NonNeg (Hf X L i-LF)/\Int.NonNeg (LD-Hf X L i))/\(Qx/\Qx/\True)/\(Aa/\AF (Prod.snd (QE L x (Hf X L i) (Im L i)))=AF (Prod.fst (EA L x X H R i)))/\true=Ay (Prod.snd (EA L x X H R i))/\True))) ((Aa/\(1:Int)=AF (Prod.fst (EA L x X H R i)))/\true=Ay (Prod.snd (EA L x X H R i))/\True))))))))))))
:=by
 delta CA AD Bc KJ Bj B8 Ec Cl CI Cz GL Ch Dk Cb Hf C7 ES IP Cr C6 IM Jv EA CL Ly Qx Jt Ju Dh QE D8 SH LD LF Im Vy;intro L x X H R i B hT h2;have hi:i<L.length:=h2;have ad:=hT.g;have hx:=B.xl;have hh:=B.hl;have hr:=B.rl;have hm:=B.m.Mi;have ae:=B.m.len;have hn:=B.m.n i hi;have Z:=B.CO;have af:=Z.Mf i hi;simp only[Bq,mr,mu,mw,CA,AD,Ec,Vr,Yt,Bc,DN,Cl,Lp,Lq,Lr,Lt,C7,Lu,Lm,O1,Cm,Fj,Hg,Jy,NT,vF,LC,Cz,CL];simp only[DY,HB,EC];have val:∀a b,CY L x.M x.C x.G X H R i=(a,b)->a=(CY L x.M x.C x.G X H R i).1/\b=(CY L x.M x.C x.G X H R i).2:=λa b h=>by rw[h];exact⟨rfl,rfl⟩
 have oM:∃y r,L.length=List.length y/\AE L=AE y/\x.M.length=r.M.length/\rM x.M=rM r.M/\x.rest=LN.rest r/\BM y r.M/\Good y:=⟨L,x,rfl,rfl,rfl,rfl,rfl,B.m,Z⟩;refine Am (AK.2 (by omega)) (Ao (λh=>val _ _ ?_) λY=>Ao (λh=>val _ _ ?_) λV=>Ao (λh=>val _ _ ?_) λW=>Ao (λh=>val _ _ ?_) λJ=>Ao (λh=>Am (AK.2 (by omega)) (Am (AU.2 (by omega)) (val _ _ ?_))) λS=>Ao (λh=>Am (AK.2 (by omega)) (Ao (λg=>⟨oM,val _ _ ?_⟩) λg1=>Ao (λg=>Am (AK.2 ?_) ⟨oM,val _ _ ?_⟩) λg2=>Ao (λg=>val _ _ ?_) λg3=>val _ _ ?_)) λU=>Am (AK.2 (by omega)) (Ao (λg=>val _ _ ?_) λg=>⟨⟨0,⟨BL _,λk hk=>by omega⟩,rfl⟩,λj hj=>?_⟩))
 ·rw[Ba]at h;unfold CY;simp only[h,true_or,if_true]
 ·rw[Ba]at h;unfold CY;simp only[h,or_true,if_true]
 ·rw[Ba]at h;unfold CY;dsimp only;rw[h,An (by decide),As rfl]
 ·rw[Ba]at h;unfold CY;dsimp only;rw[h,An (by decide),An (by decide),As rfl]
 ·rw[Ba]at h;unfold CY;dsimp only;rw[h,An (by decide),An (by decide),An (by decide),As rfl];rfl
 ·rw[Ba]at h g;rw[YU h,As g]
 ·rw[Ba]at h g;have:=ad i hi g;omega
 ·rw[Ba]at h g;rw[BB]at g1;rw[YU h,An g1,As g]
 ·rw[Ba]at h g;rw[BB]at g1 g2;rw[YU h,An g1,An g2,As g]
 ·rw[Ba]at h;rw[BB]at g1 g2 g3;rw[YU h,An g1,An g2,An g3]
 ·rw[BB]at Y V W J S U;rw[BZ]at g;rw[wX Y V W J S U,As g]
 ·rw[BB]at Y V W J S U;rw[BI]at g;have late:=wX (M:=x.M) (C:=x.C) (G:=x.G) (X:=X) (H:=H) (R:=R) Y V W J S U;rw[An (by rw[g];decide)]at late;refine Ao (λq=>?_) λq=>?_
  ·rw[Bd]at q;have q':j<(L.getD i Ab.none).kids.length:=by omega
   obtain⟨k1,k2⟩:=Xu Z hi q';refine Am (AK.2 (by omega)) (Am (AK.2 (by omega)) (Ao (λp=>val _ _ ?_) λp=>Am (AU.2 (by omega)) ⟨j+1,⟨q',λk hk=>?_⟩,by omega,by omega⟩))
   ·rw[BZ]at p;rw[late,As ⟨j,q',p⟩]
   ·rw[BI]at p;rcases D9 k j with h|h
    ·exact hj.al k h
    ·obtain rfl:k=j:=by omega
     exact p
  ·rw[Bl]at q;have ah:=hj.le;rw[An (by rintro⟨k,ag,aa⟩;rw[hj.al k (by omega)]at aa;cases aa)]at late;refine Ao (λh=>val _ _ ?_) λK=>Ao (λh=>?_) λab=>val _ _ ?_
   ·rw[Ba]at h;rw[late,As h]
   ·rw[Ba]at h;rw[BB]at K;have hp:=dv Z hi (by omega);obtain⟨k1,k2⟩:=Xu Z hi hp;have hb:=B.b ((L.getD i Ab.none).kids.getD 0 0).toNat;refine Am (AK.2 (by omega)) (Am (AK.2 (by omega)) ⟨⟨L,x,rfl,rfl,rfl,rfl,rfl,rfl,rfl,rfl,rfl,B.m,Z,B.c,hb.1,Int.le_trans hb.2 (by decide)⟩,val _ _ ?_⟩);rw[late,An K,As h];rfl
   ·rw[BB]at K ab;rw[late,An K,An ab]
theorem AoI:∀(L:Ac) (x:LN) (X:Af) (H R:List Bool) (i:Nat),Hp L x X H R->GB L x->i<L.length->(A3 (z3 L H i) 60).call 52 [.pv (Dw L x X H R),.int .i64 i] .leaf 0 (BS Tryz.prog false (.AM [.int .i64 (AF (CY L x.M x.C x.G X H R i).1),.bool (Ay (CY L x.M x.C x.G X H R i).2)])):=Eq.mpr (by kernel_rfl) AoJ
def q4:Tr Ah->Al->Option Ct:=λ_ args=>match args with
 | [.pv cs,.int .i64 i]=>some (.Bb (∃(L:Ac) (x:LN) (X:Af) (H R:List Bool),cs=Dw L x X H R/\Hp L x X H R/\GB L x/\0<=i/\i<L.length) (.ret (.AM [.int .i64 (AF (MN cs i.toNat).1),.bool (Ay (MN cs i.toNat).2)])))
 |_=>none
structure GW (L:List Ab) (x:LN) (i:Nat) (X:List Int) (H R:List Bool):Prop where
 le:i<=L.length
 ok:Hp L x X H R
 right:∀j,i<=j->j<L.length->R.getD j false=CC L x.M x.C X H j
 term:∀j,i<=j->j<L.length->B9 (L.getD j Ab.none).kind=true->(X.getD j 0,H.getD j false)=CY L x.M x.C x.G X H R j
 no:∀j,(j<i\/B9 (L.getD j Ab.none).kind=false)->X.getD j 0=0/\H.getD j false=false
def rB_ (l:List Bool):Ah:=.cells 4 .leaf (.rows 1 (rB l)) l.length true
def vZ (l:Af):Ah:=.cells 39 .leaf (.rows 1 (Aq l)) l.length true
def AfP (L:Ac) (x:LN):B0:={X:=Nat×Af×List Bool×List Bool,T:=λs _ y=>(6,.int .i64 ((y.1:Int)-1))::Ig s [0,1,2,3,4,5],H:=λs _ y=>(J1 (s.T.get 5),.cells 81 .leaf (.Dv (((cQ s (J1 (s.T.get 5)) 13).take 10)++[.AR s.nx y.2.1.length 1,.AR (s.nx+1) y.2.2.1.length 1,.AR (s.nx+2) y.2.2.2.length 1])) 13 false):: (s.nx,vZ y.2.1)::(s.nx+1,rB_ y.2.2.1)::(s.nx+2,rB_ y.2.2.2)::dn s (J1 (s.T.get 5)),nx:=λs _=>s.nx+3,I:=λ_ y=>GW L x y.1 y.2.1 y.2.2.1 y.2.2.2,m:=λy=>y.1}
theorem Ak5:BC Tryz.prog 52 q4:=by
 refine Cw (gl:=[]) (ng:=0) AS λH args ct r=>?_;unfold q4 at r;split at r
 ·rename_i cs i;injection r with r;subst r;refine⟨AS,_,_,rfl,?_⟩;rintro⟨L,x,X,B,R,rfl,y,hT,J,z⟩;obtain⟨j,rfl⟩:∃j:Nat,i=j:=⟨i.toNat,by omega⟩;rw[MN,cE,TX,bY,oX,T3,TW,o6,Int.toNat_natCast];exact⟨⟨ig L x X B R,⟨rfl,rfl⟩,trivial⟩,z3 L B j,60,rfl,Cc,BD e9 (BD Ac0 Bk),AoI L x X B R j y hT (by omega)⟩
 ·cases r
end Go.Proofs.YthallodoidghoaaGreat
end
end
