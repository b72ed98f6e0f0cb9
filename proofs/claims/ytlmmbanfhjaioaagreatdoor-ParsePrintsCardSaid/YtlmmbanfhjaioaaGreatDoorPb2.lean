/- Laid by program out of its parts: PbJ, PbK, PbL, PbM, PbN, PbO, PbP. -/
import Derived.Test.YtlmmbanfhjaioaaGreatDoorPb1
noncomputable section
set_option linter.unusedVariables false
set_option linter.unusedSimpArgs false
section
set_option maxRecDepth 100000
set_option maxHeartbeats 2000000
open Go Go.Ev
namespace Go.Proofs.YtlmmbanfhjaioaaGreatDoor
structure UQ (L:List TK) (n:Nat) (U Ti:List TK->PF):Prop where
 u:Bo Tryz.prog 141 (mF L n U)
 t:Bo Tryz.prog 131 (mF L (n+1) Ti)
def tg (L:Ab) (n:Nat) (U q:Ab->PF):DX:=(141,mF L n U)::(131,mF L (n+1) q)::NW L
theorem Adp {L:Ab} {n:Nat} {U q:Ab->PF} (h:UQ L n U q):Gi Tryz.prog (tg L n U q):=El h.u (El h.t (OY L))
def rA (L:Ab) (n:Nat) (U q:Ab->PF) (h:UQ L n U q):Ctx:=NL (tg L n U q) (Adp h)
theorem zK {L:Ab} {n:Nat} {U:Ab->PF} {s:RS} {t:PT×RS} {k:Int} {w:Ac} (B:R0 L s) (M:Bb L (n+1) s) (R:FG L n U) (c:As L s w=true) (Y:dB [w]=true) (ht:t=Oy k U L s): (C6 L (cP L s) s.nest λ_=>BK [w])/\∀y,y=B8 L (cP L s) s.nest->Ah (![w].any (As L y)) ((C6 L (cP L y) y.nest λ_=>(4:Int)≠0)/\Gg L (CQ L (CK (B8 L (cP L y) y.nest) 4)) t.2) (Ah (An y.nest 64) ((C6 L (cP L y) y.nest λ_=>(5:Int)≠0)/\Gg L (CQ L (CK (B8 L (cP L y) y.nest) 5)) t.2) ((C6 L (cP L y) y.nest λs=>s.at_<L.length)/\∀q:TK×RS,q=(Ar L (B8 L (cP L y) y.nest),Au (B8 L (cP L y) y.nest))->Al (BJ .i64 (q.2.nest+1)) ((C6 L (cP L q.2) (q.2.nest+1) λs=>Bb L n s)/\ ∀z,z=U L (B8 L (cP L q.2) (q.2.nest+1))->Ah (An z.2.err 0) (D8 [Bw z.1]/\Al (BJ .i64 (z.2.nest-1)) (Hh L (cP L z.2) (z.2.nest-1) (.pv [.int .i64 k,.bs [],.int .i64 0,.int .i64 q.1.line,.int .i64 q.1.Ao,.Ay,.vec 1 1 λ_=>[Bw z.1]]) t)) (Gg L (CQ L z.2) t.2)))):=by
 have aa:=M.ns;have ad:=M.lf;have ab:=B.ok.n0;have O:=Dz c;have V:=HN B O;have W:=Ma c;unfold Oy at ht;rw[W]at ht;have rest:Kp (B7 L s w).2 t.2:=by rw[ht];exact(Qw R.k _).tr (KJ _)
 refine D3 B Y (Aw (λS=>?_) λ_=>Aw (λC=>?_) λC=>?_)
 ·rw[Dc c]at S;cases S
 ·rw[C0]at C;exact Rr B (by decide) ((YU B c C).tr rest)
 ·rw[Dy]at C;have Z:=Zk (L:=L) (s:=s) (w:=w) c (by omega);have E:=Z2 V (show s.nest<=900 by omega);have K:Bb L n (EF (Au s)):=⟨E.ok,by show s.nest+1<=64;omega,by show(L.length:Int)-(s.at_+1)<n;omega⟩;have J:Fk U L (EF (Au s))=U L (EF (Au s)):=by unfold Fk;rw[Ad (λe=>e E.e)]
  rw[Z]at ht;simp only at ht;rw[J]at ht;have g:=R.g L _ K;refine Fc B O (At (CJ.2 ⟨by show-9223372036854775808<=s.nest+1;omega,by show s.nest+1<=9223372036854775807;omega⟩) (Ce (s:=EF (Au s)) (f:=U L) E K (by rw[ht];exact KJ _) λe=>?_));have g5:(U L (EF (Au s))).2.nest=s.nest+1:=g.ns;exact⟨F8 _,At (CJ.2 (by omega)) (NO (s:=down (U L (EF (Au s))).2) ht e rfl).2⟩
theorem AdB {L:Ab} {s:RS} {v w:Ac} (h:As L s v=true) (q:v≠w):As L s w=false:=LQ.2 λe=>q ((Ma h).symm.trans (Ma e))
def We:=[[(108:UInt8),101,110]]
theorem Ajo:∀(L:Ab) (n:Nat) (U E:Ab->PF),UQ L n U E->∀(s:RS) (t:PT×RS),R0 L s->Bb L (n+1) s->FG L n U->FG L (n+1) E->t=LK U E L s->(True/\Bk L s λ(s:RS)=>BK [Pj])/\∀(y:RS),y=Bj L s->Ah (AW (List.any [Pj] (As L y))) ((True/\Bk L y λ(s:RS)=>BK [Pj])/\∀(B:RS),B=Bj L y->Ah (!AW (List.any [Pj] (As L B))) (LA L B t.2) (Oi B L t.2 ((Cs L B)/\∀(y:TK×RS),y=(Cu L B)->On y.2 ((QY L y.2 n)/\∀(q:PT×RS),q=U L (B8 L (cP L y.2) (KT y.2))->A5 q.2 (DL q.1/\((Ih/\Ih/\((True/\Gq y.1/\Af (AV.str 3 7500385)/\True)/\True)/\True)/\True)/\Ng q.2 (Q8 L q.2 (AV.pv [AV.int .i64 (34:Int),AV.bs [],BX,Ci y.1,Ch y.1,AV.Ay,AV.vec 1 1 λ(x:Nat)=>[Cy q.1]]) t/\True)) (((Ih/\True)/\True)/\BD L q.2 t.2))))) ((True/\Bk L y λ(s:RS)=>BK We)/\∀(B:RS),B=Bj L y->Ah (AW (List.any We (As L B))) ((True/\Bk L B λ(s:RS)=>BK We)/\∀(y:RS),y=Bj L B->Ah (!AW (List.any We (As L y))) (LA L y t.2) (Oi y L t.2 ((Cs L y)/\∀(q:TK×RS),q=(Cu L y)->On q.2 ((QY L q.2 n)/\∀(y:PT×RS),y=U L (B8 L (cP L q.2) (KT q.2))->A5 y.2 (DL y.1/\((Ih/\Ih/\((True/\Gq q.1/\Af (AV.str 3 7234924)/\True)/\True)/\True)/\True)/\Ng y.2 (Q8 L y.2 (AV.pv [AV.int .i64 (35:Int),AV.bs [],BX,Ci q.1,Ch q.1,AV.Ay,AV.vec 1 1 λ(x:Nat)=>[Cy y.1]]) t/\True)) (((Ih/\True)/\True)/\BD L y.2 t.2))))) ((Hv L B n)/\∀(y:PT×RS),y=C2 E L B->Q5 y.2 L y.1 t t.2))
:=by
 delta Cy Bj Bk Gq A5 Cs Cg Ci BX BD Cu Ch LA Ih Oi Hv DL Pj KT We Ng QY C2 Q5 On Q8;intro L n U E AA s t J K M hT ht;simp only[Cd];refine D3 J rfl (Aw (λc=>?_) λc=>D3 J rfl (Aw (λC=>?_) λC=>?_))
 ·have c:As L s LL=true:=by rwa[Dc rfl]at c
  refine zK (k:=34) J K M c rfl ?_;rw[ht];unfold LK;rw[Ad (nb (AdB c (by decide))),Am c]
 ·have C:As L s LM=true:=by rwa[Dc rfl]at C
  refine zK (k:=35) J K M C rfl ?_;rw[ht];unfold LK;rw[Am C]
 ·have c:As L s LL=false:=by rwa[Dc rfl]at c
  have C:As L s LM=false:=by rwa[Dc rfl]at C
  have O:t=E L s:=by rw[ht];unfold LK;rw[Ad (nb C),Ad (nb c)]
  exact Ce (f:=E L) J K (by rw[O];exact Du _) λe=>Lh O e
theorem Ajn:∀(L:Ab) (n:Nat) (U q:Ab->PF) (AA:UQ L n U q) (s:RS) (t:PT×RS),R0 L s->Bb L (n+1) s->FG L n U->FG L (n+1) q->t=LK U q L s->(A4 (rA L n U q AA) 60).call 141 [.ptr 4 0] (Bx (CI++Cl [Bl L s] 4)) (4+1) (Hj L t):=Eq.mpr (by kernel_rfl) Ajo
theorem Af1 {L:Ab} {n:Nat} {U q:Ab->PF} (h:UQ L n U q) (y:FG L n U) (hT:FG L (n+1) q):Bo Tryz.prog 141 (mF L (n+1) (LK U q)):=Ib λs C B=>⟨rA L n U q h,60,rfl,Bu,B5,λt ht=>Ajn L n U q h s t C B y hT ht⟩
structure UR (L:List TK) (n:Nat) (T B:List TK->PF):Prop where
 t:Bo Tryz.prog 123 (mF L (n+1) T)
 b:Bo Tryz.prog 88 (mF L n B)
def th (L:Ab) (n:Nat) (T B:Ab->PF):DX:=(123,mF L (n+1) T)::(88,mF L n B)::NW L
theorem Adq {L:Ab} {n:Nat} {T B:Ab->PF} (h:UR L n T B):Gi Tryz.prog (th L n T B):=El h.t (El h.b (OY L))
def rB (L:Ab) (n:Nat) (T B:Ab->PF) (h:UR L n T B):Ctx:=NL (th L n T B) (Adq h)
theorem All {k n:Int} {x:Ac} {tk:TK}:JW (nd k x n tk []) (.pv [.int .i64 k,.bs x,.int .i64 n,.int .i64 tk.line,.int .i64 tk.Ao,.Ay,.Ay]):=Uz uM
theorem Yk {L:Ab} {k n:Int} {x:Ac} {tk:TK} {s:RS} {t:PT×RS} {ks:Av} {m:Nat} {g:Nat->Aj} (h:t=(nd k x n tk ks,s)) (C:s.err=0) (hm:m=ks.length) (B:∀i,(hi:i<ks.length)->∃v,g i=[v]/\JW ks[i] v): Hh L (cP L s) s.nest (.pv [.int .i64 k,.bs x,.int .i64 n,.int .i64 tk.line,.int .i64 tk.Ao,.Ay,.vec 1 m g]) t:=by
 subst h;refine⟨C,rfl,rfl,Uz λy=>⟨rfl,hm,⟨λi hi=>?_⟩⟩⟩;have q:i<ks.length:=by omega
 obtain⟨v,J,E⟩:=B i q;show Ba y ((Bz ks).getD i []) (g i);rw[HI ks i q,J];exact⟨E.h y,trivial⟩
theorem uN {a b c:PT} {va y q:AV} {g:Nat->Aj} (E:g 0=[va]) (C:g 1=[y]) (B:g 2=[q]) (L:JW a va) (K:JW b y) (J:JW c q):∀i,(hi:i<[a,b,c].length)->∃v,g i=[v]/\JW [a,b,c][i] v:=λi hi=>by
 rcases(show i=0\/i=1\/i=2 by simp at hi;omega)with rfl|rfl|rfl
 ·exact⟨va,E,L⟩
 ·exact⟨y,C,K⟩
 ·exact⟨q,B,J⟩
theorem Lu {L:Ab} {n:Nat} {s:RS} (h:Bb L n s):Bb L (n+1) s:=⟨h.ok,h.ns,by have:=h.lf;omega⟩
theorem M9 {L:Ab} {n:Nat} {s:RS} (h:Bb L (n+1) s) (q:s.at_<L.length):Bb L n (Au s):=⟨JY h.ok q,h.ns,by have:=h.lf;show(L.length:Int)-(s.at_+1)<n;omega⟩
theorem O7 {L:Ab} {n:Nat} {E C:Int} {s:RS} {r:PT×RS} (h:Bb L n s) (q:CA L E C s r):Bb L n r.2:=⟨q.ok,by have:=q.ns;have:=h.ns;omega,by have:=q.am;have:=h.lf;omega⟩
theorem Lt {L:Ab} {n:Nat} {s r:RS} (h:Bb L n s) (q:PY L s r):Bb L n r:=⟨q.ok,by have:=q.ns;have:=h.ns;omega,by have:=q.am;have:=h.lf;omega⟩
theorem uR {L:Ab} {s:RS} (h:CD L s) (q:(Ar L s).kind≠0):s.at_<L.length:=Classical.byContradiction λy=>q (by rw[RL (by omega)];rfl)
def Fb (a:Ab) (b:RS) (c:RS):=((Bn/\True)/\BD a b c)
def l6:=[[(101:UInt8),108,115,101]]
theorem AhJ:∀(L:Ab) (n:Nat) (T B:Ab->PF),UR L n T B->∀(s:RS) (t:PT×RS),R0 L s->JV L n s->FG L (n+1) T->FG L n B->t=NJ T B L s->(Cs L s)/\∀(y:TK×RS),y=(Cu L s)->(Hv L y.2 n)/\∀(C:PT×RS),C=C2 T L y.2->A5 C.2 (DL C.1/\(Bn/\Bn/\(KW y.1)/\True)/\(ED L C.2 n)/\∀(q:PT×RS),q=C2 B L C.2->A5 q.2 ((Bn/\Bn/\Bn/\((Af (AV.sl 11 0 1 1)/\True)/\True)/\True)/\Ah (decide (TK.text y.1=[(119:UInt8),104,105,108,101])) (Cg L q.2 (AV.pv [AV.int .i64 (24:Int),AV.bs [],BX,Ci y.1,Ch y.1,AV.Ay,AV.vec 1 2 λ(i:Nat)=>Hc i C.1 q.1]) t/\True) ((True/\Bk L q.2 λ(s:RS)=>BK l6)/\∀(J:RS),J=Bj L q.2->Ah (AW (List.any l6 (As L J))) ((Cs L J)/\∀(M:TK×RS),M=(Cu L J)->(ED L M.2 n)/\∀(E:PT×RS),E=C2 B L M.2->A5 E.2 ((Bn/\Bn/\Bn/\((Af (AV.BF 23 0 2 1)/\True)/\True)/\True)/\Cg L E.2 (AV.pv [AV.int .i64 (23:Int),AV.bs [],BX,Ci y.1,Ch y.1,AV.Ay,AV.vec 1 3 λ(i:Nat)=>List.take 1 (List.drop (i*1) [Cy C.1,Cy q.1,Cy E.1])]) t/\True) (Fb L E.2 t.2)) ((BS/\BS/\BS/\((True/\Af (AV.BF 23 0 2 1)/\True)/\True)/\True)/\Cg L J (AV.pv [AV.int .i64 (23:Int),AV.bs [],BX,Ci y.1,Ch y.1,AV.Ay,AV.vec 1 3 λ(i:Nat)=>List.take 1 (List.drop (i*1) [Cy C.1,Cy q.1,AV.pv [AV.int .i64 (12:Int),AV.bs [],BX,Ci y.1,Ch y.1,AV.Ay,AV.Ay]])]) t/\True))) (Fb L q.2 t.2)) (Fb L C.2 t.2)
:=by
 delta Cy Bj Bk Gq A5 Bn Cs BS Cg Ci BX BD Cu Ch Hc Hv ED Fb DL KW C2 l6;intro L n T B AA s t V hp hT R ht;simp only[Cd];have W:=uR V.ok (by rw[hp.k];decide);have Z:=HN V W;have pa:=M9 hp.p W;have gT:=hT.g L _ (Lu pa);have U:=O7 pa gT;have gB:=R.g L _ U;have ht:t=NX T B L (Ar L s) (Au s):=ht;have kB:Kp (B L (T L (Au s)).2).2 t.2:=by rw[ht];exact EN (P:=λr:PT×RS=>Kp (B L (T L (Au s)).2).2 r.2) (λ_=>Du _) λ_=>EN (P:=λr:PT×RS=>Kp (B L (T L (Au s)).2).2 r.2) (λ_=>(GJ _).tr (R.k _)) λ_=>Du _
 unfold NX at ht;refine Fc V W (Ce (f:=T L) Z (Lu pa) ((R.k _).tr kB) λe1=>⟨F8 _,?_⟩);have r1:=Fs Z gT (hT.k _) e1;refine Ce (f:=B L) r1 U kB λY=>Aw (λc=>?_) λc=>?_
 ·have c:(Ar L s).text=Fe:=Bt c;rw[Am c]at ht;exact(OW ht Y rfl rfl).2
 ·have c:¬(Ar L s).text=Fe:=Gj c;rw[Ad c]at ht;have S:=Fs r1 gB (R.k _) Y;refine D3 S rfl (Aw (λK=>?_) λK=>?_)
  ·have K:As L (B L (T L (Au s)).2).2 IJ=true:=by rwa[Dc rfl]at K
   rw[Am K]at ht;have O:=Dz K;have pc:=M9 (Lu (O7 U gB)) O;exact Fc S O (Ce (f:=B L) (HN S O) pc (by rw[ht];exact Du _) λe3=>Yk ht e3 rfl (uN rfl rfl rfl (OC _) (OC _) (OC _)))
  ·have K:As L (B L (T L (Au s)).2).2 IJ=false:=by rwa[Dc rfl]at K
   rw[Ad (nb K)]at ht;exact Yk ht Y rfl (uN rfl rfl rfl (OC _) (OC _) All)
theorem AhI:∀(L:Ab) (n:Nat) (T B:Ab->PF) (AA:UR L n T B) (s:RS) (t:PT×RS),R0 L s->JV L n s->FG L (n+1) T->FG L n B->t=NJ T B L s->(A4 (rB L n T B AA) 60).call 122 [.ptr 4 0] (Bx (CI++Cl [Bl L s] 4)) (4+1) (Hj L t):=Eq.mpr (by kernel_rfl) AhJ
def mB (L:Ab) (n:Nat) (F:Ab->PF):Gx:=mP L Unit LD (λs _=>JV L n s) (λs _=>oF L F s)
theorem Afi {L:Ab} {n:Nat} {T B:Ab->PF} (h:UR L n T B) (hT:FG L (n+1) T) (q:FG L n B):Bo Tryz.prog 122 (mB L n (NJ T B)):=Ib λs C y=>⟨rB L n T B h,60,rfl,Bu,B5,λt ht=>AhI L n T B h s t C y hT q ht⟩
structure US (L:List TK) (n:Nat) (T V:List TK->PF):Prop where
 t:Bo Tryz.prog 123 (mF L n T)
 v:Bo Tryz.prog 127 (mF L n V)
def tj (L:Ab) (n:Nat) (T V:Ab->PF):DX:=(123,mF L n T)::(127,mF L n V)::NW L
theorem Adr {L:Ab} {n:Nat} {T V:Ab->PF} (h:US L n T V):Gi Tryz.prog (tj L n T V):=El h.t (El h.v (OY L))
def rD (L:Ab) (n:Nat) (T V:Ab->PF) (h:US L n T V):Ctx:=NL (tj L n T V) (Adr h)
def Na (T V:Ab->PF) (L:Ab):PF:=λs=>QN T V L (Ar L s) (A6 L (Au s) 1).1 (A6 L (Au s) 1).2
theorem nF {L:Ab} {n:Nat} {V:Ab->PF} {s:RS} {t:PT×RS} {k m:Int} {x:Ac} {tk:TK} {y:PT} (q:R0 L s) (C:Bb L n s) (E:FG L n V) (ht:t=JN V L k x m tk y s): (C6 L (cP L s) s.nest λ_=>BK [[116,111]])/\∀u,u=B8 L (cP L s) s.nest->Ah ([[116,111]].any (As L u)) ((C6 L (cP L u) u.nest λs=>s.at_<L.length)/\∀v:TK×RS,v=(Ar L (B8 L (cP L u) u.nest),Au (B8 L (cP L u) u.nest))->(C6 L (cP L v.2) v.2.nest λs=>Bb L n s)/\ ∀z,z=V L (B8 L (cP L v.2) v.2.nest)->Ah (An z.2.err 0) (Hh L (cP L z.2) z.2.nest (.pv [.int .i64 k,.bs x,.int .i64 m,.int .i64 tk.line,.int .i64 tk.Ao,.Ay,.vec 1 2 λi=>List.take 1 (List.drop i [Bw y,Bw z.1])]) t) (Gg L (CQ L z.2) t.2)) (Hh L (cP L u) u.nest (.pv [.int .i64 k,.bs x,.int .i64 m,.int .i64 tk.line,.int .i64 tk.Ao,.Ay,.vec 1 1 λ_=>[Bw y]]) t):=by
 unfold JN at ht;refine D3 q rfl (Aw (λc=>?_) λc=>?_)
 ·have c:As L s Kq=true:=by rwa[Dc rfl]at c
  rw[Am c]at ht;have B:=Dz c;exact Fc q B (Ce (f:=V L) (HN q B) (Lu (M9 (Lu C) B) |> λh=>⟨h.ok,h.ns,by have:=C.lf;show(L.length:Int)-(s.at_+1)<n;omega⟩) (by rw[ht];exact Du _) λe=>(OW ht e rfl rfl).2)
 ·have c:As L s Kq=false:=by rwa[Dc rfl]at c
  rw[Ad (nb c)]at ht;exact(NO ht q.e rfl).2
theorem VT {V:Ab->PF} {L:Ab} (q:KF (V L)) {k:Int} {x:Ac} {m:Int} {tk:TK} {y:PT} {s:RS}:Kp s (JN V L k x m tk y s).2:=VS q k x m tk y s
def ZI:=(Bn/\Bn/\Bn/\((Af (AV.sl 12 0 1 1)/\True)/\True)/\True)
def Q1:=AV.int .i64 (19:Int)
def lO:=[[(102:UInt8),114,111,110,116]]
def TJ (a:Ab) (b:RS):=Ah (AW (List.any [Tx] (As a b)))
def lP:=[[(97:UInt8),102,116,101,114]]
def Uc (a:Ab) (b:RS):=(True/\Bk a b λ(q:RS)=>BK [Tx])
theorem AiF:∀(L:Ab) (n:Nat) (T V:Ab->PF),US L (n+1) T V->∀(s:RS) (t:PT×RS),R0 L s->JV L n s->FG L (n+1) T->FG L (n+1) V->t=Na T V L s->(Cs L s)/\∀(y:TK×RS),y=(Cu L s)->(Ii L y.2)/\∀(K:TK×RS),K=IE L y.2->A5 K.2 ((Hv L K.2 n)/\∀(E:PT×RS),E=C2 T L K.2->A5 E.2 (DL E.1/\DL E.1/\(Bn/\Bn/\Bn/\(KW y.1)/\True)/\(True/\Bk L E.2 λ(s:RS)=>BK lP)/\∀(R:RS),R=Bj L E.2->Ah (AW (List.any lP (As L R))) ((Cs L R)/\∀(M:TK×RS),M=(Cu L R)->(Bk L M.2 λ(s:RS)=>(3:Int)≠(0:Int))/\∀(q:TK×RS),q=A6 L (Bj L M.2) (3:Int)->A5 q.2 ((Uc L q.2)/\∀(B:RS),B=Bj L q.2->TJ L B ((Cs L B)/\∀(C:TK×RS),C=(Cu L B)->(Hv L C.2 n)/\∀(J:PT×RS),J=C2 V L C.2->A5 J.2 (ZI/\Cg L J.2 (AV.pv [Q1,DD K.1,AV.int .i64 (TK.num q.1),Ci y.1,Ch y.1,AV.Ay,AV.vec 1 2 λ(i:Nat)=>Hc i E.1 J.1]) t/\True) (Fb L J.2 t.2)) (Cg L B (AV.pv [Q1,DD K.1,AV.int .i64 (TK.num q.1),Ci y.1,Ch y.1,AV.Ay,AV.vec 1 1 λ(x:Nat)=>[Cy E.1]]) t/\True)) (BD L q.2 t.2)) ((True/\Bk L R λ(s:RS)=>BK lO)/\∀(M:RS),M=Bj L R->Ah (AW (List.any lO (As L M))) ((Cs L M)/\∀(q:TK×RS),q=(Cu L M)->(Uc L q.2)/\∀(B:RS),B=Bj L q.2->TJ L B ((Cs L B)/\∀(C:TK×RS),C=(Cu L B)->(Hv L C.2 n)/\∀(J:PT×RS),J=C2 V L C.2->A5 J.2 (ZI/\Cg L J.2 (AV.pv [Q1,DD K.1,AV.int .i64 (Int.negSucc 0),Ci y.1,Ch y.1,AV.Ay,AV.vec 1 2 λ(i:Nat)=>Hc i E.1 J.1]) t/\True) (Fb L J.2 t.2)) (Cg L B (AV.pv [Q1,DD K.1,AV.int .i64 (Int.negSucc 0),Ci y.1,Ch y.1,AV.Ay,AV.vec 1 1 λ(x:Nat)=>[Cy E.1]]) t/\True)) ((Uc L M)/\∀(q:RS),q=Bj L M->TJ L q ((Cs L q)/\∀(B:TK×RS),B=(Cu L q)->(Hv L B.2 n)/\∀(C:PT×RS),C=C2 V L B.2->A5 C.2 (ZI/\Cg L C.2 (AV.pv [Q1,DD K.1,BX,Ci y.1,Ch y.1,AV.Ay,AV.vec 1 2 λ(i:Nat)=>Hc i E.1 C.1]) t/\True) (Fb L C.2 t.2)) (Cg L q (AV.pv [Q1,DD K.1,BX,Ci y.1,Ch y.1,AV.Ay,AV.vec 1 1 λ(x:Nat)=>[Cy E.1]]) t/\True)))) (Fb L E.2 t.2)) (BD L K.2 t.2)
:=by
 delta Cy Bj Bk Gq A5 Bn Cs Cg Ci BX BD Cu Ch Hc DD Hv Fb DL Tx Ii IE ZI KW Q1 lO TJ lP C2 Uc;intro L n T V AA s t hs hp hT S ht;simp only[Cd];have hl:=uR hs.ok (by rw[hp.k];decide);have ra:=HN hs hl;have pa:=M9 hp.p hl;have ht:t=QN T V L (Ar L s) (A6 L (Au s) 1).1 (A6 L (Au s) 1).2:=ht;have kS:=I3 (L:=L) (k:=1) ra.ok (by decide);refine Fc hs hl (Ce (f:=λs=>A6 L s 1) ra trivial (by rw[ht];exact u6 hT.k S.k _ _ _) λe1=>?_);have r1:=Jb ra kS (Ia L _ 1) e1;have p1:=Lu (Lt pa kS);have gT:=hT.g L _ p1;have p2:=O7 p1 gT;unfold QN at ht;have rest:Kp (T L (A6 L (Au s) 1).2).2 t.2:=by rw[ht];exact EN (P:=λr:PT×RS=>Kp (T L (A6 L (Au s) 1).2).2 r.2) (λ_=>(GJ _).tr ((Ia L _ 3).tr (VT S.k))) λ_=>EN (P:=λr:PT×RS=>Kp (T L (A6 L (Au s) 1).2).2 r.2) (λ_=>(GJ _).tr (VT S.k)) λ_=>VT S.k
 refine Ce (f:=T L) r1 p1 rest λe2=>⟨F8 _,F8 _,?_⟩;have W:=Fs r1 gT (hT.k _) e2;refine D3 W rfl (Aw (λc=>?_) λc=>D3 W rfl (Aw (λU=>?_) λU=>?_))
 ·have c:As L (T L (A6 L (Au s) 1).2).2 JR=true:=by rwa[Dc rfl]at c
  rw[Am c]at ht;have O:=Dz c;have Y:=HN W O;have Z:=I3 (L:=L) (k:=3) Y.ok (by decide);refine Fc W O (Ce (f:=λs=>A6 L s 3) Y (by decide) (by rw[ht];exact VT S.k) λe3=>?_);exact nF (Jb Y Z (Ia L _ 3) e3) (Lu (Lt (M9 p2 O) Z)) S ht
 ·have c:As L (T L (A6 L (Au s) 1).2).2 JR=false:=by rwa[Dc rfl]at c
  have U:As L (T L (A6 L (Au s) 1).2).2 Kn=true:=by rwa[Dc rfl]at U
  rw[Ad (nb c),Am U]at ht;have O:=Dz U;exact Fc W O (nF (HN W O) (Lu (M9 p2 O)) S ht)
 ·have c:As L (T L (A6 L (Au s) 1).2).2 JR=false:=by rwa[Dc rfl]at c
  have U:As L (T L (A6 L (Au s) 1).2).2 Kn=false:=by rwa[Dc rfl]at U
  rw[Ad (nb c),Ad (nb U)]at ht;exact nF W p2 S ht
theorem AiE:∀(L:Ab) (n:Nat) (T V:Ab->PF) (AA:US L (n+1) T V) (s:RS) (t:PT×RS),R0 L s->JV L n s->FG L (n+1) T->FG L (n+1) V->t=Na T V L s->(A4 (rD L (n+1) T V AA) 60).call 125 [.ptr 4 0] (Bx (CI++Cl [Bl L s] 4)) (4+1) (Hj L t):=Eq.mpr (by kernel_rfl) AiF
theorem AfF {L:Ab} {n:Nat} {T V:Ab->PF} (h:US L (n+1) T V) (hT:FG L (n+1) T) (q:FG L (n+1) V):Bo Tryz.prog 125 (mB L n (Na T V)):=Ib λs B y=>⟨rD L (n+1) T V h,60,rfl,Bu,B5,λt ht=>AiE L n T V h s t B y hT q ht⟩
def Up (s:Ac):Int:=if s=Ga then 15 else if s=Gb then 16 else if s=Gc then 17 else if s=Gd then 18 else 0
def tR:HA:={X:=Ac,gl:=[],JI:=λ_=>true,ng:=0,k:=0,args:=λs=>[.bs s],FE:=λ_=>[],pre:=λ_=>True,out:=λs=>.ret (.int .i64 (Up s)) [] 0,fz:=0,find:=λ_ args=>match args with
  | [x]=>ob (Mx x) λs=>some (s,[])
  |_=>none}
structure UT (L:List TK) (n:Nat) (Br T V:List TK->PF):Prop where
 t:Bo Tryz.prog 123 (mF L (n+1) T)
 v:Bo Tryz.prog 127 (mF L (n+1) V)
 b:Bo Tryz.prog 122 (mB L n Br)
 p:Bo Tryz.prog 125 (mB L n (Na T V))
theorem AiR:∀(s:Ac),Aa/\((Aa/\(bif decide (s=[(99:UInt8),97,108,108])then(15:Int)else bif decide (s=[(99:UInt8),97,110,99,101,108])then(16:Int)else bif decide (s=[(106:UInt8),111,105,110])then(17:Int)else bif decide (s=[(108:UInt8),111,103])then(18:Int)else(0:Int))=Up s)/\True)/\True
:=by intro s;simp only[Cd];unfold Up;simp only[Bool.cond_decide];rfl
theorem AiQ:∀(s:Ac),(A4 Lf 60).call 124 [.bs s] .leaf 0 (Gk Tryz.prog 0 0 0 (.ret (.int .i64 (Up s)) [] 0)):=Eq.mpr (by kernel_rfl) AiR
theorem AfM:Bo Tryz.prog 124 tR.AJ:=MX _ (λp q=>by cases q) (λH _ p q=>by cases q) (λx=>rfl) (λx o y=>by cases y) (λx q=>⟨⟨rfl,rfl⟩,rfl,λo y=>by cases y⟩) λx q=>⟨(A4 Lf 60).call,JZ Bu B5 60,AiQ x⟩
def tm (L:Ab) (n:Nat) (Br T V:Ab->PF):DX:=(124,tR.AJ)::(123,mF L (n+1) T)::(127,mF L (n+1) V)::(122,mB L n Br)::(125,mB L n (Na T V))::NW L
theorem Ads {L:Ab} {n:Nat} {Br T V:Ab->PF} (h:UT L n Br T V):Gi Tryz.prog (tm L n Br T V):=El AfM (El h.t (El h.v (El h.b (El h.p (OY L)))))
def rE (L:Ab) (n:Nat) (Br T V:Ab->PF) (h:UT L n Br T V):Ctx:=NL (tm L n Br T V) (Ads h)
structure dG (L:List TK) (n:Nat) (Br:List TK->PF):Prop where
 b:∀s,JV L n s->CA L 1 2 s (Br L s)
 k:KF (Br L)
theorem Jq {L:Ab} {s:RS} {w:Ac} (h:As L s w=true) (q:Fl w=2):(Ar L s).kind=2/\(Ar L s).text=w:=by obtain⟨_,y⟩:=VI h;refine⟨?_,Ma h⟩;unfold As at h;rw[C5,BV,BV]at h;omega
theorem Ll {L:Ab} {s:RS} {w:Ac} (h:As L s w=false) (q:Fl w=2) (y:(Ar L s).kind=2):(Ar L s).text≠w:=λe=>by unfold As at h;rw[q,y,e]at h;simp at h
section
variable {Se:Ab->TK->PF} {Br Po T:Ab->PF} {L:Ab} {s:RS}
theorem Akm (c:As L s Gu=true):BZ Se Br Po T L s=Br L s:=by obtain⟨y,q⟩:=Jq c rfl;unfold BZ;rw[Ad (λe=>e y)];simp only[q];rw[Am trivial]
theorem Aku (c:As L s Fe=true):BZ Se Br Po T L s=Br L s:=by obtain⟨y,q⟩:=Jq c rfl;unfold BZ;rw[Ad (λe=>e y)];simp only[q];rw[Ad (show¬Fe=Gu by decide),Am trivial]
theorem Akt (c:As L s EX=true):BZ Se Br Po T L s=Cz L (OB T L (Ar L s) (A6 L (Au s) 1)):=by obtain⟨y,q⟩:=Jq c rfl;unfold BZ;rw[Ad (λe=>e y)];simp only[q];rw[Ad (show¬EX=Gu by decide),Ad (show¬EX=Fe by decide),Am trivial]
theorem Akh (c:As L s Ga=true):BZ Se Br Po T L s=Cz L (Hs T L 15 (Ar L s) (Au s)):=by obtain⟨y,q⟩:=Jq c rfl;unfold BZ;rw[Ad (λe=>e y)];simp only[q];rw[Ad (show¬Ga=Gu by decide),Ad (show¬Ga=Fe by decide),Ad (show¬Ga=EX by decide),Am trivial]
theorem Aki (c:As L s Gb=true):BZ Se Br Po T L s=Cz L (Hs T L 16 (Ar L s) (Au s)):=by obtain⟨y,q⟩:=Jq c rfl;unfold BZ;rw[Ad (λe=>e y)];simp only[q];rw[Ad (show¬Gb=Gu by decide),Ad (show¬Gb=Fe by decide),Ad (show¬Gb=EX by decide),Ad (show¬Gb=Ga by decide),Am trivial]
theorem Akn (c:As L s Gc=true):BZ Se Br Po T L s=Cz L (Hs T L 17 (Ar L s) (Au s)):=by obtain⟨y,q⟩:=Jq c rfl;unfold BZ;rw[Ad (λe=>e y)];simp only[q];rw[Ad (show¬Gc=Gu by decide),Ad (show¬Gc=Fe by decide),Ad (show¬Gc=EX by decide),Ad (show¬Gc=Ga by decide),Ad (show¬Gc=Gb by decide),Am trivial]
theorem Ako (c:As L s Gd=true):BZ Se Br Po T L s=Cz L (Hs T L 18 (Ar L s) (Au s)):=by obtain⟨y,q⟩:=Jq c rfl;unfold BZ;rw[Ad (λe=>e y)];simp only[q];rw[Ad (show¬Gd=Gu by decide),Ad (show¬Gd=Fe by decide),Ad (show¬Gd=EX by decide),Ad (show¬Gd=Ga by decide),Ad (show¬Gd=Gb by decide),Ad (show¬Gd=Gc by decide),Am trivial]
theorem Akp (c:As L s FK=true):BZ Se Br Po T L s=Cz L (Po L s):=by obtain⟨y,q⟩:=Jq c rfl;unfold BZ;rw[Ad (λe=>e y)];simp only[q];rw[Ad (show¬FK=Gu by decide),Ad (show¬FK=Fe by decide),Ad (show¬FK=EX by decide),Ad (show¬FK=Ga by decide),Ad (show¬FK=Gb by decide),Ad (show¬FK=Gc by decide),Ad (show¬FK=Gd by decide),Am trivial]
theorem Aks (c:As L s Gv=true):BZ Se Br Po T L s=Cz L (Po L s):=by obtain⟨y,q⟩:=Jq c rfl;unfold BZ;rw[Ad (λe=>e y)];simp only[q];rw[Ad (show¬Gv=Gu by decide),Ad (show¬Gv=Fe by decide),Ad (show¬Gv=EX by decide),Ad (show¬Gv=Ga by decide),Ad (show¬Gv=Gb by decide),Ad (show¬Gv=Gc by decide),Ad (show¬Gv=Gd by decide),Ad (show¬Gv=FK by decide),Am trivial]
theorem Akl (c:As L s GY=true):BZ Se Br Po T L s=Cz L (J9 L 21 (Ar L s) (Au s)):=by obtain⟨y,q⟩:=Jq c rfl;unfold BZ;rw[Ad (λe=>e y)];simp only[q];rw[Ad (show¬GY=Gu by decide),Ad (show¬GY=Fe by decide),Ad (show¬GY=EX by decide),Ad (show¬GY=Ga by decide),Ad (show¬GY=Gb by decide),Ad (show¬GY=Gc by decide),Ad (show¬GY=Gd by decide),Ad (show¬GY=FK by decide),Ad (show¬GY=Gv by decide),Am trivial]
theorem Akk (c:As L s GX=true):BZ Se Br Po T L s=Cz L (J9 L 22 (Ar L s) (Au s)):=by obtain⟨y,q⟩:=Jq c rfl;unfold BZ;rw[Ad (λe=>e y)];simp only[q];rw[Ad (show¬GX=Gu by decide),Ad (show¬GX=Fe by decide),Ad (show¬GX=EX by decide),Ad (show¬GX=Ga by decide),Ad (show¬GX=Gb by decide),Ad (show¬GX=Gc by decide),Ad (show¬GX=Gd by decide),Ad (show¬GX=FK by decide),Ad (show¬GX=Gv by decide),Ad (show¬GX=GY by decide),Am trivial]
theorem Akq (c:As L s Hg=true):BZ Se Br Po T L s=Cz L (nd 25 [] 0 (Ar L s) [],Au s):=by obtain⟨y,q⟩:=Jq c rfl;unfold BZ;rw[Ad (λe=>e y)];simp only[q];rw[Ad (show¬Hg=Gu by decide),Ad (show¬Hg=Fe by decide),Ad (show¬Hg=EX by decide),Ad (show¬Hg=Ga by decide),Ad (show¬Hg=Gb by decide),Ad (show¬Hg=Gc by decide),Ad (show¬Hg=Gd by decide),Ad (show¬Hg=FK by decide),Ad (show¬Hg=Gv by decide),Ad (show¬Hg=GY by decide),Ad (show¬Hg=GX by decide),Am trivial]
theorem Akj (U:As L s Gu=false) (S:As L s Fe=false) (R:As L s EX=false) (O:As L s Ga=false) (M:As L s Gb=false) (c5:As L s Gc=false) (K:As L s Gd=false) (J:As L s FK=false) (E:As L s Gv=false) (C:As L s GY=false) (B:As L s GX=false) (y:As L s Hg=false):BZ Se Br Po T L s=Se L (Ar L s) s:=by
 unfold BZ;by_cases q:(Ar L s).kind=2
 ·rw[Ad (λe=>e q),Ad (Ll U rfl q),Ad (Ll S rfl q),Ad (Ll R rfl q),Ad (Ll O rfl q),Ad (Ll M rfl q),Ad (Ll c5 rfl q),Ad (Ll K rfl q),Ad (Ll J rfl q),Ad (Ll E rfl q),Ad (Ll C rfl q),Ad (Ll B rfl q),Ad (Ll y rfl q)]
 ·rw[Am q]
end
theorem Pz {L:Ab} {x:PT} {r:RS} {t:PT×RS} {v:AV} (q:R0 L r) (ht:t=Cz L (x,r)) (hv:∀s',s'.err=0->t=(x,s')->Hh L (cP L s') s'.nest v t): (C6 L (cP L r) r.nest λ_=>BK [[59]])/\∀y,y=Aq L (B8 L (cP L r) r.nest) [[59]]->Ah (An y.2.err 0) (Hh L (cP L y.2) y.2.nest v t) (Gg L (CQ L y.2) t.2):=by
 have h:t=(x,(Aq L r [[59]]).2):=by rw[ht];unfold Cz;rw[sign_one];rfl
 exact Ce (f:=λs=>Aq L s [[59]]) q (IQ rfl) (by rw[h];exact Du _) λe=>hv _ e h
theorem SO {L:Ab} {x:PT} {r:RS} {t:PT×RS} (ht:t=Cz L (x,r)):Kp r t.2:=by rw[ht];exact Dk L r _
theorem Ak3 {L:Ab} {n:Nat} {V:Ab->PF} {s:RS} {t:PT×RS} {k m:Int} {x:Ac} {tk:TK} {y:PT} (q:R0 L s) (J:Bb L (n+1) s) (E:FG L (n+1) V) (ht:t=Cz L (JN V L k x m tk y s)): (C6 L (cP L s) s.nest λ_=>BK [[116,111]])/\∀u,u=B8 L (cP L s) s.nest->Ah ([[116,111]].any (As L u)) ((C6 L (cP L u) u.nest λs=>s.at_<L.length)/\∀v:TK×RS,v=(Ar L (B8 L (cP L u) u.nest),Au (B8 L (cP L u) u.nest))->(C6 L (cP L v.2) v.2.nest λs=>Bb L (n+1) s)/\ ∀z,z=V L (B8 L (cP L v.2) v.2.nest)->Ah (An z.2.err 0) ((C6 L (cP L z.2) z.2.nest λ_=>BK [[59]])/\∀w,w=Aq L (B8 L (cP L z.2) z.2.nest) [[59]]->Ah (An w.2.err 0) (Hh L (cP L w.2) w.2.nest (.pv [.int .i64 k,.bs x,.int .i64 m,.int .i64 tk.line,.int .i64 tk.Ao,.Ay,.vec 1 2 λi=>List.take 1 (List.drop i [Bw y,Bw z.1])]) t) (Gg L (CQ L w.2) t.2)) (Gg L (CQ L z.2) t.2)) ((C6 L (cP L u) u.nest λ_=>BK [[59]])/\∀w,w=Aq L (B8 L (cP L u) u.nest) [[59]]->Ah (An w.2.err 0) (Hh L (cP L w.2) w.2.nest (.pv [.int .i64 k,.bs x,.int .i64 m,.int .i64 tk.line,.int .i64 tk.Ao,.Ay,.vec 1 1 λ_=>[Bw y]]) t) (Gg L (CQ L w.2) t.2)):=by
 unfold JN at ht;refine D3 q rfl (Aw (λc=>?_) λc=>?_)
 ·have c:As L s Kq=true:=by rwa[Dc rfl]at c
  rw[Am c]at ht;have B:=Dz c;have pa:=Lu (M9 J B);refine Fc q B (Ce (f:=V L) (HN q B) pa (SO ht) λe=>?_);exact Pz (Fs (HN q B) (E.g L _ pa) (E.k _) e) ht λs' C h=>(OW h C rfl rfl).2
 ·have c:As L s Kq=false:=by rwa[Dc rfl]at c
  rw[Ad (nb c)]at ht;exact Pz q ht λs' C h=>(NO h C rfl).2
theorem oq {f:Ac->Bool} {a b:Ac}:[a,b].any f=(f a||f b):=by simp
theorem og {f:Ac->Bool} {a b c d:Ac}:[a,b,c,d].any f=(f a||(f b||(f c||f d))):=by simp
theorem Akr {Se:Ab->TK->PF} {Br Po T:Ab->PF} {L:Ab} {s:RS} (c:[Ga,Gb,Gc,Gd].any (As L s)=true):BZ Se Br Po T L s=Cz L (Hs T L (Up (Ar L s).text) (Ar L s) (Au s)):=by
 rw[og,Bool.or_eq_true,Bool.or_eq_true,Bool.or_eq_true]at c;rcases c with c|c|c|c
 ·rw[Akh c,Ma c];rfl
 ·rw[Aki c,Ma c];rfl
 ·rw[Akn c,Ma c];rfl
 ·rw[Ako c,Ma c];rfl
@[reducible] def dV:TK×RS->Prop:=λ(a:TK×RS)=>(Gq a.1/\True/\True)/\True
@[reducible] def dW:TK×RS->Prop:=λ(a:TK×RS)=>dV a/\BS/\True
def JA (a:Ab) (b:RS):=(True/\Bk a b λ(q:RS)=>BK [[(59:UInt8)]])
def Jy (a:Ab) (b:RS):=Aq a (Bj a b) [[(59:UInt8)]]
def lK:=[[(99:UInt8),97,108,108],[(99:UInt8),97,110,99,101,108],[(106:UInt8),111,105,110],[(108:UInt8),111,103]]
def lV:=[[(105:UInt8),102],[(119:UInt8),104,105,108,101]]
def lW:=[[(100:UInt8),105,115,97,98,108,101]]
def lR:=[[(114:UInt8),101,116,117,114,110]]
def lS:=[[(101:UInt8),110,97,98,108,101]]
def Q3:=[[(61:UInt8)]]
def l7:=[[(115:UInt8),112,97,119,110]]
def lY:=[[(112:UInt8),111,115,116]]
theorem AiV:∀(L:Ab) (n:Nat) (Br T V:Ab->PF),UT L n Br T V->∀(s:RS) (t:PT×RS),R0 L s->Bb L (n+1) s->FG L (n+1) T->FG L (n+1) V->dG L n Br->t=BZ (λ(L:Ab) (t:TK)=>LH V T L t) Br (Jw T V) T L s->(True/\Bk L s λ(s:RS)=>BK lV)/\∀(y:RS),y=Bj L s->Ah (AW (List.any lV (As L y))) ((Bk L y λ(s:RS)=>JV L n s)/\∀(O:PT×RS),O=C2 Br L y->Q5 O.2 L O.1 t t.2) ((True/\Bk L y λ(s:RS)=>BK [ZO])/\∀(O:RS),O=Bj L y->Ah (AW (List.any [ZO] (As L O))) ((Cs L O)/\∀(y:TK×RS),y=(Cu L O)->(Ii L y.2)/\∀(J:TK×RS),J=IE L y.2->A5 J.2 ((Ii L J.2)/\∀(C:PT×RS),C=Eg L (Bj L J.2)->A5 C.2 (DL C.1/\DL C.1/\(Bn/\Bn/\Bn/\(KW y.1)/\True)/\(True/\Bk L C.2 λ(s:RS)=>BK Q3)/\∀(q:TK×RS),q=Hw L C.2 Q3->A5 q.2 ((Hv L q.2 n)/\∀(B:PT×RS),B=C2 T L q.2->A5 B.2 ((Bn/\Bn/\Bn/\((Af (AV.sl 16 0 1 1)/\True)/\True)/\True)/\(JA L B.2)/\∀(E:TK×RS),E=Jy L B.2->A5 E.2 (Cg L E.2 (AV.pv [AV.int .i64 (13:Int),DD J.1,BX,Ci y.1,Ch y.1,AV.Ay,AV.vec 1 2 λ(i:Nat)=>Hc i C.1 B.1]) t/\True) (BD L E.2 t.2)) (Fb L B.2 t.2)) (BD L q.2 t.2)) (Fb L C.2 t.2)) (BD L J.2 t.2)) ((True/\Bk L O λ(s:RS)=>BK lK)/\∀(y:RS),y=Bj L O->Ah (AW (List.any lK (As L y))) ((Cs L y)/\∀(J:TK×RS),J=(Cu L y)->(True/\Aa/\Aa/\(Af (TK.text J.1)/\True)/\True)/\(Hv L J.2 n)/\∀(y:PT×RS),y=C2 T L J.2->A5 y.2 (DL y.1/\(dV J/\BS/\dW J)/\(JA L y.2)/\∀(C:TK×RS),C=Jy L y.2->A5 C.2 (Cg L C.2 (AV.pv [AV.int .i64 (Up (TK.text J.1)),AV.bs [],BX,Ci J.1,Ch J.1,AV.Ay,AV.vec 1 1 λ(x:Nat)=>[Cy y.1]]) t/\True) (BD L C.2 t.2)) (dW J/\BD L y.2 t.2)) ((True/\Bk L y λ(s:RS)=>BK lY)/\∀(J:RS),J=Bj L y->Ah (AW (List.any lY (As L J))) ((Bk L J λ(s:RS)=>JV L n s)/\∀(y:PT×RS),y=Na T V L (Bj L J)->A5 y.2 ((JA L y.2)/\∀(C:TK×RS),C=Jy L y.2->Q5 C.2 L y.1 t t.2) (BD L y.2 t.2)) ((True/\Bk L J λ(s:RS)=>BK l7)/\∀(y:RS),y=Bj L J->Ah (AW (List.any l7 (As L y))) ((Cs L y)/\∀(C:TK×RS),C=(Cu L y)->(Hv L C.2 n)/\∀(y:PT×RS),y=C2 T L C.2->A5 y.2 (DL y.1/\(Uc L y.2)/\∀(q:RS),q=Bj L y.2->TJ L q ((Cs L q)/\∀(B:TK×RS),B=(Cu L q)->(Hv L B.2 n)/\∀(E:PT×RS),E=C2 V L B.2->A5 E.2 ((Bn/\Bn/\Bn/\((Af (AV.sl 17 0 1 1)/\True)/\True)/\True)/\(JA L E.2)/\∀(K:TK×RS),K=Jy L E.2->A5 K.2 (Cg L K.2 (AV.pv [AV.int .i64 (20:Int),AV.bs [],BX,Ci C.1,Ch C.1,AV.Ay,AV.vec 1 2 λ(i:Nat)=>Hc i y.1 E.1]) t/\True) (BD L K.2 t.2)) (Fb L E.2 t.2)) ((JA L q)/\∀(B:TK×RS),B=Jy L q->A5 B.2 (Cg L B.2 (AV.pv [AV.int .i64 (20:Int),AV.bs [],BX,Ci C.1,Ch C.1,AV.Ay,AV.vec 1 1 λ(x:Nat)=>[Cy y.1]]) t/\True) (BD L B.2 t.2))) (BD L y.2 t.2)) ((True/\Bk L y λ(s:RS)=>BK lS)/\∀(C:RS),C=Bj L y->Ah (AW (List.any lS (As L C))) ((Cs L C)/\∀(y:TK×RS),y=(Cu L C)->(Ii L y.2)/\∀(q:TK×RS),q=IE L y.2->A5 q.2 ((JA L q.2)/\∀(B:TK×RS),B=Jy L q.2->A5 B.2 (Cg L B.2 (AV.pv [AV.int .i64 (21:Int),DD q.1,BX,Ci y.1,Ch y.1,AV.Ay,AV.Ay]) t/\True) (BD L B.2 t.2)) (BD L q.2 t.2)) ((True/\Bk L C λ(s:RS)=>BK lW)/\∀(y:RS),y=Bj L C->Ah (AW (List.any lW (As L y))) ((Cs L y)/\∀(q:TK×RS),q=(Cu L y)->(Ii L q.2)/\∀(y:TK×RS),y=IE L q.2->A5 y.2 ((JA L y.2)/\∀(B:TK×RS),B=Jy L y.2->A5 B.2 (Cg L B.2 (AV.pv [AV.int .i64 (22:Int),DD y.1,BX,Ci q.1,Ch q.1,AV.Ay,AV.Ay]) t/\True) (BD L B.2 t.2)) (BD L y.2 t.2)) ((True/\Bk L y λ(s:RS)=>BK lR)/\∀(q:RS),q=Bj L y->Ah (AW (List.any lR (As L q))) ((Cs L q)/\∀(y:TK×RS),y=(Cu L q)->(JA L y.2)/\∀(B:TK×RS),B=Jy L y.2->A5 B.2 (Cg L B.2 (AV.pv [AV.int .i64 (25:Int),AV.bs [],BX,Ci y.1,Ch y.1,AV.Ay,AV.Ay]) t/\True) (BD L B.2 t.2)) (Pl q L (HL q L ((Hv L q n)/\∀(y:PT×RS),y=C2 V L q->A5 y.2 (DL y.1/\(Bn/\Bn/\((Af (AV.agg [AV.int .i64 (TK.kind (Ef q L)),AV.bs (TK.text (Ef q L)),AV.int .i64 (TK.num (Ef q L)),AV.int .i64 (TK.line (Ef q L)),AV.int .i64 (TK.Ao (Ef q L))])/\True)/\True)/\True)/\(True/\Bk L y.2 λ(s:RS)=>BK Q3)/\∀(B:TK×RS),B=Hw L y.2 Q3->A5 B.2 ((Hv L B.2 n)/\∀(E:PT×RS),E=C2 T L B.2->A5 E.2 ((Bn/\Bn/\Bn/\((Af (AV.sl 26 0 1 1)/\True)/\True)/\True)/\(JA L E.2)/\∀(K:TK×RS),K=Jy L E.2->A5 K.2 (Cg L K.2 (AV.pv [AV.int .i64 (14:Int),AV.bs [],BX,AV.int .i64 (TK.line (Ef q L)),AV.int .i64 (TK.Ao (Ef q L)),AV.Ay,AV.vec 1 2 λ(i:Nat)=>Hc i y.1 E.1]) t/\True) (BD L K.2 t.2)) (Fb L E.2 t.2)) (BD L B.2 t.2)) (Fb L y.2 t.2))) ((Hv L q n)/\∀(y:PT×RS),y=C2 V L q->A5 y.2 (DL y.1/\(Bn/\Bn/\((Af (AV.agg [BX,AV.str 0 0,BX,BX,BX])/\True)/\True)/\True)/\(True/\Bk L y.2 λ(s:RS)=>BK Q3)/\∀(B:TK×RS),B=Hw L y.2 Q3->A5 B.2 ((Hv L B.2 n)/\∀(E:PT×RS),E=C2 T L B.2->A5 E.2 ((Bn/\Bn/\Bn/\((Af (AV.sl 25 0 1 1)/\True)/\True)/\True)/\(JA L E.2)/\∀(K:TK×RS),K=Jy L E.2->A5 K.2 (Cg L K.2 (AV.pv [AV.int .i64 (14:Int),AV.bs [],BX,BX,BX,AV.Ay,AV.vec 1 2 λ(i:Nat)=>Hc i y.1 E.1]) t/\True) (BD L K.2 t.2)) (Fb L E.2 t.2)) (BD L B.2 t.2)) (Fb L y.2 t.2))))))))))
:=by
 delta Cy Bj Bk IC Gq A5 Bn Cs BS Cg Ci BX BD Cu Ch Ef JA D1 Hc DD Hv Fb Jy lK DL Tx Ii HL IE KW lV lW Hw lR lS ZO Pl TJ Q3 l7 C2 Uc Q5 lY;intro L n Br T V AA s t M Z hT hV hB ht;simp only[Cd,dV,dW,Gq,BS];have AA:=M.ok;refine D3 M rfl (Aw (λc=>?_) λc=>?_)
 ·have c:[Gu,Fe].any (As L s)=true:=c;rw[oq,Bool.or_eq_true]at c;have hk:(Ar L s).kind=2/\t=Br L s:=by
   rcases c with c|c
   ·exact⟨(Jq c rfl).1,by rw[ht,Akm c]⟩
   ·exact⟨(Jq c rfl).1,by rw[ht,Aku c]⟩
  exact Ce (f:=Br L) M ⟨Z,hk.1⟩ (by rw[hk.2];exact Du _) λe=>Lh hk.2 e
 have c0:[Gu,Fe].any (As L s)=false:=c;rw[oq,Bool.or_eq_false_iff]at c0;clear c;refine D3 M rfl (Aw (λc=>?_) λc=>?_)
 ·have c:As L s EX=true:=by rwa[Dc rfl]at c
  rw[Akt c]at ht;have R:=Dz c;have S:=HN M R;have pa:=M9 Z R;have kS:=I3 (L:=L) (k:=1) S.ok (by decide);unfold OB at ht;have k3:=SO ht;refine Fc M R (Ce (f:=λs=>A6 L s 1) S trivial ((N4 L _).tr ((Dk L _ _).tr ((hT.k _).tr k3))) λU=>?_);have r1:=Jb S kS (Ia L _ 1) U;have p1:=Lt pa kS;have tS:=Ux (L:=L) r1.ok;refine Ce (f:=Eg L) r1 trivial ((Dk L _ _).tr ((hT.k _).tr k3)) λe2=>⟨F8 _,F8 _,?_⟩;have r2:=Fs r1 tS (N4 L _) e2;have p2:=O7 p1 tS;rw[sign_one]at k3 ht;refine Ce (f:=λs=>Aq L s [[61]]) r2 (IQ rfl) ((hT.k _).tr k3) λe3=>?_;have s3:=Kb (L:=L) (ws:=[[61]]) r2.ok;have r3:=Jb r2 s3 (G7 L _ _) e3;have p3:=Lu (Lt p2 s3);refine Ce (f:=T L) r3 p3 k3 λe4=>?_;exact Pz (Fs r3 (hT.g L _ p3) (hT.k _) e4) ht λs' W h=>(OW h W rfl rfl).2
 have c1:As L s EX=false:=by rwa[Dc rfl]at c
 clear c;refine D3 M rfl (Aw (λc=>?_) λc=>?_)
 ·have c:[Ga,Gb,Gc,Gd].any (As L s)=true:=c;rw[Akr c]at ht;obtain⟨w,_,hw⟩:=List.any_eq_true.1 c;have R:=Dz hw;have S:=HN M R;have pa:=Lu (M9 Z R);unfold Hs at ht;refine Fc M R (Ce (f:=T L) S pa (SO ht) λU=>⟨F8 _,?_⟩);exact Pz (Fs S (hT.g L _ pa) (hT.k _) U) ht λs' W h=>(NO h W rfl).2
 have c2:[Ga,Gb,Gc,Gd].any (As L s)=false:=c;rw[og,Bool.or_eq_false_iff,Bool.or_eq_false_iff,Bool.or_eq_false_iff]at c2;clear c;refine D3 M rfl (Aw (λc=>?_) λc=>?_)
 ·have c:As L s FK=true:=by rwa[Dc rfl]at c
  rw[Akp c]at ht;have hk:=(Jq c rfl).1;have Y:Jw T V L s=Na T V L s:=by unfold Jw;rw[Am (Ma c)];rfl
  rw[Y]at ht;have pB:JV L n s:=⟨Z,hk⟩;refine Ce (f:=Na T V L) M pB (SO (x:=(Na T V L s).1) ht) λU=>?_;exact Pz (x:=(Na T V L s).1) (Fs M (by rw[<-Y];exact kp hT.g hV.g pB) (by rw[<-Y];exact uZ hT.k hV.k _) U) ht λs' W h=>Lh h W
 have c3:As L s FK=false:=by rwa[Dc rfl]at c
 clear c;refine D3 M rfl (Aw (λc=>?_) λc=>?_)
 ·have c:As L s Gv=true:=by rwa[Dc rfl]at c
  rw[Aks c]at ht;have R:=Dz c;have S:=HN M R;have pa:=Lu (M9 Z R);have Y:Jw T V L s=JN V L 20 [] 0 (Ar L s) (T L (Au s)).1 (T L (Au s)).2:=by unfold Jw;rw[Ad (by rw[Ma c];decide)]
  rw[Y]at ht;have kT:Kp (T L (Au s)).2 t.2:=by rw[ht];exact Qx (VT hV.k)
  refine Fc M R (Ce (f:=T L) S pa kT λU=>⟨F8 _,?_⟩);exact Ak3 (Fs S (hT.g L _ pa) (hT.k _) U) (O7 pa (hT.g L _ pa)) hV ht
 have c4:As L s Gv=false:=by rwa[Dc rfl]at c
 clear c;have nm:∀k:Int,s.at_<L.length->t=Cz L (J9 L k (Ar L s) (Au s))->(C6 L (cP L s) s.nest λs=>s.at_<L.length)/\∀y:TK×RS,y=(Ar L (B8 L (cP L s) s.nest),Au (B8 L (cP L s) s.nest))->(C6 L (cP L y.2) y.2.nest λ_=>True)/\∀z,z=A6 L (B8 L (cP L y.2) y.2.nest) 1->Ah (An z.2.err 0) ((C6 L (cP L z.2) z.2.nest λ_=>BK [[59]])/\∀w,w=Aq L (B8 L (cP L z.2) z.2.nest) [[59]]->Ah (An w.2.err 0) (Hh L (cP L w.2) w.2.nest (.pv [.int .i64 k,.bs z.1.text,.int .i64 0,.int .i64 y.1.line,.int .i64 y.1.Ao,.Ay,.Ay]) t) (Gg L (CQ L w.2) t.2)) (Gg L (CQ L z.2) t.2):=λk R ht=>by have S:=HN M R;have kS:=I3 (L:=L) (k:=1) S.ok (by decide);unfold J9 at ht;refine Fc M R (Ce (f:=λs=>A6 L s 1) S trivial (SO ht) λU=>?_);exact Pz (Jb S kS (Ia L _ 1) U) ht λs' W h=>MN h W
 refine D3 M rfl (Aw (λc=>?_) λc=>?_)
 ·have c:As L s GY=true:=by rwa[Dc rfl]at c
  rw[Akl c]at ht;exact nm 21 (Dz c) ht
 have c5:As L s GY=false:=by rwa[Dc rfl]at c
 clear c;refine D3 M rfl (Aw (λc=>?_) λc=>?_)
 ·have c:As L s GX=true:=by rwa[Dc rfl]at c
  rw[Akk c]at ht;exact nm 22 (Dz c) ht
 have c6:As L s GX=false:=by rwa[Dc rfl]at c
 clear c;refine D3 M rfl (Aw (λc=>?_) λc=>?_)
 ·have c:As L s Hg=true:=by rwa[Dc rfl]at c
  rw[Akq c]at ht;have R:=Dz c;exact Fc M R (Pz (HN M R) ht λs' W h=>MN h W)
 have c7:As L s Hg=false:=by rwa[Dc rfl]at c
 clear c;rw[Akj c0.1 c0.2 c1 c2.1 c2.2.1 c2.2.2.1 c2.2.2.2 c3 c4 c5 c6 c7]at ht;have ht:t=Cz L (nd 14 [] 0 (Ar L s) [(V L s).1,(T L (BE L (V L s).2 MB).2).1],(T L (BE L (V L s).2 MB).2).2):=ht;rw[sign_one]at ht;have rest:=SO ht;have key:∀ln cl:Int,ln=(Ar L s).line->cl=(Ar L s).Ao->(C6 L (cP L s) s.nest λs=>Bb L (n+1) s)/\∀y,y=V L (B8 L (cP L s) s.nest)->Ah (An y.2.err 0) (D8 [Bw y.1]/\(C6 L (cP L y.2) y.2.nest λ_=>BK [[61]])/\∀z:TK×RS,z=Aq L (B8 L (cP L y.2) y.2.nest) [[61]]->Ah (An z.2.err 0) ((C6 L (cP L z.2) z.2.nest λs=>Bb L (n+1) s)/\∀u,u=T L (B8 L (cP L z.2) z.2.nest)->Ah (An u.2.err 0) ((C6 L (cP L u.2) u.2.nest λ_=>BK [[59]])/\∀w:TK×RS,w=Aq L (B8 L (cP L u.2) u.2.nest) [[59]]->Ah (An w.2.err 0) (Hh L (cP L w.2) w.2.nest (.pv [.int .i64 14,.bs [],.int .i64 0,.int .i64 ln,.int .i64 cl,.Ay,.vec 1 2 λi=>List.take 1 (List.drop i [Bw y.1,Bw u.1])]) t) (Gg L (CQ L w.2) t.2)) (Gg L (CQ L u.2) t.2)) (Gg L (CQ L z.2) t.2)) (Gg L (CQ L y.2) t.2):=λln cl h1 h2=>by subst h1;subst h2;refine Ce (f:=V L) M Z ((G7 L _ _).tr ((hT.k _).tr rest)) λU=>⟨F8 _,?_⟩;have gV:=hV.g L s Z;have r1:=Fs M gV (hV.k _) U;have p1:=O7 Z gV;refine Ce (f:=λs=>Aq L s [[61]]) r1 (IQ rfl) ((hT.k _).tr rest) λe2=>?_;have s3:=Kb (L:=L) (ws:=[[61]]) r1.ok;have r2:=Jb r1 s3 (G7 L _ _) e2;have p2:=Lt p1 s3;refine Ce (f:=T L) r2 p2 rest λe3=>?_;exact Pz (Fs r2 (hT.g L _ p2) (hT.k _) e3) ht λs' W h=>(OW h W rfl rfl).2
 have hd:=Qb M;refine Aw (λc=>?_) λc=>?_
 ·rw[CE]at c;have R:s.at_<L.length:=by omega
  rw[RK M R];exact At (Cf.2 (by omega)) (key _ _ rfl rfl)
 ·rw[CF]at c;have ho:=RL (L:=L) (s:=s) (by omega);exact key _ _ (by rw[ho];rfl) (by rw[ho];rfl)
theorem AiU:∀(L:Ab) (n:Nat) (Br T V:Ab->PF) (AA:UT L n Br T V) (s:RS) (t:PT×RS),R0 L s->Bb L (n+1) s->FG L (n+1) T->FG L (n+1) V->dG L n Br->t=BZ (λL t=>LH V T L t) Br (Jw T V) T L s->(A4 (rE L n Br T V AA) 60).call 110 [.ptr 4 0] (Bx (CI++Cl [Bl L s] 4)) (4+1) (Hj L t):=Eq.mpr (by kernel_rfl) AiV
theorem AfO {L:Ab} {n:Nat} {Br T V:Ab->PF} (h:UT L n Br T V) (hT:FG L (n+1) T) (q:FG L (n+1) V) (y:dG L n Br):Bo Tryz.prog 110 (mF L (n+1) (BZ (λL t=>LH V T L t) Br (Jw T V) T)):=Ib λs C B=>⟨rE L n Br T V h,60,rfl,Bu,B5,λt ht=>AiU L n Br T V h s t C B hT q y ht⟩
end Go.Proofs.YtlmmbanfhjaioaaGreatDoor
end
section
set_option maxRecDepth 100000
set_option maxHeartbeats 2000000
open Go Go.Ev
namespace Go.Proofs.YtlmmbanfhjaioaaGreatDoor
def ju (s:St) (q:Nat):Nat:=match s.T.get q with
 |some (.ptr id 0)=>id
 |_=>0
def ur (s:St) (id:Nat) (w:AV):Ae:=match s.H.get id with
 |some (.cells el c z N op)=>match Mp c z 7 0 with
  |some [a,b,c,d,e,f,_]=>.cells el .leaf (.Dw [a,b,c,d,e,f,w]) N op
  |_=>F4
 |_=>F4
def AgU (ks:Av):Ae:=.cells 71 .leaf (.rows 1 λi=>(Bz ks).getD i []) ks.length true
structure RA (L:List TK) (f:Nat->List PT->RS->List PT×RS) (t:List PT×RS) (s0:RS) (x:List PT×RS):Prop where
 k:∃k,De L x.2<k/\f k x.1 x.2=t
 p:Hi L 0 4 s0 x
 r:R0 L x.2
def ml (L:Ab) (f:Nat->Av->RS->Av×RS) (t:Av×RS) (s0:RS) (ks:List Nat) (q:Nat):CX:={X:=Av×RS,T:=λs _ x=>MZ s ks,H:=λs n0 x=>(s.nx,AgU x.1)::(4,Bl L x.2)::(ju s q,ur s (ju s q) (.AY s.nx x.1.length 1))::YO s [4,ju s q],nx:=λs _=>s.nx+1,I:=λs x=>RA L f t s0 x,m:=λx=>De L x.2}
def rG (L:Ab) (n:Nat) (St:Ab->PF) (h:EI 110 L n St) (s0:RS):Ctx:={P:=Tryz.prog,tb:=[],ht:=SI 110 L n St,AA:=VD h,lp:=λf r=>cond (Nat.beq f 109) (cond (Nat.beq r 2) (some (ml L (CY St L) (LY St L s0) s0 [1,2,4] 4)) none) none,cut:=λ_ _=>none}
structure Ry (L:List TK) (n:Nat) (F:List TK->PF):Prop where
 g:GF n 3 4 F
 k:KF (F L)
theorem wm {B:List (Nat×Nat)} (l:Av) (x:PT) {g:Nat->Aj} (C:g 0=[Bw x]):l.length+1=(l++[x]).length/\AH λi=>i.succ<=l.length+1->Ba B ((Bz (l++[x])).getD i []) (DQ l.length (λi=>(Bz l).getD i []) g i):=by
 refine⟨by rw[AK,List.length_singleton],⟨λi hi=>?_⟩⟩;have q:i<(l++[x]).length:=by rw[AK,List.length_singleton];omega
 have e:DQ l.length (λi=>(Bz l).getD i []) g i=(Bz (l++[x])).getD i []:=by
  refine RM (λy=>?_) λy=>?_
  ·rw[HI _ i q,HI l i y,List.getElem_append_left y]
  ·have:i=l.length:=by omega
   subst this;rw[Lc,C,HI _ _ q,List.getElem_append_right (AM _)];simp
 rw[e];exact Ny B _ i
theorem jU (l:Av):Ed 1 l.length (λi=>(Bz l).getD i [])=true:=OX λi hi=>by rw[HI l i hi];rfl
theorem iC {L:Ab} {k n:Int} {x:Ac} {tk:TK} {s:RS} {t:PT×RS} {ks:Av} (h:t=(nd k x n tk ks,s)) (q:s.err=0):Hh L (cP L s) s.nest (.pv [.int .i64 k,.bs x,.int .i64 n,.int .i64 tk.line,.int .i64 tk.Ao,.Ay,.vec 1 ks.length λi=>(Bz ks).getD i []]) t:=Yk h q rfl λi hi=>⟨Bw ks[i],HI ks i hi,OC _⟩
theorem yS {L:Ab} {s:RS} {w:Ac} (h:R0 L s) (c:As L s w=true):BE L s w=(Ar L s,Au s):=(Ut h c).1
@[reducible] def dX:TK×RS->Prop:=λ(a:TK×RS)=>(((((True/\Aa/\Af (12:Int))/\([]:Ac)=[])/\Aa/\Af (0:Int))/\Aa/\Af (TK.line a.1))/\Aa/\Af (TK.Ao a.1))/\True
def KV:=[[(123:UInt8)]]
@[reducible] def dY:TK×RS->Prop:=λ(a:TK×RS)=>FH/\Tt/\(Aa/\Aa/\Aa/\Aa/\Af (List.length KV)/\AH λ(i:Nat)=>C1 i (List.length KV)->Af (List.getD KV i [])/\True)/\UW a/\UW a/\True
def Tc (a:Av×RS) (b:Av):=Al (bif bif Nat.ble (a.1.length*1) a.1.length then Ed 1 a.1.length λ(q:Nat)=>List.getD (Bz b) q []else false then true else false)
def ZF (a:Ab) (b:Ab->PF) (c:RS):=RA a (CY b a) (LY b a (Prod.snd (B7 a c [(123:UInt8)]))) (Prod.snd (B7 a c [(123:UInt8)]))
def ZG (a:Av×RS):=Al (bif bif Nat.ble (a.1.length*1) a.1.length then true else false then decide (a.1.length+1<=9223372036854775807/\(a.1.length+1)*8<=140737488355328)else false)
def LC (a:Av) (b:Nat):=List.getD (Bz a) b []
def Pt (a:Ab) (b:RS):=Ah (!AW (List.any [[(125:UInt8)]] (As a b)))
def Pn (a:Ab) (b:RS):=(True/\Bk a b λ(q:RS)=>BK [[(125:UInt8)]])
def JF (a:Av×RS):=(a.1.length+1)
def lb:=(KU/\(Af (some 14)/\Aa)/\(Af (some 16)/\Aa)/\True)
theorem AhF:∀(L:Ab) (n:Nat) (St:Ab->PF),EI (110:FuncId) L n St->∀(s:RS) (t:PT×RS),R0 L s->Bb L (n+1) s->Ry L n St->t=LX St L s->(True/\Bk L s λ(s:RS)=>BK KV)/\∀(y:RS),y=Bj L s->Ah (!AW (List.any KV (As L y))) (LA L y t.2) (Oi y L t.2 ((Cs L y)/\∀(q:TK×RS),q=(Cu L y)->On q.2 ((∃(V:Av×RS),ZF L St s V/\Aa/\lb/\(Aa/\True)/\(Aa/\Aa/\Aa/\Aa/\(Lz q.2 L V.2)/\Aa/\RS.nest q.2+1=RS.nest V.2)/\(Aa/\Aa/\Aa/\Aa/\dX q/\V.1.length=0)/\dY q)/\∀(x:Av×RS),ZF L St s x->(Pn L x.2)/\∀(y:RS),y=Bj L x.2->Pt L y ((ED L y n)/\∀(B:PT×RS),B=C2 St L y->A5 B.2 (ZG x ((BS/\BS/\BS/\((True/\Af (AV.AY 17 x.1.length 1)/\True)/\True)/\True)/\∃(O:Av×RS),ZF L St s O/\GN L O.2 x.2/\Aa/\lb/\(Aa/\Aa/\Aa/\Aa/\(JF x)*1=O.1.length/\AH λ(i:Nat)=>C1 i ((JF x)*1)->Ba [(17,28),(16,16),(14,14),(0,0),(1,1),(2,2),(3,3),(4,4),(5,5),(6,6),(7,7),(8,8),(9,9),(10,10),(11,11),(12,12),(13,13)] (LC O.1 i) (DQ x.1.length (λ(i:Nat)=>LC x.1 i) (λ(x:Nat)=>[Bw B.1]) i))/\(QW B.2 L O.2)/\(Aa/\Aa/\Aa/\Aa/\dX q/\Af (some 28)/\x.1.length+1=O.1.length/\Aa)/\dY q)) ((BS/\True)/\BD L B.2 t.2)) ((Cs L y)/\∀(B:TK×RS),B=(Cu L y)->Ng B.2 (Tc x x.1 (Q8 L B.2 (AV.pv [AV.int .i64 (12:Int),AV.bs [],BX,Ci q.1,Ch q.1,AV.Ay,AV.vec 1 x.1.length λ(i:Nat)=>LC x.1 i]) t/\True))))))
:=by
 delta Lz Bj Bk A5 Cs BS Ci BX BD Cu Ch C1 LA Oi GN ED Tc ZF ZG QW KU KT Ng KV LC Pt Pn JF C2 lb On Q8;intro L n St AA s t K hp S ht;simp only[Cd,dX,UW,dY,Wd,C1,FH,Tt,KV];have aa:=hp.ns;have ad:=hp.lf;have ab:=K.ok.n0;unfold LX at ht;have E:Kp (LY St L (B7 L s D6).2).2 t.2:=by rw[ht];exact(Dk L _ _).tr (KJ _)
 have rest:Kp (B7 L s D6).2 t.2:=(Ln S.k _ _ _).tr E;refine D3 K rfl (Aw (λM=>?_) λM=>Aw (λW=>?_) λW=>?_)
 ·rw[EH,Dc rfl]at M;exact Rr K (by decide) ((Ad2 K M).tr rest)
 ·rw[EG,Dc rfl]at M;rw[C0]at W;exact Rr K (by decide) ((YU K M W).tr rest)
 rw[EG,Dc rfl]at M;rw[Dy]at W;have hl:=Dz M;have ra:=HN K hl;have ho:=Zk (L:=L) (s:=s) (w:=D6) M (by omega);have J:(B7 L s D6).2=EF (Au s):=by rw[ho]
 have Y:(B7 L s D6).1=Ar L s:=by rw[ho]
 have R:=Z2 ra (show s.nest<=900 by omega);have pu:Bb L n (EF (Au s)):=⟨R.ok,by show s.nest+1<=64;omega,by show(L.length:Int)-(s.at_+1)<n;omega⟩;rw[Y]at ht;refine Fc K hl (At (CJ.2 ⟨by show-9223372036854775808<=s.nest+1;omega,by show s.nest+1<=9223372036854775807;omega⟩) ⟨⟨([],EF (Au s)),⟨⟨B3 L,QD R.ok,by show CY St L (B3 L) [] (EF (Au s))=LY St L (B7 L s D6).2;rw[J];rfl⟩,by show Hi L 0 4 (B7 L s D6).2 _;rw[J];exact QM R.ok (by decide),R⟩,Fu (s:=EF (Au s)) rfl,rfl⟩,λx hx=>?_⟩);obtain⟨⟨k,hk,C⟩,Z,rx⟩:=hx;have U:Hi L 0 4 (EF (Au s)) x:=by rw[<-J];exact Z
 have b1:=U.P4 R.ok (by decide);have b2:=N7 x.1;have b3:x.2.nest=s.nest+1:=U.ns;cases k with
 |zero=>omega
 |succ k=>
 have C:CY St L (k+1) x.1 x.2=LY St L (B7 L s D6).2:=C;unfold CY at C;refine D3 rx rfl (Aw (λc=>?_) λc=>?_)
 ·have c:As L x.2 Fw=false:=by rwa[EH,Dc rfl]at c
  rw[Am ⟨rx.e,c⟩]at C;obtain⟨d0,d1,d2⟩:=RT (by decide) S.g (l:=x.1) (s:=x.2) Z (λ_=>by show Bb L n (B7 L s D6).2;rw[J];exact pu) rx.e;refine Ce (f:=St L) rx d0 ((by rw[<-C];exact Ln S.k _ _ _:Kp (St L x.2).2 (LY St L (B7 L s D6).2).2).tr E) λe=>?_;exact At (Bi (by omega)) ⟨(x.1++[(St L x.2).1],(St L x.2).2),⟨⟨k,by have:De L (St L x.2).2<De L x.2:=d2;show De L (St L x.2).2<k;omega,C⟩,d1,Fs rx (S.g L _ d0) (S.k _) e⟩,d2,wm x.1 (St L x.2).1 rfl,Fu (s:=(St L x.2).2) rfl,by rw[AK,List.length_singleton]⟩
 ·have c:As L x.2 Fw=true:=by rwa[EG,Dc rfl]at c
  rw[Ad (by rw[c];rintro⟨_,h⟩;cases h)]at C;have hX:LY St L (B7 L s D6).2=(x.1,x.2):=C.symm;rw[hX]at ht;simp only at ht;rw[yS rx c]at ht;exact Fc rx (Dz c) (At (CJ.2 ⟨by show-9223372036854775808<=x.2.nest-1;omega,by show x.2.nest-1<=9223372036854775807;omega⟩) (At (jU x.1) (iC (s:=down (Au x.2)) ht rx.e)))
theorem AhE:∀(L:Ab) (n:Nat) (St:Ab->PF) (AA:EI 110 L n St) (s:RS) (t:PT×RS),R0 L s->Bb L (n+1) s->Ry L n St->t=LX St L s->(A4 (rG L n St AA (B7 L s D6).2) 60).call 88 [.ptr 4 0] (Bx (CI++Cl [Bl L s] 4)) (4+1) (Hj L t):=Eq.mpr (by kernel_rfl) AhF
theorem Afg {L:Ab} {n:Nat} {St:Ab->PF} (h:EI 110 L n St) (q:Ry L n St):Bo Tryz.prog 88 (mF L (n+1) (LX St)):=Ib λs B y=>⟨rG L n St h (B7 L s D6).2,60,rfl,Bu,B5,λt ht=>AhE L n St h s t B y q ht⟩
structure W5 (L:List TK) (n:Nat) (x:LV):Prop where
 u:Bo Tryz.prog 141 (mF L n x.u)
 t:Bo Tryz.prog 123 (mF L n x.t)
 b:Bo Tryz.prog 88 (mF L n x.b)
theorem AeJ {g:FuncId} {L:Ab} {n m:Nat} {F:Ab->PF} (K:n<=m) (h:Bo Tryz.prog g (mF L m F)):Bo Tryz.prog g (mF L n F):=by
 intro H nx args hc y p v up nx' B;have y:cond (Ec H) (List.casesOn args none λp l=>ob (L4 H p) λq=>ob (LD l) λa=>cond (Nat.blt q.2 nx) (some (.Be (C6 L q.1.1 q.1.2 λs=>Bb L n s) (J5 [q.2] nx (oF L F (B8 L q.1.1 q.1.2))))) none) none=some hc:=y;cases E:Ec H with
 |false=>rw[E]at y;cases y
 |true=>
 rw[E,cond_true]at y;cases args with
 |nil=>cases y
 |cons a l=>
 obtain⟨q,J,y⟩:=Ag.1 (show(ob (L4 H a) λq=>ob (LD l) λa=>cond (Nat.blt q.2 nx) (some (C4.Be (C6 L q.1.1 q.1.2 λs=>Bb L n s) (J5 [q.2] nx (oF L F (B8 L q.1.1 q.1.2))))) none)=some hc from y);obtain⟨b,M,y⟩:=Ag.1 y;cases C:Nat.blt q.2 nx with
 |false=>rw[C]at y;cases y
 |true=>
 rw[C]at y;injection y with y;subst y;obtain⟨⟨s,U,S,R,O⟩,B⟩:=NU B;refine h H nx (a::l) (C4.Be (C6 L q.1.1 q.1.2 λs=>Bb L m s) (J5 [q.2] nx (oF L F (B8 L q.1.1 q.1.2)))) ?_ p v up nx' ((Am ⟨s,U,S,R,kr O K⟩).trans B);show cond (Ec H) (ob (L4 H a) λq=>ob (LD l) λa=>cond (Nat.blt q.2 nx) (some (C4.Be (C6 L q.1.1 q.1.2 λs=>Bb L m s) (J5 [q.2] nx (oF L F (B8 L q.1.1 q.1.2))))) none) none=_;rw[E,cond_true,J];show(ob (LD l) λa=>cond (Nat.blt q.2 nx) (some (C4.Be (C6 L q.1.1 q.1.2 λs=>Bb L m s) (J5 [q.2] nx (oF L F (B8 L q.1.1 q.1.2))))) none)=_;rw[M];show cond (Nat.blt q.2 nx) _ none=_;rw[C];rfl
theorem AeA {L:Ab} {n:Nat} {x:LV} (h:W5 L n x) (y:UM n x) (q:PO L x):W5 L (n+1) (QF x):=by have fi:=s7 y.t y.b;have U:GF (n+1) 1 2 (Nt x):=yv y.t fi;have un:GF (n+1) 1 2 (GW x):=zM y.u U;have pr:=Z6 (ws:=[IL]) un;have su:=Z6 (ws:=[Ip,Ir]) pr;have J:GF (n+1) 1 2 (EV x):=yn su;have va:GF (n+1) 1 2 (Io x):=zP U;have gs:GS n (λL t=>LH (Io x) (EV x) L t) (NJ (EV x) x.b) (Jw (EV x) (Io x)) (EV x):=⟨λt=>yK va J t,λL s C=>fP J y.b C,λL s C=>kp J va C,J⟩;have st:GF (n+1) 3 4 (JL x):=y5 gs;have FT:FG L n x.t:=⟨y.t,q.t⟩;have FB:FG L n x.b:=⟨y.b,q.b⟩;have FU:FG L n x.u:=⟨y.u,q.u⟩;have W:=uY q.t q.b;have ad:=Afm ⟨h.t,h.b⟩ FT FB;have O:Bo Tryz.prog 131 (mF L (n+1) (Nt x)):=AfV ⟨h.t,ad⟩ FT ⟨fi,W⟩;have S:FG L (n+1) (Nt x):=⟨U,jq q⟩;have M:Bo Tryz.prog 141 (mF L (n+1) (GW x)):=Af1 ⟨h.u,O⟩ FU S;have af:FG L (n+1) (GW x):=⟨un,VU q⟩;have aa:=AfH ⟨M⟩ af;have ah:FG L (n+1) (F6 (GW x) [IL]):=⟨pr,VQ (VU q)⟩;have Y:=AfP ⟨aa⟩ ah;have ag:FG L (n+1) (F6 (F6 (GW x) [IL]) [Ip,Ir]):=⟨su,VQ (F:=F6 (GW x) [IL]) (VQ (VU q))⟩;have B:Bo Tryz.prog 123 (mF L (n+1) (EV x)):=AfR ⟨Y⟩ ag;have E:FG L (n+1) (EV x):=⟨J,Qy q⟩;have K:Bo Tryz.prog 127 (mF L (n+1) (Io x)):=Af3 ⟨O⟩ S;have R:FG L (n+1) (Io x):=⟨va,jr q⟩;have ae:=Afi ⟨B,h.b⟩ E FB;have ab:=AfF ⟨B,K⟩ E R;have Z:Bo Tryz.prog 110 (mF L (n+1) (JL x)):=AfO ⟨B,K,ae,ab⟩ E R ⟨λs C=>fP J y.b C,uW (Qy q) q.b⟩;have V:GF n 3 4 (JL x):=λL s C=>st L s (kr C (Nat.le_succ n));exact⟨M,B,Afg ⟨AeJ (Nat.le_succ n) Z⟩ ⟨V,u9 q⟩⟩
theorem AeB (L:Ab):W5 L 0 (lv 0):=⟨Ib λs _ h=>(S6 h).elim,Ib λs _ h=>(S6 h).elim,Ib λs _ h=>(S6 h).elim⟩
theorem vF (L:Ab):∀n,W5 L n (lv n)
 |0=>AeB L
 |n+1=>AeA (vF L n) (Y6 n) (SN L n)
end Go.Proofs.YtlmmbanfhjaioaaGreatDoor
end
end
