/- Laid by program out of its parts: PbJ, PbK, PbL, PbM, PbN, PbO, PbP. -/
import Derived.Test.YtlmmbanfhjaioaaGreatDoorPb1
noncomputable section
set_option linter.unusedVariables false
set_option linter.unusedSimpArgs false
section
set_option maxRecDepth 100000
set_option maxHeartbeats 2000000
open Go Go.Ev
namespace Go.Proofs.YtlmmbanfhjaioaaGreatDoor
structure VC (L:List TK) (n:Nat) (U Ti:List TK->PF):Prop where
 u:AD Tryz.prog 141 (mF L n U)
 t:AD Tryz.prog 131 (mF L (n+1) Ti)
def yV (L:List TK) (n:Nat) (U q:List TK->PF):Cq:=(141,mF L n U)::(131,mF L (n+1) q)::NP L
theorem AfY {L:List TK} {n:Nat} {U q:List TK->PF} (h:VC L n U q):Db Tryz.prog (yV L n U q):=BN h.u (BN h.t (O0 L))
def vt (L:List TK) (n:Nat) (U q:List TK->PF) (h:VC L n U q):Ctx:=GM (yV L n U q) (AfY h)
theorem AcL {L:List TK} {n:Nat} {U:List TK->PF} {s:RS} {t:PT×RS} {k:Int} {w:List UInt8} (B:R0 L s) (M:Av L (n+1) s) (R:FG L n U) (c:Ah L s w=true) (Y:gG [w]=true) (ht:t=LH k U L s): (CU L (cP L s) s.nest λ_=>BK [w])/\∀y,y=B5 L (cP L s) s.nest->Ad (![w].any (Ah L y)) ((CU L (cP L y) y.nest λ_=>(4:Int)≠0)/\F4 L (CG L (Bj (B5 L (cP L y) y.nest) 4)) t.2) (Ad (Ak y.nest 64) ((CU L (cP L y) y.nest λ_=>(5:Int)≠0)/\F4 L (CG L (Bj (B5 L (cP L y) y.nest) 5)) t.2) ((CU L (cP L y) y.nest λs=>s.at_<L.length)/\∀q:TK×RS,q=(Aq L (B5 L (cP L y) y.nest),Ai (B5 L (cP L y) y.nest))->Ap (Bo .i64 (q.2.nest+1)) ((CU L (cP L q.2) (q.2.nest+1) λs=>Av L n s)/\ ∀z,z=U L (B5 L (cP L q.2) (q.2.nest+1))->Ad (Ak z.2.err 0) (D2 [Bv z.1]/\Ap (Bo .i64 (z.2.nest-1)) (G9 L (cP L z.2) (z.2.nest-1) (.pv [.int .i64 k,.bs [],.int .i64 0,.int .i64 q.1.line,.int .i64 q.1.Ag,.As,.vec 1 1 λ_=>[Bv z.1]]) t)) (F4 L (CG L z.2) t.2)))):=by
 have aa:=M.ns;have ad:=M.lf;have ab:=B.ok.n0;have O:=Bb c;have V:=HN B O;have W:=Lf c;unfold LH at ht;rw[W]at ht;have rest:Kp (AQ L s w).2 t.2:=by rw[ht];exact(QU R.k _).tr (J1 _)
 refine DV B Y (Aj (λS=>?_) λ_=>Aj (λC=>?_) λC=>?_)
 ·rw[CH c]at S;cases S
 ·rw[BL]at C;exact Sb B (by decide) ((cD B c C).tr rest)
 ·rw[BU]at C;have Z:=cz (L:=L) (s:=s) (w:=w) c (by omega);have E:=eZ V (show s.nest<=900 by omega);have K:Av L n (EB (Ai s)):=⟨E.ok,by show s.nest+1<=64;omega,by show(L.length:Int)-(s.at_+1)<n;omega⟩;have J:A5 U L (EB (Ai s))=U L (EB (Ai s)):=by unfold A5;rw[if_neg (λe=>e E.e)]
  rw[Z]at ht;simp only at ht;rw[J]at ht;have g:=R.g L _ K;refine E6 B O (An (Be.2 ⟨by show-9223372036854775808<=s.nest+1;omega,by show s.nest+1<=9223372036854775807;omega⟩) (Ca (s:=EB (Ai s)) (f:=U L) E K (by rw[ht];exact J1 _) λe=>?_));have g5:(U L (EB (Ai s))).2.nest=s.nest+1:=g.ns;exact⟨FQ _,An (Be.2 (by omega)) (NH (s:=down (U L (EB (Ai s))).2) ht e rfl).2⟩
theorem Agk {L:List TK} {s:RS} {v w:List UInt8} (h:Ah L s v=true) (q:v≠w):Ah L s w=false:=Bool.eq_false_iff.2 λe=>q ((Lf h).symm.trans (Lf e))
theorem Ana:∀(L:List TK) (n:Nat) (U E:List TK->PF),VC L n U E->∀(s:RS) (t:PT×RS),R0 L s->Av L (n+1) s->FG L n U->FG L (n+1) E->t=Ij U E L s->(True/\Bh L s λ(s:RS)=>BK [Jz])/\∀(y:RS),y=Bg L s->Ad (Ax (List.any [Jz] (Ah L y))) ((True/\Bh L y λ(s:RS)=>BK [Jz])/\∀(B:RS),B=Bg L y->Ad (!Ax (List.any [Jz] (Ah L B))) (Lu L B t.2) (N5 B L t.2 ((Co L B)/\∀(y:TK×RS),y=(Cp L B)->KK y.2 ((RD L y.2 n)/\∀(q:PT×RS),q=U L (B5 L (cP L y.2) (JH y.2))->AO q.2 (Dx q.1/\((H9/\H9/\((True/\DG y.1/\Ab (AV.str 3 7500385)/\True)/\True)/\True)/\True)/\HH q.2 (RK L q.2 (AV.pv [AV.int .i64 (34:Int),AV.bs [],BX,B3 y.1,B4 y.1,AV.As,AV.vec 1 1 λ(x:Nat)=>[Cs q.1]]) t/\True)) (((H9/\True)/\True)/\BD L q.2 t.2))))) ((True/\Bh L y λ(s:RS)=>BK [Ob])/\∀(B:RS),B=Bg L y->Ad (Ax (List.any [Ob] (Ah L B))) ((True/\Bh L B λ(s:RS)=>BK [Ob])/\∀(y:RS),y=Bg L B->Ad (!Ax (List.any [Ob] (Ah L y))) (Lu L y t.2) (N5 y L t.2 ((Co L y)/\∀(q:TK×RS),q=(Cp L y)->KK q.2 ((RD L q.2 n)/\∀(y:PT×RS),y=U L (B5 L (cP L q.2) (JH q.2))->AO y.2 (Dx y.1/\((H9/\H9/\((True/\DG q.1/\Ab (AV.str 3 7234924)/\True)/\True)/\True)/\True)/\HH y.2 (RK L y.2 (AV.pv [AV.int .i64 (35:Int),AV.bs [],BX,B3 q.1,B4 q.1,AV.As,AV.vec 1 1 λ(x:Nat)=>[Cs y.1]]) t/\True)) (((H9/\True)/\True)/\BD L y.2 t.2))))) ((Hj L B n)/\∀(y:PT×RS),y=CQ E L B->RH y.2 L y.1 t t.2))
:=by
 delta Cs Bg Bh DG AO Co Ce B3 B4 BD Cp BX Lu H9 N5 Jz Hj HH Ob Dx JH KK RD CQ RH RK;intro L n U E Am s t J K M hT ht;simp only[A9];refine DV J rfl (Aj (λc=>?_) λc=>DV J rfl (Aj (λC=>?_) λC=>?_))
 ·have c:Ah L s Vl=true:=by rwa[CH rfl]at c
  refine AcL (k:=34) J K M c rfl ?_;rw[ht];unfold Ij;rw[if_neg (nb (Agk c (by decide))),if_pos c]
 ·have C:Ah L s R7=true:=by rwa[CH rfl]at C
  refine AcL (k:=35) J K M C rfl ?_;rw[ht];unfold Ij;rw[if_pos C]
 ·have c:Ah L s Vl=false:=by rwa[CH rfl]at c
  have C:Ah L s R7=false:=by rwa[CH rfl]at C
  have O:t=E L s:=by rw[ht];unfold Ij;rw[if_neg (nb C),if_neg (nb c)]
  exact Ca (f:=E L) J K (by rw[O];exact Dd _) λe=>K9 O e
theorem Am9:∀(L:List TK) (n:Nat) (U q:List TK->PF) (Am:VC L n U q) (s:RS) (t:PT×RS),R0 L s->Av L (n+1) s->FG L n U->FG L (n+1) q->t=Ij U q L s->(AG (vt L n U q Am) 60).call 141 [.ptr 4 0] (AU (Cm++A0 [Bl L s] 4)) (4+1) (Hb L t):=Eq.mpr (by kernel_rfl) Ana
theorem Ai3 {L:List TK} {n:Nat} {U q:List TK->PF} (h:VC L n U q) (y:FG L n U) (hT:FG L (n+1) q):AD Tryz.prog 141 (mF L (n+1) (Ij U q)):=H7 λs C B=>⟨vt L n U q h,60,rfl,AW,Bc,λt ht=>Am9 L n U q h s t C B y hT ht⟩
structure VD (L:List TK) (n:Nat) (T B:List TK->PF):Prop where
 t:AD Tryz.prog 123 (mF L (n+1) T)
 b:AD Tryz.prog 88 (mF L n B)
def yW (L:List TK) (n:Nat) (T B:List TK->PF):Cq:=(123,mF L (n+1) T)::(88,mF L n B)::NP L
theorem AfZ {L:List TK} {n:Nat} {T B:List TK->PF} (h:VD L n T B):Db Tryz.prog (yW L n T B):=BN h.t (BN h.b (O0 L))
def vu (L:List TK) (n:Nat) (T B:List TK->PF) (h:VD L n T B):Ctx:=GM (yW L n T B) (AfZ h)
theorem AoX {k n:Int} {x:List UInt8} {tk:TK}:JO (nd k x n tk []) (.pv [.int .i64 k,.bs x,.int .i64 n,.int .i64 tk.line,.int .i64 tk.Ag,.As,.As]):=Vj yy
theorem ZR {L:List TK} {k n:Int} {x:List UInt8} {tk:TK} {s:RS} {t:PT×RS} {ks:List PT} {m:Nat} {g:Nat->List AV} (h:t=(nd k x n tk ks,s)) (C:s.err=0) (hm:m=ks.length) (B:∀i,(hi:i<ks.length)->∃v,g i=[v]/\JO ks[i] v): G9 L (cP L s) s.nest (.pv [.int .i64 k,.bs x,.int .i64 n,.int .i64 tk.line,.int .i64 tk.Ag,.As,.vec 1 m g]) t:=by
 subst h;refine⟨C,rfl,rfl,Vj λy=>⟨rfl,hm,⟨λi hi=>?_⟩⟩⟩;have q:i<ks.length:=by omega
 obtain⟨v,J,E⟩:=B i q;show AH y ((BA ks).getD i []) (g i);rw[HF ks i q,J];exact⟨E.h y,trivial⟩
theorem yz {a b c:PT} {va y q:AV} {g:Nat->List AV} (E:g 0=[va]) (C:g 1=[y]) (B:g 2=[q]) (L:JO a va) (K:JO b y) (J:JO c q):∀i,(hi:i<[a,b,c].length)->∃v,g i=[v]/\JO [a,b,c][i] v:=λi hi=>by
 rcases(show i=0\/i=1\/i=2 by simp at hi;omega)with rfl|rfl|rfl
 ·exact⟨va,E,L⟩
 ·exact⟨y,C,K⟩
 ·exact⟨q,B,J⟩
theorem Lm {L:List TK} {n:Nat} {s:RS} (h:Av L n s):Av L (n+1) s:=⟨h.ok,h.ns,by have:=h.lf;omega⟩
theorem M4 {L:List TK} {n:Nat} {s:RS} (h:Av L (n+1) s) (q:s.at_<L.length):Av L n (Ai s):=⟨FF h.ok q,h.ns,by have:=h.lf;show(L.length:Int)-(s.at_+1)<n;omega⟩
theorem Pg {L:List TK} {n:Nat} {E C:Int} {s:RS} {r:PT×RS} (h:Av L n s) (q:Cf L E C s r):Av L n r.2:=⟨q.ok,by have:=q.ns;have:=h.ns;omega,by have:=q.am;have:=h.lf;omega⟩
theorem Ll {L:List TK} {n:Nat} {s r:RS} (h:Av L n s) (q:Qk L s r):Av L n r:=⟨q.ok,by have:=q.ns;have:=h.ns;omega,by have:=q.am;have:=h.lf;omega⟩
theorem zA {L:List TK} {s:RS} (h:Az L s) (q:(Aq L s).kind≠0):s.at_<L.length:=Classical.byContradiction λy=>q (by rw[SJ (by omega)];rfl)
def E4 (a:List TK) (b:RS) (c:RS):=((A8/\True)/\BD a b c)
theorem AkO:∀(L:List TK) (n:Nat) (T B:List TK->PF),VD L n T B->∀(s:RS) (t:PT×RS),R0 L s->Hx L n s->FG L (n+1) T->FG L n B->t=HV T B L s->(Co L s)/\∀(y:TK×RS),y=(Cp L s)->(Hj L y.2 n)/\∀(C:PT×RS),C=CQ T L y.2->AO C.2 (Dx C.1/\(PW y.1)/\(Ey L C.2 n)/\∀(q:PT×RS),q=CQ B L C.2->AO q.2 ((A8/\A8/\A8/\((Ab (AV.sl 11 0 1 1)/\True)/\True)/\True)/\Ul y.1 (Ce L q.2 (AV.pv [AV.int .i64 (24:Int),AV.bs [],BX,B3 y.1,B4 y.1,AV.As,AV.vec 1 2 λ(i:Nat)=>GW i C.1 q.1]) t/\True) ((True/\Bh L q.2 λ(s:RS)=>BK [Rl])/\∀(J:RS),J=Bg L q.2->Ad (Ax (List.any [Rl] (Ah L J))) ((Co L J)/\∀(M:TK×RS),M=(Cp L J)->(Ey L M.2 n)/\∀(E:PT×RS),E=CQ B L M.2->AO E.2 ((A8/\A8/\A8/\((Ab (AV.Bw 23 0 2 1)/\True)/\True)/\True)/\Ce L E.2 (AV.pv [AV.int .i64 (23:Int),AV.bs [],BX,B3 y.1,B4 y.1,AV.As,AV.vec 1 3 λ(i:Nat)=>List.take 1 (List.drop (i*1) [Cs C.1,Cs q.1,Cs E.1])]) t/\True) (E4 L E.2 t.2)) ((BF/\BF/\BF/\((True/\Ab (AV.Bw 23 0 2 1)/\True)/\True)/\True)/\Ce L J (AV.pv [AV.int .i64 (23:Int),AV.bs [],BX,B3 y.1,B4 y.1,AV.As,AV.vec 1 3 λ(i:Nat)=>List.take 1 (List.drop (i*1) [Cs C.1,Cs q.1,AV.pv [AV.int .i64 (12:Int),AV.bs [],BX,B3 y.1,B4 y.1,AV.As,AV.As]])]) t/\True))) (E4 L q.2 t.2)) (E4 L C.2 t.2)
:=by
 delta Cs Bg Bh DG AO A8 Co BF Ce B3 B4 BD Cp BX GW Hj Ey E4 Dx Rl GY Ul CQ PW;intro L n T B Am s t V hp hT R ht;simp only[A9];have W:=zA V.ok (by rw[hp.k];decide);have Z:=HN V W;have pa:=M4 hp.p W;have gT:=hT.g L _ (Lm pa);have U:=Pg pa gT;have gB:=R.g L _ U;have ht:t=NQ T B L (Aq L s) (Ai s):=ht;have kB:Kp (B L (T L (Ai s)).2).2 t.2:=by rw[ht];exact Eo (P:=λr:PT×RS=>Kp (B L (T L (Ai s)).2).2 r.2) (λ_=>Dd _) λ_=>Eo (P:=λr:PT×RS=>Kp (B L (T L (Ai s)).2).2 r.2) (λ_=>(Ga _).tr (R.k _)) λ_=>Dd _
 unfold NQ at ht;refine E6 V W (Ca (f:=T L) Z (Lm pa) ((R.k _).tr kB) λe1=>⟨FQ _,?_⟩);have r1:=Fj Z gT (hT.k _) e1;refine Ca (f:=B L) r1 U kB λY=>Aj (λc=>?_) λc=>?_
 ·have c:(Aq L s).text=F0:=of_decide_eq_true c;rw[if_pos c]at ht;exact(OV ht Y rfl rfl).2
 ·have c:¬(Aq L s).text=F0:=of_decide_eq_false c;rw[if_neg c]at ht;have S:=Fj r1 gB (R.k _) Y;refine DV S rfl (Aj (λK=>?_) λK=>?_)
  ·have K:Ah L (B L (T L (Ai s)).2).2 X1=true:=by rwa[CH rfl]at K
   rw[if_pos K]at ht;have O:=Bb K;have pc:=M4 (Lm (Pg U gB)) O;exact E6 S O (Ca (f:=B L) (HN S O) pc (by rw[ht];exact Dd _) λe3=>ZR ht e3 rfl (yz rfl rfl rfl (OA _) (OA _) (OA _)))
  ·have K:Ah L (B L (T L (Ai s)).2).2 X1=false:=by rwa[CH rfl]at K
   rw[if_neg (nb K)]at ht;exact ZR ht Y rfl (yz rfl rfl rfl (OA _) (OA _) AoX)
theorem AkN:∀(L:List TK) (n:Nat) (T B:List TK->PF) (Am:VD L n T B) (s:RS) (t:PT×RS),R0 L s->Hx L n s->FG L (n+1) T->FG L n B->t=HV T B L s->(AG (vu L n T B Am) 60).call 122 [.ptr 4 0] (AU (Cm++A0 [Bl L s] 4)) (4+1) (Hb L t):=Eq.mpr (by kernel_rfl) AkO
def mB (L:List TK) (n:Nat) (F:List TK->PF):Da:=mP L Unit Kb (λs _=>Hx L n s) (λs _=>oF L F s)
theorem AhX {L:List TK} {n:Nat} {T B:List TK->PF} (h:VD L n T B) (hT:FG L (n+1) T) (q:FG L n B):AD Tryz.prog 122 (mB L n (HV T B)):=H7 λs C y=>⟨vu L n T B h,60,rfl,AW,Bc,λt ht=>AkN L n T B h s t C y hT q ht⟩
structure VE (L:List TK) (n:Nat) (T V:List TK->PF):Prop where
 t:AD Tryz.prog 123 (mF L n T)
 v:AD Tryz.prog 127 (mF L n V)
def yX (L:List TK) (n:Nat) (T V:List TK->PF):Cq:=(123,mF L n T)::(127,mF L n V)::NP L
theorem Af1 {L:List TK} {n:Nat} {T V:List TK->PF} (h:VE L n T V):Db Tryz.prog (yX L n T V):=BN h.t (BN h.v (O0 L))
def vw (L:List TK) (n:Nat) (T V:List TK->PF) (h:VE L n T V):Ctx:=GM (yX L n T V) (Af1 h)
def M5 (T V:List TK->PF) (L:List TK):PF:=λs=>N0 T V L (Aq L s) (AB L (Ai s) 1).1 (AB L (Ai s) 1).2
theorem sq {L:List TK} {n:Nat} {V:List TK->PF} {s:RS} {t:PT×RS} {k m:Int} {x:List UInt8} {tk:TK} {y:PT} (q:R0 L s) (C:Av L n s) (E:FG L n V) (ht:t=Ii V L k x m tk y s): (CU L (cP L s) s.nest λ_=>BK [[116,111]])/\∀u,u=B5 L (cP L s) s.nest->Ad ([[116,111]].any (Ah L u)) ((CU L (cP L u) u.nest λs=>s.at_<L.length)/\∀v:TK×RS,v=(Aq L (B5 L (cP L u) u.nest),Ai (B5 L (cP L u) u.nest))->(CU L (cP L v.2) v.2.nest λs=>Av L n s)/\ ∀z,z=V L (B5 L (cP L v.2) v.2.nest)->Ad (Ak z.2.err 0) (G9 L (cP L z.2) z.2.nest (.pv [.int .i64 k,.bs x,.int .i64 m,.int .i64 tk.line,.int .i64 tk.Ag,.As,.vec 1 2 λi=>List.take 1 (List.drop i [Bv y,Bv z.1])]) t) (F4 L (CG L z.2) t.2)) (G9 L (cP L u) u.nest (.pv [.int .i64 k,.bs x,.int .i64 m,.int .i64 tk.line,.int .i64 tk.Ag,.As,.vec 1 1 λ_=>[Bv y]]) t):=by
 unfold Ii at ht;refine DV q rfl (Aj (λc=>?_) λc=>?_)
 ·have c:Ah L s R9=true:=by rwa[CH rfl]at c
  rw[if_pos c]at ht;have B:=Bb c;exact E6 q B (Ca (f:=V L) (HN q B) (Lm (M4 (Lm C) B) |> λh=>⟨h.ok,h.ns,by have:=C.lf;show(L.length:Int)-(s.at_+1)<n;omega⟩) (by rw[ht];exact Dd _) λe=>(OV ht e rfl rfl).2)
 ·have c:Ah L s R9=false:=by rwa[CH rfl]at c
  rw[if_neg (nb c)]at ht;exact(NH ht q.e rfl).2
theorem WO {V:List TK->PF} {L:List TK} (q:KF (V L)) {k:Int} {x:List UInt8} {m:Int} {tk:TK} {y:PT} {s:RS}:Kp s (Ii V L k x m tk y s).2:=WN q k x m tk y s
def dm:=(A8/\A8/\A8/\((Ab (AV.sl 12 0 1 1)/\True)/\True)/\True)
def Rq:=AV.int .i64 (19:Int)
def UE (a:List TK) (b:RS):=Ad (Ax (List.any [J5] (Ah a b)))
def UR (a:List TK) (b:RS):=(True/\Bh a b λ(q:RS)=>BK [J5])
theorem Al1:∀(L:List TK) (n:Nat) (T V:List TK->PF),VE L (n+1) T V->∀(s:RS) (t:PT×RS),R0 L s->Hx L n s->FG L (n+1) T->FG L (n+1) V->t=M5 T V L s->(Co L s)/\∀(y:TK×RS),y=(Cp L s)->(Ib L y.2)/\∀(K:TK×RS),K=IE L y.2->AO K.2 ((Hj L K.2 n)/\∀(E:PT×RS),E=CQ T L K.2->AO E.2 (Dx E.1/\Dx E.1/\(A8/\A8/\A8/\(GY y.1)/\True)/\(True/\Bh L E.2 λ(s:RS)=>BK [Rb])/\∀(R:RS),R=Bg L E.2->Ad (Ax (List.any [Rb] (Ah L R))) ((Co L R)/\∀(M:TK×RS),M=(Cp L R)->(Bh L M.2 λ(s:RS)=>(3:Int)≠(0:Int))/\∀(q:TK×RS),q=AB L (Bg L M.2) (3:Int)->AO q.2 ((UR L q.2)/\∀(B:RS),B=Bg L q.2->UE L B ((Co L B)/\∀(C:TK×RS),C=(Cp L B)->(Hj L C.2 n)/\∀(J:PT×RS),J=CQ V L C.2->AO J.2 (dm/\Ce L J.2 (AV.pv [Rq,C7 K.1,AV.int .i64 (TK.num q.1),B3 y.1,B4 y.1,AV.As,AV.vec 1 2 λ(i:Nat)=>GW i E.1 J.1]) t/\True) (E4 L J.2 t.2)) (Ce L B (AV.pv [Rq,C7 K.1,AV.int .i64 (TK.num q.1),B3 y.1,B4 y.1,AV.As,AV.vec 1 1 λ(x:Nat)=>[Cs E.1]]) t/\True)) (BD L q.2 t.2)) ((True/\Bh L R λ(s:RS)=>BK [Ra])/\∀(M:RS),M=Bg L R->Ad (Ax (List.any [Ra] (Ah L M))) ((Co L M)/\∀(q:TK×RS),q=(Cp L M)->(UR L q.2)/\∀(B:RS),B=Bg L q.2->UE L B ((Co L B)/\∀(C:TK×RS),C=(Cp L B)->(Hj L C.2 n)/\∀(J:PT×RS),J=CQ V L C.2->AO J.2 (dm/\Ce L J.2 (AV.pv [Rq,C7 K.1,AV.int .i64 (Int.negSucc 0),B3 y.1,B4 y.1,AV.As,AV.vec 1 2 λ(i:Nat)=>GW i E.1 J.1]) t/\True) (E4 L J.2 t.2)) (Ce L B (AV.pv [Rq,C7 K.1,AV.int .i64 (Int.negSucc 0),B3 y.1,B4 y.1,AV.As,AV.vec 1 1 λ(x:Nat)=>[Cs E.1]]) t/\True)) ((UR L M)/\∀(q:RS),q=Bg L M->UE L q ((Co L q)/\∀(B:TK×RS),B=(Cp L q)->(Hj L B.2 n)/\∀(C:PT×RS),C=CQ V L B.2->AO C.2 (dm/\Ce L C.2 (AV.pv [Rq,C7 K.1,BX,B3 y.1,B4 y.1,AV.As,AV.vec 1 2 λ(i:Nat)=>GW i E.1 C.1]) t/\True) (E4 L C.2 t.2)) (Ce L q (AV.pv [Rq,C7 K.1,BX,B3 y.1,B4 y.1,AV.As,AV.vec 1 1 λ(x:Nat)=>[Cs E.1]]) t/\True)))) (E4 L E.2 t.2)) (BD L K.2 t.2)
:=by
 delta Cs Bg Bh DG AO A8 Co Ce B3 B4 BD Cp BX GW J5 C7 Hj E4 Ra Rb Dx Ib GY IE dm Rq UE CQ UR;intro L n T V Am s t hs hp hT S ht;simp only[A9];have hl:=zA hs.ok (by rw[hp.k];decide);have ra:=HN hs hl;have pa:=M4 hp.p hl;have ht:t=N0 T V L (Aq L s) (AB L (Ai s) 1).1 (AB L (Ai s) 1).2:=ht;have kS:=Gu (L:=L) (k:=1) ra.ok (by decide);refine E6 hs hl (Ca (f:=λs=>AB L s 1) ra trivial (by rw[ht];exact zG hT.k S.k _ _ _) λe1=>?_);have r1:=Jf ra kS (H6 L _ 1) e1;have p1:=Lm (Ll pa kS);have gT:=hT.g L _ p1;have p2:=Pg p1 gT;unfold N0 at ht;have rest:Kp (T L (AB L (Ai s) 1).2).2 t.2:=by rw[ht];exact Eo (P:=λr:PT×RS=>Kp (T L (AB L (Ai s) 1).2).2 r.2) (λ_=>(Ga _).tr ((H6 L _ 3).tr (WO S.k))) λ_=>Eo (P:=λr:PT×RS=>Kp (T L (AB L (Ai s) 1).2).2 r.2) (λ_=>(Ga _).tr (WO S.k)) λ_=>WO S.k
 refine Ca (f:=T L) r1 p1 rest λe2=>⟨FQ _,FQ _,?_⟩;have W:=Fj r1 gT (hT.k _) e2;refine DV W rfl (Aj (λc=>?_) λc=>DV W rfl (Aj (λU=>?_) λU=>?_))
 ·have c:Ah L (T L (AB L (Ai s) 1).2).2 R6=true:=by rwa[CH rfl]at c
  rw[if_pos c]at ht;have O:=Bb c;have Y:=HN W O;have Z:=Gu (L:=L) (k:=3) Y.ok (by decide);refine E6 W O (Ca (f:=λs=>AB L s 3) Y (by decide) (by rw[ht];exact WO S.k) λe3=>?_);exact sq (Jf Y Z (H6 L _ 3) e3) (Lm (Ll (M4 p2 O) Z)) S ht
 ·have c:Ah L (T L (AB L (Ai s) 1).2).2 R6=false:=by rwa[CH rfl]at c
  have U:Ah L (T L (AB L (Ai s) 1).2).2 X2=true:=by rwa[CH rfl]at U
  rw[if_neg (nb c),if_pos U]at ht;have O:=Bb U;exact E6 W O (sq (HN W O) (Lm (M4 p2 O)) S ht)
 ·have c:Ah L (T L (AB L (Ai s) 1).2).2 R6=false:=by rwa[CH rfl]at c
  have U:Ah L (T L (AB L (Ai s) 1).2).2 X2=false:=by rwa[CH rfl]at U
  rw[if_neg (nb c),if_neg (nb U)]at ht;exact sq W p2 S ht
theorem Al0:∀(L:List TK) (n:Nat) (T V:List TK->PF) (Am:VE L (n+1) T V) (s:RS) (t:PT×RS),R0 L s->Hx L n s->FG L (n+1) T->FG L (n+1) V->t=M5 T V L s->(AG (vw L (n+1) T V Am) 60).call 125 [.ptr 4 0] (AU (Cm++A0 [Bl L s] 4)) (4+1) (Hb L t):=Eq.mpr (by kernel_rfl) Al1
theorem Ait {L:List TK} {n:Nat} {T V:List TK->PF} (h:VE L (n+1) T V) (hT:FG L (n+1) T) (q:FG L (n+1) V):AD Tryz.prog 125 (mB L n (M5 T V)):=H7 λs B y=>⟨vw L (n+1) T V h,60,rfl,AW,Bc,λt ht=>Al0 L n T V h s t B y hT q ht⟩
def U8 (s:List UInt8):Int:=if s=Ht then 15 else if s=Hu then 16 else if s=Hv then 17 else if s=Hw then 18 else 0
def yC:Ea:={X:=List UInt8,gl:=[],G2:=λ_=>true,ng:=0,k:=0,args:=λs=>[.bs s],Dv:=λ_=>[],pre:=λ_=>True,out:=λs=>.ret (.int .i64 (U8 s)) [] 0,fz:=0,find:=λ_ args=>match args with
  | [x]=>ob (JK x) λs=>some (s,[])
  |_=>none}
structure VG (L:List TK) (n:Nat) (Br T V:List TK->PF):Prop where
 t:AD Tryz.prog 123 (mF L (n+1) T)
 v:AD Tryz.prog 127 (mF L (n+1) V)
 b:AD Tryz.prog 122 (mB L n Br)
 p:AD Tryz.prog 125 (mB L n (M5 T V))
theorem Amm:∀(s:List UInt8),Aa/\((Aa/\(bif decide (s=[(99:UInt8),97,108,108])then(15:Int)else bif decide (s=[(99:UInt8),97,110,99,101,108])then(16:Int)else bif decide (s=[(106:UInt8),111,105,110])then(17:Int)else bif decide (s=[(108:UInt8),111,103])then(18:Int)else(0:Int))=U8 s)/\True)/\True
:=by intro s;simp only[A9];unfold U8;simp only[Bool.cond_decide];rfl
theorem Aml:∀(s:List UInt8),(AG K6 60).call 124 [.bs s] .leaf 0 (Cz Tryz.prog 0 0 0 (.ret (.int .i64 (U8 s)) [] 0)):=Eq.mpr (by kernel_rfl) Amm
theorem AiE:AD Tryz.prog 124 yC.AE:=JZ _ (λp q=>by cases q) (λH _ p q=>by cases q) (λx=>rfl) (λx o y=>by cases y) (λx q=>⟨⟨rfl,rfl⟩,rfl,λo y=>by cases y⟩) λx q=>⟨(AG K6 60).call,Is AW Bc 60,Aml x⟩
def yZ (L:List TK) (n:Nat) (Br T V:List TK->PF):Cq:=(124,yC.AE)::(123,mF L (n+1) T)::(127,mF L (n+1) V)::(122,mB L n Br)::(125,mB L n (M5 T V))::NP L
theorem Af2 {L:List TK} {n:Nat} {Br T V:List TK->PF} (h:VG L n Br T V):Db Tryz.prog (yZ L n Br T V):=BN AiE (BN h.t (BN h.v (BN h.b (BN h.p (O0 L)))))
def wA (L:List TK) (n:Nat) (Br T V:List TK->PF) (h:VG L n Br T V):Ctx:=GM (yZ L n Br T V) (Af2 h)
structure gL (L:List TK) (n:Nat) (Br:List TK->PF):Prop where
 b:∀s,Hx L n s->Cf L 1 2 s (Br L s)
 k:KF (Br L)
theorem Ju {L:List TK} {s:RS} {w:List UInt8} (h:Ah L s w=true) (q:I2 w=2):(Aq L s).kind=2/\(Aq L s).text=w:=by obtain⟨_,y⟩:=WG h;refine⟨?_,Lf h⟩;unfold Ah at h;rw[Bool.and_eq_true,decide_eq_true_eq,decide_eq_true_eq]at h;omega
theorem Le {L:List TK} {s:RS} {w:List UInt8} (h:Ah L s w=false) (q:I2 w=2) (y:(Aq L s).kind=2):(Aq L s).text≠w:=λe=>by unfold Ah at h;rw[q,y,e]at h;simp at h
section
variable {Se:List TK->TK->PF} {Br Po T:List TK->PF} {L:List TK} {s:RS}
theorem An3 (c:Ah L s Io=true):CK Se Br Po T L s=Br L s:=by obtain⟨y,q⟩:=Ju c rfl;unfold CK;rw[if_neg (λe=>e y)];simp only[q];rw[if_pos trivial]
theorem Aob (c:Ah L s F0=true):CK Se Br Po T L s=Br L s:=by obtain⟨y,q⟩:=Ju c rfl;unfold CK;rw[if_neg (λe=>e y)];simp only[q];rw[if_neg (show¬F0=Io by decide),if_pos trivial]
theorem Aoa (c:Ah L s FY=true):CK Se Br Po T L s=C4 L (R3 T L (Aq L s) (AB L (Ai s) 1)):=by obtain⟨y,q⟩:=Ju c rfl;unfold CK;rw[if_neg (λe=>e y)];simp only[q];rw[if_neg (show¬FY=Io by decide),if_neg (show¬FY=F0 by decide),if_pos trivial]
theorem AnY (c:Ah L s Ht=true):CK Se Br Po T L s=C4 L (Iy T L 15 (Aq L s) (Ai s)):=by obtain⟨y,q⟩:=Ju c rfl;unfold CK;rw[if_neg (λe=>e y)];simp only[q];rw[if_neg (show¬Ht=Io by decide),if_neg (show¬Ht=F0 by decide),if_neg (show¬Ht=FY by decide),if_pos trivial]
theorem AnZ (c:Ah L s Hu=true):CK Se Br Po T L s=C4 L (Iy T L 16 (Aq L s) (Ai s)):=by obtain⟨y,q⟩:=Ju c rfl;unfold CK;rw[if_neg (λe=>e y)];simp only[q];rw[if_neg (show¬Hu=Io by decide),if_neg (show¬Hu=F0 by decide),if_neg (show¬Hu=FY by decide),if_neg (show¬Hu=Ht by decide),if_pos trivial]
theorem An4 (c:Ah L s Hv=true):CK Se Br Po T L s=C4 L (Iy T L 17 (Aq L s) (Ai s)):=by obtain⟨y,q⟩:=Ju c rfl;unfold CK;rw[if_neg (λe=>e y)];simp only[q];rw[if_neg (show¬Hv=Io by decide),if_neg (show¬Hv=F0 by decide),if_neg (show¬Hv=FY by decide),if_neg (show¬Hv=Ht by decide),if_neg (show¬Hv=Hu by decide),if_pos trivial]
theorem An5 (c:Ah L s Hw=true):CK Se Br Po T L s=C4 L (Iy T L 18 (Aq L s) (Ai s)):=by obtain⟨y,q⟩:=Ju c rfl;unfold CK;rw[if_neg (λe=>e y)];simp only[q];rw[if_neg (show¬Hw=Io by decide),if_neg (show¬Hw=F0 by decide),if_neg (show¬Hw=FY by decide),if_neg (show¬Hw=Ht by decide),if_neg (show¬Hw=Hu by decide),if_neg (show¬Hw=Hv by decide),if_pos trivial]
theorem An6 (c:Ah L s G8=true):CK Se Br Po T L s=C4 L (Po L s):=by obtain⟨y,q⟩:=Ju c rfl;unfold CK;rw[if_neg (λe=>e y)];simp only[q];rw[if_neg (show¬G8=Io by decide),if_neg (show¬G8=F0 by decide),if_neg (show¬G8=FY by decide),if_neg (show¬G8=Ht by decide),if_neg (show¬G8=Hu by decide),if_neg (show¬G8=Hv by decide),if_neg (show¬G8=Hw by decide),if_pos trivial]
theorem An9 (c:Ah L s Iq=true):CK Se Br Po T L s=C4 L (Po L s):=by obtain⟨y,q⟩:=Ju c rfl;unfold CK;rw[if_neg (λe=>e y)];simp only[q];rw[if_neg (show¬Iq=Io by decide),if_neg (show¬Iq=F0 by decide),if_neg (show¬Iq=FY by decide),if_neg (show¬Iq=Ht by decide),if_neg (show¬Iq=Hu by decide),if_neg (show¬Iq=Hv by decide),if_neg (show¬Iq=Hw by decide),if_neg (show¬Iq=G8 by decide),if_pos trivial]
theorem An2 (c:Ah L s Im=true):CK Se Br Po T L s=C4 L (KB L 21 (Aq L s) (Ai s)):=by obtain⟨y,q⟩:=Ju c rfl;unfold CK;rw[if_neg (λe=>e y)];simp only[q];rw[if_neg (show¬Im=Io by decide),if_neg (show¬Im=F0 by decide),if_neg (show¬Im=FY by decide),if_neg (show¬Im=Ht by decide),if_neg (show¬Im=Hu by decide),if_neg (show¬Im=Hv by decide),if_neg (show¬Im=Hw by decide),if_neg (show¬Im=G8 by decide),if_neg (show¬Im=Iq by decide),if_pos trivial]
theorem An1 (c:Ah L s Il=true):CK Se Br Po T L s=C4 L (KB L 22 (Aq L s) (Ai s)):=by obtain⟨y,q⟩:=Ju c rfl;unfold CK;rw[if_neg (λe=>e y)];simp only[q];rw[if_neg (show¬Il=Io by decide),if_neg (show¬Il=F0 by decide),if_neg (show¬Il=FY by decide),if_neg (show¬Il=Ht by decide),if_neg (show¬Il=Hu by decide),if_neg (show¬Il=Hv by decide),if_neg (show¬Il=Hw by decide),if_neg (show¬Il=G8 by decide),if_neg (show¬Il=Iq by decide),if_neg (show¬Il=Im by decide),if_pos trivial]
theorem An7 (c:Ah L s Ip=true):CK Se Br Po T L s=C4 L (nd 25 [] 0 (Aq L s) [],Ai s):=by obtain⟨y,q⟩:=Ju c rfl;unfold CK;rw[if_neg (λe=>e y)];simp only[q];rw[if_neg (show¬Ip=Io by decide),if_neg (show¬Ip=F0 by decide),if_neg (show¬Ip=FY by decide),if_neg (show¬Ip=Ht by decide),if_neg (show¬Ip=Hu by decide),if_neg (show¬Ip=Hv by decide),if_neg (show¬Ip=Hw by decide),if_neg (show¬Ip=G8 by decide),if_neg (show¬Ip=Iq by decide),if_neg (show¬Ip=Im by decide),if_neg (show¬Ip=Il by decide),if_pos trivial]
theorem An0 (V:Ah L s Io=false) (U:Ah L s F0=false) (S:Ah L s FY=false) (R:Ah L s Ht=false) (O:Ah L s Hu=false) (M:Ah L s Hv=false) (K:Ah L s Hw=false) (J:Ah L s G8=false) (E:Ah L s Iq=false) (C:Ah L s Im=false) (B:Ah L s Il=false) (y:Ah L s Ip=false):CK Se Br Po T L s=Se L (Aq L s) s:=by
 unfold CK;by_cases q:(Aq L s).kind=2
 ·rw[if_neg (λe=>e q),if_neg (Le V rfl q),if_neg (Le U rfl q),if_neg (Le S rfl q),if_neg (Le R rfl q),if_neg (Le O rfl q),if_neg (Le M rfl q),if_neg (Le K rfl q),if_neg (Le J rfl q),if_neg (Le E rfl q),if_neg (Le C rfl q),if_neg (Le B rfl q),if_neg (Le y rfl q)]
 ·rw[if_pos q]
end
theorem P1 {L:List TK} {x:PT} {r:RS} {t:PT×RS} {v:AV} (q:R0 L r) (ht:t=C4 L (x,r)) (hv:∀s',s'.err=0->t=(x,s')->G9 L (cP L s') s'.nest v t): (CU L (cP L r) r.nest λ_=>BK [[59]])/\∀y,y=Al L (B5 L (cP L r) r.nest) [[59]]->Ad (Ak y.2.err 0) (G9 L (cP L y.2) y.2.nest v t) (F4 L (CG L y.2) t.2):=by
 have h:t=(x,(Al L r [[59]]).2):=by rw[ht];unfold C4;rw[sign_one];rfl
 exact Ca (f:=λs=>Al L s [[59]]) q (IQ rfl) (by rw[h];exact Dd _) λe=>hv _ e h
theorem TE {L:List TK} {x:PT} {r:RS} {t:PT×RS} (ht:t=C4 L (x,r)):Kp r t.2:=by rw[ht];exact De L r _
theorem AoF {L:List TK} {n:Nat} {V:List TK->PF} {s:RS} {t:PT×RS} {k m:Int} {x:List UInt8} {tk:TK} {y:PT} (q:R0 L s) (J:Av L (n+1) s) (E:FG L (n+1) V) (ht:t=C4 L (Ii V L k x m tk y s)): (CU L (cP L s) s.nest λ_=>BK [[116,111]])/\∀u,u=B5 L (cP L s) s.nest->Ad ([[116,111]].any (Ah L u)) ((CU L (cP L u) u.nest λs=>s.at_<L.length)/\∀v:TK×RS,v=(Aq L (B5 L (cP L u) u.nest),Ai (B5 L (cP L u) u.nest))->(CU L (cP L v.2) v.2.nest λs=>Av L (n+1) s)/\ ∀z,z=V L (B5 L (cP L v.2) v.2.nest)->Ad (Ak z.2.err 0) ((CU L (cP L z.2) z.2.nest λ_=>BK [[59]])/\∀w,w=Al L (B5 L (cP L z.2) z.2.nest) [[59]]->Ad (Ak w.2.err 0) (G9 L (cP L w.2) w.2.nest (.pv [.int .i64 k,.bs x,.int .i64 m,.int .i64 tk.line,.int .i64 tk.Ag,.As,.vec 1 2 λi=>List.take 1 (List.drop i [Bv y,Bv z.1])]) t) (F4 L (CG L w.2) t.2)) (F4 L (CG L z.2) t.2)) ((CU L (cP L u) u.nest λ_=>BK [[59]])/\∀w,w=Al L (B5 L (cP L u) u.nest) [[59]]->Ad (Ak w.2.err 0) (G9 L (cP L w.2) w.2.nest (.pv [.int .i64 k,.bs x,.int .i64 m,.int .i64 tk.line,.int .i64 tk.Ag,.As,.vec 1 1 λ_=>[Bv y]]) t) (F4 L (CG L w.2) t.2)):=by
 unfold Ii at ht;refine DV q rfl (Aj (λc=>?_) λc=>?_)
 ·have c:Ah L s R9=true:=by rwa[CH rfl]at c
  rw[if_pos c]at ht;have B:=Bb c;have pa:=Lm (M4 J B);refine E6 q B (Ca (f:=V L) (HN q B) pa (TE ht) λe=>?_);exact P1 (Fj (HN q B) (E.g L _ pa) (E.k _) e) ht λs' C h=>(OV h C rfl rfl).2
 ·have c:Ah L s R9=false:=by rwa[CH rfl]at c
  rw[if_neg (nb c)]at ht;exact P1 q ht λs' C h=>(NH h C rfl).2
theorem u9 {f:List UInt8->Bool} {a b:List UInt8}:[a,b].any f=(f a||f b):=by simp
theorem uZ {f:List UInt8->Bool} {a b c d:List UInt8}:[a,b,c,d].any f=(f a||(f b||(f c||f d))):=by simp
theorem An8 {Se:List TK->TK->PF} {Br Po T:List TK->PF} {L:List TK} {s:RS} (c:[Ht,Hu,Hv,Hw].any (Ah L s)=true):CK Se Br Po T L s=C4 L (Iy T L (U8 (Aq L s).text) (Aq L s) (Ai s)):=by
 rw[uZ,Bool.or_eq_true,Bool.or_eq_true,Bool.or_eq_true]at c;rcases c with c|c|c|c
 ·rw[AnY c,Lf c];rfl
 ·rw[AnZ c,Lf c];rfl
 ·rw[An4 c,Lf c];rfl
 ·rw[An5 c,Lf c];rfl
@[reducible] def jI:TK×RS->Prop:=λ(a:TK×RS)=>(DG a.1/\True/\True)/\True
@[reducible] def jJ:TK×RS->Prop:=λ(a:TK×RS)=>jI a/\BF/\True
def JB (a:List TK) (b:RS):=(True/\Bh a b λ(q:RS)=>BK [[(59:UInt8)]])
def JC (a:List TK) (b:RS):=Al a (Bg a b) [[(59:UInt8)]]
def pW:=[[(99:UInt8),97,108,108],[(99:UInt8),97,110,99,101,108],[(106:UInt8),111,105,110],[(108:UInt8),111,103]]
def p7:=[[(105:UInt8),102],[(119:UInt8),104,105,108,101]]
def rB:=[[(100:UInt8),105,115,97,98,108,101]]
def rD:=[[(114:UInt8),101,116,117,114,110]]
def pt:=[[(101:UInt8),110,97,98,108,101]]
def Rz:=[[(61:UInt8)]]
def rA:=[[(115:UInt8),112,97,119,110]]
def rE:=[[(112:UInt8),111,115,116]]
theorem Amp:∀(L:List TK) (n:Nat) (Br T V:List TK->PF),VG L n Br T V->∀(s:RS) (t:PT×RS),R0 L s->Av L (n+1) s->FG L (n+1) T->FG L (n+1) V->gL L n Br->t=CK (λ(L:List TK) (t:TK)=>G3 V T L t) Br (Gd T V) T L s->(True/\Bh L s λ(s:RS)=>BK p7)/\∀(y:RS),y=Bg L s->Ad (Ax (List.any p7 (Ah L y))) ((Bh L y λ(s:RS)=>Hx L n s)/\∀(O:PT×RS),O=CQ Br L y->RH O.2 L O.1 t t.2) ((True/\Bh L y λ(s:RS)=>BK [Rj])/\∀(O:RS),O=Bg L y->Ad (Ax (List.any [Rj] (Ah L O))) ((Co L O)/\∀(y:TK×RS),y=(Cp L O)->(Ib L y.2)/\∀(J:TK×RS),J=IE L y.2->AO J.2 ((Ib L J.2)/\∀(C:PT×RS),C=B9 L (Bg L J.2)->AO C.2 (Dx C.1/\Dx C.1/\(A8/\A8/\A8/\(GY y.1)/\True)/\(True/\Bh L C.2 λ(s:RS)=>BK Rz)/\∀(q:TK×RS),q=Hm L C.2 Rz->AO q.2 ((Hj L q.2 n)/\∀(B:PT×RS),B=CQ T L q.2->AO B.2 ((A8/\A8/\A8/\((Ab (AV.sl 16 0 1 1)/\True)/\True)/\True)/\(JB L B.2)/\∀(E:TK×RS),E=JC L B.2->AO E.2 (Ce L E.2 (AV.pv [AV.int .i64 (13:Int),C7 J.1,BX,B3 y.1,B4 y.1,AV.As,AV.vec 1 2 λ(i:Nat)=>GW i C.1 B.1]) t/\True) (BD L E.2 t.2)) (E4 L B.2 t.2)) (BD L q.2 t.2)) (E4 L C.2 t.2)) (BD L J.2 t.2)) ((True/\Bh L O λ(s:RS)=>BK pW)/\∀(y:RS),y=Bg L O->Ad (Ax (List.any pW (Ah L y))) ((Co L y)/\∀(J:TK×RS),J=(Cp L y)->(True/\Aa/\Aa/\(Ab (DC J.1)/\True)/\True)/\(Hj L J.2 n)/\∀(y:PT×RS),y=CQ T L J.2->AO y.2 (Dx y.1/\(jI J/\BF/\jJ J)/\(JB L y.2)/\∀(C:TK×RS),C=JC L y.2->AO C.2 (Ce L C.2 (AV.pv [AV.int .i64 (U8 (DC J.1)),AV.bs [],BX,B3 J.1,B4 J.1,AV.As,AV.vec 1 1 λ(x:Nat)=>[Cs y.1]]) t/\True) (BD L C.2 t.2)) (jJ J/\BD L y.2 t.2)) ((True/\Bh L y λ(s:RS)=>BK rE)/\∀(J:RS),J=Bg L y->Ad (Ax (List.any rE (Ah L J))) ((Bh L J λ(s:RS)=>Hx L n s)/\∀(y:PT×RS),y=M5 T V L (Bg L J)->AO y.2 ((JB L y.2)/\∀(C:TK×RS),C=JC L y.2->RH C.2 L y.1 t t.2) (BD L y.2 t.2)) ((True/\Bh L J λ(s:RS)=>BK rA)/\∀(y:RS),y=Bg L J->Ad (Ax (List.any rA (Ah L y))) ((Co L y)/\∀(C:TK×RS),C=(Cp L y)->(Hj L C.2 n)/\∀(y:PT×RS),y=CQ T L C.2->AO y.2 (Dx y.1/\(UR L y.2)/\∀(q:RS),q=Bg L y.2->UE L q ((Co L q)/\∀(B:TK×RS),B=(Cp L q)->(Hj L B.2 n)/\∀(E:PT×RS),E=CQ V L B.2->AO E.2 ((A8/\A8/\A8/\((Ab (AV.sl 17 0 1 1)/\True)/\True)/\True)/\(JB L E.2)/\∀(K:TK×RS),K=JC L E.2->AO K.2 (Ce L K.2 (AV.pv [AV.int .i64 (20:Int),AV.bs [],BX,B3 C.1,B4 C.1,AV.As,AV.vec 1 2 λ(i:Nat)=>GW i y.1 E.1]) t/\True) (BD L K.2 t.2)) (E4 L E.2 t.2)) ((JB L q)/\∀(B:TK×RS),B=JC L q->AO B.2 (Ce L B.2 (AV.pv [AV.int .i64 (20:Int),AV.bs [],BX,B3 C.1,B4 C.1,AV.As,AV.vec 1 1 λ(x:Nat)=>[Cs y.1]]) t/\True) (BD L B.2 t.2))) (BD L y.2 t.2)) ((True/\Bh L y λ(s:RS)=>BK pt)/\∀(C:RS),C=Bg L y->Ad (Ax (List.any pt (Ah L C))) ((Co L C)/\∀(y:TK×RS),y=(Cp L C)->(Ib L y.2)/\∀(q:TK×RS),q=IE L y.2->AO q.2 ((JB L q.2)/\∀(B:TK×RS),B=JC L q.2->AO B.2 (Ce L B.2 (AV.pv [AV.int .i64 (21:Int),C7 q.1,BX,B3 y.1,B4 y.1,AV.As,AV.As]) t/\True) (BD L B.2 t.2)) (BD L q.2 t.2)) ((True/\Bh L C λ(s:RS)=>BK rB)/\∀(y:RS),y=Bg L C->Ad (Ax (List.any rB (Ah L y))) ((Co L y)/\∀(q:TK×RS),q=(Cp L y)->(Ib L q.2)/\∀(y:TK×RS),y=IE L q.2->AO y.2 ((JB L y.2)/\∀(B:TK×RS),B=JC L y.2->AO B.2 (Ce L B.2 (AV.pv [AV.int .i64 (22:Int),C7 y.1,BX,B3 q.1,B4 q.1,AV.As,AV.As]) t/\True) (BD L B.2 t.2)) (BD L y.2 t.2)) ((True/\Bh L y λ(s:RS)=>BK rD)/\∀(q:RS),q=Bg L y->Ad (Ax (List.any rD (Ah L q))) ((Co L q)/\∀(y:TK×RS),y=(Cp L q)->(JB L y.2)/\∀(B:TK×RS),B=JC L y.2->AO B.2 (Ce L B.2 (AV.pv [AV.int .i64 (25:Int),AV.bs [],BX,B3 y.1,B4 y.1,AV.As,AV.As]) t/\True) (BD L B.2 t.2)) (PM q L (HK q L ((Hj L q n)/\∀(y:PT×RS),y=CQ V L q->AO y.2 (Dx y.1/\(A8/\A8/\((Ab (AV.agg [AV.int .i64 (TK.kind (D7 q L)),AV.bs (TK.text (D7 q L)),AV.int .i64 (TK.num (D7 q L)),AV.int .i64 (TK.line (D7 q L)),AV.int .i64 (TK.Ag (D7 q L))])/\True)/\True)/\True)/\(True/\Bh L y.2 λ(s:RS)=>BK Rz)/\∀(B:TK×RS),B=Hm L y.2 Rz->AO B.2 ((Hj L B.2 n)/\∀(E:PT×RS),E=CQ T L B.2->AO E.2 ((A8/\A8/\A8/\((Ab (AV.sl 26 0 1 1)/\True)/\True)/\True)/\(JB L E.2)/\∀(K:TK×RS),K=JC L E.2->AO K.2 (Ce L K.2 (AV.pv [AV.int .i64 (14:Int),AV.bs [],BX,AV.int .i64 (TK.line (D7 q L)),AV.int .i64 (TK.Ag (D7 q L)),AV.As,AV.vec 1 2 λ(i:Nat)=>GW i y.1 E.1]) t/\True) (BD L K.2 t.2)) (E4 L E.2 t.2)) (BD L B.2 t.2)) (E4 L y.2 t.2))) ((Hj L q n)/\∀(y:PT×RS),y=CQ V L q->AO y.2 (Dx y.1/\(A8/\A8/\((Ab (AV.agg [BX,AV.str 0 0,BX,BX,BX])/\True)/\True)/\True)/\(True/\Bh L y.2 λ(s:RS)=>BK Rz)/\∀(B:TK×RS),B=Hm L y.2 Rz->AO B.2 ((Hj L B.2 n)/\∀(E:PT×RS),E=CQ T L B.2->AO E.2 ((A8/\A8/\A8/\((Ab (AV.sl 25 0 1 1)/\True)/\True)/\True)/\(JB L E.2)/\∀(K:TK×RS),K=JC L E.2->AO K.2 (Ce L K.2 (AV.pv [AV.int .i64 (14:Int),AV.bs [],BX,BX,BX,AV.As,AV.vec 1 2 λ(i:Nat)=>GW i y.1 E.1]) t/\True) (BD L K.2 t.2)) (E4 L E.2 t.2)) (BD L B.2 t.2)) (E4 L y.2 t.2))))))))))
:=by
 delta Cs Bg Bh DG IB AO A8 Co BF Ce B3 B4 BD Cp BX D7 JB DO GW J5 C7 Hj E4 JC pW Dx Ib HK GY DC Rj IE p7 rB Hm rD pt PM UE Rz rA CQ UR RH rE;intro L n Br T V Am s t M Z hT hV hB ht;simp only[A9,jI,jJ,DG,BF];have Am:=M.ok;refine DV M rfl (Aj (λc=>?_) λc=>?_)
 ·have c:[Io,F0].any (Ah L s)=true:=c;rw[u9,Bool.or_eq_true]at c;have hk:(Aq L s).kind=2/\t=Br L s:=by
   rcases c with c|c
   ·exact⟨(Ju c rfl).1,by rw[ht,An3 c]⟩
   ·exact⟨(Ju c rfl).1,by rw[ht,Aob c]⟩
  exact Ca (f:=Br L) M ⟨Z,hk.1⟩ (by rw[hk.2];exact Dd _) λe=>K9 hk.2 e
 have c0:[Io,F0].any (Ah L s)=false:=c;rw[u9,Bool.or_eq_false_iff]at c0;clear c;refine DV M rfl (Aj (λc=>?_) λc=>?_)
 ·have c:Ah L s FY=true:=by rwa[CH rfl]at c
  rw[Aoa c]at ht;have R:=Bb c;have S:=HN M R;have pa:=M4 Z R;have kS:=Gu (L:=L) (k:=1) S.ok (by decide);unfold R3 at ht;have k3:=TE ht;refine E6 M R (Ca (f:=λs=>AB L s 1) S trivial ((NV L _).tr ((De L _ _).tr ((hT.k _).tr k3))) λU=>?_);have r1:=Jf S kS (H6 L _ 1) U;have p1:=Ll pa kS;have tS:=Qb (L:=L) r1.ok;refine Ca (f:=B9 L) r1 trivial ((De L _ _).tr ((hT.k _).tr k3)) λe2=>⟨FQ _,FQ _,?_⟩;have r2:=Fj r1 tS (NV L _) e2;have p2:=Pg p1 tS;rw[sign_one]at k3 ht;refine Ca (f:=λs=>Al L s [[61]]) r2 (IQ rfl) ((hT.k _).tr k3) λe3=>?_;have s3:=Iz (L:=L) (ws:=[[61]]) r2.ok;have r3:=Jf r2 s3 (GP L _ _) e3;have p3:=Lm (Ll p2 s3);refine Ca (f:=T L) r3 p3 k3 λe4=>?_;exact P1 (Fj r3 (hT.g L _ p3) (hT.k _) e4) ht λs' W h=>(OV h W rfl rfl).2
 have c1:Ah L s FY=false:=by rwa[CH rfl]at c
 clear c;refine DV M rfl (Aj (λc=>?_) λc=>?_)
 ·have c:[Ht,Hu,Hv,Hw].any (Ah L s)=true:=c;rw[An8 c]at ht;obtain⟨w,_,hw⟩:=List.any_eq_true.1 c;have R:=Bb hw;have S:=HN M R;have pa:=Lm (M4 Z R);unfold Iy at ht;refine E6 M R (Ca (f:=T L) S pa (TE ht) λU=>⟨FQ _,?_⟩);exact P1 (Fj S (hT.g L _ pa) (hT.k _) U) ht λs' W h=>(NH h W rfl).2
 have c2:[Ht,Hu,Hv,Hw].any (Ah L s)=false:=c;rw[uZ,Bool.or_eq_false_iff,Bool.or_eq_false_iff,Bool.or_eq_false_iff]at c2;clear c;refine DV M rfl (Aj (λc=>?_) λc=>?_)
 ·have c:Ah L s G8=true:=by rwa[CH rfl]at c
  rw[An6 c]at ht;have hk:=(Ju c rfl).1;have Y:Gd T V L s=M5 T V L s:=by unfold Gd;rw[if_pos (Lf c)];rfl
  rw[Y]at ht;have pB:Hx L n s:=⟨Z,hk⟩;refine Ca (f:=M5 T V L) M pB (TE (x:=(M5 T V L s).1) ht) λU=>?_;exact P1 (x:=(M5 T V L s).1) (Fj M (by rw[<-Y];exact dI hT.g hV.g pB) (by rw[<-Y];exact zF hT.k hV.k _) U) ht λs' W h=>K9 h W
 have c3:Ah L s G8=false:=by rwa[CH rfl]at c
 clear c;refine DV M rfl (Aj (λc=>?_) λc=>?_)
 ·have c:Ah L s Iq=true:=by rwa[CH rfl]at c
  rw[An9 c]at ht;have R:=Bb c;have S:=HN M R;have pa:=Lm (M4 Z R);have Y:Gd T V L s=Ii V L 20 [] 0 (Aq L s) (T L (Ai s)).1 (T L (Ai s)).2:=by unfold Gd;rw[if_neg (by rw[Lf c];decide)]
  rw[Y]at ht;have kT:Kp (T L (Ai s)).2 t.2:=by rw[ht];exact QV (WO hV.k)
  refine E6 M R (Ca (f:=T L) S pa kT λU=>⟨FQ _,?_⟩);exact AoF (Fj S (hT.g L _ pa) (hT.k _) U) (Pg pa (hT.g L _ pa)) hV ht
 have c4:Ah L s Iq=false:=by rwa[CH rfl]at c
 clear c;have nm:∀k:Int,s.at_<L.length->t=C4 L (KB L k (Aq L s) (Ai s))->(CU L (cP L s) s.nest λs=>s.at_<L.length)/\∀y:TK×RS,y=(Aq L (B5 L (cP L s) s.nest),Ai (B5 L (cP L s) s.nest))->(CU L (cP L y.2) y.2.nest λ_=>True)/\∀z,z=AB L (B5 L (cP L y.2) y.2.nest) 1->Ad (Ak z.2.err 0) ((CU L (cP L z.2) z.2.nest λ_=>BK [[59]])/\∀w,w=Al L (B5 L (cP L z.2) z.2.nest) [[59]]->Ad (Ak w.2.err 0) (G9 L (cP L w.2) w.2.nest (.pv [.int .i64 k,.bs z.1.text,.int .i64 0,.int .i64 y.1.line,.int .i64 y.1.Ag,.As,.As]) t) (F4 L (CG L w.2) t.2)) (F4 L (CG L z.2) t.2):=λk R ht=>by have S:=HN M R;have kS:=Gu (L:=L) (k:=1) S.ok (by decide);unfold KB at ht;refine E6 M R (Ca (f:=λs=>AB L s 1) S trivial (TE ht) λU=>?_);exact P1 (Jf S kS (H6 L _ 1) U) ht λs' W h=>MI h W
 refine DV M rfl (Aj (λc=>?_) λc=>?_)
 ·have c:Ah L s Im=true:=by rwa[CH rfl]at c
  rw[An2 c]at ht;exact nm 21 (Bb c) ht
 have c5:Ah L s Im=false:=by rwa[CH rfl]at c
 clear c;refine DV M rfl (Aj (λc=>?_) λc=>?_)
 ·have c:Ah L s Il=true:=by rwa[CH rfl]at c
  rw[An1 c]at ht;exact nm 22 (Bb c) ht
 have c6:Ah L s Il=false:=by rwa[CH rfl]at c
 clear c;refine DV M rfl (Aj (λc=>?_) λc=>?_)
 ·have c:Ah L s Ip=true:=by rwa[CH rfl]at c
  rw[An7 c]at ht;have R:=Bb c;exact E6 M R (P1 (HN M R) ht λs' W h=>MI h W)
 have c7:Ah L s Ip=false:=by rwa[CH rfl]at c
 clear c;rw[An0 c0.1 c0.2 c1 c2.1 c2.2.1 c2.2.2.1 c2.2.2.2 c3 c4 c5 c6 c7]at ht;have ht:t=C4 L (nd 14 [] 0 (Aq L s) [(V L s).1,(T L (Aw L (V L s).2 FX).2).1],(T L (Aw L (V L s).2 FX).2).2):=ht;rw[sign_one]at ht;have rest:=TE ht;have key:∀ln cl:Int,ln=(Aq L s).line->cl=(Aq L s).Ag->(CU L (cP L s) s.nest λs=>Av L (n+1) s)/\∀y,y=V L (B5 L (cP L s) s.nest)->Ad (Ak y.2.err 0) (D2 [Bv y.1]/\(CU L (cP L y.2) y.2.nest λ_=>BK [[61]])/\∀z:TK×RS,z=Al L (B5 L (cP L y.2) y.2.nest) [[61]]->Ad (Ak z.2.err 0) ((CU L (cP L z.2) z.2.nest λs=>Av L (n+1) s)/\∀u,u=T L (B5 L (cP L z.2) z.2.nest)->Ad (Ak u.2.err 0) ((CU L (cP L u.2) u.2.nest λ_=>BK [[59]])/\∀w:TK×RS,w=Al L (B5 L (cP L u.2) u.2.nest) [[59]]->Ad (Ak w.2.err 0) (G9 L (cP L w.2) w.2.nest (.pv [.int .i64 14,.bs [],.int .i64 0,.int .i64 ln,.int .i64 cl,.As,.vec 1 2 λi=>List.take 1 (List.drop i [Bv y.1,Bv u.1])]) t) (F4 L (CG L w.2) t.2)) (F4 L (CG L u.2) t.2)) (F4 L (CG L z.2) t.2)) (F4 L (CG L y.2) t.2):=λln cl h1 h2=>by subst h1;subst h2;refine Ca (f:=V L) M Z ((GP L _ _).tr ((hT.k _).tr rest)) λU=>⟨FQ _,?_⟩;have gV:=hV.g L s Z;have r1:=Fj M gV (hV.k _) U;have p1:=Pg Z gV;refine Ca (f:=λs=>Al L s [[61]]) r1 (IQ rfl) ((hT.k _).tr rest) λe2=>?_;have s3:=Iz (L:=L) (ws:=[[61]]) r1.ok;have r2:=Jf r1 s3 (GP L _ _) e2;have p2:=Ll p1 s3;refine Ca (f:=T L) r2 p2 rest λe3=>?_;exact P1 (Fj r2 (hT.g L _ p2) (hT.k _) e3) ht λs' W h=>(OV h W rfl rfl).2
 have hd:=Qw M;refine Aj (λc=>?_) λc=>?_
 ·rw[B1]at c;have R:s.at_<L.length:=by omega
  rw[SI M R];exact An (BJ.2 (by omega)) (key _ _ rfl rfl)
 ·rw[Cg]at c;have ho:=SJ (L:=L) (s:=s) (by omega);exact key _ _ (by rw[ho];rfl) (by rw[ho];rfl)
theorem Amo:∀(L:List TK) (n:Nat) (Br T V:List TK->PF) (Am:VG L n Br T V) (s:RS) (t:PT×RS),R0 L s->Av L (n+1) s->FG L (n+1) T->FG L (n+1) V->gL L n Br->t=CK (λL t=>G3 V T L t) Br (Gd T V) T L s->(AG (wA L n Br T V Am) 60).call 110 [.ptr 4 0] (AU (Cm++A0 [Bl L s] 4)) (4+1) (Hb L t):=Eq.mpr (by kernel_rfl) Amp
theorem AiG {L:List TK} {n:Nat} {Br T V:List TK->PF} (h:VG L n Br T V) (hT:FG L (n+1) T) (q:FG L (n+1) V) (y:gL L n Br):AD Tryz.prog 110 (mF L (n+1) (CK (λL t=>G3 V T L t) Br (Gd T V) T)):=H7 λs C B=>⟨wA L n Br T V h,60,rfl,AW,Bc,λt ht=>Amo L n Br T V h s t C B hT q y ht⟩
end Go.Proofs.YtlmmbanfhjaioaaGreatDoor
end
section
set_option maxRecDepth 100000
set_option maxHeartbeats 2000000
open Go Go.Ev
namespace Go.Proofs.YtlmmbanfhjaioaaGreatDoor
def oO (s:St) (q:Nat):Nat:=match s.T.get q with
 |some (.ptr id 0)=>id
 |_=>0
def zR (s:St) (id:Nat) (w:AV):Ac:=match s.H.get id with
 |some (.cells el c z N op)=>match Kc c z 7 0 with
  |some [a,b,c,d,e,f,_]=>.cells el .leaf (.CC [a,b,c,d,e,f,w]) N op
  |_=>FO
 |_=>FO
def AjU (ks:List PT):Ac:=.cells 71 .leaf (.rows 1 λi=>(BA ks).getD i []) ks.length true
structure Sk (L:List TK) (f:Nat->List PT->RS->List PT×RS) (t:List PT×RS) (s0:RS) (x:List PT×RS):Prop where
 k:∃k,Cn L x.2<k/\f k x.1 x.2=t
 p:GL L 0 4 s0 x
 r:R0 L x.2
def sY (L:List TK) (f:Nat->List PT->RS->List PT×RS) (t:List PT×RS) (s0:RS) (ks:List Nat) (q:Nat):CV:={X:=List PT×RS,T:=λs _ x=>MV s ks,H:=λs n0 x=>(s.nx,AjU x.1)::(4,Bl L x.2)::(oO s q,zR s (oO s q) (.AJ s.nx x.1.length 1))::TC s [4,oO s q],nx:=λs _=>s.nx+1,I:=λs x=>Sk L f t s0 x,m:=λx=>Cn L x.2}
def wC (L:List TK) (n:Nat) (St:List TK->PF) (h:ED 110 L n St) (s0:RS):Ctx:={P:=Tryz.prog,tb:=[],ht:=Tx 110 L n St,Am:=Wz h,lp:=λf r=>cond (Nat.beq f 109) (cond (Nat.beq r 2) (some (sY L (Bz St L) (IX St L s0) s0 [1,2,4] 4)) none) none,cut:=λ_ _=>none}
structure Si (L:List TK) (n:Nat) (F:List TK->PF):Prop where
 g:GF n 3 4 F
 k:KF (F L)
theorem Abc {B:List (Nat×Nat)} (l:List PT) (x:PT) {g:Nat->List AV} (C:g 0=[Bv x]):l.length+1=(l++[x]).length/\Au λi=>i.succ<=l.length+1->AH B ((BA (l++[x])).getD i []) (B0 l.length (λi=>(BA l).getD i []) g i):=by
 refine⟨by rw[List.length_append,List.length_singleton],⟨λi hi=>?_⟩⟩;have q:i<(l++[x]).length:=by rw[List.length_append,List.length_singleton];omega
 have e:B0 l.length (λi=>(BA l).getD i []) g i=(BA (l++[x])).getD i []:=by
  refine LM (λy=>?_) λy=>?_
  ·rw[HF _ i q,HF l i y,List.getElem_append_left y]
  ·have:i=l.length:=by omega
   subst this;rw[Nat.sub_self,C,HF _ _ q,List.getElem_append_right (Nat.le_refl _)];simp
 rw[e];exact Ns B _ i
theorem nX (l:List PT):Ds 1 l.length (λi=>(BA l).getD i [])=true:=Lc λi hi=>by rw[HF l i hi];rfl
theorem mL {L:List TK} {k n:Int} {x:List UInt8} {tk:TK} {s:RS} {t:PT×RS} {ks:List PT} (h:t=(nd k x n tk ks,s)) (q:s.err=0):G9 L (cP L s) s.nest (.pv [.int .i64 k,.bs x,.int .i64 n,.int .i64 tk.line,.int .i64 tk.Ag,.As,.vec 1 ks.length λi=>(BA ks).getD i []]) t:=ZR h q rfl λi hi=>⟨Bv ks[i],HF ks i hi,OA _⟩
theorem Ab8 {L:List TK} {s:RS} {w:List UInt8} (h:R0 L s) (c:Ah L s w=true):Aw L s w=(Aq L s,Ai s):=(Vb h c).1
@[reducible] def jK:TK×RS->Prop:=λ(a:TK×RS)=>(((((True/\Aa/\Ab (12:Int))/\([]:List UInt8)=[])/\Aa/\Ab (0:Int))/\Aa/\Ab (TK.line a.1))/\Aa/\Ab (TK.Ag a.1))/\True
def KL:=[[(123:UInt8)]]
@[reducible] def jL:TK×RS->Prop:=λ(a:TK×RS)=>Fy/\Um/\(Aa/\Aa/\Aa/\Aa/\Ab (List.length KL)/\Au λ(i:Nat)=>B8 i (List.length KL)->Ab (List.getD KL i [])/\True)/\OI a/\OI a/\True
def Ud (a:List PT×RS) (b:List PT):=Ap (bif bif Nat.ble (a.1.length*1) a.1.length then Ds 1 a.1.length λ(q:Nat)=>List.getD (BA b) q []else false then true else false)
def dY (a:List PT×RS):=Ap (bif bif Nat.ble (a.1.length*1) a.1.length then true else false then decide (a.1.length+1<=9223372036854775807/\(a.1.length+1)*8<=140737488355328)else false)
def LA (a:List PT) (b:Nat):=List.getD (BA a) b []
def PA (a:List TK) (b:RS):=Ad (!Ax (List.any [[(125:UInt8)]] (Ah a b)))
def PR (a:List TK) (b:RS):=(True/\Bh a b λ(q:RS)=>BK [[(125:UInt8)]])
def rL:=(Jc/\(Ab (some 14)/\Aa)/\(Ab (some 16)/\Aa)/\True)
def eL (a:List TK) (b:List TK->PF) (c:RS):=Sk a (Bz b a) (IX b a (Uk a c)) (Uk a c)
theorem AkK:∀(L:List TK) (n:Nat) (St:List TK->PF),ED (110:FuncId) L n St->∀(s:RS) (t:PT×RS),R0 L s->Av L (n+1) s->Si L n St->t=Kl St L s->(True/\Bh L s λ(s:RS)=>BK KL)/\∀(y:RS),y=Bg L s->Ad (!Ax (List.any KL (Ah L y))) (Lu L y t.2) (N5 y L t.2 ((Co L y)/\∀(q:TK×RS),q=(Cp L y)->KK q.2 ((∃(V:List PT×RS),eL L St s V/\Aa/\rL/\(Aa/\True)/\(Aa/\Aa/\Aa/\Aa/\(Lq q.2 L V.2)/\Aa/\RS.nest q.2+1=RS.nest V.2)/\(Aa/\Aa/\Aa/\Aa/\jK q/\V.1.length=0)/\jL q)/\∀(x:List PT×RS),eL L St s x->(PR L x.2)/\∀(y:RS),y=Bg L x.2->PA L y ((Ey L y n)/\∀(B:PT×RS),B=CQ St L y->AO B.2 (dY x ((BF/\BF/\BF/\((True/\Ab (AV.AJ 17 x.1.length 1)/\True)/\True)/\True)/\∃(O:List PT×RS),eL L St s O/\DX L O.2 x.2/\Aa/\rL/\(Aa/\Aa/\Aa/\Aa/\(Fh x)*1=O.1.length/\Au λ(i:Nat)=>B8 i ((Fh x)*1)->AH [(17,28),(16,16),(14,14),(0,0),(1,1),(2,2),(3,3),(4,4),(5,5),(6,6),(7,7),(8,8),(9,9),(10,10),(11,11),(12,12),(13,13)] (LA O.1 i) (B0 x.1.length (λ(i:Nat)=>LA x.1 i) (λ(x:Nat)=>[Bv B.1]) i))/\(Rf B.2 L O.2)/\(Aa/\Aa/\Aa/\Aa/\jK q/\Ab (some 28)/\x.1.length+1=O.1.length/\Aa)/\jL q)) ((BF/\True)/\BD L B.2 t.2)) ((Co L y)/\∀(B:TK×RS),B=(Cp L y)->HH B.2 (Ud x x.1 (RK L B.2 (AV.pv [AV.int .i64 (12:Int),AV.bs [],BX,B3 q.1,B4 q.1,AV.As,AV.vec 1 x.1.length λ(i:Nat)=>LA x.1 i]) t/\True))))))
:=by
 delta Lq Bg Bh AO Co BF B3 B4 BD Cp BX B8 DX Lu N5 Ey Uk HH Ud JH dY Jc Fh Rf KK KL LA PA PR CQ rL RK eL;intro L n St Am s t K hp S ht;simp only[A9,jK,OI,jL,Pt,B8,Fy,Um,KL];have aa:=hp.ns;have ad:=hp.lf;have ab:=K.ok.n0;unfold Kl at ht;have E:Kp (IX St L (AQ L s BP).2).2 t.2:=by rw[ht];exact(De L _ _).tr (J1 _)
 have rest:Kp (AQ L s BP).2 t.2:=(Lh S.k _ _ _).tr E;refine DV K rfl (Aj (λM=>?_) λM=>Aj (λW=>?_) λW=>?_)
 ·rw[Bool.not_eq_true',CH rfl]at M;exact Sb K (by decide) ((AgI K M).tr rest)
 ·rw[Bool.not_eq_false',CH rfl]at M;rw[BL]at W;exact Sb K (by decide) ((cD K M W).tr rest)
 rw[Bool.not_eq_false',CH rfl]at M;rw[BU]at W;have hl:=Bb M;have ra:=HN K hl;have ho:=cz (L:=L) (s:=s) (w:=BP) M (by omega);have J:(AQ L s BP).2=EB (Ai s):=by rw[ho]
 have Y:(AQ L s BP).1=Aq L s:=by rw[ho]
 have R:=eZ ra (show s.nest<=900 by omega);have pu:Av L n (EB (Ai s)):=⟨R.ok,by show s.nest+1<=64;omega,by show(L.length:Int)-(s.at_+1)<n;omega⟩;rw[Y]at ht;refine E6 K hl (An (Be.2 ⟨by show-9223372036854775808<=s.nest+1;omega,by show s.nest+1<=9223372036854775807;omega⟩) ⟨⟨([],EB (Ai s)),⟨⟨B7 L,Kz R.ok,by show Bz St L (B7 L) [] (EB (Ai s))=IX St L (AQ L s BP).2;rw[J];rfl⟩,by show GL L 0 4 (AQ L s BP).2 _;rw[J];exact M3 R.ok (by decide),R⟩,Fk (s:=EB (Ai s)) rfl,rfl⟩,λx hx=>?_⟩);obtain⟨⟨k,hk,C⟩,Z,rx⟩:=hx;have U:GL L 0 4 (EB (Ai s)) x:=by rw[<-J];exact Z
 have b1:=U.DU R.ok (by decide);have b2:=Kx x.1;have b3:x.2.nest=s.nest+1:=U.ns;cases k with
 |zero=>omega
 |succ k=>
 have C:Bz St L (k+1) x.1 x.2=IX St L (AQ L s BP).2:=C;unfold Bz at C;refine DV rx rfl (Aj (λc=>?_) λc=>?_)
 ·have c:Ah L x.2 C5=false:=by rwa[Bool.not_eq_true',CH rfl]at c
  rw[if_pos ⟨rx.e,c⟩]at C;obtain⟨d0,d1,d2⟩:=OM (by decide) S.g (l:=x.1) (s:=x.2) Z (λ_=>by show Av L n (AQ L s BP).2;rw[J];exact pu) rx.e;refine Ca (f:=St L) rx d0 ((by rw[<-C];exact Lh S.k _ _ _:Kp (St L x.2).2 (IX St L (AQ L s BP).2).2).tr E) λe=>?_;exact An (decide_eq_true (by omega)) ⟨(x.1++[(St L x.2).1],(St L x.2).2),⟨⟨k,by have:Cn L (St L x.2).2<Cn L x.2:=d2;show Cn L (St L x.2).2<k;omega,C⟩,d1,Fj rx (S.g L _ d0) (S.k _) e⟩,d2,Abc x.1 (St L x.2).1 rfl,Fk (s:=(St L x.2).2) rfl,by rw[List.length_append,List.length_singleton]⟩
 ·have c:Ah L x.2 C5=true:=by rwa[Bool.not_eq_false',CH rfl]at c
  rw[if_neg (by rw[c];rintro⟨_,h⟩;cases h)]at C;have hX:IX St L (AQ L s BP).2=(x.1,x.2):=C.symm;rw[hX]at ht;simp only at ht;rw[Ab8 rx c]at ht;exact E6 rx (Bb c) (An (Be.2 ⟨by show-9223372036854775808<=x.2.nest-1;omega,by show x.2.nest-1<=9223372036854775807;omega⟩) (An (nX x.1) (mL (s:=down (Ai x.2)) ht rx.e)))
theorem AkJ:∀(L:List TK) (n:Nat) (St:List TK->PF) (Am:ED 110 L n St) (s:RS) (t:PT×RS),R0 L s->Av L (n+1) s->Si L n St->t=Kl St L s->(AG (wC L n St Am (AQ L s BP).2) 60).call 88 [.ptr 4 0] (AU (Cm++A0 [Bl L s] 4)) (4+1) (Hb L t):=Eq.mpr (by kernel_rfl) AkK
theorem AhV {L:List TK} {n:Nat} {St:List TK->PF} (h:ED 110 L n St) (q:Si L n St):AD Tryz.prog 88 (mF L (n+1) (Kl St)):=H7 λs B y=>⟨wC L n St h (AQ L s BP).2,60,rfl,AW,Bc,λt ht=>AkJ L n St h s t B y q ht⟩
structure Yf (L:List TK) (n:Nat) (x:LV):Prop where
 u:AD Tryz.prog 141 (mF L n x.u)
 t:AD Tryz.prog 123 (mF L n x.t)
 b:AD Tryz.prog 88 (mF L n x.b)
theorem Ahh {g:FuncId} {L:List TK} {n m:Nat} {F:List TK->PF} (K:n<=m) (h:AD Tryz.prog g (mF L m F)):AD Tryz.prog g (mF L n F):=by
 intro H nx args hc y p v up nx' B;have y:cond (DM H) (List.casesOn args none λp l=>ob (LS H p) λq=>ob (Kb l) λa=>cond (Nat.blt q.2 nx) (some (.A6 (CU L q.1.1 q.1.2 λs=>Av L n s) (GO [q.2] nx (oF L F (B5 L q.1.1 q.1.2))))) none) none=some hc:=y;cases E:DM H with
 |false=>rw[E]at y;cases y
 |true=>
 rw[E,cond_true]at y;cases args with
 |nil=>cases y
 |cons a l=>
 obtain⟨q,J,y⟩:=Ae.1 (show(ob (LS H a) λq=>ob (Kb l) λa=>cond (Nat.blt q.2 nx) (some (Cv.A6 (CU L q.1.1 q.1.2 λs=>Av L n s) (GO [q.2] nx (oF L F (B5 L q.1.1 q.1.2))))) none)=some hc from y);obtain⟨b,hb,y⟩:=Ae.1 y;cases C:Nat.blt q.2 nx with
 |false=>rw[C]at y;cases y
 |true=>
 rw[C]at y;injection y with y;subst y;obtain⟨⟨s,S,R,O,M⟩,B⟩:=LY B;refine h H nx (a::l) (Cv.A6 (CU L q.1.1 q.1.2 λs=>Av L m s) (GO [q.2] nx (oF L F (B5 L q.1.1 q.1.2)))) ?_ p v up nx' ((if_pos ⟨s,S,R,O,Xb M K⟩).trans B);show cond (DM H) (ob (LS H a) λq=>ob (Kb l) λa=>cond (Nat.blt q.2 nx) (some (Cv.A6 (CU L q.1.1 q.1.2 λs=>Av L m s) (GO [q.2] nx (oF L F (B5 L q.1.1 q.1.2))))) none) none=_;rw[E,cond_true,J];show(ob (Kb l) λa=>cond (Nat.blt q.2 nx) (some (Cv.A6 (CU L q.1.1 q.1.2 λs=>Av L m s) (GO [q.2] nx (oF L F (B5 L q.1.1 q.1.2))))) none)=_;rw[hb];show cond (Nat.blt q.2 nx) _ none=_;rw[C];rfl
theorem Ag9 {L:List TK} {n:Nat} {x:LV} (h:Yf L n x) (y:Sl n x) (q:Qf L x):Yf L (n+1) (W5 x):=by have fi:=nD y.t y.b;have U:GF (n+1) 1 2 (Np x):=sn y.t fi;have un:GF (n+1) 1 2 (HT x):=tD y.u U;have pr:=U5 (ws:=[E7]) un;have su:=U5 (ws:=[Gi,Gj]) pr;have J:GF (n+1) 1 2 (Fm x):=si su;have va:GF (n+1) 1 2 (IL x):=tG U;have gs:GS n (λL t=>G3 (IL x) (Fm x) L t) (HV (Fm x) x.b) (Gd (Fm x) (IL x)) (Fm x):=⟨λt=>sQ va J t,λL s C=>Zd J y.b C,λL s C=>dI J va C,J⟩;have st:GF (n+1) 3 4 (KU x):=sX gs;have FT:FG L n x.t:=⟨y.t,q.t⟩;have FB:FG L n x.b:=⟨y.b,q.b⟩;have FU:FG L n x.u:=⟨y.u,q.u⟩;have W:=zE q.t q.b;have ad:=Ah3 ⟨h.t,h.b⟩ FT FB;have O:AD Tryz.prog 131 (mF L (n+1) (Np x)):=AiS ⟨h.t,ad⟩ FT ⟨fi,W⟩;have S:FG L (n+1) (Np x):=⟨U,oK q⟩;have M:AD Tryz.prog 141 (mF L (n+1) (HT x)):=Ai3 ⟨h.u,O⟩ FU S;have af:FG L (n+1) (HT x):=⟨un,WR q⟩;have aa:=Aiv ⟨M⟩ af;have ah:FG L (n+1) (DE (HT x) [E7]):=⟨pr,WM (WR q)⟩;have Y:=AiI ⟨aa⟩ ah;have ag:FG L (n+1) (DE (DE (HT x) [E7]) [Gi,Gj]):=⟨su,WM (F:=DE (HT x) [E7]) (WM (WR q))⟩;have B:AD Tryz.prog 123 (mF L (n+1) (Fm x)):=AiM ⟨Y⟩ ag;have E:FG L (n+1) (Fm x):=⟨J,QW q⟩;have K:AD Tryz.prog 127 (mF L (n+1) (IL x)):=Ai7 ⟨O⟩ S;have R:FG L (n+1) (IL x):=⟨va,oL q⟩;have ae:=AhX ⟨B,h.b⟩ E FB;have ab:=Ait ⟨B,K⟩ E R;have Z:AD Tryz.prog 110 (mF L (n+1) (KU x)):=AiG ⟨B,K,ae,ab⟩ E R ⟨λs C=>Zd J y.b C,zC (QW q) q.b⟩;have V:GF n 3 4 (KU x):=λL s C=>st L s (Xb C (Nat.le_succ n));exact⟨M,B,AhV ⟨Ahh (Nat.le_succ n) Z⟩ ⟨V,zI q⟩⟩
theorem Aha (L:List TK):Yf L 0 (lv 0):=⟨H7 λs _ h=>(N3 h).elim,H7 λs _ h=>(N3 h).elim,H7 λs _ h=>(N3 h).elim⟩
theorem z2 (L:List TK):∀n,Yf L n (lv n)
 |0=>Aha L
 |n+1=>Ag9 (z2 L n) (TH n) (TD L n)
end Go.Proofs.YtlmmbanfhjaioaaGreatDoor
end
end
