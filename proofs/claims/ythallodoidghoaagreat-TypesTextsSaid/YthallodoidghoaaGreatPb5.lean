/- Laid by program out of its parts: PbX, PbY, PcA, PaX, PaY. -/
import Derived.Test.YthallodoidghoaaGreatPb4
import Derived.Test.YthallodoidghoaaGreatMh
import Derived.Test.YthallodoidghoaaGreatPa3
noncomputable section
open List(getD)
set_option linter.unusedVariables false
set_option linter.unusedSimpArgs false
section
set_option maxRecDepth 100000
set_option maxHeartbeats 2000000
open Go Go.Ev
namespace Go.Proofs.YthallodoidghoaaGreat
def Ip:RS:=⟨0,0,0,0⟩
def Ae7 (n:Nat):Ad->PF:=fG (M6 (lv n).b)
def MO (L:Ad):PT×RS:=AF (Ae7 100001 L Ip)
def Kb (t:PT×RS):AB:=if t.2.err=0 then flat t.1 else []
def LL (L:Ad) (t:RS):List Dg:=if t.err=0 then []else [⟨UG L t,T6 L t,t.err⟩]
def Ae6 (L:Ad) (t:PT×RS):AV:=.AM [.agg [vW (AF (Kb t))],pD (AF (LL L t.2))]
structure ZE (n:Nat) (f:Nat->List AV):Prop where
 len:n<=100000
 f:∀i,i<n->f i=(WX (f i)).row
def rC:Tr Ah->Al->Option Ct:=λ_ args=>match args with
 | [.vec 5 n f]=>some (.Bb (ZE n f) (.ret (Ae6 (GO n f) (MO (GO n f)))))
 |_=>none
theorem Ahe (n:Nat):GF n 3 4 (M6 (lv n).b):=Ahf (eD n).b
theorem Aqm (L:Ad):MO L=Ae7 100001 L Ip:=by unfold MO;rw[Et]
theorem Aqn {L:Ad} (hl:L.length<=100000):R0 L Ip:=⟨⟨hl,H8 0,Int.natCast_nonneg _,H8 0,by decide⟩,rfl,rfl⟩
theorem AqF {n:Nat} {f:Nat->Al} (h:∀i,i<n->f i=(WX (f i)).row):VA (.vec 5 n f) (vK (GO n f)):=λρ v hv=>by
 have hl:n=(GO n f).length:=by simp[GO]
 refine AqI hl (λi hi=>?_) ρ v hv;show f i=((GO n f).getD i TK.zero).row;rw[h i hi];congr 1;unfold GO;rw[Bt,I8,Tn hi];show _=WX (f i);rw[h i hi]
def w0 (t:CV):TK:=⟨t.kind,t.text,t.num,t.line,t.Av⟩
def Q2 (l:Aj):Ad:=AF ((FH l).1.map w0)
def Np (l:Aj):AB:=if(FH l).2.length=0 then Kb (MO (Q2 l))else []
def OJ (l:Aj):List Dg:=if(FH l).2.length=0 then LL (Q2 l) (MO (Q2 l)).2 else(FH l).2
def Adn (l:Aj):AV:=.AM [.agg [vW (AF (Np l))],pD (AF (OJ l))]
def pg:Tr Ah->Al->Option Ct:=λ_ args=>match args with
 | [.bv l]=>some (.Bb (l.length<=100000) (.ret (Adn l)))
 |_=>none
theorem Al5 (T:List CV):GO T.length (λk=>KY (T.getD k t0))=T.map w0:=by
 apply List.ext_getElem
 ·simp[GO]
 ·intro i x r;have hi:i<T.length:=by simpa using r
  simp only[GO,List.getElem_map,List.getElem_range];rw[Bt,Ce hi];rfl
theorem Aqj (l:Aj):Q2 l=(FH l).1.map w0:=by unfold Q2;rw[Et]
theorem Aqi (T:List CV) (h:T.length<=100000):ZE T.length (λk=>KY (T.getD k t0)):=⟨h,λi _=>rfl⟩
def Iv (L:Ad) (s:RS):Prop:=s.err=0\/s.err=4\/(s.err=5/\s.BE<L.length)
structure Mv (L:List TK) (s r:RS):Prop where
 k:Kp s r
 a:s.at_<=r.at_
 w:s.err=0->r.err≠0->s.at_<=r.BE
 b:s.at_<=L.length->r.at_<=L.length
 i:Iv L s->Iv L r
def MF (L:Ad) (F:PF):Prop:=∀s,Mv L s (F s).2
def Sr (s r:RS):Prop:=s.err=0->r.err=0->s.at_<r.at_
structure To (L:List TK) (x:LV):Prop where
 u:MF L (x.u L)
 t:MF L (x.t L)
 b:MF L (x.b L)
theorem JX (L:Ad) (s:RS):Mv L s s:=⟨AbZ s,H8 _,λh h'=>absurd h h',λh=>h,λh=>h⟩
theorem Mv.tr {L:Ad} {s r u:RS} (h:Mv L s r) (k:Mv L r u):Mv L s u:=by
 refine⟨h.k.tr k.k,Int.le_trans h.a k.a,λz x=>?_,λz=>k.b (h.b z),λz=>k.i (h.i z)⟩;by_cases c:r.err=0
 ·exact Int.le_trans h.a (k.w c x)
 ·have:=h.w z c;have:=(k.k.e c).2;omega
theorem CW {L:Ad} {α:Type} {s:RS} {p:Prop} [Decidable p] {a b:α×RS} (x:p->Mv L s a.2) (r:¬p->Mv L s b.2):Mv L s (if p then a else b).2:=by
 by_cases h:p
 ·rw[As h];exact x h
 ·rw[An h];exact r h
theorem tg (L:Ad) (s:RS) {e:Int} (r:e≠0) (x:e=4\/(e=5/\s.at_<L.length):=by exact .inl rfl):Mv L s (CM s e):=by
 refine⟨Ai6 s r,?_,λz _=>?_,λz=>?_,λz=>?_⟩
 ·unfold CM;split<;>exact H8 _
 ·unfold CM;rw[As z];exact H8 _
 ·unfold CM;split<;>exact z
 ·unfold CM;split
  ·rcases x with h|⟨h,h'⟩
   ·exact .inr (.inl h)
   ·exact .inr (.inr ⟨h,h'⟩)
  ·exact z
theorem ta {L:Ad} {s:RS} {b:Bool} (h:b=true->s.at_<L.length):Mv L s (H6 L s b).2:=by
 unfold H6;split
 ·rename_i hb;have:=h hb;exact⟨⟨λ_=>⟨rfl,rfl⟩,λ_=>rfl⟩,by show s.at_<=s.at_+1;omega,λz r=>absurd z r,λ_=>by show s.at_+1<=L.length;omega,λz=>z⟩
 ·exact tg L s (by decide)
theorem bN {L:Ad} {s:RS} (h:(AY L s).kind≠0):s.at_<L.length:=by
 unfold AY at h;split at h
 ·exact absurd rfl h
 ·rename_i c;omega
theorem Ii (L:Ad) (s:RS) (w:Aj):Mv L s (Bm L s w).2:=ta λh=>Cg h
theorem OE (L:Ad) (s:RS) {k:Int} (r:k≠0):Mv L s (Bu L s k).2:=ta λh=>bN (by rw[of_decide_eq_true h];exact r)
theorem oA {L:Ad} {s:RS} {ws:List Aj} (h:ws.any (A5 L s)=true):s.at_<L.length:=by obtain⟨w,_,r⟩:=List.any_eq_true.1 h;exact Cg r
theorem XG (L:Ad) (s:RS) (ws:List Aj):Mv L s (Bs L s ws).2:=ta λh=>oA h
theorem Hw {L:Ad} {s:RS} (h:s.at_<L.length):Mv L s (A7 s):=⟨Ai4 s,by show s.at_<=s.at_+1;omega,λz r=>absurd z r,λ_=>by show s.at_+1<=L.length;omega,λz=>z⟩
theorem eO (L:Ad) (s:RS):Mv L s (down s):=⟨Ai5 s,H8 _,λz r=>absurd z r,λz=>z,λz=>z⟩
theorem Ajz (L:Ad) (s:RS) (w:Aj):Mv L s (Hu L s w):=by
 unfold Hu;split
 ·rename_i h;have:=tg L s (e:=5) (by decide) (.inr ⟨rfl,Cg h.1⟩);exact⟨⟨this.k.e,this.k.o⟩,this.a,this.w,this.b,this.i⟩
 ·exact⟨⟨λ_=>⟨rfl,rfl⟩,λ_=>rfl⟩,H8 _,λz r=>absurd z r,λz=>z,λz=>z⟩
theorem eR (L:Ad) (s:RS) (w:Aj):Mv L s (B6 L s w).2:=(Ajz L s w).tr (Ii L (Hu L s w) w)
theorem eP {F:Ad->PF} {L:Ad} (h:MF L (F L)):MF L (BP F L):=by intro s;unfold BP;exact CW (λ_=>JX L s) λ_=>h s
theorem tf (L:Ad):MF L (HG L):=λs=>OE L s (by decide)
theorem te (L:Ad):MF L (Gg L):=λs=>CW (λc=>Hw (bN (by rw[c];decide))) λ_=>XG L s _
theorem AjB {T B:Ad->PF} {L:Ad} (hT:MF L (T L)) (r:MF L (B L)):MF L (firstM T B L):=λs=>
 CW (λc=>Hw (bN (by rw[c];decide))) λ_=>CW (λc=>Hw (Cg c)) λ_=>CW (λc=>Hw (Cg c)) λ_=>CW (λc=>(Hw (Cg c)).tr (OE L _ (by decide))) λ_=>CW (λc=>(Hw (Cg c)).tr (eP r _)) λ_=>
  CW (λ_=>(eR L s Oc).tr ((eP hT _).tr ((Ii L _ V3).tr (eO L _)))) λ_=>tf L s
theorem AjC {T:Ad->PF} {L:Ad} (hT:MF L (T L)) (x:PT) (s:RS):Mv L s (RK T L x s).2:=(eR L s K2).tr ((eP hT _).tr ((Ii L _ V2).tr (eO L _)))
theorem AjA {L:Ad} (x:PT) {s:RS} (h:s.at_<L.length):Mv L s (Ub L x s).2:=(Hw h).tr (OE L _ (by decide))
theorem tc {T:Ad->PF} {L:Ad} (hT:MF L (T L)):∀(k:Nat) (x:PT) (s:RS),Mv L s (KW T L k x s).2
 |0,x,s=>JX L s
 |k+1,x,s=>by unfold KW;exact CW (λc=>(AjA x (Cg c)).tr (tc hT k _ _)) λ_=>CW (λ_=>(AjC hT x s).tr (tc hT k _ _)) λ_=>JX L s
theorem AjK {T r:Ad->PF} {L:Ad} (hT:MF L (T L)) (x:MF L (r L)):MF L (S9 T r L):=λs=>(x s).tr (tc hT _ _ _)
theorem AcB {U:Ad->PF} {L:Ad} (r:MF L (U L)) (k:Int) (s:RS):Mv L s (VX k U L s).2:=(eR L s _).tr ((eP r _).tr (eO L _))
theorem AjL {U x:Ad->PF} {L:Ad} (r:MF L (U L)) (hT:MF L (x L)):MF L (N9 U x L):=λs=>
 CW (λ_=>AcB r 35 s) λ_=>CW (λ_=>AcB r 34 s) λ_=>hT s
theorem Acs {F:Ad->PF} {L:Ad} (r:MF L (F L)) (x:PT) {s:RS} (h:s.at_<L.length):Mv L s (J0 F L x s).2:=(Hw h).tr (r _)
theorem Acu {F:Ad->PF} {L:Ad} {ws:List Aj} (r:MF L (F L)):∀(k:Nat) (x:PT) (s:RS),Mv L s (Hx F ws L k x s).2
 |0,x,s=>JX L s
 |k+1,x,s=>by unfold Hx;exact CW (λc=>(Acs r x (oA c)).tr (Acu r k _ _)) λ_=>JX L s
theorem Acx {F:Ad->PF} {L:Ad} {ws:List Aj} (r:MF L (F L)):MF L (J6 F ws L):=λs=>(r s).tr (Acu r _ _ _)
theorem AjJ {F:Ad->PF} {L:Ad} (r:MF L (F L)):MF L (Q0 F L):=λs=>CW (λc=>(r s).tr (Acs r _ (oA c))) λ_=>r s
theorem AjN {x:Ad->PF} {L:Ad} (hT:MF L (x L)):MF L (Tc x L):=λs=>(hT s).tr (GG (P:=λr:RS=>Mv L (x L s).2 r) (λ_=>tg L _ (by decide)) λ_=>JX L _)
theorem Acy {V T:Ad->PF} {L:Ad} (r:MF L (V L)) (hT:MF L (T L)) (t:TK):MF L (LJ V T L t):=λs=>(r s).tr ((Ii L _ _).tr ((hT _).tr (Ii L _ _)))
theorem AjD {T B:Ad->PF} {L:Ad} (hT:MF L (T L)) (r:MF L (B L)) (t:TK) (s:RS):Mv L s (dg T B L t s).2:=CW (λ_=>(hT s).tr (r _)) λ_=>CW (λc=>(hT s).tr ((r _).tr ((Hw (Cg c)).tr (r _)))) λ_=>(hT s).tr (r _)
theorem eS {V:Ad->PF} {L:Ad} (r:MF L (V L)) (k:Int) (x:Aj) (n:Int) (t:TK) (y:PT) (s:RS):Mv L s (Pe V L k x n t y s).2:=CW (λc=>(Hw (Cg c)).tr (r _)) λ_=>JX L s
theorem AjG {T V:Ad->PF} {L:Ad} (hT:MF L (T L)) (r:MF L (V L)) (t q:TK) (s:RS):Mv L s (fE T V L t q s).2:=CW (λc=>(hT s).tr ((Hw (Cg c)).tr ((OE L _ (by decide)).tr (eS r _ _ _ _ _ _)))) λ_=>CW (λc=>(hT s).tr ((Hw (Cg c)).tr (eS r _ _ _ _ _ _))) λ_=>(hT s).tr (eS r _ _ _ _ _ _)
theorem Acr {T B:Ad->PF} {L:Ad} (hT:MF L (T L)) (r:MF L (B L)) {s:RS} (h:s.at_<L.length):Mv L s (L4 T B L s).2:=(Hw h).tr (AjD hT r _ _)
theorem Acv {T V:Ad->PF} {L:Ad} (hT:MF L (T L)) (r:MF L (V L)) {s:RS} (h:s.at_<L.length):Mv L s (Mm T V L s).2:=CW (λ_=>(Hw h).tr ((OE L _ (by decide)).tr (AjG hT r _ _ _))) λ_=>(Hw h).tr ((hT _).tr (eS r _ _ _ _ _ _))
theorem UP {L:Ad} {s:RS} {r:PT×RS} (h:Mv L s r.2):Mv L s (HD L r).2:=h.tr (Ii L _ _)
theorem AjO {T:Ad->PF} {L:Ad} (hT:MF L (T L)) (t:TK) (k:TK×RS):Mv L k.2 (ie T L t k).2:=(te L k.2).tr ((Ii L _ _).tr (hT _))
theorem AjI {T V B:Ad->PF} {L:Ad} (hT:MF L (T L)) (x:MF L (V L)) (J:MF L (B L)):MF L (N7 (λL t=>LJ V T L t) (L4 T B) (Mm T V) T L):=λs=>by
 by_cases y:(AY L s).kind=2
 ·have hl:s.at_<L.length:=bN (by rw[y];decide);have r:∀k,Mv L s (HD L (OH T L k (AY L s) (A7 s))).2:=λk=>UP ((Hw hl).tr (hT _));have z:∀k,Mv L s (HD L (R1 L k (AY L s) (A7 s))).2:=λk=>UP ((Hw hl).tr (OE L _ (by decide)));unfold N7;exact CW (λh=>absurd y h) λ_=>CW (λ_=>Acr hT J hl) λ_=>CW (λ_=>Acr hT J hl) λ_=>CW (λ_=>UP ((Hw hl).tr ((OE L _ (by decide)).tr (AjO hT _ _)))) λ_=>CW (λ_=>r 15) λ_=>CW (λ_=>r 16) λ_=>CW (λ_=>r 17) λ_=>
   CW (λ_=>r 18) λ_=>CW (λ_=>UP (Acv hT x hl)) λ_=>CW (λ_=>UP (Acv hT x hl)) λ_=>CW (λ_=>z 21) λ_=>CW (λ_=>z 22) λ_=>CW (λ_=>UP (Hw hl)) λ_=>Acy x hT _ s
 ·unfold N7;exact CW (λ_=>Acy x hT _ s) λh=>absurd (Classical.not_not.1 h) y
theorem eM {St:Ad->PF} {L:Ad} (r:MF L (St L)):∀(k:Nat) (l:Bg) (s:RS),Mv L s (Eu St L k l s).2
 |0,l,s=>JX L s
 |k+1,l,s=>by unfold Eu;exact CW (λ_=>(r s).tr (eM r k _ _)) λ_=>JX L s
theorem Ajw {St:Ad->PF} {L:Ad} (r:MF L (St L)):MF L (Rn St L):=λs=>(eR L s _).tr ((eM r _ _ _).tr ((Ii L _ _).tr (eO L _)))
theorem AcA {L:Ad} {x:LV} (h:To L x):MF L (YW x L):=AjK h.t (AjB h.t h.b)
theorem AcC {L:Ad} {x:LV} (h:To L x):MF L (VW x L):=AjL h.u (AcA h)
theorem Acz {L:Ad} {x:LV} (h:To L x):MF L (I4 x L):=AjJ (Acx (F:=J6 (VW x) [LO]) (Acx (AcC h)))
theorem AjM {L:Ad} {x:LV} (h:To L x):MF L (Pg x L):=AjN (AcA h)
theorem AjH {L:Ad} {x:LV} (h:To L x):MF L (QY x L):=AjI (Acz h) (AjM h) h.b
theorem eQ (L:Ad):∀n,To L (lv n)
 |0=>⟨λs=>JX L s,λs=>JX L s,λs=>JX L s⟩
 |n+1=>⟨AcC (eQ L n),Acz (eQ L n),Ajw (AjH (eQ L n))⟩
theorem AjF (L:Ad):MF L (OD L):=λs=>(OE L s (by decide)).tr ((te L _).tr (Ii L _ _))
theorem AjE {B:Ad->PF} {L:Ad} (r:MF L (B L)):MF L (JU B L):=λs=>(XG L s _).tr (r _)
theorem Ajy {B:Ad->PF} {L:Ad} (r:MF L (B L)) (t:TK) (x:Aj):MF L (Ua B L t x):=λs=>by
 unfold Ua;exact CW (λ_=>Ii L _ _) λ_=>CW (λ_=>(te L _).tr (Ii L _ _)) λ_=>CW (λ_=>r _) λ_=>CW (λ_=>(Ii L _ _).tr ((eM (AjF L) _ _ _).tr (Ii L _ _))) λ_=>
   CW (λ_=>(Ii L _ _).tr ((tf L _).tr ((XG L _ _).tr (r _)))) λ_=>(Ii L _ _).tr ((tf L _).tr ((Ii L _ _).tr ((eM (AjE r) _ _ _).tr (Ii L _ _))))
theorem Ajx {B:Ad->PF} {L:Ad} (r:MF L (B L)):MF L (M6 B L):=λs=>
 CW (λ_=>(XG L s _).tr (r _)) λ_=>(XG L s _).tr ((OE L _ (by decide)).tr (Ajy r _ _ _))
theorem Acw {D:Ad->PF} {L:Ad} (hD:MF L (D L)):∀(k:Nat) (l:Bg) (s:RS),Mv L s (P8 D L k l s).2
 |0,l,s=>JX L s
 |k+1,l,s=>by unfold P8;exact CW (λ_=>(hD s).tr (Acw hD k _ _)) λ_=>JX L s
theorem Sr.tr {L:Ad} {s r u:RS} (h:Sr s r) (k:Mv L r u):Sr s u:=λz x=>by have:r.err=0:=Classical.byContradiction λc=>absurd x (by rw[(k.k.e c).1];exact c);have:=h z this;have:=k.a;omega
theorem Sr.of {L:Ad} {s r u:RS} (h:Mv L s r) (g:Mv L r u) (k:Sr r u):Sr s u:=λz x=>by have:r.err=0:=Classical.byContradiction λc=>absurd x (by rw[(g.k.e c).1];exact c);have:=k this x;have:=h.a;omega
def ApZ (p:Nat) (L:Ad) (I:Bg×RS->Prop) (ks:List Nat) (r:Nat):B0:={X:=Bg×RS,T:=λs _ x=>(r,.AR s.nx x.1.length 1)::Ig s ks,H:=λs n0 x=>(s.nx,Gf (Bz x.1))::(p,Bw (vK L) x.2)::AbQ s [p],nx:=λs _=>s.nx+1,I:=λs x=>I x,m:=λx=>Fc L x.2}
def rE:Ft:=λH nx args=>match args with
 | [.int .i64 k,x,.int .i64 n,.agg [.int .i64 a,y,.int .i64 c,.int .i64 d,.int .i64 e],w]=>ob (QZ y) λb=>cr H nx [.int .i64 k,x,.int .i64 n,.agg [.int .i64 a,.bs b,.int .i64 c,.int .i64 d,.int .i64 e],w]
 |_=>none
theorem Ald:BH Tryz.prog 59 rE:=by
 intro H nx args hc z p v up nx' B E F ρ w r;unfold rE at z;split at z
 ·rename_i k x n a y c d e ws;obtain⟨b,hb,z⟩:=Ai.1 z;have J:=Ac3 H nx _ hc z p v up nx' B E F ρ w r;exact⟨J.1,λvs Az=>J.2 vs (I5 (Ke _) (I5 (Ke _) (I5 (Ke _) (I5 (AqE (I5 (Ke _) (I5 (wR hb) (I5 (Ke _) (I5 (Ke _) (I5 (Ke _) ic)))))) (I5 (Ke _) ic)))) ρ vs Az)⟩
 ·cases z
def zW (n:Nat) (D:Ad->PF) (h:E8 58 n D) (L:Ad):Ctx:={P:=Tryz.prog,tb:=[],ht:=(59,rE)::UB 58 n D,AA:=Dj Ald (Xo h),lp:=λf r=>cond (Nat.beq f 32) (cond (Nat.beq r 3) (some (ApZ (0+1) L (λx=>Kj L (P8 D L) (XP D L Ip) 0 4 Ip x) [0,2,3,4] 5)) none) none,cut:=λ_ _=>none}
@[reducible] def kQ:Ad->Prop:=λ(L:Ad)=>Aa/\Ae L.length/\Ar λ(i:Nat)=>BQ i L.length->(Aa/\Ae (TK.kind (getD L i TK.zero)))/\Ae (TK.text (getD L i TK.zero))/\(Aa/\Ae (TK.num (getD L i TK.zero)))/\(Aa/\Ae (TK.line (getD L i TK.zero)))/\(Aa/\Ae (TK.Av (getD L i TK.zero)))/\True
@[reducible] def Zz:Ad->Prop:=λ(L:Ad)=>True/\kQ L
@[reducible] def kR:Ad->Prop:=λ(L:Ad)=>kQ L/\qR/\True/\Ik/\True
def Sq (a:Ad) (b:RS) (c:Nat):=getD (AF (LL a b)) c d0
@[reducible] def xT:Ad->PT×RS->Bg×RS->Prop:=λ(L:Ad) (t:PT×RS) (a:Bg×RS)=>(DE/\((Ae (AV.agg [AV.int .i64 (0:Int),AV.int .i64 (0:Int),AV.int .i64 (RS.err a.2)])/\True)/\True)/\True)/\(List.length (AF (Kb t))=0/\True)/\(Aa/\1=List.length (AF (LL L t.2))/\Ar λ(i:Nat)=>BQ i 1->(Aa/\(0:Int)=Dg.line (Sq L t.2 i))/\(Aa/\(0:Int)=Dg.Av (Sq L t.2 i))/\(Aa/\RS.err a.2=Dg.err (Sq L t.2 i))/\True)/\True
def X4 (a:Ad) (b:RS):=getD a (Int.toNat (RS.BE b)) TK.zero
@[reducible] def xU:Ad->PT×RS->Bg×RS->Prop:=λ(L:Ad) (t:PT×RS) (a:Bg×RS)=>(DE/\((Ae (AV.agg [AV.int .i64 (TK.line (X4 L a.2)),AV.int .i64 (TK.Av (X4 L a.2)),AV.int .i64 (RS.err a.2)])/\True)/\True)/\True)/\(List.length (AF (Kb t))=0/\True)/\(Aa/\1=List.length (AF (LL L t.2))/\Ar λ(i:Nat)=>BQ i 1->(Aa/\TK.line (X4 L a.2)=Dg.line (Sq L t.2 i))/\(Aa/\TK.Av (X4 L a.2)=Dg.Av (Sq L t.2 i))/\(Aa/\RS.err a.2=Dg.err (Sq L t.2 i))/\True)/\True
def fM (a:Bg×RS) (b:Bg):=Be (1:Int) [] (0:Int) (TK.mk (0:Int) [] (0:Int) (1:Int) (1:Int)) (Ca a.1.length λ(r:Nat)=>F7 (ED (Bz b) r))
def Ql (a:PT×RS) (b:Nat):=getD (AF (Kb a)) b LT.none
def OS (a:Bg×RS) (b:Bg) (c:Nat):=getD (fM a b) c LT.none
@[reducible] def xV:Ad->PT×RS->Bg×RS->Prop:=λ(L:Ad) (t:PT×RS) (a:Bg×RS)=>(Nat.blt 2 4=true/\(Nt a a.1)/\BW a.1.length λ(i:Nat)=>F7 (Hz a.1 i))/\((Aa/\List.length (fM a a.1)=List.length (AF (Kb t))/\Ar λ(i:Nat)=>BQ i (List.length (fM a a.1))->(Aa/\LT.kind (OS a a.1 i)=LT.kind (Ql t i))/\LT.text (OS a a.1 i)=LT.text (Ql t i)/\(Aa/\LT.n (OS a a.1 i)=LT.n (Ql t i))/\(Aa/\LT.line (OS a a.1 i)=LT.line (Ql t i))/\(Aa/\LT.Av (OS a a.1 i)=LT.Av (Ql t i))/\(Aa/\List.length (LT.kids (OS a a.1 i))=List.length (LT.kids (Ql t i))/\Ar λ(r:Nat)=>BQ r (List.length (LT.kids (OS a a.1 i)))->(Aa/\getD (LT.kids (OS a a.1 i)) r (0:Int)=getD (LT.kids (Ql t i)) r (0:Int))/\True)/\True)/\True)/\List.length (AF (LL L t.2))=0/\True
def uQ (a:RS) (b:Ad) (c:PT×RS) (d:Bg×RS):=KE a (xV b c d) (Ag (AP (RS.BE a) (Int.ofNat b.length)) (Ap (AO (RS.BE a) b.length) (Ap (AO (RS.BE a) b.length) (xU b c d))) (xT b c d))
def ff (a:Ad) (b:Ad->PF):=Kj a (P8 b a) (XP b a Ip) (0:Int) (4:Int) Ip
theorem Aos:∀(L:Ad) (n:Nat) (D:Ad->PF),E8 (58:FuncId) n D->∀(t:PT×RS),Nat.le L.length 100000->Nat.le (Nat.succ L.length) n->(∀(L:Ad) (s:RS),A9 L n s->Cs L (3:Int) (4:Int) s (D L s))->(∀(s:RS),Mv L s (Prod.snd (D L s)))->t=fG D L Ip->(∃(B:Bg×RS),ff L D B/\Aa/\(B.1.length=0/\kR L)/\(Aa/\True)/\(Aa/\Aa/\Aa/\Aa/\(((Zz L/\Aa/\(0:Int)=RS.at_ B.2)/\Aa/\(0:Int)=RS.nest B.2)/\Aa/\(0:Int)=RS.err B.2)/\Aa/\(0:Int)=RS.BE B.2)/\(Aa/\Aa/\Aa/\Aa/\True/\True)/\True)/\∀(x:Bg×RS),ff L D x->KE x.2 (Ag (AP (RS.at_ x.2) (Int.ofNat L.length)) (((Qo L n x.2)/\Aa/\Aa/\(Ik/\True)/\(Aa/\Aa/\Aa/\(((Zz L/\Aa/\Ae (RS.at_ x.2))/\Aa/\Ae (RS.nest x.2))/\Aa/\Ae (RS.err x.2))/\Aa/\Hc x.2)/\True)/\∀(y:PT×RS),y=DF D L x.2->R8 x x.1 (∃(z:Bg×RS),ff L D z/\J3 L z.2 x.2/\Aa/\((Ae (some 5)/\x.1.length+1=z.1.length/\Aa)/\kR L)/\(Aa/\Aa/\Aa/\Aa/\(Mw x)*1=NA z.1/\Ar λ(i:Nat)=>Gs i ((Mw x)*1)->AZ [(1,1),(0,0),(2,5)] (Hz z.1 i) (BA x.1.length (Hz x.1) (λ(x:Nat)=>[vW (flat y.1)]) i))/\(Aa/\Aa/\Aa/\Aa/\(((Zz L/\Aa/\RS.at_ y.2=RS.at_ z.2)/\Aa/\RS.nest y.2=RS.nest z.2)/\Aa/\RS.err y.2=RS.err z.2)/\Aa/\RS.BE y.2=RS.BE z.2)/\(Aa/\Aa/\Aa/\Aa/\True/\True)/\True)) (uQ x.2 L t x)) (uQ x.2 L t x)
:=by
 delta R8 Gs KE Ik J3 uQ Hz NA Qo ff Hc DF Mw;intro L n D AA t hl hn hD hM ht;simp only[Bq,kQ,Zz,kR,xT,xU,xV,BQ,qR,Ik,DE,Sq,X4,fM,Nt,Ql,Hz,OS];simp only[Dt];have hl:L.length<=100000:=hl;have hn:L.length<n:=hn;have S:=Aqn hl;have ps:Ip.err=0->A9 L n Ip:=λ_=>⟨S.ok,by decide,by show(L.length:Int)-0<n;omega⟩;refine⟨⟨([],Ip),⟨⟨EW L,UN S.ok,rfl⟩,XN S.ok (by decide)⟩,rfl,⟨⟨rfl,rfl⟩,rfl⟩,rfl⟩,λx R=>?_⟩;obtain⟨⟨k,hk,r⟩,Y⟩:=R;have bx:=Y.EI S.ok (by decide);have aa:=RT x.1;cases k with
 |zero=>omega
 |succ k=>
 unfold P8 at r;have W:¬(x.2.err=0/\x.2.at_<L.length)->XP D L Ip=x:=λh=>by rw[An h]at r;exact r.symm
 refine Ao (λJ=>Ao (λU=>?_) λU=>?_) λJ=>?_
 ·rw[Ba]at J;rw[Bd]at U;obtain⟨d0,d1,d2⟩:=oE (by decide) hD (l:=x.1) (s:=x.2) Y ps J;rw[As ⟨J,U⟩]at r;refine⟨A4 d0,λy hy=>?_⟩;subst hy;exact Am (dV (by rw[L9];exact AH _) (by omega)) ⟨(x.1++[(D L x.2).1],(D L x.2).2),⟨⟨k,by show Fc L (D L x.2).2<k;omega,r⟩,d1⟩,d2,by rw[E6,List.length_singleton],gr x.1 _ rfl,⟨⟨rfl,rfl⟩,rfl⟩,rfl⟩
 all_goals
  have K:¬(x.2.err=0/\x.2.at_<L.length):=by
   first
    |exactλh=>by have:=Bl.1 U;omega
    |exactλh=>BB.1 J h.1
  have R:=W K;have mv:Mv L Ip x.2:=by have:=Acw hM (EW L) [] Ip;rwa[show P8 D L (EW L) [] Ip=x from R]at this
  obtain rfl:t=(nd 1 [] 0 iU x.1,x.2):=by rw[ht];unfold fG;rw[R]
  refine Ao (λe=>?_) λe=>?_
  ·have e:x.2.err=0:=Ba.1 e;obtain⟨h1,h2,h3⟩:=tkN (show DH x.1<=1000000 by omega);have V:Kb (nd 1 [] 0 iU x.1,x.2)=Be 1 [] 0 ⟨0,[],0,1,1⟩ (Ca x.1.length λi=>F7 (ED (Bz x.1) i)):=by unfold Kb;rw[As e,h3];exact Ox _ _ _ _ _
   have hd:LL L x.2=[]:=by unfold LL;rw[As e]
   rw[V,hd];exact⟨⟨by decide,⟨by rw[L9];exact AH _,h1⟩,h2⟩,⟨rfl,⟨λi _=>⟨rfl,rfl,rfl,rfl,rfl,rfl,⟨λj _=>rfl⟩⟩⟩⟩,rfl⟩
  ·have e:x.2.err≠0:=BB.1 e;have Z:0<=x.2.BE:=mv.w rfl e;have V:Kb (nd 1 [] 0 iU x.1,x.2)=[]:=by unfold Kb;rw[An e]
   have hd:LL L x.2=[⟨UG L x.2,T6 L x.2,x.2.err⟩]:=by unfold LL;rw[An e]
   rw[V,hd];refine Ao (λq=>?_) λq=>?_
   ·have q:=Bd.1 q;refine Am (AK.2 ⟨Z,q⟩) (Am (AK.2 ⟨Z,q⟩) ⟨rfl,rfl,⟨λi hi=>?_⟩⟩);obtain rfl:i=0:=by omega
    exact⟨by show _=UG L x.2;unfold UG;rw[As q],by show _=T6 L x.2;unfold T6;rw[As q],rfl⟩
   ·have q:=Bl.1 q;refine⟨rfl,rfl,⟨λi hi=>?_⟩⟩;obtain rfl:i=0:=by omega
    exact⟨by show _=UG L x.2;unfold UG;rw[An (by omega)],by show _=T6 L x.2;unfold T6;rw[An (by omega)],rfl⟩
theorem Aor:∀(L:Ad) (n:Nat) (D:Ad->PF) (AA:E8 58 n D) (t:PT×RS),L.length<=100000->L.length<n->GF n 3 4 D->MF L (D L)->t=fG D L Ip->(A3 (zW n D AA L) 60).call 32 [vK L] .leaf 0 (BS Tryz.prog false (Ae6 L t)):=Eq.mpr (by kernel_rfl) Aos
theorem Akk (n:Nat):BH Tryz.prog 58 (sF n (M6 (lv n).b)):=Akj ⟨(Acb n).hb⟩ (eD n).b
theorem AkW:BC Tryz.prog 32 rC:=by
 refine zt (gl:=[]) (ng:=0) AS λH args ct r=>?_;unfold rC at r;split at r
 ·rename_i n f;injection r with r;refine⟨AS,_,_,r.symm,λx=>⟨[vK (GO n f)],I5 (AqF x.f) ic,⟨AqO [] (GO n f) Ip,trivial⟩,?_⟩⟩;have hl:(GO n f).length<=100000:=by rw[show(GO n f).length=n by simp[GO]];exact x.len
  refine⟨zW 100001 (M6 (lv 100001).b) ⟨Akk _⟩ (GO n f),60,rfl,Dq,Bk,?_⟩;rw[Aqm];exact Aor _ _ _ _ _ hl (Nat.lt_succ_of_le hl) (Ahe _) (Ajx (eQ _ _).b) rfl
 ·cases r
def AeW:DQ:=(31,pJ)::(32,rC)::[]
def zV:Ctx:={P:=Tryz.prog,tb:=AeW,lp:=λ_ _=>none,cut:=λ_ _=>none}
theorem Aqc:EU Tryz.prog AeW:=BD Aj7 (BD AkW Bk)
def qW (a:Aj):=(GO (List.length (Prod.fst (FH a))) λ(r:Nat)=>KY (getD (Prod.fst (FH a)) r t0))
def OO (a:Aj) (b:Nat):=getD (AF (Kb (MO (qW a)))) b LT.none
def Qm (a:Aj) (b:Nat):=getD (AF (Np a)) b LT.none
def U4 (a:Aj):=AF (LL (qW a) (Prod.snd (MO (qW a))))
def Sn (a:Aj) (b:Nat):=getD (AF (OJ a)) b d0
def Sl (a:Aj):=Prod.snd (FH a)
theorem Aoq:∀(l:Aj),Nat.le l.length 100000->Nat.le l.length 1000000/\Ag (AP (0:Int) (Int.ofNat (List.length (Sl l)))) ((List.length (AF (Np l))=0/\True)/\(Aa/\List.length (Sl l)=List.length (AF (OJ l))/\Ar λ(i:Nat)=>BQ i (List.length (Sl l))->(Aa/\Dg.line (getD (Sl l) i d0)=Dg.line (Sn l i))/\(Aa/\Dg.Av (getD (Sl l) i d0)=Dg.Av (Sn l i))/\(Aa/\Dg.err (getD (Sl l) i d0)=Dg.err (Sn l i))/\True)/\True) ((ZE (List.length (Prod.fst (FH l))) λ(k:Nat)=>KY (getD (Prod.fst (FH l)) k t0))/\((Aa/\List.length (AF (Kb (MO (qW l))))=List.length (AF (Np l))/\Ar λ(i:Nat)=>BQ i (List.length (AF (Kb (MO (qW l)))))->(Aa/\LT.kind (OO l i)=LT.kind (Qm l i))/\LT.text (OO l i)=LT.text (Qm l i)/\(Aa/\LT.n (OO l i)=LT.n (Qm l i))/\(Aa/\LT.line (OO l i)=LT.line (Qm l i))/\(Aa/\LT.Av (OO l i)=LT.Av (Qm l i))/\(Aa/\List.length (LT.kids (OO l i))=List.length (LT.kids (Qm l i))/\Ar λ(r:Nat)=>BQ r (List.length (LT.kids (OO l i)))->(Aa/\getD (LT.kids (OO l i)) r (0:Int)=getD (LT.kids (Qm l i)) r (0:Int))/\True)/\True)/\True)/\(Aa/\List.length (U4 l)=List.length (AF (OJ l))/\Ar λ(i:Nat)=>BQ i (List.length (U4 l))->(Aa/\Dg.line (getD (U4 l) i d0)=Dg.line (Sn l i))/\(Aa/\Dg.Av (getD (U4 l) i d0)=Dg.Av (Sn l i))/\(Aa/\Dg.err (getD (U4 l) i d0)=Dg.err (Sn l i))/\True)/\True)
:=by
 delta qW BQ OO Qm U4 Sn Sl;intro l hl;simp only[Bq];have hl:l.length<=100000:=hl;have z:=ApL l;rw[Al5,<-Aqj];refine⟨by omega,Ao (λc=>?_) λc=>⟨Aqi _ (by omega),?_⟩⟩
 ·have c:(FH l).2.length≠0:=by have:=Bd.1 c;omega
  have y:Np l=[]:=by unfold Np;rw[An c]
  have x:OJ l=(FH l).2:=by unfold OJ;rw[An c]
  rw[y,x];exact⟨rfl,rfl,⟨λi _=>⟨rfl,rfl,rfl⟩⟩⟩
 ·have c:(FH l).2.length=0:=by have:=Bl.1 c;omega
  have y:Np l=Kb (MO (Q2 l)):=by unfold Np;rw[As c]
  have x:OJ l=LL (Q2 l) (MO (Q2 l)).2:=by unfold OJ;rw[As c]
  rw[y,x];exact⟨⟨rfl,⟨λi _=>⟨rfl,rfl,rfl,rfl,rfl,rfl,⟨λj _=>rfl⟩⟩⟩⟩,rfl,⟨λi _=>⟨rfl,rfl,rfl⟩⟩⟩
theorem Aop:∀(l:Aj),l.length<=100000->(A3 zV 60).call 11 [.bv l] .leaf 0 (BS Tryz.prog false (Adn l)):=Eq.mpr (by kernel_rfl) Aoq
theorem AkV:BC Tryz.prog 11 pg:=by
 refine Cw (gl:=[]) (ng:=0) AS λH args ct r=>?_;unfold pg at r;split at r
 ·rename_i l;injection r with r;exact⟨AS,_,_,r.symm,λx=>⟨⟨rfl,trivial⟩,zV,60,rfl,Dq,Aqc,Aop l x⟩⟩
 ·cases r
end Go.Proofs.YthallodoidghoaaGreat
end
end
