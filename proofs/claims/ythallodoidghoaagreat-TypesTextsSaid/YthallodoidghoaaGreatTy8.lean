/- Laid by program out of its parts: TyAB, TyAC, TyAD. -/
import Derived.Test.YthallodoidghoaaGreatTy7
import Derived.Test.YthallodoidghoaaGreatMj
import Derived.OpenShut
noncomputable section
set_option linter.unusedVariables false
set_option linter.unusedSimpArgs false
section
set_option maxRecDepth 100000
set_option maxHeartbeats 2000000
open Go Go.Ev
namespace Go.Proofs.YthallodoidghoaaGreat
theorem AcF {k:Int} (h:k≠31/\k≠34/\k≠35/\k≠15/\k≠19/\k≠20/\k≠16/\k≠17/\k≠18/\k≠23/\k≠24/\k≠32):Cu k=[]:=by
 unfold Cu US;simp only[EK]
 repeat rw[An (by omega)]
 rfl
theorem YL {L:Ac} {M:List (Int×Int)} {C X:Af} {t:Ab} (h:t.kind≠13/\t.kind≠14/\(t.kind≠32\/t.text≠[61,61])/\t.kind≠30/\(t.kind≠19/\t.kind≠20\/JB M t.kids 1=true)): Gz L M C X t=decide (∀i:Nat,i<(Cu t.kind).length->i<t.kids.length->Bo X t.kids i=(Cu t.kind).getD i 0\/Bo X t.kids i=Du):=by
 unfold Gz;rw[An h.1,An h.2.1,An (by rintro⟨a,b⟩;rcases h.2.2.1 with g|g;exact g a;exact g b),An h.2.2.2.1,An (by
  rintro⟨a,b⟩;rcases h.2.2.2.2 with g|g
  ·rcases a with a|a
   ·exact g.1 a
   ·exact g.2 a
  ·rw[g]at b;cases b)]
theorem Al1 {L:Ac} {M:List (Int×Int)} {C X x:Af} {H:List Bool} {i:Nat} (y:Good L) (hM:BM L M) (hi:i<L.length) (V:0<(L.getD i Ab.none).kids.length->B9 (L.getD (A8 L i 0) Ab.none).kind=true->MY (X.getD (A8 L i 0) 0) (x.getD (A8 L i 0) 0) (H.getD (A8 L i 0) false)) (v0:0<(L.getD i Ab.none).kids.length->B9 (L.getD (A8 L i 0) Ab.none).kind=false->X.getD (A8 L i 0) 0=CG L M (A8 L i 0)) (r1:1<(L.getD i Ab.none).kids.length->B9 (L.getD (A8 L i 1) Ab.none).kind=true->MY (X.getD (A8 L i 1) 0) (x.getD (A8 L i 1) 0) (H.getD (A8 L i 1) false)): DX L M C X i=CC L M C x H i:=by
 have W:Bo X (L.getD i Ab.none).kids 0=X.getD (A8 L i 0) 0:=rfl;have k1:Bo X (L.getD i Ab.none).kids 1=X.getD (A8 L i 1) 0:=rfl;have z:∀ {w:Int},w<=5->w≠Du:=λh=>by unfold Du;omega
 have one:∀ {w:Int},Cu (L.getD i Ab.none).kind=[w]->w<=5->0<(L.getD i Ab.none).kids.length/\B9 (L.getD (A8 L i 0) Ab.none).kind=true->
   decide (∀q:Nat,q<(Cu (L.getD i Ab.none).kind).length->q<(L.getD i Ab.none).kids.length->Bo X (L.getD i Ab.none).kids q=(Cu (L.getD i Ab.none).kind).getD q 0\/Bo X (L.getD i Ab.none).kids q=Du)=F8 x H (A8 L i 0) w:=λS R h=>by
  rw[AjU S h.1,W,gj (V h.1 h.2) (z R)];rfl
 have Y:∀ {w v:Int},Cu (L.getD i Ab.none).kind=[w,v]->w<=5->v<=5->B9 (L.getD (A8 L i 0) Ab.none).kind=true->1<(L.getD i Ab.none).kids.length/\B9 (L.getD (A8 L i 1) Ab.none).kind=true->
   decide (∀q:Nat,q<(Cu (L.getD i Ab.none).kind).length->q<(L.getD i Ab.none).kids.length->Bo X (L.getD i Ab.none).kids q=(Cu (L.getD i Ab.none).kind).getD q 0\/Bo X (L.getD i Ab.none).kids q=Du)=(F8 x H (A8 L i 0) w&&F8 x H (A8 L i 1) v):=λS R hv B h=>by
  rw[AjV S h.1,W,k1,gj (V (by omega) B) (z R),gj (r1 h.1 h.2) (z hv)];rfl
 have av:∀ {w v:Int},Cu (L.getD i Ab.none).kind=[w,v]->w<=5->B9 (L.getD (A8 L i 0) Ab.none).kind=true->(L.getD i Ab.none).kids.length=1->
   decide (∀q:Nat,q<(Cu (L.getD i Ab.none).kind).length->q<(L.getD i Ab.none).kids.length->Bo X (L.getD i Ab.none).kids q=(Cu (L.getD i Ab.none).kind).getD q 0\/Bo X (L.getD i Ab.none).kids q=Du)=F8 x H (A8 L i 0) w:=λS R B h=>by
  rw[AjW S h,W,gj (V (by omega) B) (z R)];rfl
 have post:∀ {w v:Int},Cu (L.getD i Ab.none).kind=[w,v]->w<=5->v<=5->((L.getD i Ab.none).kind=19\/(L.getD i Ab.none).kind=20)->DX L M C X i=(F8 x H (A8 L i 0) w&&(decide ((L.getD i Ab.none).kids.length=1)||Hv M (A8 L i 1)&&F8 x H (A8 L i 1) v)):=λS R hv r=>by
  have B:=JS y hi (by omega);have hS:JB M (L.getD i Ab.none).kids 1=(decide ((L.getD i Ab.none).kids.length<=1)||Hv M (A8 L i 1)):=by unfold JB;congr 1;exact decide_eq_decide.2 (by omega)
  rcases Ai7 y hi r with U|⟨U,h2⟩
  ·rw[show DX L M C X i=_ from YL (t:=L.getD i Ab.none) ⟨by omega,by omega,.inl (by omega),by omega,.inr (by rw[hS,U];rfl)⟩,av S R B.2 U,U];simp
  ·rw[U,show decide (2<=1)=false from rfl,Bool.false_or]at hS;rw[U,show decide (2=1)=false from rfl,Bool.false_or];cases hf:Hv M (A8 L i 1)with
   |true=>rw[show DX L M C X i=_ from YL (t:=L.getD i Ab.none) ⟨by omega,by omega,.inl (by omega),by omega,.inr (by rw[hS,hf])⟩,Y S R hv B.2 ⟨by omega,h2⟩,Bool.true_and]
   |false=>unfold DX Gz;rw[An (by omega),An (by omega),An (by rintro⟨a,b⟩;omega),An (by omega),As ⟨r,by rw[hS,hf]⟩];simp
 have au:(L.getD i Ab.none).kind≠13->(L.getD i Ab.none).kind≠14->(L.getD i Ab.none).kind≠32->(L.getD i Ab.none).kind≠30->(L.getD i Ab.none).kind≠19->(L.getD i Ab.none).kind≠20-> DX L M C X i=decide (∀q:Nat,q<(Cu (L.getD i Ab.none).kind).length->q<(L.getD i Ab.none).kids.length->Bo X (L.getD i Ab.none).kids q=(Cu (L.getD i Ab.none).kind).getD q 0\/Bo X (L.getD i Ab.none).kids q=Du):=λU h2 h3 h4 h5 h6=>YL (t:=L.getD i Ab.none) ⟨U,h2,.inl h3,h4,.inl ⟨h5,h6⟩⟩;generalize r:(L.getD i Ab.none).kind=k at*;by_cases ar:k=13
 ·subst ar;have ht:=Xy y hi (.inl r);have hv:=Ai8 y hi r;have J:CC L M C x H i=JK x H (A8 L i 1) (CG L M ((L.getD i Ab.none).kids.getD 0 0)):=by unfold CC;dsimp only;rw[r];rfl
  have eT:DX L M C X i=G5 (Bo X (L.getD i Ab.none).kids 1) (Bo X (L.getD i Ab.none).kids 0):=by unfold DX Gz;rw[r];rfl
  have hc:((A8 L i 0:Nat):Int)=(L.getD i Ab.none).kids.getD 0 0:=by have:=Xu y hi (j:=0) (by omega);unfold A8;omega
  rw[eT,J,W,k1,v0 (by omega) hv,hc,AlO (r1 (by omega) ht.2) (di (UW hM _))];rfl
 by_cases aq:k=14
 ·subst aq;have ht:=Xy y hi (.inr (.inl r));have B:=JS y hi (.inl r);have J:CC L M C x H i=(Hv M (A8 L i 0)&&(!H.getD (A8 L i 0) false||JK x H (A8 L i 1) (x.getD (A8 L i 0) 0))):=by unfold CC;dsimp only;rw[r];rfl
  have eT:DX L M C X i=(JB M (L.getD i Ab.none).kids 0&&G5 (Bo X (L.getD i Ab.none).kids 1) (Bo X (L.getD i Ab.none).kids 0)):=by unfold DX Gz;rw[r];rfl
  have hS:JB M (L.getD i Ab.none).kids 0=Hv M (A8 L i 0):=by unfold JB;rw[E7 (by omega),Bool.false_or];rfl
  rw[eT,J,hS,W,k1,v8 (r1 (by omega) ht.2) (V B.1 B.2)];unfold JK;cases H.getD (A8 L i 0) false<;>cases H.getD (A8 L i 1) false<;>rfl
 by_cases Z:k=32
 ·subst Z;have ht:=Xy y hi (.inr (.inr (.inr r)));have B:=JS y hi (by omega);by_cases K:(L.getD i Ab.none).text=[61,61]
  ·have J:CC L M C x H i=(!H.getD (A8 L i 0) false|| !H.getD (A8 L i 1) false||Gl (x.getD (A8 L i 0) 0) (x.getD (A8 L i 1) 0)||Gl (x.getD (A8 L i 1) 0) (x.getD (A8 L i 0) 0)):=by unfold CC;dsimp only;rw[r,K];rfl
   have eT:DX L M C X i=(G5 (Bo X (L.getD i Ab.none).kids 0) (Bo X (L.getD i Ab.none).kids 1)||G5 (Bo X (L.getD i Ab.none).kids 1) (Bo X (L.getD i Ab.none).kids 0)):=by unfold DX Gz;rw[r,K];rfl
   rw[eT,J,W,k1,v8 (r1 (by omega) ht.2) (V B.1 B.2),v8 (V B.1 B.2) (r1 (by omega) ht.2)];cases H.getD (A8 L i 0) false<;>cases H.getD (A8 L i 1) false<;>simp
  ·have J:CC L M C x H i=(F8 x H (A8 L i 0) 1&&F8 x H (A8 L i 1) 1):=by unfold CC;dsimp only;rw[r];exact(As (c:=(L.getD i Ab.none).text≠[61,61]) K)
   rw[J,<-Y rfl (by decide) (by decide) B.2 ⟨by omega,ht.2⟩,<-r];exact YL (t:=L.getD i Ab.none) ⟨by omega,by omega,.inr K,by omega,.inl ⟨by omega,by omega⟩⟩
 by_cases ag:k=30
 ·subst ag;have B:=JS y hi (by omega);have J:CC L M C x H i=(!H.getD (A8 L i 0) false||decide (0<=(Ea L M C (x.getD (A8 L i 0) 0) (L.getD i Ab.none).text).1)):=by unfold CC;dsimp only;rw[r];rfl
  have eT:DX L M C X i=(decide (Bo X (L.getD i Ab.none).kids 0=Du)||decide (0<=(Ea L M C (Bo X (L.getD i Ab.none).kids 0) (L.getD i Ab.none).text).1)):=by unfold DX Gz;rw[r];rfl
  rw[eT,J,W];rcases V B.1 B.2 with⟨a,b⟩|⟨a,b,c⟩
  ·rw[a,b];simp
  ·rw[a,E7 c,b];rfl
 by_cases ab:k=19
 ·subst ab;rw[post rfl (by decide) (by decide) (.inl rfl)];unfold CC;dsimp only;rw[r];rfl
 by_cases aa:k=20
 ·subst aa;rw[post rfl (by decide) (by decide) (.inr rfl)];unfold CC;dsimp only;rw[r];rfl
 rw[au ar aq Z ag ab aa];by_cases ao:k=15
 ·subst ao;rw[one rfl (by decide) (JS y hi (by omega))];unfold CC;dsimp only;rw[r];rfl
 by_cases an:k=16
 ·subst an;rw[one rfl (by decide) (JS y hi (by omega))];unfold CC;dsimp only;rw[r];rfl
 by_cases ak:k=17
 ·subst ak;rw[one rfl (by decide) (JS y hi (by omega))];unfold CC;dsimp only;rw[r];rfl
 by_cases aj:k=18
 ·subst aj;rw[one rfl (by decide) (JS y hi (by omega))];unfold CC;dsimp only;rw[r];rfl
 by_cases ai:k=23
 ·subst ai;rw[one rfl (by decide) (JS y hi (by omega))];unfold CC;dsimp only;rw[r];rfl
 by_cases ah:k=24
 ·subst ah;rw[one rfl (by decide) (JS y hi (by omega))];unfold CC;dsimp only;rw[r];rfl
 by_cases ae:k=34
 ·subst ae;rw[one rfl (by decide) (JS y hi (by omega))];unfold CC;dsimp only;rw[r];rfl
 by_cases ad:k=35
 ·subst ad;rw[one rfl (by decide) (JS y hi (by omega))];unfold CC;dsimp only;rw[r];rfl
 by_cases af:k=31
 ·subst af;have ht:=Xy y hi (.inr (.inr (.inl r)));rw[Y rfl (by decide) (by decide) (JS y hi (by omega)).2 ⟨by omega,ht.2⟩];unfold CC;dsimp only;rw[r];rfl
 rw[AcE (AcF ⟨af,ae,ad,ao,ab,aa,an,ak,aj,ai,ah,Z⟩)];unfold CC;dsimp only;rw[r]
 repeat rw[An (by omega)]
theorem Aqf {L:Ac} {M:List (Int×Int)} {C G X y:Af} {H R:List Bool} {i:Nat} (Y:Good L) (hM:BM L M) (hi:i<L.length) (ht:B9 (L.getD i Ab.none).kind=true) (rk:∀q,q<(L.getD i Ab.none).kids.length->B9 (L.getD (A8 L i q) Ab.none).kind=true->MY (X.getD (A8 L i q) 0) (y.getD (A8 L i q) 0) (H.getD (A8 L i q) false)) (hr:DX L M C X i=R.getD i false): MY (DZ L M C G X i) (CY L M C G y H R i).1 (CY L M C G y H R i).2:=by
 have aa:=wY (C:=C) (G:=G) (X:=X) hM hi;have k0:Bo X (L.getD i Ab.none).kids 0=X.getD (A8 L i 0) 0:=rfl;have leaf:(L.getD i Ab.none).kind=26\/(L.getD i Ab.none).kind=27\/(L.getD i Ab.none).kind=28\/(L.getD i Ab.none).kind=29\/(L.getD i Ab.none).kind=33\/(L.getD i Ab.none).kind=36->DZ L M C G X i=Fo L M C G X i:=λr=>by
  have z:DX L M C X i=true:=by rw[show DX L M C X i=_ from YL (t:=L.getD i Ab.none) ⟨by omega,by omega,.inl (by omega),by omega,.inl ⟨by omega,by omega⟩⟩];exact AcE (AcF (by omega))
  unfold DZ;rw[An (by rw[ht];decide),An];rintro(q|⟨q1,V⟩)
  ·rw[z]at q;cases q
  ·rw[AiZ Y hi (by omega)]at V;cases V
 have use:∀ {v:Int},Fo L M C G X i=v->DZ L M C G X i=Fo L M C G X i->MY (DZ L M C G X i) v true:=λh1 B=>.inr ⟨rfl,B.trans h1,by rw[B];exact di aa⟩;generalize r:(L.getD i Ab.none).kind=k at*;by_cases ah:k=26
 ·subst ah;rw[show CY L M C G y H R i=(1,true) by unfold CY;dsimp only;rw[r];rfl];exact use (by unfold Fo;rw[r];rfl) (leaf (by omega))
 by_cases af:k=28
 ·subst af;rw[show CY L M C G y H R i=(1,true) by unfold CY;dsimp only;rw[r];rfl];exact use (by unfold Fo;rw[r];rfl) (leaf (by omega))
 by_cases ag:k=27
 ·subst ag;rw[show CY L M C G y H R i=(0,true) by unfold CY;dsimp only;rw[r];rfl];exact use (by unfold Fo;rw[r];rfl) (leaf (by omega))
 by_cases ab:k=36
 ·subst ab;rw[show CY L M C G y H R i=(2,true) by unfold CY;dsimp only;rw[r];rfl];exact use (by unfold Fo;rw[r];rfl) (leaf (by omega))
 by_cases ad:k=33
 ·subst ad;rw[show CY L M C G y H R i=(-1-(M.getD i (0,0)).2,true) by unfold CY;dsimp only;rw[r];rfl];exact use (by unfold Fo;rw[r];rfl) (leaf (by omega))
 by_cases ae:k=29
 ·subst ae;rw[show CY L M C G y H R i=(K0 L M G (M.getD i (0,0)).1 (M.getD i (0,0)).2,true) by
   rw[YU r];unfold K0
   repeat' split
   all_goals rfl]
  exact use (by unfold Fo;rw[r];rfl) (leaf (by omega))
 have late:k=30\/k=31\/k=32\/k=34\/k=35:=by unfold B9 at ht;rw[Bn]at ht;omega
 rw[wX (by omega) (by omega) (by omega) (by omega) (by omega) (by omega)];have Z:=JS Y hi (by omega);have J:∀q,q<(L.getD i Ab.none).kids.length->B9 (L.getD (A8 L i q) Ab.none).kind=true:=λq x=>by
  have hl:(L.getD i Ab.none).kids.length=1\/((L.getD i Ab.none).kids.length=2/\B9 (L.getD (A8 L i 1) Ab.none).kind=true):=by
   by_cases B:k=31\/k=32
   ·exact .inr (Xy Y hi (by omega))
   ·exact .inl (Ai3 Y hi (by omega))
  rcases q with _|_|q
  ·exact Z.2
  ·rcases hl with hl|hl
   ·omega
   ·exact hl.2
  ·omega
 have nk:IE X (L.getD i Ab.none).kids=true↔∃j,j<(L.getD i Ab.none).kids.length/\H.getD ((L.getD i Ab.none).kids.getD j 0).toNat false=false:=by
  unfold IE;rw[List.any_eq_true];constructor
  ·rintro⟨c,h1,B⟩;obtain⟨q,x,rfl⟩:=List.getElem_of_mem h1;refine⟨q,x,?_⟩;rw[Bn]at B;have e:(L.getD i Ab.none).kids.getD q 0=(L.getD i Ab.none).kids[q]:=by rw[Bt,Ce x];rfl
   rcases rk q x (J q x)with⟨a,b⟩|⟨a,b,c⟩
   ·exact a
   ·unfold A8 at c;rw[e]at c;exact absurd B c
  ·rintro⟨q,x,B⟩;have e:(L.getD i Ab.none).kids.getD q 0=(L.getD i Ab.none).kids[q]:=by rw[Bt,Ce x];rfl
   refine⟨_,List.getElem_mem x,?_⟩;rcases rk q x (J q x)with⟨a,b⟩|⟨a,b,c⟩
   ·unfold A8 at b;rw[e]at b;rw[b];exact BF rfl
   ·unfold A8 at a;rw[B]at a;cases a
 by_cases W:R.getD i false=false
 ·rw[As W];refine .inl ⟨rfl,?_⟩;unfold DZ;rw[An (by rw[r,ht];decide),As (.inl (hr.trans W))]
 rw[An W];by_cases K:∃j,j<(L.getD i Ab.none).kids.length/\H.getD ((L.getD i Ab.none).kids.getD j 0).toNat false=false
 ·rw[As K];refine .inl ⟨rfl,?_⟩;unfold DZ;rw[An (by rw[r,ht];decide),As (.inr ⟨by omega,nk.2 K⟩)]
 rw[An K];have et:DZ L M C G X i=Fo L M C G X i:=by
  unfold DZ;rw[An (by rw[r,ht];decide),An];rintro(q|⟨q1,V⟩)
  ·exact W (hr.symm.trans q)
  ·exact K (nk.1 V)
 have a0:X.getD (A8 L i 0) 0=y.getD (A8 L i 0) 0:=by
  rcases rk 0 Z.1 Z.2 with⟨a,b⟩|⟨a,b,c⟩
  ·exact absurd ⟨0,Z.1,a⟩ K
  ·exact b
 rw[r];by_cases S:k=34
 ·subst S;rw[As rfl];exact use (by unfold Fo;rw[r];rfl) et
 rw[An S];by_cases U:k=30
 ·subst U;rw[As rfl];exact use (by unfold Fo;rw[r,k0,a0];rfl) et
 rw[An U];exact use (by unfold Fo;rw[r,An (by omega),An (by omega),An (by omega),An (by omega),An (by omega),An (by omega)]) et
def vN:H9:=λ_ args=>match args with
 | [.agg [.vec 6 n f],.agg q]=>some ⟨Af×At,(∃(L:Ac) (x:LN),n=L.length/\f=AE L/\q=x.row/\Good L/\BM L x.M/\Hm L x.C/\GB L x),λy=>∀(L:Ac) (x:LN),n=L.length->f=AE L->q=x.row->QT L x y.1 y.2,λy=>.AM [.vec 1 y.1.length (Aq y.1),.vec 3 y.2.length (rD y.2)]⟩
 |_=>none
def vM:H9:=λ_ args=>match args with
 | [.agg [.vec 6 n f],.agg q]=>some ⟨Af×At,(∃(L:Ac) (x:LN),n=L.length/\f=AE L/\q=x.row/\Good L/\BM L x.M/\Hm L x.C/\GB L x),λy=>∀(L:Ac) (x:LN),n=L.length->f=AE L->q=x.row->Q5 L x y.1 y.2,λy=>.AM [.vec 1 y.1.length (Aq y.1),.vec 3 y.2.length (rD y.2)]⟩
 |_=>none
theorem Aki:JG Tryz.prog 8 vN:=by
 refine MI (gl:=[]) (ng:=0) AS λH args rc r J=>?_;unfold vN at r;split at r
 ·rename_i n f q;injection r with r;subst r;obtain⟨L,x,rfl,rfl,rfl,R,K,S,hT⟩:=J;refine⟨AS,⟨FK L,Ph x,trivial⟩,yz L x,60,rfl,Cc,BD uA (BD Ak7 (BD AkI Bk)),?_⟩;have:=AmF L x R K S hT;have e:(λy:Af×At=>QT L x y.1 y.2)=λy=>∀(z:Ac) (B:LN),L.length=z.length->AE L=AE z->x.row=B.row->QT z B y.1 y.2:=by funext y;exact propext ⟨λh z B W V U=>by have Z:=QR W V;have Y:=vg U;subst Z;subst Y;exact h,λh=>h L x rfl rfl rfl⟩
  rw[e]at this;exact this
 ·cases r
theorem Akg:JG Tryz.prog 9 vM:=by
 refine MI (gl:=[]) (ng:=0) AS λH args rc r J=>?_;unfold vM at r;split at r
 ·rename_i n f q;injection r with r;subst r;obtain⟨L,x,rfl,rfl,rfl,R,K,S,hT⟩:=J;refine⟨AS,⟨FK L,Ph x,trivial⟩,yx L x,60,rfl,Cc,BD uB (BD e9 Bk),?_⟩;have:=AmB L x R K S hT;have e:(λy:Af×At=>Q5 L x y.1 y.2)=λy=>∀(z:Ac) (B:LN),L.length=z.length->AE L=AE z->x.row=B.row->Q5 z B y.1 y.2:=by funext y;exact propext ⟨λh z B W V U=>by have Z:=QR W V;have Y:=vg U;subst Z;subst Y;exact h,λh=>h L x rfl rfl rfl⟩
  rw[e]at this;exact this
 ·cases r
theorem xu {L:Ac} {x:LN} {X K:Af} {W:At} {H R:List Bool} (J:HL L x 0 X W) (S:GW L x 0 K H R):∀m j,j<L.length->L.length-j<=m-> (B9 (L.getD j Ab.none).kind=true->MY (X.getD j 0) (K.getD j 0) (H.getD j false))/\(B9 (L.getD j Ab.none).kind=false->X.getD j 0=CG L x.M j)/\DX L x.M x.C X j=R.getD j false:=by
 have ok:=J.ok;intro m
 induction m with
 |zero=>intro j y V;omega
 |succ m B=>
  intro j y V;have kd:∀q,q<(L.getD j Ab.none).kids.length->j<A8 L j q/\A8 L j q<L.length:=λq r=>by obtain⟨a,b⟩:=ok.CO.Gn j y _ (G6 r);unfold A8;omega
  have U:DX L x.M x.C X j=CC L x.M x.C K H j:=Al1 ok.CO ok.m y (λr ht=>(B _ (kd 0 r).2 (by have:=kd 0 r;omega)).1 ht) (λr ht=>(B _ (kd 0 r).2 (by have:=kd 0 r;omega)).2.1 ht) (λr ht=>(B _ (kd 1 r).2 (by have:=kd 1 r;omega)).1 ht);have z:DX L x.M x.C X j=R.getD j false:=by rw[U,S.right j (BL _) y]
  refine⟨λht=>?_,λht=>?_,z⟩
  ·have Z:=S.term j (BL _) y ht;have:=Aqf (G:=x.G) ok.CO ok.m y ht (λq r Y=>(B _ (kd q r).2 (by have:=kd q r;omega)).1 Y) z;rw[<-Z]at this;rw[J.eq j (BL _) y];exact this
  ·rw[J.eq j (BL _) y];unfold DZ;rw[As ht]
theorem AfC (L:Ac) (R:List Bool):∀k,Kh L R k=(List.range k).filterMap λj=>if R.getD j false=true then none else some (cg L j)
 |0=>rfl
 |k+1=>by
  rw[Kh,List.range_succ,List.filterMap_append,<-AfC L R k];by_cases h:R.getD k false=true
  ·rw[As h];simp only[List.filterMap_cons,h,if_true,List.filterMap_nil,List.append_nil]
  ·rw[An h];simp only[List.filterMap_cons,h,if_false,List.filterMap_nil];rfl
theorem AqZ {L:Ac} {x:LN} {X B:Af} {W:At} {H R:List Bool} (y:HL L x 0 X W) (z:GW L x 0 B H R):W.reverse=Kh L R L.length:=by rw[y.w,List.reverse_reverse,List.drop_zero,AfC];refine sQ λj r=>?_;have r:j<L.length:=List.mem_range.1 r;unfold L3;rw[(xu y z _ j r (AH _)).2.2]
theorem Agr {L:Ac} {x:LN} {X:Af} {W:At} (K:HL L x 0 X W) (S:W=[]):∀m j,j<L.length->L.length-j<=m->G8 (X.getD j 0)/\DX L x.M x.C X j=true:=by
 have ok:=K.ok;have y:∀j,j<L.length->DX L x.M x.C X j=true:=λj r=>by
  have J:((List.range L.length).filterMap (L3 L x.M x.C X))=[]:=by have:=K.w;rw[S,List.drop_zero]at this;exact List.reverse_eq_nil_iff.1 this.symm
  have z:=(List.filterMap_eq_nil_iff.1 J) j (List.mem_range.2 r);unfold L3 at z;by_cases h:DX L x.M x.C X j=true
  ·exact h
  ·rw[An h]at z;cases z
 intro m
 induction m with
 |zero=>intro j r U;omega
 |succ m R=>
  intro j r U;refine⟨?_,y j r⟩;rw[K.eq j (BL _) r];unfold DZ;by_cases ht:B9 (L.getD j Ab.none).kind=false
  ·rw[As ht];exact UW ok.m _
  ·rw[An ht,An]
   ·exact wY ok.m _ _ _ r
   rintro(q|⟨V,B⟩)
   ·rw[y j r]at q;cases q
   ·unfold IE at B;rw[List.any_eq_true]at B;obtain⟨c,J,z⟩:=B;obtain⟨a,b⟩:=ok.CO.Gn j r c J;rw[Bn]at z;exact di (R c.toNat (by omega) (by omega)).1 z
theorem ApK {L:Ac} {x:LN} {o o':Af} {w w':At} (U:QT L x o w) (S:Q5 L x o' w'):o=o'/\w=w':=by
 obtain⟨X,W,hT,a1,a2⟩:=U.q;obtain⟨X5,H,R,J,b1,b2⟩:=S.q;have z:=AqZ hT J;by_cases h:W=[]
 ·obtain⟨rfl,rfl⟩:=a2 h;have B:Kh L R L.length=[]:=by rw[<-z,h];rfl
  obtain⟨rfl,c1,Z⟩:=b2 B;refine⟨PO (d:=(0:Int)) (by rw[c1];exact hT.ok.xl) λj=>?_,rfl⟩;rcases D9 j L.length with r|r
  ·rw[Z j r];obtain⟨Y,V,g3⟩:=xu hT J _ j r (AH _);unfold MP;by_cases ht:B9 (L.getD j Ab.none).kind=true
   ·rw[As ht];rcases Y ht with⟨K,y⟩|⟨K,y,q3⟩
    ·exact absurd y (di (Agr hT h _ j r (AH _)).1)
    ·exact y
   ·rw[An ht];exact V (by simpa using ht)
  ·have:=hT.ok.xl;rw[Bt,Bt,Ja (by omega),Ja (by omega)]
 ·obtain⟨rfl,rfl⟩:=a1 h;have B:Kh L R L.length≠[]:=λe=>h (by rw[<-z]at e;exact List.reverse_eq_nil_iff.1 e);obtain⟨rfl,rfl⟩:=b1 B;exact⟨rfl,z⟩
def eK:Tr Ah->Al->Option Ct:=λ_ args=>match args with
 | []=>some (.Bb True (.ret (.bool true)))
 |_=>none
def SSd:B0:=thin Nat [0,1] (λi=>[(5,.int .i64 i)]) (λ_ i=>i<=1000000) λi=>1000000-i
def SLw:B0:=thin Nat [5,7] (λi=>[(9,.int .i64 i)]) (λ_ i=>i<=1000000) λi=>1000000-i
def AdS:Pr:=[(5,vR),(7,vU),(8,vN),(9,vM)]
theorem Amb:Pt Tryz.prog AdS:=LI AkF (LI AkS (LI Aki (LI Akg (VM _))))
def zI:Ctx:={P:=Tryz.prog,tb:=[(6,eK)],rt:=AdS,VL:=Amb,lp:=λf r=>cond (Nat.beq f 10) (some SSd) (cond (Nat.beq f 3) (some SLw) none),cut:=λ_ _=>none}
def pX:Tr Ah->Al->Option Ct:=λ_ args=>match args with
 | [.agg [.vec 6 n f]]=>some (.Bb (∃L:Ac,n=L.length/\f=AE L) (.ret (.bool true)))
 |_=>none
theorem ApS {L:Ac} (h:LX L):Hn L:=⟨by have:=h.len;omega,λi=>by
 rcases D9 i L.length with hi|hi
 ·have:=h.text i hi;omega
 ·rw[Bt,Ja hi];exact BL _⟩
theorem AjR {L:Ac} {x:LN} (h:LY L x) (hl:L.length<=200):BM L x.M:=⟨by omega,h.Mi,λj r=>by obtain⟨a,b,c⟩:=h.mn j r;exact⟨a,by omega⟩⟩
theorem AjS {L:Ac} {x:LN} (h:LY L x):GB L x:=⟨λj y r=>by have:=(h.mn j y).2.2 r;rw[h.gl];exact this⟩
theorem AlE {L:Ac} {x:LN} {o:Af} {w:At} (h:QT L x o w):o.length<=L.length/\w.length<=L.length:=by
 obtain⟨X,W,hT,a1,r⟩:=h.q;have z:=hT.wl;have y:=hT.ok.xl;by_cases e:W=[]
 ·obtain⟨rfl,rfl⟩:=r e;exact⟨by omega,BL _⟩
 ·obtain⟨rfl,rfl⟩:=a1 e;exact⟨BL _,by rw[List.length_reverse];omega⟩
@[reducible] def kk:Af×At->Prop:=λ(a:Af×At)=>Aa/\Ae a.1.length/\Ar λ(i:Nat)=>AD i a.1.length->(Aa/\Ae (DG a.1 i))/\True
@[reducible] def kn:Af×At->Af×At->Prop:=λ(a r:Af×At)=>kk a/\kk r/\True
def Yf (a:LN×At):=[AV.vec 2 a.1.M.length (rM a.1.M),AV.vec 1 a.1.O.length (Aq a.1.O),AV.vec 1 a.1.Lo.length (Aq a.1.Lo),AV.vec 1 a.1.C.length (Aq a.1.C),AV.vec 1 a.1.G.length (Aq a.1.G),AV.vec 1 a.1.Co.length (Aq a.1.Co),AV.vec 1 a.1.E.length (Aq a.1.E),AV.vec 4 a.1.Fs.length (Fl a.1.Fs),AV.int .i64 a.1.main]
@[reducible] def ko:Ac->LN×At->Ac->LN->Prop:=λ(L:Ac) (a:LN×At) (r:Ac) (x:LN)=>L.length=r.length/\AE L=AE r/\(Yf a)=LN.row x/\Good r/\BM r x.M/\(GL x r)/\GB r x
@[reducible] def kp:Af×At->Prop:=λ(a:Af×At)=>Aa/\Ae a.2.length/\Ar λ(i:Nat)=>AD i a.2.length->(Aa/\Ae (HY a.2 i))/\(Aa/\Ae (HX a.2 i))/\(Aa/\Ae (Prod.snd (O3 a.2 i)))/\True
@[reducible] def kq:Af×At->Af×At->Prop:=λ(a r:Af×At)=>kp a/\kp r/\True
@[reducible] def kr:Ac->LN×At->Prop:=λ(L:Ac) (a:LN×At)=>(Vk L)/\(Aa/\Aa/\Aa/\Aa/\((((((((True/\Aa/\Ae a.1.M.length/\Ar λ(i:Nat)=>AD i a.1.M.length->(Aa/\Ae (Prod.fst (List.getD a.1.M i C7)))/\(Aa/\Ae (Prod.snd (List.getD a.1.M i C7)))/\True)/\Aa/\Ae a.1.O.length/\Ar λ(i:Nat)=>AD i a.1.O.length->(Aa/\Ae (List.getD a.1.O i (0:Int)))/\True)/\Aa/\Ae a.1.Lo.length/\Ar λ(i:Nat)=>AD i a.1.Lo.length->(Aa/\Ae (List.getD a.1.Lo i (0:Int)))/\True)/\Aa/\Ae a.1.C.length/\Ar λ(i:Nat)=>AD i a.1.C.length->(Aa/\Ae (List.getD a.1.C i (0:Int)))/\True)/\Aa/\Ae a.1.G.length/\Ar λ(i:Nat)=>AD i a.1.G.length->(Aa/\Ae (List.getD a.1.G i (0:Int)))/\True)/\Aa/\Ae a.1.Co.length/\Ar λ(i:Nat)=>AD i a.1.Co.length->(Aa/\Ae (List.getD a.1.Co i (0:Int)))/\True)/\Aa/\Ae a.1.E.length/\Ar λ(i:Nat)=>AD i a.1.E.length->(Aa/\Ae (List.getD a.1.E i (0:Int)))/\True)/\Aa/\Ae a.1.Fs.length/\Ar λ(i:Nat)=>AD i a.1.Fs.length->(Aa/\Ae (A6.Pf (KL a i)))/\(Aa/\Ae (A6.up (KL a i)))/\Ae (A6.name (KL a i))/\(Aa/\Ae (List.length (A6.Hs (KL a i)))/\Ar λ(r:Nat)=>AD r (List.length (A6.Hs (KL a i)))->(Aa/\Ae (List.getD (A6.Hs (KL a i)) r (0:Int)))/\True)/\True)/\Aa/\Ae a.1.main)/\True
def SU (a:Nat):=Nat.le a 1000000
def SX (a:At) (b:Nat):=List.getD a (B8 b) NG
theorem Ann:∀(L:Ac),(∃(r:Ac),L.length=r.length/\AE L=AE r/\Ae (200:Int))/\∀(x:Bool),(x=false->∀(r:Ac),L.length=r.length->AE L=AE r->LX r)->Ag x (True/\Aa) ((gW L)/\∀(x:LN×At),(∀(r:Ac),L.length=r.length->AE L=AE r->x.2≠[]\/LY r x.1)->Ag (AP (0:Int) (Int.ofNat x.2.length)) (True/\Aa) ((∃(r:Ac),∃(J:LN),ko L x r J)/\∀(J:Af×At),(∀(r:Ac) (B:LN),L.length=r.length->AE L=AE r->(Yf x)=LN.row B->QT r B J.1 J.2)->(∃(r:Ac),∃(B:LN),ko L x r B)/\∀(B:Af×At),(∀(r:Ac) (K:LN),L.length=r.length->AE L=AE r->(Yf x)=LN.row K->Q5 r K B.1 B.2)->Ag (!Au (Int.ofNat J.2.length) (Int.ofNat B.2.length)) (false=true) ((∃(S:Nat),SU S/\Aa/\((Cr S)/\kq J B)/\kr L x)/\∀(K:Nat),SU K->Ag (Dh K (Int.ofNat J.2.length)) (Ap (D8 K J.2.length) (Ap (D8 K B.2.length) ((DV/\True)/\Ag (!(Au (Prod.fst (SX J.2 K)) (Prod.fst (SX B.2 K))&&(Au (Prod.fst (Prod.snd (SX J.2 K))) (Prod.fst (Prod.snd (SX B.2 K)))&&(Au (Prod.snd (Prod.snd (SX J.2 K))) (Prod.snd (Prod.snd (SX B.2 K)))&&true)))) (false=true) (Bj K (∃(R:Nat),SU R/\Nat.le (Nat.succ (1000000-R)) (1000000-K)/\Aa/\((Cb K R)/\kq J B)/\kr L x))))) (Ag (!Au (Int.ofNat J.1.length) (Int.ofNat B.1.length)) (false=true) ((∃(S:Nat),SU S/\Aa/\((Cr S)/\kn J B)/\(Aa/\True)/\(Aa/\True)/\True)/\∀(x:Nat),SU x->Ag (AP (↑x:Int) (Int.ofNat J.1.length)) (Ap (AO (↑x:Int) J.1.length) (Ap (AO (↑x:Int) B.1.length) ((DV/\True)/\Ag (!Au (Dm J.1 x) (Dm B.1 x)) (false=true) (Bj x (∃(R:Nat),SU R/\Nat.le (Nat.succ (1000000-R)) (1000000-x)/\Aa/\((Cb x R)/\kn J B)/\(Aa/\True)/\(Aa/\True)/\True))))) (True/\Aa))))))
:=by
 delta Dm Bj B8 DV Cb Yf Cr NG Dh D8 gW SU SX;intro L;simp only[Bq,kk,kn,ko,kp,kq,kr,AD,DG,GL,Yf,Vc,O3,HX,HY,Bc,Cl,Vk,C7,KL];refine⟨⟨L,rfl,rfl⟩,λb hb=>Ao (λ_=>trivial) λhf=>?_⟩;have U:LX L:=hb hf L rfl rfl;have Y:=U.len;refine⟨⟨L,rfl,rfl,ApS U⟩,λx hx=>Ao (λ_=>trivial) λhw=>?_⟩;have W:x.2=[]:=Ra.1 (by rw[Bl]at hw;omega);have V:LY L x.1:=(hx L rfl rfl).resolve_left λg=>g W;have hG:=V.CO;have Z:=AjR V Y;have hT:=AjS V;have hC:Hm L x.1.C:=V.cl;refine⟨⟨L,x.1,rfl,rfl,rfl,hG,Z,hC,hT⟩,λy hy=>⟨⟨L,x.1,rfl,rfl,rfl,hG,Z,hC,hT⟩,λz hz=>?_⟩⟩;have hy:=hy L x.1 rfl rfl rfl;obtain⟨e1,e2⟩:=ApK hy (hz L x.1 rfl rfl rfl);obtain⟨l1,l2⟩:=AlE hy;obtain⟨y1,y2⟩:=y;obtain⟨z1,z2⟩:=z;simp only at e1 e2 l1 l2⊢;subst e1;subst e2;have no:∀ {b:Bool} {p:Prop},b=true->(!b)=true->p:=λh g=>by rw[h]at g;cases g
 refine Ao (λh=>no (Ba.2 rfl) h) λ_=>⟨⟨0,BL _,rfl⟩,λi hi=>Ao (λh=>?_) λ_=>Ao (λh=>no (Ba.2 rfl) h) λ_=>⟨⟨0,BL _,rfl⟩,λi hi=>Ao (λh=>?_) λ_=>trivial⟩⟩
 ·rw[Bd]at h;exact Am (AK.2 (by omega)) (Am (AK.2 (by omega)) (Ao (λg=>no (by simp[DD]) g) λ_=>Am (AU.2 (by omega)) ⟨i+1,by omega,by omega,by omega⟩))
 ·rw[Bd]at h;exact Am (AK.2 (by omega)) (Am (AK.2 (by omega)) (Ao (λg=>no (Ba.2 rfl) g) λ_=>Am (AU.2 (by omega)) ⟨i+1,by omega,by omega,by omega⟩))
theorem Anm:∀L:Ac,(A3 zI 60).call 3 [tree L] .leaf 0 (BS Tryz.prog false (.bool true)):=Eq.mpr (by kernel_rfl) Ann
theorem AkA (x:BC Tryz.prog 6 eK):BC Tryz.prog 3 pX:=by
 refine Cw (gl:=[]) (ng:=0) AS λH args ct r=>?_;unfold pX at r;split at r
 ·rename_i n f;injection r with r;subst r;refine⟨AS,_,_,rfl,?_⟩;rintro⟨L,rfl,rfl⟩;exact⟨⟨FK L,trivial⟩,zI,60,rfl,Cc,BD x Bk,Anm L⟩
 ·cases r
end Go.Proofs.YthallodoidghoaaGreat
end
end
