/- Laid by program out of its parts: SxF, SxG, SxI, SxJ, SxK, SxL, SxLG, SxM, SxN. -/
import Derived.Test.YtlmmbanfhjaioaaGreatDoorMg
noncomputable section
set_option linter.unusedVariables false
set_option linter.unusedSimpArgs false
section
namespace Go.Ev
def sg (q:List (Nat×Nat)) (i:Nat):Option Nat:=List.rec (motive:=λ_=>Option Nat) none (λp _ y=>cond (Nat.beq p.1 i) (some p.2) y) q
structure AH (R:Nat->Prop):Prop where
 h:∀i,R i
mutual
def AZ (B:List (Nat×Nat)):AV->AV->Prop
 |.bool p,y=>match y with
  |.bool q=>q=p
  |_=>False
 |.int k m,y=>match y with
  |.int S n=>MY k S=true/\n=m
  |_=>False
 |.str m n,y=>match y with
  |.str R K=>R=m/\K=n
  |_=>False
 |.bs l,y=>match y with
  |.bs C=>C=l
  |.str m n=>BB m n=l
  |_=>False
 |.bv l,y=>match y with
  |.bv C=>C=l
  |.vec e n f=>Nat.beq e 1=true/\LU n f=true/\Gs n f=l
  |.Ay=>l=[]
  |_=>False
 |.vec e n f,y=>match y with
  |.vec W K V=>Nat.beq e W=true/\K=n/\AH λi=>i<K->Ba B (f i) (V i)
  |.bv l=>Nat.beq e 1=true/\l.length=n/\AH λi=>i<l.length->Ba B (f i) (Iw l i)
  |.Ay=>n=0
  |_=>False
 |.pv l,y=>match y with
  |.pv C=>Ba B l C
  |_=>False
 |.FY has val z,y=>match y with
  |.FY J E Y=>(∀k,J k=has k)/\(∀k,AZ B (val k) (E k))/\(∀k,has k=false->dC z (val k))
  |_=>False
 |.EC,y=>match y with
  |.EC=>True
  |_=>False
 |.ptr i o,y=>match y with
  |.ptr j p=>sg B i=some j/\Nat.beq o p=true
  |_=>False
 |.Ay,y=>match y with
  |.Ay=>True
  |_=>False
 |.sl i o n c,y=>match y with
  |.sl j p m d=>sg B i=some j/\o=p/\m=n/\d=c
  |_=>False
 |.BF i o n e,y=>match y with
  |.BF j p m d=>sg B i=some j/\o=p/\m=n/\Nat.beq e d=true
  |_=>False
 |.AY i n e,y=>match y with
  |.AY j m d=>sg B i=some j/\m=n/\Nat.beq e d=true
  |.BF j p m d=>sg B i=some j/\Nat.beq p 0=true/\m=n/\Nat.beq e d=true
  |.Ay=>n=0
  |_=>False
 |.E8,y=>match y with
  |.E8=>True
  |_=>False
 |.map i,y=>match y with
  |.map j=>sg B i=some j
  |_=>False
 |.fn (.func f) a c,y=>match y with
  |.fn (.func g) b d=>Nat.beq f g=true/\Ba B a b/\Ba B c d
  |_=>False
 |.GD,y=>match y with
  |.GD=>True
  |_=>False
 |.iface t v,y=>match y with
  |.iface M L=>Nat.beq t M=true/\AZ B v L
  |_=>False
 |.EL,y=>match y with
  |.EL=>True
  |_=>False
 |.agg l,y=>match y with
  |.agg C=>Ba B l C
  |_=>False
 |.AO l,y=>match y with
  |.AO C=>Ba B l C
  |_=>False
 |.Gp g o,y=>match y with
  |.Gp U O=>Nat.beq g U=true/\Nat.beq o O=true
  |_=>False
 |.Dx i,y=>match y with
  |.Dx j=>sg B i=some j
  |_=>False
 |_,_=>False
def Ba (q:List (Nat×Nat)):Aj->Aj->Prop
 | [],l=>match l with
  | []=>True
  |_=>False
 |x::l,B=>match B with
  |y::m=>AZ q x y/\Ba q l m
  | []=>False
end
structure RI (σ:List (Nat×Nat)) (ρ ρ2:Ai):Prop where
 nm:∀i j,sg σ i=some j->ρ2 i=ρ j
 st:∀b o,ρ.st b=some o->ρ2.st b=some o
theorem Aa0 {ρ:Ai} {l:Ac} {v:Value} (h:VR ρ (.bv l) v):VR ρ (.vec 1 l.length (Iw l)) v:=by
 cases h with
 |Iu _ C base cap=>subst C;exact .Gt _ _ _ rfl _ _
 |bv _ b o cap cs el fz B q hc=>
  refine .vec 1 l.length _ b o cap cs el fz (λi=>[.int .u8 ((l.getD i 0).toNat:Int)]) B (by decide) q (λi hi=>.cons _ _ _ _ (.int _ _) .nil) λi hi j v y=>?_
  match j with
  |0=>injection y with y;subst y;simpa using hc i hi
  |_+1=>simp at y
theorem uF {has q:CW->Bool} (h:∀k,has k=q k) {kd:TypeDesc} {k:CW} (y:Qu has kd k):Qu q kd k:=by
 unfold Qu at y⊢;split at y
 ·show q _=false;rw[<-h];exact y
 ·show q _=true/\_;rw[<-h];exact y
 ·exact y.elim
mutual
theorem Km {Y:List (Nat×Nat)} {ρ ρ2:Ai} (y:RI Y ρ ρ2):∀(a b:AV) (u:Value),AZ Y a b->VR ρ b u->VR ρ2 a u
 |.bool p,b,u,h,q=>by
  cases b<;>first|(simp[AZ]at h;done)|skip
  rw[AZ]at h;subst h;cases q;exact .bool _
 |.int k m,b,u,h,q=>by
  cases b<;>first|(simp[AZ]at h;done)|skip
  rw[AZ]at h;obtain⟨B,C⟩:=h;have:=O0 B;subst this;subst C;cases q;exact .int _ _
 |.str m n,b,u,h,q=>by
  cases b<;>first|(simp[AZ]at h;done)|skip
  rw[AZ]at h;obtain⟨rfl,rfl⟩:=h;cases q with
  |str _ _ hn=>exact .str _ _ hn
 |.bs l,b,u,h,q=>by
  cases b<;>first|(simp[AZ]at h;done)|skip
  ·rw[AZ]at h;subst h;rw[Mw q rfl];exact .bs _
  ·rw[AZ]at h;subst h;cases q;exact .bs _
 |.bv l,b,u,h,q=>by
  cases b<;>first|(simp[AZ]at h;done)|skip
  ·rw[AZ]at h;subst h;cases q;exact .Iu _ rfl _ _
  ·rw[AZ]at h;subst h;cases q with
   |bv _ b o cap cs el fz J E hc=>exact .bv _ b o cap cs el fz (y.st _ _ J) E hc
   |Iu _ K base cap=>exact .Iu _ K _ _
  ·rw[AZ]at h;obtain⟨B,C,rfl⟩:=h;rw[AN]at B;subst B;cases mc q C with
   |bv _ b o cap cs el fz J E hc=>exact .bv _ b o cap cs el fz (y.st _ _ J) E hc
   |Iu _ K base cap=>exact .Iu _ K _ _
 |.vec e n f,b,u,h,q=>by
  have key:∀(U:Nat) (W:Nat->Aj),VR ρ (.vec e U W) u->U=n->(∀i,i<U->Ba Y (f i) (W i))->VR ρ2 (.vec e n f) u:=λU W q hn S=>by
   subst hn;cases q with
   |vec _ _ _ b o cap cs el fz g J L E hv hc=>exact .vec _ _ _ b o cap cs el fz g (y.st _ _ J) L E (λi hi=>Nx y (f i) (W i) (g i) (S i hi) (hv i hi)) hc
   |Gt _ _ _ V base cap=>exact .Gt _ _ _ V _ _
  cases b<;>first|(simp[AZ]at h;done)|skip
  ·rw[AZ]at h;subst h;cases q;exact .Gt _ _ _ rfl _ _
  ·rw[AZ]at h;obtain⟨B,C,M⟩:=h;rw[AN]at B;subst B;exact key _ _ (Aa0 q) C M.h
  ·rw[AZ]at h;obtain⟨B,C,M⟩:=h;rw[AN]at B;subst B;exact key _ _ q C M.h
 |.pv l,b,u,h,q=>by
  cases b<;>first|(simp[AZ]at h;done)|skip
  rw[AZ]at h;cases q with
  |pv _ vs b o cs el fz J hv hc=>exact .pv _ vs b o cs el fz (y.st _ _ J) (Nx y l _ vs h hv) hc
 |.FY has val z,b,u,h,q=>by
  cases b<;>first|(simp[AZ]at h;done)|skip
  rw[AZ]at h;obtain⟨B,C,M⟩:=h;cases q with
  |FY _ _ _ b es O g J hn hy hz hg=>exact .FY _ _ _ b es O g (y.st _ _ J) (λkd k u R Z S=>hn kd k u R (uF (λk=>(B k).symm) Z) (by rw[B];exact S)) (λkd k u R Z S=>hy kd k u R (uF (λk=>(B k).symm) Z) (by rw[B];exact S)) M λk R=>Km y (val k) _ (g k) (C k) (hg k (by rw[B];exact R))
 |.EC,b,u,h,q=>by
  cases b<;>first|(simp[AZ]at h;done)|skip
  cases q;exact .EC
 |.ptr i o,b,u,h,q=>by
  cases b<;>first|(simp[AZ]at h;done)|skip
  rw[AZ]at h;obtain⟨B,C⟩:=h;rw[AN]at C;subst C;cases q with
  |ptr _ _ b q=>exact .ptr _ _ b (by rw[y.nm _ _ B];exact q)
 |.Ay,b,u,h,q=>by
  cases b<;>first|(simp[AZ]at h;done)|skip
  cases q;exact .Ay
 |.sl i o n c,b,u,h,q=>by
  cases b<;>first|(simp[AZ]at h;done)|skip
  rw[AZ]at h;obtain⟨B,rfl,rfl,rfl⟩:=h;cases q with
  |sl _ _ _ _ b q=>exact .sl _ _ _ _ b (by rw[y.nm _ _ B];exact q)
 |.BF i o n e,b,u,h,q=>by
  cases b<;>first|(simp[AZ]at h;done)|skip
  rw[AZ]at h;obtain⟨B,rfl,rfl,C⟩:=h;rw[AN]at C;subst C;cases q with
  |BF _ _ _ _ b q L K=>exact .BF _ _ _ _ b (by rw[y.nm _ _ B];exact q) L K
 |.AY i n e,b,u,h,q=>by
  cases b<;>first|(simp[AZ]at h;done)|skip
  ·rw[AZ]at h;subst h;cases q;exact .He _ _ _ rfl _
  ·rw[AZ]at h;obtain⟨B,V,rfl,C⟩:=h;rw[AN]at C V;subst C;subst V;cases q with
   |BF _ _ _ _ b q L K=>rw[Nat.sub_zero,Nat.add_zero];exact .AY _ _ _ b (by rw[y.nm _ _ B];exact q) L (by omega)
  ·rw[AZ]at h;obtain⟨B,rfl,C⟩:=h;rw[AN]at C;subst C;cases q with
   |AY _ _ _ b q L K=>exact .AY _ _ _ b (by rw[y.nm _ _ B];exact q) L K
   |He _ _ _ hn base=>exact .He _ _ _ hn base
 |.E8,b,u,h,q=>by
  cases b<;>first|(simp[AZ]at h;done)|skip
  cases q;exact .E8
 |.map i,b,u,h,q=>by
  cases b<;>first|(simp[AZ]at h;done)|skip
  rw[AZ]at h;cases q with
  |map _ b q=>exact .map _ b (by rw[y.nm _ _ h];exact q)
 |.fn (.func f) a c,b,u,h,q=>by
  cases b<;>first|(simp[AZ]at h;done)|skip
  rename_i g b d;cases g<;>first|(simp[AZ]at h;done)|skip
  rw[AZ]at h;obtain⟨B,C,M⟩:=h;rw[AN]at B;subst B;cases q with
  |fn _ _ _ va vc ha hc=>exact .fn _ _ _ va vc (Nx y a _ va C ha) (Nx y c _ vc M hc)
 |.GD,b,u,h,q=>by
  cases b<;>first|(simp[AZ]at h;done)|skip
  cases q;exact .GD
 |.iface t v,b,u,h,q=>by
  cases b<;>first|(simp[AZ]at h;done)|skip
  rw[AZ]at h;obtain⟨B,C⟩:=h;rw[AN]at B;subst B;cases q with
  |iface _ _ w hv=>exact .iface _ _ _ (Km y v _ w C hv)
 |.EL,b,u,h,q=>by
  cases b<;>first|(simp[AZ]at h;done)|skip
  cases q;exact .EL
 |.agg l,b,u,h,q=>by
  cases b<;>first|(simp[AZ]at h;done)|skip
  rw[AZ]at h;cases q with
  |agg _ vs hv=>exact .agg _ _ (Nx y l _ vs h hv)
 |.AO l,b,u,h,q=>by
  cases b<;>first|(simp[AZ]at h;done)|skip
  rw[AZ]at h;cases q with
  |AO _ vs hv=>exact .AO _ _ (Nx y l _ vs h hv)
 |.Gp g o,b,u,h,q=>by
  cases b<;>first|(simp[AZ]at h;done)|skip
  rw[AZ]at h;obtain⟨B,C⟩:=h;rw[AN]at B C;subst B;subst C;cases q;exact .Gp _ _
 |.Dx i,b,u,h,q=>by
  cases b<;>first|(simp[AZ]at h;done)|skip
  rw[AZ]at h;cases q with
  |Dx _ b q=>exact .Dx _ b (by rw[y.nm _ _ h];exact q)
 |.sle _,b,u,h,q|.ML,b,u,h,q|.chan _,b,u,h,q|.GM _ _ _ _,b,u,h,q=>by simp[AZ]at h
 |.fn (.method _) _ _,b,u,h,q=>by simp[AZ]at h
 |.fn (.methodOf _ _) _ _,b,u,h,q=>by simp[AZ]at h
 |.fn (.via _ _ _ _) _ _,b,u,h,q=>by simp[AZ]at h
 |.fn (.yield _) _ _,b,u,h,q=>by simp[AZ]at h
theorem Nx {C:List (Nat×Nat)} {ρ ρ2:Ai} (q:RI C ρ ρ2):∀(a b:Aj) (u:List Value),Ba C a b->AG ρ b u->AG ρ2 a u
 | [],b,u,h,B=>by
  cases b with
  |cons _ _=>simp[Ba]at h
  |nil=>cases B;exact .nil
 |x::l,b,u,h,B=>by
  cases b with
  |nil=>simp[Ba]at h
  |cons y m=>
   rw[Ba]at h;cases B with
   |cons _ v _ vs J E=>exact .cons _ _ _ _ (Km q x y v h.1 J) (Nx q l m vs h.2 E)
end
end Go.Ev
end
section
namespace Go.Ev
def Zq (q:List (Nat×Nat)) (c:Tr AV) (z:CB) (C:Tr AV) (y:CB) (n:Nat):Prop:=Nat.rec (motive:=λ_=>Prop) True (λk B=>B/\(match cellOf c z k with
  |none=>True
  |some a=>match cellOf C y k with
   |none=>False
   |some b=>AZ q a b)) n
def Sl (q:List (Nat×Nat)):List DW->List DW->Prop
 | [],l=>match l with
  | []=>True
  |_=>False
 |e::l,y=>match y with
  |d::m=>(AZ q e.key d.key/\AZ q e.val d.val/\Nat.beq e.born d.born=true)/\Sl q l m
  | []=>False
def zC (q:List (Nat×Nat)) (T:Tr AV):Tr AV->Prop:=Tr.rec (motive:=λ_=>Tr AV->Prop) (λ_=>True) (λv _ _ il ir T'=>Tr.rec (motive:=λ_=>Prop) False (λy C B _ _=>(match v with
  |none=>True
  |some a=>match y with
   |none=>False
   |some b=>AZ q a b)/\il C/\ir B) T') T
theorem nJ {B:List (Nat×Nat)}:∀ {T T':Tr AV},zC B T T'->∀(p:List Bool) (a:AV),Tr.gp p T=some a->∃b,Tr.gp p T'=some b/\AZ B a b
 |.leaf,_,_,p,a,h=>by rw[Tr.SE]at h;cases h
 |.node v l r,.leaf,h,p,a,q=>False.elim h
 |.node v l r,.node E M L,h,p,a,q=>by
  obtain⟨C,K,J⟩:=h;cases p with
  |nil=>
   have y:v=some a:=q;subst y;cases E with
   |none=>exact C.elim
   |some b=>exact⟨b,rfl,C⟩
  |cons c p=>
   cases c with
   |true=>exact nJ K p a q
   |false=>exact nJ J p a q
def EO (C:List (Nat×Nat)) (a b:Ae):Prop:=
 match a with
 |.cells el c z n op=>match b with
  |.cells S L K E q=>Nat.beq el S=true/\(op|| !q)=true/\(match z with
   |.rows e f=>match c with
    |.leaf=>match L,K with
     |.leaf,.rows e' Z=>Nat.beq e e'=true/\E=n/\AH λi=>i*e<E->Ba C (f i) (Z i)
     |_,_=>E=n/\Zq C .leaf (.rows e f) L K E
    |_=>False
   |.Dw _=>Nat.beq n E=true/\Zq C c z L K n)
  |_=>False
 |.map es ck=>match b with
  |.map R U=>Nat.beq ck U=true/\Sl C es R
  |_=>False
 |.Jo l=>match b with
  |.Jo Y=>Y=l
  |_=>False
 |.Df op=>match b with
  |.Df q=>cond op q (!q)=true
  |_=>False
 |.loop st Dv T N W V body d=>match st,Dv,b with
  |.ready,none,.loop M y T' N' O J B d'=>match M,y with
   |.ready,none=>Nat.beq N N'=true/\(match sg C d with
    |none=>False
    |some j=>Nat.beq j d'=true)/\W=O/\V=J/\body=B/\zC C T T'
   |_,_=>False
  |_,_,_=>False
 |_=>False
theorem ko {y:List (Nat×Nat)} {c:Tr AV} {z:CB} {C:Tr AV} {B:CB}:∀ {n:Nat},Zq y c z C B n->∀k a,k<n->cellOf c z k=some a->∃b,cellOf C B k=some b/\AZ y a b
 |0,_,k,a,K,_=>by omega
 |n+1,h,k,a,K,J=>by
  have h':Zq y c z C B n/\(match cellOf c z n with
   |none=>True
   |some a=>match cellOf C B n with
    |none=>False
    |some b=>AZ y a b):=h
  by_cases E:k=n
  ·subst E;have q:=h'.2;rw[J]at q;simp only at q;split at q
   ·exact q.elim
   ·rename_i b L;exact⟨b,L,q⟩
  ·exact ko h'.1 k a (by omega) J
theorem nS {B:List (Nat×Nat)}:∀ {l m:Aj},Ba B l m->∀(j:Nat) (a:AV),l[j]? =some a->∃b,m[j]? =some b/\AZ B a b
 | [],m,h,j,a,q=>by simp at q
 |x::l,m,h,j,a,q=>by
  cases m with
  |nil=>simp[Ba]at h
  |cons y m=>
   rw[Ba]at h
   match j with
   |0=>injection q with q;subst q;exact⟨y,rfl,h.1⟩
   |j+1=>exact nS h.2 j a q
theorem rv {J:List (Nat×Nat)} {ρ ρ2:Ai} (y:RI J ρ ρ2):∀ {E q:List DW} {l:List MapEntry},Sl J E q->Ey ρ q l->Ey ρ2 E l
 | [],q,l,h,B=>by
  cases B with
  |nil=>exact .nil
  |cons=>simp[Sl]at h
 |e::E,q,l,h,B=>by
  cases B with
  |nil=>simp[Sl]at h
  |cons d m _ _ C R=>rw[Sl]at h;obtain⟨⟨O,M,K⟩,L⟩:=h;rw[AN]at K;exact .cons _ _ _ _ ⟨Km y _ _ _ O C.1,Km y _ _ _ M C.2.1,K.trans C.2.2⟩ (rv y L R)
theorem wM {σ:List (Nat×Nat)} {ρ ρ2:Ai} (y:RI σ ρ ρ2) {a o:Ae} {b:C3} {c:Obj} (h:EO σ a o) (V:OR ρ b o c):OR ρ2 b a c:=by
 unfold EO at h;split at h
 ·rename_i el c0 z n op;split at h
  ·rename_i aj c' z' n' E;obtain⟨M,L,R⟩:=h;rw[AN]at M;subst M;cases V with
   |cells _ _ _ _ _ cs fz Dt hn aa U hc=>
    have B:∀m,m=n'->op=false->m=b.cap:=λm C h=>by subst C;subst h;refine aa ?_;cases E<;>first|rfl|simp at L
    cases z with
    |rows e f=>
     cases c0 with
     |node _ _ _=>exact R.elim
     |leaf=>
      simp only at R;split at R
      ·rename_i e' f';obtain⟨W,rfl,Y⟩:=R;rw[AN]at W;subst W;refine .cells _ _ _ _ _ cs fz Dt hn (B _ rfl) U λk a J K=>?_;rw[Gz]at K;have ad:(f (k/e))[k %e]? =some a:=K;have ab:k/e*e<n':=Nat.lt_of_le_of_lt (Nat.div_mul_le_self k e) J;obtain⟨S,q,C⟩:=nS (Y.h _ ab) _ _ ad;obtain⟨v,hv,O⟩:=hc k S J (by rw[Gz];exact q);exact⟨v,hv,Km y _ _ _ C O⟩
      ·obtain⟨rfl,Z⟩:=R;refine .cells _ _ _ _ _ cs fz Dt hn (B _ rfl) U λk a J K=>?_;obtain⟨S,q,C⟩:=ko Z k a J K;obtain⟨v,hv,O⟩:=hc k S J q;exact⟨v,hv,Km y _ _ _ C O⟩
    |Dw zs=>simp only at R;obtain⟨W,Z⟩:=R;rw[AN]at W;subst W;refine .cells _ _ _ _ _ cs fz Dt hn (B _ rfl) U λk a J K=>?_;obtain⟨S,q,C⟩:=ko Z k a J K;obtain⟨v,hv,O⟩:=hc k S J q;exact⟨v,hv,Km y _ _ _ C O⟩
  ·exact h.elim
 ·split at h
  ·obtain⟨M,L⟩:=h;rw[AN]at M;subst M;cases V with
   |map _ _ l hl=>exact .map _ _ l (rv y L hl)
  ·exact h.elim
 ·split at h
  ·cases V
  ·exact h.elim
 ·rename_i op;split at h
  ·rename_i E;have e:op=E:=by cases op<;>cases E<;>first|rfl|cases h
   subst e;cases V with
   |Df _=>exact .Df op
  ·exact h.elim
 ·rename_i st Dv T N ps ak body d;split at h
  ·rename_i ah ae T' N' ai ag af d';split at h
   ·obtain⟨M,L,rfl,rfl,rfl,Y⟩:=h;rw[AN]at M;subst M;split at L
    ·exact L.elim
    ·rename_i j hj;rw[AN]at L;subst L;cases V with
     |loop _ _ _ _ _ _ _ _ fn tmps bd hT hN hd=>refine .loop _ _ _ _ _ _ _ _ fn tmps bd (λt a K=>?_) hN ((y.nm _ _ hj).trans hd);obtain⟨S,q,C⟩:=nJ Y _ a K;obtain⟨v,hv,O⟩:=hT t S q;exact⟨v,hv,Km y _ _ _ C O⟩
   ·exact h.elim
  ·exact h.elim
 ·exact h.elim
mutual
def Ur (a b:AV) (q:List (Nat×Nat)):List (Nat×Nat):=
 match a with
 |.ptr i _=>match b with
  |.ptr j _=>PZ i j q
  |_=>q
 |.sl i _ _ _=>match b with
  |.sl j _ _ _=>PZ i j q
  |_=>q
 |.BF i _ _ _=>match b with
  |.BF j _ _ _=>PZ i j q
  |_=>q
 |.AY i _ _=>match b with
  |.AY j _ _=>PZ i j q
  |.BF j _ _ _=>PZ i j q
  |_=>q
 |.map i=>match b with
  |.map j=>PZ i j q
  |_=>q
 |.Dx i=>match b with
  |.Dx j=>PZ i j q
  |_=>q
 |.fn _ l m=>match b with
  |.fn _ y C=>WK m C (WK l y q)
  |_=>q
 |.agg l=>match b with
  |.agg y=>WK l y q
  |_=>q
 |.AO l=>match b with
  |.AO y=>WK l y q
  |_=>q
 |.iface _ v=>match b with
  |.iface _ B=>Ur v B q
  |_=>q
 |_=>q
def WK (a b:Aj) (q:List (Nat×Nat)):List (Nat×Nat):=
 match a with
 | []=>q
 |x::l=>match b with
  | []=>q
  |y::m=>WK l m (Ur x y q)
def PZ (i j:Nat) (q:List (Nat×Nat)):List (Nat×Nat):=Option.rec (motive:=λ_=>List (Nat×Nat)) ((i,j)::q) (λ_=>q) (sg q i)
end
def cK (c:Tr AV) (z:CB) (C:Tr AV) (B:CB) (n:Nat) (y:List (Nat×Nat)):List (Nat×Nat):=Nat.rec (motive:=λ_=>List (Nat×Nat)) y (λk q=>match cellOf c z k with
  |none=>q
  |some a=>match cellOf C B k with
   |none=>q
   |some b=>Ur a b q) n
def mn (a b:Ae) (q:List (Nat×Nat)):List (Nat×Nat):=
 match a with
 |.cells _ c z n _=>match z with
  |.rows _ _=>q
  |.Dw _=>match b with
   |.cells _ B y _ _=>cK c z B y n q
   |_=>q
 |_=>q
def fL {q:Type} (l:List (Nat×Nat)):(List (Nat×Nat)->q)->q:=List.rec (motive:=λ_=>(List (Nat×Nat)->q)->q) (λk=>k []) (λp _ y k=>fN p.1 λa=>fN p.2 λb=>y λl=>k ((a,b)::l)) l
theorem Sw {q:Type}:∀(l:List (Nat×Nat)) (k:List (Nat×Nat)->q),fL l k=k l
 | [],_=>rfl
 |p::l,k=>by show(fN p.1 λa=>fN p.2 λb=>fL l λl=>k ((a,b)::l))=_;rw[Bv,Bv,Sw l]
def y7 (T:Tr AV) (l:List (Nat×AV)) (q:List (Nat×Nat)):List (Nat×Nat):=List.rec (motive:=λ_=>List (Nat×Nat)->List (Nat×Nat)) (λq=>q) (λp _ y q=>fL (Option.rec (motive:=λ_=>List (Nat×Nat)) q (λb=>Ur p.2 b q) (T.get p.1)) y) l q
def Us (H:Tr Ae) (l:List (Nat×Ae)) (q:List (Nat×Nat)):List (Nat×Nat):=List.rec (motive:=λ_=>List (Nat×Nat)->List (Nat×Nat)) (λq=>q) (λp _ y q=>fL (Option.rec (motive:=λ_=>List (Nat×Nat)) q (λj=>Option.rec (motive:=λ_=>List (Nat×Nat)) q (λo=>mn p.2 o q) (H.get j)) (sg q p.1)) y) l q
def Oc (l:List Nat):Bool:=List.rec (motive:=λ_=>Bool) true (λa l q=>cond (l.any (Nat.beq a)) false q) l
def I2 (n0:Nat):List (Nat×Nat):=(List.range n0).map λi=>(i,i)
def vU (i:Nat) (l:List Nat):Bool:=l.any λj=>Nat.beq i j
theorem vV {i:Nat} {l:List Nat} (h:i∈l):vU i l=true:=List.any_eq_true.2 ⟨i,h,Nat.beq_refl i⟩
def bV (n0 nx:Nat) (y:List Nat) (q:List (Nat×Nat)):Bool:=cond ((List.range n0).all λi=>Option.rec (motive:=λ_=>Bool) false (λj=>Nat.beq j i) (sg q i)) (cond (q.all λp=>Nat.blt p.1 nx) (Oc ((q.filter λp=>vU p.1 y).map (·.2))) false) false
def tP (q:List (Nat×Nat)) (T:Tr AV) (l:List (Nat×AV)):Prop:=List.rec (motive:=λ_=>Prop) True (λp _ y=>(match T.get p.1 with
  |none=>False
  |some b=>AZ q p.2 b)/\y) l
def H8:Ae->Bool
 |.Jo _=>true
 |_=>false
def hP (n0:Nat) (q:List (Nat×Nat)) (H:Tr Ae) (l:List (Nat×Ae)):Prop:=List.rec (motive:=λ_=>Prop) True (λp _ y=>(cond (H8 p.2) (Nat.blt p.1 n0) true=true/\match sg q p.1 with
  |none=>True
  |some j=>match H.get j with
   |none=>False
   |some o=>EO q p.2 o)/\y) l
def SX (l:List (Nat×AV)):Tr AV:=List.rec (motive:=λ_=>Tr AV) .leaf (λp _ q=>q.set p.1 p.2) l
def Bx (l:List (Nat×Ae)):Tr Ae:=List.rec (motive:=λ_=>Tr Ae) .leaf (λp _ q=>q.set p.1 p.2) l
theorem v8:∀ {l:List (Nat×AV)} {t:Nat} {a:AV},(SX l).get t=some a->(t,a)∈l
 | [],t,a,h=>by rw[show SX []=.leaf from rfl,Tr.EK]at h;cases h
 |p::l,t,a,h=>by
  have h':((SX l).set p.1 p.2).get t=some a:=h;rw[Tr.Hl]at h';split at h'
  ·rename_i e;injection h' with h';subst e;subst h';exact BN ..
  ·exact Ca _ (v8 h')
theorem Mc:∀ {l:List (Nat×Ae)} {t:Nat} {a:Ae},(Bx l).get t=some a->(t,a)∈l
 | [],t,a,h=>by rw[show Bx []=.leaf from rfl,Tr.EK]at h;cases h
 |p::l,t,a,h=>by
  have h':((Bx l).set p.1 p.2).get t=some a:=h;rw[Tr.Hl]at h';split at h'
  ·rename_i e;injection h' with h';subst e;subst h';exact BN ..
  ·exact Ca _ (Mc h')
theorem ye {y:List (Nat×Nat)} {T:Tr AV}:∀ {l:List (Nat×AV)},tP y T l->∀p∈l,∃b,T.get p.1=some b/\AZ y p.2 b
 | [],_,p,hp=>by cases hp
 |q::l,h,p,hp=>by
  have h':(match T.get q.1 with
   |none=>False
   |some b=>AZ y q.2 b)/\tP y T l:=h
  rcases CS.1 hp with rfl|hp
  ·have B:=h'.1;split at B
   ·exact B.elim
   ·rename_i b C;exact⟨b,C,B⟩
  ·exact ye h'.2 p hp
theorem jV {n0:Nat} {y:List (Nat×Nat)} {H:Tr Ae}:∀ {l:List (Nat×Ae)},hP n0 y H l->∀p∈l,cond (H8 p.2) (Nat.blt p.1 n0) true=true/\∀j,sg y p.1=some j->∃o,H.get j=some o/\EO y p.2 o
 | [],_,p,hp=>by cases hp
 |q::l,h,p,hp=>by
  have h':(cond (H8 q.2) (Nat.blt q.1 n0) true=true/\match sg y q.1 with
   |none=>True
   |some j=>match H.get j with
    |none=>False
    |some o=>EO y q.2 o)/\hP n0 y H l:=h
  rcases CS.1 hp with rfl|hp
  ·refine⟨h'.1.1,λj E=>?_⟩;have B:=h'.1.2;rw[E]at B;simp only at B;split at B
   ·exact B.elim
   ·rename_i o C;exact⟨o,C,B⟩
  ·exact jV h'.2 p hp
theorem Un:∀ {q:List (Nat×Nat)} {i j:Nat},sg q i=some j->(i,j)∈q
 | [],i,j,h=>by cases h
 |p::q,i,j,h=>by
  have h':cond (Nat.beq p.1 i) (some p.2) (sg q i)=some j:=h;cases y:Nat.beq p.1 i with
  |true=>rw[y]at h';rw[AN]at y;injection h' with h';subst y;subst h';exact BN ..
  |false=>rw[y]at h';exact Ca _ (Un h')
theorem kM:∀ {l:List (Nat×Nat)},Oc (l.map (·.2))=true->∀p∈l,∀q∈l,p.2=q.2->p=q
 | [],_,p,hp,_,_,_=>by cases hp
 |a::l,h,p,hp,q,K,e=>by
  have h':cond ((l.map (·.2)).any (Nat.beq a.2)) false (Oc (l.map (·.2)))=true:=h;cases E:(l.map (·.2)).any (Nat.beq a.2)with
  |true=>rw[E]at h';cases h'
  |false=>
   rw[E,cond_false]at h';have C:∀r∈l,r.2≠a.2:=λr J e=>by have:(l.map (·.2)).any (Nat.beq a.2)=true:=List.any_eq_true.2 ⟨r.2,List.mem_map.2 ⟨r,J,rfl⟩,by rw[AN];exact e.symm⟩;rw[E]at this;cases this
   rcases CS.1 hp with B|B<;>rcases CS.1 K with y|y
   ·rw[B,y]
   ·rw[B]at e;exact absurd e.symm (C q y)
   ·rw[y]at e;exact absurd e (C p B)
   ·exact kM h' p B q y e
structure Dp (n0:Nat) (ρ ρ':Ai):Prop where
 lo:∀i,i<n0->ρ' i=ρ i
 st:∀b o,ρ.st b=some o->ρ'.st b=some o
theorem Dp.refl (n0:Nat) (ρ:Ai):Dp n0 ρ ρ:=⟨λ_ _=>rfl,λ_ _ h=>h⟩
theorem Dp.trans {n0:Nat} {a b c:Ai} (h:Dp n0 a b) (k:Dp n0 b c):Dp n0 a c:=⟨λi hi=>(k.lo i hi).trans (h.lo i hi),λb o q=>k.st b o (h.st b o q)⟩
theorem Dp.M6 {n0 n y:Nat} {ρ q:Ai} (h:RX n y ρ q) (hn:n0<=n):Dp n0 ρ q:=⟨λi hi=>h.lo i (Nat.lt_of_lt_of_le hi hn),h.le.st⟩
def Mq (q:List (Nat×Nat)) (ρ:Ai):Ai:=⟨λi=>(sg q i).bind ρ.nm,ρ.st⟩
theorem lx (q:List (Nat×Nat)) (ρ:Ai):RI q ρ (Mq q ρ):=⟨λi j h=>by show(sg q i).bind ρ.nm=_;rw[h];rfl,λ_ _ h=>h⟩
def B8 (n0 N nx:Nat) (T:List (Nat×AV)) (H:List (Nat×Ae)) (s:St):Prop:=
 match s.D,s.ro with
 | [],none=>fL (Us s.H H (y7 s.T T (I2 n0))) λq=>cond (Nat.beq s.N N) (cond (Nat.ble n0 nx) (bV n0 nx (H.map (·.1)) q) false) false=true/\tP q s.T T/\hP n0 q s.H H
 |_,_=>False
theorem cB {n0 N nx:Nat} {T:List (Nat×AV)} {H:List (Nat×Ae)} {s:St} (h:B8 n0 N nx T H s) {E:Env} {F:Nat->Option Obj} {ρ:Ai} {a:Act} {w:World} {ro:Option Nat} (V:SR E F ρ s a w ro): n0<=nx/\∃ρ2,Dp n0 ρ ρ2/\SR E F ρ2 ⟨N,SX T,Bx H,nx,none,[]⟩ a w ro:=by
 unfold B8 at h;split at h
 ·rename_i hD ad;rw[Sw]at h;generalize(Us s.H H (y7 s.T T (I2 n0)))=C at h;obtain⟨U,hT,hH⟩:=h;obtain⟨hN,U⟩:=Bf U;obtain⟨aa,U⟩:=Bf U;rw[AN]at hN;rw[Nat.ble_eq]at aa;refine⟨aa,?_⟩;unfold bV at U;obtain⟨Y,R⟩:=Bf U;obtain⟨R,ab⟩:=Bf R;have W:=lx C ρ;have ae:∀i b,Mq C ρ i=some b->∃j,sg C i=some j/\ρ j=some b:=λi b h=>by
   have h':(sg C i).bind ρ.nm=some b:=h;cases q:sg C i with
   |none=>rw[q]at h';cases h'
   |some j=>rw[q]at h';exact⟨j,rfl,h'⟩
  have y:∀i o b,(Bx H).get i=some o->Mq C ρ i=some b->∃j M,sg C i=some j/\ρ j=some b/\s.H.get j=some M/\EO C o M:=λi o b hi O=>by obtain⟨j,B,L⟩:=ae i b O;obtain⟨M,K,J⟩:=(jV hH _ (Mc hi)).2 j B;exact⟨j,M,B,L,K,J⟩
  have r:=V.rel;refine⟨Mq C ρ,⟨λi hi=>?_,λ_ _ h=>h⟩,⟨⟨r.tape,r.os,r.output,r.fr,λi o b hi O=>?_,λi o b hi O=>?_,λi k o M b b' hi hk O ag e=>?_,λi hi=>?_,λg l hg=>?_,r.bs,r.st,λi o b hi O=>?_,r.sf⟩,λt v ht=>?_,V.size.trans hN,?_,?_⟩⟩
  ·have:=List.all_eq_true.1 Y i (List.mem_range.2 hi);cases q:sg C i with
   |none=>rw[q]at this;cases this
   |some j=>rw[q]at this;have this:Nat.beq j i=true:=this;rw[AN]at this;subst this;show(sg C j).bind ρ.nm=_;rw[q];rfl
  ·obtain⟨j,M,B,L,K,J⟩:=y i o b hi O;obtain⟨c,h5,h6⟩:=r.ob j M b K L;exact⟨c,h5,wM W J h6⟩
  ·obtain⟨j,M,B,L,K,J⟩:=y i o b hi O;exact r.dj j M b K L
  ·obtain⟨j,p,B,L,K,J⟩:=y i o b hi O;obtain⟨j',p',aj,ai,ah,al⟩:=y k M b' hk ag;have hj:=r.inj j j' p p' b b' K ah L ai e;have:=kM ab _ (List.mem_filter.2 ⟨Un B,vV (List.mem_map.2 ⟨_,Mc hi,rfl⟩)⟩) _ (List.mem_filter.2 ⟨Un aj,vV (List.mem_map.2 ⟨_,Mc hk,rfl⟩)⟩) hj;exact congrArg Prod.fst this
  ·show(sg C i).bind ρ.nm=none;cases q:sg C i with
   |none=>rfl
   |some j=>have B:Nat.blt i nx=true:=List.all_eq_true.1 R _ (Un q);rw[Co]at B;have ak:nx<=i:=hi;omega
  ·obtain⟨B,L⟩:=jV hH _ (Mc hg);have af:g<n0:=by have B:Nat.blt g n0=true:=B;rwa[Co]at B
   have:=List.all_eq_true.1 Y g (List.mem_range.2 af);cases q:sg C g with
   |none=>rw[q]at this;cases this
   |some j=>
    rw[q]at this;have this:Nat.beq j g=true:=this;rw[AN]at this;subst this;obtain⟨o,K,J⟩:=L j q;cases o with
    |Jo l'=>have J:l'=l:=J;subst J;exact r.gl j l' K
    |_=>exact J.elim
  ·obtain⟨j,M,B,L,K,J⟩:=y i o b hi O;exact r.sd j M b K L
  ·obtain⟨b,B,L⟩:=ye hT _ (v8 ht);obtain⟨u,K,J⟩:=V.tr _ b B;exact⟨u,K,Km W _ _ _ L J⟩
  ·have S:=V.dr;rw[hD]at S;generalize a.defers=ds at S;cases S;exact .nil
  ·have Z:=V.rr;rw[ad]at Z;cases Z;exact .none
 ·exact h.elim
end Go.Ev
end
section
namespace Go.Ev
inductive Ct where
 |ret (v:AV)
 |AB (v:AV)
 |br (b:Bool) (t e:Ct)
 |Be (p:Prop) (t:Ct)
abbrev D9:=List (FuncId×(Tr Ae->List AV->Option Ct))
def look (tb:D9) (g:FuncId):Option (Tr Ae->Aj->Option Ct):=List.rec (motive:=λ_=>Option (Tr Ae->Aj->Option Ct)) none (λp _ q=>cond (Nat.beq p.1 g) (some p.2) q) tb
def Al (b:Bool) (K:Prop):Prop:=Bool.rec (motive:=λ_=>Prop) False K b
def Ah (b:Bool) (K L:Prop):Prop:=Bool.rec (motive:=λ_=>Prop) L K b
theorem EE {b:Bool} {K:Prop}:Al b K↔b=true/\K:=by cases b<;>simp[Al]
theorem FN {b:Bool} {K L:Prop}:Ah b K L↔(b=true->K)/\(b=false->L):=by cases b<;>simp[Ah]
theorem Aw {b:Bool} {K L:Prop} (y:b=true->K) (q:b=false->L):Ah b K L:=FN.2 ⟨y,q⟩
theorem At {b:Bool} {K:Prop} (y:b=true) (q:K):Al b K:=EE.2 ⟨y,q⟩
def OO (ct:Ct) (R B:AV->Prop):Prop:=Ct.rec (motive:=λ_=>Prop) R B (λb _ _ q y=>Ah b q y) (λp _ q=>p/\q) ct
open Classical in
def IY (ct:Ct):Option (Bool×AV):=Ct.rec (motive:=λ_=>Option (Bool×AV)) (λv=>some (false,v)) (λv=>some (true,v)) (λb _ _ q y=>cond b q y) (λp _ q=>if p then q else none) ct
theorem Ve {R y:AV->Prop}:∀ {ct:Ct},OO ct R y->∃p v,IY ct=some (p,v)/\(if p then y v else R v)
 |.ret v,h=>⟨false,v,rfl,h⟩
 |.AB v,h=>⟨true,v,rfl,h⟩
 |.br b t e,h=>by
  have h':Ah b (OO t R y) (OO e R y):=h;cases b with
  |true=>exact Ve (ct:=t) h'
  |false=>exact Ve (ct:=e) h'
 |.Be p t,h=>by have h':p/\OO t R y:=h;obtain⟨q,v,C,B⟩:=Ve (ct:=t) h'.2;exact⟨q,v,(Am h'.1).trans C,B⟩
def Hu (p:Bool) (v:AV) (H:Tr Ae) (nx:Nat):CR:=match p with
 |false=>.mk v H nx
 |true=>.AB v H nx
inductive C4:Type 1 where
 |ret (v:AV) (up:List (Nat×Ae)) (nx:Nat)
 |AB (v:AV) (up:List (Nat×Ae)) (nx:Nat)
 |br (b:Bool) (t e:C4)
 |Be (p:Prop) (t:C4)
 |gen {α:Type} (a:α) (f:α->C4)
abbrev Gx:=Tr Ae->Nat->List AV->Option C4
abbrev DX:=List (FuncId×Gx)
def Lq (tb:DX) (g:FuncId):Option Gx:=List.rec (motive:=λ_=>Option Gx) none (λp _ q=>cond (Nat.beq p.1 g) (some p.2) q) tb
def YF:Ae:=.IA 0 0 [] 0
def GH (o:Ae):Bool:=match o with
 |.IA _ _ _ _=>true
 |_=>false
def Cr (l:List (Nat×Ae)) (H:Tr Ae):Tr Ae:=List.rec (motive:=λ_=>Tr Ae) H (λp _ q=>cond (GH p.2) (q.del p.1) (q.set p.1 p.2)) l
def OP (hc:C4) (R E:AV->List (Nat×Ae)->Nat->Prop):Prop:=C4.rec (motive:=λ_=>Prop) R E (λb _ _ q C=>Ah b q C) (λp _ q=>p/\q) (λa _ B=>∀y,y=a->B y) hc
open Classical in
def hOut (hc:C4):Option (Bool×AV×List (Nat×Ae)×Nat):=C4.rec (motive:=λ_=>Option (Bool×AV×List (Nat×Ae)×Nat)) (λv up nx=>some (false,v,up,nx)) (λv up nx=>some (true,v,up,nx)) (λb _ _ q B=>cond b q B) (λp _ q=>if p then q else none) (λa _ y=>y a) hc
theorem RZ {R B:AV->List (Nat×Ae)->Nat->Prop}:∀ {hc:C4},OP hc R B->∃p v up nx,hOut hc=some (p,v,up,nx)/\(if p then B v up nx else R v up nx)
 |.ret v up nx,h=>⟨false,v,up,nx,rfl,h⟩
 |.AB v up nx,h=>⟨true,v,up,nx,rfl,h⟩
 |.br b t e,h=>by
  have h':Ah b (OP t R B) (OP e R B):=h;cases b with
  |true=>exact RZ (hc:=t) h'
  |false=>exact RZ (hc:=e) h'
 |.Be p t,h=>by have h':p/\OP t R B:=h;obtain⟨q,v,up,nx,E,C⟩:=RZ (hc:=t) h'.2;exact⟨q,v,up,nx,(Am h'.1).trans E,C⟩
 |.gen a f,h=>by have h':∀y,y=a->OP (f y) R B:=h;exact RZ (hc:=f a) (h' a rfl)
def Bo (P:Program) (g:FuncId) (AJ:Gx):Prop:=∀H nx args hc,AJ H nx args=some hc->∀p v up nx',hOut hc=some (p,v,up,nx')->∀E F ρ w,Rel E F nx ρ H.get w->LS P (.fn g args) w ρ (NC E F nx ρ (Hu p v (Cr up H) nx'))
def Gi (P:Program) (ht:DX):Prop:=∀g AJ,Lq ht g=some AJ->Bo P g AJ
theorem YH (P:Program):Gi P []:=λ_ _ h=>by cases h
theorem El {P:Program} {ht:DX} {g:FuncId} {AJ:Gx} (h:Bo P g AJ) (J:Gi P ht):Gi P ((g,AJ)::ht):=by
 intro B y E;have q:cond (Nat.beq g B) (some AJ) (Lq ht B)=some y:=E;cases C:Nat.beq g B with
 |true=>rw[C]at q;injection q with q;rw[<-q,<-DP C];exact h
 |false=>rw[C]at q;exact J B y q
structure RCt where
 X:Type
 pre:Prop
 Q:X->Prop
 v:X->AV
abbrev PW:=Tr Ae->List AV->Option RCt
abbrev U3:=List (FuncId×PW)
def SQ (tb:U3) (g:FuncId):Option PW:=List.rec (motive:=λ_=>Option PW) none (λp _ q=>cond (Nat.beq p.1 g) (some p.2) q) tb
def Xn (P:Program) (g:FuncId) (AJ:PW):Prop:=∀H args q,AJ H args=some q->q.pre->∀E F ρ w nx H',(∀g l,H.get g=some (.Jo l)->∃cs e fz,E.base g=some (.cells cs e fz)/\∀y,AG y l cs.toList)->Rel E F nx ρ H'.get w-> LS P (.fn g args) w ρ (λe w'=>∃r:CR,(∃x,q.Q x/\r=.mk (q.v x) H' (nx+1))/\NC E F nx ρ r e w')
def U5 (P:Program) (rt:U3):Prop:=∀g AJ,SQ rt g=some AJ->Xn P g AJ
theorem xU (P:Program):U5 P []:=λ_ _ h=>by cases h
theorem AgX {P:Program} {rt:U3} {g:FuncId} {AJ:PW} (h:Xn P g AJ) (J:U5 P rt):U5 P ((g,AJ)::rt):=by
 intro B y E;have q:cond (Nat.beq g B) (some AJ) (SQ rt B)=some y:=E;cases C:Nat.beq g B with
 |true=>rw[C]at q;injection q with q;rw[<-q,<-DP C];exact h
 |false=>rw[C]at q;exact J B y q
structure Aao where
 X:Type
 pre:Prop
 Q:X->Prop
 v:X->AV
 up:X->List (Nat×Ae)
 nx:Nat
abbrev Xo:=Tr Ae->Nat->List AV->Option Aao
abbrev ep:=List (FuncId×Xo)
def Y1 (tb:ep) (g:FuncId):Option Xo:=List.rec (motive:=λ_=>Option Xo) none (λp _ q=>cond (Nat.beq p.1 g) (some p.2) q) tb
def Aap (P:Program) (g:FuncId) (AJ:Xo):Prop:=∀H nx args q,AJ H nx args=some q->q.pre->∀E F ρ w,Rel E F nx ρ H.get w-> LS P (.fn g args) w ρ (λe w'=>∃r:CR,(∃x,q.Q x/\r=.mk (q.v x) (Cr (q.up x) H) q.nx)/\NC E F nx ρ r e w')
def oO (P:Program) (rt:ep):Prop:=∀g AJ,Y1 rt g=some AJ->Aap P g AJ
theorem AgH (P:Program):oO P []:=λ_ _ h=>by cases h
def Kw (tb:D9) (ht:DX):D7:=λt H nx=>match t with
 |.fn g args=>Option.rec (motive:=λ_=>Option CR) (ob (look tb g) λAJ=>ob (AJ H args) λct=>ob (IY ct) λo=>some (Hu o.1 o.2 H (nx+1)))
   (λAJ=>ob (AJ H nx args) λhc=>ob (hOut hc) λo=>some (Hu o.1 o.2.1 (Cr o.2.2.1 H) o.2.2.2)) (Lq ht g)
 |.Dx _ _=>none
structure CX where
 X:Type
 T:St->Nat->X->List (Nat×AV)
 H:St->Nat->X->List (Nat×Ae)
 nx:St->Nat->Nat
 I:St->X->Prop
 m:X->Nat
abbrev KX:=AX->St->Prop
abbrev KC:=CR->Prop
structure Ctx where
 P:Program
 tb:D9
 lp:FuncId->Nat->Option CX
 cut:FuncId->Nat->Option CX
 ht:DX:=[]
 AA:Gi P ht:=by exact YH _
 rt:U3:=[]
 xH:U5 P rt:=by exact xU _
 pl:FuncId->Nat->St->Bool:=λ_ _ _=>false
 fr:FuncId->Nat->List Nat:=λ_ _=>[]
 fl:FuncId->Nat->List Nat:=λ_ _=>[]
 rh:ep:=[]
 AgI:oO P rh:=by exact AgH _
structure Fx where
 code:Nat->FuncId->Code->St->KX->Prop
 call:FuncId->List AV->Tr Ae->Nat->KC->Prop
def Bg.{u} {α:Type u} (x:Option α) (K:α->Prop):Prop:=Option.rec (motive:=λ_=>Prop) False K x
theorem BM.{u} {α:Type u} {x:Option α} {K:α->Prop} (h:Bg x K):∃a,x=some a/\K a:=by
 cases x with
 |none=>exact h.elim
 |some a=>exact⟨a,rfl,h⟩
def Ob:D7:=λ_ _ _=>none
def P9 (ops:Array Oper) (T:Tr AV) (o:Oper) (K:Tr AV->Bool->Prop):Prop:=
 match o.guard with
 |none=>K T true
 |some (j,q)=>Bg (ops[j]?) λy=>Bg y.dst λd=>Bg (T.get d) λv=>match v with
  |.bool b=>Ah b (K (T.set d (.bool true)) q) (K (T.set d (.bool false)) (!q))
  |_=>K T false
def fV (X:Operand->Option AV) (op:Op) (C:Le->Prop):Prop:=
 match op with
 |.call c=>match c.callee with
  |.value f=>Bg (X f) λy=>Bg (Gf X c.args.toList) λq=>Bg (Jm y q) C
  |_=>False
 |_=>False
def fk (kd:TypeDesc) (k:CW) (z:AV) (K:Bool->AV->Prop) (B:List DW):Prop:=List.rec (motive:=λ_=>Prop) (K false z) (λe _ y=>Bg (N3 kd e.key) λs=>Bg (Qe k s) λq=>Ah q (K true e.val) y) B
def XQ (P:Program) (X:Operand->Option AV) (H:Tr Ae) (nx:Nat) (op:Op) (K:KC) (D:Prop):Prop:=
 match op with
 |.lookup t m k ok=>Bg (X m) λm=>Bg (X k) λk=>Bg (P.underlying t) λd=>match d with
  |.map key q=>Bg (P.underlying key) λkd=>Al (VJ kd) (Bg (N3 kd k) λs=>Bg (Ru P q) λz=>match m with
   |.map id=>Bg (H.get id) λo=>match o with
    |.map es _=>fk kd s z (λhas v=>K (.mk (cond ok (.AO [v,.bool has]) v) H nx)) es
    |_=>False
   |_=>False)
  |_=>False
 |_=>D
def nV (z:Int) (K:Nat->Prop) (n:Nat):Prop:=Nat.rec (motive:=λ_=>Prop) False (λj q=>Ah (An z (j:Int)) (K j) q) n
theorem z3 {z:Int} {K:Nat->Prop}:∀ {n:Nat},nV z K n->∃j,j<n/\z=(j:Int)/\K j
 |0,h=>h.elim
 |n+1,h=>by
  obtain⟨J,E⟩:=FN.1 (show Ah (An z (n:Int)) (K n) (nV z K n)from h);cases q:An z (n:Int)with
  |true=>exact⟨n,Nat.lt_succ_self _,by simpa[DU]using q,J q⟩
  |false=>obtain⟨j,C,B,y⟩:=z3 (E q);exact⟨j,Nat.lt_succ_of_lt C,B,y⟩
def Vf (P:Program) (X:Operand->Option AV) (op:Op) (K:AV->Prop) (D:Prop):Prop:=
 match op with
 |.indexAddr t x i=>match X x,X i with
  |some (.sl id off n _),some (.int _ z)=>cond (Nat.ble n 8) (Bg (P.underlying t) λd=>match d with
   |.slice e=>Bg (P.underlying e) λ_=>nV z (λj=>fN (off+j*P.cellsOf e) λo=>K (.ptr id o)) n
   |_=>D) D
  |_,_=>D
 |_=>D
theorem pQ {P:Program} {H:Tr Ae} {X:Operand->Option AV} {op:Op} {K:AV->Prop} {D:Prop} (h:Vf P X op K D):D\/∃v,Hk P H X op=some v/\K v:=by
 unfold Vf at h;split at h
 ·rename_i t x i;split at h
  ·rename_i id off n cap k z J hi;cases C:Nat.ble n 8 with
   |false=>rw[C]at h;exact .inl h
   |true=>
    rw[C,cond_true]at h;obtain⟨d,hd,q⟩:=BM h;split at q
    ·rename_i e;obtain⟨de,B,M⟩:=BM q;obtain⟨j,L,rfl,E⟩:=z3 M;rw[Bv]at E;refine .inr ⟨_,?_,E⟩;have y:Nat.blt j n=true:=by rw[Co];exact L
     show(ob (X x) λa=>ob (X i) λb=>Sn P t a b)=_;rw[J,hi];show Sn P t (.sl id off n cap) (.int k (.ofNat j))=_;simp only[Sn,hd,B,ob,gd,y,cond_true,Bv]
    ·exact .inl q
  ·exact .inl h
 ·exact .inl h
def XS (P:Program) (X:Operand->Option AV) (H:Tr Ae) (ni nx nx':Nat) (op:Op) (K:KC) (C:Le->Prop):Prop:=Option.rec (motive:=λ_=>Prop) (Vf P X op (λv=>K (.mk v H nx)) (Option.rec (motive:=λ_=>Prop) (Option.rec (motive:=λ_=>Prop) (Option.rec (motive:=λ_=>Prop) (Option.rec (motive:=λ_=>Prop) (Option.rec (motive:=λ_=>Prop) (XQ P X H nx op K (fV X op C)) K (GC P Ob X H ni nx' op)) (λr=>Al r.1 (K (.mk r.2.1 r.2.2 nx'))) (JG P X H ni op)) (λp=>K (.mk p.1 (H.set ni p.2) nx')) (Ix P X ni op)) (λr=>Al r.1 (K (.mk r.2.1 (H.set ni r.2.2) nx'))) (Je P X ni op)) (λv=>K (.mk v H nx)) (Hk P H X op))) (λr=>Al r.1 (K (.mk r.2 H nx))) (HP P H X op)
def LZ (N:Nat) (T:Tr AV) (dst:Option Tmp) (v:AV) (K:Tr AV->Prop):Prop:=
 match dst with
 |none=>K T
 |some d=>Al (Nat.blt d N) (K (T.set d v))
def Gl (o:Oper) (s:St) (K:KX) (q:St->Prop) (r:CR):Prop:=
 match r with
 |.mk v H nx=>LZ s.N s.T o.dst v λT=>q ⟨s.N,T,H,nx,s.ro,s.D⟩
 |.AB v H nx=>K (.AB v) ⟨s.N,s.T,H,nx,s.ro,s.D⟩
 |.Df g args H nx=>match s.ro with
  |none=>LZ s.N s.T o.dst (.AO []) λT=>q ⟨s.N,T,H,nx,s.ro,.call g args::s.D⟩
  |some _=>False
def Yv (fz:List FZ) (id:Nat):Option FZ:=List.rec (motive:=λ_=>Option FZ) none (λz _ q=>cond (Nat.beq z.id id) (some z) q) fz
def Qk (fz:List FZ) (a:AV):Bool×AV:=
 match a with
 |.AY id n e=>Option.rec (motive:=λ_=>Bool×AV) (true,.AY id n e) (λz=>(cond (Nat.beq e z.Ap) (Nat.beq n z.n) false,z.a)) (Yv fz id)
 |a=>(true,a)
def Yw (fz:List FZ) (a:Option AV):Bool×Option AV:=Option.rec (motive:=λ_=>Bool×Option AV) (true,none) (λa=>((Qk fz a).1,some (Qk fz a).2)) a
def Sy (fz:List FZ) (T:Tr AV):Bool×Tr AV:=Tr.rec (motive:=λ_=>Bool×Tr AV) (true,.leaf) (λv _ _ il ir=>(cond (Yw fz v).1 (cond il.1 ir.1 false) false,.node (Yw fz v).2 il.2 ir.2)) T
def I1 (fz:List FZ) (T:Tr AV):Bool×Tr AV:=
 match fz with
 | []=>(true,T)
 |fz=>Sy fz T
def xI:FuncId:=1000000
def XT (E:Fx) (id:Nat) (args:Aj) (H:Tr Ae) (nx:Nat) (K:KC):Prop:=Bg (H.get id) λo=>match o with
  |.loop _ _ T N C y body _=>Bg (m8 C.toList args N T) λT'=>E.code nx xI y ⟨N,T',H,nx,some id,[]⟩ λx s=>match x with
   |.Bc=>Bg (Y2 s.H id λst Dv=>match st with
     |.ready=>some (.busy,Dv)
     |_=>none) λH1=>E.code nx xI body ⟨s.N,s.T,H1,s.nx,s.ro,s.D⟩ λq B=>Al q.calm (Bg (Y2 B.H id λ_ _=>some (cond q.jump.isNone .ready .done,q.jump)) λJ=>K (.mk (.bool q.jump.isNone) J B.nx))
   |_=>False
  |_=>False
def fq (E:Fx) (f:Operand) (y:Array Tmp) (q body:Code) (s:St) (K:KX):Prop:=Bg (B6 s.T f) λB=>match s.ro with
  |none=>fN (s.nx+1) λl=>fN (l+1) λnx=>Bg (Jm B [.Dx l]) λt=>match t with
   |.fn g args=>E.call g args ((s.H.set s.nx (.Df true)).set l (.loop .ready none s.T s.N y q body s.nx)) nx λr=>match r with
    |.mk _ H nx'=>Bg (H.get l) λo=>match o with
     |.loop st Dv _ _ _ _ _ _=>Bg (je Dv) λx=>Bg (Y2 H l λ_ _=>match st with
       |.busy=>none
       |_=>some (.exhausted,Dv)) λH'=>K x ⟨s.N,s.T,H',nx',s.ro,.mark s.nx::s.D⟩
     |_=>False
    |_=>False
   |_=>False
  |some _=>False
def fw (cx:Ctx) (E:Fx) (o:Oper) (s:St) (nx':Nat) (K:KX) (y:St->Prop) (t:Le):Prop:=
 match t with
 |.Dx id args=>XT E id args s.H nx' (Gl o s K y)
 |.fn g args=>Option.rec (motive:=λ_=>Prop) (Option.rec (motive:=λ_=>Prop) (E.call g args s.H nx' (Gl o s K y))
  (λAJ=>Bg (Qi cx.P s.H args) λr=>Al r.1 (Bg (AJ s.H r.2.1) λct=>(λq:Bool×Tr AV=>Al q.1 (OO ct (λv=>Gl o ⟨s.N,q.2,C8 s.H r.2.2.2,nx',s.ro,s.D⟩ K y (.mk v (C8 s.H r.2.2.2) (nx'+1))) (λv=>Gl o ⟨s.N,q.2,C8 s.H r.2.2.2,nx',s.ro,s.D⟩ K y (.AB v (C8 s.H r.2.2.2) (nx'+1))))) (I1 r.2.2.1 s.T))) (look cx.tb g))
  (λAJ=>Bg (AJ s.H nx' args) λhc=>OP hc (λv up nx=>Gl o ⟨s.N,s.T,s.H,nx',s.ro,s.D⟩ K y (.mk v (Cr up s.H) nx)) (λv up nx=>Gl o ⟨s.N,s.T,s.H,nx',s.ro,s.D⟩ K y (.AB v (Cr up s.H) nx))) (Lq cx.ht g)
def pU (cx:Ctx) (E:Fx) (o:Oper) (s:St) (nx':Nat) (K:KX) (B:St->Prop) (t:Le):Prop:=
 match t with
 |.Dx id args=>XT E id args s.H nx' (Gl o s K B)
 |.fn g args=>Option.rec (motive:=λ_=>Prop) (Option.rec (motive:=λ_=>Prop) (fw cx E o s nx' K B (.fn g args))
  (λAJ=>Bg (Qi cx.P s.H args) λr=>Al r.1 (Bg (AJ s.H r.2.1) λy=>(λq:Bool×Tr AV=>Al q.1 (y.pre/\∀x,y.Q x->Gl o ⟨s.N,q.2,C8 s.H r.2.2.2,nx',s.ro,s.D⟩ K B (.mk (y.v x) (C8 s.H r.2.2.2) (nx'+1)))) (I1 r.2.2.1 s.T))) (SQ cx.rt g))
  (λAJ=>Bg (AJ s.H nx' args) λy=>y.pre/\∀x,y.Q x->Gl o ⟨s.N,s.T,s.H,nx',s.ro,s.D⟩ K B (.mk (y.v x) (Cr (y.up x) s.H) y.nx)) (Y1 cx.rh g)
def FO (cx:Ctx) (E:Fx) (ops:Array Oper) (K:KX) (l:List Oper):St->Prop:=List.rec (motive:=λ_=>St->Prop) (λs=>K .Bc s) (λo _ q s=>P9 ops s.T o λT y=>cond y (fN (s.nx+1) λnx'=>XS cx.P (B6 T) s.H s.nx s.nx nx' o.op (Gl o ⟨s.N,T,s.H,s.nx,s.ro,s.D⟩ K q) (pU cx E o ⟨s.N,T,s.H,s.nx,s.ro,s.D⟩ nx' K q)) (LZ s.N T o.dst (.AO []) λT=>q ⟨s.N,T,s.H,s.nx,s.ro,s.D⟩)) l
def RW (T:Tr AV) (c:Operand) (A B:Tr AV->Prop):Prop:=
 match c with
 |.tmp d=>Bg (T.get d) λv=>match v with
  |.bool b=>Ah b (A (T.set d (.bool true))) (B (T.set d (.bool false)))
  |_=>False
 |.const (.bool b)=>Ah b (A T) (B T)
 |_=>False
def Li (c:Code):Option Nat:=Code.rec (motive:=λ_=>Option Nat) none (λid _ _=>some id) (λ_ _ B y=>Option.rec (motive:=λ_=>Option Nat) y some B) (λ_ _ _ _ _=>none) (λ_ _ q=>q) (λ_ q=>q) (λ_ _ _ _ _ _=>none) (λ_=>none) (λ_ q=>q) (λ_=>none) (λ_=>none) none (λ_=>none) c
def mf (S:CX) (s:St) (n0:Nat) (x:S.X):St:=⟨s.N,SX (S.T s n0 x),Bx (S.H s n0 x),S.nx s n0,none,[]⟩
def MZ (s:St) (l:List Nat):List (Nat×AV):=List.rec (motive:=λ_=>List (Nat×AV)) [] (λt _ q=>Option.rec (motive:=λ_=>List (Nat×AV)) q (λv=>(t,v)::q) (s.T.get t)) l
def SM (s:St) (n0:Nat):List (Nat×Ae):=List.rec (motive:=λ_=>List (Nat×Ae)) [] (λt _ q=>Option.rec (motive:=λ_=>List (Nat×Ae)) q (λv=>(t,v)::q) (s.H.get t)) (List.range s.nx)
def thin (X:Type) (ks:List Nat) (T:X->List (Nat×AV)) (I:St->X->Prop) (m:X->Nat):CX:=⟨X,λs _ x=>T x++MZ s ks,λs n0 _=>SM s n0,λs _=>s.nx,I,m⟩
def fY (E:Fx) (S:CX) (n0:Nat) (f:FuncId) (a b:Code) (s:St) (K:KX):Prop:=(E.code n0 f a s λax s'=>match ax with
  |.Bc=>∃x:S.X,S.I s x/\B8 n0 s.N (S.nx s n0) (S.T s n0 x) (S.H s n0 x) s'
  |ax=>K ax s')/\
 ∀x:S.X,S.I s x->E.code n0 f b (mf S s n0 x) K
def P8 (P:Program) (B:List Nat) (K:St->Prop) (s:St):Prop:=List.rec (motive:=λ_=>St->Prop) K (λd _ y s=>Bg (s.T.get d) λv=>Bg (Jn P s.H v) λr=>Al r.1 ((λq:Bool×Tr AV=>Al q.1 (y ⟨s.N,q.2.set d r.2.1,C8 s.H r.2.2.2,s.nx,s.ro,s.D⟩)) (I1 r.2.2.1 s.T))) B s
def OQ (P:Program) (B:List Nat) (E:Fx) (S:CX) (n0:Nat) (f:FuncId) (c:Code) (s:St) (K:KX):Prop:=(∃y:S.X,S.I s y/\B8 n0 s.N (S.nx s n0) (S.T s n0 y) (S.H s n0 y) s)/\ ∀x:S.X,S.I s x->E.code n0 f c (mf S s n0 x) λax s'=>match ax with
  |.Bc=>P8 P B (λs'=>∃q:S.X,S.I s q/\S.m q<S.m x/\B8 n0 s.N (S.nx s n0) (S.T s n0 q) (S.H s n0 q) s') s'
  |ax=>K ax s'
def NQ (cx:Ctx) (f:FuncId) (c:Code):List Nat:=Option.rec (motive:=λ_=>List Nat) [] (λr=>cx.fl f r) (Li c)
def pJ (cx:Ctx) (E:Fx) (D:Array Oper->St->KX->Prop) (n0:Nat) (f:FuncId) (c:Code) (s:St) (K:KX):Prop:=
 match c with
 |.skip=>K .Bc s
 |.region id ops false=>P8 cx.P (cx.fr f id) (λs=>FO cx E ops K ops.toList s) s
 |.region id ops true=>P8 cx.P (cx.fr f id) (λs=>D ops s K) s
 |.seq a b=>Option.rec (motive:=λ_=>Prop) (E.code n0 f a s λax s'=>match ax with
   |.Bc=>E.code n0 f b s' K
   |ax=>K ax s') (λS=>fY E S n0 f a b s K) (Option.rec (motive:=λ_=>Option CX) none (λr=>cx.cut f r) (Li b))
 |.cond c a b=>RW s.T c (λT=>E.code n0 f a ⟨s.N,T,s.H,s.nx,s.ro,s.D⟩ K) (λT=>E.code n0 f b ⟨s.N,T,s.H,s.nx,s.ro,s.D⟩ K)
 |.block id c=>E.code n0 f c s λax s'=>match ax with
   |.exit q=>cond (Nat.beq q id) (K .Bc s') (K (.exit q) s')
   |ax=>K ax s'
 |.loop c=>Option.rec (motive:=λ_=>Prop) (E.code n0 f c s λax s'=>match ax with
   |.Bc=>E.code n0 f (.loop c) s' K
   |ax=>K ax s') (λS=>cond (Option.rec (motive:=λ_=>Bool) false (λr=>cx.pl f r s) (Li c)) (E.code n0 f c s λax s'=>match ax with
   |.Bc=>OQ cx.P (NQ cx f c) E S n0 f c s' K
   |ax=>K ax s') (OQ cx.P (NQ cx f c) E S n0 f c s K)) (Option.rec (motive:=λ_=>Option CX) none (λr=>cx.lp f r) (Li c))
 |.exit id=>K (.exit id) s
 |.label _=>K .Bc s
 |.goto l=>K (.goto l) s
 |.ret=>K .ret s
 |.scope c=>E.code n0 f c s λax s'=>match ax with
   |.goto _=>False
   |ax=>K ax s'
 |.rangeFunc g B y body=>fq E g B y body s K
 |_=>False
abbrev KD:=AX->St->MD->Prop
def pS (s:St) (dst:Option Tmp) (m:MD) (K:KD):Prop:=
 match m with
 |.AB v=>Bg (Jl s.N s.T dst v) λT=>K .Bc ⟨s.N,T,s.H,s.nx,s.ro,s.D⟩ (.Kf v)
 |.ret=>Bg (Jl s.N s.T dst .EL) λT=>K .Bc ⟨s.N,T,s.H,s.nx,s.ro,s.D⟩ .ret
 |.Kf v=>Bg (Jl s.N s.T dst .EL) λT=>K .Bc ⟨s.N,T,s.H,s.nx,s.ro,s.D⟩ (.Kf v)
def P7 (E:Fx) (n0:Nat) (f:FuncId) (k:Nat):Code->St->MD->KD->Prop:=Nat.rec (motive:=λ_=>Code->St->MD->KD->Prop) (λ_ _ _ _=>False) (λ_ y c s m K=>match c with
  |.seq a b=>y a s m λx s' q=>match x with
   |.Bc=>y b s' q K
   |x=>K x s' q
  |.cond c a b=>RW s.T c (λT=>y a ⟨s.N,T,s.H,s.nx,s.ro,s.D⟩ m K) (λT=>y b ⟨s.N,T,s.H,s.nx,s.ro,s.D⟩ m K)
  |.block id c=>y c s m λx s' q=>match x with
   |.exit B=>cond (Nat.beq B id) (K .Bc s' q) (K (.exit B) s' q)
   |x=>K x s' q
  |.region id ops false=>Option.rec (motive:=λ_=>Prop) (E.code n0 f (.region id ops false) s λx s'=>K x s' m) (λdst=>pS s dst m K) (Uj ops.toList)
  |c=>E.code n0 f c s λx s'=>K x s' m) k
def fb (P:Program) (E:Fx) (g:FuncId) (args:Aj) (H:Tr Ae) (nx:Nat) (m:MD) (K:MD->Tr Ae->Nat->Prop):Prop:=
 Bg (P.funcs[g]?) fun fn => Al (!(fn.name == "runtime.NumGoroutine")) (Bg fn.body fun c =>
  fN args.length λn=>fN (n+(fn.ntmps-n)) λN=>P7 E nx g 60 c ⟨N,setArgs args .leaf 0,H,nx,none,[]⟩ m λx s m'=>cond (match x with
   |.Bc=>true
   |.ret=>true
   |_=>false) (Al s.D.isEmpty (Bg (Ss P s.H s.T fn.results.toList) λ_=>K m'.settle s.H s.nx)) False)
def XP (P:Program) (E:Fx) (l:List PL):MD->Tr Ae->Nat->(MD->Tr Ae->Nat->Prop)->Prop:=List.rec (motive:=λ_=>MD->Tr Ae->Nat->(MD->Tr Ae->Nat->Prop)->Prop) (λm H nx K=>K m H nx) (λd _ q m H nx K=>match d with
   |.mark id=>Bg (H.get id) λo=>match o with
    |.Df true=>q m (H.set id (.Df false)) nx K
    |_=>False
   |.call g args=>fb P E g args H nx m λm H nx=>q m H nx K) l
def XO (P:Program) (E:Fx) (fn:Func) (K:KC) (m:MD) (s:St):Prop:=XP P E s.D m s.H s.nx λm H nx=>match m with
  |.ret=>Bg (Ss P H s.T fn.results.toList) λv=>K (.mk v H nx)
  |.AB v=>K (.AB v H nx)
  |.Kf _=>False
def pR (P:Program) (E:Fx) (fn:Func) (K:KC) (ax:AX) (s:St):Prop:=
 match s.D with
 | []=>match ax with
  |.Bc=>Bg (Ss P s.H s.T fn.results.toList) λv=>K (.mk v s.H s.nx)
  |.ret=>Bg (Ss P s.H s.T fn.results.toList) λv=>K (.mk v s.H s.nx)
  |.AB v=>K (.AB v s.H s.nx)
  |_=>False
 |_=>match ax with
  |.Bc=>XO P E fn K .ret s
  |.ret=>XO P E fn K .ret s
  |.AB v=>XO P E fn K (.AB v) s
  |_=>False
def pP (cx:Ctx) (E:Fx) (g:FuncId) (args:Aj) (H:Tr Ae) (nx:Nat) (K:KC):Prop:=
 Bg (cx.P.funcs[g]?) fun fn => Al (!(fn.name == "runtime.NumGoroutine")) (Bg fn.body fun c =>
  fN args.length λn=>fN (n+(fn.ntmps-n)) λN=>E.code nx g c ⟨N,setArgs args .leaf 0,H,nx,none,[]⟩ (pR cx.P E fn K))
def fj (cx:Ctx) (D:Array Oper->St->KX->Prop) (n:Nat):Fx:=Nat.rec (motive:=λ_=>Fx) ⟨λ_ _ _ _ _=>False,λ_ _ _ _ _=>False⟩ (λ_ E=>⟨pJ cx E D,pP cx E⟩) n
end Go.Ev
end
section
namespace Go.Ev
def dF (E:Env) (F:Nat->Option Obj) (nx:Nat) (ρ:Ai) (K:KC) (e:Ending) (w':World):Prop:=∃r,K r/\NC E F nx ρ r e w'
def La (P:Program) (call:FuncId->Aj->Tr Ae->Nat->KC->Prop):Prop:=∀g args H nx K,call g args H nx K->∀E F ρ w,Rel E F nx ρ H.get w->LS P (.fn g args) w ρ (dF E F nx ρ K)
def zj (E:Env) (H:Tr Ae):Prop:=∀g l,H.get g=some (.Jo l)->∃cs e fz,E.base g=some (.cells cs e fz)/\∀q,AG q l cs.toList
def Ck (P:Program) (g:FuncId) (AJ:Tr Ae->Aj->Option Ct):Prop:=∀H args ct,AJ H args=some ct->∀p v,IY ct=some (p,v)->∀E F ρ w nx H',zj E H->Rel E F nx ρ H'.get w->LS P (.fn g args) w ρ (NC E F nx ρ (Hu p v H' (nx+1)))
def EY (P:Program) (tb:D9):Prop:=∀g AJ,look tb g=some AJ->Ck P g AJ
theorem AeW (P:Program):Lb P Ob:=λ_ _ _ _ h=>by cases h
theorem pW {P:Program} {tb:D9} {ht:DX} (h:EY P tb) (O:Gi P ht):Lb P (Kw tb ht):=by
 intro t H nx r y E F ρ w rel;cases t with
 |Dx _ _=>cases y
 |fn g args=>
  have q:Option.rec (motive:=λ_=>Option CR) (ob (look tb g) λAJ=>ob (AJ H args) λct=>ob (IY ct) λo=>some (Hu o.1 o.2 H (nx+1))) (λAJ=>ob (AJ H nx args) λhc=>ob (hOut hc) λo=>some (Hu o.1 o.2.1 (Cr o.2.2.1 H) o.2.2.2)) (Lq ht g)=some r:=y;clear y;cases C:Lq ht g with
  |some AJ=>rw[C]at q;obtain⟨hc,L,K⟩:=Ag.1 q;obtain⟨⟨p,v,up,n⟩,B,J⟩:=Ag.1 K;injection J with J;subst J;exact O g AJ C H nx args hc L p v up n B E F ρ w rel
  |none=>
  rw[C]at q;have y:=q;obtain⟨AJ,he,L⟩:=Ag.1 y;obtain⟨ct,hc,K⟩:=Ag.1 L;obtain⟨⟨p,v⟩,M,B⟩:=Ag.1 K;injection B with B;subst B;exact h g AJ he H args ct hc p v M E F ρ w nx H rel.gl rel
theorem pO {ρ:Ai} {kd:TypeDesc} {k:CW} {z:AV} {u B:Value} {K:Bool->AV->Prop} (E:KR kd k u) (hz:VR ρ z B):∀ {y:List DW} {l:List MapEntry},Ey ρ y l->∀(i:Nat),fk kd k z K y->∃has val v,K has val/\VR ρ val v/\(if has then∃j,Instr.findNow kd u l i=some (some (j,v))else Instr.findNow kd u l i=some none/\v=B)
 |_,_,.nil,i,h=>⟨false,z,B,h,hz,by simp[Instr.findNow]⟩
 |_,_,.cons e m y l J L,i,h=>by
  obtain⟨s,C,Y⟩:=BM (show Bg (N3 kd e.key) (λs=>Bg (Qe k s) λq=>Ah q (K true e.val) (fk kd k z K y))from h);obtain⟨q,M,W⟩:=BM Y;obtain⟨V,U⟩:=FN.1 W;have hn:=ru E (YP J.1 C) M;cases q with
  |true=>exact⟨true,e.val,m.val,V rfl,J.2.1,by simp[Instr.findNow,hn]⟩
  |false=>obtain⟨has,val,v,S,R,O⟩:=pO E hz L (i+1) (U rfl);exact⟨has,val,v,S,R,by simpa[Instr.findNow,hn]using O⟩
theorem Abe {P:Program} {X:Operand->Option AV} {H:Tr Ae} {nx:Nat} {op:Op} {K:KC} {D:Prop} (h:XQ P X H nx op K D):D\/∃t m k ok,op=.lookup t m k ok/\ ∀(E:Env) (F:Nat->Option Obj) (n:Nat) (ρ:Ai) (w:World) (J:Operand->Value),Rel E F n ρ H.get w->XR ρ X J->∃a z,K (.mk a H nx)/\(Instr.lookup t (J m) (J k) ok).run P w=.ok z w/\VR ρ a z:=by
 unfold XQ at h;split at h
 ·rename_i t m k ok;refine .inr ⟨t,m,k,ok,rfl,λE F n ρ w J r hX=>?_⟩;obtain⟨ma,Y,h1⟩:=BM h;obtain⟨ka,ab,h2⟩:=BM h1;obtain⟨d,hd,S⟩:=BM h2;have hm:=hX _ _ Y;have hk:=hX _ _ ab;generalize J m=u at hm;generalize J k=v at hk;clear h h1 h2;split at S
  ·rename_i key ae;obtain⟨kd,y,h4⟩:=BM S;obtain⟨aa,h5⟩:=EE.1 h4;obtain⟨s,V,h6⟩:=BM h5;obtain⟨z,hz,R⟩:=BM h6;have Z:=YP hk V;obtain⟨zv,L,U⟩:=Rv hz w;have B:=λe=>XW (P:=P) y aa e 9999 v w;split at R
   ·obtain⟨o,ho,O⟩:=BM R;split at O
    ·rename_i es ad;cases hm with
     |map _ b hb=>
      obtain⟨c,hc,W⟩:=r.ob _ _ b ho hb;cases W with
      |map _ _ l hl=>
       obtain⟨has,val,q,h9,M,C⟩:=pO Z (U ρ) hl 0 O;refine⟨_,?_,h9,?_⟩
       ·exact cond ok (.tuple #[q,.bool has]) q
       ·cases has with
        |true=>
         obtain⟨j,C⟩:=C;cases ok with
         |true=>refine⟨?_,.AO _ [q,.bool true] (.cons _ _ _ _ M (.cons _ _ _ _ (.bool true) .nil))⟩;simp[Instr.lookup,run_underlying hd,B,Instr.findKey,run_underlying y,C,getObj,Sem.run,hc]
         |false=>refine⟨?_,M⟩;simp[Instr.lookup,run_underlying hd,B,Instr.findKey,run_underlying y,C,getObj,Sem.run,hc]
        |false=>
         obtain⟨C,rfl⟩:=C;cases ok with
         |true=>refine⟨?_,.AO _ [q,.bool false] (.cons _ _ _ _ M (.cons _ _ _ _ (.bool false) .nil))⟩;simp[Instr.lookup,run_underlying hd,B,Instr.findKey,run_underlying y,C,getObj,Sem.run,hc,L]
         |false=>refine⟨?_,M⟩;simp[Instr.lookup,run_underlying hd,B,Instr.findKey,run_underlying y,C,getObj,Sem.run,hc,L]
    ·exact O.elim
   ·exact R.elim
  ·exact S.elim
 ·exact .inl h
theorem Abf {P:Program} {X:Operand->Option AV} {H:Tr Ae} {ni nx nx':Nat} {op:Op} {K:KC} {C:Le->Prop} (h:XS P X H ni nx nx' op K C): (∃r,MP P Ob X H ni nx nx' op=some r/\K r)\/XQ P X H nx op K (fV X op C):=by
 unfold XS at h;cases L:HP P H X op with
 |some r=>rw[L]at h;obtain⟨B,y⟩:=EE.1 h;obtain⟨b,v⟩:=r;simp only at B;subst B;exact .inl ⟨_,by unfold MP;rw[mX L],y⟩
 |none=>
 rw[L]at h;rcases pQ (H:=H) h with h|⟨v,hv,R⟩
 rotate_left
 ·exact .inl ⟨_,by unfold MP;rw[V8 L hv],R⟩
 cases B:Hk P H X op with
 |some v=>rw[B]at h;exact .inl ⟨_,by unfold MP;rw[V8 L B],h⟩
 |none=>
 rw[B]at h;have M:Ds P H X op=none:=by unfold Ds;rw[L];exact B
 cases y:Je P X ni op with
 |some r=>rw[y]at h;obtain⟨q,J⟩:=EE.1 h;obtain⟨b,v,o⟩:=r;simp only at q;subst q;exact .inl ⟨_,by unfold MP;rw[M,x7 y],J⟩
 |none=>
 rw[y]at h;cases q:Ix P X ni op with
 |some p=>rw[q]at h;exact .inl ⟨_,by unfold MP;rw[M,vi y q],h⟩
 |none=>
 rw[q]at h;have O:EJ P X ni op=none:=by unfold EJ;rw[y];exact q
 cases J:JG P X H ni op with
 |some r=>rw[J]at h;obtain⟨E,S⟩:=EE.1 h;obtain⟨b,v,H'⟩:=r;simp only at E;subst E;exact .inl ⟨_,by unfold MP;rw[M,O,x5 J],S⟩
 |none=>
 rw[J]at h;cases E:GC P Ob X H ni nx' op with
 |some r=>rw[E]at h;exact .inl ⟨_,by unfold MP;rw[M,O,VC J E],h⟩
 |none=>rw[E]at h;exact .inr h
theorem Abk {ops:Array Oper} {T:Tr AV} {o:Oper} {K:Tr AV->Bool->Prop} (h:P9 ops T o K):∃T' J,K T' J/\E7 ops T o=some J/\∀t,T'.get t=T.get t:=by
 unfold P9 at h;unfold E7;split at h
 ·rename_i B;rw[B];exact⟨T,true,h,rfl,λ_=>rfl⟩
 ·rename_i j L B;rw[B];obtain⟨Y,V,U⟩:=BM h;obtain⟨d,E,S⟩:=BM U;obtain⟨v,y,C⟩:=BM S;simp only[V];have q:∀b,v=.bool b->∀t,(T.set d (.bool b)).get t=T.get t:=λb M t=>by
   rw[Tr.Hl];split
   ·rename_i e;subst e;rw[y,M]
   ·rfl
  split at C
  ·rename_i b;obtain⟨R,O⟩:=FN.1 C;cases b with
   |true=>exact⟨_,_,R rfl,by simp[ob,E,y],q true rfl⟩
   |false=>exact⟨_,_,O rfl,by simp[ob,E,y],q false rfl⟩
  ·rename_i W;refine⟨T,false,C,?_,λ_=>rfl⟩;simp only[ob,E,y]
theorem R4 {N:Nat} {T:Tr AV} {dst:Option Tmp} {v:AV} {K:Tr AV->Prop} (h:LZ N T dst v K):∃T',Jl N T dst v=some T'/\K T':=by
 unfold LZ at h;split at h
 ·exact⟨T,rfl,h⟩
 ·obtain⟨y,q⟩:=EE.1 h;exact⟨_,by unfold Jl;exact AL.2 ⟨y,rfl⟩,q⟩
theorem Vg {P:Program} {ρ:Ai} {X:Operand->Option AV} {a:Act} {w:World} (hX:XR ρ X a.eval) {o:Oper} {c:Call} (ho:o.op=.call c) {f:Operand} (hc:c.callee=.value f) {fv:AV} (hf:X f=some fv) {Z:Aj} (E:Gf X c.args.toList=some Z) {g:FuncId} {q:Aj} (ht:Jm fv Z=some (.fn g q)) {R:Ending->World->Prop} (AA:LS P (.fn g q) w ρ R) {ro:Option Nat} {next:Act->World->Prop} {Q:Exit->Act->World->Prop} (hR:∀e w',R e w'->match e with
   |.returned v=>next (a.put o.dst v) w'
   |.panicked chain=>Q (.panic chain) a w'
   |.outgrown=>LetsOut Q):o.wpIn (FW ro) 0 P a w next Q:=by
 obtain⟨dst,op,type,pos,after,guard⟩:=o;simp only at ho;subst ho;obtain⟨callee,args,argTypes⟩:=c;simp only at hc E;subst hc;have K:=hX _ _ hf;have J:=Jh hX E;rw[show args.toList.map a.eval=(args.map a.eval).toList by rw[Array.toList_map]]at J;refine⟨NI ro P _ w a.eval,?_⟩;rw[Oper.semAt_eq _ _ _ (by simp)];unfold Jm at ht;split at ht
 ·rename_i g' first cap
  injection ht with ht;injection ht with O M;subst O;subst M;generalize V:a.eval f=aa at K;cases K with
  |fn _ _ _ va vc ha hc=>
   obtain⟨⟨fn,c,U,S,Y⟩,B⟩:=AA;have W:=B _ (ha.append (J.append hc));have L:(execOp a.eval {dst,op:=.call {callee:=.value f,args,argTypes},type,pos,after,guard}).run P w=.ok (.enter g' ((va++((args.map a.eval).toList++vc)).toArray)) w:=by simp only[execOp,resolve,V,Deferred.ofValue,Sem.run_bind,Sem.run_pure,Result.andThen_ok,invoke,callFunc,run_program,U,S,Bool.false_eq_true,if_false,Y,Option.isNone_some];congr 2;apply Array.ext';simp
   rw[L];refine⟨by simp[FW,Fence.wide],?_⟩;have y:=CallsIn.mono W (R':=λ
    |.returned v,C=>next (a.put dst v) C
    |.panicked chain,C=>Q (.panic chain) a C
    |.outgrown,_=>LetsOut Q) (λe w' he=>by have:=hR e w' he;cases e<;>exact this)
   cases ro with
   |none=>exact y
   |some l=>exact y
 ·injection ht with ht;cases ht
 ·cases ht
theorem Ac1 {ρ B:Ai} {w:World} {H:Tr Ae} {fz:List FZ} {q ids:List Nat} (hz:UI ρ w H fz q) (hi:Fj H ids) (J:∀i∈q,i∈ids) (O:B=CZ ρ w ids) (C:ρ.le B) {a:AV} {v:Value} (hv:VR ρ a v) (h:(Qk fz a).1=true):VR B (Qk fz a).2 v:=by
 have find:∀(l:List FZ) id z,Yv l id=some z->z∈l/\z.id=id:=by
  intro l
  induction l with
  |nil=>intro id z h;cases h
  |cons y l R=>
   intro id z h;have h':cond (Nat.beq y.id id) (some y) (Yv l id)=some z:=h;cases K:Nat.beq y.id id with
   |true=>rw[K]at h';injection h' with h';subst h';rw[AN]at K;exact⟨BN ..,K⟩
   |false=>rw[K]at h';obtain⟨M,L⟩:=R id z h';exact⟨Ca _ M,L⟩
 unfold Qk at h⊢;split at h
 ·rename_i id n e;cases E:Yv fz id with
  |none=>exact hv.mono C
  |some z=>rw[E]at h;have h:(cond (Nat.beq e z.Ap) (Nat.beq n z.n) false)=true:=h;obtain⟨M,L⟩:=Bf h;rw[AN]at M L;obtain⟨W,V⟩:=find fz id z E;subst V;subst M;subst L;obtain⟨U,S⟩:=hz z W;rw[O];exact S ids hi (J _ U) v hv
 ·exact hv.mono C
theorem jJ {fz:List FZ}:∀(T:Tr AV),(Sy fz T).1=true->∀(p:List Bool) (b:AV),Tr.gp p (Sy fz T).2=some b->∃a,Tr.gp p T=some a/\(Qk fz a).1=true/\(Qk fz a).2=b
 |.leaf,_,p,b,h=>by rw[show(Sy fz (.leaf:Tr AV)).2=.leaf from rfl,Tr.SE]at h;cases h
 |.node v l r,h,p,b,y=>by
  have h':cond (Yw fz v).1 (cond (Sy fz l).1 (Sy fz r).1 false) false=true:=h;obtain⟨E,B⟩:=Bf h';obtain⟨B,C⟩:=Bf B;cases p with
  |nil=>
   have q:(Yw fz v).2=some b:=y;cases v with
   |none=>cases q
   |some a=>injection q with q;exact⟨a,rfl,E,q⟩
  |cons c p=>
   cases c with
   |true=>exact jJ l B p b y
   |false=>exact jJ r C p b y
theorem jI {ρ y:Ai} {w:World} {H:Tr Ae} {fz:List FZ} {q ids:List Nat} (hz:UI ρ w H fz q) (hi:Fj H ids) (C:∀i∈q,i∈ids) (E:y=CZ ρ w ids) (B:ρ.le y) {T:Tr AV} {tmps:Array Value} (ht:TR ρ T tmps) (h:(I1 fz T).1=true):TR y (I1 fz T).2 tmps:=by
 unfold I1 at h⊢;split at h
 ·exact ht.mono B
 ·intro t b J;obtain⟨a,R,O,M⟩:=jJ T h _ b J;obtain⟨v,L,K⟩:=ht t a R;subst M;exact⟨v,L,Ac1 hz hi C E B K O⟩
theorem AlJ {P:Program} {ρ:Ai} {X:Operand->Option AV} {a:Act} {w:World} (Y:XR ρ X a.eval) {o:Oper} {c:Call} (W:o.op=.call c) {f:Operand} (hc:c.callee=.value f) {Z:AV} (hf:X f=some Z) {V:Aj} (E:Gf X c.args.toList=some V) {id:Nat} {q:Aj} (ht:Jm Z V=some (.Dx id q)) {R:Ending->World->Prop} (AA:LS P (.Dx id q) w ρ R) {ro:Option Nat} {next:Act->World->Prop} {Q:Exit->Act->World->Prop} (hR:∀e w',R e w'->match e with
   |.returned v=>next (a.put o.dst v) w'
   |.panicked chain=>Q (.panic chain) a w'
   |.outgrown=>LetsOut Q):o.wpIn (FW ro) 0 P a w next Q:=by
 obtain⟨dst,op,type,pos,after,guard⟩:=o;simp only at W;subst W;obtain⟨callee,args,argTypes⟩:=c;simp only at hc E;subst hc;have K:=Y _ _ hf;have J:=Jh Y E;rw[show args.toList.map a.eval=(args.map a.eval).toList by rw[Array.toList_map]]at J;refine⟨NI ro P _ w a.eval,?_⟩;rw[Oper.semAt_eq _ _ _ (by simp)];unfold Jm at ht;split at ht
 ·cases ht
 ·rename_i aa;injection ht with ht;injection ht with O M;subst O;subst M;generalize S:a.eval f=ab at K;cases K with
  |Dx _ b hb=>
   obtain⟨fn,tmps,U,body,hy,B⟩:=AA _ b J hb;have L:(execOp a.eval {dst,op:=.call {callee:=.value f,args,argTypes},type,pos,after,guard}).run P w=.ok (.round b.b fn tmps U body) w:=by rw[Array.toArray_toList]at hy;simp only[execOp,resolve,S,Deferred.ofValue,Sem.run_bind,Sem.run_pure,Result.andThen_ok,invoke,Array.empty_append,hy]
   rw[L];refine⟨by simp[FW,Fence.wide],?_⟩;have y:=RoundIn.mono B (R':=λ
    |.returned v,C=>next (a.put dst v) C
    |.panicked chain,C=>Q (.panic chain) a C
    |.outgrown,_=>LetsOut Q) (λe w' he=>by have:=hR e w' he;cases e<;>exact this)
   cases ro with
   |none=>exact y
   |some l=>exact y
 ·cases ht
def o6 (P:Program) (y:Nat->Aj->Tr Ae->Nat->KC->Prop):Prop:=∀id args H nx K,y id args H nx K->∀E F ρ w,Rel E F nx ρ H.get w->LS P (.Dx id args) w ρ (dF E F nx ρ K)
set_option maxHeartbeats 1000000 in
theorem pT {cx:Ctx} {S:Fx} (ay:La cx.P S.call) (aF:o6 cx.P (XT S)) (aO:EY cx.P cx.tb) {ops:Array Oper} {E:Env} {F:Nat->Option Obj} {ro:Option Nat} {Q:Exit->Act->World->Prop} {n0:Nat} {ρ0:Ai} {K:KX} (hq:∀x s' B a' w',K x s'->n0<=s'.nx->Dp n0 ρ0 B->SR E F B s' a' w' ro->Rx B x λe=>Q e a' w'): ∀(l:List Oper) (i:Nat) (s:St) (ρ:Ai) (a:Act) (w:World),(∀j o,l[j]? =some o->ops[i+j]? =some o)->FO cx S ops K l s->n0<=s.nx->Dp n0 ρ0 ρ->SR E F ρ s a w ro-> MH ro cx.P ops Q (List.range' i l.length) a w
 | [],i,s,ρ,a,w,_,h,hn,hk,L=>Agc (hq .Bc s ρ a w h hn hk L)
 |o::l,i,s,ρ,a,w,hl,h,hn,hk,L=>by
  obtain⟨T,wd,h1,aT,aX⟩:=Abk (show P9 ops s.T o (λT wd=>cond wd (fN (s.nx+1) λnx'=>XS cx.P (B6 T) s.H s.nx s.nx nx' o.op (Gl o ⟨s.N,T,s.H,s.nx,s.ro,s.D⟩ K (FO cx S ops K l)) (pU cx S o ⟨s.N,T,s.H,s.nx,s.ro,s.D⟩ nx' K (FO cx S ops K l))) (LZ s.N T o.dst (.AO []) λT=>FO cx S ops K l ⟨s.N,T,s.H,s.nx,s.ro,s.D⟩))from h);have hw:=AcA L.tr aT;have J:TR ρ T a.tmps:=λt b hb=>L.tr t b (by rw[<-aX];exact hb);have ho:ops[i]? =some o:=by have:=hl 0 o rfl;simpa using this
  have ar:∀j o',l[j]? =some o'->ops[i+1+j]? =some o':=λj o' hj=>by have:=hl (j+1) o' (by simpa using hj);rwa[show i+(j+1)=i+1+j by omega]at this
  rw[show(o::l).length=l.length+1 from rfl,List.range'_succ];have ih:=pT (ops:=ops) ay aF aO hq l (i+1);cases wd with
  |false=>rw[cond_false]at h1;obtain⟨T',aY,h3⟩:=R4 h1;obtain⟨e1,e2,e3⟩:=NP (u:=undef) J L.size (.AO (ρ:=ρ) [] [] .nil) aY;exact Agd ho (by rw[hw];simp) (NI ro _ o w a.eval) (ih _ ρ _ w ar h3 hn hk ⟨L.rel,e1,e2,by rw[e3];exact L.dr,L.rr⟩)
  |true=>
   rw[cond_true,Bv]at h1;refine Agf ho hw ?_;have C:∀(T':Tr AV) (H':Tr Ae) (r:CR),Gl o ⟨s.N,T',H',s.nx+1,s.ro,s.D⟩ K (FO cx S ops K l) r->(∀g args H nx,r≠.Df g args H nx)->∀an,TR an T' a.tmps->RX s.nx (s.nx+1) ρ an->
     match r with
     |.mk v H nx=>∀u B w',RX (s.nx+1) nx an B->Rel E F nx B H.get w'->VR B v u->MH ro cx.P ops Q (List.range' (i+1) l.length) (a.put o.dst u) w'
     |.AB v H nx=>∀u B w',RX (s.nx+1) nx an B->Rel E F nx B H.get w'->VR B v u->Q (.panic (fresh u)) a w'
     |.Df _ _ _ _=>True:=by
    intro T' H' r hb a2 an ab M;cases r with
    |mk v H nx=>intro u B w' O y hv;obtain⟨T2,af,h3⟩:=R4 (show LZ s.N T' o.dst v (λT=>FO cx S ops K l ⟨s.N,T,H,nx,s.ro,s.D⟩)from hb);obtain⟨e1,e2,e3⟩:=NP (ab.mono O.le) L.size hv af;have W:=M.trans O;have aZ:=W.nn;exact ih _ B _ w' ar h3 (G3 hn W.nn) (hk.trans (Dp.M6 W hn)) ⟨y,e1,e2,by rw[e3];exact L.dr.mono W.le,L.rr.mono W.le⟩
    |AB v H nx=>intro u B w' O y hv;have W:=M.trans O;exact hq (.AB v) ⟨s.N,T',H,nx,s.ro,s.D⟩ B a w' hb (G3 hn W.nn) (hk.trans (Dp.M6 W hn)) ⟨y,ab.mono O.le,L.size,L.dr.mono W.le,L.rr.mono W.le⟩ u hv
    |Df g args H nx=>trivial
   rcases Abf h1 with⟨r,hr,hb⟩|aU
   ·refine Acq (AeW cx.P) L.rel J.xr (L.rel.new _ (AM _)) (Nat.le_succ _) (Nat.lt_succ_self _) hr ?_;cases r with
    |mk v H nx=>obtain⟨T2,af,h3⟩:=R4 (show LZ s.N T o.dst v (λT=>FO cx S ops K l ⟨s.N,T,H,nx,s.ro,s.D⟩)from hb);intro u B w' O y hv;have ae:=O.le;obtain⟨e1,e2,e3⟩:=NP (J.mono ae) L.size hv af;exact ih _ B _ w' ar h3 (G3 hn O.nn) (hk.trans (Dp.M6 O.rx hn)) ⟨y,e1,e2,by rw[e3];exact L.dr.mono ae,L.rr.mono ae⟩
    |AB v H nx=>intro u B w' O y hv;have ae:=O.le;exact hq (.AB v) ⟨s.N,T,H,nx,s.ro,s.D⟩ B a w' hb (G3 hn O.nn) (hk.trans (Dp.M6 O.rx hn)) ⟨y,J.mono ae,L.size,L.dr.mono ae,L.rr.mono ae⟩ u hv
    |Df g args H nx=>
     have aA:(match s.ro with
      |none=>LZ s.N T o.dst (.AO []) λT=>FO cx S ops K l ⟨s.N,T,H,nx,s.ro,.call g args::s.D⟩
      |some _=>False):=hb
     cases az:s.ro with
     |some l0=>rw[az]at aA;exact aA.elim
     |none=>
      rw[az]at aA;obtain⟨T2,af,h4⟩:=R4 aA;have aP:=L.rr;have aS:ro=none:=by rw[az]at aP;cases aP;rfl
      refine⟨aS,λva vc O y hv=>?_⟩;obtain⟨e1,e2,e3⟩:=NP (u:=undef) (a:={a with defers:={target:=.fn (.func g) vc.toArray,args:=va.toArray}::a.defers}) J L.size (.AO (ρ:=ρ) [] [] .nil) af;exact ih _ ρ _ w ar h4 (G3 hn O.nn) (hk.trans (Dp.M6 O hn)) ⟨y,e1,e2,by rw[e3];exact .call g args va vc _ _ hv L.dr,by rw[<-az];exact L.rr⟩
   ·refine(Abe aU).elim (λak=>?_) (λ⟨t,m,k,ok,Y,aq⟩=>?_)
    rotate_left
    ·obtain⟨v,z,hb,aR,hv⟩:=aq E F s.nx ρ w a.eval L.rel J.xr;obtain⟨T2,af,h3⟩:=R4 (show LZ s.N T o.dst v (λT=>FO cx S ops K l ⟨s.N,T,s.H,s.nx,s.ro,s.D⟩)from hb);obtain⟨e1,e2,e3⟩:=NP J L.size hv af;refine Ge (by rw[Y];simp) (.inl ?_) (ih _ ρ _ w ar h3 hn hk ⟨L.rel,e1,e2,by rw[e3];exact L.dr,L.rr⟩);obtain⟨dst,op,type,pos,after,guard⟩:=o;simp only at Y;subst Y;exact Dj aR
    unfold fV at ak;split at ak
    ·rename_i c Y;split at ak
     ·rename_i f al;obtain⟨fv,aj,h2⟩:=BM ak;obtain⟨xs,ai,h3⟩:=BM h2;obtain⟨t,ht,h4⟩:=BM h3;cases t with
      |Dx id args=>
       have AA:=aF id args s.H (s.nx+1) _ h4 E F ρ w (L.rel.Fp (Nat.le_succ _));have M:RX s.nx (s.nx+1) ρ ρ:=⟨Ai.le_refl ρ,λ_ _=>rfl,Nat.le_succ _⟩;refine AlJ J.xr Y al aj ai ht AA λe w' Z=>?_;obtain⟨r,ao,ad⟩:=Z;cases r with
       |mk v H nx=>obtain⟨u,B,rfl,O,y,hv⟩:=ad;exact C T s.H (.mk v H nx) ao (λ_ _ _ _ h=>by cases h) ρ J M u B w' O y hv
       |AB v H nx=>obtain⟨u,B,rfl,O,y,hv⟩:=ad;exact C T s.H (.AB v H nx) ao (λ_ _ _ _ h=>by cases h) ρ J M u B w' O y hv
       |Df g args H nx=>exact ad.elim
      |fn g args=>
       have aD:(Option.rec (motive:=λ_=>Prop) (Option.rec (motive:=λ_=>Prop) (fw cx S o ⟨s.N,T,s.H,s.nx,s.ro,s.D⟩ (s.nx+1) K (FO cx S ops K l) (.fn g args)) (λAJ=>Bg (Qi cx.P s.H args) λr=>Al r.1 (Bg (AJ s.H r.2.1) λU=>(λq:Bool×Tr AV=>Al q.1 (U.pre/\∀x,U.Q x->Gl o ⟨s.N,q.2,C8 s.H r.2.2.2,s.nx+1,s.ro,s.D⟩ K (FO cx S ops K l) (.mk (U.v x) (C8 s.H r.2.2.2) (s.nx+1+1)))) (I1 r.2.2.1 T))) (SQ cx.rt g)) (λAJ=>Bg (AJ s.H (s.nx+1) args) λU=>U.pre/\∀x,U.Q x->Gl o ⟨s.N,T,s.H,s.nx+1,s.ro,s.D⟩ K (FO cx S ops K l) (.mk (U.v x) (Cr (U.up x) s.H) U.nx)) (Y1 cx.rh g)):=h4;cases aH:Y1 cx.rh g with
       |some AJ=>rw[aH]at aD;obtain⟨U,aI,au,h5⟩:=BM aD;have AA:=cx.AgI g AJ aH s.H (s.nx+1) args U aI au E F ρ w (L.rel.Fp (Nat.le_succ _));have M:RX s.nx (s.nx+1) ρ ρ:=⟨Ai.le_refl ρ,λ_ _=>rfl,Nat.le_succ _⟩;refine Vg J.xr Y al aj ai ht AA λe w' Z=>?_;obtain⟨r,⟨x,aJ,rfl⟩,Z⟩:=Z;obtain⟨u,B,rfl,O,y,hv⟩:=Z;exact C T s.H (.mk (U.v x) (Cr (U.up x) s.H) U.nx) (h5 x aJ) (λ_ _ _ _ h=>by cases h) ρ J M u B w' O y hv
       |none=>
       rw[aH]at aD;have aC:(Option.rec (motive:=λ_=>Prop) (fw cx S o ⟨s.N,T,s.H,s.nx,s.ro,s.D⟩ (s.nx+1) K (FO cx S ops K l) (.fn g args)) (λAJ=>Bg (Qi cx.P s.H args) λr=>Al r.1 (Bg (AJ s.H r.2.1) λU=>(λq:Bool×Tr AV=>Al q.1 (U.pre/\∀x,U.Q x->Gl o ⟨s.N,q.2,C8 s.H r.2.2.2,s.nx+1,s.ro,s.D⟩ K (FO cx S ops K l) (.mk (U.v x) (C8 s.H r.2.2.2) (s.nx+1+1)))) (I1 r.2.2.1 T))) (SQ cx.rt g)):=aD;cases aG:SQ cx.rt g with
       |some AJ=>rw[aG]at aC;obtain⟨⟨sd,args',fz,ids⟩,aM,h5⟩:=BM aC;obtain⟨h6,h7⟩:=EE.1 h5;simp only at h6;subst h6;obtain⟨U,aI,h8⟩:=BM h7;obtain⟨h9,au,aN⟩:=EE.1 h8;obtain⟨V,aL,ah⟩:=sm L.rel args args' fz ids aM;obtain⟨aa,ag⟩:=KB L.rel V;have M:RX s.nx (s.nx+1) ρ (CZ ρ w ids):=⟨aa.le,aa.lo,Nat.le_succ _⟩;have ab:TR (CZ ρ w ids) (I1 fz T).2 a.tmps:=jI aL V (λ_ h=>h) rfl aa.le J h9;have AA:=cx.xH g AJ aG s.H args' U aI au E F (CZ ρ w ids) w (s.nx+1) (C8 s.H ids) L.rel.gl (ag.Fp (Nat.le_succ _));have aw:=AA.2;refine Vg J.xr Y al aj ai ht (R:=λe w'=>∃r:CR,(∃x,U.Q x/\r=.mk (U.v x) (C8 s.H ids) (s.nx+1+1))/\NC E F (s.nx+1) (CZ ρ w ids) r e w') ⟨AA.1,λvs Ax=>aw vs (ah ids V (λ_ h=>h) vs Ax)⟩ λe w' Z=>?_;obtain⟨r,⟨x,aJ,rfl⟩,Z⟩:=Z;obtain⟨u,B,rfl,O,y,hv⟩:=Z;exact C _ _ (.mk (U.v x) (C8 s.H ids) (s.nx+1+1)) (aN x aJ) (λ_ _ _ _ h=>by cases h) _ ab M u B w' O y hv
       |none=>
       rw[aG]at aC;have aB:(Option.rec (motive:=λ_=>Prop) (Option.rec (motive:=λ_=>Prop) (S.call g args s.H (s.nx+1) (Gl o ⟨s.N,T,s.H,s.nx,s.ro,s.D⟩ K (FO cx S ops K l))) (λAJ=>Bg (Qi cx.P s.H args) λr=>Al r.1 (Bg (AJ s.H r.2.1) λct=>(λq:Bool×Tr AV=>Al q.1 (OO ct (λv=>Gl o ⟨s.N,q.2,C8 s.H r.2.2.2,s.nx+1,s.ro,s.D⟩ K (FO cx S ops K l) (.mk v (C8 s.H r.2.2.2) (s.nx+1+1))) (λv=>Gl o ⟨s.N,q.2,C8 s.H r.2.2.2,s.nx+1,s.ro,s.D⟩ K (FO cx S ops K l) (.AB v (C8 s.H r.2.2.2) (s.nx+1+1))))) (I1 r.2.2.1 T))) (look cx.tb g)) (λAJ=>Bg (AJ s.H (s.nx+1) args) λhc=>OP hc (λv up nx=>Gl o ⟨s.N,T,s.H,s.nx+1,s.ro,s.D⟩ K (FO cx S ops K l) (.mk v (Cr up s.H) nx)) (λv up nx=>Gl o ⟨s.N,T,s.H,s.nx+1,s.ro,s.D⟩ K (FO cx S ops K l) (.AB v (Cr up s.H) nx))) (Lq cx.ht g)):=aC;cases aK:Lq cx.ht g with
       |some AJ=>
        rw[aK]at aB;obtain⟨hc,aV,h5⟩:=BM aB;obtain⟨p,v,up,n1,av,h6⟩:=RZ h5;have AA:=cx.AA g AJ aK s.H (s.nx+1) args hc aV p v up n1 av E F ρ w (L.rel.Fp (Nat.le_succ _));have M:RX s.nx (s.nx+1) ρ ρ:=⟨Ai.le_refl ρ,λ_ _=>rfl,Nat.le_succ _⟩;refine Vg J.xr Y al aj ai ht AA λe w' Z=>?_;cases p with
        |false=>obtain⟨u,B,rfl,O,y,hv⟩:=Z;exact C T s.H (.mk v (Cr up s.H) n1) h6 (λ_ _ _ _ h=>by cases h) ρ J M u B w' O y hv
        |true=>obtain⟨u,B,rfl,O,y,hv⟩:=Z;exact C T s.H (.AB v (Cr up s.H) n1) h6 (λ_ _ _ _ h=>by cases h) ρ J M u B w' O y hv
       |none=>
       rw[aK]at aB;have aE:(Option.rec (motive:=λ_=>Prop) (S.call g args s.H (s.nx+1) (Gl o ⟨s.N,T,s.H,s.nx,s.ro,s.D⟩ K (FO cx S ops K l))) (λAJ=>Bg (Qi cx.P s.H args) λr=>Al r.1 (Bg (AJ s.H r.2.1) λct=>(λq:Bool×Tr AV=>Al q.1 (OO ct (λv=>Gl o ⟨s.N,q.2,C8 s.H r.2.2.2,s.nx+1,s.ro,s.D⟩ K (FO cx S ops K l) (.mk v (C8 s.H r.2.2.2) (s.nx+1+1))) (λv=>Gl o ⟨s.N,q.2,C8 s.H r.2.2.2,s.nx+1,s.ro,s.D⟩ K (FO cx S ops K l) (.AB v (C8 s.H r.2.2.2) (s.nx+1+1))))) (I1 r.2.2.1 T))) (look cx.tb g)):=aB;cases aq:look cx.tb g with
       |none=>
        rw[aq]at aE;have AA:=ay g args s.H (s.nx+1) _ aE E F ρ w (L.rel.Fp (Nat.le_succ _));refine Vg J.xr Y al aj ai ht AA λe w' Z=>?_;obtain⟨r,ao,ad⟩:=Z;have M:RX s.nx (s.nx+1) ρ ρ:=⟨Ai.le_refl ρ,λ_ _=>rfl,Nat.le_succ _⟩;cases r with
        |mk v H nx=>obtain⟨u,B,rfl,O,y,hv⟩:=ad;exact C T s.H (.mk v H nx) ao (λ_ _ _ _ h=>by cases h) ρ J M u B w' O y hv
        |AB v H nx=>obtain⟨u,B,rfl,O,y,hv⟩:=ad;exact C T s.H (.AB v H nx) ao (λ_ _ _ _ h=>by cases h) ρ J M u B w' O y hv
        |Df g args H nx=>exact ad.elim
       |some AJ=>
        rw[aq]at aE;obtain⟨⟨sd,args',fz,ids⟩,aM,h5⟩:=BM aE;obtain⟨h6,h7⟩:=EE.1 h5;simp only at h6;subst h6;obtain⟨ct,aW,h8⟩:=BM h7;obtain⟨h9,aN⟩:=EE.1 h8;obtain⟨p,v,av,aQ⟩:=Ve aN;obtain⟨V,aL,ah⟩:=sm L.rel args args' fz ids aM;obtain⟨aa,ag⟩:=KB L.rel V;have M:RX s.nx (s.nx+1) ρ (CZ ρ w ids):=⟨aa.le,aa.lo,Nat.le_succ _⟩;have ab:TR (CZ ρ w ids) (I1 fz T).2 a.tmps:=jI aL V (λ_ h=>h) rfl aa.le J h9;have AA:=aO g AJ aq s.H args' ct aW p v av E F (CZ ρ w ids) w (s.nx+1) (C8 s.H ids) L.rel.gl (ag.Fp (Nat.le_succ _));have aw:LS cx.P (.fn g args) w ρ (NC E F (s.nx+1) (CZ ρ w ids) (Hu p v (C8 s.H ids) (s.nx+1+1))):=⟨AA.1,λvs Ax=>AA.2 vs (ah ids V (λ_ h=>h) vs Ax)⟩;refine Vg J.xr Y al aj ai ht aw λe w' Z=>?_;cases p with
        |false=>obtain⟨u,B,rfl,O,y,hv⟩:=Z;exact C _ _ (.mk v (C8 s.H ids) (s.nx+1+1)) aQ (λ_ _ _ _ h=>by cases h) _ ab M u B w' O y hv
        |true=>obtain⟨u,B,rfl,O,y,hv⟩:=Z;exact C _ _ (.AB v (C8 s.H ids) (s.nx+1+1)) aQ (λ_ _ _ _ h=>by cases h) _ ab M u B w' O y hv
     ·exact ak.elim
    ·exact ak.elim
end Go.Ev
end
section
namespace Go.Ev
def PQ (F:Fence) (n:Nat) (P:Program) (c:Code) (Q:Exit->Act->World->Prop) (a:Act) (w:World):Prop:=∀(b:Frame) (k:List Item) (cs:List Frame),b.roundOf=F.round->F.fn b.fn->F.room (cs.length+1+n)-> ∃e q w',Q e q w'/\ArrivesIn (Machine.fenced P F) P (lone (b.atR a (.code c::.inLoop c::k)) cs w) b k cs e q w'
theorem jx {F:Fence} {n:Nat} {P:Program} {c:Code} {Q:Exit->Act->World->Prop} {a:Act} {w:World} (h:c.wpIn F n P (Exit.then (PQ F n P c Q) Q) a w):PQ F n P c Q a w:=by
 intro b k cs K S R;obtain⟨e,B,y,J,q⟩:=h b (.inLoop c::k) cs K S R;cases e with
 |normal=>obtain⟨M,O,L,E,C⟩:=J b k cs K S R;exact⟨M,O,L,E,.of_steps (StepsIn.trans q (.one (fenced_calm S R rfl) stepR_inLoop)) C⟩
 |exit id=>exact⟨_,B,y,J,.pass (x:=.inLoop c) rfl (λ_ _=>.inl (by simp)) q⟩
 |goto l=>exact⟨_,B,y,J,.pass (x:=.inLoop c) rfl (λ_ _=>.inl (by simp)) q⟩
 |ret=>exact⟨_,B,y,J,.pass (x:=.inLoop c) rfl (λ_ _=>.inl (by simp)) q⟩
 |panic U=>exact⟨_,B,y,J,.pass (x:=.inLoop c) rfl (λ_ _=>.inl (by simp)) q⟩
 |outgrown=>exact⟨_,B,y,J,.pass (x:=.inLoop c) rfl (λ_ _=>.inl (by simp)) q⟩
theorem Aew {F:Fence} {n:Nat} {P:Program} {c:Code} {Q:Exit->Act->World->Prop} {a:Act} {w:World} (h:PQ F n P c Q a w):(Code.loop c).wpIn F n P Q a w:=by intro b k cs y C B;obtain⟨e,J,w',E,q⟩:=h b k cs y C B;exact⟨e,J,w',E,.of_steps (.one (fenced_calm C B rfl) stepR_loop) q⟩
def UK (E:Env) (F:Nat->Option Obj) (n0:Nat) (ρ0:Ai) (ro:Option Nat) (K:KX) (Q:Exit->Act->World->Prop):Prop:=∀x s' q y w',K x s'->n0<=s'.nx->Dp n0 ρ0 q->SR E F q s' y w' ro->Rx q x λe=>Q e y w'
def NB (P:Program) (code:Nat->FuncId->Code->St->KX->Prop):Prop:=∀n0 f c s K,code n0 f c s K->∀E F ρ0 ρ a w ro Q,UK E F n0 ρ0 ro K Q->n0<=s.nx->Dp n0 ρ0 ρ->SR E F ρ s a w ro->
  match c with
  |.loop q=>PQ (FW ro) 0 P q Q a w
  |c=>c.wpIn (FW ro) 0 P Q a w
def WZ (P:Program) (D:Array Oper->St->KX->Prop):Prop:=∀ops s K,D ops s K->∀id E F n0 ρ0 ρ a w ro Q,UK E F n0 ρ0 ro K Q->n0<=s.nx->Dp n0 ρ0 ρ->SR E F ρ s a w ro->(Code.region id ops true).wpIn (FW ro) 0 P Q a w
theorem Jk {P:Program} {code:Nat->FuncId->Code->St->KX->Prop} (h:NB P code) {n0:Nat} {f:FuncId} {c:Code} {s:St} {K:KX} (hc:code n0 f c s K) {E:Env} {F:Nat->Option Obj} {ρ0 ρ:Ai} {a:Act} {w:World} {ro:Option Nat} {Q:Exit->Act->World->Prop} (y:UK E F n0 ρ0 ro K Q) (hn:n0<=s.nx) (B:Dp n0 ρ0 ρ) (q:SR E F ρ s a w ro):c.wpIn (FW ro) 0 P Q a w:=by have:=h n0 f c s K hc E F ρ0 ρ a w ro Q y hn B q;cases c<;>first|exact this|exact Aew this
theorem pK {ρ:Ai} {T:Tr AV} {tmps:Array Value} {c:Operand} {A B:Tr AV->Prop} (h:RW T c A B) {a:Act} (ht:TR ρ T a.tmps): ∃b T',a.eval c=.bool b/\(∀t,T'.get t=T.get t)/\(if b then A T' else B T'):=by
 unfold RW at h;split at h
 ·rename_i d;obtain⟨v,hv,C⟩:=BM h;split at C
  ·rename_i b;have E:=ht.xr (.tmp d) (.bool b) hv;have he:a.eval (.tmp d)=.bool b:=by generalize a.eval (.tmp d)=u at E;cases E;rfl
   obtain⟨y,q⟩:=FN.1 C;refine⟨b,T.set d (.bool b),he,λt=>?_,?_⟩
   ·rw[Tr.Hl];split
    ·rename_i e;subst e;exact hv.symm
    ·rfl
   ·cases b with
    |true=>exact y rfl
    |false=>exact q rfl
  ·exact C.elim
 ·rename_i b;obtain⟨y,q⟩:=FN.1 h;refine⟨b,T,rfl,λ_=>rfl,?_⟩;cases b with
  |true=>exact y rfl
  |false=>exact q rfl
 ·exact h.elim
theorem Abl {P:Program} {En:Fx} (y:NB P En.code):o6 P (XT En):=by
 intro id args H nx K h E F ρ w r vs b Ax J;obtain⟨o,ho,h1⟩:=BM h;clear h;cases o with
 |loop aG az T N ps av body d=>
  obtain⟨T',aq,h2⟩:=BM h1;clear h1;obtain⟨fn,tmps,bd,S,aj,ak,_,_⟩:=Y3 r J ho;obtain⟨e1,e2,e3⟩:=yI ps.toList args vs N T T' tmps Ax aq aj ak;have hy:=run_yield (P:=P) (args:=vs.toArray) S (by simp[e1]);have U:(ps.zip vs.toArray).foldl (λtmps (x:Tmp×Value)=>tmps.setIfInBounds x.1 x.2) tmps=(ps.toList.zip vs).foldl (λtmps (x:Tmp×Value)=>tmps.setIfInBounds x.1 x.2) tmps:=by rw[<-Array.foldl_toList,Array.toList_zip]
  refine⟨fn,_,av,body,hy,roundIn_of_wpIn trivial ?_⟩;rw[U];have M:∀ {n:Nat} {L:Ai},nx<=n->Dp nx ρ L->RX nx n ρ L:=λ{n L} hn hk=>⟨⟨λi b J=>(by
   by_cases hi:i<nx
   ·rw[hk.lo i hi];exact J
   ·rw[r.new i (by omega)]at J;exact absurd J (by simp)),hk.st⟩,hk.lo,hn⟩
  refine Jk y h2 (E:=E) (F:=F) (ρ0:=ρ) (ρ:=ρ) (a:={tmps:=(ps.toList.zip vs).foldl (λtmps (x:Tmp×Value)=>tmps.setIfInBounds x.1 x.2) tmps,defers:=[]}) (ro:=some b.b) ?_ (AM _) (Dp.refl _ _) ⟨r,e2,e3,.nil,.some id b J⟩;intro x s ah a1 w1 hx ab ae q;cases x with
  |Bc=>
   obtain⟨H1,au,h4⟩:=BM hx;obtain⟨Y,p1,T1,N1,aI,aE,aB,d1,af,Z,g1,g2,g3⟩:=jy au;have ao:=(M ab ae).le _ _ J;obtain⟨aL,ay,aN,C,_,_,_,R⟩:=Y3 q.rel ao g1;have ag:Y=.ready/\af=.busy/\Z=p1:=by cases Y<;>first|(cases g2;done)|(injection g2 with g2;injection g2 with g4 g5;exact⟨rfl,g4.symm,g5.symm⟩)
   obtain⟨rfl,rfl,rfl⟩:=ag;refine⟨_,run_beginRound C rfl,?_⟩;refine Jk y h4 (E:=E) (F:=F) (ρ0:=ρ) (ρ:=ah) (ro:=some b.b) ?_ ab ae ⟨by rw[g3];exact R .busy Z,q.tr,q.size,q.dr,q.rr⟩;intro W s2 ρ2 a2 w2 ai aa ad al;obtain⟨V,h5⟩:=EE.1 ai;obtain⟨H2,ar,h6⟩:=BM h5;obtain⟨aF,p2,T2,N2,aH,aD,aA,d2,aC,aJ,k1,k2,k3⟩:=jy ar;have an:=(M aa ad).le _ _ J;obtain⟨aK,aw,aM,B,_,_,_,O⟩:=Y3 al.rel an k1;injection k2 with k2;injection k2 with k4 k5;refine AgL (run_endRound W.jump B) ⟨_,h6,_,ρ2,rfl,M aa ad,?_,.bool _⟩ ρ2 V;rw[k3,<-k4,<-k5];have:=O (cond W.jump.isNone .ready .done) W.jump;have hc:(cond W.jump.isNone LoopState.ready .done)=if W.jump.isNone=true then .ready else .done:=by cases W.jump.isNone<;>rfl
   rw[hc]at this⊢;exact this
  |_=>exact hx.elim
 |_=>exact h1.elim
theorem Abh {P:Program} {En:Fx} (ae:La P En.call) {f:Operand} {J:Array Tmp} {y body:Code} {s:St} {K:KX} (h:fq En f J y body s K) {E:Env} {F:Nat->Option Obj} {n0:Nat} {ρ0 ρ:Ai} {a:Act} {w:World} {ro:Option Nat} {Q:Exit->Act->World->Prop} (aF:UK E F n0 ρ0 ro K Q) (hn:n0<=s.nx) (hk:Dp n0 ρ0 ρ) (L:SR E F ρ s a w ro): (Code.rangeFunc f J y body).wpIn (FW ro) 0 P Q a w:=by
 refine wpIn_rangeFunc λfn _=>?_;obtain⟨fa,aN,h1⟩:=BM h;clear h;have aL:=L.tr.xr _ _ aN;have ah:=L.rr;cases ai:s.ro with
 |some l0=>rw[ai]at h1;exact h1.elim
 |none=>
  rw[ai]at h1 ah;cases ah;simp only[Bv]at h1;obtain⟨t,ht,h2⟩:=BM h1;clear h1;have aJ:=L.rel.new s.nx (AM _);have A1:=L.rel.alloc (nx':=s.nx+1) aJ (Nat.le_succ _) (Nat.lt_succ_self _) (cap:=0) (a:=.Df true) (o:=.deferred (some [])) (.Df true);obtain⟨Z,an⟩:=A1;rw[<-H7]at Z;have aj:=Z.new (s.nx+1) (AM _);have C:(ρ.put s.nx ⟨w.heap.size,0,0⟩) s.nx=some ⟨w.heap.size,0,0⟩:=Ai.FF _ _ _;let M:Ai:=ρ.put s.nx ⟨w.heap.size,0,0⟩;let q:C3:=⟨(w.alloc (.deferred (some []))).heap.size,0,0⟩;let ρ2:Ai:=M.put (s.nx+1) q;have B:M.le ρ2:=Ai.Lp (ρ:=M) aj q;have A2:=Z.alloc (nx':=s.nx+1+1) aj (Nat.le_succ _) (Nat.lt_succ_self _) (cap:=0) (a:=.loop .ready none s.T s.N J y body s.nx) (o:=.loop {state:=.ready,pending:=none,fn,tmps:=a.tmps,params:=J,assign:=y,body,defers:=w.heap.size}) (.loop .ready none s.T s.N J y body s.nx fn a.tmps ⟨w.heap.size,0,0⟩ (L.tr.mono (Ai.le_trans an B)) L.size (B _ _ C));obtain⟨al,a3⟩:=A2;rw[<-H7]at al;have Y:ρ.le ρ2:=Ai.le_trans an B;have hb:ρ2 (s.nx+1)=some q:=Ai.FF _ _ _;have aK:∀i,i<s.nx->ρ2 i=ρ i:=λi hi=>by simp[Ai.put,ρ2,M,Nat.ne_of_lt hi,Nat.ne_of_lt (Nat.lt_succ_of_lt hi)]
  have aB:RX s.nx (s.nx+1+1) ρ ρ2:=⟨Y,aK,by omega⟩;have aw:DR ρ2 (.mark s.nx::s.D) ({target:=.collected w.heap.size,args:=#[]}::a.defers):=.mark s.nx ⟨w.heap.size,0,0⟩ _ _ (B _ _ C) (L.dr.mono Y);cases t with
  |Dx _ _=>exact h2.elim
  |fn g args=>
   have AA:=ae g args _ _ _ h2 E F ρ2 _ al;have S:=aL.mono Y;unfold Jm at ht;split at ht
   ·rename_i gi first cap
    injection ht with ht;injection ht with aD aC;subst aD;subst aC;generalize ak:a.eval f=fv at S;cases S with
    |fn _ _ _ va vc ha hc=>
     obtain⟨⟨a2,c,aM,aH,aP⟩,R⟩:=AA;have af:AG ρ2 [AV.Dx (s.nx+1)] [Value.func (.yield q.b) #[] #[]]:=.cons _ _ _ _ (.Dx (s.nx+1) q hb) .nil;have aO:=R _ (ha.append (af.append hc));have e:q.b=w.heap.size+1:=by simp[q]
     refine⟨w.heap.size+1,[{target:=.collected w.heap.size,args:=#[]}],((w.alloc (.deferred (some []))).alloc (.loop {state:=.ready,pending:=none,fn,tmps:=a.tmps,params:=J,assign:=y,body,defers:=w.heap.size})),{target:=.fn (.func gi) vc.toArray,args:=va.toArray++ #[.func (.yield q.b) #[] #[]]},((w.alloc (.deferred (some []))).alloc (.loop {state:=.ready,pending:=none,fn,tmps:=a.tmps,params:=J,assign:=y,body,defers:=w.heap.size})),gi,(va++([Value.func (.yield q.b) #[] #[]]++vc)).toArray,((w.alloc (.deferred (some []))).alloc (.loop {state:=.ready,pending:=none,fn,tmps:=a.tmps,params:=J,assign:=y,body,defers:=w.heap.size})),run_enterLoop_outer fn a.tmps J y body,?_,λ_ _=>trivial,?_,by simp[FW,Fence.wide],?_⟩
     ·rw[<-e];unfold resolve rangeCall;have hm:Array.map a.eval #[Operand.const (Value.func (Fn.yield q.b) #[] #[])]= #[Value.func (Fn.yield q.b) #[] #[]]:=by simp[Act.eval]
      have av:Act.eval {a with defers:=[{target:=.collected w.heap.size,args:=#[]}]++a.defers} f=.func (.func gi) va.toArray vc.toArray:=ak
      first
       |(simp only[ak,Deferred.ofValue,hm];rfl)
       |(simp only[av,Deferred.ofValue,hm];rfl)
     ·simp only[invoke,callFunc,Sem.run_bind,run_program,Result.andThen_ok,aM,aH,Bool.false_eq_true,if_false,aP,Option.isNone_some,Sem.run_pure];congr 2;apply Array.ext';simp
     ·rw[<-e];refine CallsIn.mono aO ?_;rintro ed w' ⟨r,hr,U⟩;cases r with
      |AB _ _ _=>exact hr.elim
      |Df _ _ _ _=>exact U.elim
      |mk v H nx=>
       obtain⟨u,V,rfl,hx,ar,hv⟩:=U;obtain⟨o,ho,h3⟩:=BM hr;cases o with
       |loop st Dv T N az ay ag d=>
        obtain⟨x1,aA,h4⟩:=BM h3;obtain⟨H1,aR,h5⟩:=BM h4;obtain⟨aa,ad⟩:=AdG aA;obtain⟨aY,p1,T1,N1,aZ,aX,aW,d1,ao,O,g1,g2,g3⟩:=jy aR;rw[ho]at g1;injection g1 with g1;injection g1 with g1 g4 g5 g6 g7 g8 g9 aU;subst g1;subst g4;have aQ:=hx.le _ _ hb;obtain⟨aV,tmps,bd,ab,_,_,_,aq⟩:=Y3 ar aQ ho;have aI:st≠.busy/\ao=.exhausted/\O=Dv:=by cases st<;>first|(cases g2;done)|(injection g2 with g2;injection g2 with aT aS;exact⟨by simp,aT.symm,aS.symm⟩)
        obtain⟨au,rfl,rfl⟩:=aI;refine⟨O,_,run_endLoop ab au,?_⟩;have W:=RX.trans aB hx;have aE:SR E F V ⟨s.N,s.T,H1,nx,none,.mark s.nx::s.D⟩ {a with defers:=[{target:=.collected w.heap.size,args:=#[]}]++a.defers} (w'.putObj q.b (.loop {state:=.exhausted,pending:=O,fn:=aV,tmps,params:=az,assign:=ay,body:=ag,defers:=bd})) none:=by refine⟨?_,L.tr.mono W.le,L.size,aw.mono hx.le,.none⟩;show Rel E F nx V H1.get _;rw[g3];subst g5;subst g6;subst g7;subst g8;subst g9;subst aU;exact aq .exhausted O
        have aG:=aF x1 _ V _ _ h5 (G3 hn W.nn) (hk.trans (Dp.M6 W hn)) aE;have:=AdH (P:=P) (ro:=none) (Q:=Q) (a:={a with defers:=[{target:=.collected w.heap.size,args:=#[]}]++a.defers}) x1 ad aG;rw[<-aa]at this;exact this
       |_=>exact h3.elim
   ·cases ht
   ·cases ht
theorem XN {P:Program} {E:Env} {F:Nat->Option Obj} {n0:Nat} {ρ0:Ai} {a:Act} {w:World} {ro:Option Nat} {K:St->Prop}:∀(R:List Nat) (s:St) (ρ:Ai),P8 P R K s->n0<=s.nx->Dp n0 ρ0 ρ->SR E F ρ s a w ro-> ∃s' M,K s'/\n0<=s'.nx/\Dp n0 ρ0 M/\SR E F M s' a w ro
 | [],s,ρ,h,hn,U,B=>⟨s,ρ,h,hn,U,B⟩
 |d::R,s,ρ,h,hn,U,B=>by
  obtain⟨v,hv,h1⟩:=BM (show Bg (s.T.get d) λv=>Bg (Jn P s.H v) λr=>Al r.1 ((λq:Bool×Tr AV=>Al q.1 (P8 P R K ⟨s.N,q.2.set d r.2.1,C8 s.H r.2.2.2,s.nx,s.ro,s.D⟩)) (I1 r.2.2.1 s.T))from h);obtain⟨⟨sd,S,fz,ids⟩,hf,h2⟩:=BM h1;obtain⟨e1,h3⟩:=EE.1 h2;simp only at e1;subst e1;obtain⟨e2,h4⟩:=EE.1 h3;obtain⟨y,Z,O⟩:=Qj B.rel v S fz ids hf;obtain⟨C,L⟩:=KB B.rel y;have Y:TR (CZ ρ w ids) (I1 fz s.T).2 a.tmps:=jI Z y (λ_ h=>h) rfl C.le B.tr e2;have W:TR (CZ ρ w ids) ((I1 fz s.T).2.set d S) a.tmps:=λt b J=>by
   rw[Tr.Hl]at J;by_cases e:d=t
   ·rw[Am e]at J;injection J with J;subst e;subst J;obtain⟨u,hu,V⟩:=B.tr d v hv;exact⟨u,hu,O ids y (λ_ h=>h) u V⟩
   ·rw[Ad e]at J;exact Y t b J
  exact XN R ⟨s.N,(I1 fz s.T).2.set d S,C8 s.H ids,s.nx,s.ro,s.D⟩ (CZ ρ w ids) h4 hn (U.trans (Dp.M6 C hn)) ⟨L,W,B.size,B.dr.mono C.le,B.rr.mono C.le⟩
theorem Aa5 {cx:Ctx} {U:Fx} {D:Array Oper->St->KX->Prop} (hD:WZ cx.P D) (L:NB cx.P U.code) (af:La cx.P U.call) (ao:EY cx.P cx.tb):NB cx.P (pJ cx U D):=by
 intro n0 f c s K h E F ρ0 ρ a w ro Q M hn W V;cases c with
 |skip=>exact wpIn_skip (M _ _ _ _ _ h hn W V)
 |region id ops an=>
  cases an with
  |false=>obtain⟨s',R,h',J,C,B⟩:=XN (cx.fr f id) s ρ (show P8 cx.P (cx.fr f id) (λs=>FO cx U ops K ops.toList s) s from h) hn W V;refine Age ?_;have:=pT af (Abl L) ao (ops:=ops) (E:=E) (F:=F) (ro:=ro) (Q:=Q) (K:=K) M ops.toList 0 s' R a w (λj o hj=>by simpa using hj) h' J C B;rw[List.range_eq_range'];simpa using this
  |true=>obtain⟨s',R,h',J,C,B⟩:=XN (cx.fr f id) s ρ (show P8 cx.P (cx.fr f id) (λs=>D ops s K) s from h) hn W V;exact hD ops s' K h' id E F n0 ρ0 R a w ro Q M J C B
 |seq p q=>
  have h':(Option.rec (motive:=λ_=>Prop) (U.code n0 f p s λax s'=>match ax with
   |.Bc=>U.code n0 f q s' K
   |ax=>K ax s') (λS=>fY U S n0 f p q s K) (Option.rec (motive:=λ_=>Option CX) none (λr=>cx.cut f r) (Li q))):=h
  cases hS:(Option.rec (motive:=λ_=>Option CX) none (λr=>cx.cut f r) (Li q))with
  |none=>
   rw[hS]at h';refine wpIn_seq (Jk L h' (ρ0:=ρ0) ?_ hn W V);intro x s' R Z w' O J C B;cases x with
   |Bc=>exact Jk L O M J C B
   |exit id=>exact M _ _ _ _ _ O J C B
   |goto l=>exact M _ _ _ _ _ O J C B
   |ret=>exact M _ _ _ _ _ O J C B
   |AB v=>exactλu Y=>M (.AB v) _ _ _ _ O J C B u Y
  |some S=>
   rw[hS]at h';obtain⟨h1,h2⟩:=(show fY U S n0 f p q s K from h');refine wpIn_seq (Jk L h1 (ρ0:=ρ0) ?_ hn W V);intro x s' R Z w' O J C B;cases x with
   |Bc=>obtain⟨x0,hI,aq⟩:=O;obtain⟨ad,ρ2,ae,ab⟩:=cB aq B;exact Jk L (h2 x0 hI) M ad (C.trans ae) ab
   |exit id=>exact M _ _ _ _ _ O J C B
   |goto l=>exact M _ _ _ _ _ O J C B
   |ret=>exact M _ _ _ _ _ O J C B
   |AB v=>exactλu Y=>M (.AB v) _ _ _ _ O J C B u Y
 |cond c p q=>
  obtain⟨b,T',he,hT,hb⟩:=pK (tmps:=a.tmps) (show RW s.T c (λT=>U.code n0 f p ⟨s.N,T,s.H,s.nx,s.ro,s.D⟩ K) (λT=>U.code n0 f q ⟨s.N,T,s.H,s.nx,s.ro,s.D⟩ K)from h) V.tr;have B:SR E F ρ ⟨s.N,T',s.H,s.nx,s.ro,s.D⟩ a w ro:=⟨V.rel,λt b hb=>V.tr t b (by rw[<-hT];exact hb),V.size,V.dr,V.rr⟩;refine wpIn_cond he ?_;cases b with
  |true=>exact Jk L (show U.code n0 f p ⟨s.N,T',s.H,s.nx,s.ro,s.D⟩ K from hb) M hn W B
  |false=>exact Jk L (show U.code n0 f q ⟨s.N,T',s.H,s.nx,s.ro,s.D⟩ K from hb) M hn W B
 |block id p=>
  refine wpIn_block (Jk L (show U.code n0 f p s _ from h) (ρ0:=ρ0) ?_ hn W V);intro x s' R Z w' O J C B;cases x with
  |Bc=>exact M _ _ _ _ _ O J C B
  |exit aa=>
   show if aa=id then Q .normal Z w' else Q (.exit aa) Z w'
   have ag:cond (Nat.beq aa id) (K .Bc s') (K (.exit aa) s'):=O;cases hb:Nat.beq aa id with
   |true=>rw[hb,cond_true]at ag;rw[AN]at hb;rw[Am hb];exact M _ _ _ _ _ ag J C B
   |false=>rw[hb,cond_false]at ag;rw[Ad (λe=>by rw[<-AN,hb]at e;cases e)];exact M _ _ _ _ _ ag J C B
  |goto l=>exact M _ _ _ _ _ O J C B
  |ret=>exact M _ _ _ _ _ O J C B
  |AB v=>exactλu Y=>M (.AB v) _ _ _ _ O J C B u Y
 |loop p=>
  have h':(Option.rec (motive:=λ_=>Prop) (U.code n0 f p s λax s'=>match ax with
   |.Bc=>U.code n0 f (.loop p) s' K
   |ax=>K ax s') (λS=>cond (Option.rec (motive:=λ_=>Bool) false (λr=>cx.pl f r s) (Li p)) (U.code n0 f p s λax s'=>match ax with
   |.Bc=>OQ cx.P (NQ cx f p) U S n0 f p s' K
   |ax=>K ax s') (OQ cx.P (NQ cx f p) U S n0 f p s K)) (Option.rec (motive:=λ_=>Option CX) none (λr=>cx.lp f r) (Li p))):=h
  show PQ (FW ro) 0 cx.P p Q a w;cases hS:(Option.rec (motive:=λ_=>Option CX) none (λr=>cx.lp f r) (Li p))with
  |none=>
   rw[hS]at h';refine jx (Jk L h' (ρ0:=ρ0) ?_ hn W V);intro x s' R Z w' O J C B;cases x with
   |Bc=>exact L n0 f (.loop p) s' K O E F ρ0 R Z w' ro Q M J C B
   |exit id=>exact M _ _ _ _ _ O J C B
   |goto l=>exact M _ _ _ _ _ O J C B
   |ret=>exact M _ _ _ _ _ O J C B
   |AB v=>exactλu Y=>M (.AB v) _ _ _ _ O J C B u Y
  |some S=>
   rw[hS]at h';have stat:∀(s:St) ρ a w,OQ cx.P (NQ cx f p) U S n0 f p s K->n0<=s.nx->Dp n0 ρ0 ρ->SR E F ρ s a w ro->PQ (FW ro) 0 cx.P p Q a w:=by
    intro s ρ a w hl hn W V;obtain⟨⟨x0,ay,aj⟩,ah⟩:=hl;have key:∀(m:Nat) (x:S.X),S.m x<m->S.I s x->∀ρ a w,n0<=S.nx s n0->Dp n0 ρ0 ρ->SR E F ρ (mf S s n0 x) a w ro->PQ (FW ro) 0 cx.P p Q a w:=by
     intro m
     induction m with
     |zero=>intro x O;omega
     |succ m ih=>
      intro x O hI ρ a w au av ar;refine jx (Jk L (ah x hI) (ρ0:=ρ0) ?_ au av ar);intro y s' R Z w' hy J C B;cases y with
      |Bc=>obtain⟨s1,aB,⟨x1,aw,aC,ai⟩,aA,al,ak⟩:=XN (NQ cx f p) s' R hy J C B;obtain⟨ad,ρ2,ae,ab⟩:=cB ai ak;exact ih x1 (by omega) aw ρ2 Z w' ad (al.trans ae) ab
      |exit id=>exact M _ _ _ _ _ hy J C B
      |goto l=>exact M _ _ _ _ _ hy J C B
      |ret=>exact M _ _ _ _ _ hy J C B
      |AB v=>exactλu Y=>M (.AB v) _ _ _ _ hy J C B u Y
    obtain⟨ad,ρ2,ae,ab⟩:=cB aj V;exact key (S.m x0+1) x0 (Nat.lt_succ_self _) ay ρ2 a w ad (W.trans ae) ab
   cases hp:(Option.rec (motive:=λ_=>Bool) false (λr=>cx.pl f r s) (Li p))with
   |false=>have h2:cond (Option.rec (motive:=λ_=>Bool) false (λr=>cx.pl f r s) (Li p)) _ (OQ cx.P (NQ cx f p) U S n0 f p s K):=h';rw[hp]at h2;exact stat s _ a w h2 hn W V
   |true=>
    have h2:cond (Option.rec (motive:=λ_=>Bool) false (λr=>cx.pl f r s) (Li p)) (U.code n0 f p s λax s'=>match ax with
     |.Bc=>OQ cx.P (NQ cx f p) U S n0 f p s' K
     |ax=>K ax s') (OQ cx.P (NQ cx f p) U S n0 f p s K):=h'
    rw[hp]at h2;refine jx (Jk L h2 (ρ0:=ρ0) ?_ hn W V);intro x s' R Z w' O J C B;cases x with
    |Bc=>exact stat s' R Z w' O J C B
    |exit id=>exact M _ _ _ _ _ O J C B
    |goto l=>exact M _ _ _ _ _ O J C B
    |ret=>exact M _ _ _ _ _ O J C B
    |AB v=>exactλu Y=>M (.AB v) _ _ _ _ O J C B u Y
 |rangeFunc g ps az body=>exact Abh af (show fq U g ps az body s K from h) M hn W V
 |exit id=>exact wpIn_exit (M (.exit id) _ _ _ _ h hn W V)
 |label l=>exact wpIn_label (M .Bc _ _ _ _ h hn W V)
 |goto l=>exact wpIn_goto (M (.goto l) _ _ _ _ h hn W V)
 |ret=>exact wpIn_ret (M .ret _ _ _ _ h hn W V)
 |scope p=>
  refine AlE (Jk L (show U.code n0 f p s _ from h) (ρ0:=ρ0) ?_ hn W V);intro x s' R Z w' O J C B;cases x with
  |Bc=>exact⟨λ_ e=>(by cases e),M .Bc _ _ _ _ O J C B⟩
  |exit id=>exact⟨λ_ e=>(by cases e),M (.exit id) _ _ _ _ O J C B⟩
  |goto l=>exact O.elim
  |ret=>exact⟨λ_ e=>(by cases e),M .ret _ _ _ _ O J C B⟩
  |AB v=>exactλu Y=>⟨λ_ e=>(by cases e),M (.AB v) _ _ _ _ O J C B u Y⟩
 |refuse _=>exact h.elim
theorem pL {P:Program} {En:Fx} (ab:NB P En.code) {n0:Nat} {f:FuncId} {E:Env} {F:Nat->Option Obj} {ρ0:Ai} (ad:∀B,Dp n0 ρ0 B->ρ0.le B):∀(k:Nat) (c:Code) (s:St) (m:MD) (K:KD),P7 En n0 f k c s m K-> ∀(ρ:Ai) (a:Act) (w:World) (y:Frame) (cs:List Frame) (Q:Exit->Act->List Frame->World->Prop),(∀x s' R B U w' Y,K x s' R->n0<=s'.nx->Dp n0 ρ0 B->SR E F B s' U w' none->MR ρ0 R Y->Rx B x λe=>Q e U ({y with mode:=Y}::cs) w')-> n0<=s.nx->Dp n0 ρ0 ρ->SR E F ρ s a w none->MR ρ0 m y.mode->c.wpSIn (FW none) 0 P Q a (y::cs) w
 |0,_,_,_,_,h=>h.elim
 |k+1,c,s,m,K,h=>by
  intro ρ a w y cs Q W hn hk S hm;have ih:=pL ab (f:=f) (E:=E) (F:=F) ad k;have C:En.code n0 f c s (λx s'=>K x s' m)->c.wpSIn (FW none) 0 P Q a (y::cs) w:=λh=>
   wpSIn_of_wpIn rfl (Jk ab h (Q:=λe U w'=>Q e U (y::cs) w') (λx s' B U w' Z L M J=>W x s' m B U w' y.mode Z L M J hm) hn hk S)
  cases c with
  |skip=>exact C h
  |region id ops ak=>
   cases ak with
   |true=>exact C h
   |false=>
    have h':Option.rec (motive:=λ_=>Prop) (En.code n0 f (.region id ops false) s λx s'=>K x s' m) (λdst=>pS s dst m K) (Uj ops.toList):=h;cases hr:Uj ops.toList with
    |none=>rw[hr]at h';exact C h'
    |some dst=>
     rw[hr]at h';refine AgB hr ?_;cases m with
     |ret=>
      obtain⟨T,hT,h1⟩:=BM h';generalize hu:y.mode=u at hm;cases hm;obtain⟨e1,e2,e3⟩:=NP S.tr S.size (.EL (ρ:=ρ)) hT;have hc:{y with mode:=.returning}=y:=by rw[<-hu]
      have:=W .Bc _ _ ρ (a.put dst .nilIface) w .returning h1 hn hk ⟨S.rel,e1,e2,by rw[e3];exact S.dr,S.rr⟩ .ret;simp only[recoverD,hu];rw[hc]at this;exact this
     |AB v=>obtain⟨T,hT,h1⟩:=BM h';generalize hu:y.mode=u at hm;cases hm;rename_i u hv;obtain⟨e1,e2,e3⟩:=NP S.tr S.size (hv.mono (ad ρ hk)) hT;have:=W .Bc _ _ ρ (a.put dst u) w (.panicking [{v:=u,recovered:=true}]) h1 hn hk ⟨S.rel,e1,e2,by rw[e3];exact S.dr,S.rr⟩ (.Kf v u hv);simp only[recoverD,hu,fresh];exact this
     |Kf v=>
      obtain⟨T,hT,h1⟩:=BM h';generalize hu:y.mode=u at hm;cases hm;rename_i u hv;obtain⟨e1,e2,e3⟩:=NP S.tr S.size (.EL (ρ:=ρ)) hT;have hc:{y with mode:=.panicking [{v:=u,recovered:=true}]}=y:=by rw[<-hu]
      have:=W .Bc _ _ ρ (a.put dst .nilIface) w (.panicking [{v:=u,recovered:=true}]) h1 hn hk ⟨S.rel,e1,e2,by rw[e3];exact S.dr,S.rr⟩ (.Kf v u hv);simp only[recoverD,hu];rw[hc]at this;exact this
  |seq p q=>
   refine wpSIn_seq (ih p s m _ (show P7 En n0 f k p s m (λx s' R=>match x with
    |.Bc=>P7 En n0 f k q s' R K
    |x=>K x s' R)from h) ρ a w y cs _ (λx s' R B U w' Y Z L M J O=>?_) hn hk S hm)
   cases x with
   |Bc=>exact ih q s' R K Z B U w' {y with mode:=Y} cs Q (λx ao aq af au al an aa ah aj ag ai=>W x ao aq af au al an aa ah aj ag ai) L M J O
   |exit id=>exact W (.exit id) s' R B U w' Y Z L M J O
   |goto l=>exact W (.goto l) s' R B U w' Y Z L M J O
   |ret=>exact W .ret s' R B U w' Y Z L M J O
   |AB v=>exact W (.AB v) s' R B U w' Y Z L M J O
  |cond c p q=>
   obtain⟨b,T',ar,hT,h1⟩:=pK (tmps:=a.tmps) (show RW s.T c (λT=>P7 En n0 f k p ⟨s.N,T,s.H,s.nx,s.ro,s.D⟩ m K) (λT=>P7 En n0 f k q ⟨s.N,T,s.H,s.nx,s.ro,s.D⟩ m K)from h) (a:=a) S.tr;have ae:SR E F ρ ⟨s.N,T',s.H,s.nx,s.ro,s.D⟩ a w none:=⟨S.rel,λt x ht=>S.tr t x (by rw[<-hT];exact ht),S.size,S.dr,S.rr⟩;refine wpSIn_cond ar ?_;cases b with
   |true=>exact ih p _ m K h1 ρ a w y cs Q W hn hk ae hm
   |false=>exact ih q _ m K h1 ρ a w y cs Q W hn hk ae hm
  |block id p=>
   refine AlF (ih p s m _ (show P7 En n0 f k p s m (λx s' R=>match x with
    |.exit V=>cond (Nat.beq V id) (K .Bc s' R) (K (.exit V) s' R)
    |x=>K x s' R)from h) ρ a w y cs _ (λx s' R B U w' Y Z L M J O=>?_) hn hk S hm)
   cases x with
   |Bc=>exact W .Bc s' R B U w' Y Z L M J O
   |exit V=>
    show if V=id then Q .normal U _ w' else Q (.exit V) U _ w'
    have aa:cond (Nat.beq V id) (K .Bc s' R) (K (.exit V) s' R):=Z;cases hb:Nat.beq V id with
    |true=>rw[hb]at aa;rw[AN]at hb;rw[Am hb];exact W .Bc s' R B U w' Y aa L M J O
    |false=>rw[hb]at aa;rw[Ad (λe=>by rw[<-AN,hb]at e;cases e)];exact W (.exit V) s' R B U w' Y aa L M J O
   |goto l=>exact W (.goto l) s' R B U w' Y Z L M J O
   |ret=>exact W .ret s' R B U w' Y Z L M J O
   |AB v=>exact W (.AB v) s' R B U w' Y Z L M J O
  |loop p=>exact C h
  |rangeFunc f ps av body=>exact C h
  |exit id=>exact C h
  |label l=>exact C h
  |goto l=>exact C h
  |ret=>exact C h
  |scope _=>exact C h
  |refuse _=>exact C h
theorem uJ {n0 n:Nat} {ρ0 q:Ai} (y:∀i,n0<=i->ρ0 i=none) (B:Dp n0 ρ0 q) (hn:n0<=n):RX n0 n ρ0 q:=⟨⟨λi b C=>(by
  by_cases hi:i<n0
  ·rw[B.lo i hi];exact C
  ·rw[y i (by omega)]at C;exact absurd C (by simp)),B.st⟩,B.lo,hn⟩
theorem Aa6 {P:Program} {En:Fx} (hcode:NB P En.code) {g:FuncId} {args:Aj} {H:Tr Ae} {nx:Nat} {m:MD} {K:MD->Tr Ae->Nat->Prop} (h:fb P En g args H nx m K) {E:Env} {F:Nat->Option Obj} {ρ:Ai} {w:World} (r:Rel E F nx ρ H.get w) {u:FrameMode} (hm:MR ρ m u):
  (∃ fn c, P.funcs[g]? = some fn ∧ (fn.name == "runtime.NumGoroutine") = false ∧ fn.body = some c) ∧ ∀ vs, AG ρ args vs →
   CallsDIn (FW none) 0 P g vs.toArray u w λe u' w'=>∃v m' H' nx' ρ',e=.returned v/\K m' H' nx'/\RX nx nx' ρ ρ'/\Rel E F nx' ρ' H'.get w'/\MR ρ' m' (Go.settle u'):=by
 obtain⟨fn,hfn,h1⟩:=BM h;obtain⟨hnm,h2⟩:=EE.1 h1;obtain⟨c,hc,h3⟩:=BM h2;simp only[Bv]at h3;refine⟨⟨fn,c,hfn,by simpa using hnm,hc⟩,λvs Ax=>?_⟩;refine callsDIn_of_wpSIn hfn hc trivial λc₀ cs hc₀=>?_;have hlen:=Ax.length;subst hc₀;refine pL hcode (f:=g) (ρ0:=ρ) (λρ' hk=>(uJ r.new hk (AM _)).le) 60 c _ m _ h3 ρ {tmps:=vs.toArray++Array.replicate (fn.ntmps-vs.toArray.size) undef,defers:=[]} w c₀ cs _ (λx s m1 ρ' a' w' u' hx hn hk hs' hm'=>?_) (AM _) (Dp.refl _ _) ⟨r,yH Ax _,by simp[hlen],.nil,.none⟩ hm;have h5:(x=.Bc\/x=.ret)/\Al s.D.isEmpty (Bg (Ss P s.H s.T fn.results.toList) λ_=>K m1.settle s.H s.nx):=by
  cases x with
  |Bc=>exact⟨.inl rfl,hx⟩
  |ret=>exact⟨.inr rfl,hx⟩
  |exit _=>exact hx.elim
  |goto _=>exact hx.elim
  |AB _=>exact hx.elim
 obtain⟨hxx,h6⟩:=h5;obtain⟨hD,h7⟩:=EE.1 h6;obtain⟨v1,hv1,h8⟩:=BM h7;obtain⟨uv,hu,_⟩:=Yn (P:=P) hs'.rel hs'.tr hv1;have hdr:=hs'.dr;have hD':s.D=[]:=by simpa using hD
 rw[hD']at hdr;have hdf:a'.defers=[]:=by generalize a'.defers=ds at hdr;cases hdr;rfl
 have hrx:=uJ r.new hk hn;have fin:a'.defers=[]/\∃u'',({c₀ with mode:=u'}::cs)={c₀ with mode:=u''}::cs/\∃v,(results fn a'.tmps).run P w'=.ok v w'/\ ∃v' m' H' nx' ρ',Ending.returned v=.returned v'/\K m' H' nx'/\RX nx nx' ρ ρ'/\Rel E F nx' ρ' H'.get w'/\MR ρ' m' (Go.settle u''):=⟨hdf,u',rfl,uv,hu,uv,m1.settle,s.H,s.nx,ρ',rfl,h8,hrx,hs'.rel,(hm'.mono hrx.le).settle⟩;rcases hxx with hx|hx
 ·rw[hx];exact fin
 ·rw[hx];exact fin
theorem fm {P:Program} {U:Fx} (q:NB P U.code) {E:Env} {F:Nat->Option Obj} {fn:Func} {tmps:Array Value} {R:Ending->World->Prop} {K:MD->Tr Ae->Nat->Prop}: ∀(D:List PL) (M:List Deferred) (m:MD) (H:Tr Ae) (nx:Nat) (ρ:Ai) (u:FrameMode) (w:World),DR ρ D M->MR ρ m u->XP P U D m H nx K->Rel E F nx ρ H.get w-> (∀m' H' nx' y u' w',K m' H' nx'->RX nx nx' ρ y->Rel E F nx' y H'.get w'->MR y m' u'->LeavesIn (FW none) 0 P fn tmps R [] u' w')->LeavesInM (FW none) 0 P fn tmps R M u w
 |_,_,m,H,nx,ρ,u,w,.nil,hm,h,r,O=>O m H nx ρ u w h (RX.refl _ ρ) r hm
 |_,_,m,H,nx,ρ,u,w,.mark id b l M hb hs,hm,h,r,O=>by
  obtain⟨o,ho,S⟩:=BM (show Bg (H.get id) λo=>match o with
    |.Df true=>XP P U l m (H.set id (.Df false)) nx K
    |_=>False from h)
  cases o with
  |Df op=>
   cases op with
   |false=>exact S.elim
   |true=>obtain⟨c,hc,ag⟩:=r.ob _ _ b ho hb;cases ag;refine⟨hm.out,.inl ⟨b.b,_,rfl,run_takeDeferred hc,?_⟩⟩;refine fm q l M m (H.set id (.Df false)) nx ρ u _ hs hm S ?_ O;rw[H7];exact r.put ho hb (.Df false) (wi w b.b _ _ hc) rfl rfl rfl
  |_=>exact S.elim
 |_,_,m,H,nx,ρ,u,w,.call g args va vc l M hv hs,hm,h,r,O=>by
  obtain⟨⟨an,c1,aj,ah,ak⟩,C⟩:=Aa6 q (show fb P U g args H nx m (λm H nx=>XP P U l m H nx K)from h) r hm;refine⟨hm.out,.inr ⟨by simp[FW,Fence.wide],.func g,vc.toArray,g,(va++vc).toArray,rfl,?_,λ_ _=>trivial,?_⟩⟩
  ·simp only[invoke,callFunc,Sem.run_bind,run_program,Result.andThen_ok,aj,ah,Bool.false_eq_true,if_false,ak,Option.isNone_some,Sem.run_pure];congr 2;apply Array.ext';simp
  ·obtain⟨hF,C⟩:=C _ hv;refine⟨hF,λc cs hc J=>?_⟩;obtain⟨e,u',w',fr,⟨v,m1,H1,ad,y,rfl,S,hx,Y,ai⟩,B⟩:=C c cs hc J;exact⟨_,u',w',fr,fm q l M m1 H1 ad y _ w' (hs.mono hx.le) ai S Y λae al W V ab aa hk af L Z=>O ae al W V ab aa hk (hx.trans af) L Z,B⟩
theorem Abd {cx:Ctx} (hm:cx.P.follows .mixedOrders=true) {En:Fx} (O:NB cx.P En.code):La cx.P (pP cx En):=by
 intro g args H nx K h E F ρ w r;obtain⟨fn,ad,h1⟩:=BM h;obtain⟨af,h2⟩:=EE.1 h1;obtain⟨c,hc,h3⟩:=BM h2;simp only[Bv]at h3;refine⟨⟨fn,c,ad,by simpa using af,hc⟩,λvs Ax=>?_⟩;refine callsIn_of_wp_marks ad hc trivial ?_;have ae:=Ax.length;refine Jk O h3 (E:=E) (F:=F) (ρ0:=ρ) (ρ:=ρ) (ro:=none) (λx s B V w' C hn hk q=>?_) (AM _) (Dp.refl _ _) ⟨r,yH Ax _,by simp[ae],.nil,.none⟩;have U:RX nx s.nx ρ B:=⟨⟨λi b hb=>(by
  by_cases hi:i<nx
  ·rw[hk.lo i hi];exact hb
  ·rw[r.new i (by omega)]at hb;exact absurd hb (by simp)),hk.st⟩,hk.lo,hn⟩
 unfold pR at C;split at C
 ·rename_i hD;have ab:=q.dr;rw[hD]at ab;have ah:V.defers=[]:=by generalize V.defers=ds at ab;cases ab;rfl
  have lv:∀u R,u≠FrameMode.run->LeavesIn (FW none) 0 cx.P fn V.tmps R [] u w'->LeavesInM (FW none) 0 cx.P fn V.tmps R V.defers u w':=λu R hu h=>by rw[ah];exact h
  split at C
  ·obtain⟨v1,J,h8⟩:=BM C;obtain⟨S,hu,L⟩:=Yn (P:=cx.P) q.rel q.tr J;exact lv _ _ (by simp) ⟨S,hu,_,h8,S,B,rfl,U,q.rel,L⟩
  ·obtain⟨v1,J,h8⟩:=BM C;obtain⟨S,hu,L⟩:=Yn (P:=cx.P) q.rel q.tr J;exact lv _ _ (by simp) ⟨S,hu,_,h8,S,B,rfl,U,q.rel,L⟩
  ·intro u hu;exact lv _ _ (by simp) ⟨_,C,u,B,rfl,U,q.rel,hu⟩
  ·exact C.elim
 ·have y:∀(m:MD) (u:FrameMode),MR B m u->XO cx.P En fn K m s->LeavesInM (FW none) 0 cx.P fn V.tmps (dF E F nx ρ K) V.defers u w':=λm u ag hL=>by
   refine fm O s.D V.defers m s.H s.nx B u w' q.dr ag hL q.rel λm1 H1 ak W aj ai h6 aa M Z=>?_;have Y:=U.trans aa;cases m1 with
   |ret=>obtain⟨v1,J,h8⟩:=BM h6;cases Z;obtain⟨S,hu,L⟩:=Yn (P:=cx.P) M (q.tr.mono aa.le) J;exact⟨S,hu,_,h8,S,W,rfl,Y,M,L⟩
   |AB v=>cases Z;rename_i S hu;exact⟨_,h6,S,W,rfl,Y,M,hu⟩
   |Kf v=>exact h6.elim
  split at C
  ·exact y .ret .returning .ret C
  ·exact y .ret .returning .ret C
  ·intro u hu;exact y (.AB _) _ (.AB _ u hu) C
  ·exact C.elim
theorem pN {cx:Ctx} (y:cx.P.follows .mixedOrders=true) {D:Array Oper->St->KX->Prop} (hD:WZ cx.P D) (q:EY cx.P cx.tb):∀n,NB cx.P (fj cx D n).code/\La cx.P (fj cx D n).call
 |0=>⟨λ_ _ _ _ _ h=>h.elim,λ_ _ _ _ _ h=>h.elim⟩
 |n+1=>by obtain⟨B,C⟩:=pN y hD q n;exact⟨Aa5 hD B C q,Abd y B⟩
def Cb (P:Program) (p:Bool) (c:AV) (r:CR):Prop:=
 match p,r with
 |false,.mk v H _=>Bg (Jn P H v) λq=>Al q.1 (AZ [] c q.2.1)
 |true,.AB v H _=>Bg (Jn P H v) λq=>Al q.1 (AZ [] c q.2.1)
 |_,_=>False
theorem UA {ρ ρ2:Ai} (h:∀b o,ρ.st b=some o->ρ2.st b=some o):RI [] ρ ρ2:=⟨λi j q=>(by cases q),h⟩
theorem jv {P:Program} {E:Env} {F:Nat->Option Obj} {nx:Nat} {ρ:Ai} {H:Tr Ae} {w:World} (r:Rel E F nx ρ H.get w) {n1:Nat} {B:Ai} {H1:Tr Ae} {w':World} {Z c:AV} {u:Value} (ab:∀b o,ρ.st b=some o->B.st b=some o) (r1:Rel (FX E ρ) (λb=>w.heap[b]?) n1 B H1.get w') (hv:VR B Z u) (hc:Bg (Jn P H1 Z) λq=>Al q.1 (AZ [] c q.2.1)): ∃L,RX nx (nx+1) ρ L/\Rel E F (nx+1) L H.get w'/\VR L c u:=by
 obtain⟨⟨s,c',fz,ids⟩,ad,h1⟩:=BM hc;obtain⟨Y,h3⟩:=EE.1 h1;simp only at Y;subst Y;obtain⟨C,_,V⟩:=Qj r1 Z c' fz ids ad;obtain⟨hx,J⟩:=KB r1 C;have O:=V ids C (λ_ h=>h) u hv;generalize CZ B w' ids=ρ2 at hx J O;have W:∀b o,ρ.st b=some o->ρ2.st b=some o:=λb o h=>hx.le.st b o (ab b o h);have S:ρ.le ⟨ρ.nm,ρ2.st⟩:=⟨λ_ _ h=>h,W⟩;have y:∀b o,w.heap[b]? =some o->w'.heap[b]? =some o:=J.fr;have U:∀b o K,w.heap[b]? =some o->ρ2.st b=some K->ρ.st b≠none:=λb o K h1 Y=>by have:=J.sf b o K h1 Y;simpa[FX]using this
 refine⟨⟨ρ.nm,ρ2.st⟩,⟨S,λ_ _=>rfl,Nat.le_succ _⟩,⟨J.tape,J.os,J.output,λb o M=>y b o (r.fr b o M),λi o b hi M=>?_,r.dj,r.inj,λi hi=>r.new i (Nat.le_of_succ_le hi),r.gl,r.bs,J.st,λi o b hi M=>?_,λb o K hF hs=>?_⟩,Km (ρ:=ρ2) (ρ2:=⟨ρ.nm,ρ2.st⟩) (UA λ_ _ h=>h) c c' u h3 O⟩
 ·obtain⟨oc,h4,h5⟩:=r.ob i o b hi M;exact⟨oc,y _ _ h4,h5.mono S⟩
 ·obtain⟨oc,h4,h5⟩:=r.ob i o b hi M;cases hs:ρ2.st b.b with
  |none=>rfl
  |some K=>exact absurd (r.sd i o b hi M) (U b.b oc K h4 hs)
 ·have:=U b o K (r.fr b o hF) hs;cases R:ρ.st b with
  |none=>exact absurd R this
  |some aa=>exact r.sf b o aa hF R
theorem rj {P:Program} {call:FuncId->Aj->Tr Ae->Nat->KC->Prop} (C:La P call) {g:FuncId} {AJ:Tr Ae->Aj->Option Ct} {gl:List (Nat×Ae)} {ng:Nat} (aa:∀p∈gl,H8 p.2=true) (L:∀H args ct,AJ H args=some ct->(∀p∈gl,H.get p.1=some p.2)/\Ba [] args args/\∀p v,IY ct=some (p,v)->call g args (Bx gl) ng (Cb P p v)):Ck P g AJ:=by
 intro H args ct Y p v M E F ρ w nx H' hG r;obtain⟨hH,J,Z⟩:=L H args ct Y;have r0:Rel (FX E ρ) (λb=>w.heap[b]?) ng ⟨λ_=>none,ρ.st⟩ (Bx gl).get w:=⟨r.tape,r.os,r.output,λ_ _ h=>h,λ_ _ _ _ h=>(by cases h),λ_ _ _ _ h=>(by cases h),λ_ _ _ _ _ _ _ _ h=>(by cases h),λ_ _=>rfl,λg l hg=>hG g l (hH _ (Mc hg)),λb o hb=>r.fr b o (r.bs b o hb),r.st,λ_ _ _ _ h=>(by cases h),λb o o' _ hs=>(by simp[FX];exactλe=>by rw[show ρ.st b=some o' from hs]at e;cases e)⟩;have AA:=C g args (Bx gl) ng _ (Z p v M) _ _ _ w r0;refine⟨AA.1,λvs Ax=>CallsIn.mono (AA.2 vs (Nx (ρ:=ρ) (ρ2:=⟨λ_=>none,ρ.st⟩) (UA λ_ _ h=>h) args args vs J Ax)) λe w' he=>?_⟩;obtain⟨K,q,y⟩:=he;cases p with
 |false=>
  cases K with
  |mk v' H1 n1=>obtain⟨u,W,rfl,R,O,hv⟩:=y;obtain⟨B,V,U,S⟩:=jv r R.le.st O hv q;exact⟨u,B,rfl,V,U,S⟩
  |AB _ _ _=>exact q.elim
  |Df _ _ _ _=>exact q.elim
 |true=>
  cases K with
  |AB v' H1 n1=>obtain⟨u,W,rfl,R,O,hv⟩:=y;obtain⟨B,V,U,S⟩:=jv r R.le.st O hv q;exact⟨u,B,rfl,V,U,S⟩
  |mk _ _ _=>exact q.elim
  |Df _ _ _ _=>exact q.elim
end Go.Ev
end
section
namespace Go.Ev
theorem Tr.m9 {α:Type} {x:α}:∀(p:List Bool) (t:Tr α),Tr.gp p t=some x->Tr.sp (some x) p t=t
 | [],.leaf,h=>by cases h
 | [],.node v l r,h=>by have h':v=some x:=h;subst h';rfl
 |b::p,.leaf,h=>by rw[Tr.SE]at h;cases h
 |b::p,.node v l r,h=>by
  cases b with
  |true=>have h':Tr.gp p l=some x:=h;show Tr.node v (Tr.sp (some x) p l) r=_;rw[m9 p l h']
  |false=>have h':Tr.gp p r=some x:=h;show Tr.node v l (Tr.sp (some x) p r)=_;rw[m9 p r h']
theorem Tr.yJ {α:Type} {x:α} {t:Tr α} {n:Nat} (h:t.get n=some x):t.set n x=t:=m9 (path n) t h
theorem Abj {ops:Array Oper} {T:Tr AV} {o:Oper} {K:Tr AV->Bool->Prop} (h:P9 ops T o K):∃E,K T E/\E7 ops T o=some E:=by
 unfold P9 at h;unfold E7;split at h
 ·rename_i y;rw[y];exact⟨true,h,rfl⟩
 ·rename_i j J y;rw[y];obtain⟨U,S,R⟩:=BM h;obtain⟨d,C,O⟩:=BM R;obtain⟨v,q,B⟩:=BM O;simp only[S];split at B
  ·rename_i b;obtain⟨M,L⟩:=FN.1 B;cases b with
   |true=>exact⟨_,by have:=M rfl;rwa[Tr.yJ q]at this,by simp[ob,C,q]⟩
   |false=>exact⟨_,by have:=L rfl;rwa[Tr.yJ q]at this,by simp[ob,C,q]⟩
  ·refine⟨false,B,?_⟩;simp only[ob,C,q]
def WM (X:Operand->Option AV) (op:Op):Option Le:=
 match op with
 |.call c=>match c.callee with
  |.value f=>ob (X f) λf=>ob (Gf X c.args.toList) λq=>Jm f q
  |_=>none
 |_=>none
theorem tX {P:Program} {call:D7} {X:Operand->Option AV} {H:Tr Ae} {ni nx:Nat} {op:Op} (h:∀t,WM X op=some t->call t H nx=none):GC P call X H ni nx op=GC P Ob X H ni nx op:=by
 cases op<;>try rfl
 rename_i c;obtain⟨q,args,J⟩:=c;cases q with
 |builtin b=>cases b<;>rfl
 |invoke _ _=>rfl
 |value f=>
  simp only[GC];simp only[WM]at h;cases C:X f with
  |none=>rfl
  |some E=>
   rw[C]at h;cases B:Gf X args.toList with
   |none=>rfl
   |some y=>
    rw[B]at h;cases ht:Jm E y with
    |none=>simp[ob,ht]
    |some t=>have:=h t (by simp[ob,ht]);simp[ob,ht,this,Ob]
theorem tW {P:Program} {call:D7} {X:Operand->Option AV} {H:Tr Ae} {ni nx:Nat} {op:Op} {t:Le} {r:CR} (ht:WM X op=some t) (C:call t H nx=some r):GC P call X H ni nx op=some r:=by
 cases op<;>first|(cases ht;done)|skip
 rename_i c;obtain⟨q,args,L⟩:=c;cases q with
 |builtin b=>cases ht
 |invoke _ _=>cases ht
 |value f=>obtain⟨M,E,K⟩:=Ag.1 (show(ob (X f) λf=>ob (Gf X args.toList) λy=>Jm f y)=some t from ht);obtain⟨y,B,J⟩:=Ag.1 K;simp[GC,ob,E,B,J,C]
def HX (N p:Nat) (o:Oper) (A:Nat) (q:DS) (k:DK) (v:AV) (H:Tr Ae) (nx cc:Nat) (K:DS->Prop):Prop:=LZ N q.T o.dst v λT=>K (match k with
  |.off=>⟨q.reads,q.news,q.Ax,T,H,nx,cc,q.pn⟩
  |.pure=>cond (LF o.op) ⟨⟨p,o,A,q.T,.pure,v,H,cc⟩::q.reads,q.news,q.Ax,T,H,nx,cc,q.pn⟩ ⟨q.reads,q.news,q.Ax,T,H,nx,cc,q.pn⟩
  |.new b=>⟨q.reads,⟨p,o,A,q.T,.new b,v,H,cc⟩::q.news,q.Ax,T,H,nx,cc,q.pn⟩
  |.DN=>⟨q.reads,q.news,⟨p,o,A,q.T,.DN,v,H,cc⟩::q.Ax,T,H,nx,cc,q.pn⟩
  |.dead=>⟨q.reads,q.news,q.Ax,T,H,nx,cc,q.pn⟩
  |.AB y H' nx'=>⟨q.reads,q.news,q.Ax,T,H,nx,cc,some ⟨p,A,y,H',nx'⟩⟩)
theorem NK {N p:Nat} {o:Oper} {A:Nat} {y:DS} {k:DK} {v:AV} {H:Tr Ae} {nx cc:Nat} {K:DS->Prop} (h:HX N p o A y k v H nx cc K):∃q,HY N p o A y k v H nx cc=some q/\K q:=by obtain⟨T,C,B⟩:=R4 h;exact⟨_,by unfold HY;rw[C];rfl,B⟩
def pM (N p:Nat) (o:Oper) (A:Nat) (q:DS) (K:DS->Prop) (r:CR):Prop:=
 match r with
 |.mk v H nx=>fN (p+1) λcc=>HX N p o A q .DN v H nx cc K
 |.AB v H nx=>HX N p o A q (.AB v H nx) (.AO []) q.H q.nx q.cc K
 |.Df _ _ _ _=>False
def fZ (tb:D9) (ht:DX) (q:Tr Ae) (nx:Nat) (K:CR->Prop) (g:FuncId) (args:Aj) (L:Prop):Prop:=Option.rec (motive:=λ_=>Prop) (Option.rec (motive:=λ_=>Prop) L (λAJ=>Bg (AJ q args) λct=>OO ct (λv=>K (.mk v q (nx+1))) (λv=>K (.AB v q (nx+1)))) (look tb g)) (λAJ=>Bg (AJ q nx args) λhc=>OP hc (λv up n=>K (.mk v (Cr up q) n)) (λv up n=>K (.AB v (Cr up q) n))) (Lq ht g)
def XL (P:Program) (tb:D9) (ht:DX) (X:Operand->Option AV) (q:Tr Ae) (ni nx:Nat) (op:Op) (K:CR->Prop):Prop:=Option.rec (motive:=λ_=>Prop) (Option.rec (motive:=λ_=>Prop) (Bg (GC P Ob X q ni nx op) K) (λt=>match t with
    |.fn g args=>fZ tb ht q nx K g args (Bg (GC P Ob X q ni nx op) K)
    |.Dx _ _=>False) (WM X op))
  (λr=>Al r.1 (K (.mk r.2.1 r.2.2 nx))) (JG P X q ni op)
theorem Aa7 {P:Program} {tb:D9} {ht:DX} {X:Operand->Option AV} {q:Tr Ae} {ni nx:Nat} {op:Op} {K:CR->Prop} (h:XL P tb ht X q ni nx op K):∃r,FQ P (Kw tb ht) X q ni nx op=some r/\K r:=by
 unfold XL at h;cases M:JG P X q ni op with
 |some r=>rw[M]at h;obtain⟨B,J⟩:=EE.1 h;obtain⟨b,v,H'⟩:=r;simp only at B;subst B;exact⟨_,x5 M,J⟩
 |none=>
  rw[M]at h;cases B:WM X op with
  |none=>rw[B]at h;obtain⟨r,J,L⟩:=BM h;exact⟨r,VC M (by rw[tX (λt ht=>by rw[B]at ht;cases ht)];exact J),L⟩
  |some t=>
   rw[B]at h;cases t with
   |Dx _ _=>exact h.elim
   |fn g args=>
    have h':fZ tb ht q nx K g args (Bg (GC P Ob X q ni nx op) K):=h;unfold fZ at h';cases E:Lq ht g with
    |some AJ=>
     rw[E]at h';obtain⟨hc,L,R⟩:=BM h';obtain⟨p,v,up,n,S,O⟩:=RZ R;have U:Kw tb ht (.fn g args) q nx=some (Hu p v (Cr up q) n):=by show Option.rec (motive:=λ_=>Option CR) (ob (look tb g) λAJ=>ob (AJ q args) λct=>ob (IY ct) λo=>some (Hu o.1 o.2 q (nx+1))) (λAJ=>ob (AJ q nx args) λhc=>ob (hOut hc) λo=>some (Hu o.1 o.2.1 (Cr o.2.2.1 q) o.2.2.2)) (Lq ht g)=_;rw[E];show(ob (AJ q nx args) λhc=>ob (hOut hc) λo=>some (Hu o.1 o.2.1 (Cr o.2.2.1 q) o.2.2.2))=_;rw[L];show(ob (hOut hc) λo=>some (Hu o.1 o.2.1 (Cr o.2.2.1 q) o.2.2.2))=_;rw[S];rfl
     refine⟨_,VC M (tW B U),?_⟩;cases p with
     |false=>exact O
     |true=>exact O
    |none=>
    rw[E]at h';have y:Kw tb ht (.fn g args) q nx=(ob (look tb g) λAJ=>ob (AJ q args) λct=>ob (IY ct) λo=>some (Hu o.1 o.2 q (nx+1))):=by show Option.rec (motive:=λ_=>Option CR) (ob (look tb g) λAJ=>ob (AJ q args) λct=>ob (IY ct) λo=>some (Hu o.1 o.2 q (nx+1))) (λAJ=>ob (AJ q nx args) λhc=>ob (hOut hc) λo=>some (Hu o.1 o.2.1 (Cr o.2.2.1 q) o.2.2.2)) (Lq ht g)=_;rw[E]
    cases J:look tb g with
    |none=>rw[J]at h';obtain⟨r,L,R⟩:=BM h';exact⟨r,VC M (by rw[tX (λt C=>by rw[B]at C;injection C with C;subst C;rw[y,J];rfl)];exact L),R⟩
    |some AJ=>
     rw[J]at h';obtain⟨ct,L,R⟩:=BM h';obtain⟨p,v,S,O⟩:=Ve R;have hc:Kw tb ht (.fn g args) q nx=some (Hu p v q (nx+1)):=by rw[y,J];show(ob (AJ q args) λct=>ob (IY ct) λo=>some (Hu o.1 o.2 q (nx+1)))=_;rw[L];show(ob (IY ct) λo=>some (Hu o.1 o.2 q (nx+1)))=_;rw[S];rfl
     refine⟨_,VC M (tW B hc),?_⟩;cases p with
     |false=>exact O
     |true=>exact O
def fh (P:Program) (tb:D9) (ht:DX) (ops:Array Oper) (N B:Nat) (E:Tr Nat) (p:Nat) (o:Oper) (y:DS) (K:DS->Prop):Prop:=Bg (E.get p) λA=>cond (Qs y.pn A) (HX N p o A y .dead (.AO []) y.H y.nx y.cc K) (P9 ops y.T o λT C=>(λy:DS=>cond C (Option.rec (motive:=λ_=>Prop) (Vf P (B6 y.T) o.op (λv=>HX N p o A y .pure v y.H y.nx y.cc K) (Option.rec (motive:=λ_=>Prop) (fN (B+p) λni=>Option.rec (motive:=λ_=>Prop) (Option.rec (motive:=λ_=>Prop) (Al (FA (λh=>Go.Ev.tb A h.i) y.Ax) (Al y.pn.isNone (XL P tb ht (B6 y.T) (D5 y.news y.Ax A p B y.H) ni y.nx o.op (pM N p o A y K)))) (λq=>HX N p o A y (.new q.2) q.1 y.H y.nx y.cc K) (Ix P (B6 y.T) ni o.op)) (λq=>Al q.1 (HX N p o A y (.new q.2.2) q.2.1 y.H y.nx y.cc K)) (Je P (B6 y.T) ni o.op)) (λv=>HX N p o A y .pure v y.H y.nx y.cc K) (Hk P (D5 y.news y.Ax A p B y.H) (B6 y.T) o.op))) (λr=>Al r.1 (HX N p o A y .pure r.2 y.H y.nx y.cc K)) (HP P (D5 y.news y.Ax A p B y.H) (B6 y.T) o.op)) (HX N p o A y .off (.AO []) y.H y.nx y.cc K)) ⟨y.reads,y.news,y.Ax,T,y.H,y.nx,y.cc,y.pn⟩)
theorem Abc {P:Program} {tb:D9} {ht:DX} {ops:Array Oper} {N L:Nat} {Z:Tr Nat} {p:Nat} {o:Oper} {y:DS} {K:DS->Prop} (h:fh P tb ht ops N L Z p o y K):∃B,Sg P (Kw tb ht) ops N L Z p o y=some B/\K B:=by
 obtain⟨A,hA,U⟩:=BM h;unfold Sg;rw[hA];show∃B,(cond (Qs y.pn A) (HY N p o A y .dead (.AO []) y.H y.nx y.cc) <| ob (E7 ops y.T o) λV=>cond V _ _)=some B/\K B;cases hd:Qs y.pn A with
 |true=>rw[hd,cond_true]at U;obtain⟨B,C,O⟩:=NK U;exact⟨B,C,O⟩
 |false=>
  rw[hd,cond_false]at U;obtain⟨V,C,hw⟩:=Abj U;rw[cond_false,hw];cases V with
  |false=>have C:HX N p o A y .off (.AO []) y.H y.nx y.cc K:=C;obtain⟨B,O,R⟩:=NK C;refine⟨B,?_,R⟩;show HY N p o A y .off (.AO []) y.H y.nx y.cc=some B;exact O
  |true=>
   have C:(Option.rec (motive:=λ_=>Prop) (Vf P (B6 y.T) o.op (λv=>HX N p o A y .pure v y.H y.nx y.cc K) (Option.rec (motive:=λ_=>Prop) (fN (L+p) λni=>Option.rec (motive:=λ_=>Prop) (Option.rec (motive:=λ_=>Prop) (Al (FA (λh=>Go.Ev.tb A h.i) y.Ax) (Al y.pn.isNone (XL P tb ht (B6 y.T) (D5 y.news y.Ax A p L y.H) ni y.nx o.op (pM N p o A y K)))) (λq=>HX N p o A y (.new q.2) q.1 y.H y.nx y.cc K) (Ix P (B6 y.T) ni o.op)) (λq=>Al q.1 (HX N p o A y (.new q.2.2) q.2.1 y.H y.nx y.cc K)) (Je P (B6 y.T) ni o.op)) (λv=>HX N p o A y .pure v y.H y.nx y.cc K) (Hk P (D5 y.news y.Ax A p L y.H) (B6 y.T) o.op))) (λr=>Al r.1 (HX N p o A y .pure r.2 y.H y.nx y.cc K)) (HP P (D5 y.news y.Ax A p L y.H) (B6 y.T) o.op)):=C;show∃B,(Option.rec (motive:=λ_=>Option DS) (fN (L+p) λni=>Option.rec (motive:=λ_=>Option DS) (gd (FA (λh=>Go.Ev.tb A h.i) y.Ax) (gd y.pn.isNone <| ob (FQ P (Kw tb ht) (B6 y.T) (D5 y.news y.Ax A p L y.H) ni y.nx o.op) λr=>CR.rec (motive:=λ_=>Option DS) (λv H nx=>fN (p+1) λcc=>HY N p o A y .DN v H nx cc) (λv H nx=>HY N p o A y (.AB v H nx) (.AO []) y.H y.nx y.cc) (λ_ _ _ _=>none) r)) (λq=>HY N p o A y (.new q.2) q.1 y.H y.nx y.cc) (EJ P (B6 y.T) ni o.op)) (λv=>HY N p o A y .pure v y.H y.nx y.cc) (Ds P (D5 y.news y.Ax A p L y.H) (B6 y.T) o.op))=some B/\K B;cases O:HP P (D5 y.news y.Ax A p L y.H) (B6 y.T) o.op with
   |some r=>rw[O]at C;obtain⟨R,S⟩:=EE.1 C;obtain⟨b,v⟩:=r;simp only at R;subst R;rw[mX O];obtain⟨B,E,J⟩:=NK S;exact⟨B,E,J⟩
   |none=>
   rw[O]at C;rcases pQ (H:=D5 y.news y.Ax A p L y.H) C with C|⟨v,hv,hk⟩
   rotate_left
   ·rw[V8 O hv];obtain⟨B,E,J⟩:=NK hk;exact⟨B,E,J⟩
   cases R:Hk P (D5 y.news y.Ax A p L y.H) (B6 y.T) o.op with
   |some v=>rw[R]at C;rw[V8 O R];obtain⟨B,E,J⟩:=NK C;exact⟨B,E,J⟩
   |none=>
   rw[R]at C;have e1:Ds P (D5 y.news y.Ax A p L y.H) (B6 y.T) o.op=none:=by unfold Ds;rw[O];exact R
   rw[e1];simp only[Bv]at C⊢;cases S:Je P (B6 y.T) (L+p) o.op with
   |some r=>rw[S]at C;obtain⟨E,J⟩:=EE.1 C;obtain⟨b,v,aa⟩:=r;simp only at E;subst E;rw[x7 S];obtain⟨B,E,J⟩:=NK J;exact⟨B,E,J⟩
   |none=>
   rw[S]at C;cases E:Ix P (B6 y.T) (L+p) o.op with
   |some q=>rw[E]at C;rw[vi S E];obtain⟨B,E,J⟩:=NK C;exact⟨B,E,J⟩
   |none=>
   rw[E]at C;have e2:EJ P (B6 y.T) (L+p) o.op=none:=by unfold EJ;rw[S];exact E
   rw[e2];obtain⟨J,h8⟩:=EE.1 C;obtain⟨h9,Y⟩:=EE.1 h8;obtain⟨r,W,M⟩:=Aa7 Y;simp only[J,h9,W,gd,cond_true,ob];cases r with
   |mk v H nx=>have M:fN (p+1) (λcc=>HX N p o A y .DN v H nx cc K):=M;rw[Bv]at M;obtain⟨B,E,J⟩:=NK M;exact⟨B,E,J⟩
   |AB v H nx=>obtain⟨B,E,J⟩:=NK (show HX N p o A y (.AB v H nx) (.AO []) y.H y.nx y.cc K from M);exact⟨B,E,J⟩
   |Df _ _ _ _=>exact M.elim
def XM (P:Program) (tb:D9) (ht:DX) (ops:Array Oper) (N C:Nat) (J:Tr Nat) (K:DS->Prop) (l:List Oper):Nat->DS->Prop:=List.rec (motive:=λ_=>Nat->DS->Prop) (λ_ y=>K y) (λo _ E p y=>fh P tb ht ops N C J p o y λB=>fN (p+1) λq=>E q B) l
theorem fg {P:Program} {tb:D9} {ht:DX} {ops:Array Oper} {N C:Nat} {E:Tr Nat} {K:DS->Prop}:∀ {l:List Oper} {p:Nat} {B:DS},XM P tb ht ops N C E K l p B->∃y,Qd P (Kw tb ht) ops N C E l p B=some y/\K y
 | [],p,B,h=>⟨B,rfl,h⟩
 |o::l,p,B,h=>by obtain⟨J,R,L⟩:=Abc (show fh P tb ht ops N C E p o B (λy=>fN (p+1) λq=>XM P tb ht ops N C E K l q y)from h);rw[Bv]at L;obtain⟨y,O,M⟩:=fg L;refine⟨y,?_,M⟩;show(ob (Sg P (Kw tb ht) ops N C E p o B) λy=>fN (p+1) λq=>Qd P (Kw tb ht) ops N C E l q y)=_;rw[R];show fN (p+1) (λq=>Qd P (Kw tb ht) ops N C E l q J)=_;rw[Bv];exact O
def fp (P:Program) (H:Tr Ae) (X:Operand->Option AV) (op:Op) (K:AV->Prop):Prop:=Option.rec (motive:=λ_=>Prop) (Bg (Hk P H X op) K) (λr=>Al r.1 (K r.2)) (HP P H X op)
theorem Abg {P:Program} {H:Tr Ae} {X:Operand->Option AV} {op:Op} {K:AV->Prop} (h:fp P H X op K):∃v,Ds P H X op=some v/\K v:=by
 unfold fp at h;cases y:HP P H X op with
 |some r=>rw[y]at h;obtain⟨q,B⟩:=EE.1 h;obtain⟨b,v⟩:=r;simp only at q;subst q;exact⟨v,mX y,B⟩
 |none=>rw[y]at h;obtain⟨v,q,B⟩:=BM h;exact⟨v,V8 y q,B⟩
def ft (P:Program) (q:DS) (y:Nat) (r:IU) (c:Nat) (H:Tr Ae):Prop:=cond (Nat.beq c r.cc) True (cond (Ho q.Ax c r.i) (cond (FA (λh=>cond (tb r.A h.i) (Nat.blt h.i c) true) q.Ax) (fp P (D5 q.news q.Ax r.A c y H) (B6 r.T) r.o.op λv=>v=r.v) True) True)
theorem Abi {P:Program} {q:DS} {y:Nat} {r:IU} {c:Nat} {H:Tr Ae} (h:ft P q y r c H):Wq P q y r c H=true:=by
 unfold ft at h;unfold Wq;cases K:Nat.beq c r.cc with
 |true=>rfl
 |false=>
  rw[K,cond_false]at h;rw[cond_false];cases J:Ho q.Ax c r.i with
  |false=>rfl
  |true=>
   rw[J,cond_true]at h;rw[cond_true];cases E:FA (λh=>cond (tb r.A h.i) (Nat.blt h.i c) true) q.Ax with
   |false=>rfl
   |true=>rw[E,cond_true]at h;rw[cond_true];obtain⟨v,C,B⟩:=Abg h;rw[C];exact m2.2 B
def XA {α:Type} (f:α->Prop) (l:List α):Prop:=List.rec (motive:=λ_=>Prop) True (λa _ q=>f a/\q) l
theorem fK {α:Type} {f:α->Prop} {g:α->Bool} (q:∀a,f a->g a=true):∀ {l:List α},XA f l->FA g l=true
 | [],_=>rfl
 |a::l,h=>by have h':f a/\XA f l:=h;show cond (g a) (FA g l) false=true;rw[q a h'.1];exact fK q h'.2
def fW (P:Program) (q:DS) (y:Nat) (c:Nat) (H:Tr Ae):Prop:=XA (λr=>ft P q y r c H) q.reads/\Al (FA (λr=>Zb q y r c H) q.news) True
theorem pH {P:Program} {q:DS} {y:Nat} {c:Nat} {H:Tr Ae} (h:fW P q y c H):R6 P q y c H=true:=by unfold R6;rw[fK (λr B=>Abi B) h.1];exact(EE.1 h.2).1
def fX (P:Program) (q:DS) (y:Nat) (B:Tr Ae):Prop:=fW P q y 0 B/\XA (λh=>fW P q y h.cc h.H) q.Ax
theorem pI {P:Program} {q:DS} {y:Nat} {B:Tr Ae} (h:fX P q y B):X6 P q y B=true:=by unfold X6;rw[pH h.1];exact fK (λr C=>pH C) h.2
def fc (P:Program) (tb:D9) (ht:DX) (ops:Array Oper) (s:St) (K:KX):Prop:=Bg (Vl ops) λC=>fN ops.size λn=>fN (s.nx+n) λB=>XM P tb ht ops s.N s.nx C (λy=>fX P y s.nx s.H/\ (Option.rec (motive:=λ_=>Prop) (K .Bc ⟨s.N,y.T,MA y.news y.Ax n s.nx y.H,y.nx,s.ro,s.D⟩) (λq=>K (.AB q.v) ⟨s.N,Ky q.A ops.toList 0 y.T,q.H,q.nx,s.ro,s.D⟩) y.pn)) ops.toList 0 ⟨[],[],[],s.T,s.H,B,0,none⟩
theorem Abb {P:Program} {tb:D9} {ht:DX} {ops:Array Oper} {s:St} {K:KX} (h:fc P tb ht ops s K):∃x s',iL P (Kw tb ht) ops s=some (.mk x s')/\K x s':=by
 obtain⟨M,L,B⟩:=BM h;simp only[Bv]at B;obtain⟨C,J,E,y⟩:=fg B;unfold iL;simp only[L,J,Bv,pI E,ob,gd,cond_true];cases hp:C.pn with
 |none=>rw[hp]at y;exact⟨_,_,rfl,y⟩
 |some q=>rw[hp]at y;exact⟨_,_,rfl,y⟩
theorem Aba {P:Program} (O:P.follows .mixedOrders=true) {tb:D9} {ht:DX} (y:EY P tb) (C:Gi P ht):WZ P (fc P tb ht):=by intro ops s K h id E F n0 ρ0 ρ a w ro Q M hn R L;obtain⟨x,s',U,S⟩:=Abb h;exact AbM O (Kw tb ht) ops s x s' (pW y C) U id E F ρ a w ro Q L λq V w' J B=>M x s' q V w' S (G3 hn J.nn) (R.trans (Dp.M6 J hn)) B
end Go.Ev
end
section
namespace Go.Ev
structure zh (t:BU) (ops:Array Oper) (s:St) (σ:DS):Prop where
 T:t.FM ops.size=σ.T
 nx:t.Fa ops.size=σ.nx
 Bc:σ.pn=none->(∀i,i<ops.size->¬t.NZ i)/\∀x o,(MA σ.news σ.Ax ops.size s.nx σ.H).get x=some o->(∃j,j<ops.size/\t.k j=.new o/\t.late ops.size ops.size j/\x=s.nx+j)\/(t.G ops.size).get x=some o
 AB:∀q,σ.pn=some q->q.p<ops.size/\t.NZ q.p/\(∀i v' H'' nx',i<ops.size->t.k i=.AB v' H'' nx'->i=q.p/\v'=q.v/\H''=q.H/\nx'=q.nx)/\
  ∀d b,(Ky q.A ops.toList 0 σ.T).get d=some b->(t.FM ops.size).get d=some b/\∀k,k<ops.size->(t.oo k).dst=some d->t.Cp q.p k
theorem AbP {P:Program} {call:D7} {ops:Array Oper} {s:St} {AT:Tr Nat} {σ:DS} (ai:Vl ops=some AT) (aD:Qd P call ops s.N s.nx AT ops.toList 0 ⟨[],[],[],s.T,s.H,s.nx+ops.size,0,none⟩=some σ) (aF:X6 P σ s.nx s.H=true): ∃t,Ex t P call ops s/\(∀i,t.oo i=(ops[i]?).getD default)/\zh t ops s σ:=by
 have af:∀i,i<ops.size->ops[i]? =some ((ops[i]?).getD default):=λi hi=>by rw[Array.getElem?_eq_getElem hi];rfl
 have st:=rb af ai;obtain⟨f,g,f0,fn,aq⟩:=gM _ _ _ _ aD;rw[show 0+ops.toList.length=ops.size by simp]at fn;have step:∀i,i<ops.size->DStep P call ops s.N s.nx (maskAt AT i) i ((ops[i]?).getD default) (f i) (f (i+1)) (g i):=λi hi=>by have:=aq i ((ops[i]?).getD default) (by rw[Array.getElem?_toList];exact af i hi);rwa[Nat.zero_add]at this
 let t:BU:=⟨λi=>(ops[i]?).getD default,maskAt AT,λi=>(f i).T,λi=>(g i).k,λi=>(g i).v,λi=>(f i).H,λi=>(f i).nx⟩;have ae:∀p,p<=ops.size->∀i,i<p->(g i).k=.DN->g i∈(f p).Ax:=by
  intro p
  induction p with
  |zero=>intro _ i hi;omega
  |succ p R=>
   intro E i hi B;by_cases Y:i=p
   ·subst Y;exact(step i E).hv B
   ·exact(step p E).SJ _ (R (by omega) i (by omega) B)
 have OZ:∀p,p<=ops.size->∀r∈(f p).Ax,∃i,i<p/\r=g i/\(g i).k=.DN:=by
  intro p
  induction p with
  |zero=>intro _ r C;rw[f0]at C;cases C
  |succ p R=>
   intro E r C;rcases(step p E).OZ r C with C|⟨rfl,B⟩
   ·obtain⟨i,h1,O⟩:=R (by omega) r C;exact⟨i,by omega,O⟩
   ·exact⟨p,by omega,rfl,B⟩
 have aJ:∀p,p<=ops.size->∀i b,i<p->(g i).k=.new b->g i∈(f p).news:=by
  intro p
  induction p with
  |zero=>intro _ i b hi;omega
  |succ p R=>
   intro E i b hi B;by_cases Y:i=p
   ·subst Y;exact(step i E).nw b B
   ·exact(step p E).vp _ (R (by omega) i b (by omega) B)
 have O4:∀p,p<=ops.size->∀r∈(f p).news,∃i,i<p/\r=g i/\∃b,(g i).k=.new b:=by
  intro p
  induction p with
  |zero=>intro _ r C;rw[f0]at C;cases C
  |succ p R=>
   intro E r C;rcases(step p E).O4 r C with C|⟨rfl,B⟩
   ·obtain⟨i,h1,O⟩:=R (by omega) r C;exact⟨i,by omega,O⟩
   ·exact⟨p,by omega,rfl,B⟩
 have aH:∀p,p<=ops.size->∀i,i<p->(g i).k=.pure->LF ((ops[i]?).getD default).op=true->g i∈(f p).reads:=by
  intro p
  induction p with
  |zero=>intro _ i hi;omega
  |succ p R=>
   intro E i hi B C;by_cases Y:i=p
   ·subst Y;exact(step i E).rd B C
   ·exact(step p E).xE _ (R (by omega) i (by omega) B C)
 have ar:∀p,p<=ops.size->∀q,(f p).pn=some q->q.p<p/\(g q.p).k=.AB q.v q.H q.nx/\q.A=maskAt AT q.p:=by
  intro p
  induction p with
  |zero=>intro _ q hq;rw[f0]at hq;cases hq
  |succ p R=>
   intro E q hq;have J:=(step p E).pk;rw[hq]at J;have aI:(f p).pn=some q->q.p<p+1/\(g q.p).k=.AB q.v q.H q.nx/\q.A=maskAt AT q.p:=λh=>by obtain⟨i1,i2,i3⟩:=R (by omega) q h;exact⟨by omega,i2,i3⟩
   split at J
   ·rename_i v H nx B;injection J with J;subst J;exact⟨Nat.lt_succ_self p,B,rfl⟩
   ·exact aI J.symm
 have ad:∀i v H nx,i<ops.size->(g i).k=.AB v H nx->∀p,i<p->p<=ops.size->(f p).pn≠none:=by
  intro i v H nx hi B p
  induction p with
  |zero=>intro h;omega
  |succ p R=>
   intro Y E;have J:=(step p E).pk;by_cases he:i=p
   ·subst he;rw[B]at J;rw[J];simp
   ·have:=R (by omega) (by omega);split at J
    ·rw[J];simp
    ·rw[J];exact this
 have aO:∀p,p<=ops.size->t.Gy ops.size (f p).cc/\(f p).cc<=p/\∀q,t.hv ops.size q->(q<(f p).cc↔q<p):=by
  intro p
  induction p with
  |zero=>intro _;rw[f0];exact⟨.inl rfl,AM _,λq _=>Iff.rfl⟩
  |succ p R=>
   intro E;obtain⟨i1,i2,i3⟩:=R (by omega);have B:=(step p E).kind;by_cases hh:(g p).k=.DN
   ·rw[hh]at B;have e:(f (p+1)).cc=p+1:=B.2.1;rw[e];exact⟨.inr ⟨p,⟨E,hh⟩,rfl⟩,AM _,λq _=>Iff.rfl⟩
   ·have e:(f (p+1)).cc=(f p).cc:=by
     split at B
     ·exact B.2.2.2.2
     ·exact B.2.2.2.1
     ·exact B.2.2.2.1
     ·rename_i Z;exact absurd Z hh
     ·exact B.2.2.2.2
     ·exact B.2.2.2.1
    rw[e];refine⟨i1,by omega,λq y=>?_⟩;rw[i3 q y];have:q≠p:=λe=>by subst e;exact hh y.2
    omega
 have V:∀p,p<=ops.size->∀c j,(c<=p\/p=ops.size)->Ho (f p).Ax c j=true->t.late ops.size c j:=λp E c j an hl q y ak ao=>by
  have aK:q<p:=by
   rcases an with h|h
   ·omega
   ·rw[h];exact y.1
  have:=uf hl (g q) (ae p E q aK y.2) (by rw[(step q y.1).ei];exact ak);rw[(step q y.1).eA]at this;unfold BU.Cp at ao;rw[show t.A q=maskAt AT q from rfl,this]at ao;cases ao
 have L:∀p,p<=ops.size->∀c j,t.late ops.size c j->Ho (f p).Ax c j=true:=λp E c j hl=>ug λr C hc=>by
  obtain⟨q,hq,rfl,B⟩:=OZ p E r C;have aj:q<ops.size:=by omega
  rw[(step q aj).ei]at hc;have:=hl q ⟨aj,B⟩ hc;unfold BU.Cp at this;rw[(step q aj).eA];simpa using this
 have K:∀p,p<=ops.size->∀i c H,(c<=p\/p=ops.size)->(∀x o,H.get x=some o->(t.G c).get x=some o)->t.sub ops.size s.nx (D5 (f p).news (f p).Ax (maskAt AT i) c s.nx H) i c:=by
  intro p E i c H an hG x o Z;rcases zT Z with⟨r,C,h1,O,h3,h4⟩|h
  ·obtain⟨j,hj,rfl,b,hb⟩:=O4 p E r C;have aM:j<ops.size:=by omega
   rw[(step j aM).ei]at O h3 h4;exact .inl ⟨j,O,h1,V p E c j an h3,h4⟩
  ·exact .inr (hG x o h)
 have ab:∀c,t.Gy ops.size c->R6 P σ s.nx c (t.G c)=true:=by
  obtain⟨c1,c2⟩:=Bf aF;rintro c (rfl|⟨q,y,rfl⟩)
  ·have:t.G 0=s.H:=by show(f 0).H=s.H;rw[f0]
   rw[this];exact c1
  ·have hm:=ae ops.size (AM _) q y.1 y.2;rw[fn]at hm;have:=JX c2 _ hm;have B:=(step q y.1).kind;rw[show(g q).k=.DN from y.2]at B;rw[(step q y.1).ec,show(f (q+1)).cc=q+1 from B.2.1,(step q y.1).eH]at this;exact this
 have ok:Ex t P call ops s:=by
  refine⟨af,λi j hi hj=>st.Cp i j hi hj,st.Lg,by show(f 0).T=_;rw[f0],λi hi=>(step i hi).put,st.dst,λi d k hi B hl hd ay=>st.look i d k hi B hl hd ay,
   by show(f 0).H=_;rw[f0],by show(f 0).nx=_;rw[f0],λi hi=>?_⟩
  have B:=(step i hi).kind;unfold BU.Lm;show(match(g i).k with
   |.off=>_
   |.pure=>_
   |.new o=>_
   |.DN=>_
   |.dead=>_
   |.AB v H nx=>_)
  split at B
  ·rename_i e;rw[e];exact⟨B.1,B.2.1,B.2.2.1,B.2.2.2.1⟩
  ·rename_i e;rw[e];refine⟨B.1,⟨B.2.1,B.2.2.1⟩,λc hc hl aE=>?_⟩;have aa:=B.2.2.2.2;cases au:LF ((ops[i]?).getD default).op with
   |false=>exact⟨.leaf,λx o Z=>(by rw[Tr.EK]at Z;cases Z),(sQ au).trans aa⟩
   |true=>
    have hm:=aH ops.size (AM _) i hi e au;rw[fn]at hm;have W:=(Bf (ab c hc)).1;have C:=JX W _ hm;unfold Wq at C;cases hb:Nat.beq c (g i).cc with
    |true=>
     have aA:c=(f i).cc:=by rw[DP hb,(step i hi).ec];exact B.2.2.2.1
     obtain⟨_,i2,i3⟩:=aO i (by omega);refine⟨_,?_,aa⟩;have aC:=K i (by omega) i i (f i).H (.inl (AM _)) (λx o h=>h);intro x o Z;rcases aC x o Z with⟨j,h1,O,h3,h4⟩|h
     ·exact .inl ⟨j,h1,O,λq y ak=>h3 q y ((i3 q y).1 (by rw[<-aA];exact ak)),h4⟩
     ·refine .inr ?_;have hG:∀d p,p+d<=i->(∀q,t.hv ops.size q->(q<p↔q<p+d))->t.G (p+d)=t.G p:=by
       intro d
       induction d with
       |zero=>intro p _ _;rfl
       |succ d R=>
        intro p aP hq;have aw:(g (p+d)).k≠.DN:=λU=>by have:=hq (p+d) ⟨by omega,U⟩;omega
        have ai:(f (p+d+1)).H=(f (p+d)).H:=by
         have U:=(step (p+d) (by omega)).kind;split at U
         ·exact U.2.2.1
         ·exact U.2.1
         ·exact U.2.1
         ·rename_i Z;exact absurd Z aw
         ·exact U.2.2.1
         ·exact U.2.1
        refine(show t.G (p+(d+1))=t.G (p+d)from ai).trans (R p (by omega) λq y=>?_);have:=hq q y;have ay:q≠p+d:=λe=>by subst e;exact aw y.2
        omega
      obtain⟨d,hd⟩:=Nat.le.dest i2;have:=hG d (f i).cc (by omega) (λq y=>by rw[hd];exact i3 q y);rw[hd]at this;rw[aA,<-this];exact h
    |false=>
     rw[hb,cond_false,(step i hi).ei,<-fn,L ops.size (AM _) c i hl,cond_true]at C;have aG:FA (λh=>cond (tb (g i).A h.i) (Nat.blt h.i c) true) (f ops.size).Ax=true:=by
      apply Xz;intro r C;obtain⟨q,hq,rfl,M⟩:=OZ ops.size (AM _) r C;rw[(step q hq).ei,(step i hi).eA];cases av:tb (maskAt AT i) q with
      |false=>rfl
      |true=>rw[LI]at av;rw[cond_true,Co];exact aE q ⟨hq,M⟩ av
     rw[aG,cond_true,(step i hi).eA,(step i hi).eT,(step i hi).eo]at C;cases al:Ds P (D5 (f ops.size).news (f ops.size).Ax (maskAt AT i) c s.nx (t.G c)) (B6 (f i).T) ((ops[i]?).getD default).op with
     |none=>rw[al]at C;cases C
     |some v=>rw[al]at C;have:=m2.1 C;subst this;exact⟨_,K ops.size (AM _) i c (t.G c) (.inr rfl) (λx o h=>h),al⟩
  ·rename_i b e;rw[e];refine⟨B.1,⟨B.2.1,B.2.2.1⟩,B.2.2.2.2,λc hc hl=>?_⟩;have hm:=aJ ops.size (AM _) i b hi e;rw[fn]at hm;have W:=(Bf (ab c hc)).2;have C:=JX W _ hm;unfold Zb at C;rw[(step i hi).ei,<-fn,L ops.size (AM _) c i hl,cond_true,Bv]at C;simpa using C
  ·rename_i e;rw[e];refine⟨B.1,λq y aL=>?_,_,K i (by omega) i i (f i).H (.inl (AM _)) (λx o h=>h),B.2.2.2.1⟩;have:=B.2.2.1 _ (ae i (by omega) q aL y.2);rw[(step q y.1).ei]at this;exact this
  ·rename_i e;rw[e];refine⟨?_,B.2.2.1,B.2.2.2.1⟩;have ah:=B.1;cases S:(f i).pn with
   |none=>rw[S]at ah;cases ah
   |some q=>rw[S]at ah;obtain⟨h1,O,_⟩:=ar i (by omega) q S;refine⟨q.p,by omega,?_,q.v,q.H,q.nx,O⟩;show(maskAt AT i).testBit q.p=true;rw[<-LI];exact ah
  ·rename_i v H nx e;rw[e];refine⟨B.1,⟨B.2.1,B.2.2.1⟩,λq y=>?_,_,K i (by omega) i i (f i).H (.inl (AM _)) (λx o h=>h),B.2.2.2.2.2.1⟩;have az:q<i:=by
    rcases Nat.lt_trichotomy q i with h|h|h
    ·exact h
    ·subst h;have:=y.2;rw[show t.k q=(g q).k from rfl,e]at this;cases this
    ·have M:=(step q y.1).kind;rw[show(g q).k=.DN from y.2]at M;exact absurd M.2.2.2.2 (ad i v H nx hi e q h (Nat.le_of_lt y.1))
   refine⟨az,?_⟩;have:=B.2.2.2.2.1 _ (ae i (by omega) q az y.2);rw[(step q y.1).ei]at this;exact this
 refine⟨t,ok,λi=>rfl,⟨by show(f ops.size).T=_;rw[fn],by show(f ops.size).nx=_;rw[fn],λS=>⟨λi hi ⟨v,H,nx,B⟩=>ad i v H nx hi B ops.size hi (AM _) (by rw[fn];exact S),?_⟩,λq S=>?_⟩⟩
 ·intro x o Z;rcases zS Z with⟨r,C,h1,O,h4⟩|h
  ·rw[<-fn]at C O;obtain⟨j,hj,rfl,b,hb⟩:=O4 ops.size (AM _) r C;rw[(step j hj).ei]at O h4;exact .inl ⟨j,hj,h1,V ops.size (AM _) _ j (.inr rfl) O,h4⟩
  ·refine .inr ?_;show(f ops.size).H.get x=some o;rw[fn];exact h
 ·rw[<-fn]at S;obtain⟨h1,O,h5⟩:=ar ops.size (AM _) q S;refine⟨h1,⟨_,_,_,O⟩,λi v' aB nx' hi B=>?_,λd b hb=>?_⟩
  ·have ag:(g i).k=.AB v' aB nx':=B;have aN:i=q.p:=by
    rcases Nat.lt_trichotomy i q.p with h|h|h
    ·have M:=(step q.p h1).kind;rw[O]at M;exact absurd M.2.2.2.2.2.2 (ad i v' aB nx' hi ag q.p h (by omega))
    ·exact h
    ·have M:=(step i hi).kind;rw[ag]at M;exact absurd M.2.2.2.2.2.2 (ad q.p q.v q.H q.nx h1 O i h (by omega))
   subst aN;rw[O]at ag;injection ag with e1 e2 e3;exact⟨rfl,e1.symm,e2.symm,e3.symm⟩
  ·obtain⟨e1,e2⟩:=gH _ _ _ _ _ hb;refine⟨?_,λk B hd=>?_⟩
   ·show(f ops.size).T.get d=some b;rw[fn];exact e1
   ·have:=e2 k _ (by rw[Array.getElem?_toList];exact af k B) hd;rw[Nat.zero_add,h5]at this;exact this
structure Gh where
 j:Nat
 d:Tmp
 t:TypeId
 ins:List (Nat×TypeId×Operand×Operand)
 mv:Nat
 e:Tmp
 lk:Nat
 lt:TypeId
 key:Tmp
 kx:Nat
 val:Value
def ja (l:List (Nat×TypeId×Operand×Operand)) (i:Nat):Bool:=List.rec (motive:=λ_=>Bool) false (λq _ y=>cond (Nat.beq q.1 i) true y) l
theorem tu {i:Nat}:∀ {l:List (Nat×TypeId×Operand×Operand)},ja l i=true↔∃q∈l,q.1=i
 | []=>⟨λh=>(by cases h),λ⟨_,h,_⟩=>(by cases h)⟩
 |p::l=>by
  show cond (Nat.beq p.1 i) true (ja l i)=true↔_;cases h:Nat.beq p.1 i with
  |true=>exact⟨λ_=>⟨p,BN ..,DP h⟩,λ_=>rfl⟩
  |false=>
   rw[cond_false,tu];constructor
   ·rintro⟨q,y,B⟩;exact⟨q,Ca _ y,B⟩
   ·rintro⟨q,y,B⟩;rcases CS.1 y with rfl|y
    ·rw[B,Nat.beq_refl]at h;cases h
    ·exact⟨q,y,B⟩
def Gh.side (g:Gh) (i:Nat):Bool:=cond (Nat.beq i g.j) true (cond (Nat.beq i g.mv) true (ja g.ins i))
def G6 (g:Gh) (i:Nat) (o:Oper):Oper:=cond (Nat.beq i g.lk) ⟨o.dst,.move (.const g.val),o.type,o.pos,o.after,o.guard⟩ (cond (g.side i) ⟨none,.move (.const g.val),o.type,o.pos,o.after,o.guard⟩ o)
def Qm (g:Gh) (l:List Oper):Nat->List Oper:=List.rec (motive:=λ_=>Nat->List Oper) (λ_=>[]) (λo _ q i=>G6 g i o::fN (i+1) q) l
def DT (g:Gh) (ops:Array Oper):Array Oper:=⟨Qm g ops.toList 0⟩
theorem sv (g:Gh):∀(l:List Oper) (p i:Nat),(Qm g l p)[i]? =(l[i]?).map (G6 g (p+i))
 | [],p,i=>by show([]:List Oper)[i]? =_;simp
 |o::l,p,0=>rfl
 |o::l,p,i+1=>by show(G6 g p o::fN (p+1) (Qm g l))[i+1]? =_;rw[Bv,List.getElem?_cons_succ,sv g l (p+1) i,List.getElem?_cons_succ,show p+1+i=p+(i+1) by omega]
theorem sw (g:Gh):∀(l:List Oper) (p:Nat),(Qm g l p).length=l.length
 | [],p=>rfl
 |o::l,p=>by show(G6 g p o::fN (p+1) (Qm g l)).length=_;rw[Bv,AE,sw g l,AE]
theorem Ql (g:Gh) (ops:Array Oper):(DT g ops).size=ops.size:=by show(Qm g ops.toList 0).length=_;rw[sw];simp
theorem jL (g:Gh) (ops:Array Oper) (i:Nat):(DT g ops)[i]? =(ops[i]?).map (G6 g i):=by show(⟨Qm g ops.toList 0⟩:Array Oper)[i]? =_;rw[List.getElem?_toArray,sv,Nat.zero_add,Array.getElem?_toList]
theorem SB (g:Gh) (i:Nat) (o:Oper):(G6 g i o).after=o.after:=by unfold G6;cases Nat.beq i g.lk<;>cases g.side i<;>rfl
theorem sx (g:Gh) (i:Nat) (o:Oper):(G6 g i o).guard=o.guard:=by unfold G6;cases Nat.beq i g.lk<;>cases g.side i<;>rfl
def Vz (g:Gh) (kAV:AV):Operand->Option AV:=λx=>match x with
 |.tmp s=>cond (Nat.beq s g.e) (some (.map 0)) (cond (Nat.beq s g.d) (some (.map 0)) (cond (Nat.beq s g.key) (some kAV) none))
 |x=>B6 .leaf x
def Yz (k:AV):Bool:=match k with
 |.str _ _=>true
 |.bs _=>true
 |_=>false
def Sd (i:Nat) (l:List (Nat×TypeId×Operand×Operand)):List (Nat×TypeId×Operand×Operand):=List.rec (motive:=λ_=>List (Nat×TypeId×Operand×Operand)) [] (λq _ y=>cond (Nat.beq q.1 i) y (q::y)) l
def Sz (P:Program) (g:Gh) (kAV vAV:AV):Nat->List (Nat×TypeId×Operand×Operand)->Ae->Bool:=Nat.rec (motive:=λ_=>List (Nat×TypeId×Operand×Operand)->Ae->Bool) (λy o=>cond y.isEmpty (Option.rec (motive:=λ_=>Bool) false (λa=>Cw a vAV) (Ds P (Tr.leaf.set 0 o) (Vz g kAV) (.lookup g.lt (.tmp g.e) (.tmp g.key) false))) false) (λ_ C y o=>cond y.isEmpty (Option.rec (motive:=λ_=>Bool) false (λa=>Cw a vAV) (Ds P (Tr.leaf.set 0 o) (Vz g kAV) (.lookup g.lt (.tmp g.e) (.tmp g.key) false))) (FA (λq=>Option.rec (motive:=λ_=>Bool) false (λB=>C (Sd q.1 y) B) (ob (B6 .leaf q.2.2.1) λk=>ob (B6 .leaf q.2.2.2) λv=>ob (Sq P (Tr.leaf.set 0 o) q.2.1 (.map 0) k v) λH=>H.get 0)) y))
def KG (o:Oper) (j:Nat):Bool:=List.rec (motive:=λ_=>Bool) false (λe _ q=>cond (Region.binds .any e) (cond (Nat.beq e.on j) true q) q) o.after.toList
theorem jW {o:Oper} {j:Nat} (h:KG o j=true):∃e∈o.after,Region.binds .any e=true/\e.on=j:=by
 unfold KG at h;have:∀l:List Edge,List.rec (motive:=λ_=>Bool) false (λe _ q=>cond (Region.binds .any e) (cond (Nat.beq e.on j) true q) q) l=true->∃e∈l,Region.binds .any e=true/\e.on=j:=λl=>by
  induction l with
  |nil=>intro h;cases h
  |cons e l q=>
   intro h;have h:cond (Region.binds .any e) (cond (Nat.beq e.on j) true (List.rec (motive:=λ_=>Bool) false (λe _ q=>cond (Region.binds .any e) (cond (Nat.beq e.on j) true q) q) l)) (List.rec (motive:=λ_=>Bool) false (λe _ q=>cond (Region.binds .any e) (cond (Nat.beq e.on j) true q) q) l)=true:=h;have y:List.rec (motive:=λ_=>Bool) false (λe _ q=>cond (Region.binds .any e) (cond (Nat.beq e.on j) true q) q) l=true->∃x∈e::l,Region.binds .any x=true/\x.on=j:=λh=>by obtain⟨x,E,C⟩:=q h;exact⟨x,Ca _ E,C⟩
   cases B:Region.binds .any e with
   |false=>rw[B,cond_false]at h;exact y h
   |true=>
    rw[B,cond_true]at h;cases J:Nat.beq e.on j with
    |false=>rw[J,cond_false]at h;exact y h
    |true=>exact⟨e,BN ..,B,DP J⟩
 obtain⟨e,E,C⟩:=this _ h;exact⟨e,by simpa using E,C⟩
structure Rz (P:Program) (g:Gh) (ops:Array Oper) (kAV vAV:AV):Prop where
 made:∃o,ops[g.j]? =some o/\o.dst=some g.d/\(∃t,o.op=.makeMap t none)
 ins:∀q∈g.ins,∃o,ops[q.1]? =some o/\o.dst=none/\o.op=.insert q.2.1 (.tmp g.d) q.2.2.1 q.2.2.2/\KG o g.j=true/\q.1≠g.j/\q.1≠g.mv
 mv:∃o,ops[g.mv]? =some o/\o.dst=some g.e/\o.op=.move (.tmp g.d)/\KG o g.j=true/\g.mv≠g.j/\∀q∈g.ins,KG o q.1=true
 lk:∃o,ops[g.lk]? =some o/\o.op=.lookup g.lt (.tmp g.e) (.tmp g.key) false/\KG o g.mv=true/\KG o g.kx=true/\g.side g.lk=false
 kx:∃o,ops[g.kx]? =some o/\o.dst=some g.key/\g.side g.kx=false
 gd:∀i o,ops[i]? =some o->o.guard=none/\(g.side i=false->o.dst≠some g.d/\o.dst≠some g.e)
 de:g.d≠g.e
 kd:g.key≠g.d/\g.key≠g.e
 key:Yz kAV=true
 val:ofValue g.val=some vAV/\∃k n,vAV=.int k n
 ok:∃n o0,EJ P (λ_=>none) 0 (.makeMap g.t none)=some (.map 0,o0)/\Sz P g kAV vAV n g.ins o0=true
 mt:∀o,ops[g.j]? =some o->o.op=.makeMap g.t none
def KY (b cap:Nat):Ai:=⟨λi=>if i=0 then some ⟨b,0,cap⟩else none,λ_=>none⟩
theorem Uk {b cap i:Nat} {x:C3} (h:KY b cap i=some x):i=0/\x=⟨b,0,cap⟩:=by
 have h:(if i=0 then some (⟨b,0,cap⟩:C3)else none)=some x:=h;split at h
 ·rename_i e;exact⟨e,(Option.some.inj h).symm⟩
 ·cases h
def AbV (w:World):Env:=⟨w.tape,w.os,w.output,λ_=>none,λ_=>true⟩
def jF (w:World) (b:Nat):Nat->Option Obj:=λk=>if k=b then none else w.heap[k]?
theorem xF {w:World} {b cap:Nat} {o:Ae} {c:Obj} (hc:w.heap[b]? =some c) (J:OR (KY b cap) ⟨b,0,cap⟩ o c):Rel (AbV w) (jF w b) 1 (KY b cap) (Tr.leaf.set 0 o).get w:=by
 have C:∀i q,(Tr.leaf.set 0 o).get i=some q->KY b cap i≠none->q=o:=λi q h hn=>by
  cases hi:KY b cap i with
  |none=>exact absurd hi hn
  |some x=>obtain⟨rfl,_⟩:=Uk hi;rw[Tr.GG]at h;exact(Option.some.inj h).symm
 refine⟨rfl,rfl,rfl,λk q h=>?_,λi q x h B=>?_,λi q x h B=>?_,λi j q E x y O K M L _=>?_,λi hi=>?_,λi l h=>?_,λk q h=>(by cases h),λk q h=>(by cases h),λi q x h B=>rfl,λk q E h K=>(by cases K)⟩
 ·unfold jF at h;split at h
  ·cases h
  ·exact h
 ·have:=C i q h (by rw[B];simp);obtain⟨rfl,rfl⟩:=Uk B;subst this;exact⟨c,hc,J⟩
 ·obtain⟨rfl,rfl⟩:=Uk B;exact Am rfl
 ·exact(Uk M).1.trans (Uk L).1.symm
 ·exact Ad (by omega)
 ·by_cases hi:0=i
  ·subst hi;rw[Tr.GG]at h;injection h with h;subst h;cases J
  ·rw[Tr.KE _ hi,Tr.EK]at h;cases h
theorem Alu {ρ q:Ai} {k:IntKind} {n:Int} {u:Value} (h:VR ρ (.int k n) u):VR q (.int k n) u:=by cases h;exact .int _ _
theorem Alv {ρ y:Ai} {k:AV} {u:Value} (q:Yz k=true) (h:VR ρ k u):VR y k u:=by
 unfold Yz at q;split at q
 ·cases h;exact .str _ _ (by assumption)
 ·cases h;exact .bs _
 ·cases q
theorem AgE {E:Env} {F:Nat->Option Obj} {nx:Nat} {ρ:Ai} {h:Nat->Option Ae} {w w':World} (r:Rel E F nx ρ h w) {b:Nat} {c V:Obj} (U:F b=some c) (Y:E.base b=none) (W:E.fs b=false) (ht:w'.tape=w.tape) (O:w'.os=w.os) (L:w'.output=w.output) (hc:w'.heap[b]? =some V) (M:∀k o,k≠b->w.heap[k]? =some o->w'.heap[k]? =some o):Rel E (λk=>if k=b then some V else F k) nx ρ h w':=by
 have K:∀i o x,h i=some o->ρ i=some x->x.b≠b:=λi o x C B e=>by have:=r.dj i o x C B;rw[e,U]at this;cases this
 have J:∀k o,ρ.st k=some o->k≠b:=λk o h e=>by subst e;have:=r.sf _ _ _ U h;rw[W]at this;cases this
 refine⟨ht.trans r.tape,O.trans r.os,L.trans r.output,λk o q=>?_,λi o x C B=>?_,λi o x C B=>?_,r.inj,r.new,r.gl,λk o q=>?_,λk o q=>?_,r.sd,λk o R q S=>?_⟩
 ·split at q
  ·rename_i e;subst e;injection q with q;subst q;exact hc
  ·rename_i e;exact M k o e (r.fr k o q)
 ·obtain⟨y,h3,Z⟩:=r.ob i o x C B;exact⟨y,M _ _ (K i o x C B) h3,Z⟩
 ·rw[Ad (K i o x C B)];exact r.dj i o x C B
 ·rw[Ad (λe=>by subst e;rw[Y]at q;cases q)];exact r.bs k o q
 ·exact M k o (J k o q) (r.st k o q)
 ·have:=J k R S;rw[Ad this]at q;exact r.sf k o R q S
def rm (E:Env) (b:Nat):Env:=⟨E.tape,E.os,E.output,E.base,λk=>if k=b then false else E.fs k⟩
theorem AgD {E:Env} {F:Nat->Option Obj} {nx:Nat} {ρ:Ai} {h:Nat->Option Ae} {w J:World} (r:Rel E F nx ρ h w) {c:Obj} (L:J=w\/J=w.drew): Rel (rm E w.heap.size) (λk=>if k=w.heap.size then some c else F k) nx ρ h (J.alloc c)/\F w.heap.size=none/\E.base w.heap.size=none/\(J.alloc c).heap[w.heap.size]? =some c:=by
 have S:w.heap[w.heap.size]? =none:=by simp
 have W:F w.heap.size=none:=by
  cases h:F w.heap.size with
  |none=>rfl
  |some o=>have:=r.fr _ _ h;rw[S]at this;cases this
 have Y:E.base w.heap.size=none:=by
  cases h:E.base w.heap.size with
  |none=>rfl
  |some o=>have:=r.bs _ _ h;rw[W]at this;cases this
 have V:(J.alloc c).heap=w.heap.push c:=by rcases L with rfl|rfl<;>rfl
 have C:(J.alloc c).heap[w.heap.size]? =some c:=by rw[V];simp
 have q:∀k o,w.heap[k]? =some o->(J.alloc c).heap[k]? =some o/\k≠w.heap.size:=λk o B=>by have aa:=M4 B;refine⟨?_,by omega⟩;rw[V,Array.getElem?_push,Ad (by omega)];exact B
 refine⟨⟨?_,?_,?_,λk o B=>?_,λi o x K M=>?_,λi o x K M=>?_,r.inj,r.new,r.gl,λk o B=>?_,λk o B=>(q k o (r.st k o B)).1,r.sd,λk o O B U=>?_⟩,W,Y,C⟩
 ·rcases L with rfl|rfl<;>exact r.tape
 ·rcases L with rfl|rfl<;>exact r.os
 ·rcases L with rfl|rfl<;>exact r.output
 ·split at B
  ·rename_i e;subst e;injection B with B;subst B;exact C
  ·exact(q k o (r.fr k o B)).1
 ·obtain⟨y,R,Z⟩:=r.ob i o x K M;exact⟨y,(q _ _ R).1,Z⟩
 ·obtain⟨y,R,_⟩:=r.ob i o x K M;rw[Ad (q _ _ R).2];exact r.dj i o x K M
 ·have:=r.bs k o B;rw[Ad (q k o (r.fr k o this)).2];exact this
 ·have K:=(q k O (r.st k O U)).2;rw[Ad K]at B;show(if k=w.heap.size then false else E.fs k)=true;rw[Ad K];exact r.sf k o O B U
structure Sub (E E':Env) (F F':Nat->Option Obj):Prop where
 t:E'.tape=E.tape
 o:E'.os=E.os
 p:E'.output=E.output
 b:E'.base=E.base
 f:∀k,E'.fs k=true->E.fs k=true
 F:∀k o,F k=some o->F' k=some o
theorem Sub.rel {E J:Env} {F C:Nat->Option Obj} (h:Sub E J F C) (B:∀b o,E.base b=some o->F b=some o) {nx:Nat} {ρ:Ai} {H:Nat->Option Ae} {w:World} (r:Rel J C nx ρ H w):Rel E F nx ρ H w:=by
 refine⟨r.tape.trans h.t,r.os.trans h.o,r.output.trans h.p,λk o q=>r.fr k o (h.F k o q),r.ob,λi o x S R=>?_,r.inj,r.new,λg l M=>?_,B,r.st,r.sd,λk o K q L=>h.f k (r.sf k o K (h.F k o q) L)⟩
 ·have:=r.dj i o x S R;cases O:F x.b with
  |none=>rfl
  |some y=>rw[h.F _ _ O]at this;cases this
 ·have:=r.gl g l M;rw[h.b]at this;exact this
theorem Dn.re {t:BU} {ops:Array Oper} {s:St} {E J:Env} {F C:Nat->Option Obj} {ρ0:Ai} {ro:Option Nat} {listed:Array Bool} {a y:Act} {w w':World} {ρ:Ai} {c:Nat} (q:Dn t ops s E F ρ0 ro listed a w ρ c) (K:Rel J C (t.Fa c) ρ (t.hD ops.size s.nx listed c) w') (R:∀i d,i<ops.size->Ls listed i->(t.oo i).dst=some d->y.tmps[d]? =a.tmps[d]?) (O:∀d x,s.T.get d=some x->y.tmps[d]? =a.tmps[d]?) (M:y.tmps.size=a.tmps.size) (L:y.defers=a.defers): Dn t ops s J C ρ0 ro listed y w' ρ c:=⟨q.size,q.Gy,q.hc,q.down,q.le,q.lo,q.nn,K,q.Uy,λi d hi B hd=>by rw[R i d hi B hd];exact q.PG i d hi B hd,λd x hn hd=>by rw[O d x hd];exact q.Ri d x hn hd,M.trans q.sz,by rw[L];exact q.dr,q.rr,q.np⟩
theorem Ha {a:Act} {dst:Option Tmp} {v:Value} {d:Tmp} (h:dst≠some d):(a.put dst v).tmps[d]? =a.tmps[d]?:=by
 cases dst with
 |none=>rfl
 |some x=>have:x≠d:=λe=>h (by rw[e]);simp only[Act.put];rw[Array.getElem?_setIfInBounds_ne this]
theorem z6 {F:Fence} {n:Nat} {P:Program} {ops:Array Oper} {Q:Exit->Act->World->Prop} {i:Nat} {K:Act->World->Prop} {a:Act} {w:World} {d:Tmp} (hd:∀o,ops[i]? =some o->o.dst≠some d) (h:wpOpIn F n P ops Q i K a w):wpOpIn F n P ops Q i (λL w'=>K L w'/\L.tmps[d]? =a.tmps[d]?) a w:=by
 unfold wpOpIn at*;split
 ·exact⟨by simpa[*]using h,rfl⟩
 ·rename_i o J;have q:=hd o J;simp only[J]at h;split
  ·rename_i C;simp only[C,if_true]at h;unfold Oper.wpIn at*;refine⟨h.1,?_⟩;have y:=h.2;generalize(o.semAt F.round a.eval).run P w=r at*;cases r with
   |ok x w'=>
    cases x<;>simp only[Oper.uponIn]at y⊢ <;>
     first
      |exact⟨y,Ha q⟩
      |exact⟨y.1,CallsIn.mono y.2 (λe E B=>by cases e<;>first|exact⟨B,Ha q⟩|exact B)⟩
      |exact⟨y.1,RowsIn.mono y.2 (λ_ _ B=>⟨B,Ha q⟩)⟩
      |exact⟨y.1,RoundIn.mono y.2 (λe E B=>by cases e<;>first|exact⟨B,Ha q⟩|exact B)⟩
   |halt x w'=>cases x<;>simp only[Oper.uponIn]at y⊢ <;>exact y
  ·rename_i C;simp only[C]at h;exact⟨h.1,h.2,Ha q⟩
theorem z2 {o:Oper} {y:Nat->Option Bool} (h:o.guard=none):Region.wanted o y=true:=by unfold Region.wanted;rw[h]
def JO (listed:Array Bool) (l:List (Nat×TypeId×Operand×Operand)):List (Nat×TypeId×Operand×Operand):=l.filter λq=>!listed.getD q.1 false
theorem zA {listed:Array Bool} {i:Nat} (hi:i<listed.size):∀l,JO (listed.setIfInBounds i true) l=Sd i (JO listed l)
 | []=>rfl
 |q::l=>by
  have y:=zA (listed:=listed) hi l;unfold JO at y⊢;rw[List.filter_cons,List.filter_cons,y];by_cases h:i=q.1
  ·subst h;have e:(listed.setIfInBounds q.1 true).getD q.1 false=true:=by simp[hi]
   rw[e,Ad (by simp)];cases B:listed.getD q.1 false with
   |false=>rw[Am (show(!false)=true from rfl)];show _=cond (Nat.beq q.1 q.1) (Sd q.1 _) _;rw[Nat.beq_refl];rfl
   |true=>rw[Ad (by simp)]
  ·rw[getD_set_ne false h];split
   ·show _=cond (Nat.beq q.1 i) (Sd i _) (q::Sd i _);have:Nat.beq q.1 i=false:=by
     cases B:Nat.beq q.1 i with
     |false=>rfl
     |true=>exact absurd (DP B).symm h
    rw[this];rfl
   ·rfl
theorem nG {listed:Array Bool} {i:Nat} {l:List (Nat×TypeId×Operand×Operand)} (h:∀q∈l,q.1≠i):JO (listed.setIfInBounds i true) l=JO listed l:=by unfold JO;apply List.filter_congr;intro q y;rw[getD_set_ne false λe=>h q y e.symm]
theorem Ak6 {listed:Array Bool} {l:List (Nat×TypeId×Operand×Operand)} (h:∀q∈l,¬Ls listed q.1):JO listed l=l:=by unfold JO;rw[List.filter_eq_self];intro q y;have:=h q y;unfold Ls at this;simpa using this
theorem Ak5 {listed:Array Bool} {l:List (Nat×TypeId×Operand×Operand)} (h:∀q∈l,Ls listed q.1):JO listed l=[]:=by unfold JO;rw[List.filter_eq_nil_iff];intro q y;have:=h q y;unfold Ls at this;simp[this]
section
variable {t:BU} {P:Program} {call:D7} {R:Array Oper} {s:St} {g:Gh} {kAV vAV:AV}
variable {E:Env} {F:Nat->Option Obj} {ρ0:Ai} {ro rr:Option Nat} {Q:Exit->Act->World->Prop}
def GV (P:Program) (g:Gh) (kAV vAV:AV) (q:Nat->Option Obj) (listed:Array Bool) (a:Act) (E:Env) (F:Nat->Option Obj):Prop:=∃b cap o cc n,q b=none/\E.base b=none/\E.fs b=false/\F b=some cc/\OR (KY b cap) ⟨b,0,cap⟩ o cc/\a.tmps[g.d]? =some (.map (some b))/\(Ls listed g.mv->a.tmps[g.e]? =some (.map (some b)))/\Sz P g kAV vAV n (JO listed g.ins) o=true
structure UJ (t:BU) (P:Program) (g:Gh) (kAV vAV:AV) (R:Array Oper) (s:St) (E:Env) (F:Nat->Option Obj) (ρ0:Ai) (rr:Option Nat) (listed:Array Bool) (a:Act) (w:World) (ρ:Ai) (c:Nat):Prop where
 ex:∃E' F',Sub E E' F F'/\Dn t (DT g R) s E' F' ρ0 rr listed a w ρ c/\(Ls listed g.j->GV P g kAV vAV F listed a E' F')
 mj:Ls listed g.mv->Ls listed g.j
 ij:∀q∈g.ins,Ls listed q.1->Ls listed g.j
 mi:Ls listed g.mv->∀q∈g.ins,Ls listed q.1
theorem wh (ok:Ex t P call (DT g R) s) {listed:Array Bool} {a:Act} {w:World} {ρ:Ai} {c i:Nat} (C:Dn t (DT g R) s E F ρ0 rr listed a w ρ c) (hi:i<(DT g R).size) (Y:¬Ls listed i) (J:∀j,t.Cp i j->Ls listed j) (O:(t.oo i).op=.move (.const g.val)) (S:(t.oo i).guard=none) (hv:ofValue g.val=some vAV):(∀o,t.k i≠.new o)/\t.k i≠.DN/\¬t.NZ i/\t.v i=vAV:=by
 have y:=ok.kind i hi;unfold BU.Lm at y;rw[O]at y;have U:E7 (DT g R) (t.FM i) (t.oo i)=some true:=by unfold E7;rw[S]
 split at y
 ·rw[U]at y;exact absurd y.1 (by simp)
 ·rename_i M;obtain⟨V,Z,B⟩:=y.2.2 c C.Gy (kN C Y) λq W K=>(C.hc q W).1 (J q K);refine⟨by rw[M];simp,by rw[M];simp,(by rintro⟨v,H,nx,e⟩;rw[M]at e;cases e),?_⟩;have:Ds P V (B6 (t.FM i)) (.move (.const g.val))=ofValue g.val:=rfl;rw[this,hv]at B;exact(Option.some.inj B).symm
 ·have:=y.2.2.1;simp[EJ,Je,Ix]at this
 ·obtain⟨_,_,V,_,B⟩:=y;simp[FQ,JG,GC]at B
 ·obtain⟨⟨p,hp,K,L⟩,_⟩:=y;exact absurd L (C.np p (J p K))
 ·obtain⟨_,_,_,V,_,B⟩:=y;simp[FQ,JG,GC]at B
end
section
variable {t:BU} {P:Program} {call:D7} {R:Array Oper} {s:St} {g:Gh} {kAV vAV:AV}
variable {E:Env} {F:Nat->Option Obj} {ρ0:Ai} {ro rr:Option Nat} {Q:Exit->Act->World->Prop}
theorem bW {i:Nat}:g.side i=true↔i=g.j\/i=g.mv\/∃q∈g.ins,q.1=i:=by
 unfold Gh.side;cases B:Nat.beq i g.j with
 |true=>exact⟨λ_=>.inl (DP B),λ_=>rfl⟩
 |false=>
  have n1:i≠g.j:=λe=>by rw[e,Nat.beq_refl]at B;cases B
  cases y:Nat.beq i g.mv with
  |true=>exact⟨λ_=>.inr (.inl (DP y)),λ_=>rfl⟩
  |false=>
   have C:i≠g.mv:=λe=>by rw[e,Nat.beq_refl]at y;cases y
   rw[cond_false,cond_false,tu];exact⟨λh=>.inr (.inr h),λh=>(h.resolve_left n1).resolve_left C⟩
theorem tA {i:Nat} {o:Oper} (h:g.side i=true) (q:i≠g.lk):(G6 g i o).dst=none/\(G6 g i o).op=.move (.const g.val):=by
 unfold G6;have:Nat.beq i g.lk=false:=by
  cases y:Nat.beq i g.lk with
  |false=>rfl
  |true=>exact absurd (DP y) q
 rw[this,h];exact⟨rfl,rfl⟩
theorem sy {o:Oper}:(G6 g g.lk o).dst=o.dst/\(G6 g g.lk o).op=.move (.const g.val):=by unfold G6;rw[Nat.beq_refl];exact⟨rfl,rfl⟩
theorem YC {i:Nat} {o:Oper} (h:g.side i=false) (q:i≠g.lk):G6 g i o=o:=by
 unfold G6;have:Nat.beq i g.lk=false:=by
  cases y:Nat.beq i g.lk with
  |false=>rfl
  |true=>exact absurd (DP y) q
 rw[this,h];rfl
theorem Abv {ρ:Ai} {a:Act} (hv:ofValue g.val=some vAV):VR ρ vAV (a.eval (.const g.val)):=TR.xr (T:=.leaf) (ρ:=ρ) (a:=a) (λt a h=>by rw[Tr.EK]at h;cases h) (.const g.val) vAV hv
theorem Vs {a:Act} {d:Tmp} {u:Value} (h:a.tmps[d]? =some u):a.eval (.tmp d)=u:=by simp[Act.eval,h]
theorem S2 (ok:Ex t P call (DT g R) s) {i:Nat} {o:Oper} (B:R[i]? =some o):i<(DT g R).size/\t.oo i=G6 g i o:=by
 have y:(DT g R)[i]? =some (G6 g i o):=by rw[jL,B];rfl
 have q:i<(DT g R).size:=(Array.getElem?_eq_some_iff.1 y).1;have:=ok.Zi i q;rw[y]at this;exact⟨q,(Option.some.inj this).symm⟩
theorem Aga (ok:Ex t P call (DT g R) s) (E:Rz P g R kAV vAV) {i:Nat} (hi:i<(DT g R).size):(t.oo i).dst≠some g.d/\(t.oo i).dst≠some g.e:=by
 have y:i<R.size:=by rw[Ql]at hi;exact hi
 obtain⟨_,L⟩:=S2 ok (Array.getElem?_eq_getElem y);obtain⟨M,g2⟩:=E.gd i _ (Array.getElem?_eq_getElem y);rw[L];cases B:g.side i with
 |true=>
  obtain⟨_,_,_,_,_,q⟩:=E.lk;have C:i≠g.lk:=λe=>by rw[<-e,B]at q;cases q
  rw[(tA B C).1];exact⟨by simp,by simp⟩
 |false=>
  obtain⟨K,J⟩:=g2 B;by_cases C:i=g.lk
  ·subst C;rw[sy.1];exact⟨K,J⟩
  ·rw[YC B C];exact⟨K,J⟩
theorem Akf (ok:Ex t P call (DT g R) s) (J:Rz P g R kAV vAV) {listed:Array Bool} {a:Act} {w:World} {ρ:Ai} {c i:Nat} {o:Oper} (B:Dn t (DT g R) s E F ρ0 rr listed a w ρ c) (L:R[i]? =some o) (K:g.side i=true) (M:¬Ls listed i) (q:∀j,t.Cp i j->Ls listed j):Dn t (DT g R) s E F ρ0 rr (listed.setIfInBounds i true) a w ρ c:=by
 obtain⟨hi,y⟩:=S2 ok L;obtain⟨_,_,_,_,_,C⟩:=J.lk;have W:i≠g.lk:=λe=>by rw[<-e,K]at C;cases C
 obtain⟨Z,Y⟩:=tA (o:=o) K W;obtain⟨V,U,S,O⟩:=wh ok B hi M q (by rw[y];exact Y) (by rw[y,sx];exact(J.gd i o L).1) J.val.1;have:=cJ ok B hi M q V U S (u:=a.eval (.const g.val)) (by rw[O];exact Abv J.val.1);rw[y,Z]at this;exact this
theorem Ac5 (aD:Lb P call) (ok:Ex t P call (DT g R) s) (hg:Rz P g R kAV vAV) (aN:∀b o,E.base b=some o->F b=some o) (aY:t.v g.kx=kAV) (ba:s.T.get g.d=none) (a9:s.T.get g.e=none) (a6:g.d<s.N) (a4:g.e<s.N) (hP:∀listed a w ρ c i v H' nx',i<R.size->t.k i=.AB v H' nx'->(∀j,t.Cp i j->Ls listed j)->∀u S w',RX s.nx nx' ρ0 S->Rel E F nx' S H'.get w'->VR S v u->Dn t (DT g R) s E F ρ0 rr listed a w ρ c->ρ.le S->Q (.panic (fresh u)) a w') {listed:Array Bool} {a:Act} {w:World} {ρ:Ai} {c i:Nat} (aT:UJ t P g kAV vAV R s E F ρ0 rr listed a w ρ c) {o:Oper} (ho:R[i]? =some o) (hL:¬Ls listed i) (he:∀e∈o.after,Region.binds .any e=true->Ls listed e.on) {K:Act->World->Prop} (hK:∀S c' a' w',UJ t P g kAV vAV R s E F ρ0 rr (listed.setIfInBounds i true) a' w' S c'->K a' w'):wpOpIn (FW ro) 0 P R Q i K a w:=by
 obtain⟨⟨E',F',B,V,ai⟩,ar,aJ,au⟩:=aT;obtain⟨hi,ag⟩:=S2 ok ho;have hR:i<R.size:=by rw[Ql]at hi;exact hi
 have aE:i<listed.size:=by rw[V.size];exact hi
 have C:=λj=>UL (listed:=listed) (j:=j) aE;have ad:∀j,t.Cp i j->Ls listed j:=λj hj=>by
  obtain⟨bd,e,az,hb,aq⟩:=ok.Cp i j hi hj;rw[ag,SB]at az;have aH:Ls listed e.on:=he e az hb;rcases aq with rfl|aq
  ·exact aH
  ·have:e.on<i:=ok.Lg i e hi (by rw[ag,SB];exact az) hb;exact V.down e.on j (by omega) aH aq
 have hE:∀j,KG o j=true->Ls listed j:=λj h=>by obtain⟨e,h1,h2,rfl⟩:=jW h;exact he e h1 h2
 obtain⟨aw,aS⟩:=hg.gd i o ho;have aB:Region.wanted o (yielded R a.tmps)=true:=z2 aw;have aL:=λk (W:k<(DT g R).size)=>Aga ok hg W;unfold wpOpIn;rw[ho];simp only[aB,if_true];cases hs:g.side i with
 |true=>
  have ds:=Akf ok hg V ho hs hL ad;rcases bW.1 hs with rfl|rfl|⟨q,Z,rfl⟩
  ·-- bc map is made
   have U:=hg.mt o ho;obtain⟨o1,L,M,_⟩:=hg.made;rw[ho]at L;injection L with L;subst L;obtain⟨n,o0,hn,AA⟩:=hg.ok;rw[<-U]at hn;obtain⟨u,w1,ao,cap,h4,h5,h6,h7⟩:=iX (P:=P) (ρ:=⟨λ_=>none,λ_=>none⟩) (w:=w) (f:=a.eval) (λx a h=>by cases h) (ni:=0) rfl o hn;have h6:OR (KY w.heap.size cap) ⟨w.heap.size,0,cap⟩ o0 ao:=h6;have h7:VR (KY w.heap.size cap) (.map 0) u:=h7;have hu:u=.map (some w.heap.size):=by
    cases h7 with
    |map _ b hb=>obtain⟨_,rfl⟩:=Uk hb;rfl
   subst hu;have ab:¬Ls listed g.mv:=λh=>hL (ar h);have al:∀q∈g.ins,¬Ls listed q.1:=λq Z h=>hL (aJ q Z h);obtain⟨r1,r2,r3,r4⟩:=AgD ds.rel (c:=ao) h5;refine Ge (by rw[U];simp) (.inl h4) (hK ρ c _ _ ⟨⟨rm E' w.heap.size,_,?_,Dn.re ds r1 (λk d W hl hd=>Ha ?_) (λd x J=>Ha ?_) (by rw[M];simp[Act.put]) (by rw[M];rfl),λ_=>?_⟩,λ_=>(C _).2 (.inl rfl),λ_ _ _=>(C _).2 (.inl rfl),λh=>absurd (((C _).1 h).resolve_left λe=>(by obtain⟨_,_,_,_,_,O,_⟩:=hg.mv;exact O e)) ab⟩)
   ·exact⟨B.t,B.o,B.p,B.b,λk W=>by
     have W:(if k=w.heap.size then false else E'.fs k)=true:=W;split at W
     ·cases W
     ·exact B.f k W,λk x W=>by
     have:=B.F k x W;have O:k≠w.heap.size:=λe=>by rw[e,r2]at this;cases this
     show(if k=w.heap.size then some ao else F' k)=_;rw[Ad O];exact this⟩
   ·rw[M];intro e;injection e with e;exact(aL k W).1 (by rw[hd,e])
   ·rw[M];intro e;injection e with e;rw[<-e,ba]at J;cases J
   ·refine⟨w.heap.size,cap,o0,ao,n,?_,r3,Am rfl,Am rfl,h6,?_,λh=>?_,?_⟩
    ·cases hF:F w.heap.size with
     |none=>rfl
     |some x=>have:=B.F _ _ hF;rw[r2]at this;cases this
    ·rw[M];simp[Act.put,V.sz,a6]
    ·rcases(C _).1 h with e|h
     ·obtain⟨_,_,_,_,_,O,_⟩:=hg.mv;exact absurd e O
     ·exact absurd h ab
    ·rw[nG (λq Z e=>by obtain⟨_,_,_,_,_,O,_⟩:=hg.ins q Z;exact O e),Ak6 al];exact AA
  ·-- it is bb
   obtain⟨o1,L,M,U,ay,O,aR⟩:=hg.mv;rw[ho]at L;injection L with L;subst L;have hj:=hE _ ay;obtain⟨b,cap,oo,cc,n,e0,e1,e2,e3,e4,e5,e6,Y⟩:=ai hj;have h4:(execOp a.eval o).run P w=.ok (.value (.map (some b))) w:=by have:=Vs e5;obtain⟨dst,op,type,pos,after,guard⟩:=o;simp only at U;subst U;simp[execOp,this]
   refine Ge (by rw[U];simp) (.inl h4) (hK ρ c _ _ ⟨⟨E',F',B,Dn.re ds ds.rel (λk d W hl hd=>Ha ?_) (λd x J=>Ha ?_) (by rw[M];simp[Act.put]) (by rw[M];rfl),λ_=>⟨b,cap,oo,cc,n,e0,e1,e2,e3,e4,?_,λ_=>?_,?_⟩⟩,λ_=>(C _).2 (.inr hj),λq Z h=>(C _).2 (.inr hj),λ_ q Z=>(C _).2 (.inr (hE _ (aR q Z)))⟩)
   ·rw[M];intro e;injection e with e;exact(aL k W).2 (by rw[hd,e])
   ·rw[M];intro e;injection e with e;rw[<-e,a9]at J;cases J
   ·rw[Ha (by rw[M];intro e;injection e with e;exact hg.de e.symm)];exact e5
   ·rw[M];simp[Act.put,V.sz,a4]
   ·rw[nG (λq Z e=>by obtain⟨_,_,_,_,_,_,O⟩:=hg.ins q Z;exact O e)];exact Y
  ·-- an entry
   obtain⟨o1,L,M,U,ay,aF,ab⟩:=hg.ins q Z;rw[ho]at L;injection L with L;subst L;have hj:=hE _ ay;obtain⟨b,cap,oo,cc,n,e0,e1,e2,e3,e4,e5,e6,Y⟩:=ai hj;have aj:q∈JO listed g.ins:=by unfold JO;rw[List.mem_filter];refine⟨Z,?_⟩;unfold Ls at hL;simpa using hL
   have aC:∃n' k v H' o',B6 .leaf q.2.2.1=some k/\B6 .leaf q.2.2.2=some v/\Sq P (Tr.leaf.set 0 oo) q.2.1 (.map 0) k v=some H'/\H'.get 0=some o'/\Sz P g kAV vAV n' (Sd q.1 (JO listed g.ins)) o'=true:=by
    generalize JO listed g.ins=td at Y aj;have O:td.isEmpty=false:=by cases td with
     |nil=>cases aj
     |cons _ _=>rfl
    cases n with
    |zero=>have Y:cond td.isEmpty _ false=true:=Y;rw[O]at Y;cases Y
    |succ n=>
     have Y:cond td.isEmpty _ (FA _ td)=true:=Y;rw[O,cond_false]at Y;have:=JX Y q aj;cases J:(ob (B6 .leaf q.2.2.1) λk=>ob (B6 .leaf q.2.2.2) λv=>ob (Sq P (Tr.leaf.set 0 oo) q.2.1 (.map 0) k v) λH=>H.get 0)with
     |none=>rw[J]at this;cases this
     |some o'=>rw[J]at this;obtain⟨k,h1,J⟩:=Ag.1 J;obtain⟨v,h2,J⟩:=Ag.1 J;obtain⟨H',h3,J⟩:=Ag.1 J;exact⟨n,k,v,H',o',h1,h2,h3,J,this⟩
   obtain⟨n',k,v,H',o',s1,s2,s3,s4,s5⟩:=aC;have aA:w.heap[b]? =some cc:=V.rel.fr b cc e3;have xr:XR (KY b cap) (B6 .leaf) a.eval:=TR.xr (λt a h=>by rw[Tr.EK]at h;cases h);obtain⟨w',h6,h7⟩:=iU (P:=P) (xF aA e4) (t:=q.2.1) (m:=.map 0) (um:=.map (some b)) (.map 0 ⟨b,0,cap⟩ rfl) (xr _ _ s1) (xr _ _ s2) s3;obtain⟨c',a7,aP⟩:=h7.ob 0 o' ⟨b,0,cap⟩ s4 rfl;have ah:a.eval (.tmp g.d)=.map (some b):=Vs e5;have h4:(execOp a.eval o).run P w=.ok .skip w':=by obtain⟨dst,op,type,pos,after,guard⟩:=o;simp only at U;subst U;simp[execOp,ah,h6]
   have aO:a.put o.dst undef=a:=by rw[M];rfl
   refine Ge (by rw[U];simp) (.inr ⟨h4,rfl⟩) (hK ρ c _ _ ?_);rw[aO];refine⟨⟨E',_,?_,Dn.re ds (AgE ds.rel e3 e1 e2 h7.tape h7.os h7.output a7 λk x W J=>h7.fr k x (by unfold jF;rw[Ad W];exact J)) (λ_ _ _ _ _=>rfl) (λ_ _ _=>rfl) rfl rfl,λ_=>⟨b,cap,o',c',n',e0,e1,e2,Am rfl,aP,e5,λh=>e6 (((C _).1 h).resolve_left λe=>ab e.symm),?_⟩⟩,λh=>(C _).2 (.inr hj),λ_ _ _=>(C _).2 (.inr hj),λh q' aV=>(C _).2 (.inr (au (((C _).1 h).resolve_left λe=>ab e.symm) q' aV))⟩
   ·refine⟨B.t,B.o,B.p,B.b,B.f,λk x W=>?_⟩;have:=B.F k x W;have O:k≠b:=λe=>by subst e;rw[e0]at W;cases W
    show(if k=b then some c' else F' k)=_;rw[Ad O];exact this
   ·rw[zA aE];exact s5
 |false=>
  obtain⟨M,aM⟩:=aS hs;have aF:i≠g.j:=λe=>by rw[bW.2 (.inl e)]at hs;cases hs
  have ab:i≠g.mv:=λe=>by rw[bW.2 (.inr (.inl e))]at hs;cases hs
  have al:∀q∈g.ins,q.1≠i:=λq Z e=>by rw[bW.2 (.inr (.inr ⟨q,Z,e⟩))]at hs;cases hs
  have ae:∀j,j≠i->Ls (listed.setIfInBounds i true) j->Ls listed j:=λj hj h=>((C j).1 h).resolve_left hj;have ak:∀ {a':Act} {E1:Env} {F1:Nat->Option Obj},GV P g kAV vAV F listed a E1 F1->a'.tmps[g.d]? =a.tmps[g.d]?->a'.tmps[g.e]? =a.tmps[g.e]?->GV P g kAV vAV F (listed.setIfInBounds i true) a' E1 F1:=λh k1 k2=>by obtain⟨b,cap,oo,cc,n,e0,e1,e2,e3,e4,e5,e6,Y⟩:=h;exact⟨b,cap,oo,cc,n,e0,e1,e2,e3,e4,k1.trans e5,λh=>k2.trans (e6 (ae _ ab.symm h)),by rw[nG al];exact Y⟩
  have mj:Ls (listed.setIfInBounds i true) g.mv->Ls (listed.setIfInBounds i true) g.j:=λh=>(C _).2 (.inr (ar (ae _ ab.symm h)));have ij:∀q∈g.ins,Ls (listed.setIfInBounds i true) q.1->Ls (listed.setIfInBounds i true) g.j:=λq Z h=>(C _).2 (.inr (aJ q Z (ae _ (al q Z) h)));have mi:Ls (listed.setIfInBounds i true) g.mv->∀q∈g.ins,Ls (listed.setIfInBounds i true) q.1:=λh q Z=>(C _).2 (.inr (au (ae _ ab.symm h) q Z));by_cases aG:i=g.lk
  ·-- it is looked at
   subst aG;obtain⟨o1,L,U,a3,aK,_⟩:=hg.lk;rw[ho]at L;injection L with L;subst L;have hm:=hE _ a3;have hj:=ar hm;obtain⟨b,cap,oo,cc,n,e0,e1,e2,e3,e4,e5,e6,Y⟩:=ai hj;rw[Ak5 λq Z=>au hm q Z]at Y;have Y:Option.rec (motive:=λ_=>Bool) false (λa=>Cw a vAV) (Ds P (Tr.leaf.set 0 oo) (Vz g kAV) (.lookup g.lt (.tmp g.e) (.tmp g.key) false))=true:=by cases n<;>exact Y
   obtain⟨ox,aW,a5,aU⟩:=hg.kx;obtain⟨a2,aQ⟩:=S2 ok aW;have aX:g.kx≠g.lk:=λe=>by obtain⟨ed,h1,h2,h3⟩:=jW aK;have:=ok.Lg g.lk ed hi (by rw[ag,SB];exact h1) h2;omega
   obtain⟨uk,aZ,aI⟩:=V.PG g.kx g.key a2 (hE _ aK) (by rw[aQ,YC aU aX];exact a5);rw[aY]at aI;cases ah:Ds P (Tr.leaf.set 0 oo) (Vz g kAV) (.lookup g.lt (.tmp g.e) (.tmp g.key) false)with
   |none=>rw[ah]at Y;cases Y
   |some av=>
    rw[ah]at Y;have a8:=RQ _ _ Y;subst a8;have aA:w.heap[b]? =some cc:=V.rel.fr b cc e3;have hX:XR (KY b cap) (Vz g kAV) a.eval:=λx y J=>by
     cases x with
     |tmp d=>
      have J:cond (Nat.beq d g.e) (some (.map 0)) (cond (Nat.beq d g.d) (some (.map 0)) (cond (Nat.beq d g.key) (some kAV) none))=some y:=J;cases b1:Nat.beq d g.e with
      |true=>rw[b1]at J;injection J with J;subst J;rw[DP b1,Vs (e6 hm)];exact .map 0 ⟨b,0,cap⟩ rfl
      |false=>
      rw[b1,cond_false]at J;cases b2:Nat.beq d g.d with
      |true=>rw[b2]at J;injection J with J;subst J;rw[DP b2,Vs e5];exact .map 0 ⟨b,0,cap⟩ rfl
      |false=>
      rw[b2,cond_false]at J;cases b3:Nat.beq d g.key with
      |true=>rw[b3]at J;injection J with J;subst J;rw[DP b3,Vs aZ];exact Alv hg.key aI
      |false=>rw[b3]at J;cases J
     |const v=>exact TR.xr (T:=.leaf) (ρ:=KY b cap) (a:=a) (λt a h=>by rw[Tr.EK]at h;cases h) (.const v) y J
     |func f=>exact TR.xr (T:=.leaf) (ρ:=KY b cap) (a:=a) (λt a h=>by rw[Tr.EK]at h;cases h) (.func f) y J
     |global f=>exact TR.xr (T:=.leaf) (ρ:=KY b cap) (a:=a) (λt a h=>by rw[Tr.EK]at h;cases h) (.global f) y J
    rw[<-U]at ah;obtain⟨z,h4,h5⟩:=iZ (xF aA e4) (HS.refl _ _) hX o ah;obtain⟨l1,l2⟩:=sy (g:=g) (o:=o);obtain⟨p1,p2,p3,p4⟩:=wh ok V hi hL ad (by rw[ag];exact l2) (by rw[ag,sx];exact aw) hg.val.1;obtain⟨_,k,nn,hint⟩:=hg.val;have ds:=cJ ok V hi hL ad p1 p2 p3 (u:=z) (by rw[p4,hint];rw[hint]at h5;exact Alu h5);rw[ag,l1]at ds;refine Ge (by rw[U];simp) (.inl h4) (hK ρ c _ _ ⟨⟨E',F',B,ds,λ_=>ak (ai hj) (Ha M) (Ha aM)⟩,mj,ij,mi⟩)
  ·-- any other one
   have af:(DT g R)[i]? =some o:=by rw[jL,ho];exact congrArg some (YC hs aG)
   have h1:=y3 (ro:=ro) (Q:=Q) aD ok V hi hL ad (K:=λa' w'=>∃S c',Dn t (DT g R) s E' F' ρ0 rr (listed.setIfInBounds i true) a' w' S c') (λS c' a' w' h=>⟨S,c',h⟩) λv H' nx' W u S w' h3 h4 h5 h6 h7=>hP listed a w ρ c i v H' nx' hR W ad u S w' h3 (B.rel aN h4) h5 (Dn.re h6 (B.rel aN h6.rel) (λ_ _ _ _ _=>rfl) (λ_ _ _=>rfl) rfl rfl) h7;have h2:=z6 (d:=g.d) (λo' aa=>by rw[af]at aa;injection aa with aa;subst aa;exact M) h1;have h3:=z6 (d:=g.e) (λo' aa=>by rw[af]at aa;injection aa with aa;subst aa;exact aM) h2;unfold wpOpIn at h3;rw[af]at h3;simp only[z2 aw,if_true]at h3;refine Oper.wpIn_mono (λa' w' h=>?_) h3;obtain⟨⟨⟨S,c',hd⟩,k1⟩,k2⟩:=h;exact hK S c' a' w' ⟨⟨E',F',B,hd,λh=>ak (ai (ae _ aF.symm h)) k1 k2⟩,mj,ij,mi⟩
end
section
variable {t:BU} {P:Program} {call:D7} {R:Array Oper} {s:St} {g:Gh} {kAV vAV:AV}
variable {E:Env} {F:Nat->Option Obj} {ρ0:Ai} {ro rr:Option Nat} {Q:Exit->Act->World->Prop}
theorem Agz {listed:Array Bool} {i:Nat}:i∈Region.ready .any (DT g R) listed↔i∈Region.ready .any R listed:=by
 rw[mem_ready,mem_ready,jL];constructor
 ·rintro⟨B,o,q,y⟩;cases E:R[i]? with
  |none=>rw[E]at q;cases q
  |some C=>rw[E]at q;have q:some (G6 g i C)=some o:=q;injection q with q;subst q;rw[SB]at y;exact⟨B,C,rfl,y⟩
 ·rintro⟨B,o,q,y⟩;exact⟨B,G6 g i o,by rw[q];rfl,by rw[SB];exact y⟩
theorem tB (L:Lb P call) (ok:Ex t P call (DT g R) s) (hg:Rz P g R kAV vAV) (S:∀b o,E.base b=some o->F b=some o) (aa:t.v g.kx=kAV) (af:s.T.get g.d=none) (ae:s.T.get g.e=none) (ad:g.d<s.N) (ab:g.e<s.N) (hP:∀listed a w ρ c i v H' nx',i<R.size->t.k i=.AB v H' nx'->(∀j,t.Cp i j->Ls listed j)->∀u y w',RX s.nx nx' ρ0 y->Rel E F nx' y H'.get w'->VR y v u->Dn t (DT g R) s E F ρ0 rr listed a w ρ c->ρ.le y->Q (.panic (fresh u)) a w') (hQ:∀listed a w ρ c,Dn t (DT g R) s E F ρ0 rr listed a w ρ c->(∀i,i<R.size->Ls listed i)->Q .normal a w):∀(fuel:Nat) (listed:Array Bool) (a:Act) (w:World) (ρ:Ai) (c:Nat),UJ t P g kAV vAV R s E F ρ0 rr listed a w ρ c->Kk R.size listed<=fuel->wpAnyIn (FW ro) 0 P .any R Q fuel listed a w:=by
 have fin:∀ {listed:Array Bool} {a:Act} {w:World} {ρ:Ai} {c:Nat},UJ t P g kAV vAV R s E F ρ0 rr listed a w ρ c->Dn t (DT g R) s E F ρ0 rr listed a w ρ c:=λq=>by obtain⟨E',F',W,U,_⟩:=q.ex;exact Dn.re U (W.rel S U.rel) (λ_ _ _ _ _=>rfl) (λ_ _ _=>rfl) rfl rfl
 intro fuel
 induction fuel with
 |zero=>
  intro listed a w ρ c q hf;have J:∀i,i<R.size->listed.getD i true=true:=λi hi=>by
   have Z:Kk R.size listed=0:=by omega
   unfold Kk at Z;rw[List.countP_eq_zero]at Z;have:=Z i (List.mem_range.2 hi);simpa using this
  refine⟨?_,hQ listed a w ρ c (fin q) λi hi=>?_⟩
  ·rw[List.eq_nil_iff_forall_not_mem];intro i hi;rw[mem_ready]at hi;obtain⟨M,o,Y,_⟩:=hi;have C:i<R.size:=(Array.getElem?_eq_some_iff.1 Y).1;rw[J i C]at M;cases M
  ·unfold Ls;rw[<-Vy (by rw[(fin q).size,Ql];exact hi)];exact J i hi
 |succ fuel ih=>
  intro listed a w ρ c q hf;have B:=fin q;refine⟨λh=>hQ listed a w ρ c B λi hi=>oa ok B.size ?_ i (by rw[Ql];exact hi),λi hi=>?_⟩
  ·rw[List.eq_nil_iff_forall_not_mem]at h⊢;exactλj hj=>h j (Agz.1 hj)
  rw[mem_ready]at hi;obtain⟨M,o,Y,h2⟩:=hi;have C:i<R.size:=(Array.getElem?_eq_some_iff.1 Y).1;have K:i<listed.size:=by rw[B.size,Ql];exact C
  have hL:¬Ls listed i:=by unfold Ls;rw[<-Vy K,M];simp
  refine Ac5 L ok hg S aa af ae ad ab hP q Y hL h2 λy c' a' w' V=>ih _ a' w' y c' V ?_;have:Kk R.size (listed.setIfInBounds i true)<Kk R.size listed:=by
   unfold Kk;apply gG
   ·intro x hx hp;by_cases O:i=x
    ·subst O;simp[K]at hp
    ·rwa[getD_set_ne true O]at hp
   ·exact⟨i,List.mem_range.2 C,by simp[M],by simp[K]⟩
  omega
theorem tC (ok:Ex t P call (DT g R) s) {a:Act} {w:World} (y:SR E F ρ0 s a w rr):UJ t P g kAV vAV R s E F ρ0 rr (Array.replicate R.size false) a w.drew ρ0 0:=by
 have hn:∀i,¬Ls (Array.replicate R.size false) i:=λi=>by unfold Ls;by_cases h:i<R.size<;>simp[Array.getD,h]
 have:=gL ok y;rw[Ql]at this;exact⟨⟨E,F,⟨rfl,rfl,rfl,rfl,λ_ h=>h,λ_ _ h=>h⟩,this,λh=>absurd h (hn _)⟩,λh=>absurd h (hn _),λq _ h=>absurd h (hn _),λh=>absurd h (hn _)⟩
end
def ff (P:Program) (tb:D9) (ht:DX) (g:Gh) (kAV:AV) (ops:Array Oper) (s:St) (K:KX):Prop:=Bg (Vl (DT g ops)) λC=>fN (DT g ops).size λn=>fN (s.nx+n) λB=>XM P tb ht (DT g ops) s.N s.nx C (λy=>(fX P y s.nx s.H/\Al (match y.T.get g.key with
   |some a=>Cw a kAV
   |none=>false) True)/\
  (Option.rec (motive:=λ_=>Prop) (K .Bc ⟨s.N,y.T,MA y.news y.Ax n s.nx y.H,y.nx,s.ro,s.D⟩) (λq=>K (.AB q.v) ⟨s.N,Ky q.A (DT g ops).toList 0 y.T,q.H,q.nx,s.ro,s.D⟩) y.pn)) (DT g ops).toList 0 ⟨[],[],[],s.T,s.H,B,0,none⟩
theorem Aa9 {P:Program} (hm:P.follows .mixedOrders=true) {tb:D9} {ht:DX} (au:EY P tb) (aD:Gi P ht) {g:Gh} {kAV vAV:AV} {R:Array Oper} (hg:Rz P g R kAV vAV) {s:St} {K:KX} (aj:s.T.get g.d=none) (ai:s.T.get g.e=none) (ag:g.d<s.N) (af:g.e<s.N) (h:ff P tb ht g kAV R s K) {id:Nat} {E:Env} {F:Nat->Option Obj} {n0:Nat} {ρ0 ρ:Ai} {a:Act} {w:World} {ro:Option Nat} {Q:Exit->Act->World->Prop} (J:UK E F n0 ρ0 ro K Q) (hn:n0<=s.nx) (hk:Dp n0 ρ0 ρ) (hs:SR E F ρ s a w ro): (Code.region id R true).wpIn (FW ro) 0 P Q a w:=by
 obtain⟨AT,h1,h2⟩:=BM h;simp only[Bv]at h2;obtain⟨σ,h3,⟨h4,C⟩,h5⟩:=fg h2;obtain⟨t,ok,aI,en⟩:=AbP h1 h3 (pI h4);have S:=pW au aD (P:=P);have ad:t.v g.kx=kAV:=by
  obtain⟨C,_⟩:=EE.1 C;cases hT:σ.T.get g.key with
  |none=>rw[hT]at C;cases C
  |some x=>
   rw[hT]at C;have hx:=RQ _ _ C;subst hx;rw[<-en.T]at hT;obtain⟨ox,aw,aF,av⟩:=hg.kx;obtain⟨ae,ao⟩:=S2 ok aw;obtain⟨ol,ay,_,_,aE,_⟩:=hg.lk;obtain⟨aC,aq⟩:=S2 ok ay;have aA:g.kx≠g.lk:=λe=>by obtain⟨ed,L,V,U⟩:=jW aE;have:=ok.Lg g.lk ed aC (by rw[aq,SB];exact L) V;omega
   have hd:(t.oo g.kx).dst=some g.key:=by rw[ao,YC av aA];exact aF
   rcases PE ok _ g.key x (AM _) hT with⟨k,k1,k2,k3⟩|⟨k1,k2⟩
   ·have:=ok.dst k g.kx g.key k1 ae k2 hd;subst this;exact k3
   ·exact absurd hd (k1 g.kx ae)
 have W:=Ql g R;have ah:=hs.rel.bs;cases Y:σ.pn with
 |none=>
  rw[Y]at h5;obtain⟨az,hH⟩:=en.Bc Y;refine wpIn_region_any hm (tB S ok hg ah ad aj ai ag af (E:=E) (F:=F) (ρ0:=ρ) (rr:=ro) (λ_ _ _ _ _ i v H' nx' hi hk=>absurd ⟨v,H',nx',hk⟩ (az i (by rw[W];exact hi))) (λlisted a' w' M c y O=>?_) _ _ _ _ ρ 0 (tC ok hs) X8);have B:∀i,i<(DT g R).size->Ls listed i:=λi hi=>O i (by rw[W]at hi;exact hi);obtain⟨hG,ab⟩:=W2 ok (XU y.Gy) (AM _) λq J=>by rw[<-y.hc q J];exact⟨λ_=>J.1,λ_=>B q J.1⟩
  have aJ:∀q,t.hv (DT g R).size q->q<c:=λq J=>(y.hc q J).1 (B q J.1);have aa:s.nx<=σ.nx:=by have:=y.nn;rw[<-en.nx,<-ab];omega
  refine J .Bc _ M a' w' h5 (G3 hn aa) (hk.trans (Dp.M6 ⟨y.le,y.lo,aa⟩ hn)) ⟨?_,?_,y.sz,y.dr,y.rr⟩
  ·show Rel E F σ.nx M (MA σ.news σ.Ax (DT g R).size s.nx σ.H).get w';rw[<-en.nx,<-ab];refine y.rel.less λx o hx=>?_;rcases hH x o hx with⟨j,L,V,U,rfl⟩|h
   ·exact MV ⟨L,B j L,λq J _=>U q J J.1⟩ V
   ·rw[<-hG]at h;refine VB h λj o' e hp hj=>?_;subst e;rw[Vw ok y hp hj]at h;cases h
  ·intro d b hb;have hb:σ.T.get d=some b:=hb;rw[<-en.T]at hb;rcases PE ok _ d b (AM _) hb with⟨k,L,V,U⟩|⟨L,V⟩
   ·subst U;exact y.PG k d L (B k L) V
   ·exact y.Ri d b (λi hi _=>L i hi) V
 |some q=>
  rw[Y]at h5;obtain⟨hp,an,ar,hT⟩:=en.AB q Y;refine wpIn_region_any hm (tB S ok hg ah ad aj ai ag af (E:=E) (F:=F) (ρ0:=ρ) (rr:=ro) (λlisted a' w1 aH c i v' aG nx' hi aB al u M w' hx ak hv y Z=>?_) (λlisted a' w' M c y O=>absurd an (y.np q.p (O q.p (by rw[<-W];exact hp)))) _ _ _ _ ρ 0 (tC ok hs) X8);obtain⟨rfl,rfl,rfl,rfl⟩:=ar i v' aG nx' (by rw[W];exact hi) aB;refine J (.AB q.v) _ M a' w' h5 (G3 hn hx.nn) (hk.trans (Dp.M6 hx hn)) ⟨ak,?_,y.sz,y.dr.mono Z,y.rr.mono Z⟩ u hv;intro d b hb;obtain⟨L,V⟩:=hT d b hb;rcases PE ok _ d b (AM _) L with⟨k,U,e4,e5⟩|⟨U,e4⟩
  ·subst e5;obtain⟨z,e6,e7⟩:=y.PG k d U (al k (V k U e4)) e4;exact⟨z,e6,e7.mono Z⟩
  ·obtain⟨z,e6,e7⟩:=y.Ri d b (λi hi _=>U i hi) e4;exact⟨z,e6,e7.mono Z⟩
def Y9 (l:List Oper):Nat->Option (Nat×Tmp×TypeId):=List.rec (motive:=λ_=>Nat->Option (Nat×Tmp×TypeId)) (λ_=>none) (λo _ q i=>match o.op,o.dst with
  |.makeMap t none,some d=>some (i,d,t)
  |_,_=>fN (i+1) q) l
def Qq (d:Tmp) (l:List Oper):Nat->List (Nat×TypeId×Operand×Operand):=List.rec (motive:=λ_=>Nat->List (Nat×TypeId×Operand×Operand)) (λ_=>[]) (λo _ q i=>match o.op with
  |.insert t (.tmp y) k v=>cond (Nat.beq y d) ((i,t,k,v)::fN (i+1) q) (fN (i+1) q)
  |_=>fN (i+1) q) l
def V2 (d:Tmp) (l:List Oper):Nat->Option (Nat×Tmp):=List.rec (motive:=λ_=>Nat->Option (Nat×Tmp)) (λ_=>none) (λo _ q i=>match o.op,o.dst with
  |.move (.tmp y),some e=>cond (Nat.beq y d) (some (i,e)) (fN (i+1) q)
  |_,_=>fN (i+1) q) l
def VY (e:Tmp) (l:List Oper):Nat->Option (Nat×TypeId×Tmp):=List.rec (motive:=λ_=>Nat->Option (Nat×TypeId×Tmp)) (λ_=>none) (λo _ q i=>match o.op with
  |.lookup t (.tmp y) (.tmp k) false=>cond (Nat.beq y e) (some (i,t,k)) (fN (i+1) q)
  |_=>fN (i+1) q) l
def VV (k:Tmp) (l:List Oper):Nat->Option (Nat×Op):=List.rec (motive:=λ_=>Nat->Option (Nat×Op)) (λ_=>none) (λo _ q i=>match o.dst with
  |some d=>cond (Nat.beq d k) (some (i,o.op)) (fN (i+1) q)
  |none=>fN (i+1) q) l
theorem vZ {j:Nat} {d:Tmp} {t:TypeId}:∀(l:List Oper) (p:Nat),Y9 l p=some (j,d,t)->∃o,p<=j/\l[j-p]? =some o/\o.dst=some d/\o.op=.makeMap t none
 | [],p,h=>by cases h
 |o::l,p,h=>by
  have next:fN (p+1) (Y9 l)=some (j,d,t)->∃x,p<=j/\(o::l)[j-p]? =some x/\x.dst=some d/\x.op=.makeMap t none:=λh=>by rw[Bv]at h;obtain⟨x,B,y,q⟩:=vZ l (p+1) h;exact⟨x,by omega,by rw[show j-p=(j-(p+1))+1 by omega,List.getElem?_cons_succ];exact y,q⟩
  have h:(match o.op,o.dst with
   |.makeMap t none,some d=>some (p,d,t)
   |_,_=>fN (p+1) (Y9 l))=some (j,d,t):=h
  split at h
  ·rename_i E C;injection h with h;injection h with B h;injection h with y q;subst B;subst y;subst q;exact⟨o,AM _,by simp,C,E⟩
  ·exact next h
theorem tv {d:Tmp} {q:Nat×TypeId×Operand×Operand}:∀(l:List Oper) (p:Nat),q∈Qq d l p->∃o,p<=q.1/\l[q.1-p]? =some o/\o.op=.insert q.2.1 (.tmp d) q.2.2.1 q.2.2.2
 | [],p,h=>by cases h
 |o::l,p,h=>by
  have next:q∈fN (p+1) (Qq d l)->∃x,p<=q.1/\(o::l)[q.1-p]? =some x/\x.op=.insert q.2.1 (.tmp d) q.2.2.1 q.2.2.2:=λh=>by rw[Bv]at h;obtain⟨x,K,E,C⟩:=tv l (p+1) h;exact⟨x,by omega,by rw[show q.1-p=(q.1-(p+1))+1 by omega,List.getElem?_cons_succ];exact E,C⟩
  have h:q∈(match o.op with
   |.insert t (.tmp B) k v=>cond (Nat.beq B d) ((p,t,k,v)::fN (p+1) (Qq d l)) (fN (p+1) (Qq d l))
   |_=>fN (p+1) (Qq d l)):=h
  split at h
  ·rename_i t B k v J;cases y:Nat.beq B d with
   |false=>rw[y]at h;exact next h
   |true=>
    rw[y]at h;rcases CS.1 h with rfl|h
    ·exact⟨o,AM _,by simp,by rw[J,DP y]⟩
    ·exact next h
  ·exact next h
theorem ve {j:Nat} {d e:Tmp}:∀(l:List Oper) (p:Nat),V2 d l p=some (j,e)->∃o,p<=j/\l[j-p]? =some o/\o.dst=some e/\o.op=.move (.tmp d)
 | [],p,h=>by cases h
 |o::l,p,h=>by
  have next:fN (p+1) (V2 d l)=some (j,e)->∃x,p<=j/\(o::l)[j-p]? =some x/\x.dst=some e/\x.op=.move (.tmp d):=λh=>by rw[Bv]at h;obtain⟨x,C,y,E⟩:=ve l (p+1) h;exact⟨x,by omega,by rw[show j-p=(j-(p+1))+1 by omega,List.getElem?_cons_succ];exact y,E⟩
  have h:(match o.op,o.dst with
   |.move (.tmp B),some e=>cond (Nat.beq B d) (some (p,e)) (fN (p+1) (V2 d l))
   |_,_=>fN (p+1) (V2 d l))=some (j,e):=h
  split at h
  ·rename_i B L K J;cases q:Nat.beq B d with
   |false=>rw[q]at h;exact next h
   |true=>rw[q]at h;injection h with h;injection h with C y;subst C;subst y;exact⟨o,AM _,by simp,J,by rw[K,DP q]⟩
  ·exact next h
theorem uz {j:Nat} {e k:Tmp} {t:TypeId}:∀(l:List Oper) (p:Nat),VY e l p=some (j,t,k)->∃o,p<=j/\l[j-p]? =some o/\o.op=.lookup t (.tmp e) (.tmp k) false
 | [],p,h=>by cases h
 |o::l,p,h=>by
  have next:fN (p+1) (VY e l)=some (j,t,k)->∃x,p<=j/\(o::l)[j-p]? =some x/\x.op=.lookup t (.tmp e) (.tmp k) false:=λh=>by rw[Bv]at h;obtain⟨x,E,B,y⟩:=uz l (p+1) h;exact⟨x,by omega,by rw[show j-p=(j-(p+1))+1 by omega,List.getElem?_cons_succ];exact B,y⟩
  have h:(match o.op with
   |.lookup t (.tmp C) (.tmp k) false=>cond (Nat.beq C e) (some (p,t,k)) (fN (p+1) (VY e l))
   |_=>fN (p+1) (VY e l))=some (j,t,k):=h
  split at h
  ·rename_i K C L J;cases q:Nat.beq C e with
   |false=>rw[q]at h;exact next h
   |true=>rw[q]at h;injection h with h;injection h with E h;injection h with B y;subst E;subst B;subst y;exact⟨o,AM _,by simp,by rw[J,DP q]⟩
  ·exact next h
theorem ue {j:Nat} {k:Tmp} {op:Op}:∀(l:List Oper) (p:Nat),VV k l p=some (j,op)->∃o,p<=j/\l[j-p]? =some o/\o.dst=some k
 | [],p,h=>by cases h
 |o::l,p,h=>by
  have next:fN (p+1) (VV k l)=some (j,op)->∃x,p<=j/\(o::l)[j-p]? =some x/\x.dst=some k:=λh=>by rw[Bv]at h;obtain⟨x,B,y,C⟩:=ue l (p+1) h;exact⟨x,by omega,by rw[show j-p=(j-(p+1))+1 by omega,List.getElem?_cons_succ];exact y,C⟩
  have h:(match o.dst with
   |some d=>cond (Nat.beq d k) (some (p,o.op)) (fN (p+1) (VV k l))
   |none=>fN (p+1) (VV k l))=some (j,op):=h
  split at h
  ·rename_i d E;cases q:Nat.beq d k with
   |false=>rw[q]at h;exact next h
   |true=>rw[q]at h;injection h with h;injection h with B y;subst B;exact⟨o,AM _,by simp,by rw[E,DP q]⟩
  ·exact next h
def cb (P:Program) (g:Gh) (kAV:AV):Option AV:=ob (ofValue g.val) λv=>match v with
  |.int _ _=>ob (EJ P (λ_=>none) 0 (.makeMap g.t none)) λp=>match p.1 with
   |.map 0=>cond (Sz P g kAV v g.ins.length g.ins p.2) (some v) none
   |_=>none
  |_=>none
def ca (P:Program) (mk:Value->Gh) (kAV:AV) (l:List (Nat×TypeId×Operand×Operand)):Option (Gh×AV):=List.rec (motive:=λ_=>Option (Gh×AV)) none (λq _ y=>match q.2.2.2 with
  |.const v=>Option.rec (motive:=λ_=>Option (Gh×AV)) y (λa=>some (mk v,a)) (cb P (mk v) kAV)
  |_=>y) l
def jK (g:Gh) (l:List Oper):Nat->Bool:=List.rec (motive:=λ_=>Nat->Bool) (λ_=>true) (λo _ q i=>cond o.guard.isNone (cond (cond (g.side i) true (match o.dst with
  |none=>true
  |some d=>cond (Nat.beq d g.d) false (cond (Nat.beq d g.e) false true))) (fN (i+1) q) false) false) l
theorem sq {g:Gh}:∀(l:List Oper) (p:Nat),jK g l p=true->∀i o,l[i]? =some o->o.guard=none/\(g.side (p+i)=false->o.dst≠some g.d/\o.dst≠some g.e)
 | [],p,h,i,o,hi=>by simp at hi
 |x::l,p,h,i,o,hi=>by
  have h:cond x.guard.isNone (cond (cond (g.side p) true (match x.dst with
   |none=>true
   |some d=>cond (Nat.beq d g.d) false (cond (Nat.beq d g.e) false true))) (fN (p+1) (jK g l)) false) false=true:=h
  obtain⟨E,h⟩:=Bf h;obtain⟨q,h⟩:=Bf h;rw[Bv]at h;cases i with
  |succ i=>rw[List.getElem?_cons_succ]at hi;have:=sq l (p+1) h i o hi;rw[show p+1+i=p+(i+1) by omega]at this;exact this
  |zero=>
   have hi:some x=some o:=hi;injection hi with hi;subst hi;refine⟨by simpa using E,λB=>?_⟩;have B:g.side p=false:=B;rw[B,cond_false]at q;cases hd:x.dst with
   |none=>exact⟨by simp,by simp⟩
   |some d=>
    rw[hd]at q;have q:cond (Nat.beq d g.d) false (cond (Nat.beq d g.e) false true)=true:=q;cases y:Nat.beq d g.d with
    |true=>rw[y]at q;cases q
    |false=>
    rw[y,cond_false]at q;cases C:Nat.beq d g.e with
    |true=>rw[C]at q;cases q
    |false=>exact⟨λe=>(by injection e with e;rw[e,Nat.beq_refl]at y;cases y),λe=>(by injection e with e;rw[e,Nat.beq_refl]at C;cases C)⟩
def Zl {α:Type} (o:Option α) (f:α->Bool):Bool:=Option.rec (motive:=λ_=>Bool) false f o
theorem kf {α:Type} {o:Option α} {f:α->Bool} (h:Zl o f=true):∃a,o=some a/\f a=true:=by
 cases o with
 |none=>cases h
 |some a=>exact⟨a,rfl,h⟩
def Ju (a b:Nat):Bool:=not (Nat.beq a b)
theorem M5 {a b:Nat} (h:Ju a b=true):a≠b:=λe=>by unfold Ju at h;rw[e,Nat.beq_refl]at h;cases h
def sr (g:Gh) (kAV:AV) (ops:Array Oper) (N:Nat):Bool:=cond (FA (λq=>Zl ops[q.1]? λo=>cond o.dst.isNone (cond (KG o g.j) (cond (Ju q.1 g.j) (Ju q.1 g.mv) false) false) false) g.ins) (cond (Zl ops[g.mv]? λo=>cond (KG o g.j) (FA (λq=>KG o q.1) g.ins) false) (cond (Ju g.mv g.j) (cond (Zl ops[g.lk]? λo=>cond (KG o g.mv) (KG o g.kx) false) (cond (not (g.side g.lk)) (cond (not (g.side g.kx)) (cond (jK g ops.toList 0) (cond (Ju g.d g.e) (cond (Ju g.key g.d) (cond (Ju g.key g.e) (cond (Yz kAV) (cond (Nat.blt g.d N) (Nat.blt g.e N) false) false) false) false) false) false) false) false) false) false) false) false
def ix (P:Program) (ops:Array Oper) (s:St):Option (Gh×AV×AV):=ob (Y9 ops.toList 0) λm=>ob (V2 m.2.1 ops.toList 0) λv=>ob (VY v.2 ops.toList 0) λl=>ob (VV l.2.2 ops.toList 0) λx=>ob (Ds P s.H (B6 s.T) x.2) λkAV=>
  ob (ca P (λc=>⟨m.1,m.2.1,m.2.2,Qq m.2.1 ops.toList 0,v.1,v.2,l.1,l.2.1,l.2.2,x.1,c⟩) kAV (Qq m.2.1 ops.toList 0)) λr=>cond (sr r.1 kAV ops s.N) (some (r.1,kAV,r.2)) none
theorem nO {P:Program} {mk:Value->Gh} {kAV:AV} {g:Gh} {a:AV}:∀ {l:List (Nat×TypeId×Operand×Operand)},ca P mk kAV l=some (g,a)->∃v,g=mk v/\cb P (mk v) kAV=some a
 | [],h=>by cases h
 |q::l,h=>by
  have h:(match q.2.2.2 with
   |.const v=>Option.rec (motive:=λ_=>Option (Gh×AV)) (ca P mk kAV l) (λa=>some (mk v,a)) (cb P (mk v) kAV)
   |_=>ca P mk kAV l)=some (g,a):=h
  split at h
  ·rename_i v _;cases hv:cb P (mk v) kAV with
   |none=>rw[hv]at h;exact nO h
   |some b=>rw[hv]at h;injection h with h;injection h with B y;subst B;subst y;exact⟨v,rfl,hv⟩
  ·exact nO h
theorem AcM {P:Program} {ops:Array Oper} {s:St} {g:Gh} {kAV vAV:AV} (h:ix P ops s=some (g,kAV,vAV)):Rz P g ops kAV vAV/\g.d<s.N/\g.e<s.N:=by
 obtain⟨m,hm,h⟩:=Ag.1 h;obtain⟨v,hv,h⟩:=Ag.1 h;obtain⟨l,hl,h⟩:=Ag.1 h;obtain⟨x,hx,h⟩:=Ag.1 h;obtain⟨S,E,h⟩:=Ag.1 h;obtain⟨r,hr,h⟩:=Ag.1 h;cases B:sr r.1 S ops s.N with
 |false=>rw[B]at h;cases h
 |true=>
 rw[B]at h;injection h with h;injection h with h1 h;injection h with h2 h3;subst h1;subst h2;subst h3;obtain⟨c,hc,y⟩:=nO (g:=r.1) (a:=r.2) hr;obtain⟨b1,B⟩:=Bf B;obtain⟨b2,B⟩:=Bf B;obtain⟨b3,B⟩:=Bf B;obtain⟨b4,B⟩:=Bf B;obtain⟨b5,B⟩:=Bf B;obtain⟨b6,B⟩:=Bf B;obtain⟨b7,B⟩:=Bf B;obtain⟨b8,B⟩:=Bf B;obtain⟨b9,B⟩:=Bf B;obtain⟨Z,B⟩:=Bf B;obtain⟨Y,B⟩:=Bf B;obtain⟨W,V⟩:=Bf B;generalize r.1=g at*;obtain⟨om,m1,R,m3,m4⟩:=vZ _ _ hm;obtain⟨ov,v1,v2,v3,v4⟩:=ve _ _ hv;obtain⟨ol,l1,l2,l3⟩:=uz _ _ hl;obtain⟨ox,x1,x2,x3⟩:=ue _ _ hx;rw[Nat.sub_zero,Array.getElem?_toList]at R v2 l2 x2;obtain⟨o4,M,q2⟩:=kf b4;obtain⟨o2,L,O⟩:=kf b2;subst hc;rw[l2]at M;injection M with M;subst M;rw[v2]at L;injection L with L;subst L;obtain⟨q5,q6⟩:=Bf q2;obtain⟨O,q7⟩:=Bf O;obtain⟨va,w1,y⟩:=Ag.1 y;have U:=sq _ _ b7;refine⟨⟨⟨om,R,m3,_,m4⟩,λq hq=>?_,⟨ov,v2,v3,v4,O,M5 b3,JX q7⟩,⟨ol,l2,l3,q5,q6,by simpa using b5⟩,⟨ox,x2,x3,by simpa using b6⟩,λi o J=>?_,M5 b8,⟨M5 b9,M5 Z⟩,Y,?_,?_,λo J=>?_⟩,by rwa[Co]at W,by rwa[Co]at V⟩
 ·obtain⟨oi,i1,i2,i3⟩:=tv _ _ hq;rw[Nat.sub_zero,Array.getElem?_toList]at i2;obtain⟨o5,C,K⟩:=kf (JX b1 q hq);rw[i2]at C;injection C with C;subst C;obtain⟨p3,K⟩:=Bf K;obtain⟨p4,K⟩:=Bf K;obtain⟨p5,p6⟩:=Bf K;exact⟨oi,i2,by simpa using p3,i3,p4,M5 p5,M5 p6⟩
 ·have:=U i o (by rw[Array.getElem?_toList];exact J);rwa[Nat.zero_add]at this
 ·split at y
  ·obtain⟨p,C,y⟩:=Ag.1 y;split at y
   ·rename_i k nn _ _ _;cases E:Sz P _ S _ _ _ p.2 with
    |false=>rw[E]at y;cases y
    |true=>rw[E]at y;injection y with y;exact⟨by rw[w1,<-y],_,_,y.symm⟩
   ·cases y
  ·cases y
 ·split at y
  ·obtain⟨p,C,y⟩:=Ag.1 y;split at y
   ·rename_i hp;cases E:Sz P _ S _ _ _ p.2 with
    |false=>rw[E]at y;cases y
    |true=>rw[E]at y;injection y with y;exact⟨_,p.2,by rw[C,<-hp],by rw[<-y];exact E⟩
   ·cases y
  ·cases y
 ·rw[R]at J;injection J with J;subst J;exact m4
def gI (g:Gh) (s:St):St:=⟨s.N,((s.T.del g.d).del g.e).del g.key,s.H,s.nx,s.ro,s.D⟩
def fe (P:Program) (tb:D9) (ht:DX) (ops:Array Oper) (s:St) (K:KX):Prop:=Option.rec (motive:=λ_=>Prop) (fc P tb ht ops s K) (λg=>ff P tb ht g.1 g.2.1 ops (gI g.1 s) K) (ix P ops s)
theorem Aa8 {P:Program} (O:P.follows .mixedOrders=true) {tb:D9} {ht:DX} (C:EY P tb) (J:Gi P ht):WZ P (fe P tb ht):=by
 intro ops s K h;unfold fe at h;cases M:ix P ops s with
 |none=>rw[M]at h;exact Aba O C J ops s K h
 |some g=>
  rw[M]at h;obtain⟨g,kAV,vAV⟩:=g;have h:ff P tb ht g kAV ops (gI g s) K:=h;obtain⟨L,hd,U⟩:=AcM M;have del:∀x y,(((s.T.del g.d).del g.e).del g.key).get x=some y->s.T.get x=some y:=λx y q=>by
   rw[Tr.H6]at q;split at q
   ·cases q
   ·rw[Tr.H6]at q;split at q
    ·cases q
    ·rw[Tr.H6]at q;split at q
     ·cases q
     ·exact q
  intro id E F n0 ρ0 ρ a w ro Q R hn S B;refine Aa9 (s:=gI g s) O C J L ?_ ?_ hd U h R hn S ⟨B.rel,λx y q=>B.tr x y (del x y q),B.size,B.dr,B.rr⟩
  ·show(((s.T.del g.d).del g.e).del g.key).get g.d=none;rw[Tr.H6,Ad L.kd.1,Tr.H6,Ad L.de.symm,Tr.H6,Am rfl]
  ·show(((s.T.del g.d).del g.e).del g.key).get g.e=none;rw[Tr.H6,Ad L.kd.2,Tr.H6,Am rfl]
def A4 (cx:Ctx) (n:Nat):Fx:=fj cx (fe cx.P cx.tb cx.ht) n
theorem JZ {cx:Ctx} (y:cx.P.follows .mixedOrders=true) (q:EY cx.P cx.tb) (n:Nat):La cx.P (A4 cx n).call:=(pN y (Aa8 y q cx.AA) q n).2
end Go.Ev
end
section
namespace Go.Ev
theorem B5 {P:Program}:EY P []:=λ_ _ h=>by cases h
theorem Cj {P:Program} {tb:D9} {g:FuncId} {AJ:Tr Ae->Aj->Option Ct} (h:Ck P g AJ) (ht:EY P tb):EY P ((g,AJ)::tb):=by
 intro B y E;have q:cond (Nat.beq g B) (some AJ) (look tb B)=some y:=E;cases C:Nat.beq g B with
 |true=>rw[C]at q;injection q with q;rw[<-q,<-DP C];exact h
 |false=>rw[C]at q;exact ht B y q
theorem NN {P:Program} {g:FuncId} {AJ:Tr Ae->Aj->Option Ct} {gl:List (Nat×Ae)} {ng:Nat} (O:∀p∈gl,H8 p.2=true) (h:∀H args ct,AJ H args=some ct->(∀p∈gl,H.get p.1=some p.2)/\Ba [] args args/\∃pre v,ct=.Be pre (.ret v)/\ (pre->∃(cx:Ctx) (n:Nat),cx.P=P/\P.follows .mixedOrders=true/\EY P cx.tb/\(A4 cx n).call g args (Bx gl) ng (Cb P false v))):Ck P g AJ:=by
 intro H args ct R p v C;obtain⟨Z,Y,pre,E,W,V⟩:=h H args ct R;subst W;have B:(open Classical in if pre then some (false,E)else none)=some (p,v):=C;by_cases J:pre
 ·rw[Am J]at B;injection B with B;injection B with M L;obtain⟨cx,n,e1,e2,e3,e4⟩:=V J;subst e1;exact rj (JZ e2 e3 n) (AJ:=λH' args'=>open Classical in if H'=H/\args'=args then some (.ret E)else none) O (λH' args' ab q=>by
   classical
   by_cases K:H'=H/\args'=args
   ·rw[Am K]at q;injection q with q;obtain⟨rfl,rfl⟩:=K;refine⟨Z,Y,λp' aa y=>?_⟩;rw[<-q]at y;injection y with y;injection y with U S;subst U;subst S;exact e4
   ·rw[Ad K]at q;cases q) H args (.ret E) (Am ⟨rfl,rfl⟩) p v (by rw[<-M,<-L];rfl)
 ·rw[Ad J]at B;cases B
theorem AgF {P:Program} {g:FuncId} {AJ:PW} {gl:List (Nat×Ae)} {ng:Nat} (ab:∀p∈gl,H8 p.2=true) (h:∀H args B,AJ H args=some B->B.pre->(∀p∈gl,H.get p.1=some p.2)/\Ba [] args args/\ ∃(cx:Ctx) (n:Nat),cx.P=P/\P.follows .mixedOrders=true/\EY P cx.tb/\(A4 cx n).call g args (Bx gl) ng (λr=>∃x,B.Q x/\Cb P false (B.v x) r)):Xn P g AJ:=by
 intro H args B M C E F ρ w nx H' hG r;obtain⟨hH,y,cx,n,e1,e2,e3,e4⟩:=h H args B M C;subst e1;have R:Rel (FX E ρ) (λb=>w.heap[b]?) ng ⟨λ_=>none,ρ.st⟩ (Bx gl).get w:=⟨r.tape,r.os,r.output,λ_ _ h=>h,λ_ _ _ _ h=>(by cases h),λ_ _ _ _ h=>(by cases h),λ_ _ _ _ _ _ _ _ h=>(by cases h),λ_ _=>rfl,λg l Y=>hG g l (hH _ (Mc Y)),λb o hb=>r.fr b o (r.bs b o hb),r.st,λ_ _ _ _ h=>(by cases h),λb o S _ V=>(by simp[FX];exactλe=>by rw[show ρ.st b=some S from V]at e;cases e)⟩;have AA:=JZ e2 e3 n g args (Bx gl) ng _ e4 _ _ _ w R;refine⟨AA.1,λvs Ax=>CallsIn.mono (AA.2 vs (Nx (ρ:=ρ) (ρ2:=⟨λ_=>none,ρ.st⟩) (UA λ_ _ h=>h) args args vs y Ax)) λe w' Z=>?_⟩;obtain⟨L,⟨x,W,q⟩,J⟩:=Z;cases L with
 |mk v' H1 n1=>obtain⟨u,aa,rfl,U,O,hv⟩:=J;obtain⟨K,h1,h2,h3⟩:=jv r U.le.st O hv q;exact⟨_,⟨x,W,rfl⟩,u,K,rfl,h1,h2,h3⟩
 |AB _ _ _=>exact q.elim
 |Df _ _ _ _=>exact q.elim
end Go.Ev
namespace Go.Ev
theorem CJ {n:Int}:BJ .i64 n=true↔-9223372036854775808<=n/\n<=9223372036854775807:=YK
theorem VF {n:Int}:BJ .u8 n=true↔0<=n/\n<=255:=YK
theorem Cf {n:Int} {l:Nat}:A9 n l=true↔0<=n/\n<l:=by simp[A9]
theorem SK {n:Int} {l:Nat}:J4 n l=true↔0<=n/\n<=l:=by simp[J4]
theorem CE {a b:Int}:AQ a b=true↔a<b:=by simp[EM]
theorem CF {a b:Int}:AQ a b=false↔b<=a:=by simp[EM]
theorem C0 {a b:Int}:An a b=true↔a=b:=by simp[DU]
theorem Dy {a b:Int}:An a b=false↔¬a=b:=by simp[DU]
end Go.Ev
end
section
namespace Go.Ev
def Xp (has:CW->Bool) (val:CW->AV) (z:AV) (r:CR):Prop:=
 match r with
 |.mk (.map id) H _=>Bg (H.get id) λo=>match o with
  |.map es _=>∀l,Px .string (.str l) z es=some (has (.str l),val (.str l))
  |_=>False
 |_=>False
theorem ph {pre:Prop} {v w:AV} {p:Bool} (h:IY (.Be pre (.ret v))=some (p,w)):pre/\false=p/\v=w:=by
 have q:(open Classical in if pre then some (false,v)else none)=some (p,w):=h;by_cases y:pre
 ·rw[Am y]at q;injection q with q;injection q with C B;exact⟨y,C,B⟩
 ·rw[Ad y]at q;cases q
theorem Ac0 {E:Env} {F:Nat->Option Obj} {nx:Nat} {ρ:Ai} {H:Tr Ae} {w:World} (r:Rel E F nx ρ H.get w) {n1:Nat} {y:Ai} {H1:Tr Ae} {w':World} {c:AV} {u:Value} (Z:∀b o,ρ.st b=some o->y.st b=some o) (r1:Rel (FX E ρ) (λb=>w.heap[b]?) n1 y H1.get w') {ids:List Nat} (S:Fj H1 ids) (hv:VR (CZ y w' ids) c u) (hc:AZ [] c c): ∃J,RX nx (nx+1) ρ J/\Rel E F (nx+1) J H.get w'/\VR J c u:=by
 obtain⟨hx,B⟩:=KB r1 S;generalize CZ y w' ids=ρ2 at hx B hv;have R:∀b o,ρ.st b=some o->ρ2.st b=some o:=λb o h=>hx.le.st b o (Z b o h);have M:ρ.le ⟨ρ.nm,ρ2.st⟩:=⟨λ_ _ h=>h,R⟩;have q:∀b o,w.heap[b]? =some o->w'.heap[b]? =some o:=B.fr;have O:∀b o C,w.heap[b]? =some o->ρ2.st b=some C->ρ.st b≠none:=λb o C h1 h2=>by have:=B.sf b o C h1 h2;simpa[FX]using this
 refine⟨⟨ρ.nm,ρ2.st⟩,⟨M,λ_ _=>rfl,Nat.le_succ _⟩,⟨B.tape,B.os,B.output,λb o K=>q b o (r.fr b o K),λi o b hi K=>?_,r.dj,r.inj,λi hi=>r.new i (Nat.le_of_succ_le hi),r.gl,r.bs,B.st,λi o b hi K=>?_,λb o C hF V=>?_⟩,Km (ρ:=ρ2) (ρ2:=⟨ρ.nm,ρ2.st⟩) (UA λ_ _ h=>h) c c u hc hv⟩
 ·obtain⟨U,W,h5⟩:=r.ob i o b hi K;exact⟨U,q _ _ W,h5.mono M⟩
 ·obtain⟨U,W,h5⟩:=r.ob i o b hi K;cases V:ρ2.st b.b with
  |none=>rfl
  |some C=>exact absurd (r.sd i o b hi K) (O b.b U C W V)
 ·have:=O b o C (r.fr b o hF) V;cases L:ρ.st b with
  |none=>exact absurd L this
  |some Y=>exact r.sf b o Y hF L
theorem AeL {E:Env} {F:Nat->Option Obj} {n1:Nat} {B:Ai} {M:Tr Ae} {w':World} {has:CW->Bool} {val:CW->AV} {z:AV} {id:Nat} {u:Value} (hz:∃O,∀ρ,VR ρ z O) (V:∀k,has k=false->val k=z) (hint:∀n,has (.int n)=false) (r1:Rel E F n1 B M.get w') (hv:VR B (.map id) u) (h:Xp has val z (.mk (.map id) M n1)):Fj M [id]/\VR (CZ B w' [id]) (.FY has val z) u:=by
 obtain⟨o,J,S⟩:=BM (show Bg (M.get id) _ from h);cases hv with
 |map _ b hb=>
  split at S
  ·rename_i es ck;have C:Fj M [id]:=λi hi=>by simp only[DE]at hi;subst hi;exact⟨_,J⟩
   have Z:=(KB r1 C).1.le;obtain⟨c,hc,Y⟩:=r1.ob _ _ b J hb;obtain⟨O,U⟩:=hz;cases Y with
   |map _ _ l hl=>
    have W:(CZ B w' [id]).st b.b=some (.map l.toArray ck):=(Sx (DE.2 rfl) hb).trans hc;have key:∀s:Ac,∃v,VR B (val (.str s)) v/\(if has (.str s)then∃j,Instr.findNow .string (.string ⟨s.toArray⟩) l 0=some (some (j,v))else Instr.findNow .string (.string ⟨s.toArray⟩) l 0=some none/\v=O):=λs=>
     mO (.str s) (U B) hl 0 _ (S s)
    refine⟨C,.FY has val z b.b l.toArray ck (λk=>match k with|.str s=>Classical.choose (key s)|.int _=>O) W (λkd k u K J R=>?_) (λkd k u K J R=>?_) (λk h=>.inl (V k h)) λk K=>?_⟩
    ·cases K with
     |str s=>obtain⟨v,_,L⟩:=key s;rw[R,Ad (by simp)]at L;exact L.1
     |int q n=>exact absurd (show has (.int (bS q))=true from J.1) (by rw[hint];simp)
    ·cases K with
     |str s=>have L:=(IV (key s)).2;show∃j,Instr.findNow .string (.string ⟨s.toArray⟩) l 0=some (some (j,Classical.choose (key s)));generalize Classical.choose (key s)=y at L⊢;rw[R,Am rfl]at L;exact L
     |int q n=>exact absurd (show has (.int (bS q))=true from J.1) (by rw[hint];simp)
    ·cases k with
     |str s=>exact(IV (key s)).1.mono Z
     |int n=>rw[hint n]at K;cases K
  ·exact S.elim
theorem AbS {P:Program} {call:FuncId->Aj->Tr Ae->Nat->KC->Prop} (y:La P call) {g:FuncId} {has:CW->Bool} {val:CW->AV} {z:AV} {gl:List (Nat×Ae)} {ng:Nat} (ab:∀p∈gl,H8 p.2=true) (hz:∃U,∀ρ,VR ρ z U) (B:∀k,has k=false->val k=z) (hint:∀n,has (.int n)=false) (SJ:∀k,AZ [] (val k) (val k)) {AJ:Tr Ae->Aj->Option Ct} (K:∀H args ct,AJ H args=some ct->args=[]/\(∀p∈gl,H.get p.1=some p.2)/\ct=.Be True (.ret (.FY has val z))) (C:call g [] (Bx gl) ng (Xp has val z)):Ck P g AJ:=by
 intro H args ct R p v J E F ρ w nx H' hG r;obtain⟨rfl,hH,rfl⟩:=K H args ct R;obtain⟨_,rfl,rfl⟩:=ph J;have W:Rel (FX E ρ) (λb=>w.heap[b]?) ng ⟨λ_=>none,ρ.st⟩ (Bx gl).get w:=⟨r.tape,r.os,r.output,λ_ _ h=>h,λ_ _ _ _ h=>(by cases h),λ_ _ _ _ h=>(by cases h),λ_ _ _ _ _ _ _ _ h=>(by cases h),λ_ _=>rfl,λg l hg=>hG g l (hH _ (Mc hg)),λb o hb=>r.fr b o (r.bs b o hb),r.st,λ_ _ _ _ h=>(by cases h),λb o Y _ hs=>(by simp[FX];exactλe=>by rw[show ρ.st b=some Y from hs]at e;cases e)⟩;have AA:=y g [] (Bx gl) ng _ C _ _ _ w W;refine⟨AA.1,λvs Ax=>CallsIn.mono (AA.2 vs (by cases Ax;exact .nil)) λe w' he=>?_⟩;obtain⟨O,q,L⟩:=he;cases O with
 |mk V H1 n1=>
  obtain⟨u,aa,rfl,Z,S,hv⟩:=L;cases V<;>first|exact q.elim|skip
  rename_i id;obtain⟨h4,h5⟩:=AeL hz B hint S hv q;obtain⟨M,h1,h2,h3⟩:=Ac0 r Z.le.st S h4 h5 (by rw[AZ];exact⟨λ_=>rfl,SJ,λk h=>.inl (B k h)⟩);exact⟨u,M,rfl,h1,h2,h3⟩
 |AB _ _ _=>exact q.elim
 |Df _ _ _ _=>exact q.elim
end Go.Ev
end
end
