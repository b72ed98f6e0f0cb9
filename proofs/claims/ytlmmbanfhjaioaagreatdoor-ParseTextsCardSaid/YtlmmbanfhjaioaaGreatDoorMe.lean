/- Laid by program out of its parts: SxF, SxG, SxI, SxJ, SxK, SxL, SxLG, SxM, SxN. -/
import Derived.Test.YtlmmbanfhjaioaaGreatDoorMg
noncomputable section
set_option linter.unusedVariables false
set_option linter.unusedSimpArgs false
section
/- The symbolic layer, part F: values and objects beside one another, over renumbering; content. -/
namespace Go.Ev
def sg (q:List (Nat×Nat)) (i:Nat):Option Nat:=List.rec (motive:=λ_=>Option Nat) none (λp _ y=>cond (Nat.beq p.1 i) (some p.2) y) q
structure Au (R:Nat->Prop):Prop where
 h:∀i,R i
mutual
def AR (B:List (Nat×Nat)):AV->AV->Prop
 |.bool p,y=>match y with
  |.bool q=>q=p
  |_=>False
 |.int k m,y=>match y with
  |.int R n=>MU k R=true/\n=m
  |_=>False
 |.str m n,y=>match y with
  |.str O K=>O=m/\K=n
  |_=>False
 |.bs l,y=>match y with
  |.bs C=>C=l
  |.str m n=>BC m n=l
  |_=>False
 |.bv l,y=>match y with
  |.bv C=>C=l
  |.vec e n f=>Nat.beq e 1=true/\ME n f=true/\Fz n f=l
  |.As=>l=[]
  |_=>False
 |.vec e n f,y=>match y with
  |.vec V K U=>Nat.beq e V=true/\K=n/\Au λi=>i<K->AH B (f i) (U i)
  |.bv l=>Nat.beq e 1=true/\l.length=n/\Au λi=>i<l.length->AH B (f i) (HW l i)
  |.As=>n=0
  |_=>False
 |.pv l,y=>match y with
  |.pv C=>AH B l C
  |_=>False
 |.FN has val z,y=>match y with
  |.FN J E W=>(∀k,J k=has k)/\(∀k,AR B (val k) (E k))/\(∀k,has k=false->gH z (val k))
  |_=>False
 |.Et,y=>match y with
  |.Et=>True
  |_=>False
 |.ptr i o,y=>match y with
  |.ptr j p=>sg B i=some j/\Nat.beq o p=true
  |_=>False
 |.As,y=>match y with
  |.As=>True
  |_=>False
 |.sl i o n c,y=>match y with
  |.sl j p m d=>sg B i=some j/\o=p/\m=n/\d=c
  |_=>False
 |.Bw i o n e,y=>match y with
  |.Bw j p m d=>sg B i=some j/\o=p/\m=n/\Nat.beq e d=true
  |_=>False
 |.AJ i n e,y=>match y with
  |.AJ j m d=>sg B i=some j/\m=n/\Nat.beq e d=true
  |.Bw j p m d=>sg B i=some j/\Nat.beq p 0=true/\m=n/\Nat.beq e d=true
  |.As=>n=0
  |_=>False
 |.EZ,y=>match y with
  |.EZ=>True
  |_=>False
 |.map i,y=>match y with
  |.map j=>sg B i=some j
  |_=>False
 |.fn (.func f) a c,y=>match y with
  |.fn (.func g) b d=>Nat.beq f g=true/\AH B a b/\AH B c d
  |_=>False
 |.Gr,y=>match y with
  |.Gr=>True
  |_=>False
 |.iface t v,y=>match y with
  |.iface M L=>Nat.beq t M=true/\AR B v L
  |_=>False
 |.EF,y=>match y with
  |.EF=>True
  |_=>False
 |.agg l,y=>match y with
  |.agg C=>AH B l C
  |_=>False
 |.AL l,y=>match y with
  |.AL C=>AH B l C
  |_=>False
 |.F8 g o,y=>match y with
  |.F8 S o'=>Nat.beq g S=true/\Nat.beq o o'=true
  |_=>False
 |.Dr i,y=>match y with
  |.Dr j=>sg B i=some j
  |_=>False
 |_,_=>False
def AH (q:List (Nat×Nat)):List AV->List AV->Prop
 | [],l=>match l with
  | []=>True
  |_=>False
 |x::l,B=>match B with
  |y::m=>AR q x y/\AH q l m
  | []=>False
end
structure SD (σ:List (Nat×Nat)) (ρ ρ2:Af):Prop where
 nm:∀i j,sg σ i=some j->ρ2 i=ρ j
 st:∀b o,ρ.st b=some o->ρ2.st b=some o
theorem AdM {ρ:Af} {l:List UInt8} {v:Value} (h:VR ρ (.bv l) v):VR ρ (.vec 1 l.length (HW l)) v:=by
 cases h with
 |Hz _ C base cap=>subst C;exact .G7 _ _ _ rfl _ _
 |bv _ b o cap cs el fz B q hc=>
  refine .vec 1 l.length _ b o cap cs el fz (λi=>[.int .u8 ((l.getD i 0).toNat:Int)]) B (by decide) q (λi hi=>.cons _ _ _ _ (.int _ _) .nil) λi hi j v y=>?_
  match j with
  |0=>injection y with y;subst y;simpa using hc i hi
  |_+1=>simp at y
theorem yp {has q:CN->Bool} (h:∀k,has k=q k) {kd:TypeDesc} {k:CN} (y:QS has kd k):QS q kd k:=by
 unfold QS at y⊢;split at y
 ·show q _=false;rw[<-h];exact y
 ·show q _=true/\_;rw[<-h];exact y
 ·exact y.elim
mutual
theorem Kg {W:List (Nat×Nat)} {ρ ρ2:Af} (q:SD W ρ ρ2):∀(a b:AV) (u:Value),AR W a b->VR ρ b u->VR ρ2 a u
 |.bool p,b,u,h,hb=>by
  cases b<;>first|(simp[AR]at h;done)|skip
  rw[AR]at h;subst h;cases hb;exact .bool _
 |.int k m,b,u,h,hb=>by
  cases b<;>first|(simp[AR]at h;done)|skip
  rw[AR]at h;obtain⟨y,B⟩:=h;have:=O3 y;subst this;subst B;cases hb;exact .int _ _
 |.str m n,b,u,h,hb=>by
  cases b<;>first|(simp[AR]at h;done)|skip
  rw[AR]at h;obtain⟨rfl,rfl⟩:=h;cases hb with
  |str _ _ hn=>exact .str _ _ hn
 |.bs l,b,u,h,hb=>by
  cases b<;>first|(simp[AR]at h;done)|skip
  ·rw[AR]at h;subst h;rw[Mq hb rfl];exact .bs _
  ·rw[AR]at h;subst h;cases hb;exact .bs _
 |.bv l,b,u,h,hb=>by
  cases b<;>first|(simp[AR]at h;done)|skip
  ·rw[AR]at h;subst h;cases hb;exact .Hz _ rfl _ _
  ·rw[AR]at h;subst h;cases hb with
   |bv _ b o cap cs el fz E C hc=>exact .bv _ b o cap cs el fz (q.st _ _ E) C hc
   |Hz _ J base cap=>exact .Hz _ J _ _
  ·rw[AR]at h;obtain⟨y,B,rfl⟩:=h;rw[Nat.beq_eq]at y;subst y;cases sS hb B with
   |bv _ b o cap cs el fz E C hc=>exact .bv _ b o cap cs el fz (q.st _ _ E) C hc
   |Hz _ J base cap=>exact .Hz _ J _ _
 |.vec e n f,b,u,h,hb=>by
  have key:∀(S:Nat) (V:Nat->List AV),VR ρ (.vec e S V) u->S=n->(∀i,i<S->AH W (f i) (V i))->VR ρ2 (.vec e n f) u:=λS V hb hn R=>by
   subst hn;cases hb with
   |vec _ _ _ b o cap cs el fz g E K C hv hc=>exact .vec _ _ _ b o cap cs el fz g (q.st _ _ E) K C (λi hi=>OB q (f i) (V i) (g i) (R i hi) (hv i hi)) hc
   |G7 _ _ _ U base cap=>exact .G7 _ _ _ U _ _
  cases b<;>first|(simp[AR]at h;done)|skip
  ·rw[AR]at h;subst h;cases hb;exact .G7 _ _ _ rfl _ _
  ·rw[AR]at h;obtain⟨y,B,L⟩:=h;rw[Nat.beq_eq]at y;subst y;exact key _ _ (AdM hb) B L.h
  ·rw[AR]at h;obtain⟨y,B,L⟩:=h;rw[Nat.beq_eq]at y;subst y;exact key _ _ hb B L.h
 |.pv l,b,u,h,hb=>by
  cases b<;>first|(simp[AR]at h;done)|skip
  rw[AR]at h;cases hb with
  |pv _ vs b o cs el fz E hv hc=>exact .pv _ vs b o cs el fz (q.st _ _ E) (OB q l _ vs h hv) hc
 |.FN has val z,b,u,h,hb=>by
  cases b<;>first|(simp[AR]at h;done)|skip
  rw[AR]at h;obtain⟨y,B,L⟩:=h;cases hb with
  |FN _ _ _ b es M g E hn hy hz hg=>exact .FN _ _ _ b es M g (q.st _ _ E) (λkd k u O Y R=>hn kd k u O (yp (λk=>(y k).symm) Y) (by rw[y];exact R)) (λkd k u O Y R=>hy kd k u O (yp (λk=>(y k).symm) Y) (by rw[y];exact R)) L λk O=>Kg q (val k) _ (g k) (B k) (hg k (by rw[y];exact O))
 |.Et,b,u,h,hb=>by
  cases b<;>first|(simp[AR]at h;done)|skip
  cases hb;exact .Et
 |.ptr i o,b,u,h,hb=>by
  cases b<;>first|(simp[AR]at h;done)|skip
  rw[AR]at h;obtain⟨y,B⟩:=h;rw[Nat.beq_eq]at B;subst B;cases hb with
  |ptr _ _ b hb=>exact .ptr _ _ b (by rw[q.nm _ _ y];exact hb)
 |.As,b,u,h,hb=>by
  cases b<;>first|(simp[AR]at h;done)|skip
  cases hb;exact .As
 |.sl i o n c,b,u,h,hb=>by
  cases b<;>first|(simp[AR]at h;done)|skip
  rw[AR]at h;obtain⟨y,rfl,rfl,rfl⟩:=h;cases hb with
  |sl _ _ _ _ b hb=>exact .sl _ _ _ _ b (by rw[q.nm _ _ y];exact hb)
 |.Bw i o n e,b,u,h,hb=>by
  cases b<;>first|(simp[AR]at h;done)|skip
  rw[AR]at h;obtain⟨y,rfl,rfl,B⟩:=h;rw[Nat.beq_eq]at B;subst B;cases hb with
  |Bw _ _ _ _ b hb K J=>exact .Bw _ _ _ _ b (by rw[q.nm _ _ y];exact hb) K J
 |.AJ i n e,b,u,h,hb=>by
  cases b<;>first|(simp[AR]at h;done)|skip
  ·rw[AR]at h;subst h;cases hb;exact .G5 _ _ _ rfl _
  ·rw[AR]at h;obtain⟨y,U,rfl,B⟩:=h;rw[Nat.beq_eq]at B U;subst B;subst U;cases hb with
   |Bw _ _ _ _ b hb K J=>rw[Nat.sub_zero,Nat.add_zero];exact .AJ _ _ _ b (by rw[q.nm _ _ y];exact hb) K (by omega)
  ·rw[AR]at h;obtain⟨y,rfl,B⟩:=h;rw[Nat.beq_eq]at B;subst B;cases hb with
   |AJ _ _ _ b hb K J=>exact .AJ _ _ _ b (by rw[q.nm _ _ y];exact hb) K J
   |G5 _ _ _ hn base=>exact .G5 _ _ _ hn base
 |.EZ,b,u,h,hb=>by
  cases b<;>first|(simp[AR]at h;done)|skip
  cases hb;exact .EZ
 |.map i,b,u,h,hb=>by
  cases b<;>first|(simp[AR]at h;done)|skip
  rw[AR]at h;cases hb with
  |map _ b hb=>exact .map _ b (by rw[q.nm _ _ h];exact hb)
 |.fn (.func f) a c,b,u,h,hb=>by
  cases b<;>first|(simp[AR]at h;done)|skip
  rename_i g b d;cases g<;>first|(simp[AR]at h;done)|skip
  rw[AR]at h;obtain⟨y,B,L⟩:=h;rw[Nat.beq_eq]at y;subst y;cases hb with
  |fn _ _ _ va Z ha hc=>exact .fn _ _ _ va Z (OB q a _ va B ha) (OB q c _ Z L hc)
 |.Gr,b,u,h,hb=>by
  cases b<;>first|(simp[AR]at h;done)|skip
  cases hb;exact .Gr
 |.iface t v,b,u,h,hb=>by
  cases b<;>first|(simp[AR]at h;done)|skip
  rw[AR]at h;obtain⟨y,B⟩:=h;rw[Nat.beq_eq]at y;subst y;cases hb with
  |iface _ _ w hv=>exact .iface _ _ _ (Kg q v _ w B hv)
 |.EF,b,u,h,hb=>by
  cases b<;>first|(simp[AR]at h;done)|skip
  cases hb;exact .EF
 |.agg l,b,u,h,hb=>by
  cases b<;>first|(simp[AR]at h;done)|skip
  rw[AR]at h;cases hb with
  |agg _ vs hv=>exact .agg _ _ (OB q l _ vs h hv)
 |.AL l,b,u,h,hb=>by
  cases b<;>first|(simp[AR]at h;done)|skip
  rw[AR]at h;cases hb with
  |AL _ vs hv=>exact .AL _ _ (OB q l _ vs h hv)
 |.F8 g o,b,u,h,hb=>by
  cases b<;>first|(simp[AR]at h;done)|skip
  rw[AR]at h;obtain⟨y,B⟩:=h;rw[Nat.beq_eq]at y B;subst y;subst B;cases hb;exact .F8 _ _
 |.Dr i,b,u,h,hb=>by
  cases b<;>first|(simp[AR]at h;done)|skip
  rw[AR]at h;cases hb with
  |Dr _ b hb=>exact .Dr _ b (by rw[q.nm _ _ h];exact hb)
 |.sle _,b,u,h,hb|.MH,b,u,h,hb|.chan _,b,u,h,hb|.Gx _ _ _ _,b,u,h,hb=>by simp[AR]at h
 |.fn (.method _) _ _,b,u,h,hb=>by simp[AR]at h
 |.fn (.methodOf _ _) _ _,b,u,h,hb=>by simp[AR]at h
 |.fn (.via _ _ _ _) _ _,b,u,h,hb=>by simp[AR]at h
 |.fn (.yield _) _ _,b,u,h,hb=>by simp[AR]at h
theorem OB {B:List (Nat×Nat)} {ρ ρ2:Af} (q:SD B ρ ρ2):∀(a b:List AV) (u:List Value),AH B a b->AF ρ b u->AF ρ2 a u
 | [],b,u,h,hb=>by
  cases b with
  |cons _ _=>simp[AH]at h
  |nil=>cases hb;exact .nil
 |x::l,b,u,h,hb=>by
  cases b with
  |nil=>simp[AH]at h
  |cons y m=>
   rw[AH]at h;cases hb with
   |cons _ v _ vs E C=>exact .cons _ _ _ _ (Kg q x y v h.1 E) (OB q l m vs h.2 C)
end
end Go.Ev
end
section
/- The symbolic layer, part G: objects and states beside one another: stations. -/
namespace Go.Ev
def dG (q:List (Nat×Nat)) (c:Tr AV) (z:CB) (C:Tr AV) (y:CB) (n:Nat):Prop:=Nat.rec (motive:=λ_=>Prop) True (λk B=>B/\(match cellOf c z k with
  |none=>True
  |some a=>match cellOf C y k with
   |none=>False
   |some b=>AR q a b)) n
def Te (q:List (Nat×Nat)):List DJ->List DJ->Prop
 | [],l=>match l with
  | []=>True
  |_=>False
 |e::l,y=>match y with
  |d::m=>(AR q e.key d.key/\AR q e.val d.val/\Nat.beq e.born d.born=true)/\Te q l m
  | []=>False
def trP (q:List (Nat×Nat)) (T:Tr AV):Tr AV->Prop:=Tr.rec (motive:=λ_=>Tr AV->Prop) (λ_=>True) (λv _ _ il ir T'=>Tr.rec (motive:=λ_=>Prop) False (λy C B _ _=>(match v with
  |none=>True
  |some a=>match y with
   |none=>False
   |some b=>AR q a b)/\il C/\ir B) T') T
theorem sx {B:List (Nat×Nat)}:∀ {T T':Tr AV},trP B T T'->∀(p:List Bool) (a:AV),Tr.gp p T=some a->∃b,Tr.gp p T'=some b/\AR B a b
 |.leaf,_,_,p,a,h=>by rw[Tr.Tu]at h;cases h
 |.node v l r,.leaf,h,p,a,q=>False.elim h
 |.node v l r,.node E M L,h,p,a,q=>by
  obtain⟨C,K,J⟩:=h;cases p with
  |nil=>
   have y:v=some a:=q;subst y;cases E with
   |none=>exact C.elim
   |some b=>exact⟨b,rfl,C⟩
  |cons c p=>
   cases c with
   |true=>exact sx K p a q
   |false=>exact sx J p a q
def Ed (C:List (Nat×Nat)) (a b:Ac):Prop:=
 match a with
 |.cells el c z n op=>match b with
  |.cells S L K E q=>Nat.beq el S=true/\(op|| !q)=true/\(match z with
   |.rows e f=>match c with
    |.leaf=>match L,K with
     |.leaf,.rows e' Z=>Nat.beq e e'=true/\E=n/\Au λi=>i*e<E->AH C (f i) (Z i)
     |_,_=>E=n/\dG C .leaf (.rows e f) L K E
    |_=>False
   |.CC _=>Nat.beq n E=true/\dG C c z L K n)
  |_=>False
 |.map es ck=>match b with
  |.map R U=>Nat.beq ck U=true/\Te C es R
  |_=>False
 |.Js l=>match b with
  |.Js Y=>Y=l
  |_=>False
 |.Dc op=>match b with
  |.Dc q=>cond op q (!q)=true
  |_=>False
 |.loop st Dp T N W V body d=>match st,Dp,b with
  |.ready,none,.loop M y T' N' O J B d'=>match M,y with
   |.ready,none=>Nat.beq N N'=true/\(match sg C d with
    |none=>False
    |some j=>Nat.beq j d'=true)/\W=O/\V=J/\body=B/\trP C T T'
   |_,_=>False
  |_,_,_=>False
 |_=>False
theorem pO {y:List (Nat×Nat)} {c:Tr AV} {z:CB} {C:Tr AV} {B:CB}:∀ {n:Nat},dG y c z C B n->∀k a,k<n->cellOf c z k=some a->∃b,cellOf C B k=some b/\AR y a b
 |0,_,k,a,K,_=>by omega
 |n+1,h,k,a,K,J=>by
  have h':dG y c z C B n/\(match cellOf c z n with
   |none=>True
   |some a=>match cellOf C B n with
    |none=>False
    |some b=>AR y a b):=h
  by_cases E:k=n
  ·subst E;have q:=h'.2;rw[J]at q;simp only at q;split at q
   ·exact q.elim
   ·rename_i b hb;exact⟨b,hb,q⟩
  ·exact pO h'.1 k a (by omega) J
theorem tK {B:List (Nat×Nat)}:∀ {l m:List AV},AH B l m->∀(j:Nat) (a:AV),l[j]? =some a->∃b,m[j]? =some b/\AR B a b
 | [],m,h,j,a,q=>by simp at q
 |x::l,m,h,j,a,q=>by
  cases m with
  |nil=>simp[AH]at h
  |cons y m=>
   rw[AH]at h
   match j with
   |0=>injection q with q;subst q;exact⟨y,rfl,h.1⟩
   |j+1=>exact tK h.2 j a q
theorem wh {J:List (Nat×Nat)} {ρ ρ2:Af} (y:SD J ρ ρ2):∀ {E q:List DJ} {l:List MapEntry},Te J E q->Ek ρ q l->Ek ρ2 E l
 | [],q,l,h,B=>by
  cases B with
  |nil=>exact .nil
  |cons=>simp[Te]at h
 |e::E,q,l,h,B=>by
  cases B with
  |nil=>simp[Te]at h
  |cons d m _ _ C R=>rw[Te]at h;obtain⟨⟨O,M,K⟩,L⟩:=h;rw[Nat.beq_eq]at K;exact .cons _ _ _ _ ⟨Kg y _ _ _ O C.1,Kg y _ _ _ M C.2.1,K.trans C.2.2⟩ (wh y L R)
theorem AaL {σ:List (Nat×Nat)} {ρ ρ2:Af} (y:SD σ ρ ρ2) {a o:Ac} {b:CM} {c:Obj} (h:Ed σ a o) (V:OR ρ b o c):OR ρ2 b a c:=by
 unfold Ed at h;split at h
 ·rename_i el c0 z n op;split at h
  ·rename_i aj c' z' n' E;obtain⟨M,L,R⟩:=h;rw[Nat.beq_eq]at M;subst M;cases V with
   |cells _ _ _ _ _ cs fz C0 hn aa U hc=>
    have B:∀m,m=n'->op=false->m=b.cap:=λm C h=>by subst C;subst h;refine aa ?_;cases E<;>first|rfl|simp at L
    cases z with
    |rows e f=>
     cases c0 with
     |node _ _ _=>exact R.elim
     |leaf=>
      simp only at R;split at R
      ·rename_i e' f';obtain⟨W,rfl,Y⟩:=R;rw[Nat.beq_eq]at W;subst W;refine .cells _ _ _ _ _ cs fz C0 hn (B _ rfl) U λk a J K=>?_;rw[FJ]at K;have ad:(f (k/e))[k %e]? =some a:=K;have ab:k/e*e<n':=Nat.lt_of_le_of_lt (Nat.div_mul_le_self k e) J;obtain⟨S,q,C⟩:=tK (Y.h _ ab) _ _ ad;obtain⟨v,hv,O⟩:=hc k S J (by rw[FJ];exact q);exact⟨v,hv,Kg y _ _ _ C O⟩
      ·obtain⟨rfl,Z⟩:=R;refine .cells _ _ _ _ _ cs fz C0 hn (B _ rfl) U λk a J K=>?_;obtain⟨S,q,C⟩:=pO Z k a J K;obtain⟨v,hv,O⟩:=hc k S J q;exact⟨v,hv,Kg y _ _ _ C O⟩
    |CC zs=>simp only at R;obtain⟨W,Z⟩:=R;rw[Nat.beq_eq]at W;subst W;refine .cells _ _ _ _ _ cs fz C0 hn (B _ rfl) U λk a J K=>?_;obtain⟨S,q,C⟩:=pO Z k a J K;obtain⟨v,hv,O⟩:=hc k S J q;exact⟨v,hv,Kg y _ _ _ C O⟩
  ·exact h.elim
 ·split at h
  ·obtain⟨M,L⟩:=h;rw[Nat.beq_eq]at M;subst M;cases V with
   |map _ _ l hl=>exact .map _ _ l (wh y L hl)
  ·exact h.elim
 ·split at h
  ·cases V
  ·exact h.elim
 ·rename_i op;split at h
  ·rename_i E;have e:op=E:=by cases op<;>cases E<;>first|rfl|cases h
   subst e;cases V with
   |Dc _=>exact .Dc op
  ·exact h.elim
 ·rename_i st Dp T N ps ak body d;split at h
  ·rename_i ah ae T' N' ai ag af d';split at h
   ·obtain⟨M,L,rfl,rfl,rfl,Y⟩:=h;rw[Nat.beq_eq]at M;subst M;split at L
    ·exact L.elim
    ·rename_i j hj;rw[Nat.beq_eq]at L;subst L;cases V with
     |loop _ _ _ _ _ _ _ _ fn tmps bd hT hN hd=>refine .loop _ _ _ _ _ _ _ _ fn tmps bd (λt a K=>?_) hN ((y.nm _ _ hj).trans hd);obtain⟨S,q,C⟩:=sx Y _ a K;obtain⟨v,hv,O⟩:=hT t S q;exact⟨v,hv,Kg y _ _ _ C O⟩
   ·exact h.elim
  ·exact h.elim
 ·exact h.elim
mutual
def P3 (a b:AV) (q:List (Nat×Nat)):List (Nat×Nat):=
 match a with
 |.ptr i _=>match b with
  |.ptr j _=>Qm i j q
  |_=>q
 |.sl i _ _ _=>match b with
  |.sl j _ _ _=>Qm i j q
  |_=>q
 |.Bw i _ _ _=>match b with
  |.Bw j _ _ _=>Qm i j q
  |_=>q
 |.AJ i _ _=>match b with
  |.AJ j _ _=>Qm i j q
  |.Bw j _ _ _=>Qm i j q
  |_=>q
 |.map i=>match b with
  |.map j=>Qm i j q
  |_=>q
 |.Dr i=>match b with
  |.Dr j=>Qm i j q
  |_=>q
 |.fn _ l m=>match b with
  |.fn _ y C=>XS m C (XS l y q)
  |_=>q
 |.agg l=>match b with
  |.agg y=>XS l y q
  |_=>q
 |.AL l=>match b with
  |.AL y=>XS l y q
  |_=>q
 |.iface _ v=>match b with
  |.iface _ B=>P3 v B q
  |_=>q
 |_=>q
def XS (a b:List AV) (q:List (Nat×Nat)):List (Nat×Nat):=
 match a with
 | []=>q
 |x::l=>match b with
  | []=>q
  |y::m=>XS l m (P3 x y q)
def Qm (i j:Nat) (q:List (Nat×Nat)):List (Nat×Nat):=Option.rec (motive:=λ_=>List (Nat×Nat)) ((i,j)::q) (λ_=>q) (sg q i)
end
def Oz (c:Tr AV) (z:CB) (C:Tr AV) (B:CB) (n:Nat) (y:List (Nat×Nat)):List (Nat×Nat):=Nat.rec (motive:=λ_=>List (Nat×Nat)) y (λk q=>match cellOf c z k with
  |none=>q
  |some a=>match cellOf C B k with
   |none=>q
   |some b=>P3 a b q) n
def fV (a b:Ac) (q:List (Nat×Nat)):List (Nat×Nat):=
 match a with
 |.cells _ c z n _=>match z with
  |.rows _ _=>q
  |.CC _=>match b with
   |.cells _ B y _ _=>Oz c z B y n q
   |_=>q
 |_=>q
def fL {q:Type} (l:List (Nat×Nat)):(List (Nat×Nat)->q)->q:=List.rec (motive:=λ_=>(List (Nat×Nat)->q)->q) (λk=>k []) (λp _ y k=>fN p.1 λa=>fN p.2 λb=>y λl=>k ((a,b)::l)) l
theorem OY {q:Type}:∀(l:List (Nat×Nat)) (k:List (Nat×Nat)->q),fL l k=k l
 | [],_=>rfl
 |p::l,k=>by show(fN p.1 λa=>fN p.2 λb=>fL l λl=>k ((a,b)::l))=_;rw[Bu,Bu,OY l]
def Ach (T:Tr AV) (l:List (Nat×AV)) (q:List (Nat×Nat)):List (Nat×Nat):=List.rec (motive:=λ_=>List (Nat×Nat)->List (Nat×Nat)) (λq=>q) (λp _ y q=>fL (Option.rec (motive:=λ_=>List (Nat×Nat)) q (λb=>P3 p.2 b q) (T.get p.1)) y) l q
def P4 (H:Tr Ac) (l:List (Nat×Ac)) (q:List (Nat×Nat)):List (Nat×Nat):=List.rec (motive:=λ_=>List (Nat×Nat)->List (Nat×Nat)) (λq=>q) (λp _ y q=>fL (Option.rec (motive:=λ_=>List (Nat×Nat)) q (λj=>Option.rec (motive:=λ_=>List (Nat×Nat)) q (λo=>fV p.2 o q) (H.get j)) (sg q p.1)) y) l q
def Jy (l:List Nat):Bool:=List.rec (motive:=λ_=>Bool) true (λa l q=>cond (l.any (Nat.beq a)) false q) l
def I1 (n0:Nat):List (Nat×Nat):=(List.range n0).map λi=>(i,i)
def zh (i:Nat) (l:List Nat):Bool:=l.any λj=>Nat.beq i j
theorem zi {i:Nat} {l:List Nat} (h:i∈l):zh i l=true:=List.any_eq_true.2 ⟨i,h,Nat.beq_refl i⟩
def XQ (n0 nx:Nat) (y:List Nat) (q:List (Nat×Nat)):Bool:=cond ((List.range n0).all λi=>Option.rec (motive:=λ_=>Bool) false (λj=>Nat.beq j i) (sg q i)) (cond (q.all λp=>Nat.blt p.1 nx) (Jy ((q.filter λp=>zh p.1 y).map (·.2))) false) false
def tP (q:List (Nat×Nat)) (T:Tr AV) (l:List (Nat×AV)):Prop:=List.rec (motive:=λ_=>Prop) True (λp _ y=>(match T.get p.1 with
  |none=>False
  |some b=>AR q p.2 b)/\y) l
def Hf:Ac->Bool
 |.Js _=>true
 |_=>false
def hP (n0:Nat) (q:List (Nat×Nat)) (H:Tr Ac) (l:List (Nat×Ac)):Prop:=List.rec (motive:=λ_=>Prop) True (λp _ y=>(cond (Hf p.2) (Nat.blt p.1 n0) true=true/\match sg q p.1 with
  |none=>True
  |some j=>match H.get j with
   |none=>False
   |some o=>Ed q p.2 o)/\y) l
def TI (l:List (Nat×AV)):Tr AV:=List.rec (motive:=λ_=>Tr AV) .leaf (λp _ q=>q.set p.1 p.2) l
def AU (l:List (Nat×Ac)):Tr Ac:=List.rec (motive:=λ_=>Tr Ac) .leaf (λp _ q=>q.set p.1 p.2) l
theorem zm:∀ {l:List (Nat×AV)} {t:Nat} {a:AV},(TI l).get t=some a->(t,a)∈l
 | [],t,a,h=>by rw[show TI []=.leaf from rfl,Tr.Em]at h;cases h
 |p::l,t,a,h=>by
  have h':((TI l).set p.1 p.2).get t=some a:=h;rw[Tr.F6]at h';split at h'
  ·rename_i e;injection h' with h';subst e;subst h';exact List.mem_cons_self ..
  ·exact List.mem_cons_of_mem _ (zm h')
theorem MY:∀ {l:List (Nat×Ac)} {t:Nat} {a:Ac},(AU l).get t=some a->(t,a)∈l
 | [],t,a,h=>by rw[show AU []=.leaf from rfl,Tr.Em]at h;cases h
 |p::l,t,a,h=>by
  have h':((AU l).set p.1 p.2).get t=some a:=h;rw[Tr.F6]at h';split at h'
  ·rename_i e;injection h' with h';subst e;subst h';exact List.mem_cons_self ..
  ·exact List.mem_cons_of_mem _ (MY h')
theorem Acl {y:List (Nat×Nat)} {T:Tr AV}:∀ {l:List (Nat×AV)},tP y T l->∀p∈l,∃b,T.get p.1=some b/\AR y p.2 b
 | [],_,p,hp=>by cases hp
 |q::l,h,p,hp=>by
  have h':(match T.get q.1 with
   |none=>False
   |some b=>AR y q.2 b)/\tP y T l:=h
  rcases List.mem_cons.1 hp with rfl|hp
  ·have B:=h'.1;split at B
   ·exact B.elim
   ·rename_i b hb;exact⟨b,hb,B⟩
  ·exact Acl h'.2 p hp
theorem nZ {n0:Nat} {y:List (Nat×Nat)} {H:Tr Ac}:∀ {l:List (Nat×Ac)},hP n0 y H l->∀p∈l,cond (Hf p.2) (Nat.blt p.1 n0) true=true/\∀j,sg y p.1=some j->∃o,H.get j=some o/\Ed y p.2 o
 | [],_,p,hp=>by cases hp
 |q::l,h,p,hp=>by
  have h':(cond (Hf q.2) (Nat.blt q.1 n0) true=true/\match sg y q.1 with
   |none=>True
   |some j=>match H.get j with
    |none=>False
    |some o=>Ed y q.2 o)/\hP n0 y H l:=h
  rcases List.mem_cons.1 hp with rfl|hp
  ·refine⟨h'.1.1,λj E=>?_⟩;have B:=h'.1.2;rw[E]at B;simp only at B;split at B
   ·exact B.elim
   ·rename_i o C;exact⟨o,C,B⟩
  ·exact nZ h'.2 p hp
theorem U7:∀ {q:List (Nat×Nat)} {i j:Nat},sg q i=some j->(i,j)∈q
 | [],i,j,h=>by cases h
 |p::q,i,j,h=>by
  have h':cond (Nat.beq p.1 i) (some p.2) (sg q i)=some j:=h;cases hb:Nat.beq p.1 i with
  |true=>rw[hb]at h';rw[Nat.beq_eq]at hb;injection h' with h';subst hb;subst h';exact List.mem_cons_self ..
  |false=>rw[hb]at h';exact List.mem_cons_of_mem _ (U7 h')
theorem od:∀ {l:List (Nat×Nat)},Jy (l.map (·.2))=true->∀p∈l,∀q∈l,p.2=q.2->p=q
 | [],_,p,hp,_,_,_=>by cases hp
 |a::l,h,p,hp,q,K,e=>by
  have h':cond ((l.map (·.2)).any (Nat.beq a.2)) false (Jy (l.map (·.2)))=true:=h;cases E:(l.map (·.2)).any (Nat.beq a.2)with
  |true=>rw[E]at h';cases h'
  |false=>
   rw[E,cond_false]at h';have C:∀r∈l,r.2≠a.2:=λr J e=>by have:(l.map (·.2)).any (Nat.beq a.2)=true:=List.any_eq_true.2 ⟨r.2,List.mem_map.2 ⟨r,J,rfl⟩,by rw[Nat.beq_eq];exact e.symm⟩;rw[E]at this;cases this
   rcases List.mem_cons.1 hp with B|B<;>rcases List.mem_cons.1 K with y|y
   ·rw[B,y]
   ·rw[B]at e;exact absurd e.symm (C q y)
   ·rw[y]at e;exact absurd e (C p B)
   ·exact od h' p B q y e
structure Dj (n0:Nat) (ρ ρ':Af):Prop where
 lo:∀i,i<n0->ρ' i=ρ i
 st:∀b o,ρ.st b=some o->ρ'.st b=some o
theorem Dj.refl (n0:Nat) (ρ:Af):Dj n0 ρ ρ:=⟨λ_ _=>rfl,λ_ _ h=>h⟩
theorem Dj.trans {n0:Nat} {a b c:Af} (h:Dj n0 a b) (k:Dj n0 b c):Dj n0 a c:=⟨λi hi=>(k.lo i hi).trans (h.lo i hi),λb o hb=>k.st b o (h.st b o hb)⟩
theorem Dj.M0 {n0 n y:Nat} {ρ q:Af} (h:RX n y ρ q) (hn:n0<=n):Dj n0 ρ q:=⟨λi hi=>h.lo i (Nat.lt_of_lt_of_le hi hn),h.le.st⟩
def Mn (q:List (Nat×Nat)) (ρ:Af):Af:=⟨λi=>(sg q i).bind ρ.nm,ρ.st⟩
theorem rV (q:List (Nat×Nat)) (ρ:Af):SD q ρ (Mn q ρ):=⟨λi j h=>by show(sg q i).bind ρ.nm=_;rw[h];rfl,λ_ _ h=>h⟩
def B5 (n0 N nx:Nat) (T:List (Nat×AV)) (H:List (Nat×Ac)) (s:St):Prop:=
 match s.D,s.ro with
 | [],none=>fL (P4 s.H H (Ach s.T T (I1 n0))) λq=>cond (Nat.beq s.N N) (cond (Nat.ble n0 nx) (XQ n0 nx (H.map (·.1)) q) false) false=true/\tP q s.T T/\hP n0 q s.H H
 |_,_=>False
theorem fS {n0 N nx:Nat} {T:List (Nat×AV)} {H:List (Nat×Ac)} {s:St} (h:B5 n0 N nx T H s) {E:Env} {F:Nat->Option Obj} {ρ:Af} {a:Act} {w:World} {ro:Option Nat} (S:SR E F ρ s a w ro): n0<=nx/\∃ρ2,Dj n0 ρ ρ2/\SR E F ρ2 ⟨N,TI T,AU H,nx,none,[]⟩ a w ro:=by
 unfold B5 at h;split at h
 ·rename_i hD aa;rw[OY]at h;generalize(P4 s.H H (Ach s.T T (I1 n0)))=C at h;obtain⟨R,hT,hH⟩:=h;obtain⟨hN,R⟩:=A4 R;obtain⟨Y,R⟩:=A4 R;rw[Nat.beq_eq]at hN;rw[Nat.ble_eq]at Y;refine⟨Y,?_⟩;unfold XQ at R;obtain⟨V,M⟩:=A4 R;obtain⟨M,Z⟩:=A4 M;have U:=rV C ρ;have ab:∀i b,Mn C ρ i=some b->∃j,sg C i=some j/\ρ j=some b:=λi b h=>by
   have h':(sg C i).bind ρ.nm=some b:=h;cases q:sg C i with
   |none=>rw[q]at h';cases h'
   |some j=>rw[q]at h';exact⟨j,rfl,h'⟩
  have y:∀i o b,(AU H).get i=some o->Mn C ρ i=some b->∃j o',sg C i=some j/\ρ j=some b/\s.H.get j=some o'/\Ed C o o':=λi o b hi hb=>by obtain⟨j,B,L⟩:=ab i b hb;obtain⟨o',K,J⟩:=(nZ hH _ (MY hi)).2 j B;exact⟨j,o',B,L,K,J⟩
  have r:=S.rel;refine⟨Mn C ρ,⟨λi hi=>?_,λ_ _ h=>h⟩,⟨⟨r.tape,r.os,r.output,r.fr,λi o b hi hb=>?_,λi o b hi hb=>?_,λi k o o' b b' hi hk hb ae e=>?_,λi hi=>?_,λg l hg=>?_,r.bs,r.st,λi o b hi hb=>?_,r.sf⟩,λt v ht=>?_,S.size.trans hN,?_,?_⟩⟩
  ·have:=List.all_eq_true.1 V i (List.mem_range.2 hi);cases q:sg C i with
   |none=>rw[q]at this;cases this
   |some j=>rw[q]at this;have this:Nat.beq j i=true:=this;rw[Nat.beq_eq]at this;subst this;show(sg C j).bind ρ.nm=_;rw[q];rfl
  ·obtain⟨j,o',B,L,K,J⟩:=y i o b hi hb;obtain⟨c,h5,h6⟩:=r.ob j o' b K L;exact⟨c,h5,AaL U J h6⟩
  ·obtain⟨j,o',B,L,K,J⟩:=y i o b hi hb;exact r.dj j o' b K L
  ·obtain⟨j,p,B,L,K,J⟩:=y i o b hi hb;obtain⟨j',p',ah,ag,af,aj⟩:=y k o' b' hk ae;have hj:=r.inj j j' p p' b b' K af L ag e;have:=od Z _ (List.mem_filter.2 ⟨U7 B,zi (List.mem_map.2 ⟨_,MY hi,rfl⟩)⟩) _ (List.mem_filter.2 ⟨U7 ah,zi (List.mem_map.2 ⟨_,MY hk,rfl⟩)⟩) hj;exact congrArg Prod.fst this
  ·show(sg C i).bind ρ.nm=none;cases q:sg C i with
   |none=>rfl
   |some j=>have B:Nat.blt i nx=true:=List.all_eq_true.1 M _ (U7 q);rw[Nat.blt_eq]at B;have ai:nx<=i:=hi;omega
  ·obtain⟨B,L⟩:=nZ hH _ (MY hg);have ad:g<n0:=by have B:Nat.blt g n0=true:=B;rwa[Nat.blt_eq]at B
   have:=List.all_eq_true.1 V g (List.mem_range.2 ad);cases q:sg C g with
   |none=>rw[q]at this;cases this
   |some j=>
    rw[q]at this;have this:Nat.beq j g=true:=this;rw[Nat.beq_eq]at this;subst this;obtain⟨o,K,J⟩:=L j q;cases o with
    |Js l'=>have J:l'=l:=J;subst J;exact r.gl j l' K
    |_=>exact J.elim
  ·obtain⟨j,o',B,L,K,J⟩:=y i o b hi hb;exact r.sd j o' b K L
  ·obtain⟨b,B,L⟩:=Acl hT _ (zm ht);obtain⟨u,K,J⟩:=S.tr _ b B;exact⟨u,K,Kg U _ _ _ L J⟩
  ·have O:=S.dr;rw[hD]at O;generalize a.defers=ds at O;cases O;exact .nil
  ·have W:=S.rr;rw[aa]at W;cases W;exact .none
 ·exact h.elim
end Go.Ev
end
section
/- The symbolic layer, part I: contracts, and the evaluator that leaves a sentence: definitions. -/
namespace Go.Ev
inductive Ct where
 |ret (v:AV)
 |AA (v:AV)
 |br (b:Bool) (t e:Ct)
 |A6 (p:Prop) (t:Ct)
abbrev DQ:=List (FuncId×(Tr Ac->List AV->Option Ct))
def look (tb:DQ) (g:FuncId):Option (Tr Ac->List AV->Option Ct):=List.rec (motive:=λ_=>Option (Tr Ac->List AV->Option Ct)) none (λp _ q=>cond (Nat.beq p.1 g) (some p.2) q) tb
def Ap (b:Bool) (K:Prop):Prop:=Bool.rec (motive:=λ_=>Prop) False K b
def Ad (b:Bool) (K L:Prop):Prop:=Bool.rec (motive:=λ_=>Prop) L K b
theorem Eh {b:Bool} {K:Prop}:Ap b K↔b=true/\K:=by cases b<;>simp[Ap]
theorem FH {b:Bool} {K L:Prop}:Ad b K L↔(b=true->K)/\(b=false->L):=by cases b<;>simp[Ad]
theorem Aj {b:Bool} {K L:Prop} (y:b=true->K) (q:b=false->L):Ad b K L:=FH.2 ⟨y,q⟩
theorem An {b:Bool} {K:Prop} (y:b=true) (q:K):Ap b K:=Eh.2 ⟨y,q⟩
def OO (ct:Ct) (R B:AV->Prop):Prop:=Ct.rec (motive:=λ_=>Prop) R B (λb _ _ q y=>Ad b q y) (λp _ q=>p/\q) ct
open Classical in
def IY (ct:Ct):Option (Bool×AV):=Ct.rec (motive:=λ_=>Option (Bool×AV)) (λv=>some (false,v)) (λv=>some (true,v)) (λb _ _ q y=>cond b q y) (λp _ q=>if p then q else none) ct
theorem V4 {R y:AV->Prop}:∀ {ct:Ct},OO ct R y->∃p v,IY ct=some (p,v)/\(if p then y v else R v)
 |.ret v,h=>⟨false,v,rfl,h⟩
 |.AA v,h=>⟨true,v,rfl,h⟩
 |.br b t e,h=>by
  have h':Ad b (OO t R y) (OO e R y):=h;cases b with
  |true=>exact V4 (ct:=t) h'
  |false=>exact V4 (ct:=e) h'
 |.A6 p t,h=>by have h':p/\OO t R y:=h;obtain⟨q,v,C,B⟩:=V4 (ct:=t) h'.2;exact⟨q,v,(if_pos h'.1).trans C,B⟩
def Hh (p:Bool) (v:AV) (H:Tr Ac) (nx:Nat):CR:=match p with
 |false=>.mk v H nx
 |true=>.AA v H nx
inductive Cv:Type 1 where
 |ret (v:AV) (up:List (Nat×Ac)) (nx:Nat)
 |AA (v:AV) (up:List (Nat×Ac)) (nx:Nat)
 |br (b:Bool) (t e:Cv)
 |A6 (p:Prop) (t:Cv)
 |gen {α:Type} (a:α) (f:α->Cv)
abbrev Da:=Tr Ac->Nat->List AV->Option Cv
abbrev Cq:=List (FuncId×Da)
def Lj (tb:Cq) (g:FuncId):Option Da:=List.rec (motive:=λ_=>Option Da) none (λp _ q=>cond (Nat.beq p.1 g) (some p.2) q) tb
def bK:Ac:=.Ix 0 0 [] 0
def Gt (o:Ac):Bool:=match o with
 |.Ix _ _ _ _=>true
 |_=>false
def Ck (l:List (Nat×Ac)) (H:Tr Ac):Tr Ac:=List.rec (motive:=λ_=>Tr Ac) H (λp _ q=>cond (Gt p.2) (q.del p.1) (q.set p.1 p.2)) l
def OP (hc:Cv) (R E:AV->List (Nat×Ac)->Nat->Prop):Prop:=Cv.rec (motive:=λ_=>Prop) R E (λb _ _ q C=>Ad b q C) (λp _ q=>p/\q) (λa _ B=>∀y,y=a->B y) hc
open Classical in
def hOut (hc:Cv):Option (Bool×AV×List (Nat×Ac)×Nat):=Cv.rec (motive:=λ_=>Option (Bool×AV×List (Nat×Ac)×Nat)) (λv up nx=>some (false,v,up,nx)) (λv up nx=>some (true,v,up,nx)) (λb _ _ q B=>cond b q B) (λp _ q=>if p then q else none) (λa _ y=>y a) hc
theorem SP {R B:AV->List (Nat×Ac)->Nat->Prop}:∀ {hc:Cv},OP hc R B->∃p v up nx,hOut hc=some (p,v,up,nx)/\(if p then B v up nx else R v up nx)
 |.ret v up nx,h=>⟨false,v,up,nx,rfl,h⟩
 |.AA v up nx,h=>⟨true,v,up,nx,rfl,h⟩
 |.br b t e,h=>by
  have h':Ad b (OP t R B) (OP e R B):=h;cases b with
  |true=>exact SP (hc:=t) h'
  |false=>exact SP (hc:=e) h'
 |.A6 p t,h=>by have h':p/\OP t R B:=h;obtain⟨q,v,up,nx,E,C⟩:=SP (hc:=t) h'.2;exact⟨q,v,up,nx,(if_pos h'.1).trans E,C⟩
 |.gen a f,h=>by have h':∀y,y=a->OP (f y) R B:=h;exact SP (hc:=f a) (h' a rfl)
def AD (P:Program) (g:FuncId) (AE:Da):Prop:=∀H nx args hc,AE H nx args=some hc->∀p v up nx',hOut hc=some (p,v,up,nx')->∀E F ρ w,Rel E F nx ρ H.get w->LK P (.fn g args) w ρ (Nv E F nx ρ (Hh p v (Ck up H) nx'))
def Db (P:Program) (ht:Cq):Prop:=∀g AE,Lj ht g=some AE->AD P g AE
theorem Ty (P:Program):Db P []:=λ_ _ h=>by cases h
theorem BN {P:Program} {ht:Cq} {g:FuncId} {AE:Da} (h:AD P g AE) (E:Db P ht):Db P ((g,AE)::ht):=by
 intro B y C;have q:cond (Nat.beq g B) (some AE) (Lj ht B)=some y:=C;cases hb:Nat.beq g B with
 |true=>rw[hb]at q;injection q with q;rw[<-q,<-Nat.eq_of_beq_eq_true hb];exact h
 |false=>rw[hb]at q;exact E B y q
structure RCt where
 X:Type
 pre:Prop
 Q:X->Prop
 v:X->AV
abbrev YP:=Tr Ac->List AV->Option RCt
abbrev jt:=List (FuncId×YP)
def WZ (tb:jt) (g:FuncId):Option YP:=List.rec (motive:=λ_=>Option YP) none (λp _ q=>cond (Nat.beq p.1 g) (some p.2) q) tb
def Ado (P:Program) (g:FuncId) (AE:YP):Prop:=∀H args q,AE H args=some q->q.pre->∀E F ρ w nx H',(∀g l,H.get g=some (.Js l)->∃cs e fz,E.base g=some (.cells cs e fz)/\∀y,AF y l cs.toList)->Rel E F nx ρ H'.get w-> LK P (.fn g args) w ρ (λe w'=>∃r:CR,(∃x,q.Q x/\r=.mk (q.v x) H' (nx+1))/\Nv E F nx ρ r e w')
def uE (P:Program) (rt:jt):Prop:=∀g AE,WZ rt g=some AE->Ado P g AE
theorem AjV (P:Program):uE P []:=λ_ _ h=>by cases h
structure Adp where
 X:Type
 pre:Prop
 Q:X->Prop
 v:X->AV
 up:X->List (Nat×Ac)
 nx:Nat
abbrev YQ:=Tr Ac->Nat->List AV->Option Adp
abbrev js:=List (FuncId×YQ)
def cJ (tb:js) (g:FuncId):Option YQ:=List.rec (motive:=λ_=>Option YQ) none (λp _ q=>cond (Nat.beq p.1 g) (some p.2) q) tb
def Adq (P:Program) (g:FuncId) (AE:YQ):Prop:=∀H nx args q,AE H nx args=some q->q.pre->∀E F ρ w,Rel E F nx ρ H.get w-> LK P (.fn g args) w ρ (λe w'=>∃r:CR,(∃x,q.Q x/\r=.mk (q.v x) (Ck (q.up x) H) q.nx)/\Nv E F nx ρ r e w')
def uD (P:Program) (rt:js):Prop:=∀g AE,cJ rt g=some AE->Adq P g AE
theorem AjI (P:Program):uD P []:=λ_ _ h=>by cases h
def Km (tb:DQ) (ht:Cq):DZ:=λt H nx=>match t with
 |.fn g args=>Option.rec (motive:=λ_=>Option CR) (ob (look tb g) λAE=>ob (AE H args) λct=>ob (IY ct) λo=>some (Hh o.1 o.2 H (nx+1)))
   (λAE=>ob (AE H nx args) λhc=>ob (hOut hc) λo=>some (Hh o.1 o.2.1 (Ck o.2.2.1 H) o.2.2.2)) (Lj ht g)
 |.Dr _ _=>none
structure CV where
 X:Type
 T:St->Nat->X->List (Nat×AV)
 H:St->Nat->X->List (Nat×Ac)
 nx:St->Nat->Nat
 I:St->X->Prop
 m:X->Nat
abbrev KX:=AX->St->Prop
abbrev KC:=CR->Prop
structure Ctx where
 P:Program
 tb:DQ
 lp:FuncId->Nat->Option CV
 cut:FuncId->Nat->Option CV
 ht:Cq:=[]
 Am:Db P ht:=by exact Ty _
 rt:jt:=[]
 rok:uE P rt:=by exact AjV _
 pl:FuncId->Nat->St->Bool:=λ_ _ _=>false
 fr:FuncId->Nat->List Nat:=λ_ _=>[]
 fl:FuncId->Nat->List Nat:=λ_ _=>[]
 rh:js:=[]
 AjJ:uD P rh:=by exact AjI _
structure Ft where
 code:Nat->FuncId->Code->St->KX->Prop
 call:FuncId->List AV->Tr Ac->Nat->KC->Prop
def A7.{u} {α:Type u} (x:Option α) (K:α->Prop):Prop:=Option.rec (motive:=λ_=>Prop) False K x
theorem BG.{u} {α:Type u} {x:Option α} {K:α->Prop} (h:A7 x K):∃a,x=some a/\K a:=by
 cases x with
 |none=>exact h.elim
 |some a=>exact⟨a,rfl,h⟩
def NZ:DZ:=λ_ _ _=>none
def Qt (ops:Array Oper) (T:Tr AV) (o:Oper) (K:Tr AV->Bool->Prop):Prop:=
 match o.guard with
 |none=>K T true
 |some (j,q)=>A7 (ops[j]?) λy=>A7 y.dst λd=>A7 (T.get d) λv=>match v with
  |.bool b=>Ad b (K (T.set d (.bool true)) q) (K (T.set d (.bool false)) (!q))
  |_=>K T false
def kh (X:Operand->Option AV) (op:Op) (C:K4->Prop):Prop:=
 match op with
 |.call c=>match c.callee with
  |.value f=>A7 (X f) λy=>A7 (F3 X c.args.toList) λq=>A7 (Jq y q) C
  |_=>False
 |_=>False
def lA (kd:TypeDesc) (k:CN) (z:AV) (K:Bool->AV->Prop) (B:List DJ):Prop:=List.rec (motive:=λ_=>Prop) (K false z) (λe _ y=>A7 (NT kd e.key) λs=>A7 (QA k s) λq=>Ad q (K true e.val) y) B
def Zl (P:Program) (X:Operand->Option AV) (H:Tr Ac) (nx:Nat) (op:Op) (K:KC) (D:Prop):Prop:=
 match op with
 |.lookup t m k ok=>A7 (X m) λm=>A7 (X k) λk=>A7 (P.underlying t) λd=>match d with
  |.map key q=>A7 (P.underlying key) λkd=>Ap (WJ kd) (A7 (NT kd k) λs=>A7 (Sd P q) λz=>match m with
   |.map id=>A7 (H.get id) λo=>match o with
    |.map es _=>lA kd s z (λhas v=>K (.mk (cond ok (.AL [v,.bool has]) v) H nx)) es
    |_=>False
   |_=>False)
  |_=>False
 |_=>D
def tM (z:Int) (K:Nat->Prop) (n:Nat):Prop:=Nat.rec (motive:=λ_=>Prop) False (λj q=>Ad (Ak z (j:Int)) (K j) q) n
theorem Ac3 {z:Int} {K:Nat->Prop}:∀ {n:Nat},tM z K n->∃j,j<n/\z=(j:Int)/\K j
 |0,h=>h.elim
 |n+1,h=>by
  obtain⟨E,C⟩:=FH.1 (show Ad (Ak z (n:Int)) (K n) (tM z K n)from h);cases hb:Ak z (n:Int)with
  |true=>exact⟨n,Nat.lt_succ_self _,by simpa[Dt]using hb,E hb⟩
  |false=>obtain⟨j,B,y,q⟩:=Ac3 (C hb);exact⟨j,Nat.lt_succ_of_lt B,y,q⟩
def V5 (P:Program) (X:Operand->Option AV) (op:Op) (K:AV->Prop) (D:Prop):Prop:=
 match op with
 |.indexAddr t x i=>match X x,X i with
  |some (.sl id off n _),some (.int _ z)=>cond (Nat.ble n 8) (A7 (P.underlying t) λd=>match d with
   |.slice e=>A7 (P.underlying e) λ_=>tM z (λj=>fN (off+j*P.cellsOf e) λo=>K (.ptr id o)) n
   |_=>D) D
  |_,_=>D
 |_=>D
theorem vF {P:Program} {H:Tr Ac} {X:Operand->Option AV} {op:Op} {K:AV->Prop} {D:Prop} (h:V5 P X op K D):D\/∃v,Hd P H X op=some v/\K v:=by
 unfold V5 at h;split at h
 ·rename_i t x i;split at h
  ·rename_i id off n cap k z E hi;cases hb:Nat.ble n 8 with
   |false=>rw[hb]at h;exact .inl h
   |true=>
    rw[hb,cond_true]at h;obtain⟨d,hd,q⟩:=BG h;split at q
    ·rename_i e;obtain⟨de,B,L⟩:=BG q;obtain⟨j,J,rfl,C⟩:=Ac3 L;rw[Bu]at C;refine .inr ⟨_,?_,C⟩;have y:Nat.blt j n=true:=by rw[Nat.blt_eq];exact J
     show(ob (X x) λa=>ob (X i) λb=>Tg P t a b)=_;rw[E,hi];show Tg P t (.sl id off n cap) (.int k (.ofNat j))=_;simp only[Tg,hd,B,ob,gd,y,cond_true,Bu]
    ·exact .inl q
  ·exact .inl h
 ·exact .inl h
def Zm (P:Program) (X:Operand->Option AV) (H:Tr Ac) (ni nx nx':Nat) (op:Op) (K:KC) (C:K4->Prop):Prop:=Option.rec (motive:=λ_=>Prop) (V5 P X op (λv=>K (.mk v H nx)) (Option.rec (motive:=λ_=>Prop) (Option.rec (motive:=λ_=>Prop) (Option.rec (motive:=λ_=>Prop) (Option.rec (motive:=λ_=>Prop) (Option.rec (motive:=λ_=>Prop) (Zl P X H nx op K (kh X op C)) K (Gq P NZ X H ni nx' op)) (λr=>Ap r.1 (K (.mk r.2.1 r.2.2 nx'))) (JI P X H ni op)) (λp=>K (.mk p.1 (H.set ni p.2) nx')) (It P X ni op)) (λr=>Ap r.1 (K (.mk r.2.1 (H.set ni r.2.2) nx'))) (Jh P X ni op)) (λv=>K (.mk v H nx)) (Hd P H X op))) (λr=>Ap r.1 (K (.mk r.2 H nx))) (HP P H X op)
def LP (N:Nat) (T:Tr AV) (dst:Option Tmp) (v:AV) (K:Tr AV->Prop):Prop:=
 match dst with
 |none=>K T
 |some d=>Ap (Nat.blt d N) (K (T.set d v))
def F5 (o:Oper) (s:St) (K:KX) (q:St->Prop) (r:CR):Prop:=
 match r with
 |.mk v H nx=>LP s.N s.T o.dst v λT=>q ⟨s.N,T,H,nx,s.ro,s.D⟩
 |.AA v H nx=>K (.AA v) ⟨s.N,s.T,H,nx,s.ro,s.D⟩
 |.Dc g args H nx=>match s.ro with
  |none=>LP s.N s.T o.dst (.AL []) λT=>q ⟨s.N,T,H,nx,s.ro,.call g args::s.D⟩
  |some _=>False
def Z4 (fz:List FZ) (id:Nat):Option FZ:=List.rec (motive:=λ_=>Option FZ) none (λz _ q=>cond (Nat.beq z.id id) (some z) q) fz
def QG (fz:List FZ) (a:AV):Bool×AV:=
 match a with
 |.AJ id n e=>Option.rec (motive:=λ_=>Bool×AV) (true,.AJ id n e) (λz=>(cond (Nat.beq e z.Ar) (Nat.beq n z.n) false,z.a)) (Z4 fz id)
 |a=>(true,a)
def Z5 (fz:List FZ) (a:Option AV):Bool×Option AV:=Option.rec (motive:=λ_=>Bool×Option AV) (true,none) (λa=>((QG fz a).1,some (QG fz a).2)) a
def To (fz:List FZ) (T:Tr AV):Bool×Tr AV:=Tr.rec (motive:=λ_=>Bool×Tr AV) (true,.leaf) (λv _ _ il ir=>(cond (Z5 fz v).1 (cond il.1 ir.1 false) false,.node (Z5 fz v).2 il.2 ir.2)) T
def IZ (fz:List FZ) (T:Tr AV):Bool×Tr AV:=
 match fz with
 | []=>(true,T)
 |fz=>To fz T
def Abk:FuncId:=1000000
def Zn (E:Ft) (id:Nat) (args:List AV) (H:Tr Ac) (nx:Nat) (K:KC):Prop:=A7 (H.get id) λo=>match o with
  |.loop _ _ T N C y body _=>A7 (sP C.toList args N T) λT'=>E.code nx Abk y ⟨N,T',H,nx,some id,[]⟩ λx s=>match x with
   |.Cc=>A7 (cK s.H id λst Dp=>match st with
     |.ready=>some (.busy,Dp)
     |_=>none) λH1=>E.code nx Abk body ⟨s.N,s.T,H1,s.nx,s.ro,s.D⟩ λq B=>Ap q.calm (A7 (cK B.H id λ_ _=>some (cond q.jump.isNone .ready .done,q.jump)) λJ=>K (.mk (.bool q.jump.isNone) J B.nx))
   |_=>False
  |_=>False
def lE (E:Ft) (f:Operand) (y:Array Tmp) (q body:Code) (s:St) (K:KX):Prop:=A7 (B2 s.T f) λB=>match s.ro with
  |none=>fN (s.nx+1) λl=>fN (l+1) λnx=>A7 (Jq B [.Dr l]) λt=>match t with
   |.fn g args=>E.call g args ((s.H.set s.nx (.Dc true)).set l (.loop .ready none s.T s.N y q body s.nx)) nx λr=>match r with
    |.mk _ H nx'=>A7 (H.get l) λo=>match o with
     |.loop st Dp _ _ _ _ _ _=>A7 (nz Dp) λx=>A7 (cK H l λ_ _=>match st with
       |.busy=>none
       |_=>some (.exhausted,Dp)) λH'=>K x ⟨s.N,s.T,H',nx',s.ro,.mark s.nx::s.D⟩
     |_=>False
    |_=>False
   |_=>False
  |some _=>False
def lG (cx:Ctx) (E:Ft) (o:Oper) (s:St) (nx':Nat) (K:KX) (y:St->Prop) (t:K4):Prop:=
 match t with
 |.Dr id args=>Zn E id args s.H nx' (F5 o s K y)
 |.fn g args=>Option.rec (motive:=λ_=>Prop) (Option.rec (motive:=λ_=>Prop) (E.call g args s.H nx' (F5 o s K y))
  (λAE=>A7 (QE cx.P s.H args) λr=>Ap r.1 (A7 (AE s.H r.2.1) λct=>(λq:Bool×Tr AV=>Ap q.1 (OO ct (λv=>F5 o ⟨s.N,q.2,CW s.H r.2.2.2,nx',s.ro,s.D⟩ K y (.mk v (CW s.H r.2.2.2) (nx'+1))) (λv=>F5 o ⟨s.N,q.2,CW s.H r.2.2.2,nx',s.ro,s.D⟩ K y (.AA v (CW s.H r.2.2.2) (nx'+1))))) (IZ r.2.2.1 s.T))) (look cx.tb g))
  (λAE=>A7 (AE s.H nx' args) λhc=>OP hc (λv up nx=>F5 o ⟨s.N,s.T,s.H,nx',s.ro,s.D⟩ K y (.mk v (Ck up s.H) nx)) (λv up nx=>F5 o ⟨s.N,s.T,s.H,nx',s.ro,s.D⟩ K y (.AA v (Ck up s.H) nx))) (Lj cx.ht g)
def vJ (cx:Ctx) (E:Ft) (o:Oper) (s:St) (nx':Nat) (K:KX) (B:St->Prop) (t:K4):Prop:=
 match t with
 |.Dr id args=>Zn E id args s.H nx' (F5 o s K B)
 |.fn g args=>Option.rec (motive:=λ_=>Prop) (Option.rec (motive:=λ_=>Prop) (lG cx E o s nx' K B (.fn g args))
  (λAE=>A7 (QE cx.P s.H args) λr=>Ap r.1 (A7 (AE s.H r.2.1) λy=>(λq:Bool×Tr AV=>Ap q.1 (y.pre/\∀x,y.Q x->F5 o ⟨s.N,q.2,CW s.H r.2.2.2,nx',s.ro,s.D⟩ K B (.mk (y.v x) (CW s.H r.2.2.2) (nx'+1)))) (IZ r.2.2.1 s.T))) (WZ cx.rt g))
  (λAE=>A7 (AE s.H nx' args) λy=>y.pre/\∀x,y.Q x->F5 o ⟨s.N,s.T,s.H,nx',s.ro,s.D⟩ K B (.mk (y.v x) (Ck (y.up x) s.H) y.nx)) (cJ cx.rh g)
def FI (cx:Ctx) (E:Ft) (ops:Array Oper) (K:KX) (l:List Oper):St->Prop:=List.rec (motive:=λ_=>St->Prop) (λs=>K .Cc s) (λo _ q s=>Qt ops s.T o λT y=>cond y (fN (s.nx+1) λnx'=>Zm cx.P (B2 T) s.H s.nx s.nx nx' o.op (F5 o ⟨s.N,T,s.H,s.nx,s.ro,s.D⟩ K q) (vJ cx E o ⟨s.N,T,s.H,s.nx,s.ro,s.D⟩ nx' K q)) (LP s.N T o.dst (.AL []) λT=>q ⟨s.N,T,s.H,s.nx,s.ro,s.D⟩)) l
def SO (T:Tr AV) (c:Operand) (A B:Tr AV->Prop):Prop:=
 match c with
 |.tmp d=>A7 (T.get d) λv=>match v with
  |.bool b=>Ad b (A (T.set d (.bool true))) (B (T.set d (.bool false)))
  |_=>False
 |.const (.bool b)=>Ad b (A T) (B T)
 |_=>False
def La (c:Code):Option Nat:=Code.rec (motive:=λ_=>Option Nat) none (λid _ _=>some id) (λ_ _ B y=>Option.rec (motive:=λ_=>Option Nat) y some B) (λ_ _ _ _ _=>none) (λ_ _ q=>q) (λ_ q=>q) (λ_ _ _ _ _ _=>none) (λ_=>none) (λ_ q=>q) (λ_=>none) (λ_=>none) none (λ_=>none) c
def sV (S:CV) (s:St) (n0:Nat) (x:S.X):St:=⟨s.N,TI (S.T s n0 x),AU (S.H s n0 x),S.nx s n0,none,[]⟩
def MV (s:St) (l:List Nat):List (Nat×AV):=List.rec (motive:=λ_=>List (Nat×AV)) [] (λt _ q=>Option.rec (motive:=λ_=>List (Nat×AV)) q (λv=>(t,v)::q) (s.T.get t)) l
def oE (s:St) (n0:Nat):List (Nat×Ac):=List.rec (motive:=λ_=>List (Nat×Ac)) [] (λt _ q=>Option.rec (motive:=λ_=>List (Nat×Ac)) q (λv=>(t,v)::q) (s.H.get t)) (List.range s.nx)
def thin (X:Type) (ks:List Nat) (T:X->List (Nat×AV)) (I:St->X->Prop) (m:X->Nat):CV:=⟨X,λs _ x=>T x++MV s ks,λs n0 _=>oE s n0,λs _=>s.nx,I,m⟩
def kk (E:Ft) (S:CV) (n0:Nat) (f:FuncId) (a b:Code) (s:St) (K:KX):Prop:=(E.code n0 f a s λax s'=>match ax with
  |.Cc=>∃x:S.X,S.I s x/\B5 n0 s.N (S.nx s n0) (S.T s n0 x) (S.H s n0 x) s'
  |ax=>K ax s')/\
 ∀x:S.X,S.I s x->E.code n0 f b (sV S s n0 x) K
def Qs (P:Program) (B:List Nat) (K:St->Prop) (s:St):Prop:=List.rec (motive:=λ_=>St->Prop) K (λd _ y s=>A7 (s.T.get d) λv=>A7 (Jr P s.H v) λr=>Ap r.1 ((λq:Bool×Tr AV=>Ap q.1 (y ⟨s.N,q.2.set d r.2.1,CW s.H r.2.2.2,s.nx,s.ro,s.D⟩)) (IZ r.2.2.1 s.T))) B s
def OQ (P:Program) (B:List Nat) (E:Ft) (S:CV) (n0:Nat) (f:FuncId) (c:Code) (s:St) (K:KX):Prop:=(∃y:S.X,S.I s y/\B5 n0 s.N (S.nx s n0) (S.T s n0 y) (S.H s n0 y) s)/\ ∀x:S.X,S.I s x->E.code n0 f c (sV S s n0 x) λax s'=>match ax with
  |.Cc=>Qs P B (λs'=>∃q:S.X,S.I s q/\S.m q<S.m x/\B5 n0 s.N (S.nx s n0) (S.T s n0 q) (S.H s n0 q) s') s'
  |ax=>K ax s'
def NJ (cx:Ctx) (f:FuncId) (c:Code):List Nat:=Option.rec (motive:=λ_=>List Nat) [] (λr=>cx.fl f r) (La c)
def uw (cx:Ctx) (E:Ft) (D:Array Oper->St->KX->Prop) (n0:Nat) (f:FuncId) (c:Code) (s:St) (K:KX):Prop:=
 match c with
 |.skip=>K .Cc s
 |.region id ops false=>Qs cx.P (cx.fr f id) (λs=>FI cx E ops K ops.toList s) s
 |.region id ops true=>Qs cx.P (cx.fr f id) (λs=>D ops s K) s
 |.seq a b=>Option.rec (motive:=λ_=>Prop) (E.code n0 f a s λax s'=>match ax with
   |.Cc=>E.code n0 f b s' K
   |ax=>K ax s') (λS=>kk E S n0 f a b s K) (Option.rec (motive:=λ_=>Option CV) none (λr=>cx.cut f r) (La b))
 |.cond c a b=>SO s.T c (λT=>E.code n0 f a ⟨s.N,T,s.H,s.nx,s.ro,s.D⟩ K) (λT=>E.code n0 f b ⟨s.N,T,s.H,s.nx,s.ro,s.D⟩ K)
 |.block id c=>E.code n0 f c s λax s'=>match ax with
   |.exit q=>cond (Nat.beq q id) (K .Cc s') (K (.exit q) s')
   |ax=>K ax s'
 |.loop c=>Option.rec (motive:=λ_=>Prop) (E.code n0 f c s λax s'=>match ax with
   |.Cc=>E.code n0 f (.loop c) s' K
   |ax=>K ax s') (λS=>cond (Option.rec (motive:=λ_=>Bool) false (λr=>cx.pl f r s) (La c)) (E.code n0 f c s λax s'=>match ax with
   |.Cc=>OQ cx.P (NJ cx f c) E S n0 f c s' K
   |ax=>K ax s') (OQ cx.P (NJ cx f c) E S n0 f c s K)) (Option.rec (motive:=λ_=>Option CV) none (λr=>cx.lp f r) (La c))
 |.exit id=>K (.exit id) s
 |.label _=>K .Cc s
 |.goto l=>K (.goto l) s
 |.ret=>K .ret s
 |.scope c=>E.code n0 f c s λax s'=>match ax with
   |.goto _=>False
   |ax=>K ax s'
 |.rangeFunc g B y body=>lE E g B y body s K
 |_=>False
abbrev KD:=AX->St->MD->Prop
def vH (s:St) (dst:Option Tmp) (m:MD) (K:KD):Prop:=
 match m with
 |.AA v=>A7 (Jp s.N s.T dst v) λT=>K .Cc ⟨s.N,T,s.H,s.nx,s.ro,s.D⟩ (.Ka v)
 |.ret=>A7 (Jp s.N s.T dst .EF) λT=>K .Cc ⟨s.N,T,s.H,s.nx,s.ro,s.D⟩ .ret
 |.Ka v=>A7 (Jp s.N s.T dst .EF) λT=>K .Cc ⟨s.N,T,s.H,s.nx,s.ro,s.D⟩ (.Ka v)
def Qr (E:Ft) (n0:Nat) (f:FuncId) (k:Nat):Code->St->MD->KD->Prop:=Nat.rec (motive:=λ_=>Code->St->MD->KD->Prop) (λ_ _ _ _=>False) (λ_ y c s m K=>match c with
  |.seq a b=>y a s m λx s' q=>match x with
   |.Cc=>y b s' q K
   |x=>K x s' q
  |.cond c a b=>SO s.T c (λT=>y a ⟨s.N,T,s.H,s.nx,s.ro,s.D⟩ m K) (λT=>y b ⟨s.N,T,s.H,s.nx,s.ro,s.D⟩ m K)
  |.block id c=>y c s m λx s' q=>match x with
   |.exit B=>cond (Nat.beq B id) (K .Cc s' q) (K (.exit B) s' q)
   |x=>K x s' q
  |.region id ops false=>Option.rec (motive:=λ_=>Prop) (E.code n0 f (.region id ops false) s λx s'=>K x s' m) (λdst=>vH s dst m K) (U2 ops.toList)
  |c=>E.code n0 f c s λx s'=>K x s' m) k
def ko (P:Program) (E:Ft) (g:FuncId) (args:List AV) (H:Tr Ac) (nx:Nat) (m:MD) (K:MD->Tr Ac->Nat->Prop):Prop:=
 A7 (P.funcs[g]?) fun fn => Ap (!(fn.name == "runtime.NumGoroutine")) (A7 fn.body fun c =>
  fN args.length λn=>fN (n+(fn.ntmps-n)) λN=>Qr E nx g 60 c ⟨N,setArgs args .leaf 0,H,nx,none,[]⟩ m λx s m'=>cond (match x with
   |.Cc=>true
   |.ret=>true
   |_=>false) (Ap s.D.isEmpty (A7 (Tk P s.H s.T fn.results.toList) λ_=>K m'.settle s.H s.nx)) False)
def Zk (P:Program) (E:Ft) (l:List Qe):MD->Tr Ac->Nat->(MD->Tr Ac->Nat->Prop)->Prop:=List.rec (motive:=λ_=>MD->Tr Ac->Nat->(MD->Tr Ac->Nat->Prop)->Prop) (λm H nx K=>K m H nx) (λd _ q m H nx K=>match d with
   |.mark id=>A7 (H.get id) λo=>match o with
    |.Dc true=>q m (H.set id (.Dc false)) nx K
    |_=>False
   |.call g args=>ko P E g args H nx m λm H nx=>q m H nx K) l
def Zj (P:Program) (E:Ft) (fn:Func) (K:KC) (m:MD) (s:St):Prop:=Zk P E s.D m s.H s.nx λm H nx=>match m with
  |.ret=>A7 (Tk P H s.T fn.results.toList) λv=>K (.mk v H nx)
  |.AA v=>K (.AA v H nx)
  |.Ka _=>False
def vG (P:Program) (E:Ft) (fn:Func) (K:KC) (ax:AX) (s:St):Prop:=
 match s.D with
 | []=>match ax with
  |.Cc=>A7 (Tk P s.H s.T fn.results.toList) λv=>K (.mk v s.H s.nx)
  |.ret=>A7 (Tk P s.H s.T fn.results.toList) λv=>K (.mk v s.H s.nx)
  |.AA v=>K (.AA v s.H s.nx)
  |_=>False
 |_=>match ax with
  |.Cc=>Zj P E fn K .ret s
  |.ret=>Zj P E fn K .ret s
  |.AA v=>Zj P E fn K (.AA v) s
  |_=>False
def vE (cx:Ctx) (E:Ft) (g:FuncId) (args:List AV) (H:Tr Ac) (nx:Nat) (K:KC):Prop:=
 A7 (cx.P.funcs[g]?) fun fn => Ap (!(fn.name == "runtime.NumGoroutine")) (A7 fn.body fun c =>
  fN args.length λn=>fN (n+(fn.ntmps-n)) λN=>E.code nx g c ⟨N,setArgs args .leaf 0,H,nx,none,[]⟩ (vG cx.P E fn K))
def kz (cx:Ctx) (D:Array Oper->St->KX->Prop) (n:Nat):Ft:=Nat.rec (motive:=λ_=>Ft) ⟨λ_ _ _ _ _=>False,λ_ _ _ _ _=>False⟩ (λ_ E=>⟨uw cx E D,vE cx E⟩) n
end Go.Ev
end
section
/- The symbolic layer, part J: what the sentence says holds: operations, calls, regions in order. -/
namespace Go.Ev
def gK (E:Env) (F:Nat->Option Obj) (nx:Nat) (ρ:Af) (K:KC) (e:Ending) (w':World):Prop:=∃r,K r/\Nv E F nx ρ r e w'
def K2 (P:Program) (call:FuncId->List AV->Tr Ac->Nat->KC->Prop):Prop:=∀g args H nx K,call g args H nx K->∀E F ρ w,Rel E F nx ρ H.get w->LK P (.fn g args) w ρ (gK E F nx ρ K)
def Adk (E:Env) (H:Tr Ac):Prop:=∀g l,H.get g=some (.Js l)->∃cs e fz,E.base g=some (.cells cs e fz)/\∀q,AF q l cs.toList
def Ci (P:Program) (g:FuncId) (AE:Tr Ac->List AV->Option Ct):Prop:=∀H args ct,AE H args=some ct->∀p v,IY ct=some (p,v)->∀E F ρ w nx H',Adk E H->Rel E F nx ρ H'.get w->LK P (.fn g args) w ρ (Nv E F nx ρ (Hh p v H' (nx+1)))
def DP (P:Program) (tb:DQ):Prop:=∀g AE,look tb g=some AE->Ci P g AE
theorem Ahz (P:Program):K3 P NZ:=λ_ _ _ _ h=>by cases h
theorem vL {P:Program} {tb:DQ} {ht:Cq} (h:DP P tb) (O:Db P ht):K3 P (Km tb ht):=by
 intro t H nx r y E F ρ w rel;cases t with
 |Dr _ _=>cases y
 |fn g args=>
  have q:Option.rec (motive:=λ_=>Option CR) (ob (look tb g) λAE=>ob (AE H args) λct=>ob (IY ct) λo=>some (Hh o.1 o.2 H (nx+1))) (λAE=>ob (AE H nx args) λhc=>ob (hOut hc) λo=>some (Hh o.1 o.2.1 (Ck o.2.2.1 H) o.2.2.2)) (Lj ht g)=some r:=y;clear y;cases C:Lj ht g with
  |some AE=>rw[C]at q;obtain⟨hc,L,K⟩:=Ae.1 q;obtain⟨⟨p,v,up,n⟩,B,J⟩:=Ae.1 K;injection J with J;subst J;exact O g AE C H nx args hc L p v up n B E F ρ w rel
  |none=>
  rw[C]at q;have y:=q;obtain⟨AE,he,L⟩:=Ae.1 y;obtain⟨ct,hc,K⟩:=Ae.1 L;obtain⟨⟨p,v⟩,M,B⟩:=Ae.1 K;injection B with B;subst B;exact h g AE he H args ct hc p v M E F ρ w nx H rel.gl rel
theorem vD {ρ:Af} {kd:TypeDesc} {k:CN} {z:AV} {u B:Value} {K:Bool->AV->Prop} (E:KR kd k u) (hz:VR ρ z B):∀ {y:List DJ} {l:List MapEntry},Ek ρ y l->∀(i:Nat),lA kd k z K y->∃has val v,K has val/\VR ρ val v/\(if has then∃j,Instr.findNow kd u l i=some (some (j,v))else Instr.findNow kd u l i=some none/\v=B)
 |_,_,.nil,i,h=>⟨false,z,B,h,hz,by simp[Instr.findNow]⟩
 |_,_,.cons e m y l J L,i,h=>by
  obtain⟨s,C,Y⟩:=BG (show A7 (NT kd e.key) (λs=>A7 (QA k s) λq=>Ad q (K true e.val) (lA kd k z K y))from h);obtain⟨q,M,W⟩:=BG Y;obtain⟨V,U⟩:=FH.1 W;have hn:=we E (bX J.1 C) M;cases q with
  |true=>exact⟨true,e.val,m.val,V rfl,J.2.1,by simp[Instr.findNow,hn]⟩
  |false=>obtain⟨has,val,v,S,R,O⟩:=vD E hz L (i+1) (U rfl);exact⟨has,val,v,S,R,by simpa[Instr.findNow,hn]using O⟩
theorem Ad0 {P:Program} {X:Operand->Option AV} {H:Tr Ac} {nx:Nat} {op:Op} {K:KC} {D:Prop} (h:Zl P X H nx op K D):D\/∃t m k ok,op=.lookup t m k ok/\ ∀(E:Env) (F:Nat->Option Obj) (n:Nat) (ρ:Af) (w:World) (J:Operand->Value),Rel E F n ρ H.get w->XR ρ X J->∃a z,K (.mk a H nx)/\(Instr.lookup t (J m) (J k) ok).run P w=.ok z w/\VR ρ a z:=by
 unfold Zl at h;split at h
 ·rename_i t m k ok;refine .inr ⟨t,m,k,ok,rfl,λE F n ρ w J r hX=>?_⟩;obtain⟨ma,Y,h1⟩:=BG h;obtain⟨ka,ab,h2⟩:=BG h1;obtain⟨d,hd,S⟩:=BG h2;have hm:=hX _ _ Y;have hk:=hX _ _ ab;generalize J m=u at hm;generalize J k=v at hk;clear h h1 h2;split at S
  ·rename_i key ae;obtain⟨kd,y,h4⟩:=BG S;obtain⟨aa,h5⟩:=Eh.1 h4;obtain⟨s,V,h6⟩:=BG h5;obtain⟨z,hz,R⟩:=BG h6;have Z:=bX hk V;obtain⟨zv,L,U⟩:=Sf hz w;have B:=λe=>Zq (P:=P) y aa e 9999 v w;split at R
   ·obtain⟨o,ho,O⟩:=BG R;split at O
    ·rename_i es ad;cases hm with
     |map _ b hb=>
      obtain⟨c,hc,W⟩:=r.ob _ _ b ho hb;cases W with
      |map _ _ l hl=>
       obtain⟨has,val,q,h9,M,C⟩:=vD Z (U ρ) hl 0 O;refine⟨_,?_,h9,?_⟩
       ·exact cond ok (.tuple #[q,.bool has]) q
       ·cases has with
        |true=>
         obtain⟨j,C⟩:=C;cases ok with
         |true=>refine⟨?_,.AL _ [q,.bool true] (.cons _ _ _ _ M (.cons _ _ _ _ (.bool true) .nil))⟩;simp[Instr.lookup,run_underlying hd,B,Instr.findKey,run_underlying y,C,getObj,Sem.run,hc]
         |false=>refine⟨?_,M⟩;simp[Instr.lookup,run_underlying hd,B,Instr.findKey,run_underlying y,C,getObj,Sem.run,hc]
        |false=>
         obtain⟨C,rfl⟩:=C;cases ok with
         |true=>refine⟨?_,.AL _ [q,.bool false] (.cons _ _ _ _ M (.cons _ _ _ _ (.bool false) .nil))⟩;simp[Instr.lookup,run_underlying hd,B,Instr.findKey,run_underlying y,C,getObj,Sem.run,hc,L]
         |false=>refine⟨?_,M⟩;simp[Instr.lookup,run_underlying hd,B,Instr.findKey,run_underlying y,C,getObj,Sem.run,hc,L]
    ·exact O.elim
   ·exact R.elim
  ·exact S.elim
 ·exact .inl h
theorem Ad1 {P:Program} {X:Operand->Option AV} {H:Tr Ac} {ni nx nx':Nat} {op:Op} {K:KC} {C:K4->Prop} (h:Zm P X H ni nx nx' op K C): (∃r,ML P NZ X H ni nx nx' op=some r/\K r)\/Zl P X H nx op K (kh X op C):=by
 unfold Zm at h;cases L:HP P H X op with
 |some r=>rw[L]at h;obtain⟨B,y⟩:=Eh.1 h;obtain⟨b,v⟩:=r;simp only at B;subst B;exact .inl ⟨_,by unfold ML;rw[sD L],y⟩
 |none=>
 rw[L]at h;rcases vF (H:=H) h with h|⟨v,hv,R⟩
 rotate_left
 ·exact .inl ⟨_,by unfold ML;rw[Xc L hv],R⟩
 cases B:Hd P H X op with
 |some v=>rw[B]at h;exact .inl ⟨_,by unfold ML;rw[Xc L B],h⟩
 |none=>
 rw[B]at h;have M:Dl P H X op=none:=by unfold Dl;rw[L];exact B
 cases y:Jh P X ni op with
 |some r=>rw[y]at h;obtain⟨q,J⟩:=Eh.1 h;obtain⟨b,v,o⟩:=r;simp only at q;subst q;exact .inl ⟨_,by unfold ML;rw[M,AbH y],J⟩
 |none=>
 rw[y]at h;cases q:It P X ni op with
 |some p=>rw[q]at h;exact .inl ⟨_,by unfold ML;rw[M,Aal y q],h⟩
 |none=>
 rw[q]at h;have O:EE P X ni op=none:=by unfold EE;rw[y];exact q
 cases J:JI P X H ni op with
 |some r=>rw[J]at h;obtain⟨E,S⟩:=Eh.1 h;obtain⟨b,v,H'⟩:=r;simp only at E;subst E;exact .inl ⟨_,by unfold ML;rw[M,O,AbD J],S⟩
 |none=>
 rw[J]at h;cases E:Gq P NZ X H ni nx' op with
 |some r=>rw[E]at h;exact .inl ⟨_,by unfold ML;rw[M,O,Ww J E],h⟩
 |none=>rw[E]at h;exact .inr h
theorem Ad6 {ops:Array Oper} {T:Tr AV} {o:Oper} {K:Tr AV->Bool->Prop} (h:Qt ops T o K):∃T' J,K T' J/\EX ops T o=some J/\∀t,T'.get t=T.get t:=by
 unfold Qt at h;unfold EX;split at h
 ·rename_i B;rw[B];exact⟨T,true,h,rfl,λ_=>rfl⟩
 ·rename_i j L B;rw[B];obtain⟨W,U,S⟩:=BG h;obtain⟨d,E,R⟩:=BG S;obtain⟨v,y,C⟩:=BG R;simp only[U];have q:∀b,v=.bool b->∀t,(T.set d (.bool b)).get t=T.get t:=λb hb t=>by
   rw[Tr.F6];split
   ·rename_i e;subst e;rw[y,hb]
   ·rfl
  split at C
  ·rename_i b;obtain⟨O,M⟩:=FH.1 C;cases b with
   |true=>exact⟨_,_,O rfl,by simp[ob,E,y],q true rfl⟩
   |false=>exact⟨_,_,M rfl,by simp[ob,E,y],q false rfl⟩
  ·rename_i V;refine⟨T,false,C,?_,λ_=>rfl⟩;simp only[ob,E,y]
theorem SQ {N:Nat} {T:Tr AV} {dst:Option Tmp} {v:AV} {K:Tr AV->Prop} (h:LP N T dst v K):∃T',Jp N T dst v=some T'/\K T':=by
 unfold LP at h;split at h
 ·exact⟨T,rfl,h⟩
 ·obtain⟨y,q⟩:=Eh.1 h;exact⟨_,by unfold Jp;exact AK.2 ⟨y,rfl⟩,q⟩
theorem V6 {P:Program} {ρ:Af} {X:Operand->Option AV} {a:Act} {w:World} (hX:XR ρ X a.eval) {o:Oper} {c:Call} (ho:o.op=.call c) {f:Operand} (hc:c.callee=.value f) {fv:AV} (hf:X f=some fv) {Z:List AV} (E:F3 X c.args.toList=some Z) {g:FuncId} {q:List AV} (ht:Jq fv Z=some (.fn g q)) {R:Ending->World->Prop} (Am:LK P (.fn g q) w ρ R) {ro:Option Nat} {next:Act->World->Prop} {Q:Exit->Act->World->Prop} (hR:∀e w',R e w'->match e with
   |.returned v=>next (a.put o.dst v) w'
   |.panicked chain=>Q (.panic chain) a w'
   |.outgrown=>LetsOut Q):o.wpIn (FW ro) 0 P a w next Q:=by
 obtain⟨dst,op,type,pos,after,guard⟩:=o;simp only at ho;subst ho;obtain⟨callee,args,argTypes⟩:=c;simp only at hc E;subst hc;have K:=hX _ _ hf;have J:=Jl hX E;rw[show args.toList.map a.eval=(args.map a.eval).toList by rw[Array.toList_map]]at J;refine⟨Nz ro P _ w a.eval,?_⟩;rw[Oper.semAt_eq _ _ _ (by simp)];unfold Jq at ht;split at ht
 ·rename_i g' first cap
  injection ht with ht;injection ht with O M;subst O;subst M;generalize V:a.eval f=aa at K;cases K with
  |fn _ _ _ va vc ha hc=>
   obtain⟨⟨fn,c,U,S,Y⟩,B⟩:=Am;have W:=B _ (ha.append (J.append hc));have L:(execOp a.eval {dst,op:=.call {callee:=.value f,args,argTypes},type,pos,after,guard}).run P w=.ok (.enter g' ((va++((args.map a.eval).toList++vc)).toArray)) w:=by simp only[execOp,resolve,V,Deferred.ofValue,Sem.run_bind,Sem.run_pure,Result.andThen_ok,invoke,callFunc,run_program,U,S,Bool.false_eq_true,if_false,Y,Option.isNone_some];congr 2;apply Array.ext';simp
   rw[L];refine⟨by simp[FW,Fence.wide],?_⟩;have y:=CallsIn.mono W (R':=λ
    |.returned v,C=>next (a.put dst v) C
    |.panicked chain,C=>Q (.panic chain) a C
    |.outgrown,_=>LetsOut Q) (λe w' he=>by have:=hR e w' he;cases e<;>exact this)
   cases ro with
   |none=>exact y
   |some l=>exact y
 ·injection ht with ht;cases ht
 ·cases ht
theorem AfG {ρ B:Af} {w:World} {H:Tr Ac} {fz:List FZ} {q ids:List Nat} (hz:Vu ρ w H fz q) (hi:Fb H ids) (J:∀i∈q,i∈ids) (M:B=CO ρ w ids) (C:ρ.le B) {a:AV} {v:Value} (hv:VR ρ a v) (h:(QG fz a).1=true):VR B (QG fz a).2 v:=by
 have find:∀(l:List FZ) id z,Z4 l id=some z->z∈l/\z.id=id:=by
  intro l
  induction l with
  |nil=>intro id z h;cases h
  |cons y l O=>
   intro id z h;have h':cond (Nat.beq y.id id) (some y) (Z4 l id)=some z:=h;cases hb:Nat.beq y.id id with
   |true=>rw[hb]at h';injection h' with h';subst h';rw[Nat.beq_eq]at hb;exact⟨List.mem_cons_self ..,hb⟩
   |false=>rw[hb]at h';obtain⟨L,K⟩:=O id z h';exact⟨List.mem_cons_of_mem _ L,K⟩
 unfold QG at h⊢;split at h
 ·rename_i id n e;cases E:Z4 fz id with
  |none=>exact hv.mono C
  |some z=>rw[E]at h;have h:(cond (Nat.beq e z.Ar) (Nat.beq n z.n) false)=true:=h;obtain⟨L,K⟩:=A4 h;rw[Nat.beq_eq]at L K;obtain⟨V,U⟩:=find fz id z E;subst U;subst L;subst K;obtain⟨S,R⟩:=hz z V;rw[M];exact R ids hi (J _ S) v hv
 ·exact hv.mono C
theorem nO {fz:List FZ}:∀(T:Tr AV),(To fz T).1=true->∀(p:List Bool) (b:AV),Tr.gp p (To fz T).2=some b->∃a,Tr.gp p T=some a/\(QG fz a).1=true/\(QG fz a).2=b
 |.leaf,_,p,b,h=>by rw[show(To fz (.leaf:Tr AV)).2=.leaf from rfl,Tr.Tu]at h;cases h
 |.node v l r,h,p,b,y=>by
  have h':cond (Z5 fz v).1 (cond (To fz l).1 (To fz r).1 false) false=true:=h;obtain⟨E,B⟩:=A4 h';obtain⟨B,C⟩:=A4 B;cases p with
  |nil=>
   have q:(Z5 fz v).2=some b:=y;cases v with
   |none=>cases q
   |some a=>injection q with q;exact⟨a,rfl,E,q⟩
  |cons c p=>
   cases c with
   |true=>exact nO l B p b y
   |false=>exact nO r C p b y
theorem nN {ρ y:Af} {w:World} {H:Tr Ac} {fz:List FZ} {q ids:List Nat} (hz:Vu ρ w H fz q) (hi:Fb H ids) (C:∀i∈q,i∈ids) (E:y=CO ρ w ids) (B:ρ.le y) {T:Tr AV} {tmps:Array Value} (ht:TR ρ T tmps) (h:(IZ fz T).1=true):TR y (IZ fz T).2 tmps:=by
 unfold IZ at h⊢;split at h
 ·exact ht.mono B
 ·intro t b hb;obtain⟨a,O,M,L⟩:=nO T h _ b hb;obtain⟨v,K,J⟩:=ht t a O;subst L;exact⟨v,K,AfG hz hi C E B J M⟩
theorem Apw {P:Program} {ρ:Af} {X:Operand->Option AV} {a:Act} {w:World} (Y:XR ρ X a.eval) {o:Oper} {c:Call} (W:o.op=.call c) {f:Operand} (hc:c.callee=.value f) {Z:AV} (hf:X f=some Z) {V:List AV} (E:F3 X c.args.toList=some V) {id:Nat} {q:List AV} (ht:Jq Z V=some (.Dr id q)) {R:Ending->World->Prop} (Am:LK P (.Dr id q) w ρ R) {ro:Option Nat} {next:Act->World->Prop} {Q:Exit->Act->World->Prop} (hR:∀e w',R e w'->match e with
   |.returned v=>next (a.put o.dst v) w'
   |.panicked chain=>Q (.panic chain) a w'
   |.outgrown=>LetsOut Q):o.wpIn (FW ro) 0 P a w next Q:=by
 obtain⟨dst,op,type,pos,after,guard⟩:=o;simp only at W;subst W;obtain⟨callee,args,argTypes⟩:=c;simp only at hc E;subst hc;have K:=Y _ _ hf;have J:=Jl Y E;rw[show args.toList.map a.eval=(args.map a.eval).toList by rw[Array.toList_map]]at J;refine⟨Nz ro P _ w a.eval,?_⟩;rw[Oper.semAt_eq _ _ _ (by simp)];unfold Jq at ht;split at ht
 ·cases ht
 ·rename_i aa;injection ht with ht;injection ht with O M;subst O;subst M;generalize S:a.eval f=ab at K;cases K with
  |Dr _ b hb=>
   obtain⟨fn,tmps,U,body,hy,B⟩:=Am _ b J hb;have L:(execOp a.eval {dst,op:=.call {callee:=.value f,args,argTypes},type,pos,after,guard}).run P w=.ok (.round b.b fn tmps U body) w:=by rw[Array.toArray_toList]at hy;simp only[execOp,resolve,S,Deferred.ofValue,Sem.run_bind,Sem.run_pure,Result.andThen_ok,invoke,Array.empty_append,hy]
   rw[L];refine⟨by simp[FW,Fence.wide],?_⟩;have y:=RoundIn.mono B (R':=λ
    |.returned v,C=>next (a.put dst v) C
    |.panicked chain,C=>Q (.panic chain) a C
    |.outgrown,_=>LetsOut Q) (λe w' he=>by have:=hR e w' he;cases e<;>exact this)
   cases ro with
   |none=>exact y
   |some l=>exact y
 ·cases ht
def uR (P:Program) (y:Nat->List AV->Tr Ac->Nat->KC->Prop):Prop:=∀id args H nx K,y id args H nx K->∀E F ρ w,Rel E F nx ρ H.get w->LK P (.Dr id args) w ρ (gK E F nx ρ K)
set_option maxHeartbeats 1000000 in
theorem vI {cx:Ctx} {S:Ft} (ay:K2 cx.P S.call) (aF:uR cx.P (Zn S)) (aO:DP cx.P cx.tb) {ops:Array Oper} {E:Env} {F:Nat->Option Obj} {ro:Option Nat} {Q:Exit->Act->World->Prop} {n0:Nat} {ρ0:Af} {K:KX} (hq:∀x s' B a' w',K x s'->n0<=s'.nx->Dj n0 ρ0 B->SR E F B s' a' w' ro->Sh B x λe=>Q e a' w'): ∀(l:List Oper) (i:Nat) (s:St) (ρ:Af) (a:Act) (w:World),(∀j o,l[j]? =some o->ops[i+j]? =some o)->FI cx S ops K l s->n0<=s.nx->Dj n0 ρ0 ρ->SR E F ρ s a w ro-> MB ro cx.P ops Q (List.range' i l.length) a w
 | [],i,s,ρ,a,w,_,h,hn,hk,L=>Ajk (hq .Cc s ρ a w h hn hk L)
 |o::l,i,s,ρ,a,w,hl,h,hn,hk,L=>by
  obtain⟨T,wd,h1,aT,aX⟩:=Ad6 (show Qt ops s.T o (λT wd=>cond wd (fN (s.nx+1) λnx'=>Zm cx.P (B2 T) s.H s.nx s.nx nx' o.op (F5 o ⟨s.N,T,s.H,s.nx,s.ro,s.D⟩ K (FI cx S ops K l)) (vJ cx S o ⟨s.N,T,s.H,s.nx,s.ro,s.D⟩ nx' K (FI cx S ops K l))) (LP s.N T o.dst (.AL []) λT=>FI cx S ops K l ⟨s.N,T,s.H,s.nx,s.ro,s.D⟩))from h);have hw:=Afe L.tr aT;have J:TR ρ T a.tmps:=λt b hb=>L.tr t b (by rw[<-aX];exact hb);have ho:ops[i]? =some o:=by have:=hl 0 o rfl;simpa using this
  have ar:∀j o',l[j]? =some o'->ops[i+1+j]? =some o':=λj o' hj=>by have:=hl (j+1) o' (by simpa using hj);rwa[show i+(j+1)=i+1+j by omega]at this
  rw[show(o::l).length=l.length+1 from rfl,List.range'_succ];have ih:=vI (ops:=ops) ay aF aO hq l (i+1);cases wd with
  |false=>rw[cond_false]at h1;obtain⟨T',aY,h3⟩:=SQ h1;obtain⟨e1,e2,e3⟩:=NI (u:=undef) J L.size (.AL (ρ:=ρ) [] [] .nil) aY;exact Ajl ho (by rw[hw];simp) (Nz ro _ o w a.eval) (ih _ ρ _ w ar h3 hn hk ⟨L.rel,e1,e2,by rw[e3];exact L.dr,L.rr⟩)
  |true=>
   rw[cond_true,Bu]at h1;refine Ajn ho hw ?_;have C:∀(T':Tr AV) (H':Tr Ac) (r:CR),F5 o ⟨s.N,T',H',s.nx+1,s.ro,s.D⟩ K (FI cx S ops K l) r->(∀g args H nx,r≠.Dc g args H nx)->∀an,TR an T' a.tmps->RX s.nx (s.nx+1) ρ an->
     match r with
     |.mk v H nx=>∀u B w',RX (s.nx+1) nx an B->Rel E F nx B H.get w'->VR B v u->MB ro cx.P ops Q (List.range' (i+1) l.length) (a.put o.dst u) w'
     |.AA v H nx=>∀u B w',RX (s.nx+1) nx an B->Rel E F nx B H.get w'->VR B v u->Q (.panic (fresh u)) a w'
     |.Dc _ _ _ _=>True:=by
    intro T' H' r hb a2 an ab M;cases r with
    |mk v H nx=>intro u B w' O y hv;obtain⟨T2,af,h3⟩:=SQ (show LP s.N T' o.dst v (λT=>FI cx S ops K l ⟨s.N,T,H,nx,s.ro,s.D⟩)from hb);obtain⟨e1,e2,e3⟩:=NI (ab.mono O.le) L.size hv af;have W:=M.trans O;have aZ:=W.nn;exact ih _ B _ w' ar h3 (Nat.le_trans hn W.nn) (hk.trans (Dj.M0 W hn)) ⟨y,e1,e2,by rw[e3];exact L.dr.mono W.le,L.rr.mono W.le⟩
    |AA v H nx=>intro u B w' O y hv;have W:=M.trans O;exact hq (.AA v) ⟨s.N,T',H,nx,s.ro,s.D⟩ B a w' hb (Nat.le_trans hn W.nn) (hk.trans (Dj.M0 W hn)) ⟨y,ab.mono O.le,L.size,L.dr.mono W.le,L.rr.mono W.le⟩ u hv
    |Dc g args H nx=>trivial
   rcases Ad1 h1 with⟨r,hr,hb⟩|aU
   ·refine Ae5 (Ahz cx.P) L.rel J.xr (L.rel.new _ (Nat.le_refl _)) (Nat.le_succ _) (Nat.lt_succ_self _) hr ?_;cases r with
    |mk v H nx=>obtain⟨T2,af,h3⟩:=SQ (show LP s.N T o.dst v (λT=>FI cx S ops K l ⟨s.N,T,H,nx,s.ro,s.D⟩)from hb);intro u B w' O y hv;have ae:=O.le;obtain⟨e1,e2,e3⟩:=NI (J.mono ae) L.size hv af;exact ih _ B _ w' ar h3 (Nat.le_trans hn O.nn) (hk.trans (Dj.M0 O.rx hn)) ⟨y,e1,e2,by rw[e3];exact L.dr.mono ae,L.rr.mono ae⟩
    |AA v H nx=>intro u B w' O y hv;have ae:=O.le;exact hq (.AA v) ⟨s.N,T,H,nx,s.ro,s.D⟩ B a w' hb (Nat.le_trans hn O.nn) (hk.trans (Dj.M0 O.rx hn)) ⟨y,J.mono ae,L.size,L.dr.mono ae,L.rr.mono ae⟩ u hv
    |Dc g args H nx=>
     have aA:(match s.ro with
      |none=>LP s.N T o.dst (.AL []) λT=>FI cx S ops K l ⟨s.N,T,H,nx,s.ro,.call g args::s.D⟩
      |some _=>False):=hb
     cases az:s.ro with
     |some l0=>rw[az]at aA;exact aA.elim
     |none=>
      rw[az]at aA;obtain⟨T2,af,h4⟩:=SQ aA;have aP:=L.rr;have aS:ro=none:=by rw[az]at aP;cases aP;rfl
      refine⟨aS,λva vc O y hv=>?_⟩;obtain⟨e1,e2,e3⟩:=NI (u:=undef) (a:={a with defers:={target:=.fn (.func g) vc.toArray,args:=va.toArray}::a.defers}) J L.size (.AL (ρ:=ρ) [] [] .nil) af;exact ih _ ρ _ w ar h4 (Nat.le_trans hn O.nn) (hk.trans (Dj.M0 O hn)) ⟨y,e1,e2,by rw[e3];exact .call g args va vc _ _ hv L.dr,by rw[<-az];exact L.rr⟩
   ·refine(Ad0 aU).elim (λak=>?_) (λ⟨t,m,k,ok,Y,aq⟩=>?_)
    rotate_left
    ·obtain⟨v,z,hb,aR,hv⟩:=aq E F s.nx ρ w a.eval L.rel J.xr;obtain⟨T2,af,h3⟩:=SQ (show LP s.N T o.dst v (λT=>FI cx S ops K l ⟨s.N,T,s.H,s.nx,s.ro,s.D⟩)from hb);obtain⟨e1,e2,e3⟩:=NI J L.size hv af;refine F2 (by rw[Y];simp) (.inl ?_) (ih _ ρ _ w ar h3 hn hk ⟨L.rel,e1,e2,by rw[e3];exact L.dr,L.rr⟩);obtain⟨dst,op,type,pos,after,guard⟩:=o;simp only at Y;subst Y;exact C9 aR
    unfold kh at ak;split at ak
    ·rename_i c Y;split at ak
     ·rename_i f al;obtain⟨fv,aj,h2⟩:=BG ak;obtain⟨xs,ai,h3⟩:=BG h2;obtain⟨t,ht,h4⟩:=BG h3;cases t with
      |Dr id args=>
       have Am:=aF id args s.H (s.nx+1) _ h4 E F ρ w (L.rel.Ff (Nat.le_succ _));have M:RX s.nx (s.nx+1) ρ ρ:=⟨Af.le_refl ρ,λ_ _=>rfl,Nat.le_succ _⟩;refine Apw J.xr Y al aj ai ht Am λe w' Z=>?_;obtain⟨r,ao,ad⟩:=Z;cases r with
       |mk v H nx=>obtain⟨u,B,rfl,O,y,hv⟩:=ad;exact C T s.H (.mk v H nx) ao (λ_ _ _ _ h=>by cases h) ρ J M u B w' O y hv
       |AA v H nx=>obtain⟨u,B,rfl,O,y,hv⟩:=ad;exact C T s.H (.AA v H nx) ao (λ_ _ _ _ h=>by cases h) ρ J M u B w' O y hv
       |Dc g args H nx=>exact ad.elim
      |fn g args=>
       have aD:(Option.rec (motive:=λ_=>Prop) (Option.rec (motive:=λ_=>Prop) (lG cx S o ⟨s.N,T,s.H,s.nx,s.ro,s.D⟩ (s.nx+1) K (FI cx S ops K l) (.fn g args)) (λAE=>A7 (QE cx.P s.H args) λr=>Ap r.1 (A7 (AE s.H r.2.1) λU=>(λq:Bool×Tr AV=>Ap q.1 (U.pre/\∀x,U.Q x->F5 o ⟨s.N,q.2,CW s.H r.2.2.2,s.nx+1,s.ro,s.D⟩ K (FI cx S ops K l) (.mk (U.v x) (CW s.H r.2.2.2) (s.nx+1+1)))) (IZ r.2.2.1 T))) (WZ cx.rt g)) (λAE=>A7 (AE s.H (s.nx+1) args) λU=>U.pre/\∀x,U.Q x->F5 o ⟨s.N,T,s.H,s.nx+1,s.ro,s.D⟩ K (FI cx S ops K l) (.mk (U.v x) (Ck (U.up x) s.H) U.nx)) (cJ cx.rh g)):=h4;cases aH:cJ cx.rh g with
       |some AE=>rw[aH]at aD;obtain⟨U,aI,au,h5⟩:=BG aD;have Am:=cx.AjJ g AE aH s.H (s.nx+1) args U aI au E F ρ w (L.rel.Ff (Nat.le_succ _));have M:RX s.nx (s.nx+1) ρ ρ:=⟨Af.le_refl ρ,λ_ _=>rfl,Nat.le_succ _⟩;refine V6 J.xr Y al aj ai ht Am λe w' Z=>?_;obtain⟨r,⟨x,aJ,rfl⟩,Z⟩:=Z;obtain⟨u,B,rfl,O,y,hv⟩:=Z;exact C T s.H (.mk (U.v x) (Ck (U.up x) s.H) U.nx) (h5 x aJ) (λ_ _ _ _ h=>by cases h) ρ J M u B w' O y hv
       |none=>
       rw[aH]at aD;have aC:(Option.rec (motive:=λ_=>Prop) (lG cx S o ⟨s.N,T,s.H,s.nx,s.ro,s.D⟩ (s.nx+1) K (FI cx S ops K l) (.fn g args)) (λAE=>A7 (QE cx.P s.H args) λr=>Ap r.1 (A7 (AE s.H r.2.1) λU=>(λq:Bool×Tr AV=>Ap q.1 (U.pre/\∀x,U.Q x->F5 o ⟨s.N,q.2,CW s.H r.2.2.2,s.nx+1,s.ro,s.D⟩ K (FI cx S ops K l) (.mk (U.v x) (CW s.H r.2.2.2) (s.nx+1+1)))) (IZ r.2.2.1 T))) (WZ cx.rt g)):=aD;cases aG:WZ cx.rt g with
       |some AE=>rw[aG]at aC;obtain⟨⟨sd,args',fz,ids⟩,aM,h5⟩:=BG aC;obtain⟨h6,h7⟩:=Eh.1 h5;simp only at h6;subst h6;obtain⟨U,aI,h8⟩:=BG h7;obtain⟨h9,au,aN⟩:=Eh.1 h8;obtain⟨V,aL,ah⟩:=xX L.rel args args' fz ids aM;obtain⟨aa,ag⟩:=Kr L.rel V;have M:RX s.nx (s.nx+1) ρ (CO ρ w ids):=⟨aa.le,aa.lo,Nat.le_succ _⟩;have ab:TR (CO ρ w ids) (IZ fz T).2 a.tmps:=nN aL V (λ_ h=>h) rfl aa.le J h9;have Am:=cx.rok g AE aG s.H args' U aI au E F (CO ρ w ids) w (s.nx+1) (CW s.H ids) L.rel.gl (ag.Ff (Nat.le_succ _));have aw:=Am.2;refine V6 J.xr Y al aj ai ht (R:=λe w'=>∃r:CR,(∃x,U.Q x/\r=.mk (U.v x) (CW s.H ids) (s.nx+1+1))/\Nv E F (s.nx+1) (CO ρ w ids) r e w') ⟨Am.1,λvs At=>aw vs (ah ids V (λ_ h=>h) vs At)⟩ λe w' Z=>?_;obtain⟨r,⟨x,aJ,rfl⟩,Z⟩:=Z;obtain⟨u,B,rfl,O,y,hv⟩:=Z;exact C _ _ (.mk (U.v x) (CW s.H ids) (s.nx+1+1)) (aN x aJ) (λ_ _ _ _ h=>by cases h) _ ab M u B w' O y hv
       |none=>
       rw[aG]at aC;have aB:(Option.rec (motive:=λ_=>Prop) (Option.rec (motive:=λ_=>Prop) (S.call g args s.H (s.nx+1) (F5 o ⟨s.N,T,s.H,s.nx,s.ro,s.D⟩ K (FI cx S ops K l))) (λAE=>A7 (QE cx.P s.H args) λr=>Ap r.1 (A7 (AE s.H r.2.1) λct=>(λq:Bool×Tr AV=>Ap q.1 (OO ct (λv=>F5 o ⟨s.N,q.2,CW s.H r.2.2.2,s.nx+1,s.ro,s.D⟩ K (FI cx S ops K l) (.mk v (CW s.H r.2.2.2) (s.nx+1+1))) (λv=>F5 o ⟨s.N,q.2,CW s.H r.2.2.2,s.nx+1,s.ro,s.D⟩ K (FI cx S ops K l) (.AA v (CW s.H r.2.2.2) (s.nx+1+1))))) (IZ r.2.2.1 T))) (look cx.tb g)) (λAE=>A7 (AE s.H (s.nx+1) args) λhc=>OP hc (λv up nx=>F5 o ⟨s.N,T,s.H,s.nx+1,s.ro,s.D⟩ K (FI cx S ops K l) (.mk v (Ck up s.H) nx)) (λv up nx=>F5 o ⟨s.N,T,s.H,s.nx+1,s.ro,s.D⟩ K (FI cx S ops K l) (.AA v (Ck up s.H) nx))) (Lj cx.ht g)):=aC;cases aK:Lj cx.ht g with
       |some AE=>
        rw[aK]at aB;obtain⟨hc,aV,h5⟩:=BG aB;obtain⟨p,v,up,n1,av,h6⟩:=SP h5;have Am:=cx.Am g AE aK s.H (s.nx+1) args hc aV p v up n1 av E F ρ w (L.rel.Ff (Nat.le_succ _));have M:RX s.nx (s.nx+1) ρ ρ:=⟨Af.le_refl ρ,λ_ _=>rfl,Nat.le_succ _⟩;refine V6 J.xr Y al aj ai ht Am λe w' Z=>?_;cases p with
        |false=>obtain⟨u,B,rfl,O,y,hv⟩:=Z;exact C T s.H (.mk v (Ck up s.H) n1) h6 (λ_ _ _ _ h=>by cases h) ρ J M u B w' O y hv
        |true=>obtain⟨u,B,rfl,O,y,hv⟩:=Z;exact C T s.H (.AA v (Ck up s.H) n1) h6 (λ_ _ _ _ h=>by cases h) ρ J M u B w' O y hv
       |none=>
       rw[aK]at aB;have aE:(Option.rec (motive:=λ_=>Prop) (S.call g args s.H (s.nx+1) (F5 o ⟨s.N,T,s.H,s.nx,s.ro,s.D⟩ K (FI cx S ops K l))) (λAE=>A7 (QE cx.P s.H args) λr=>Ap r.1 (A7 (AE s.H r.2.1) λct=>(λq:Bool×Tr AV=>Ap q.1 (OO ct (λv=>F5 o ⟨s.N,q.2,CW s.H r.2.2.2,s.nx+1,s.ro,s.D⟩ K (FI cx S ops K l) (.mk v (CW s.H r.2.2.2) (s.nx+1+1))) (λv=>F5 o ⟨s.N,q.2,CW s.H r.2.2.2,s.nx+1,s.ro,s.D⟩ K (FI cx S ops K l) (.AA v (CW s.H r.2.2.2) (s.nx+1+1))))) (IZ r.2.2.1 T))) (look cx.tb g)):=aB;cases aq:look cx.tb g with
       |none=>
        rw[aq]at aE;have Am:=ay g args s.H (s.nx+1) _ aE E F ρ w (L.rel.Ff (Nat.le_succ _));refine V6 J.xr Y al aj ai ht Am λe w' Z=>?_;obtain⟨r,ao,ad⟩:=Z;have M:RX s.nx (s.nx+1) ρ ρ:=⟨Af.le_refl ρ,λ_ _=>rfl,Nat.le_succ _⟩;cases r with
        |mk v H nx=>obtain⟨u,B,rfl,O,y,hv⟩:=ad;exact C T s.H (.mk v H nx) ao (λ_ _ _ _ h=>by cases h) ρ J M u B w' O y hv
        |AA v H nx=>obtain⟨u,B,rfl,O,y,hv⟩:=ad;exact C T s.H (.AA v H nx) ao (λ_ _ _ _ h=>by cases h) ρ J M u B w' O y hv
        |Dc g args H nx=>exact ad.elim
       |some AE=>
        rw[aq]at aE;obtain⟨⟨sd,args',fz,ids⟩,aM,h5⟩:=BG aE;obtain⟨h6,h7⟩:=Eh.1 h5;simp only at h6;subst h6;obtain⟨ct,aW,h8⟩:=BG h7;obtain⟨h9,aN⟩:=Eh.1 h8;obtain⟨p,v,av,aQ⟩:=V4 aN;obtain⟨V,aL,ah⟩:=xX L.rel args args' fz ids aM;obtain⟨aa,ag⟩:=Kr L.rel V;have M:RX s.nx (s.nx+1) ρ (CO ρ w ids):=⟨aa.le,aa.lo,Nat.le_succ _⟩;have ab:TR (CO ρ w ids) (IZ fz T).2 a.tmps:=nN aL V (λ_ h=>h) rfl aa.le J h9;have Am:=aO g AE aq s.H args' ct aW p v av E F (CO ρ w ids) w (s.nx+1) (CW s.H ids) L.rel.gl (ag.Ff (Nat.le_succ _));have aw:LK cx.P (.fn g args) w ρ (Nv E F (s.nx+1) (CO ρ w ids) (Hh p v (CW s.H ids) (s.nx+1+1))):=⟨Am.1,λvs At=>Am.2 vs (ah ids V (λ_ h=>h) vs At)⟩;refine V6 J.xr Y al aj ai ht aw λe w' Z=>?_;cases p with
        |false=>obtain⟨u,B,rfl,O,y,hv⟩:=Z;exact C _ _ (.mk v (CW s.H ids) (s.nx+1+1)) aQ (λ_ _ _ _ h=>by cases h) _ ab M u B w' O y hv
        |true=>obtain⟨u,B,rfl,O,y,hv⟩:=Z;exact C _ _ (.AA v (CW s.H ids) (s.nx+1+1)) aQ (λ_ _ _ _ h=>by cases h) _ ab M u B w' O y hv
     ·exact ak.elim
    ·exact ak.elim
end Go.Ev
end
section
/- The symbolic layer, part K: what the sentence says holds: code, loops, functions. -/
namespace Go.Ev
def Qg (F:Fence) (n:Nat) (P:Program) (c:Code) (Q:Exit->Act->World->Prop) (a:Act) (w:World):Prop:=∀(b:Frame) (k:List Item) (cs:List Frame),b.roundOf=F.round->F.fn b.fn->F.room (cs.length+1+n)-> ∃e q w',Q e q w'/\ArrivesIn (Machine.fenced P F) P (lone (b.atR a (.code c::.inLoop c::k)) cs w) b k cs e q w'
theorem oQ {F:Fence} {n:Nat} {P:Program} {c:Code} {Q:Exit->Act->World->Prop} {a:Act} {w:World} (h:c.wpIn F n P (Exit.then (Qg F n P c Q) Q) a w):Qg F n P c Q a w:=by
 intro b k cs K hb R;obtain⟨e,B,y,J,q⟩:=h b (.inLoop c::k) cs K hb R;cases e with
 |normal=>obtain⟨M,O,L,E,C⟩:=J b k cs K hb R;exact⟨M,O,L,E,.of_steps (StepsIn.trans q (.one (fenced_calm hb R rfl) stepR_inLoop)) C⟩
 |exit id=>exact⟨_,B,y,J,.pass (x:=.inLoop c) rfl (λ_ _=>.inl (by simp)) q⟩
 |goto l=>exact⟨_,B,y,J,.pass (x:=.inLoop c) rfl (λ_ _=>.inl (by simp)) q⟩
 |ret=>exact⟨_,B,y,J,.pass (x:=.inLoop c) rfl (λ_ _=>.inl (by simp)) q⟩
 |panic S=>exact⟨_,B,y,J,.pass (x:=.inLoop c) rfl (λ_ _=>.inl (by simp)) q⟩
 |outgrown=>exact⟨_,B,y,J,.pass (x:=.inLoop c) rfl (λ_ _=>.inl (by simp)) q⟩
theorem Ag6 {F:Fence} {n:Nat} {P:Program} {c:Code} {Q:Exit->Act->World->Prop} {a:Act} {w:World} (h:Qg F n P c Q a w):(Code.loop c).wpIn F n P Q a w:=by intro b k cs y hb B;obtain⟨e,E,w',C,q⟩:=h b k cs y hb B;exact⟨e,E,w',C,.of_steps (.one (fenced_calm hb B rfl) stepR_loop) q⟩
def Vw (E:Env) (F:Nat->Option Obj) (n0:Nat) (ρ0:Af) (ro:Option Nat) (K:KX) (Q:Exit->Act->World->Prop):Prop:=∀x s' q y w',K x s'->n0<=s'.nx->Dj n0 ρ0 q->SR E F q s' y w' ro->Sh q x λe=>Q e y w'
def Nu (P:Program) (code:Nat->FuncId->Code->St->KX->Prop):Prop:=∀n0 f c s K,code n0 f c s K->∀E F ρ0 ρ a w ro Q,Vw E F n0 ρ0 ro K Q->n0<=s.nx->Dj n0 ρ0 ρ->SR E F ρ s a w ro->
  match c with
  |.loop q=>Qg (FW ro) 0 P q Q a w
  |c=>c.wpIn (FW ro) 0 P Q a w
def Ya (P:Program) (D:Array Oper->St->KX->Prop):Prop:=∀ops s K,D ops s K->∀id E F n0 ρ0 ρ a w ro Q,Vw E F n0 ρ0 ro K Q->n0<=s.nx->Dj n0 ρ0 ρ->SR E F ρ s a w ro->(Code.region id ops true).wpIn (FW ro) 0 P Q a w
theorem Jo {P:Program} {code:Nat->FuncId->Code->St->KX->Prop} (h:Nu P code) {n0:Nat} {f:FuncId} {c:Code} {s:St} {K:KX} (hc:code n0 f c s K) {E:Env} {F:Nat->Option Obj} {ρ0 ρ:Af} {a:Act} {w:World} {ro:Option Nat} {Q:Exit->Act->World->Prop} (y:Vw E F n0 ρ0 ro K Q) (hn:n0<=s.nx) (B:Dj n0 ρ0 ρ) (q:SR E F ρ s a w ro):c.wpIn (FW ro) 0 P Q a w:=by have:=h n0 f c s K hc E F ρ0 ρ a w ro Q y hn B q;cases c<;>first|exact this|exact Ag6 this
theorem uz {ρ:Af} {T:Tr AV} {tmps:Array Value} {c:Operand} {A B:Tr AV->Prop} (h:SO T c A B) {a:Act} (ht:TR ρ T a.tmps): ∃b T',a.eval c=.bool b/\(∀t,T'.get t=T.get t)/\(if b then A T' else B T'):=by
 unfold SO at h;split at h
 ·rename_i d;obtain⟨v,hv,C⟩:=BG h;split at C
  ·rename_i b;have E:=ht.xr (.tmp d) (.bool b) hv;have he:a.eval (.tmp d)=.bool b:=by generalize a.eval (.tmp d)=u at E;cases E;rfl
   obtain⟨y,q⟩:=FH.1 C;refine⟨b,T.set d (.bool b),he,λt=>?_,?_⟩
   ·rw[Tr.F6];split
    ·rename_i e;subst e;exact hv.symm
    ·rfl
   ·cases b with
    |true=>exact y rfl
    |false=>exact q rfl
  ·exact C.elim
 ·rename_i b;obtain⟨y,q⟩:=FH.1 h;refine⟨b,T,rfl,λ_=>rfl,?_⟩;cases b with
  |true=>exact y rfl
  |false=>exact q rfl
 ·exact h.elim
theorem Ad7 {P:Program} {En:Ft} (y:Nu P En.code):uR P (Zn En):=by
 intro id args H nx K h E F ρ w r vs b At hb;obtain⟨o,ho,h1⟩:=BG h;clear h;cases o with
 |loop aF ay T N ps au body d=>
  obtain⟨T',ao,h2⟩:=BG h1;clear h1;obtain⟨fn,tmps,bd,R,ai,aj,_,_⟩:=cN r hb ho;obtain⟨e1,e2,e3⟩:=Ab2 ps.toList args vs N T T' tmps At ao ai aj;have hy:=run_yield (P:=P) (args:=vs.toArray) R (by simp[e1]);have S:(ps.zip vs.toArray).foldl (λtmps (x:Tmp×Value)=>tmps.setIfInBounds x.1 x.2) tmps=(ps.toList.zip vs).foldl (λtmps (x:Tmp×Value)=>tmps.setIfInBounds x.1 x.2) tmps:=by rw[<-Array.foldl_toList,Array.toList_zip]
  refine⟨fn,_,au,body,hy,roundIn_of_wpIn trivial ?_⟩;rw[S];have L:∀ {n:Nat} {J:Af},nx<=n->Dj nx ρ J->RX nx n ρ J:=λ{n J} hn hk=>⟨⟨λi b hb=>(by
   by_cases hi:i<nx
   ·rw[hk.lo i hi];exact hb
   ·rw[r.new i (by omega)]at hb;exact absurd hb (by simp)),hk.st⟩,hk.lo,hn⟩
  refine Jo y h2 (E:=E) (F:=F) (ρ0:=ρ) (ρ:=ρ) (a:={tmps:=(ps.toList.zip vs).foldl (λtmps (x:Tmp×Value)=>tmps.setIfInBounds x.1 x.2) tmps,defers:=[]}) (ro:=some b.b) ?_ (Nat.le_refl _) (Dj.refl _ _) ⟨r,e2,e3,.nil,.some id b hb⟩;intro x s ag a1 w1 hx aa ad q;cases x with
  |Cc=>
   obtain⟨H1,ar,h4⟩:=BG hx;obtain⟨W,p1,T1,N1,aH,aD,aA,d1,ae,Y,g1,g2,g3⟩:=oR ar;have an:=(L aa ad).le _ _ hb;obtain⟨aK,aw,aM,C,_,_,_,O⟩:=cN q.rel an g1;have af:W=.ready/\ae=.busy/\Y=p1:=by cases W<;>first|(cases g2;done)|(injection g2 with g2;injection g2 with g4 g5;exact⟨rfl,g4.symm,g5.symm⟩)
   obtain⟨rfl,rfl,rfl⟩:=af;refine⟨_,run_beginRound C rfl,?_⟩;refine Jo y h4 (E:=E) (F:=F) (ρ0:=ρ) (ρ:=ag) (ro:=some b.b) ?_ aa ad ⟨by rw[g3];exact O .busy Y,q.tr,q.size,q.dr,q.rr⟩;intro V s2 ρ2 a2 w2 ah Z ab ak;obtain⟨U,h5⟩:=Eh.1 ah;obtain⟨H2,aq,h6⟩:=BG h5;obtain⟨aE,p2,T2,N2,aG,aC,az,d2,aB,aI,k1,k2,k3⟩:=oR aq;have al:=(L Z ab).le _ _ hb;obtain⟨aJ,av,aL,B,_,_,_,M⟩:=cN ak.rel al k1;injection k2 with k2;injection k2 with k4 k5;refine AjN (run_endRound V.jump B) ⟨_,h6,_,ρ2,rfl,L Z ab,?_,.bool _⟩ ρ2 U;rw[k3,<-k4,<-k5];have:=M (cond V.jump.isNone .ready .done) V.jump;have hc:(cond V.jump.isNone LoopState.ready .done)=if V.jump.isNone=true then .ready else .done:=by cases V.jump.isNone<;>rfl
   rw[hc]at this⊢;exact this
  |_=>exact hx.elim
 |_=>exact h1.elim
theorem Ad3 {P:Program} {En:Ft} (ae:K2 P En.call) {f:Operand} {J:Array Tmp} {y body:Code} {s:St} {K:KX} (h:lE En f J y body s K) {E:Env} {F:Nat->Option Obj} {n0:Nat} {ρ0 ρ:Af} {a:Act} {w:World} {ro:Option Nat} {Q:Exit->Act->World->Prop} (aF:Vw E F n0 ρ0 ro K Q) (hn:n0<=s.nx) (hk:Dj n0 ρ0 ρ) (L:SR E F ρ s a w ro): (Code.rangeFunc f J y body).wpIn (FW ro) 0 P Q a w:=by
 refine wpIn_rangeFunc λfn _=>?_;obtain⟨fa,aN,h1⟩:=BG h;clear h;have aL:=L.tr.xr _ _ aN;have ah:=L.rr;cases ai:s.ro with
 |some l0=>rw[ai]at h1;exact h1.elim
 |none=>
  rw[ai]at h1 ah;cases ah;simp only[Bu]at h1;obtain⟨t,ht,h2⟩:=BG h1;clear h1;have aJ:=L.rel.new s.nx (Nat.le_refl _);have A1:=L.rel.alloc (nx':=s.nx+1) aJ (Nat.le_succ _) (Nat.lt_succ_self _) (cap:=0) (a:=.Dc true) (o:=.deferred (some [])) (.Dc true);obtain⟨Z,an⟩:=A1;rw[<-H5]at Z;have aj:=Z.new (s.nx+1) (Nat.le_refl _);have C:(ρ.put s.nx ⟨w.heap.size,0,0⟩) s.nx=some ⟨w.heap.size,0,0⟩:=Af.Fx _ _ _;let M:Af:=ρ.put s.nx ⟨w.heap.size,0,0⟩;let q:CM:=⟨(w.alloc (.deferred (some []))).heap.size,0,0⟩;let ρ2:Af:=M.put (s.nx+1) q;have B:M.le ρ2:=Af.Li (ρ:=M) aj q;have A2:=Z.alloc (nx':=s.nx+1+1) aj (Nat.le_succ _) (Nat.lt_succ_self _) (cap:=0) (a:=.loop .ready none s.T s.N J y body s.nx) (o:=.loop {state:=.ready,pending:=none,fn,tmps:=a.tmps,params:=J,assign:=y,body,defers:=w.heap.size}) (.loop .ready none s.T s.N J y body s.nx fn a.tmps ⟨w.heap.size,0,0⟩ (L.tr.mono (Af.le_trans an B)) L.size (B _ _ C));obtain⟨al,a3⟩:=A2;rw[<-H5]at al;have Y:ρ.le ρ2:=Af.le_trans an B;have hb:ρ2 (s.nx+1)=some q:=Af.Fx _ _ _;have aK:∀i,i<s.nx->ρ2 i=ρ i:=λi hi=>by simp[Af.put,ρ2,M,Nat.ne_of_lt hi,Nat.ne_of_lt (Nat.lt_succ_of_lt hi)]
  have aB:RX s.nx (s.nx+1+1) ρ ρ2:=⟨Y,aK,by omega⟩;have aw:DR ρ2 (.mark s.nx::s.D) ({target:=.collected w.heap.size,args:=#[]}::a.defers):=.mark s.nx ⟨w.heap.size,0,0⟩ _ _ (B _ _ C) (L.dr.mono Y);cases t with
  |Dr _ _=>exact h2.elim
  |fn g args=>
   have Am:=ae g args _ _ _ h2 E F ρ2 _ al;have S:=aL.mono Y;unfold Jq at ht;split at ht
   ·rename_i gi first cap
    injection ht with ht;injection ht with aD aC;subst aD;subst aC;generalize ak:a.eval f=fv at S;cases S with
    |fn _ _ _ va vc ha hc=>
     obtain⟨⟨a2,c,aM,aH,aP⟩,R⟩:=Am;have af:AF ρ2 [AV.Dr (s.nx+1)] [Value.func (.yield q.b) #[] #[]]:=.cons _ _ _ _ (.Dr (s.nx+1) q hb) .nil;have aO:=R _ (ha.append (af.append hc));have e:q.b=w.heap.size+1:=by simp[q]
     refine⟨w.heap.size+1,[{target:=.collected w.heap.size,args:=#[]}],((w.alloc (.deferred (some []))).alloc (.loop {state:=.ready,pending:=none,fn,tmps:=a.tmps,params:=J,assign:=y,body,defers:=w.heap.size})),{target:=.fn (.func gi) vc.toArray,args:=va.toArray++ #[.func (.yield q.b) #[] #[]]},((w.alloc (.deferred (some []))).alloc (.loop {state:=.ready,pending:=none,fn,tmps:=a.tmps,params:=J,assign:=y,body,defers:=w.heap.size})),gi,(va++([Value.func (.yield q.b) #[] #[]]++vc)).toArray,((w.alloc (.deferred (some []))).alloc (.loop {state:=.ready,pending:=none,fn,tmps:=a.tmps,params:=J,assign:=y,body,defers:=w.heap.size})),run_enterLoop_outer fn a.tmps J y body,?_,λ_ _=>trivial,?_,by simp[FW,Fence.wide],?_⟩
     ·rw[<-e];unfold resolve rangeCall;have hm:Array.map a.eval #[Operand.const (Value.func (Fn.yield q.b) #[] #[])]= #[Value.func (Fn.yield q.b) #[] #[]]:=by simp[Act.eval]
      have av:Act.eval {a with defers:=[{target:=.collected w.heap.size,args:=#[]}]++a.defers} f=.func (.func gi) va.toArray vc.toArray:=ak
      first
       |(simp only[ak,Deferred.ofValue,hm];rfl)
       |(simp only[av,Deferred.ofValue,hm];rfl)
     ·simp only[invoke,callFunc,Sem.run_bind,run_program,Result.andThen_ok,aM,aH,Bool.false_eq_true,if_false,aP,Option.isNone_some,Sem.run_pure];congr 2;apply Array.ext';simp
     ·rw[<-e];refine CallsIn.mono aO ?_;rintro ed w' ⟨r,hr,U⟩;cases r with
      |AA _ _ _=>exact hr.elim
      |Dc _ _ _ _=>exact U.elim
      |mk v H nx=>
       obtain⟨u,V,rfl,hx,ar,hv⟩:=U;obtain⟨o,ho,h3⟩:=BG hr;cases o with
       |loop st Dp T N az ay ag d=>
        obtain⟨x1,aA,h4⟩:=BG h3;obtain⟨H1,aR,h5⟩:=BG h4;obtain⟨aa,ad⟩:=Agn aA;obtain⟨aY,p1,T1,N1,aZ,aX,aW,d1,ao,O,g1,g2,g3⟩:=oR aR;rw[ho]at g1;injection g1 with g1;injection g1 with g1 g4 g5 g6 g7 g8 g9 aU;subst g1;subst g4;have aQ:=hx.le _ _ hb;obtain⟨aV,tmps,bd,ab,_,_,_,aq⟩:=cN ar aQ ho;have aI:st≠.busy/\ao=.exhausted/\O=Dp:=by cases st<;>first|(cases g2;done)|(injection g2 with g2;injection g2 with aT aS;exact⟨by simp,aT.symm,aS.symm⟩)
        obtain⟨au,rfl,rfl⟩:=aI;refine⟨O,_,run_endLoop ab au,?_⟩;have W:=RX.trans aB hx;have aE:SR E F V ⟨s.N,s.T,H1,nx,none,.mark s.nx::s.D⟩ {a with defers:=[{target:=.collected w.heap.size,args:=#[]}]++a.defers} (w'.putObj q.b (.loop {state:=.exhausted,pending:=O,fn:=aV,tmps,params:=az,assign:=ay,body:=ag,defers:=bd})) none:=by refine⟨?_,L.tr.mono W.le,L.size,aw.mono hx.le,.none⟩;show Rel E F nx V H1.get _;rw[g3];subst g5;subst g6;subst g7;subst g8;subst g9;subst aU;exact aq .exhausted O
        have aG:=aF x1 _ V _ _ h5 (Nat.le_trans hn W.nn) (hk.trans (Dj.M0 W hn)) aE;have:=Ago (P:=P) (ro:=none) (Q:=Q) (a:={a with defers:=[{target:=.collected w.heap.size,args:=#[]}]++a.defers}) x1 ad aG;rw[<-aa]at this;exact this
       |_=>exact h3.elim
   ·cases ht
   ·cases ht
theorem Zi {P:Program} {E:Env} {F:Nat->Option Obj} {n0:Nat} {ρ0:Af} {a:Act} {w:World} {ro:Option Nat} {K:St->Prop}:∀(O:List Nat) (s:St) (ρ:Af),Qs P O K s->n0<=s.nx->Dj n0 ρ0 ρ->SR E F ρ s a w ro-> ∃s' L,K s'/\n0<=s'.nx/\Dj n0 ρ0 L/\SR E F L s' a w ro
 | [],s,ρ,h,hn,S,B=>⟨s,ρ,h,hn,S,B⟩
 |d::O,s,ρ,h,hn,S,B=>by
  obtain⟨v,hv,h1⟩:=BG (show A7 (s.T.get d) λv=>A7 (Jr P s.H v) λr=>Ap r.1 ((λq:Bool×Tr AV=>Ap q.1 (Qs P O K ⟨s.N,q.2.set d r.2.1,CW s.H r.2.2.2,s.nx,s.ro,s.D⟩)) (IZ r.2.2.1 s.T))from h);obtain⟨⟨sd,R,fz,ids⟩,hf,h2⟩:=BG h1;obtain⟨Z,h3⟩:=Eh.1 h2;simp only at Z;subst Z;obtain⟨e2,h4⟩:=Eh.1 h3;obtain⟨y,Y,M⟩:=QF B.rel v R fz ids hf;obtain⟨C,J⟩:=Kr B.rel y;have W:TR (CO ρ w ids) (IZ fz s.T).2 a.tmps:=nN Y y (λ_ h=>h) rfl C.le B.tr e2;have V:TR (CO ρ w ids) ((IZ fz s.T).2.set d R) a.tmps:=λt b hb=>by
   rw[Tr.F6]at hb;by_cases e:d=t
   ·rw[if_pos e]at hb;injection hb with hb;subst e;subst hb;obtain⟨u,hu,U⟩:=B.tr d v hv;exact⟨u,hu,M ids y (λ_ h=>h) u U⟩
   ·rw[if_neg e]at hb;exact W t b hb
  exact Zi O ⟨s.N,(IZ fz s.T).2.set d R,CW s.H ids,s.nx,s.ro,s.D⟩ (CO ρ w ids) h4 hn (S.trans (Dj.M0 C hn)) ⟨J,V,B.size,B.dr.mono C.le,B.rr.mono C.le⟩
theorem AdR {cx:Ctx} {U:Ft} {D:Array Oper->St->KX->Prop} (hD:Ya cx.P D) (L:Nu cx.P U.code) (ae:K2 cx.P U.call) (an:DP cx.P cx.tb):Nu cx.P (uw cx U D):=by
 intro n0 f c s K h E F ρ0 ρ a w ro Q M hn W V;cases c with
 |skip=>exact wpIn_skip (M _ _ _ _ _ h hn W V)
 |region id ops al=>
  cases al with
  |false=>obtain⟨s',R,h',J,C,B⟩:=Zi (cx.fr f id) s ρ (show Qs cx.P (cx.fr f id) (λs=>FI cx U ops K ops.toList s) s from h) hn W V;refine Ajm ?_;have:=vI ae (Ad7 L) an (ops:=ops) (E:=E) (F:=F) (ro:=ro) (Q:=Q) (K:=K) M ops.toList 0 s' R a w (λj o hj=>by simpa using hj) h' J C B;rw[List.range_eq_range'];simpa using this
  |true=>obtain⟨s',R,h',J,C,B⟩:=Zi (cx.fr f id) s ρ (show Qs cx.P (cx.fr f id) (λs=>D ops s K) s from h) hn W V;exact hD ops s' K h' id E F n0 ρ0 R a w ro Q M J C B
 |seq p q=>
  have h':(Option.rec (motive:=λ_=>Prop) (U.code n0 f p s λax s'=>match ax with
   |.Cc=>U.code n0 f q s' K
   |ax=>K ax s') (λS=>kk U S n0 f p q s K) (Option.rec (motive:=λ_=>Option CV) none (λr=>cx.cut f r) (La q))):=h
  cases hS:(Option.rec (motive:=λ_=>Option CV) none (λr=>cx.cut f r) (La q))with
  |none=>
   rw[hS]at h';refine wpIn_seq (Jo L h' (ρ0:=ρ0) ?_ hn W V);intro x s' R Y w' O J C B;cases x with
   |Cc=>exact Jo L O M J C B
   |exit id=>exact M _ _ _ _ _ O J C B
   |goto l=>exact M _ _ _ _ _ O J C B
   |ret=>exact M _ _ _ _ _ O J C B
   |AA v=>exactλu hu=>M (.AA v) _ _ _ _ O J C B u hu
  |some S=>
   rw[hS]at h';obtain⟨h1,h2⟩:=(show kk U S n0 f p q s K from h');refine wpIn_seq (Jo L h1 (ρ0:=ρ0) ?_ hn W V);intro x s' R Y w' O J C B;cases x with
   |Cc=>obtain⟨x0,hI,ao⟩:=O;obtain⟨ab,ρ2,ad,aa⟩:=fS ao B;exact Jo L (h2 x0 hI) M ab (C.trans ad) aa
   |exit id=>exact M _ _ _ _ _ O J C B
   |goto l=>exact M _ _ _ _ _ O J C B
   |ret=>exact M _ _ _ _ _ O J C B
   |AA v=>exactλu hu=>M (.AA v) _ _ _ _ O J C B u hu
 |cond c p q=>
  obtain⟨b,T',he,hT,hb⟩:=uz (tmps:=a.tmps) (show SO s.T c (λT=>U.code n0 f p ⟨s.N,T,s.H,s.nx,s.ro,s.D⟩ K) (λT=>U.code n0 f q ⟨s.N,T,s.H,s.nx,s.ro,s.D⟩ K)from h) V.tr;have B:SR E F ρ ⟨s.N,T',s.H,s.nx,s.ro,s.D⟩ a w ro:=⟨V.rel,λt b hb=>V.tr t b (by rw[<-hT];exact hb),V.size,V.dr,V.rr⟩;refine wpIn_cond he ?_;cases b with
  |true=>exact Jo L (show U.code n0 f p ⟨s.N,T',s.H,s.nx,s.ro,s.D⟩ K from hb) M hn W B
  |false=>exact Jo L (show U.code n0 f q ⟨s.N,T',s.H,s.nx,s.ro,s.D⟩ K from hb) M hn W B
 |block id p=>
  refine wpIn_block (Jo L (show U.code n0 f p s _ from h) (ρ0:=ρ0) ?_ hn W V);intro x s' R Y w' O J C B;cases x with
  |Cc=>exact M _ _ _ _ _ O J C B
  |exit Z=>
   show if Z=id then Q .normal Y w' else Q (.exit Z) Y w'
   have af:cond (Nat.beq Z id) (K .Cc s') (K (.exit Z) s'):=O;cases hb:Nat.beq Z id with
   |true=>rw[hb,cond_true]at af;rw[Nat.beq_eq]at hb;rw[if_pos hb];exact M _ _ _ _ _ af J C B
   |false=>rw[hb,cond_false]at af;rw[if_neg (λe=>by rw[<-Nat.beq_eq,hb]at e;cases e)];exact M _ _ _ _ _ af J C B
  |goto l=>exact M _ _ _ _ _ O J C B
  |ret=>exact M _ _ _ _ _ O J C B
  |AA v=>exactλu hu=>M (.AA v) _ _ _ _ O J C B u hu
 |loop p=>
  have h':(Option.rec (motive:=λ_=>Prop) (U.code n0 f p s λax s'=>match ax with
   |.Cc=>U.code n0 f (.loop p) s' K
   |ax=>K ax s') (λS=>cond (Option.rec (motive:=λ_=>Bool) false (λr=>cx.pl f r s) (La p)) (U.code n0 f p s λax s'=>match ax with
   |.Cc=>OQ cx.P (NJ cx f p) U S n0 f p s' K
   |ax=>K ax s') (OQ cx.P (NJ cx f p) U S n0 f p s K)) (Option.rec (motive:=λ_=>Option CV) none (λr=>cx.lp f r) (La p))):=h
  show Qg (FW ro) 0 cx.P p Q a w;cases hS:(Option.rec (motive:=λ_=>Option CV) none (λr=>cx.lp f r) (La p))with
  |none=>
   rw[hS]at h';refine oQ (Jo L h' (ρ0:=ρ0) ?_ hn W V);intro x s' R Y w' O J C B;cases x with
   |Cc=>exact L n0 f (.loop p) s' K O E F ρ0 R Y w' ro Q M J C B
   |exit id=>exact M _ _ _ _ _ O J C B
   |goto l=>exact M _ _ _ _ _ O J C B
   |ret=>exact M _ _ _ _ _ O J C B
   |AA v=>exactλu hu=>M (.AA v) _ _ _ _ O J C B u hu
  |some S=>
   rw[hS]at h';have stat:∀(s:St) ρ a w,OQ cx.P (NJ cx f p) U S n0 f p s K->n0<=s.nx->Dj n0 ρ0 ρ->SR E F ρ s a w ro->Qg (FW ro) 0 cx.P p Q a w:=by
    intro s ρ a w hl hn W V;obtain⟨⟨x0,aw,ai⟩,ag⟩:=hl;have key:∀(m:Nat) (x:S.X),S.m x<m->S.I s x->∀ρ a w,n0<=S.nx s n0->Dj n0 ρ0 ρ->SR E F ρ (sV S s n0 x) a w ro->Qg (FW ro) 0 cx.P p Q a w:=by
     intro m
     induction m with
     |zero=>intro x O;omega
     |succ m ih=>
      intro x O hI ρ a w ar au aq;refine oQ (Jo L (ag x hI) (ρ0:=ρ0) ?_ ar au aq);intro y s' R Y w' hy J C B;cases y with
      |Cc=>obtain⟨s1,aA,⟨x1,av,aB,ah⟩,az,ak,aj⟩:=Zi (NJ cx f p) s' R hy J C B;obtain⟨ab,ρ2,ad,aa⟩:=fS ah aj;exact ih x1 (by omega) av ρ2 Y w' ab (ak.trans ad) aa
      |exit id=>exact M _ _ _ _ _ hy J C B
      |goto l=>exact M _ _ _ _ _ hy J C B
      |ret=>exact M _ _ _ _ _ hy J C B
      |AA v=>exactλu hu=>M (.AA v) _ _ _ _ hy J C B u hu
    obtain⟨ab,ρ2,ad,aa⟩:=fS ai V;exact key (S.m x0+1) x0 (Nat.lt_succ_self _) aw ρ2 a w ab (W.trans ad) aa
   cases hp:(Option.rec (motive:=λ_=>Bool) false (λr=>cx.pl f r s) (La p))with
   |false=>have h2:cond (Option.rec (motive:=λ_=>Bool) false (λr=>cx.pl f r s) (La p)) _ (OQ cx.P (NJ cx f p) U S n0 f p s K):=h';rw[hp]at h2;exact stat s _ a w h2 hn W V
   |true=>
    have h2:cond (Option.rec (motive:=λ_=>Bool) false (λr=>cx.pl f r s) (La p)) (U.code n0 f p s λax s'=>match ax with
     |.Cc=>OQ cx.P (NJ cx f p) U S n0 f p s' K
     |ax=>K ax s') (OQ cx.P (NJ cx f p) U S n0 f p s K):=h'
    rw[hp]at h2;refine oQ (Jo L h2 (ρ0:=ρ0) ?_ hn W V);intro x s' R Y w' O J C B;cases x with
    |Cc=>exact stat s' R Y w' O J C B
    |exit id=>exact M _ _ _ _ _ O J C B
    |goto l=>exact M _ _ _ _ _ O J C B
    |ret=>exact M _ _ _ _ _ O J C B
    |AA v=>exactλu hu=>M (.AA v) _ _ _ _ O J C B u hu
 |rangeFunc g ps ay body=>exact Ad3 ae (show lE U g ps ay body s K from h) M hn W V
 |exit id=>exact wpIn_exit (M (.exit id) _ _ _ _ h hn W V)
 |label l=>exact wpIn_label (M .Cc _ _ _ _ h hn W V)
 |goto l=>exact wpIn_goto (M (.goto l) _ _ _ _ h hn W V)
 |ret=>exact wpIn_ret (M .ret _ _ _ _ h hn W V)
 |scope p=>
  refine Apr (Jo L (show U.code n0 f p s _ from h) (ρ0:=ρ0) ?_ hn W V);intro x s' R Y w' O J C B;cases x with
  |Cc=>exact⟨λ_ e=>(by cases e),M .Cc _ _ _ _ O J C B⟩
  |exit id=>exact⟨λ_ e=>(by cases e),M (.exit id) _ _ _ _ O J C B⟩
  |goto l=>exact O.elim
  |ret=>exact⟨λ_ e=>(by cases e),M .ret _ _ _ _ O J C B⟩
  |AA v=>exactλu hu=>⟨λ_ e=>(by cases e),M (.AA v) _ _ _ _ O J C B u hu⟩
 |refuse _=>exact h.elim
theorem vA {P:Program} {En:Ft} (ab:Nu P En.code) {n0:Nat} {f:FuncId} {E:Env} {F:Nat->Option Obj} {ρ0:Af} (ad:∀B,Dj n0 ρ0 B->ρ0.le B):∀(k:Nat) (c:Code) (s:St) (m:MD) (K:KD),Qr En n0 f k c s m K-> ∀(ρ:Af) (a:Act) (w:World) (y:Frame) (cs:List Frame) (Q:Exit->Act->List Frame->World->Prop),(∀x s' R B U w' Y,K x s' R->n0<=s'.nx->Dj n0 ρ0 B->SR E F B s' U w' none->MR ρ0 R Y->Sh B x λe=>Q e U ({y with mode:=Y}::cs) w')-> n0<=s.nx->Dj n0 ρ0 ρ->SR E F ρ s a w none->MR ρ0 m y.mode->c.wpSIn (FW none) 0 P Q a (y::cs) w
 |0,_,_,_,_,h=>h.elim
 |k+1,c,s,m,K,h=>by
  intro ρ a w y cs Q W hn hk S hm;have ih:=vA ab (f:=f) (E:=E) (F:=F) ad k;have C:En.code n0 f c s (λx s'=>K x s' m)->c.wpSIn (FW none) 0 P Q a (y::cs) w:=λh=>
   wpSIn_of_wpIn rfl (Jo ab h (Q:=λe U w'=>Q e U (y::cs) w') (λx s' B U w' Z L M J=>W x s' m B U w' y.mode Z L M J hm) hn hk S)
  cases c with
  |skip=>exact C h
  |region id ops ak=>
   cases ak with
   |true=>exact C h
   |false=>
    have h':Option.rec (motive:=λ_=>Prop) (En.code n0 f (.region id ops false) s λx s'=>K x s' m) (λdst=>vH s dst m K) (U2 ops.toList):=h;cases hr:U2 ops.toList with
    |none=>rw[hr]at h';exact C h'
    |some dst=>
     rw[hr]at h';refine AjC hr ?_;cases m with
     |ret=>
      obtain⟨T,hT,h1⟩:=BG h';generalize hu:y.mode=u at hm;cases hm;obtain⟨e1,e2,e3⟩:=NI S.tr S.size (.EF (ρ:=ρ)) hT;have hc:{y with mode:=.returning}=y:=by rw[<-hu]
      have:=W .Cc _ _ ρ (a.put dst .nilIface) w .returning h1 hn hk ⟨S.rel,e1,e2,by rw[e3];exact S.dr,S.rr⟩ .ret;simp only[recoverD,hu];rw[hc]at this;exact this
     |AA v=>obtain⟨T,hT,h1⟩:=BG h';generalize hu:y.mode=u at hm;cases hm;rename_i u hv;obtain⟨e1,e2,e3⟩:=NI S.tr S.size (hv.mono (ad ρ hk)) hT;have:=W .Cc _ _ ρ (a.put dst u) w (.panicking [{v:=u,recovered:=true}]) h1 hn hk ⟨S.rel,e1,e2,by rw[e3];exact S.dr,S.rr⟩ (.Ka v u hv);simp only[recoverD,hu,fresh];exact this
     |Ka v=>
      obtain⟨T,hT,h1⟩:=BG h';generalize hu:y.mode=u at hm;cases hm;rename_i u hv;obtain⟨e1,e2,e3⟩:=NI S.tr S.size (.EF (ρ:=ρ)) hT;have hc:{y with mode:=.panicking [{v:=u,recovered:=true}]}=y:=by rw[<-hu]
      have:=W .Cc _ _ ρ (a.put dst .nilIface) w (.panicking [{v:=u,recovered:=true}]) h1 hn hk ⟨S.rel,e1,e2,by rw[e3];exact S.dr,S.rr⟩ (.Ka v u hv);simp only[recoverD,hu];rw[hc]at this;exact this
  |seq p q=>
   refine wpSIn_seq (ih p s m _ (show Qr En n0 f k p s m (λx s' R=>match x with
    |.Cc=>Qr En n0 f k q s' R K
    |x=>K x s' R)from h) ρ a w y cs _ (λx s' R B U w' Y Z L M J O=>?_) hn hk S hm)
   cases x with
   |Cc=>exact ih q s' R K Z B U w' {y with mode:=Y} cs Q (λx ao aq af au al an aa ah aj ag ai=>W x ao aq af au al an aa ah aj ag ai) L M J O
   |exit id=>exact W (.exit id) s' R B U w' Y Z L M J O
   |goto l=>exact W (.goto l) s' R B U w' Y Z L M J O
   |ret=>exact W .ret s' R B U w' Y Z L M J O
   |AA v=>exact W (.AA v) s' R B U w' Y Z L M J O
  |cond c p q=>
   obtain⟨b,T',ar,hT,h1⟩:=uz (tmps:=a.tmps) (show SO s.T c (λT=>Qr En n0 f k p ⟨s.N,T,s.H,s.nx,s.ro,s.D⟩ m K) (λT=>Qr En n0 f k q ⟨s.N,T,s.H,s.nx,s.ro,s.D⟩ m K)from h) (a:=a) S.tr;have ae:SR E F ρ ⟨s.N,T',s.H,s.nx,s.ro,s.D⟩ a w none:=⟨S.rel,λt x ht=>S.tr t x (by rw[<-hT];exact ht),S.size,S.dr,S.rr⟩;refine wpSIn_cond ar ?_;cases b with
   |true=>exact ih p _ m K h1 ρ a w y cs Q W hn hk ae hm
   |false=>exact ih q _ m K h1 ρ a w y cs Q W hn hk ae hm
  |block id p=>
   refine Aps (ih p s m _ (show Qr En n0 f k p s m (λx s' R=>match x with
    |.exit V=>cond (Nat.beq V id) (K .Cc s' R) (K (.exit V) s' R)
    |x=>K x s' R)from h) ρ a w y cs _ (λx s' R B U w' Y Z L M J O=>?_) hn hk S hm)
   cases x with
   |Cc=>exact W .Cc s' R B U w' Y Z L M J O
   |exit V=>
    show if V=id then Q .normal U _ w' else Q (.exit V) U _ w'
    have aa:cond (Nat.beq V id) (K .Cc s' R) (K (.exit V) s' R):=Z;cases hb:Nat.beq V id with
    |true=>rw[hb]at aa;rw[Nat.beq_eq]at hb;rw[if_pos hb];exact W .Cc s' R B U w' Y aa L M J O
    |false=>rw[hb]at aa;rw[if_neg (λe=>by rw[<-Nat.beq_eq,hb]at e;cases e)];exact W (.exit V) s' R B U w' Y aa L M J O
   |goto l=>exact W (.goto l) s' R B U w' Y Z L M J O
   |ret=>exact W .ret s' R B U w' Y Z L M J O
   |AA v=>exact W (.AA v) s' R B U w' Y Z L M J O
  |loop p=>exact C h
  |rangeFunc f ps av body=>exact C h
  |exit id=>exact C h
  |label l=>exact C h
  |goto l=>exact C h
  |ret=>exact C h
  |scope _=>exact C h
  |refuse _=>exact C h
theorem yv {n0 n:Nat} {ρ0 q:Af} (y:∀i,n0<=i->ρ0 i=none) (B:Dj n0 ρ0 q) (hn:n0<=n):RX n0 n ρ0 q:=⟨⟨λi b hb=>(by
  by_cases hi:i<n0
  ·rw[B.lo i hi];exact hb
  ·rw[y i (by omega)]at hb;exact absurd hb (by simp)),B.st⟩,B.lo,hn⟩
theorem AdS {P:Program} {En:Ft} (hcode:Nu P En.code) {g:FuncId} {args:List AV} {H:Tr Ac} {nx:Nat} {m:MD} {K:MD->Tr Ac->Nat->Prop} (h:ko P En g args H nx m K) {E:Env} {F:Nat->Option Obj} {ρ:Af} {w:World} (r:Rel E F nx ρ H.get w) {u:FrameMode} (hm:MR ρ m u):
  (∃ fn c, P.funcs[g]? = some fn ∧ (fn.name == "runtime.NumGoroutine") = false ∧ fn.body = some c) ∧ ∀ vs, AF ρ args vs →
   CallsDIn (FW none) 0 P g vs.toArray u w λe u' w'=>∃v m' H' nx' ρ',e=.returned v/\K m' H' nx'/\RX nx nx' ρ ρ'/\Rel E F nx' ρ' H'.get w'/\MR ρ' m' (Go.settle u'):=by
 obtain⟨fn,hfn,h1⟩:=BG h;obtain⟨hnm,h2⟩:=Eh.1 h1;obtain⟨c,hc,h3⟩:=BG h2;simp only[Bu]at h3;refine⟨⟨fn,c,hfn,by simpa using hnm,hc⟩,λvs At=>?_⟩;refine callsDIn_of_wpSIn hfn hc trivial λc₀ cs hc₀=>?_;have hlen:=At.length;subst hc₀;refine vA hcode (f:=g) (ρ0:=ρ) (λρ' hk=>(yv r.new hk (Nat.le_refl _)).le) 60 c _ m _ h3 ρ {tmps:=vs.toArray++Array.replicate (fn.ntmps-vs.toArray.size) undef,defers:=[]} w c₀ cs _ (λx s m1 ρ' a' w' u' hx hn hk hs' hm'=>?_) (Nat.le_refl _) (Dj.refl _ _) ⟨r,Ab1 At _,by simp[hlen],.nil,.none⟩ hm;have h5:(x=.Cc\/x=.ret)/\Ap s.D.isEmpty (A7 (Tk P s.H s.T fn.results.toList) λ_=>K m1.settle s.H s.nx):=by
  cases x with
  |Cc=>exact⟨.inl rfl,hx⟩
  |ret=>exact⟨.inr rfl,hx⟩
  |exit _=>exact hx.elim
  |goto _=>exact hx.elim
  |AA _=>exact hx.elim
 obtain⟨hxx,h6⟩:=h5;obtain⟨hD,h7⟩:=Eh.1 h6;obtain⟨v1,hv1,h8⟩:=BG h7;obtain⟨uv,hu,_⟩:=ZU (P:=P) hs'.rel hs'.tr hv1;have hdr:=hs'.dr;have hD':s.D=[]:=by simpa using hD
 rw[hD']at hdr;have hdf:a'.defers=[]:=by generalize a'.defers=ds at hdr;cases hdr;rfl
 have hrx:=yv r.new hk hn;have fin:a'.defers=[]/\∃u'',({c₀ with mode:=u'}::cs)={c₀ with mode:=u''}::cs/\∃v,(results fn a'.tmps).run P w'=.ok v w'/\ ∃v' m' H' nx' ρ',Ending.returned v=.returned v'/\K m' H' nx'/\RX nx nx' ρ ρ'/\Rel E F nx' ρ' H'.get w'/\MR ρ' m' (Go.settle u''):=⟨hdf,u',rfl,uv,hu,uv,m1.settle,s.H,s.nx,ρ',rfl,h8,hrx,hs'.rel,(hm'.mono hrx.le).settle⟩;rcases hxx with hx|hx
 ·rw[hx];exact fin
 ·rw[hx];exact fin
theorem lB {P:Program} {U:Ft} (q:Nu P U.code) {E:Env} {F:Nat->Option Obj} {fn:Func} {tmps:Array Value} {R:Ending->World->Prop} {K:MD->Tr Ac->Nat->Prop}: ∀(D:List Qe) (M:List Deferred) (m:MD) (H:Tr Ac) (nx:Nat) (ρ:Af) (u:FrameMode) (w:World),DR ρ D M->MR ρ m u->Zk P U D m H nx K->Rel E F nx ρ H.get w-> (∀m' H' nx' y u' w',K m' H' nx'->RX nx nx' ρ y->Rel E F nx' y H'.get w'->MR y m' u'->LeavesIn (FW none) 0 P fn tmps R [] u' w')->LeavesInM (FW none) 0 P fn tmps R M u w
 |_,_,m,H,nx,ρ,u,w,.nil,hm,h,r,O=>O m H nx ρ u w h (RX.refl _ ρ) r hm
 |_,_,m,H,nx,ρ,u,w,.mark id b l M hb hs,hm,h,r,O=>by
  obtain⟨o,ho,S⟩:=BG (show A7 (H.get id) λo=>match o with
    |.Dc true=>Zk P U l m (H.set id (.Dc false)) nx K
    |_=>False from h)
  cases o with
  |Dc op=>
   cases op with
   |false=>exact S.elim
   |true=>obtain⟨c,hc,ag⟩:=r.ob _ _ b ho hb;cases ag;refine⟨hm.out,.inl ⟨b.b,_,rfl,run_takeDeferred hc,?_⟩⟩;refine lB q l M m (H.set id (.Dc false)) nx ρ u _ hs hm S ?_ O;rw[H5];exact r.put ho hb (.Dc false) (Aa9 w b.b _ _ hc) rfl rfl rfl
  |_=>exact S.elim
 |_,_,m,H,nx,ρ,u,w,.call g args va vc l M hv hs,hm,h,r,O=>by
  obtain⟨⟨an,c1,aj,ah,ak⟩,C⟩:=AdS q (show ko P U g args H nx m (λm H nx=>Zk P U l m H nx K)from h) r hm;refine⟨hm.out,.inr ⟨by simp[FW,Fence.wide],.func g,vc.toArray,g,(va++vc).toArray,rfl,?_,λ_ _=>trivial,?_⟩⟩
  ·simp only[invoke,callFunc,Sem.run_bind,run_program,Result.andThen_ok,aj,ah,Bool.false_eq_true,if_false,ak,Option.isNone_some,Sem.run_pure];congr 2;apply Array.ext';simp
  ·obtain⟨hF,C⟩:=C _ hv;refine⟨hF,λc cs hc J=>?_⟩;obtain⟨e,u',w',fr,⟨v,m1,H1,ad,y,rfl,S,hx,Y,ai⟩,B⟩:=C c cs hc J;exact⟨_,u',w',fr,lB q l M m1 H1 ad y _ w' (hs.mono hx.le) ai S Y λae al W V ab aa hk af L Z=>O ae al W V ab aa hk (hx.trans af) L Z,B⟩
theorem AdZ {cx:Ctx} (hm:cx.P.follows .mixedOrders=true) {En:Ft} (O:Nu cx.P En.code):K2 cx.P (vE cx En):=by
 intro g args H nx K h E F ρ w r;obtain⟨fn,ad,h1⟩:=BG h;obtain⟨af,h2⟩:=Eh.1 h1;obtain⟨c,hc,h3⟩:=BG h2;simp only[Bu]at h3;refine⟨⟨fn,c,ad,by simpa using af,hc⟩,λvs At=>?_⟩;refine callsIn_of_wp_marks ad hc trivial ?_;have ae:=At.length;refine Jo O h3 (E:=E) (F:=F) (ρ0:=ρ) (ρ:=ρ) (ro:=none) (λx s B V w' C hn hk q=>?_) (Nat.le_refl _) (Dj.refl _ _) ⟨r,Ab1 At _,by simp[ae],.nil,.none⟩;have U:RX nx s.nx ρ B:=⟨⟨λi b hb=>(by
  by_cases hi:i<nx
  ·rw[hk.lo i hi];exact hb
  ·rw[r.new i (by omega)]at hb;exact absurd hb (by simp)),hk.st⟩,hk.lo,hn⟩
 unfold vG at C;split at C
 ·rename_i hD;have ab:=q.dr;rw[hD]at ab;have ah:V.defers=[]:=by generalize V.defers=ds at ab;cases ab;rfl
  have lv:∀u R,u≠FrameMode.run->LeavesIn (FW none) 0 cx.P fn V.tmps R [] u w'->LeavesInM (FW none) 0 cx.P fn V.tmps R V.defers u w':=λu R hu h=>by rw[ah];exact h
  split at C
  ·obtain⟨v1,J,h8⟩:=BG C;obtain⟨S,hu,L⟩:=ZU (P:=cx.P) q.rel q.tr J;exact lv _ _ (by simp) ⟨S,hu,_,h8,S,B,rfl,U,q.rel,L⟩
  ·obtain⟨v1,J,h8⟩:=BG C;obtain⟨S,hu,L⟩:=ZU (P:=cx.P) q.rel q.tr J;exact lv _ _ (by simp) ⟨S,hu,_,h8,S,B,rfl,U,q.rel,L⟩
  ·intro u hu;exact lv _ _ (by simp) ⟨_,C,u,B,rfl,U,q.rel,hu⟩
  ·exact C.elim
 ·have y:∀(m:MD) (u:FrameMode),MR B m u->Zj cx.P En fn K m s->LeavesInM (FW none) 0 cx.P fn V.tmps (gK E F nx ρ K) V.defers u w':=λm u ag hL=>by
   refine lB O s.D V.defers m s.H s.nx B u w' q.dr ag hL q.rel λm1 H1 ak W aj ai h6 aa M Z=>?_;have Y:=U.trans aa;cases m1 with
   |ret=>obtain⟨v1,J,h8⟩:=BG h6;cases Z;obtain⟨S,hu,L⟩:=ZU (P:=cx.P) M (q.tr.mono aa.le) J;exact⟨S,hu,_,h8,S,W,rfl,Y,M,L⟩
   |AA v=>cases Z;rename_i S hu;exact⟨_,h6,S,W,rfl,Y,M,hu⟩
   |Ka v=>exact h6.elim
  split at C
  ·exact y .ret .returning .ret C
  ·exact y .ret .returning .ret C
  ·intro u hu;exact y (.AA _) _ (.AA _ u hu) C
  ·exact C.elim
theorem vC {cx:Ctx} (y:cx.P.follows .mixedOrders=true) {D:Array Oper->St->KX->Prop} (hD:Ya cx.P D) (q:DP cx.P cx.tb):∀n,Nu cx.P (kz cx D n).code/\K2 cx.P (kz cx D n).call
 |0=>⟨λ_ _ _ _ _ h=>h.elim,λ_ _ _ _ _ h=>h.elim⟩
 |n+1=>by obtain⟨B,C⟩:=vC y hD q n;exact⟨AdR hD B C q,AdZ y B⟩
def Ch (P:Program) (p:Bool) (c:AV) (r:CR):Prop:=
 match p,r with
 |false,.mk v H _=>A7 (Jr P H v) λq=>Ap q.1 (AR [] c q.2.1)
 |true,.AA v H _=>A7 (Jr P H v) λq=>Ap q.1 (AR [] c q.2.1)
 |_,_=>False
theorem XZ {ρ ρ2:Af} (h:∀b o,ρ.st b=some o->ρ2.st b=some o):SD [] ρ ρ2:=⟨λi j q=>(by cases q),h⟩
theorem zU {P:Program} {E:Env} {F:Nat->Option Obj} {nx:Nat} {ρ:Af} {H:Tr Ac} {w:World} (r:Rel E F nx ρ H.get w) {n1:Nat} {B:Af} {H1:Tr Ac} {w':World} {W c:AV} {u:Value} (ab:∀b o,ρ.st b=some o->B.st b=some o) (r1:Rel (Gs E ρ) (λb=>w.heap[b]?) n1 B H1.get w') (hv:VR B W u) (hc:A7 (Jr P H1 W) λq=>Ap q.1 (AR [] c q.2.1)): ∃K,RX nx (nx+1) ρ K/\Rel E F (nx+1) K H.get w'/\VR K c u:=by
 obtain⟨⟨s,c',fz,ids⟩,ad,h1⟩:=BG hc;obtain⟨V,h3⟩:=Eh.1 h1;simp only at V;subst V;obtain⟨C,_,S⟩:=QF r1 W c' fz ids ad;obtain⟨hx,J⟩:=Kr r1 C;have L:=S ids C (λ_ h=>h) u hv;generalize CO B w' ids=ρ2 at hx J L;have U:∀b o,ρ.st b=some o->ρ2.st b=some o:=λb o h=>hx.le.st b o (ab b o h);have O:ρ.le ⟨ρ.nm,ρ2.st⟩:=⟨λ_ _ h=>h,U⟩;have y:∀b o,w.heap[b]? =some o->w'.heap[b]? =some o:=J.fr;have R:∀b o o',w.heap[b]? =some o->ρ2.st b=some o'->ρ.st b≠none:=λb o o' h1 V=>by have:=J.sf b o o' h1 V;simpa[Gs]using this
 refine⟨⟨ρ.nm,ρ2.st⟩,⟨O,λ_ _=>rfl,Nat.le_succ _⟩,⟨J.tape,J.os,J.output,λb o hb=>y b o (r.fr b o hb),λi o b hi hb=>?_,r.dj,r.inj,λi hi=>r.new i (Nat.le_of_succ_le hi),r.gl,r.bs,J.st,λi o b hi hb=>?_,λb o o' hF Z=>?_⟩,Kg (ρ:=ρ2) (ρ2:=⟨ρ.nm,ρ2.st⟩) (XZ λ_ _ h=>h) c c' u h3 L⟩
 ·obtain⟨Y,h4,h5⟩:=r.ob i o b hi hb;exact⟨Y,y _ _ h4,h5.mono O⟩
 ·obtain⟨Y,h4,h5⟩:=r.ob i o b hi hb;cases Z:ρ2.st b.b with
  |none=>rfl
  |some o'=>exact absurd (r.sd i o b hi hb) (R b.b Y o' h4 Z)
 ·have:=R b o o' (r.fr b o hF) Z;cases M:ρ.st b with
  |none=>exact absurd M this
  |some aa=>exact r.sf b o aa hF M
theorem w9 {P:Program} {call:FuncId->List AV->Tr Ac->Nat->KC->Prop} (C:K2 P call) {g:FuncId} {AE:Tr Ac->List AV->Option Ct} {gl:List (Nat×Ac)} {ng:Nat} (aa:∀p∈gl,Hf p.2=true) (L:∀H args ct,AE H args=some ct->(∀p∈gl,H.get p.1=some p.2)/\AH [] args args/\∀p v,IY ct=some (p,v)->call g args (AU gl) ng (Ch P p v)):Ci P g AE:=by
 intro H args ct Y p v M E F ρ w nx H' hG r;obtain⟨hH,J,Z⟩:=L H args ct Y;have r0:Rel (Gs E ρ) (λb=>w.heap[b]?) ng ⟨λ_=>none,ρ.st⟩ (AU gl).get w:=⟨r.tape,r.os,r.output,λ_ _ h=>h,λ_ _ _ _ h=>(by cases h),λ_ _ _ _ h=>(by cases h),λ_ _ _ _ _ _ _ _ h=>(by cases h),λ_ _=>rfl,λg l hg=>hG g l (hH _ (MY hg)),λb o hb=>r.fr b o (r.bs b o hb),r.st,λ_ _ _ _ h=>(by cases h),λb o o' _ hs=>(by simp[Gs];exactλe=>by rw[show ρ.st b=some o' from hs]at e;cases e)⟩;have Am:=C g args (AU gl) ng _ (Z p v M) _ _ _ w r0;refine⟨Am.1,λvs At=>CallsIn.mono (Am.2 vs (OB (ρ:=ρ) (ρ2:=⟨λ_=>none,ρ.st⟩) (XZ λ_ _ h=>h) args args vs J At)) λe w' he=>?_⟩;obtain⟨K,q,y⟩:=he;cases p with
 |false=>
  cases K with
  |mk v' H1 n1=>obtain⟨u,W,rfl,R,O,hv⟩:=y;obtain⟨B,V,U,S⟩:=zU r R.le.st O hv q;exact⟨u,B,rfl,V,U,S⟩
  |AA _ _ _=>exact q.elim
  |Dc _ _ _ _=>exact q.elim
 |true=>
  cases K with
  |AA v' H1 n1=>obtain⟨u,W,rfl,R,O,hv⟩:=y;obtain⟨B,V,U,S⟩:=zU r R.le.st O hv q;exact⟨u,B,rfl,V,U,S⟩
  |mk _ _ _=>exact q.elim
  |Dc _ _ _ _=>exact q.elim
end Go.Ev
end
section
/- The symbolic layer, part L: regions that draw their order. -/
namespace Go.Ev
theorem Tr.sR {α:Type} {x:α}:∀(p:List Bool) (t:Tr α),Tr.gp p t=some x->Tr.sp (some x) p t=t
 | [],.leaf,h=>by cases h
 | [],.node v l r,h=>by have h':v=some x:=h;subst h';rfl
 |b::p,.leaf,h=>by rw[Tr.Tu]at h;cases h
 |b::p,.node v l r,h=>by
  cases b with
  |true=>have h':Tr.gp p l=some x:=h;show Tr.node v (Tr.sp (some x) p l) r=_;rw[sR p l h']
  |false=>have h':Tr.gp p r=some x:=h;show Tr.node v l (Tr.sp (some x) p r)=_;rw[sR p r h']
theorem Tr.Ab3 {α:Type} {x:α} {t:Tr α} {n:Nat} (h:t.get n=some x):t.set n x=t:=sR (path n) t h
theorem Ad5 {ops:Array Oper} {T:Tr AV} {o:Oper} {K:Tr AV->Bool->Prop} (h:Qt ops T o K):∃E,K T E/\EX ops T o=some E:=by
 unfold Qt at h;unfold EX;split at h
 ·rename_i y;rw[y];exact⟨true,h,rfl⟩
 ·rename_i j J y;rw[y];obtain⟨U,S,R⟩:=BG h;obtain⟨d,C,O⟩:=BG R;obtain⟨v,q,B⟩:=BG O;simp only[S];split at B
  ·rename_i b;obtain⟨M,L⟩:=FH.1 B;cases b with
   |true=>exact⟨_,by have:=M rfl;rwa[Tr.Ab3 q]at this,by simp[ob,C,q]⟩
   |false=>exact⟨_,by have:=L rfl;rwa[Tr.Ab3 q]at this,by simp[ob,C,q]⟩
  ·refine⟨false,B,?_⟩;simp only[ob,C,q]
def XU (X:Operand->Option AV) (op:Op):Option K4:=
 match op with
 |.call c=>match c.callee with
  |.value f=>ob (X f) λf=>ob (F3 X c.args.toList) λq=>Jq f q
  |_=>none
 |_=>none
theorem yJ {P:Program} {call:DZ} {X:Operand->Option AV} {H:Tr Ac} {ni nx:Nat} {op:Op} (h:∀t,XU X op=some t->call t H nx=none):Gq P call X H ni nx op=Gq P NZ X H ni nx op:=by
 cases op<;>try rfl
 rename_i c;obtain⟨q,args,J⟩:=c;cases q with
 |builtin b=>cases b<;>rfl
 |invoke _ _=>rfl
 |value f=>
  simp only[Gq];simp only[XU]at h;cases C:X f with
  |none=>rfl
  |some E=>
   rw[C]at h;cases B:F3 X args.toList with
   |none=>rfl
   |some y=>
    rw[B]at h;cases ht:Jq E y with
    |none=>simp[ob,ht]
    |some t=>have:=h t (by simp[ob,ht]);simp[ob,ht,this,NZ]
theorem yI {P:Program} {call:DZ} {X:Operand->Option AV} {H:Tr Ac} {ni nx:Nat} {op:Op} {t:K4} {r:CR} (ht:XU X op=some t) (C:call t H nx=some r):Gq P call X H ni nx op=some r:=by
 cases op<;>first|(cases ht;done)|skip
 rename_i c;obtain⟨q,args,L⟩:=c;cases q with
 |builtin b=>cases ht
 |invoke _ _=>cases ht
 |value f=>obtain⟨M,E,K⟩:=Ae.1 (show(ob (X f) λf=>ob (F3 X args.toList) λy=>Jq f y)=some t from ht);obtain⟨y,B,J⟩:=Ae.1 K;simp[Gq,ob,E,B,J,C]
def HX (N p:Nat) (o:Oper) (A:Nat) (q:DS) (k:DK) (v:AV) (H:Tr Ac) (nx cc:Nat) (K:DS->Prop):Prop:=LP N q.T o.dst v λT=>K (match k with
  |.off=>⟨q.reads,q.news,q.At,T,H,nx,cc,q.pn⟩
  |.pure=>cond (LD o.op) ⟨⟨p,o,A,q.T,.pure,v,H,cc⟩::q.reads,q.news,q.At,T,H,nx,cc,q.pn⟩ ⟨q.reads,q.news,q.At,T,H,nx,cc,q.pn⟩
  |.new b=>⟨q.reads,⟨p,o,A,q.T,.new b,v,H,cc⟩::q.news,q.At,T,H,nx,cc,q.pn⟩
  |.Dy=>⟨q.reads,q.news,⟨p,o,A,q.T,.Dy,v,H,cc⟩::q.At,T,H,nx,cc,q.pn⟩
  |.dead=>⟨q.reads,q.news,q.At,T,H,nx,cc,q.pn⟩
  |.AA y H' nx'=>⟨q.reads,q.news,q.At,T,H,nx,cc,some ⟨p,A,y,H',nx'⟩⟩)
theorem NA {N p:Nat} {o:Oper} {A:Nat} {y:DS} {k:DK} {v:AV} {H:Tr Ac} {nx cc:Nat} {K:DS->Prop} (h:HX N p o A y k v H nx cc K):∃q,HY N p o A y k v H nx cc=some q/\K q:=by obtain⟨T,C,B⟩:=SQ h;exact⟨_,by unfold HY;rw[C];rfl,B⟩
def vB (N p:Nat) (o:Oper) (A:Nat) (q:DS) (K:DS->Prop) (r:CR):Prop:=
 match r with
 |.mk v H nx=>fN (p+1) λcc=>HX N p o A q .Dy v H nx cc K
 |.AA v H nx=>HX N p o A q (.AA v H nx) (.AL []) q.H q.nx q.cc K
 |.Dc _ _ _ _=>False
def kn (tb:DQ) (ht:Cq) (q:Tr Ac) (nx:Nat) (K:CR->Prop) (g:FuncId) (args:List AV) (L:Prop):Prop:=Option.rec (motive:=λ_=>Prop) (Option.rec (motive:=λ_=>Prop) L (λAE=>A7 (AE q args) λct=>OO ct (λv=>K (.mk v q (nx+1))) (λv=>K (.AA v q (nx+1)))) (look tb g)) (λAE=>A7 (AE q nx args) λhc=>OP hc (λv up n=>K (.mk v (Ck up q) n)) (λv up n=>K (.AA v (Ck up q) n))) (Lj ht g)
def Zg (P:Program) (tb:DQ) (ht:Cq) (X:Operand->Option AV) (q:Tr Ac) (ni nx:Nat) (op:Op) (K:CR->Prop):Prop:=Option.rec (motive:=λ_=>Prop) (Option.rec (motive:=λ_=>Prop) (A7 (Gq P NZ X q ni nx op) K) (λt=>match t with
    |.fn g args=>kn tb ht q nx K g args (A7 (Gq P NZ X q ni nx op) K)
    |.Dr _ _=>False) (XU X op))
  (λr=>Ap r.1 (K (.mk r.2.1 r.2.2 nx))) (JI P X q ni op)
theorem AdT {P:Program} {tb:DQ} {ht:Cq} {X:Operand->Option AV} {q:Tr Ac} {ni nx:Nat} {op:Op} {K:CR->Prop} (h:Zg P tb ht X q ni nx op K):∃r,FK P (Km tb ht) X q ni nx op=some r/\K r:=by
 unfold Zg at h;cases M:JI P X q ni op with
 |some r=>rw[M]at h;obtain⟨B,J⟩:=Eh.1 h;obtain⟨b,v,H'⟩:=r;simp only at B;subst B;exact⟨_,AbD M,J⟩
 |none=>
  rw[M]at h;cases B:XU X op with
  |none=>rw[B]at h;obtain⟨r,J,L⟩:=BG h;exact⟨r,Ww M (by rw[yJ (λt ht=>by rw[B]at ht;cases ht)];exact J),L⟩
  |some t=>
   rw[B]at h;cases t with
   |Dr _ _=>exact h.elim
   |fn g args=>
    have h':kn tb ht q nx K g args (A7 (Gq P NZ X q ni nx op) K):=h;unfold kn at h';cases E:Lj ht g with
    |some AE=>
     rw[E]at h';obtain⟨hc,L,R⟩:=BG h';obtain⟨p,v,up,n,S,O⟩:=SP R;have U:Km tb ht (.fn g args) q nx=some (Hh p v (Ck up q) n):=by show Option.rec (motive:=λ_=>Option CR) (ob (look tb g) λAE=>ob (AE q args) λct=>ob (IY ct) λo=>some (Hh o.1 o.2 q (nx+1))) (λAE=>ob (AE q nx args) λhc=>ob (hOut hc) λo=>some (Hh o.1 o.2.1 (Ck o.2.2.1 q) o.2.2.2)) (Lj ht g)=_;rw[E];show(ob (AE q nx args) λhc=>ob (hOut hc) λo=>some (Hh o.1 o.2.1 (Ck o.2.2.1 q) o.2.2.2))=_;rw[L];show(ob (hOut hc) λo=>some (Hh o.1 o.2.1 (Ck o.2.2.1 q) o.2.2.2))=_;rw[S];rfl
     refine⟨_,Ww M (yI B U),?_⟩;cases p with
     |false=>exact O
     |true=>exact O
    |none=>
    rw[E]at h';have y:Km tb ht (.fn g args) q nx=(ob (look tb g) λAE=>ob (AE q args) λct=>ob (IY ct) λo=>some (Hh o.1 o.2 q (nx+1))):=by show Option.rec (motive:=λ_=>Option CR) (ob (look tb g) λAE=>ob (AE q args) λct=>ob (IY ct) λo=>some (Hh o.1 o.2 q (nx+1))) (λAE=>ob (AE q nx args) λhc=>ob (hOut hc) λo=>some (Hh o.1 o.2.1 (Ck o.2.2.1 q) o.2.2.2)) (Lj ht g)=_;rw[E]
    cases J:look tb g with
    |none=>rw[J]at h';obtain⟨r,L,R⟩:=BG h';exact⟨r,Ww M (by rw[yJ (λt C=>by rw[B]at C;injection C with C;subst C;rw[y,J];rfl)];exact L),R⟩
    |some AE=>
     rw[J]at h';obtain⟨ct,L,R⟩:=BG h';obtain⟨p,v,S,O⟩:=V4 R;have hc:Km tb ht (.fn g args) q nx=some (Hh p v q (nx+1)):=by rw[y,J];show(ob (AE q args) λct=>ob (IY ct) λo=>some (Hh o.1 o.2 q (nx+1)))=_;rw[L];show(ob (IY ct) λo=>some (Hh o.1 o.2 q (nx+1)))=_;rw[S];rfl
     refine⟨_,Ww M (yI B hc),?_⟩;cases p with
     |false=>exact O
     |true=>exact O
def ky (P:Program) (tb:DQ) (ht:Cq) (ops:Array Oper) (N B:Nat) (E:Tr Nat) (p:Nat) (o:Oper) (y:DS) (K:DS->Prop):Prop:=A7 (E.get p) λA=>cond (QP y.pn A) (HX N p o A y .dead (.AL []) y.H y.nx y.cc K) (Qt ops y.T o λT C=>(λy:DS=>cond C (Option.rec (motive:=λ_=>Prop) (V5 P (B2 y.T) o.op (λv=>HX N p o A y .pure v y.H y.nx y.cc K) (Option.rec (motive:=λ_=>Prop) (fN (B+p) λni=>Option.rec (motive:=λ_=>Prop) (Option.rec (motive:=λ_=>Prop) (Ap (Fu (λh=>Go.Ev.tb A h.i) y.At) (Ap y.pn.isNone (Zg P tb ht (B2 y.T) (DY y.news y.At A p B y.H) ni y.nx o.op (vB N p o A y K)))) (λq=>HX N p o A y (.new q.2) q.1 y.H y.nx y.cc K) (It P (B2 y.T) ni o.op)) (λq=>Ap q.1 (HX N p o A y (.new q.2.2) q.2.1 y.H y.nx y.cc K)) (Jh P (B2 y.T) ni o.op)) (λv=>HX N p o A y .pure v y.H y.nx y.cc K) (Hd P (DY y.news y.At A p B y.H) (B2 y.T) o.op))) (λr=>Ap r.1 (HX N p o A y .pure r.2 y.H y.nx y.cc K)) (HP P (DY y.news y.At A p B y.H) (B2 y.T) o.op)) (HX N p o A y .off (.AL []) y.H y.nx y.cc K)) ⟨y.reads,y.news,y.At,T,y.H,y.nx,y.cc,y.pn⟩)
theorem AdY {P:Program} {tb:DQ} {ht:Cq} {ops:Array Oper} {N L:Nat} {Z:Tr Nat} {p:Nat} {o:Oper} {y:DS} {K:DS->Prop} (h:ky P tb ht ops N L Z p o y K):∃B,S5 P (Km tb ht) ops N L Z p o y=some B/\K B:=by
 obtain⟨A,hA,U⟩:=BG h;unfold S5;rw[hA];show∃B,(cond (QP y.pn A) (HY N p o A y .dead (.AL []) y.H y.nx y.cc) <| ob (EX ops y.T o) λV=>cond V _ _)=some B/\K B;cases hd:QP y.pn A with
 |true=>rw[hd,cond_true]at U;obtain⟨B,C,O⟩:=NA U;exact⟨B,C,O⟩
 |false=>
  rw[hd,cond_false]at U;obtain⟨V,C,hw⟩:=Ad5 U;rw[cond_false,hw];cases V with
  |false=>have C:HX N p o A y .off (.AL []) y.H y.nx y.cc K:=C;obtain⟨B,O,R⟩:=NA C;refine⟨B,?_,R⟩;show HY N p o A y .off (.AL []) y.H y.nx y.cc=some B;exact O
  |true=>
   have C:(Option.rec (motive:=λ_=>Prop) (V5 P (B2 y.T) o.op (λv=>HX N p o A y .pure v y.H y.nx y.cc K) (Option.rec (motive:=λ_=>Prop) (fN (L+p) λni=>Option.rec (motive:=λ_=>Prop) (Option.rec (motive:=λ_=>Prop) (Ap (Fu (λh=>Go.Ev.tb A h.i) y.At) (Ap y.pn.isNone (Zg P tb ht (B2 y.T) (DY y.news y.At A p L y.H) ni y.nx o.op (vB N p o A y K)))) (λq=>HX N p o A y (.new q.2) q.1 y.H y.nx y.cc K) (It P (B2 y.T) ni o.op)) (λq=>Ap q.1 (HX N p o A y (.new q.2.2) q.2.1 y.H y.nx y.cc K)) (Jh P (B2 y.T) ni o.op)) (λv=>HX N p o A y .pure v y.H y.nx y.cc K) (Hd P (DY y.news y.At A p L y.H) (B2 y.T) o.op))) (λr=>Ap r.1 (HX N p o A y .pure r.2 y.H y.nx y.cc K)) (HP P (DY y.news y.At A p L y.H) (B2 y.T) o.op)):=C;show∃B,(Option.rec (motive:=λ_=>Option DS) (fN (L+p) λni=>Option.rec (motive:=λ_=>Option DS) (gd (Fu (λh=>Go.Ev.tb A h.i) y.At) (gd y.pn.isNone <| ob (FK P (Km tb ht) (B2 y.T) (DY y.news y.At A p L y.H) ni y.nx o.op) λr=>CR.rec (motive:=λ_=>Option DS) (λv H nx=>fN (p+1) λcc=>HY N p o A y .Dy v H nx cc) (λv H nx=>HY N p o A y (.AA v H nx) (.AL []) y.H y.nx y.cc) (λ_ _ _ _=>none) r)) (λq=>HY N p o A y (.new q.2) q.1 y.H y.nx y.cc) (EE P (B2 y.T) ni o.op)) (λv=>HY N p o A y .pure v y.H y.nx y.cc) (Dl P (DY y.news y.At A p L y.H) (B2 y.T) o.op))=some B/\K B;cases O:HP P (DY y.news y.At A p L y.H) (B2 y.T) o.op with
   |some r=>rw[O]at C;obtain⟨R,S⟩:=Eh.1 C;obtain⟨b,v⟩:=r;simp only at R;subst R;rw[sD O];obtain⟨B,E,J⟩:=NA S;exact⟨B,E,J⟩
   |none=>
   rw[O]at C;rcases vF (H:=DY y.news y.At A p L y.H) C with C|⟨v,hv,hk⟩
   rotate_left
   ·rw[Xc O hv];obtain⟨B,E,J⟩:=NA hk;exact⟨B,E,J⟩
   cases R:Hd P (DY y.news y.At A p L y.H) (B2 y.T) o.op with
   |some v=>rw[R]at C;rw[Xc O R];obtain⟨B,E,J⟩:=NA C;exact⟨B,E,J⟩
   |none=>
   rw[R]at C;have e1:Dl P (DY y.news y.At A p L y.H) (B2 y.T) o.op=none:=by unfold Dl;rw[O];exact R
   rw[e1];simp only[Bu]at C⊢;cases S:Jh P (B2 y.T) (L+p) o.op with
   |some r=>rw[S]at C;obtain⟨E,J⟩:=Eh.1 C;obtain⟨b,v,aa⟩:=r;simp only at E;subst E;rw[AbH S];obtain⟨B,E,J⟩:=NA J;exact⟨B,E,J⟩
   |none=>
   rw[S]at C;cases E:It P (B2 y.T) (L+p) o.op with
   |some q=>rw[E]at C;rw[Aal S E];obtain⟨B,E,J⟩:=NA C;exact⟨B,E,J⟩
   |none=>
   rw[E]at C;have e2:EE P (B2 y.T) (L+p) o.op=none:=by unfold EE;rw[S];exact E
   rw[e2];obtain⟨J,h8⟩:=Eh.1 C;obtain⟨h9,Y⟩:=Eh.1 h8;obtain⟨r,W,M⟩:=AdT Y;simp only[J,h9,W,gd,cond_true,ob];cases r with
   |mk v H nx=>have M:fN (p+1) (λcc=>HX N p o A y .Dy v H nx cc K):=M;rw[Bu]at M;obtain⟨B,E,J⟩:=NA M;exact⟨B,E,J⟩
   |AA v H nx=>obtain⟨B,E,J⟩:=NA (show HX N p o A y (.AA v H nx) (.AL []) y.H y.nx y.cc K from M);exact⟨B,E,J⟩
   |Dc _ _ _ _=>exact M.elim
def Zh (P:Program) (tb:DQ) (ht:Cq) (ops:Array Oper) (N C:Nat) (J:Tr Nat) (K:DS->Prop) (l:List Oper):Nat->DS->Prop:=List.rec (motive:=λ_=>Nat->DS->Prop) (λ_ y=>K y) (λo _ E p y=>ky P tb ht ops N C J p o y λB=>fN (p+1) λq=>E q B) l
theorem ku {P:Program} {tb:DQ} {ht:Cq} {ops:Array Oper} {N C:Nat} {E:Tr Nat} {K:DS->Prop}:∀ {l:List Oper} {p:Nat} {B:DS},Zh P tb ht ops N C E K l p B->∃y,Qy P (Km tb ht) ops N C E l p B=some y/\K y
 | [],p,B,h=>⟨B,rfl,h⟩
 |o::l,p,B,h=>by obtain⟨J,R,L⟩:=AdY (show ky P tb ht ops N C E p o B (λy=>fN (p+1) λq=>Zh P tb ht ops N C E K l q y)from h);rw[Bu]at L;obtain⟨y,O,M⟩:=ku L;refine⟨y,?_,M⟩;show(ob (S5 P (Km tb ht) ops N C E p o B) λy=>fN (p+1) λq=>Qy P (Km tb ht) ops N C E l q y)=_;rw[R];show fN (p+1) (λq=>Qy P (Km tb ht) ops N C E l q J)=_;rw[Bu];exact O
def lD (P:Program) (H:Tr Ac) (X:Operand->Option AV) (op:Op) (K:AV->Prop):Prop:=Option.rec (motive:=λ_=>Prop) (A7 (Hd P H X op) K) (λr=>Ap r.1 (K r.2)) (HP P H X op)
theorem Ad2 {P:Program} {H:Tr Ac} {X:Operand->Option AV} {op:Op} {K:AV->Prop} (h:lD P H X op K):∃v,Dl P H X op=some v/\K v:=by
 unfold lD at h;cases y:HP P H X op with
 |some r=>rw[y]at h;obtain⟨q,B⟩:=Eh.1 h;obtain⟨b,v⟩:=r;simp only at q;subst q;exact⟨v,sD y,B⟩
 |none=>rw[y]at h;obtain⟨v,q,B⟩:=BG h;exact⟨v,Xc y q,B⟩
def lF (P:Program) (q:DS) (y:Nat) (r:IU) (c:Nat) (H:Tr Ac):Prop:=cond (Nat.beq c r.cc) True (cond (Hg q.At c r.i) (cond (Fu (λh=>cond (tb r.A h.i) (Nat.blt h.i c) true) q.At) (lD P (DY q.news q.At r.A c y H) (B2 r.T) r.o.op λv=>v=r.v) True) True)
theorem Ad4 {P:Program} {q:DS} {y:Nat} {r:IU} {c:Nat} {H:Tr Ac} (h:lF P q y r c H):XD P q y r c H=true:=by
 unfold lF at h;unfold XD;cases K:Nat.beq c r.cc with
 |true=>rfl
 |false=>
  rw[K,cond_false]at h;rw[cond_false];cases J:Hg q.At c r.i with
  |false=>rfl
  |true=>
   rw[J,cond_true]at h;rw[cond_true];cases E:Fu (λh=>cond (tb r.A h.i) (Nat.blt h.i c) true) q.At with
   |false=>rfl
   |true=>rw[E,cond_true]at h;rw[cond_true];obtain⟨v,C,B⟩:=Ad2 h;rw[C];exact sK.2 B
def Y4 {α:Type} (f:α->Prop) (l:List α):Prop:=List.rec (motive:=λ_=>Prop) True (λa _ q=>f a/\q) l
theorem kY {α:Type} {f:α->Prop} {g:α->Bool} (q:∀a,f a->g a=true):∀ {l:List α},Y4 f l->Fu g l=true
 | [],_=>rfl
 |a::l,h=>by have h':f a/\Y4 f l:=h;show cond (g a) (Fu g l) false=true;rw[q a h'.1];exact kY q h'.2
def ki (P:Program) (q:DS) (y:Nat) (c:Nat) (H:Tr Ac):Prop:=Y4 (λr=>lF P q y r c H) q.reads/\Ap (Fu (λr=>cd q y r c H) q.news) True
theorem ur {P:Program} {q:DS} {y:Nat} {c:Nat} {H:Tr Ac} (h:ki P q y c H):SS P q y c H=true:=by unfold SS;rw[kY (λr B=>Ad4 B) h.1];exact(Eh.1 h.2).1
def kj (P:Program) (q:DS) (y:Nat) (B:Tr Ac):Prop:=ki P q y 0 B/\Y4 (λh=>ki P q y h.cc h.H) q.At
theorem uu {P:Program} {q:DS} {y:Nat} {B:Tr Ac} (h:kj P q y B):ZH P q y B=true:=by unfold ZH;rw[ur h.1];exact kY (λr C=>ur C) h.2
def kp (P:Program) (tb:DQ) (ht:Cq) (ops:Array Oper) (s:St) (K:KX):Prop:=A7 (Wc ops) λC=>fN ops.size λn=>fN (s.nx+n) λB=>Zh P tb ht ops s.N s.nx C (λy=>kj P y s.nx s.H/\ (Option.rec (motive:=λ_=>Prop) (K .Cc ⟨s.N,y.T,Mt y.news y.At n s.nx y.H,y.nx,s.ro,s.D⟩) (λq=>K (.AA q.v) ⟨s.N,Ko q.A ops.toList 0 y.T,q.H,q.nx,s.ro,s.D⟩) y.pn)) ops.toList 0 ⟨[],[],[],s.T,s.H,B,0,none⟩
theorem AdX {P:Program} {tb:DQ} {ht:Cq} {ops:Array Oper} {s:St} {K:KX} (h:kp P tb ht ops s K):∃x s',mX P (Km tb ht) ops s=some (.mk x s')/\K x s':=by
 obtain⟨M,L,B⟩:=BG h;simp only[Bu]at B;obtain⟨C,J,E,y⟩:=ku B;unfold mX;simp only[L,J,Bu,uu E,ob,gd,cond_true];cases hp:C.pn with
 |none=>rw[hp]at y;exact⟨_,_,rfl,y⟩
 |some q=>rw[hp]at y;exact⟨_,_,rfl,y⟩
theorem AdW {P:Program} (O:P.follows .mixedOrders=true) {tb:DQ} {ht:Cq} (y:DP P tb) (C:Db P ht):Ya P (kp P tb ht):=by intro ops s K h id E F n0 ρ0 ρ a w ro Q M hn R L;obtain⟨x,s',U,S⟩:=AdX h;exact Aer O (Km tb ht) ops s x s' (vL y C) U id E F ρ a w ro Q L λq V w' J B=>M x s' q V w' S (Nat.le_trans hn J.nn) (R.trans (Dj.M0 J hn)) B
end Go.Ev
end
section
/- The symbolic layer, part LG: a region that draws its order, and fills a map of its own. -/
namespace Go.Ev
structure Adi (t:BS) (ops:Array Oper) (s:St) (σ:DS):Prop where
 T:t.FE ops.size=σ.T
 nx:t.E2 ops.size=σ.nx
 Cc:σ.pn=none->(∀i,i<ops.size->¬t.NS i)/\∀x o,(Mt σ.news σ.At ops.size s.nx σ.H).get x=some o->(∃j,j<ops.size/\t.k j=.new o/\t.late ops.size ops.size j/\x=s.nx+j)\/(t.G ops.size).get x=some o
 AA:∀q,σ.pn=some q->q.p<ops.size/\t.NS q.p/\(∀i v' H'' nx',i<ops.size->t.k i=.AA v' H'' nx'->i=q.p/\v'=q.v/\H''=q.H/\nx'=q.nx)/\
  ∀d b,(Ko q.A ops.toList 0 σ.T).get d=some b->(t.FE ops.size).get d=some b/\∀k,k<ops.size->(t.oo k).dst=some d->t.Cj q.p k
theorem Aeu {P:Program} {call:DZ} {ops:Array Oper} {s:St} {AT:Tr Nat} {σ:DS} (ai:Wc ops=some AT) (aD:Qy P call ops s.N s.nx AT ops.toList 0 ⟨[],[],[],s.T,s.H,s.nx+ops.size,0,none⟩=some σ) (aF:ZH P σ s.nx s.H=true): ∃t,Ej t P call ops s/\(∀i,t.oo i=(ops[i]?).getD default)/\Adi t ops s σ:=by
 have af:∀i,i<ops.size->ops[i]? =some ((ops[i]?).getD default):=λi hi=>by rw[Array.getElem?_eq_getElem hi];rfl
 have st:=wZ af ai;obtain⟨f,g,f0,fn,aq⟩:=lT _ _ _ _ aD;rw[show 0+ops.toList.length=ops.size by simp]at fn;have step:∀i,i<ops.size->DStep P call ops s.N s.nx (maskAt AT i) i ((ops[i]?).getD default) (f i) (f (i+1)) (g i):=λi hi=>by have:=aq i ((ops[i]?).getD default) (by rw[Array.getElem?_toList];exact af i hi);rwa[Nat.zero_add]at this
 let t:BS:=⟨λi=>(ops[i]?).getD default,maskAt AT,λi=>(f i).T,λi=>(g i).k,λi=>(g i).v,λi=>(f i).H,λi=>(f i).nx⟩;have ae:∀p,p<=ops.size->∀i,i<p->(g i).k=.Dy->g i∈(f p).At:=by
  intro p
  induction p with
  |zero=>intro _ i hi;omega
  |succ p R=>
   intro E i hi B;by_cases Y:i=p
   ·subst Y;exact(step i E).hv B
   ·exact(step p E).Tz _ (R (by omega) i (by omega) B)
 have O1:∀p,p<=ops.size->∀r∈(f p).At,∃i,i<p/\r=g i/\(g i).k=.Dy:=by
  intro p
  induction p with
  |zero=>intro _ r C;rw[f0]at C;cases C
  |succ p R=>
   intro E r C;rcases(step p E).O1 r C with C|⟨rfl,B⟩
   ·obtain⟨i,h1,O⟩:=R (by omega) r C;exact⟨i,by omega,O⟩
   ·exact⟨p,by omega,rfl,B⟩
 have aJ:∀p,p<=ops.size->∀i b,i<p->(g i).k=.new b->g i∈(f p).news:=by
  intro p
  induction p with
  |zero=>intro _ i b hi;omega
  |succ p R=>
   intro E i b hi B;by_cases Y:i=p
   ·subst Y;exact(step i E).nw b B
   ·exact(step p E).nwk _ (R (by omega) i b (by omega) B)
 have Pa:∀p,p<=ops.size->∀r∈(f p).news,∃i,i<p/\r=g i/\∃b,(g i).k=.new b:=by
  intro p
  induction p with
  |zero=>intro _ r C;rw[f0]at C;cases C
  |succ p R=>
   intro E r C;rcases(step p E).Pa r C with C|⟨rfl,B⟩
   ·obtain⟨i,h1,O⟩:=R (by omega) r C;exact⟨i,by omega,O⟩
   ·exact⟨p,by omega,rfl,B⟩
 have aH:∀p,p<=ops.size->∀i,i<p->(g i).k=.pure->LD ((ops[i]?).getD default).op=true->g i∈(f p).reads:=by
  intro p
  induction p with
  |zero=>intro _ i hi;omega
  |succ p R=>
   intro E i hi B C;by_cases Y:i=p
   ·subst Y;exact(step i E).rd B C
   ·exact(step p E).rdk _ (R (by omega) i (by omega) B C)
 have ar:∀p,p<=ops.size->∀q,(f p).pn=some q->q.p<p/\(g q.p).k=.AA q.v q.H q.nx/\q.A=maskAt AT q.p:=by
  intro p
  induction p with
  |zero=>intro _ q hq;rw[f0]at hq;cases hq
  |succ p R=>
   intro E q hq;have J:=(step p E).pk;rw[hq]at J;have aI:(f p).pn=some q->q.p<p+1/\(g q.p).k=.AA q.v q.H q.nx/\q.A=maskAt AT q.p:=λh=>by obtain⟨i1,i2,i3⟩:=R (by omega) q h;exact⟨by omega,i2,i3⟩
   split at J
   ·rename_i v H nx B;injection J with J;subst J;exact⟨Nat.lt_succ_self p,B,rfl⟩
   ·exact aI J.symm
 have ad:∀i v H nx,i<ops.size->(g i).k=.AA v H nx->∀p,i<p->p<=ops.size->(f p).pn≠none:=by
  intro i v H nx hi B p
  induction p with
  |zero=>intro h;omega
  |succ p R=>
   intro Y E;have J:=(step p E).pk;by_cases he:i=p
   ·subst he;rw[B]at J;rw[J];simp
   ·have:=R (by omega) (by omega);split at J
    ·rw[J];simp
    ·rw[J];exact this
 have aO:∀p,p<=ops.size->t.Gm ops.size (f p).cc/\(f p).cc<=p/\∀q,t.hv ops.size q->(q<(f p).cc↔q<p):=by
  intro p
  induction p with
  |zero=>intro _;rw[f0];exact⟨.inl rfl,Nat.le_refl _,λq _=>Iff.rfl⟩
  |succ p R=>
   intro E;obtain⟨i1,i2,i3⟩:=R (by omega);have B:=(step p E).kind;by_cases hh:(g p).k=.Dy
   ·rw[hh]at B;have e:(f (p+1)).cc=p+1:=B.2.1;rw[e];exact⟨.inr ⟨p,⟨E,hh⟩,rfl⟩,Nat.le_refl _,λq _=>Iff.rfl⟩
   ·have e:(f (p+1)).cc=(f p).cc:=by
     split at B
     ·exact B.2.2.2.2
     ·exact B.2.2.2.1
     ·exact B.2.2.2.1
     ·rename_i Z;exact absurd Z hh
     ·exact B.2.2.2.2
     ·exact B.2.2.2.1
    rw[e];refine⟨i1,by omega,λq y=>?_⟩;rw[i3 q y];have:q≠p:=λe=>by subst e;exact hh y.2
    omega
 have V:∀p,p<=ops.size->∀c j,(c<=p\/p=ops.size)->Hg (f p).At c j=true->t.late ops.size c j:=λp E c j an hl q y ak ao=>by
  have aK:q<p:=by
   rcases an with h|h
   ·omega
   ·rw[h];exact y.1
  have:=zL hl (g q) (ae p E q aK y.2) (by rw[(step q y.1).ei];exact ak);rw[(step q y.1).eA]at this;unfold BS.Cj at ao;rw[show t.A q=maskAt AT q from rfl,this]at ao;cases ao
 have L:∀p,p<=ops.size->∀c j,t.late ops.size c j->Hg (f p).At c j=true:=λp E c j hl=>zM λr C hc=>by
  obtain⟨q,hq,rfl,B⟩:=O1 p E r C;have aj:q<ops.size:=by omega
  rw[(step q aj).ei]at hc;have:=hl q ⟨aj,B⟩ hc;unfold BS.Cj at this;rw[(step q aj).eA];simpa using this
 have K:∀p,p<=ops.size->∀i c H,(c<=p\/p=ops.size)->(∀x o,H.get x=some o->(t.G c).get x=some o)->t.sub ops.size s.nx (DY (f p).news (f p).At (maskAt AT i) c s.nx H) i c:=by
  intro p E i c H an hG x o Z;rcases AcT Z with⟨r,C,h1,O,h3,h4⟩|h
  ·obtain⟨j,hj,rfl,b,hb⟩:=Pa p E r C;have aM:j<ops.size:=by omega
   rw[(step j aM).ei]at O h3 h4;exact .inl ⟨j,O,h1,V p E c j an h3,h4⟩
  ·exact .inr (hG x o h)
 have ab:∀c,t.Gm ops.size c->SS P σ s.nx c (t.G c)=true:=by
  obtain⟨c1,c2⟩:=A4 aF;rintro c (rfl|⟨q,y,rfl⟩)
  ·have:t.G 0=s.H:=by show(f 0).H=s.H;rw[f0]
   rw[this];exact c1
  ·have hm:=ae ops.size (Nat.le_refl _) q y.1 y.2;rw[fn]at hm;have:=JP c2 _ hm;have B:=(step q y.1).kind;rw[show(g q).k=.Dy from y.2]at B;rw[(step q y.1).ec,show(f (q+1)).cc=q+1 from B.2.1,(step q y.1).eH]at this;exact this
 have ok:Ej t P call ops s:=by
  refine⟨af,λi j hi hj=>st.Cj i j hi hj,st.K8,by show(f 0).T=_;rw[f0],λi hi=>(step i hi).put,st.dst,λi d k hi B hl hd ay=>st.look i d k hi B hl hd ay,
   by show(f 0).H=_;rw[f0],by show(f 0).nx=_;rw[f0],λi hi=>?_⟩
  have B:=(step i hi).kind;unfold BS.Lg;show(match(g i).k with
   |.off=>_
   |.pure=>_
   |.new o=>_
   |.Dy=>_
   |.dead=>_
   |.AA v H nx=>_)
  split at B
  ·rename_i e;rw[e];exact⟨B.1,B.2.1,B.2.2.1,B.2.2.2.1⟩
  ·rename_i e;rw[e];refine⟨B.1,⟨B.2.1,B.2.2.1⟩,λc hc hl aE=>?_⟩;have aa:=B.2.2.2.2;cases au:LD ((ops[i]?).getD default).op with
   |false=>exact⟨.leaf,λx o Z=>(by rw[Tr.Em]at Z;cases Z),(xG au).trans aa⟩
   |true=>
    have hm:=aH ops.size (Nat.le_refl _) i hi e au;rw[fn]at hm;have W:=(A4 (ab c hc)).1;have C:=JP W _ hm;unfold XD at C;cases hb:Nat.beq c (g i).cc with
    |true=>
     have aA:c=(f i).cc:=by rw[Nat.eq_of_beq_eq_true hb,(step i hi).ec];exact B.2.2.2.1
     obtain⟨_,i2,i3⟩:=aO i (by omega);refine⟨_,?_,aa⟩;have aC:=K i (by omega) i i (f i).H (.inl (Nat.le_refl _)) (λx o h=>h);intro x o Z;rcases aC x o Z with⟨j,h1,O,h3,h4⟩|h
     ·exact .inl ⟨j,h1,O,λq y ak=>h3 q y ((i3 q y).1 (by rw[<-aA];exact ak)),h4⟩
     ·refine .inr ?_;have hG:∀d p,p+d<=i->(∀q,t.hv ops.size q->(q<p↔q<p+d))->t.G (p+d)=t.G p:=by
       intro d
       induction d with
       |zero=>intro p _ _;rfl
       |succ d R=>
        intro p aP hq;have aw:(g (p+d)).k≠.Dy:=λU=>by have:=hq (p+d) ⟨by omega,U⟩;omega
        have ai:(f (p+d+1)).H=(f (p+d)).H:=by
         have U:=(step (p+d) (by omega)).kind;split at U
         ·exact U.2.2.1
         ·exact U.2.1
         ·exact U.2.1
         ·rename_i Z;exact absurd Z aw
         ·exact U.2.2.1
         ·exact U.2.1
        refine(show t.G (p+(d+1))=t.G (p+d)from ai).trans (R p (by omega) λq y=>?_);have:=hq q y;have ay:q≠p+d:=λe=>by subst e;exact aw y.2
        omega
      obtain⟨d,hd⟩:=Nat.le.dest i2;have:=hG d (f i).cc (by omega) (λq y=>by rw[hd];exact i3 q y);rw[hd]at this;rw[aA,<-this];exact h
    |false=>
     rw[hb,cond_false,(step i hi).ei,<-fn,L ops.size (Nat.le_refl _) c i hl,cond_true]at C;have aG:Fu (λh=>cond (tb (g i).A h.i) (Nat.blt h.i c) true) (f ops.size).At=true:=by
      apply Y3;intro r C;obtain⟨q,hq,rfl,M⟩:=O1 ops.size (Nat.le_refl _) r C;rw[(step q hq).ei,(step i hi).eA];cases av:tb (maskAt AT i) q with
      |false=>rfl
      |true=>rw[LF]at av;rw[cond_true,Nat.blt_eq];exact aE q ⟨hq,M⟩ av
     rw[aG,cond_true,(step i hi).eA,(step i hi).eT,(step i hi).eo]at C;cases al:Dl P (DY (f ops.size).news (f ops.size).At (maskAt AT i) c s.nx (t.G c)) (B2 (f i).T) ((ops[i]?).getD default).op with
     |none=>rw[al]at C;cases C
     |some v=>rw[al]at C;have:=sK.1 C;subst this;exact⟨_,K ops.size (Nat.le_refl _) i c (t.G c) (.inr rfl) (λx o h=>h),al⟩
  ·rename_i b e;rw[e];refine⟨B.1,⟨B.2.1,B.2.2.1⟩,B.2.2.2.2,λc hc hl=>?_⟩;have hm:=aJ ops.size (Nat.le_refl _) i b hi e;rw[fn]at hm;have W:=(A4 (ab c hc)).2;have C:=JP W _ hm;unfold cd at C;rw[(step i hi).ei,<-fn,L ops.size (Nat.le_refl _) c i hl,cond_true,Bu]at C;simpa using C
  ·rename_i e;rw[e];refine⟨B.1,λq y aL=>?_,_,K i (by omega) i i (f i).H (.inl (Nat.le_refl _)) (λx o h=>h),B.2.2.2.1⟩;have:=B.2.2.1 _ (ae i (by omega) q aL y.2);rw[(step q y.1).ei]at this;exact this
  ·rename_i e;rw[e];refine⟨?_,B.2.2.1,B.2.2.2.1⟩;have ah:=B.1;cases S:(f i).pn with
   |none=>rw[S]at ah;cases ah
   |some q=>rw[S]at ah;obtain⟨h1,O,_⟩:=ar i (by omega) q S;refine⟨q.p,by omega,?_,q.v,q.H,q.nx,O⟩;show(maskAt AT i).testBit q.p=true;rw[<-LF];exact ah
  ·rename_i v H nx e;rw[e];refine⟨B.1,⟨B.2.1,B.2.2.1⟩,λq y=>?_,_,K i (by omega) i i (f i).H (.inl (Nat.le_refl _)) (λx o h=>h),B.2.2.2.2.2.1⟩;have az:q<i:=by
    rcases Nat.lt_trichotomy q i with h|h|h
    ·exact h
    ·subst h;have:=y.2;rw[show t.k q=(g q).k from rfl,e]at this;cases this
    ·have M:=(step q y.1).kind;rw[show(g q).k=.Dy from y.2]at M;exact absurd M.2.2.2.2 (ad i v H nx hi e q h (Nat.le_of_lt y.1))
   refine⟨az,?_⟩;have:=B.2.2.2.2.1 _ (ae i (by omega) q az y.2);rw[(step q y.1).ei]at this;exact this
 refine⟨t,ok,λi=>rfl,⟨by show(f ops.size).T=_;rw[fn],by show(f ops.size).nx=_;rw[fn],λS=>⟨λi hi ⟨v,H,nx,B⟩=>ad i v H nx hi B ops.size hi (Nat.le_refl _) (by rw[fn];exact S),?_⟩,λq S=>?_⟩⟩
 ·intro x o Z;rcases AcS Z with⟨r,C,h1,O,h4⟩|h
  ·rw[<-fn]at C O;obtain⟨j,hj,rfl,b,hb⟩:=Pa ops.size (Nat.le_refl _) r C;rw[(step j hj).ei]at O h4;exact .inl ⟨j,hj,h1,V ops.size (Nat.le_refl _) _ j (.inr rfl) O,h4⟩
  ·refine .inr ?_;show(f ops.size).H.get x=some o;rw[fn];exact h
 ·rw[<-fn]at S;obtain⟨h1,O,h5⟩:=ar ops.size (Nat.le_refl _) q S;refine⟨h1,⟨_,_,_,O⟩,λi v' aB nx' hi B=>?_,λd b hb=>?_⟩
  ·have ag:(g i).k=.AA v' aB nx':=B;have aN:i=q.p:=by
    rcases Nat.lt_trichotomy i q.p with h|h|h
    ·have M:=(step q.p h1).kind;rw[O]at M;exact absurd M.2.2.2.2.2.2 (ad i v' aB nx' hi ag q.p h (by omega))
    ·exact h
    ·have M:=(step i hi).kind;rw[ag]at M;exact absurd M.2.2.2.2.2.2 (ad q.p q.v q.H q.nx h1 O i h (by omega))
   subst aN;rw[O]at ag;injection ag with e1 e2 e3;exact⟨rfl,e1.symm,e2.symm,e3.symm⟩
  ·obtain⟨e1,e2⟩:=lM _ _ _ _ _ hb;refine⟨?_,λk B hd=>?_⟩
   ·show(f ops.size).T.get d=some b;rw[fn];exact e1
   ·have:=e2 k _ (by rw[Array.getElem?_toList];exact af k B) hd;rw[Nat.zero_add,h5]at this;exact this
structure Gh where
 j:Nat
 d:Tmp
 t:TypeId
 ins:List (Nat×TypeId×Operand×Operand)
 mv:Nat
 e:Tmp
 lk:Nat
 lt:TypeId
 key:Tmp
 kx:Nat
 val:Value
def nj (l:List (Nat×TypeId×Operand×Operand)) (i:Nat):Bool:=List.rec (motive:=λ_=>Bool) false (λq _ y=>cond (Nat.beq q.1 i) true y) l
theorem yi {i:Nat}:∀ {l:List (Nat×TypeId×Operand×Operand)},nj l i=true↔∃q∈l,q.1=i
 | []=>⟨λh=>(by cases h),λ⟨_,h,_⟩=>(by cases h)⟩
 |p::l=>by
  show cond (Nat.beq p.1 i) true (nj l i)=true↔_;cases h:Nat.beq p.1 i with
  |true=>exact⟨λ_=>⟨p,List.mem_cons_self ..,Nat.eq_of_beq_eq_true h⟩,λ_=>rfl⟩
  |false=>
   rw[cond_false,yi];constructor
   ·rintro⟨q,y,B⟩;exact⟨q,List.mem_cons_of_mem _ y,B⟩
   ·rintro⟨q,y,B⟩;rcases List.mem_cons.1 y with rfl|y
    ·rw[B,Nat.beq_refl]at h;cases h
    ·exact⟨q,y,B⟩
def Gh.side (g:Gh) (i:Nat):Bool:=cond (Nat.beq i g.j) true (cond (Nat.beq i g.mv) true (nj g.ins i))
def GN (g:Gh) (i:Nat) (o:Oper):Oper:=cond (Nat.beq i g.lk) ⟨o.dst,.move (.const g.val),o.type,o.pos,o.after,o.guard⟩ (cond (g.side i) ⟨none,.move (.const g.val),o.type,o.pos,o.after,o.guard⟩ o)
def QI (g:Gh) (l:List Oper):Nat->List Oper:=List.rec (motive:=λ_=>Nat->List Oper) (λ_=>[]) (λo _ q i=>GN g i o::fN (i+1) q) l
def DF (g:Gh) (ops:Array Oper):Array Oper:=⟨QI g ops.toList 0⟩
theorem x8 (g:Gh):∀(l:List Oper) (p i:Nat),(QI g l p)[i]? =(l[i]?).map (GN g (p+i))
 | [],p,i=>by show([]:List Oper)[i]? =_;simp
 |o::l,p,0=>rfl
 |o::l,p,i+1=>by show(GN g p o::fN (p+1) (QI g l))[i+1]? =_;rw[Bu,List.getElem?_cons_succ,x8 g l (p+1) i,List.getElem?_cons_succ,show p+1+i=p+(i+1) by omega]
theorem xb (g:Gh):∀(l:List Oper) (p:Nat),(QI g l p).length=l.length
 | [],p=>rfl
 |o::l,p=>by show(GN g p o::fN (p+1) (QI g l)).length=_;rw[Bu,List.length_cons,xb g l,List.length_cons]
theorem QH (g:Gh) (ops:Array Oper):(DF g ops).size=ops.size:=by show(QI g ops.toList 0).length=_;rw[xb];simp
theorem nQ (g:Gh) (ops:Array Oper) (i:Nat):(DF g ops)[i]? =(ops[i]?).map (GN g i):=by show(⟨QI g ops.toList 0⟩:Array Oper)[i]? =_;rw[List.getElem?_toArray,x8,Nat.zero_add,Array.getElem?_toList]
theorem Tt (g:Gh) (i:Nat) (o:Oper):(GN g i o).after=o.after:=by unfold GN;cases Nat.beq i g.lk<;>cases g.side i<;>rfl
theorem xc (g:Gh) (i:Nat) (o:Oper):(GN g i o).guard=o.guard:=by unfold GN;cases Nat.beq i g.lk<;>cases g.side i<;>rfl
def Wr (g:Gh) (kAV:AV):Operand->Option AV:=λx=>match x with
 |.tmp s=>cond (Nat.beq s g.e) (some (.map 0)) (cond (Nat.beq s g.d) (some (.map 0)) (cond (Nat.beq s g.key) (some kAV) none))
 |x=>B2 .leaf x
def Z8 (k:AV):Bool:=match k with
 |.str _ _=>true
 |.bs _=>true
 |_=>false
def S3 (i:Nat) (l:List (Nat×TypeId×Operand×Operand)):List (Nat×TypeId×Operand×Operand):=List.rec (motive:=λ_=>List (Nat×TypeId×Operand×Operand)) [] (λq _ y=>cond (Nat.beq q.1 i) y (q::y)) l
def Tp (P:Program) (g:Gh) (kAV vAV:AV):Nat->List (Nat×TypeId×Operand×Operand)->Ac->Bool:=Nat.rec (motive:=λ_=>List (Nat×TypeId×Operand×Operand)->Ac->Bool) (λy o=>cond y.isEmpty (Option.rec (motive:=λ_=>Bool) false (λa=>Cr a vAV) (Dl P (Tr.leaf.set 0 o) (Wr g kAV) (.lookup g.lt (.tmp g.e) (.tmp g.key) false))) false) (λ_ B y o=>cond y.isEmpty (Option.rec (motive:=λ_=>Bool) false (λa=>Cr a vAV) (Dl P (Tr.leaf.set 0 o) (Wr g kAV) (.lookup g.lt (.tmp g.e) (.tmp g.key) false))) (Fu (λq=>Option.rec (motive:=λ_=>Bool) false (λo'=>B (S3 q.1 y) o') (ob (B2 .leaf q.2.2.1) λk=>ob (B2 .leaf q.2.2.2) λv=>ob (Tj P (Tr.leaf.set 0 o) q.2.1 (.map 0) k v) λH=>H.get 0)) y))
def Kt (o:Oper) (j:Nat):Bool:=List.rec (motive:=λ_=>Bool) false (λe _ q=>cond (Region.binds .any e) (cond (Nat.beq e.on j) true q) q) o.after.toList
theorem n5 {o:Oper} {j:Nat} (h:Kt o j=true):∃e∈o.after,Region.binds .any e=true/\e.on=j:=by
 unfold Kt at h;have:∀l:List Edge,List.rec (motive:=λ_=>Bool) false (λe _ q=>cond (Region.binds .any e) (cond (Nat.beq e.on j) true q) q) l=true->∃e∈l,Region.binds .any e=true/\e.on=j:=λl=>by
  induction l with
  |nil=>intro h;cases h
  |cons e l q=>
   intro h;have h:cond (Region.binds .any e) (cond (Nat.beq e.on j) true (List.rec (motive:=λ_=>Bool) false (λe _ q=>cond (Region.binds .any e) (cond (Nat.beq e.on j) true q) q) l)) (List.rec (motive:=λ_=>Bool) false (λe _ q=>cond (Region.binds .any e) (cond (Nat.beq e.on j) true q) q) l)=true:=h;have y:List.rec (motive:=λ_=>Bool) false (λe _ q=>cond (Region.binds .any e) (cond (Nat.beq e.on j) true q) q) l=true->∃x∈e::l,Region.binds .any x=true/\x.on=j:=λh=>by obtain⟨x,C,B⟩:=q h;exact⟨x,List.mem_cons_of_mem _ C,B⟩
   cases hb:Region.binds .any e with
   |false=>rw[hb,cond_false]at h;exact y h
   |true=>
    rw[hb,cond_true]at h;cases E:Nat.beq e.on j with
    |false=>rw[E,cond_false]at h;exact y h
    |true=>exact⟨e,List.mem_cons_self ..,hb,Nat.eq_of_beq_eq_true E⟩
 obtain⟨e,C,B⟩:=this _ h;exact⟨e,by simpa using C,B⟩
structure Sj (P:Program) (g:Gh) (ops:Array Oper) (kAV vAV:AV):Prop where
 made:∃o,ops[g.j]? =some o/\o.dst=some g.d/\(∃t,o.op=.makeMap t none)
 ins:∀q∈g.ins,∃o,ops[q.1]? =some o/\o.dst=none/\o.op=.insert q.2.1 (.tmp g.d) q.2.2.1 q.2.2.2/\Kt o g.j=true/\q.1≠g.j/\q.1≠g.mv
 mv:∃o,ops[g.mv]? =some o/\o.dst=some g.e/\o.op=.move (.tmp g.d)/\Kt o g.j=true/\g.mv≠g.j/\∀q∈g.ins,Kt o q.1=true
 lk:∃o,ops[g.lk]? =some o/\o.op=.lookup g.lt (.tmp g.e) (.tmp g.key) false/\Kt o g.mv=true/\Kt o g.kx=true/\g.side g.lk=false
 kx:∃o,ops[g.kx]? =some o/\o.dst=some g.key/\g.side g.kx=false
 gd:∀i o,ops[i]? =some o->o.guard=none/\(g.side i=false->o.dst≠some g.d/\o.dst≠some g.e)
 de:g.d≠g.e
 kd:g.key≠g.d/\g.key≠g.e
 key:Z8 kAV=true
 val:ofValue g.val=some vAV/\∃k n,vAV=.int k n
 ok:∃n o0,EE P (λ_=>none) 0 (.makeMap g.t none)=some (.map 0,o0)/\Tp P g kAV vAV n g.ins o0=true
 mt:∀o,ops[g.j]? =some o->o.op=.makeMap g.t none
def KP (b cap:Nat):Af:=⟨λi=>if i=0 then some ⟨b,0,cap⟩else none,λ_=>none⟩
theorem U3 {b cap i:Nat} {x:CM} (h:KP b cap i=some x):i=0/\x=⟨b,0,cap⟩:=by
 have h:(if i=0 then some (⟨b,0,cap⟩:CM)else none)=some x:=h;split at h
 ·rename_i e;exact⟨e,(Option.some.inj h).symm⟩
 ·cases h
def AeB (w:World):Env:=⟨w.tape,w.os,w.output,λ_=>none,λ_=>true⟩
def nK (w:World) (b:Nat):Nat->Option Obj:=λk=>if k=b then none else w.heap[k]?
theorem Abh {w:World} {b cap:Nat} {o:Ac} {c:Obj} (hc:w.heap[b]? =some c) (E:OR (KP b cap) ⟨b,0,cap⟩ o c):Rel (AeB w) (nK w b) 1 (KP b cap) (Tr.leaf.set 0 o).get w:=by
 have B:∀i o',(Tr.leaf.set 0 o).get i=some o'->KP b cap i≠none->o'=o:=λi o' h hn=>by
  cases hi:KP b cap i with
  |none=>exact absurd hi hn
  |some x=>obtain⟨rfl,_⟩:=U3 hi;rw[Tr.F7]at h;exact(Option.some.inj h).symm
 refine⟨rfl,rfl,rfl,λk o' h=>?_,λi o' x h q=>?_,λi o' x h q=>?_,λi j o' C x y M J L K _=>?_,λi hi=>?_,λi l h=>?_,λk o' h=>(by cases h),λk o' h=>(by cases h),λi o' x h q=>rfl,λk o' C h J=>(by cases J)⟩
 ·unfold nK at h;split at h
  ·cases h
  ·exact h
 ·have:=B i o' h (by rw[q];simp);obtain⟨rfl,rfl⟩:=U3 q;subst this;exact⟨c,hc,E⟩
 ·obtain⟨rfl,rfl⟩:=U3 q;exact if_pos rfl
 ·exact(U3 L).1.trans (U3 K).1.symm
 ·exact if_neg (by omega)
 ·by_cases hi:0=i
  ·subst hi;rw[Tr.F7]at h;injection h with h;subst h;cases E
  ·rw[Tr.Ks _ hi,Tr.Em]at h;cases h
theorem Ao5 {ρ q:Af} {k:IntKind} {n:Int} {u:Value} (h:VR ρ (.int k n) u):VR q (.int k n) u:=by cases h;exact .int _ _
theorem Ao6 {ρ y:Af} {k:AV} {u:Value} (q:Z8 k=true) (h:VR ρ k u):VR y k u:=by
 unfold Z8 at q;split at q
 ·cases h;exact .str _ _ (by assumption)
 ·cases h;exact .bs _
 ·cases q
theorem AjG {E:Env} {F:Nat->Option Obj} {nx:Nat} {ρ:Af} {h:Nat->Option Ac} {w w':World} (r:Rel E F nx ρ h w) {b:Nat} {c S:Obj} (hb:F b=some c) (V:E.base b=none) (U:E.fs b=false) (ht:w'.tape=w.tape) (O:w'.os=w.os) (L:w'.output=w.output) (hc:w'.heap[b]? =some S) (M:∀k o,k≠b->w.heap[k]? =some o->w'.heap[k]? =some o):Rel E (λk=>if k=b then some S else F k) nx ρ h w':=by
 have K:∀i o x,h i=some o->ρ i=some x->x.b≠b:=λi o x C B e=>by have:=r.dj i o x C B;rw[e,hb]at this;cases this
 have J:∀k o,ρ.st k=some o->k≠b:=λk o h e=>by subst e;have:=r.sf _ _ _ hb h;rw[U]at this;cases this
 refine⟨ht.trans r.tape,O.trans r.os,L.trans r.output,λk o q=>?_,λi o x C B=>?_,λi o x C B=>?_,r.inj,r.new,r.gl,λk o q=>?_,λk o q=>?_,r.sd,λk o o' q R=>?_⟩
 ·split at q
  ·rename_i e;subst e;injection q with q;subst q;exact hc
  ·rename_i e;exact M k o e (r.fr k o q)
 ·obtain⟨y,Y,W⟩:=r.ob i o x C B;exact⟨y,M _ _ (K i o x C B) Y,W⟩
 ·rw[if_neg (K i o x C B)];exact r.dj i o x C B
 ·rw[if_neg (λe=>by subst e;rw[V]at q;cases q)];exact r.bs k o q
 ·exact M k o (J k o q) (r.st k o q)
 ·have:=J k o' R;rw[if_neg this]at q;exact r.sf k o o' q R
def wa (E:Env) (b:Nat):Env:=⟨E.tape,E.os,E.output,E.base,λk=>if k=b then false else E.fs k⟩
theorem AjF {E:Env} {F:Nat->Option Obj} {nx:Nat} {ρ:Af} {h:Nat->Option Ac} {w J:World} (r:Rel E F nx ρ h w) {c:Obj} (L:J=w\/J=w.drew): Rel (wa E w.heap.size) (λk=>if k=w.heap.size then some c else F k) nx ρ h (J.alloc c)/\F w.heap.size=none/\E.base w.heap.size=none/\(J.alloc c).heap[w.heap.size]? =some c:=by
 have R:w.heap[w.heap.size]? =none:=by simp
 have V:F w.heap.size=none:=by
  cases h:F w.heap.size with
  |none=>rfl
  |some o=>have:=r.fr _ _ h;rw[R]at this;cases this
 have W:E.base w.heap.size=none:=by
  cases h:E.base w.heap.size with
  |none=>rfl
  |some o=>have:=r.bs _ _ h;rw[V]at this;cases this
 have U:(J.alloc c).heap=w.heap.push c:=by rcases L with rfl|rfl<;>rfl
 have C:(J.alloc c).heap[w.heap.size]? =some c:=by rw[U];simp
 have q:∀k o,w.heap[k]? =some o->(J.alloc c).heap[k]? =some o/\k≠w.heap.size:=λk o B=>by have Z:=MX B;refine⟨?_,by omega⟩;rw[U,Array.getElem?_push,if_neg (by omega)];exact B
 refine⟨⟨?_,?_,?_,λk o B=>?_,λi o x K M=>?_,λi o x K M=>?_,r.inj,r.new,r.gl,λk o B=>?_,λk o B=>(q k o (r.st k o B)).1,r.sd,λk o o' B S=>?_⟩,V,W,C⟩
 ·rcases L with rfl|rfl<;>exact r.tape
 ·rcases L with rfl|rfl<;>exact r.os
 ·rcases L with rfl|rfl<;>exact r.output
 ·split at B
  ·rename_i e;subst e;injection B with B;subst B;exact C
  ·exact(q k o (r.fr k o B)).1
 ·obtain⟨y,O,Y⟩:=r.ob i o x K M;exact⟨y,(q _ _ O).1,Y⟩
 ·obtain⟨y,O,_⟩:=r.ob i o x K M;rw[if_neg (q _ _ O).2];exact r.dj i o x K M
 ·have:=r.bs k o B;rw[if_neg (q k o (r.fr k o this)).2];exact this
 ·have K:=(q k o' (r.st k o' S)).2;rw[if_neg K]at B;show(if k=w.heap.size then false else E.fs k)=true;rw[if_neg K];exact r.sf k o o' B S
structure Sub (E E':Env) (F F':Nat->Option Obj):Prop where
 t:E'.tape=E.tape
 o:E'.os=E.os
 p:E'.output=E.output
 b:E'.base=E.base
 f:∀k,E'.fs k=true->E.fs k=true
 F:∀k o,F k=some o->F' k=some o
theorem Sub.rel {E J:Env} {F C:Nat->Option Obj} (h:Sub E J F C) (B:∀b o,E.base b=some o->F b=some o) {nx:Nat} {ρ:Af} {H:Nat->Option Ac} {w:World} (r:Rel J C nx ρ H w):Rel E F nx ρ H w:=by
 refine⟨r.tape.trans h.t,r.os.trans h.o,r.output.trans h.p,λk o q=>r.fr k o (h.F k o q),r.ob,λi o x R O=>?_,r.inj,r.new,λg l L=>?_,B,r.st,r.sd,λk o o' q K=>h.f k (r.sf k o o' (h.F k o q) K)⟩
 ·have:=r.dj i o x R O;cases M:F x.b with
  |none=>rfl
  |some y=>rw[h.F _ _ M]at this;cases this
 ·have:=r.gl g l L;rw[h.b]at this;exact this
theorem Di.re {t:BS} {ops:Array Oper} {s:St} {E J:Env} {F C:Nat->Option Obj} {ρ0:Af} {ro:Option Nat} {listed:Array Bool} {a y:Act} {w w':World} {ρ:Af} {c:Nat} (q:Di t ops s E F ρ0 ro listed a w ρ c) (K:Rel J C (t.E2 c) ρ (t.hD ops.size s.nx listed c) w') (R:∀i d,i<ops.size->Ls listed i->(t.oo i).dst=some d->y.tmps[d]? =a.tmps[d]?) (O:∀d x,s.T.get d=some x->y.tmps[d]? =a.tmps[d]?) (M:y.tmps.size=a.tmps.size) (L:y.defers=a.defers): Di t ops s J C ρ0 ro listed y w' ρ c:=⟨q.size,q.Gm,q.hc,q.down,q.le,q.lo,q.nn,K,q.Vh,λi d hi B hd=>by rw[R i d hi B hd];exact q.Qa i d hi B hd,λd x hn hd=>by rw[O d x hd];exact q.R1 d x hn hd,M.trans q.sz,by rw[L];exact q.dr,q.rr,q.np⟩
theorem GR {a:Act} {dst:Option Tmp} {v:Value} {d:Tmp} (h:dst≠some d):(a.put dst v).tmps[d]? =a.tmps[d]?:=by
 cases dst with
 |none=>rfl
 |some x=>have:x≠d:=λe=>h (by rw[e]);simp only[Act.put];rw[Array.getElem?_setIfInBounds_ne this]
theorem Ada {F:Fence} {n:Nat} {P:Program} {ops:Array Oper} {Q:Exit->Act->World->Prop} {i:Nat} {K:Act->World->Prop} {a:Act} {w:World} {d:Tmp} (hd:∀o,ops[i]? =some o->o.dst≠some d) (h:wpOpIn F n P ops Q i K a w):wpOpIn F n P ops Q i (λL w'=>K L w'/\L.tmps[d]? =a.tmps[d]?) a w:=by
 unfold wpOpIn at*;split
 ·exact⟨by simpa[*]using h,rfl⟩
 ·rename_i o J;have q:=hd o J;simp only[J]at h;split
  ·rename_i C;simp only[C,if_true]at h;unfold Oper.wpIn at*;refine⟨h.1,?_⟩;have y:=h.2;generalize(o.semAt F.round a.eval).run P w=r at*;cases r with
   |ok x w'=>
    cases x<;>simp only[Oper.uponIn]at y⊢ <;>
     first
      |exact⟨y,GR q⟩
      |exact⟨y.1,CallsIn.mono y.2 (λe E B=>by cases e<;>first|exact⟨B,GR q⟩|exact B)⟩
      |exact⟨y.1,RowsIn.mono y.2 (λ_ _ B=>⟨B,GR q⟩)⟩
      |exact⟨y.1,RoundIn.mono y.2 (λe E B=>by cases e<;>first|exact⟨B,GR q⟩|exact B)⟩
   |halt x w'=>cases x<;>simp only[Oper.uponIn]at y⊢ <;>exact y
  ·rename_i C;simp only[C]at h;exact⟨h.1,h.2,GR q⟩
theorem Ac2 {o:Oper} {y:Nat->Option Bool} (h:o.guard=none):Region.wanted o y=true:=by unfold Region.wanted;rw[h]
def JN (listed:Array Bool) (l:List (Nat×TypeId×Operand×Operand)):List (Nat×TypeId×Operand×Operand):=l.filter λq=>!listed.getD q.1 false
theorem Acz {listed:Array Bool} {i:Nat} (hi:i<listed.size):∀l,JN (listed.setIfInBounds i true) l=S3 i (JN listed l)
 | []=>rfl
 |q::l=>by
  have y:=Acz (listed:=listed) hi l;unfold JN at y⊢;rw[List.filter_cons,List.filter_cons,y];by_cases h:i=q.1
  ·subst h;have e:(listed.setIfInBounds q.1 true).getD q.1 false=true:=by simp[hi]
   rw[e,if_neg (by simp)];cases hb:listed.getD q.1 false with
   |false=>rw[if_pos (show(!false)=true from rfl)];show _=cond (Nat.beq q.1 q.1) (S3 q.1 _) _;rw[Nat.beq_refl];rfl
   |true=>rw[if_neg (by simp)]
  ·rw[getD_set_ne false h];split
   ·show _=cond (Nat.beq q.1 i) (S3 i _) (q::S3 i _);have:Nat.beq q.1 i=false:=by
     cases hb:Nat.beq q.1 i with
     |false=>rfl
     |true=>exact absurd (Nat.eq_of_beq_eq_true hb).symm h
    rw[this];rfl
   ·rfl
theorem sr {listed:Array Bool} {i:Nat} {l:List (Nat×TypeId×Operand×Operand)} (h:∀q∈l,q.1≠i):JN (listed.setIfInBounds i true) l=JN listed l:=by unfold JN;apply List.filter_congr;intro q y;rw[getD_set_ne false λe=>h q y e.symm]
theorem AoH {listed:Array Bool} {l:List (Nat×TypeId×Operand×Operand)} (h:∀q∈l,¬Ls listed q.1):JN listed l=l:=by unfold JN;rw[List.filter_eq_self];intro q y;have:=h q y;unfold Ls at this;simpa using this
theorem AoG {listed:Array Bool} {l:List (Nat×TypeId×Operand×Operand)} (h:∀q∈l,Ls listed q.1):JN listed l=[]:=by unfold JN;rw[List.filter_eq_nil_iff];intro q y;have:=h q y;unfold Ls at this;simp[this]
section
variable {t:BS} {P:Program} {call:DZ} {R:Array Oper} {s:St} {g:Gh} {kAV vAV:AV}
variable {E:Env} {F:Nat->Option Obj} {ρ0:Af} {ro rr:Option Nat} {Q:Exit->Act->World->Prop}
def GV (P:Program) (g:Gh) (kAV vAV:AV) (q:Nat->Option Obj) (listed:Array Bool) (a:Act) (E:Env) (F:Nat->Option Obj):Prop:=∃b cap o cc n,q b=none/\E.base b=none/\E.fs b=false/\F b=some cc/\OR (KP b cap) ⟨b,0,cap⟩ o cc/\a.tmps[g.d]? =some (.map (some b))/\(Ls listed g.mv->a.tmps[g.e]? =some (.map (some b)))/\Tp P g kAV vAV n (JN listed g.ins) o=true
structure Vv (t:BS) (P:Program) (g:Gh) (kAV vAV:AV) (R:Array Oper) (s:St) (E:Env) (F:Nat->Option Obj) (ρ0:Af) (rr:Option Nat) (listed:Array Bool) (a:Act) (w:World) (ρ:Af) (c:Nat):Prop where
 ex:∃E' F',Sub E E' F F'/\Di t (DF g R) s E' F' ρ0 rr listed a w ρ c/\(Ls listed g.j->GV P g kAV vAV F listed a E' F')
 mj:Ls listed g.mv->Ls listed g.j
 ij:∀q∈g.ins,Ls listed q.1->Ls listed g.j
 mi:Ls listed g.mv->∀q∈g.ins,Ls listed q.1
theorem Aa8 (ok:Ej t P call (DF g R) s) {listed:Array Bool} {a:Act} {w:World} {ρ:Af} {c i:Nat} (C:Di t (DF g R) s E F ρ0 rr listed a w ρ c) (hi:i<(DF g R).size) (Y:¬Ls listed i) (J:∀j,t.Cj i j->Ls listed j) (O:(t.oo i).op=.move (.const g.val)) (S:(t.oo i).guard=none) (hv:ofValue g.val=some vAV):(∀o,t.k i≠.new o)/\t.k i≠.Dy/\¬t.NS i/\t.v i=vAV:=by
 have y:=ok.kind i hi;unfold BS.Lg at y;rw[O]at y;have U:EX (DF g R) (t.FE i) (t.oo i)=some true:=by unfold EX;rw[S]
 split at y
 ·rw[U]at y;exact absurd y.1 (by simp)
 ·rename_i M;obtain⟨V,Z,B⟩:=y.2.2 c C.Gm (oe C Y) λq W K=>(C.hc q W).1 (J q K);refine⟨by rw[M];simp,by rw[M];simp,(by rintro⟨v,H,nx,e⟩;rw[M]at e;cases e),?_⟩;have:Dl P V (B2 (t.FE i)) (.move (.const g.val))=ofValue g.val:=rfl;rw[this,hv]at B;exact(Option.some.inj B).symm
 ·have:=y.2.2.1;simp[EE,Jh,It]at this
 ·obtain⟨_,_,V,_,B⟩:=y;simp[FK,JI,Gq]at B
 ·obtain⟨⟨p,hp,K,L⟩,_⟩:=y;exact absurd L (C.np p (J p K))
 ·obtain⟨_,_,_,V,_,B⟩:=y;simp[FK,JI,Gq]at B
end
section
variable {t:BS} {P:Program} {call:DZ} {R:Array Oper} {s:St} {g:Gh} {kAV vAV:AV}
variable {E:Env} {F:Nat->Option Obj} {ρ0:Af} {ro rr:Option Nat} {Q:Exit->Act->World->Prop}
theorem fJ {i:Nat}:g.side i=true↔i=g.j\/i=g.mv\/∃q∈g.ins,q.1=i:=by
 unfold Gh.side;cases B:Nat.beq i g.j with
 |true=>exact⟨λ_=>.inl (Nat.eq_of_beq_eq_true B),λ_=>rfl⟩
 |false=>
  have n1:i≠g.j:=λe=>by rw[e,Nat.beq_refl]at B;cases B
  cases y:Nat.beq i g.mv with
  |true=>exact⟨λ_=>.inr (.inl (Nat.eq_of_beq_eq_true y)),λ_=>rfl⟩
  |false=>
   have C:i≠g.mv:=λe=>by rw[e,Nat.beq_refl]at y;cases y
   rw[cond_false,cond_false,yi];exact⟨λh=>.inr (.inr h),λh=>(h.resolve_left n1).resolve_left C⟩
theorem xe {i:Nat} {o:Oper} (h:g.side i=true) (q:i≠g.lk):(GN g i o).dst=none/\(GN g i o).op=.move (.const g.val):=by
 unfold GN;have:Nat.beq i g.lk=false:=by
  cases hb:Nat.beq i g.lk with
  |false=>rfl
  |true=>exact absurd (Nat.eq_of_beq_eq_true hb) q
 rw[this,h];exact⟨rfl,rfl⟩
theorem xd {o:Oper}:(GN g g.lk o).dst=o.dst/\(GN g g.lk o).op=.move (.const g.val):=by unfold GN;rw[Nat.beq_refl];exact⟨rfl,rfl⟩
theorem bH {i:Nat} {o:Oper} (h:g.side i=false) (q:i≠g.lk):GN g i o=o:=by
 unfold GN;have:Nat.beq i g.lk=false:=by
  cases hb:Nat.beq i g.lk with
  |false=>rfl
  |true=>exact absurd (Nat.eq_of_beq_eq_true hb) q
 rw[this,h];rfl
theorem Ael {ρ:Af} {a:Act} (hv:ofValue g.val=some vAV):VR ρ vAV (a.eval (.const g.val)):=TR.xr (T:=.leaf) (ρ:=ρ) (a:=a) (λt a h=>by rw[Tr.Em]at h;cases h) (.const g.val) vAV hv
theorem Wi {a:Act} {d:Tmp} {u:Value} (h:a.tmps[d]? =some u):a.eval (.tmp d)=u:=by simp[Act.eval,h]
theorem TT (ok:Ej t P call (DF g R) s) {i:Nat} {o:Oper} (B:R[i]? =some o):i<(DF g R).size/\t.oo i=GN g i o:=by
 have y:(DF g R)[i]? =some (GN g i o):=by rw[nQ,B];rfl
 have q:i<(DF g R).size:=(Array.getElem?_eq_some_iff.1 y).1;have:=ok.cw i q;rw[y]at this;exact⟨q,(Option.some.inj this).symm⟩
theorem Ajf (ok:Ej t P call (DF g R) s) (E:Sj P g R kAV vAV) {i:Nat} (hi:i<(DF g R).size):(t.oo i).dst≠some g.d/\(t.oo i).dst≠some g.e:=by
 have y:i<R.size:=by rw[QH]at hi;exact hi
 obtain⟨_,L⟩:=TT ok (Array.getElem?_eq_getElem y);obtain⟨O,M⟩:=E.gd i _ (Array.getElem?_eq_getElem y);rw[L];cases B:g.side i with
 |true=>
  obtain⟨_,_,_,_,_,q⟩:=E.lk;have C:i≠g.lk:=λe=>by rw[<-e,B]at q;cases q
  rw[(xe B C).1];exact⟨by simp,by simp⟩
 |false=>
  obtain⟨K,J⟩:=M B;by_cases C:i=g.lk
  ·subst C;rw[xd.1];exact⟨K,J⟩
  ·rw[bH B C];exact⟨K,J⟩
theorem AnW (ok:Ej t P call (DF g R) s) (J:Sj P g R kAV vAV) {listed:Array Bool} {a:Act} {w:World} {ρ:Af} {c i:Nat} {o:Oper} (B:Di t (DF g R) s E F ρ0 rr listed a w ρ c) (L:R[i]? =some o) (K:g.side i=true) (M:¬Ls listed i) (q:∀j,t.Cj i j->Ls listed j):Di t (DF g R) s E F ρ0 rr (listed.setIfInBounds i true) a w ρ c:=by
 obtain⟨hi,y⟩:=TT ok L;obtain⟨_,_,_,_,_,C⟩:=J.lk;have W:i≠g.lk:=λe=>by rw[<-e,K]at C;cases C
 obtain⟨Z,Y⟩:=xe (o:=o) K W;obtain⟨V,U,S,O⟩:=Aa8 ok B hi M q (by rw[y];exact Y) (by rw[y,xc];exact(J.gd i o L).1) J.val.1;have:=fU ok B hi M q V U S (u:=a.eval (.const g.val)) (by rw[O];exact Ael J.val.1);rw[y,Z]at this;exact this
theorem AfI (aD:K3 P call) (ok:Ej t P call (DF g R) s) (hg:Sj P g R kAV vAV) (aN:∀b o,E.base b=some o->F b=some o) (aY:t.v g.kx=kAV) (ba:s.T.get g.d=none) (a9:s.T.get g.e=none) (a6:g.d<s.N) (a4:g.e<s.N) (hP:∀listed a w ρ c i v H' nx',i<R.size->t.k i=.AA v H' nx'->(∀j,t.Cj i j->Ls listed j)->∀u S w',RX s.nx nx' ρ0 S->Rel E F nx' S H'.get w'->VR S v u->Di t (DF g R) s E F ρ0 rr listed a w ρ c->ρ.le S->Q (.panic (fresh u)) a w') {listed:Array Bool} {a:Act} {w:World} {ρ:Af} {c i:Nat} (aT:Vv t P g kAV vAV R s E F ρ0 rr listed a w ρ c) {o:Oper} (ho:R[i]? =some o) (hL:¬Ls listed i) (he:∀e∈o.after,Region.binds .any e=true->Ls listed e.on) {K:Act->World->Prop} (hK:∀S c' a' w',Vv t P g kAV vAV R s E F ρ0 rr (listed.setIfInBounds i true) a' w' S c'->K a' w'):wpOpIn (FW ro) 0 P R Q i K a w:=by
 obtain⟨⟨E',F',B,V,ai⟩,ar,aJ,au⟩:=aT;obtain⟨hi,ag⟩:=TT ok ho;have hR:i<R.size:=by rw[QH]at hi;exact hi
 have aE:i<listed.size:=by rw[V.size];exact hi
 have C:=λj=>Vx (listed:=listed) (j:=j) aE;have ad:∀j,t.Cj i j->Ls listed j:=λj hj=>by
  obtain⟨bd,e,az,hb,aq⟩:=ok.Cj i j hi hj;rw[ag,Tt]at az;have aH:Ls listed e.on:=he e az hb;rcases aq with rfl|aq
  ·exact aH
  ·have:e.on<i:=ok.K8 i e hi (by rw[ag,Tt];exact az) hb;exact V.down e.on j (by omega) aH aq
 have hE:∀j,Kt o j=true->Ls listed j:=λj h=>by obtain⟨e,h1,h2,rfl⟩:=n5 h;exact he e h1 h2
 obtain⟨aw,aS⟩:=hg.gd i o ho;have aB:Region.wanted o (yielded R a.tmps)=true:=Ac2 aw;have aL:=λk (W:k<(DF g R).size)=>Ajf ok hg W;unfold wpOpIn;rw[ho];simp only[aB,if_true];cases hs:g.side i with
 |true=>
  have ds:=AnW ok hg V ho hs hL ad;rcases fJ.1 hs with rfl|rfl|⟨q,Z,rfl⟩
  ·-- bc map is made
   have U:=hg.mt o ho;obtain⟨o1,L,M,_⟩:=hg.made;rw[ho]at L;injection L with L;subst L;obtain⟨n,o0,hn,Am⟩:=hg.ok;rw[<-U]at hn;obtain⟨u,w1,ao,cap,h4,h5,h6,h7⟩:=mg (P:=P) (ρ:=⟨λ_=>none,λ_=>none⟩) (w:=w) (f:=a.eval) (λx a h=>by cases h) (ni:=0) rfl o hn;have h6:OR (KP w.heap.size cap) ⟨w.heap.size,0,cap⟩ o0 ao:=h6;have h7:VR (KP w.heap.size cap) (.map 0) u:=h7;have hu:u=.map (some w.heap.size):=by
    cases h7 with
    |map _ b hb=>obtain⟨_,rfl⟩:=U3 hb;rfl
   subst hu;have ab:¬Ls listed g.mv:=λh=>hL (ar h);have al:∀q∈g.ins,¬Ls listed q.1:=λq Z h=>hL (aJ q Z h);obtain⟨r1,r2,r3,r4⟩:=AjF ds.rel (c:=ao) h5;refine F2 (by rw[U];simp) (.inl h4) (hK ρ c _ _ ⟨⟨wa E' w.heap.size,_,?_,Di.re ds r1 (λk d W hl hd=>GR ?_) (λd x J=>GR ?_) (by rw[M];simp[Act.put]) (by rw[M];rfl),λ_=>?_⟩,λ_=>(C _).2 (.inl rfl),λ_ _ _=>(C _).2 (.inl rfl),λh=>absurd (((C _).1 h).resolve_left λe=>(by obtain⟨_,_,_,_,_,O,_⟩:=hg.mv;exact O e)) ab⟩)
   ·exact⟨B.t,B.o,B.p,B.b,λk W=>by
     have W:(if k=w.heap.size then false else E'.fs k)=true:=W;split at W
     ·cases W
     ·exact B.f k W,λk x W=>by
     have:=B.F k x W;have O:k≠w.heap.size:=λe=>by rw[e,r2]at this;cases this
     show(if k=w.heap.size then some ao else F' k)=_;rw[if_neg O];exact this⟩
   ·rw[M];intro e;injection e with e;exact(aL k W).1 (by rw[hd,e])
   ·rw[M];intro e;injection e with e;rw[<-e,ba]at J;cases J
   ·refine⟨w.heap.size,cap,o0,ao,n,?_,r3,if_pos rfl,if_pos rfl,h6,?_,λh=>?_,?_⟩
    ·cases hF:F w.heap.size with
     |none=>rfl
     |some x=>have:=B.F _ _ hF;rw[r2]at this;cases this
    ·rw[M];simp[Act.put,V.sz,a6]
    ·rcases(C _).1 h with e|h
     ·obtain⟨_,_,_,_,_,O,_⟩:=hg.mv;exact absurd e O
     ·exact absurd h ab
    ·rw[sr (λq Z e=>by obtain⟨_,_,_,_,_,O,_⟩:=hg.ins q Z;exact O e),AoH al];exact Am
  ·-- it is bb
   obtain⟨o1,L,M,U,ay,O,aR⟩:=hg.mv;rw[ho]at L;injection L with L;subst L;have hj:=hE _ ay;obtain⟨b,cap,oo,cc,n,e0,e1,e2,e3,e4,e5,e6,Y⟩:=ai hj;have h4:(execOp a.eval o).run P w=.ok (.value (.map (some b))) w:=by have:=Wi e5;obtain⟨dst,op,type,pos,after,guard⟩:=o;simp only at U;subst U;simp[execOp,this]
   refine F2 (by rw[U];simp) (.inl h4) (hK ρ c _ _ ⟨⟨E',F',B,Di.re ds ds.rel (λk d W hl hd=>GR ?_) (λd x J=>GR ?_) (by rw[M];simp[Act.put]) (by rw[M];rfl),λ_=>⟨b,cap,oo,cc,n,e0,e1,e2,e3,e4,?_,λ_=>?_,?_⟩⟩,λ_=>(C _).2 (.inr hj),λq Z h=>(C _).2 (.inr hj),λ_ q Z=>(C _).2 (.inr (hE _ (aR q Z)))⟩)
   ·rw[M];intro e;injection e with e;exact(aL k W).2 (by rw[hd,e])
   ·rw[M];intro e;injection e with e;rw[<-e,a9]at J;cases J
   ·rw[GR (by rw[M];intro e;injection e with e;exact hg.de e.symm)];exact e5
   ·rw[M];simp[Act.put,V.sz,a4]
   ·rw[sr (λq Z e=>by obtain⟨_,_,_,_,_,_,O⟩:=hg.ins q Z;exact O e)];exact Y
  ·-- an entry
   obtain⟨o1,L,M,U,ay,aF,ab⟩:=hg.ins q Z;rw[ho]at L;injection L with L;subst L;have hj:=hE _ ay;obtain⟨b,cap,oo,cc,n,e0,e1,e2,e3,e4,e5,e6,Y⟩:=ai hj;have aj:q∈JN listed g.ins:=by unfold JN;rw[List.mem_filter];refine⟨Z,?_⟩;unfold Ls at hL;simpa using hL
   have aC:∃n' k v H' o',B2 .leaf q.2.2.1=some k/\B2 .leaf q.2.2.2=some v/\Tj P (Tr.leaf.set 0 oo) q.2.1 (.map 0) k v=some H'/\H'.get 0=some o'/\Tp P g kAV vAV n' (S3 q.1 (JN listed g.ins)) o'=true:=by
    generalize JN listed g.ins=td at Y aj;have O:td.isEmpty=false:=by cases td with
     |nil=>cases aj
     |cons _ _=>rfl
    cases n with
    |zero=>have Y:cond td.isEmpty _ false=true:=Y;rw[O]at Y;cases Y
    |succ n=>
     have Y:cond td.isEmpty _ (Fu _ td)=true:=Y;rw[O,cond_false]at Y;have:=JP Y q aj;cases J:(ob (B2 .leaf q.2.2.1) λk=>ob (B2 .leaf q.2.2.2) λv=>ob (Tj P (Tr.leaf.set 0 oo) q.2.1 (.map 0) k v) λH=>H.get 0)with
     |none=>rw[J]at this;cases this
     |some o'=>rw[J]at this;obtain⟨k,h1,J⟩:=Ae.1 J;obtain⟨v,h2,J⟩:=Ae.1 J;obtain⟨H',h3,J⟩:=Ae.1 J;exact⟨n,k,v,H',o',h1,h2,h3,J,this⟩
   obtain⟨n',k,v,H',o',s1,s2,s3,s4,s5⟩:=aC;have aA:w.heap[b]? =some cc:=V.rel.fr b cc e3;have xr:XR (KP b cap) (B2 .leaf) a.eval:=TR.xr (λt a h=>by rw[Tr.Em]at h;cases h);obtain⟨w',h6,h7⟩:=mc (P:=P) (Abh aA e4) (t:=q.2.1) (m:=.map 0) (um:=.map (some b)) (.map 0 ⟨b,0,cap⟩ rfl) (xr _ _ s1) (xr _ _ s2) s3;obtain⟨c',a7,aP⟩:=h7.ob 0 o' ⟨b,0,cap⟩ s4 rfl;have ah:a.eval (.tmp g.d)=.map (some b):=Wi e5;have h4:(execOp a.eval o).run P w=.ok .skip w':=by obtain⟨dst,op,type,pos,after,guard⟩:=o;simp only at U;subst U;simp[execOp,ah,h6]
   have aO:a.put o.dst undef=a:=by rw[M];rfl
   refine F2 (by rw[U];simp) (.inr ⟨h4,rfl⟩) (hK ρ c _ _ ?_);rw[aO];refine⟨⟨E',_,?_,Di.re ds (AjG ds.rel e3 e1 e2 h7.tape h7.os h7.output a7 λk x W J=>h7.fr k x (by unfold nK;rw[if_neg W];exact J)) (λ_ _ _ _ _=>rfl) (λ_ _ _=>rfl) rfl rfl,λ_=>⟨b,cap,o',c',n',e0,e1,e2,if_pos rfl,aP,e5,λh=>e6 (((C _).1 h).resolve_left λe=>ab e.symm),?_⟩⟩,λh=>(C _).2 (.inr hj),λ_ _ _=>(C _).2 (.inr hj),λh q' aV=>(C _).2 (.inr (au (((C _).1 h).resolve_left λe=>ab e.symm) q' aV))⟩
   ·refine⟨B.t,B.o,B.p,B.b,B.f,λk x W=>?_⟩;have:=B.F k x W;have O:k≠b:=λe=>by subst e;rw[e0]at W;cases W
    show(if k=b then some c' else F' k)=_;rw[if_neg O];exact this
   ·rw[Acz aE];exact s5
 |false=>
  obtain⟨M,aM⟩:=aS hs;have aF:i≠g.j:=λe=>by rw[fJ.2 (.inl e)]at hs;cases hs
  have ab:i≠g.mv:=λe=>by rw[fJ.2 (.inr (.inl e))]at hs;cases hs
  have al:∀q∈g.ins,q.1≠i:=λq Z e=>by rw[fJ.2 (.inr (.inr ⟨q,Z,e⟩))]at hs;cases hs
  have ae:∀j,j≠i->Ls (listed.setIfInBounds i true) j->Ls listed j:=λj hj h=>((C j).1 h).resolve_left hj;have ak:∀ {a':Act} {E1:Env} {F1:Nat->Option Obj},GV P g kAV vAV F listed a E1 F1->a'.tmps[g.d]? =a.tmps[g.d]?->a'.tmps[g.e]? =a.tmps[g.e]?->GV P g kAV vAV F (listed.setIfInBounds i true) a' E1 F1:=λh k1 k2=>by obtain⟨b,cap,oo,cc,n,e0,e1,e2,e3,e4,e5,e6,Y⟩:=h;exact⟨b,cap,oo,cc,n,e0,e1,e2,e3,e4,k1.trans e5,λh=>k2.trans (e6 (ae _ ab.symm h)),by rw[sr al];exact Y⟩
  have mj:Ls (listed.setIfInBounds i true) g.mv->Ls (listed.setIfInBounds i true) g.j:=λh=>(C _).2 (.inr (ar (ae _ ab.symm h)));have ij:∀q∈g.ins,Ls (listed.setIfInBounds i true) q.1->Ls (listed.setIfInBounds i true) g.j:=λq Z h=>(C _).2 (.inr (aJ q Z (ae _ (al q Z) h)));have mi:Ls (listed.setIfInBounds i true) g.mv->∀q∈g.ins,Ls (listed.setIfInBounds i true) q.1:=λh q Z=>(C _).2 (.inr (au (ae _ ab.symm h) q Z));by_cases aG:i=g.lk
  ·-- it is looked at
   subst aG;obtain⟨o1,L,U,a3,aK,_⟩:=hg.lk;rw[ho]at L;injection L with L;subst L;have hm:=hE _ a3;have hj:=ar hm;obtain⟨b,cap,oo,cc,n,e0,e1,e2,e3,e4,e5,e6,Y⟩:=ai hj;rw[AoG λq Z=>au hm q Z]at Y;have Y:Option.rec (motive:=λ_=>Bool) false (λa=>Cr a vAV) (Dl P (Tr.leaf.set 0 oo) (Wr g kAV) (.lookup g.lt (.tmp g.e) (.tmp g.key) false))=true:=by cases n<;>exact Y
   obtain⟨ox,aW,a5,aU⟩:=hg.kx;obtain⟨a2,aQ⟩:=TT ok aW;have aX:g.kx≠g.lk:=λe=>by obtain⟨ed,h1,h2,h3⟩:=n5 aK;have:=ok.K8 g.lk ed hi (by rw[ag,Tt];exact h1) h2;omega
   obtain⟨uk,aZ,aI⟩:=V.Qa g.kx g.key a2 (hE _ aK) (by rw[aQ,bH aU aX];exact a5);rw[aY]at aI;cases ah:Dl P (Tr.leaf.set 0 oo) (Wr g kAV) (.lookup g.lt (.tmp g.e) (.tmp g.key) false)with
   |none=>rw[ah]at Y;cases Y
   |some av=>
    rw[ah]at Y;have a8:=SM _ _ Y;subst a8;have aA:w.heap[b]? =some cc:=V.rel.fr b cc e3;have hX:XR (KP b cap) (Wr g kAV) a.eval:=λx y J=>by
     cases x with
     |tmp d=>
      have J:cond (Nat.beq d g.e) (some (.map 0)) (cond (Nat.beq d g.d) (some (.map 0)) (cond (Nat.beq d g.key) (some kAV) none))=some y:=J;cases b1:Nat.beq d g.e with
      |true=>rw[b1]at J;injection J with J;subst J;rw[Nat.eq_of_beq_eq_true b1,Wi (e6 hm)];exact .map 0 ⟨b,0,cap⟩ rfl
      |false=>
      rw[b1,cond_false]at J;cases b2:Nat.beq d g.d with
      |true=>rw[b2]at J;injection J with J;subst J;rw[Nat.eq_of_beq_eq_true b2,Wi e5];exact .map 0 ⟨b,0,cap⟩ rfl
      |false=>
      rw[b2,cond_false]at J;cases b3:Nat.beq d g.key with
      |true=>rw[b3]at J;injection J with J;subst J;rw[Nat.eq_of_beq_eq_true b3,Wi aZ];exact Ao6 hg.key aI
      |false=>rw[b3]at J;cases J
     |const v=>exact TR.xr (T:=.leaf) (ρ:=KP b cap) (a:=a) (λt a h=>by rw[Tr.Em]at h;cases h) (.const v) y J
     |func f=>exact TR.xr (T:=.leaf) (ρ:=KP b cap) (a:=a) (λt a h=>by rw[Tr.Em]at h;cases h) (.func f) y J
     |global f=>exact TR.xr (T:=.leaf) (ρ:=KP b cap) (a:=a) (λt a h=>by rw[Tr.Em]at h;cases h) (.global f) y J
    rw[<-U]at ah;obtain⟨z,h4,h5⟩:=ml (Abh aA e4) (HS.refl _ _) hX o ah;obtain⟨l1,l2⟩:=xd (g:=g) (o:=o);obtain⟨p1,p2,p3,p4⟩:=Aa8 ok V hi hL ad (by rw[ag];exact l2) (by rw[ag,xc];exact aw) hg.val.1;obtain⟨_,k,nn,hint⟩:=hg.val;have ds:=fU ok V hi hL ad p1 p2 p3 (u:=z) (by rw[p4,hint];rw[hint]at h5;exact Ao5 h5);rw[ag,l1]at ds;refine F2 (by rw[U];simp) (.inl h4) (hK ρ c _ _ ⟨⟨E',F',B,ds,λ_=>ak (ai hj) (GR M) (GR aM)⟩,mj,ij,mi⟩)
  ·-- any other one
   have af:(DF g R)[i]? =some o:=by rw[nQ,ho];exact congrArg some (bH hs aG)
   have h1:=Acf (ro:=ro) (Q:=Q) aD ok V hi hL ad (K:=λa' w'=>∃S c',Di t (DF g R) s E' F' ρ0 rr (listed.setIfInBounds i true) a' w' S c') (λS c' a' w' h=>⟨S,c',h⟩) λv H' nx' W u S w' h3 h4 h5 h6 h7=>hP listed a w ρ c i v H' nx' hR W ad u S w' h3 (B.rel aN h4) h5 (Di.re h6 (B.rel aN h6.rel) (λ_ _ _ _ _=>rfl) (λ_ _ _=>rfl) rfl rfl) h7;have h2:=Ada (d:=g.d) (λo' aa=>by rw[af]at aa;injection aa with aa;subst aa;exact M) h1;have h3:=Ada (d:=g.e) (λo' aa=>by rw[af]at aa;injection aa with aa;subst aa;exact aM) h2;unfold wpOpIn at h3;rw[af]at h3;simp only[Ac2 aw,if_true]at h3;refine Oper.wpIn_mono (λa' w' h=>?_) h3;obtain⟨⟨⟨S,c',hd⟩,k1⟩,k2⟩:=h;exact hK S c' a' w' ⟨⟨E',F',B,hd,λh=>ak (ai (ae _ aF.symm h)) k1 k2⟩,mj,ij,mi⟩
end
section
variable {t:BS} {P:Program} {call:DZ} {R:Array Oper} {s:St} {g:Gh} {kAV vAV:AV}
variable {E:Env} {F:Nat->Option Obj} {ρ0:Af} {ro rr:Option Nat} {Q:Exit->Act->World->Prop}
theorem AjA {listed:Array Bool} {i:Nat}:i∈Region.ready .any (DF g R) listed↔i∈Region.ready .any R listed:=by
 rw[mem_ready,mem_ready,nQ];constructor
 ·rintro⟨B,o,q,y⟩;cases C:R[i]? with
  |none=>rw[C]at q;cases q
  |some o'=>rw[C]at q;have q:some (GN g i o')=some o:=q;injection q with q;subst q;rw[Tt]at y;exact⟨B,o',rfl,y⟩
 ·rintro⟨B,o,q,y⟩;exact⟨B,GN g i o,by rw[q];rfl,by rw[Tt];exact y⟩
theorem xf (L:K3 P call) (ok:Ej t P call (DF g R) s) (hg:Sj P g R kAV vAV) (S:∀b o,E.base b=some o->F b=some o) (aa:t.v g.kx=kAV) (af:s.T.get g.d=none) (ae:s.T.get g.e=none) (ad:g.d<s.N) (ab:g.e<s.N) (hP:∀listed a w ρ c i v H' nx',i<R.size->t.k i=.AA v H' nx'->(∀j,t.Cj i j->Ls listed j)->∀u y w',RX s.nx nx' ρ0 y->Rel E F nx' y H'.get w'->VR y v u->Di t (DF g R) s E F ρ0 rr listed a w ρ c->ρ.le y->Q (.panic (fresh u)) a w') (hQ:∀listed a w ρ c,Di t (DF g R) s E F ρ0 rr listed a w ρ c->(∀i,i<R.size->Ls listed i)->Q .normal a w):∀(fuel:Nat) (listed:Array Bool) (a:Act) (w:World) (ρ:Af) (c:Nat),Vv t P g kAV vAV R s E F ρ0 rr listed a w ρ c->Ke R.size listed<=fuel->wpAnyIn (FW ro) 0 P .any R Q fuel listed a w:=by
 have fin:∀ {listed:Array Bool} {a:Act} {w:World} {ρ:Af} {c:Nat},Vv t P g kAV vAV R s E F ρ0 rr listed a w ρ c->Di t (DF g R) s E F ρ0 rr listed a w ρ c:=λq=>by obtain⟨E',F',W,U,_⟩:=q.ex;exact Di.re U (W.rel S U.rel) (λ_ _ _ _ _=>rfl) (λ_ _ _=>rfl) rfl rfl
 intro fuel
 induction fuel with
 |zero=>
  intro listed a w ρ c q hf;have J:∀i,i<R.size->listed.getD i true=true:=λi hi=>by
   have Z:Ke R.size listed=0:=by omega
   unfold Ke at Z;rw[List.countP_eq_zero]at Z;have:=Z i (List.mem_range.2 hi);simpa using this
  refine⟨?_,hQ listed a w ρ c (fin q) λi hi=>?_⟩
  ·rw[List.eq_nil_iff_forall_not_mem];intro i hi;rw[mem_ready]at hi;obtain⟨M,o,Y,_⟩:=hi;have C:i<R.size:=(Array.getElem?_eq_some_iff.1 Y).1;rw[J i C]at M;cases M
  ·unfold Ls;rw[<-Wq (by rw[(fin q).size,QH];exact hi)];exact J i hi
 |succ fuel ih=>
  intro listed a w ρ c q hf;have B:=fin q;refine⟨λh=>hQ listed a w ρ c B λi hi=>uW ok B.size ?_ i (by rw[QH];exact hi),λi hi=>?_⟩
  ·rw[List.eq_nil_iff_forall_not_mem]at h⊢;exactλj hj=>h j (AjA.1 hj)
  rw[mem_ready]at hi;obtain⟨M,o,Y,h2⟩:=hi;have C:i<R.size:=(Array.getElem?_eq_some_iff.1 Y).1;have K:i<listed.size:=by rw[B.size,QH];exact C
  have hL:¬Ls listed i:=by unfold Ls;rw[<-Wq K,M];simp
  refine AfI L ok hg S aa af ae ad ab hP q Y hL h2 λy c' a' w' V=>ih _ a' w' y c' V ?_;have:Ke R.size (listed.setIfInBounds i true)<Ke R.size listed:=by
   unfold Ke;apply lL
   ·intro x hx hp;by_cases O:i=x
    ·subst O;simp[K]at hp
    ·rwa[getD_set_ne true O]at hp
   ·exact⟨i,List.mem_range.2 C,by simp[M],by simp[K]⟩
  omega
theorem xg (ok:Ej t P call (DF g R) s) {a:Act} {w:World} (y:SR E F ρ0 s a w rr):Vv t P g kAV vAV R s E F ρ0 rr (Array.replicate R.size false) a w.drew ρ0 0:=by
 have hn:∀i,¬Ls (Array.replicate R.size false) i:=λi=>by unfold Ls;by_cases h:i<R.size<;>simp[Array.getD,h]
 have:=lS ok y;rw[QH]at this;exact⟨⟨E,F,⟨rfl,rfl,rfl,rfl,λ_ h=>h,λ_ _ h=>h⟩,this,λh=>absurd h (hn _)⟩,λh=>absurd h (hn _),λq _ h=>absurd h (hn _),λh=>absurd h (hn _)⟩
end
def kr (P:Program) (tb:DQ) (ht:Cq) (g:Gh) (kAV:AV) (ops:Array Oper) (s:St) (K:KX):Prop:=A7 (Wc (DF g ops)) λC=>fN (DF g ops).size λn=>fN (s.nx+n) λB=>Zh P tb ht (DF g ops) s.N s.nx C (λy=>(kj P y s.nx s.H/\Ap (match y.T.get g.key with
   |some a=>Cr a kAV
   |none=>false) True)/\
  (Option.rec (motive:=λ_=>Prop) (K .Cc ⟨s.N,y.T,Mt y.news y.At n s.nx y.H,y.nx,s.ro,s.D⟩) (λq=>K (.AA q.v) ⟨s.N,Ko q.A (DF g ops).toList 0 y.T,q.H,q.nx,s.ro,s.D⟩) y.pn)) (DF g ops).toList 0 ⟨[],[],[],s.T,s.H,B,0,none⟩
theorem AdV {P:Program} (hm:P.follows .mixedOrders=true) {tb:DQ} {ht:Cq} (au:DP P tb) (aD:Db P ht) {g:Gh} {kAV vAV:AV} {R:Array Oper} (hg:Sj P g R kAV vAV) {s:St} {K:KX} (aj:s.T.get g.d=none) (ai:s.T.get g.e=none) (ag:g.d<s.N) (af:g.e<s.N) (h:kr P tb ht g kAV R s K) {id:Nat} {E:Env} {F:Nat->Option Obj} {n0:Nat} {ρ0 ρ:Af} {a:Act} {w:World} {ro:Option Nat} {Q:Exit->Act->World->Prop} (J:Vw E F n0 ρ0 ro K Q) (hn:n0<=s.nx) (hk:Dj n0 ρ0 ρ) (hs:SR E F ρ s a w ro): (Code.region id R true).wpIn (FW ro) 0 P Q a w:=by
 obtain⟨AT,h1,h2⟩:=BG h;simp only[Bu]at h2;obtain⟨σ,h3,⟨h4,C⟩,h5⟩:=ku h2;obtain⟨t,ok,aI,en⟩:=Aeu h1 h3 (uu h4);have S:=vL au aD (P:=P);have ad:t.v g.kx=kAV:=by
  obtain⟨C,_⟩:=Eh.1 C;cases hT:σ.T.get g.key with
  |none=>rw[hT]at C;cases C
  |some x=>
   rw[hT]at C;have hx:=SM _ _ C;subst hx;rw[<-en.T]at hT;obtain⟨ox,aw,aF,av⟩:=hg.kx;obtain⟨ae,ao⟩:=TT ok aw;obtain⟨ol,ay,_,_,aE,_⟩:=hg.lk;obtain⟨aC,aq⟩:=TT ok ay;have aA:g.kx≠g.lk:=λe=>by obtain⟨ed,L,V,U⟩:=n5 aE;have:=ok.K8 g.lk ed aC (by rw[aq,Tt];exact L) V;omega
   have hd:(t.oo g.kx).dst=some g.key:=by rw[ao,bH av aA];exact aF
   rcases P9 ok _ g.key x (Nat.le_refl _) hT with⟨k,k1,k2,k3⟩|⟨k1,k2⟩
   ·have:=ok.dst k g.kx g.key k1 ae k2 hd;subst this;exact k3
   ·exact absurd hd (k1 g.kx ae)
 have W:=QH g R;have ah:=hs.rel.bs;cases Y:σ.pn with
 |none=>
  rw[Y]at h5;obtain⟨az,hH⟩:=en.Cc Y;refine wpIn_region_any hm (xf S ok hg ah ad aj ai ag af (E:=E) (F:=F) (ρ0:=ρ) (rr:=ro) (λ_ _ _ _ _ i v H' nx' hi hk=>absurd ⟨v,H',nx',hk⟩ (az i (by rw[W];exact hi))) (λlisted a' w' M c y O=>?_) _ _ _ _ ρ 0 (xg ok hs) ZJ);have B:∀i,i<(DF g R).size->Ls listed i:=λi hi=>O i (by rw[W]at hi;exact hi);obtain⟨hG,ab⟩:=Yc ok (Zo y.Gm) (Nat.le_refl _) λq J=>by rw[<-y.hc q J];exact⟨λ_=>J.1,λ_=>B q J.1⟩
  have aJ:∀q,t.hv (DF g R).size q->q<c:=λq J=>(y.hc q J).1 (B q J.1);have aa:s.nx<=σ.nx:=by have:=y.nn;rw[<-en.nx,<-ab];omega
  refine J .Cc _ M a' w' h5 (Nat.le_trans hn aa) (hk.trans (Dj.M0 ⟨y.le,y.lo,aa⟩ hn)) ⟨?_,?_,y.sz,y.dr,y.rr⟩
  ·show Rel E F σ.nx M (Mt σ.news σ.At (DF g R).size s.nx σ.H).get w';rw[<-en.nx,<-ab];refine y.rel.less λx o hx=>?_;rcases hH x o hx with⟨j,L,V,U,rfl⟩|h
   ·exact MP ⟨L,B j L,λq J _=>U q J J.1⟩ V
   ·rw[<-hG]at h;refine Wu h λj o' e hp hj=>?_;subst e;rw[Wn ok y hp hj]at h;cases h
  ·intro d b hb;have hb:σ.T.get d=some b:=hb;rw[<-en.T]at hb;rcases P9 ok _ d b (Nat.le_refl _) hb with⟨k,L,V,U⟩|⟨L,V⟩
   ·subst U;exact y.Qa k d L (B k L) V
   ·exact y.R1 d b (λi hi _=>L i hi) V
 |some q=>
  rw[Y]at h5;obtain⟨hp,an,ar,hT⟩:=en.AA q Y;refine wpIn_region_any hm (xf S ok hg ah ad aj ai ag af (E:=E) (F:=F) (ρ0:=ρ) (rr:=ro) (λlisted a' w1 aH c i v' aG nx' hi aB al u M w' hx ak hv y Z=>?_) (λlisted a' w' M c y O=>absurd an (y.np q.p (O q.p (by rw[<-W];exact hp)))) _ _ _ _ ρ 0 (xg ok hs) ZJ);obtain⟨rfl,rfl,rfl,rfl⟩:=ar i v' aG nx' (by rw[W];exact hi) aB;refine J (.AA q.v) _ M a' w' h5 (Nat.le_trans hn hx.nn) (hk.trans (Dj.M0 hx hn)) ⟨ak,?_,y.sz,y.dr.mono Z,y.rr.mono Z⟩ u hv;intro d b hb;obtain⟨L,V⟩:=hT d b hb;rcases P9 ok _ d b (Nat.le_refl _) L with⟨k,U,e4,e5⟩|⟨U,e4⟩
  ·subst e5;obtain⟨z,e6,e7⟩:=y.Qa k d U (al k (V k U e4)) e4;exact⟨z,e6,e7.mono Z⟩
  ·obtain⟨z,e6,e7⟩:=y.R1 d b (λi hi _=>U i hi) e4;exact⟨z,e6,e7.mono Z⟩
def cW (l:List Oper):Nat->Option (Nat×Tmp×TypeId):=List.rec (motive:=λ_=>Nat->Option (Nat×Tmp×TypeId)) (λ_=>none) (λo _ q i=>match o.op,o.dst with
  |.makeMap t none,some d=>some (i,d,t)
  |_,_=>fN (i+1) q) l
def QN (d:Tmp) (l:List Oper):Nat->List (Nat×TypeId×Operand×Operand):=List.rec (motive:=λ_=>Nat->List (Nat×TypeId×Operand×Operand)) (λ_=>[]) (λo _ q i=>match o.op with
  |.insert t (.tmp y) k v=>cond (Nat.beq y d) ((i,t,k,v)::fN (i+1) q) (fN (i+1) q)
  |_=>fN (i+1) q) l
def W4 (d:Tmp) (l:List Oper):Nat->Option (Nat×Tmp):=List.rec (motive:=λ_=>Nat->Option (Nat×Tmp)) (λ_=>none) (λo _ q i=>match o.op,o.dst with
  |.move (.tmp y),some e=>cond (Nat.beq y d) (some (i,e)) (fN (i+1) q)
  |_,_=>fN (i+1) q) l
def WX (e:Tmp) (l:List Oper):Nat->Option (Nat×TypeId×Tmp):=List.rec (motive:=λ_=>Nat->Option (Nat×TypeId×Tmp)) (λ_=>none) (λo _ q i=>match o.op with
  |.lookup t (.tmp y) (.tmp k) false=>cond (Nat.beq y e) (some (i,t,k)) (fN (i+1) q)
  |_=>fN (i+1) q) l
def WT (k:Tmp) (l:List Oper):Nat->Option (Nat×Op):=List.rec (motive:=λ_=>Nat->Option (Nat×Op)) (λ_=>none) (λo _ q i=>match o.dst with
  |some d=>cond (Nat.beq d k) (some (i,o.op)) (fN (i+1) q)
  |none=>fN (i+1) q) l
theorem zk {j:Nat} {d:Tmp} {t:TypeId}:∀(l:List Oper) (p:Nat),cW l p=some (j,d,t)->∃o,p<=j/\l[j-p]? =some o/\o.dst=some d/\o.op=.makeMap t none
 | [],p,h=>by cases h
 |o::l,p,h=>by
  have next:fN (p+1) (cW l)=some (j,d,t)->∃x,p<=j/\(o::l)[j-p]? =some x/\x.dst=some d/\x.op=.makeMap t none:=λh=>by rw[Bu]at h;obtain⟨x,B,y,q⟩:=zk l (p+1) h;exact⟨x,by omega,by rw[show j-p=(j-(p+1))+1 by omega,List.getElem?_cons_succ];exact y,q⟩
  have h:(match o.op,o.dst with
   |.makeMap t none,some d=>some (p,d,t)
   |_,_=>fN (p+1) (cW l))=some (j,d,t):=h
  split at h
  ·rename_i E C;injection h with h;injection h with B h;injection h with y q;subst B;subst y;subst q;exact⟨o,Nat.le_refl _,by simp,C,E⟩
  ·exact next h
theorem yj {d:Tmp} {q:Nat×TypeId×Operand×Operand}:∀(l:List Oper) (p:Nat),q∈QN d l p->∃o,p<=q.1/\l[q.1-p]? =some o/\o.op=.insert q.2.1 (.tmp d) q.2.2.1 q.2.2.2
 | [],p,h=>by cases h
 |o::l,p,h=>by
  have next:q∈fN (p+1) (QN d l)->∃x,p<=q.1/\(o::l)[q.1-p]? =some x/\x.op=.insert q.2.1 (.tmp d) q.2.2.1 q.2.2.2:=λh=>by rw[Bu]at h;obtain⟨x,J,C,B⟩:=yj l (p+1) h;exact⟨x,by omega,by rw[show q.1-p=(q.1-(p+1))+1 by omega,List.getElem?_cons_succ];exact C,B⟩
  have h:q∈(match o.op with
   |.insert t (.tmp y) k v=>cond (Nat.beq y d) ((p,t,k,v)::fN (p+1) (QN d l)) (fN (p+1) (QN d l))
   |_=>fN (p+1) (QN d l)):=h
  split at h
  ·rename_i t y k v E;cases hb:Nat.beq y d with
   |false=>rw[hb]at h;exact next h
   |true=>
    rw[hb]at h;rcases List.mem_cons.1 h with rfl|h
    ·exact⟨o,Nat.le_refl _,by simp,by rw[E,Nat.eq_of_beq_eq_true hb]⟩
    ·exact next h
  ·exact next h
theorem zn {j:Nat} {d e:Tmp}:∀(l:List Oper) (p:Nat),W4 d l p=some (j,e)->∃o,p<=j/\l[j-p]? =some o/\o.dst=some e/\o.op=.move (.tmp d)
 | [],p,h=>by cases h
 |o::l,p,h=>by
  have next:fN (p+1) (W4 d l)=some (j,e)->∃x,p<=j/\(o::l)[j-p]? =some x/\x.dst=some e/\x.op=.move (.tmp d):=λh=>by rw[Bu]at h;obtain⟨x,B,q,C⟩:=zn l (p+1) h;exact⟨x,by omega,by rw[show j-p=(j-(p+1))+1 by omega,List.getElem?_cons_succ];exact q,C⟩
  have h:(match o.op,o.dst with
   |.move (.tmp y),some e=>cond (Nat.beq y d) (some (p,e)) (fN (p+1) (W4 d l))
   |_,_=>fN (p+1) (W4 d l))=some (j,e):=h
  split at h
  ·rename_i y K J E;cases hb:Nat.beq y d with
   |false=>rw[hb]at h;exact next h
   |true=>rw[hb]at h;injection h with h;injection h with B q;subst B;subst q;exact⟨o,Nat.le_refl _,by simp,E,by rw[J,Nat.eq_of_beq_eq_true hb]⟩
  ·exact next h
theorem zV {j:Nat} {e k:Tmp} {t:TypeId}:∀(l:List Oper) (p:Nat),WX e l p=some (j,t,k)->∃o,p<=j/\l[j-p]? =some o/\o.op=.lookup t (.tmp e) (.tmp k) false
 | [],p,h=>by cases h
 |o::l,p,h=>by
  have next:fN (p+1) (WX e l)=some (j,t,k)->∃x,p<=j/\(o::l)[j-p]? =some x/\x.op=.lookup t (.tmp e) (.tmp k) false:=λh=>by rw[Bu]at h;obtain⟨x,C,y,q⟩:=zV l (p+1) h;exact⟨x,by omega,by rw[show j-p=(j-(p+1))+1 by omega,List.getElem?_cons_succ];exact y,q⟩
  have h:(match o.op with
   |.lookup t (.tmp B) (.tmp k) false=>cond (Nat.beq B e) (some (p,t,k)) (fN (p+1) (WX e l))
   |_=>fN (p+1) (WX e l))=some (j,t,k):=h
  split at h
  ·rename_i J B K E;cases hb:Nat.beq B e with
   |false=>rw[hb]at h;exact next h
   |true=>rw[hb]at h;injection h with h;injection h with C h;injection h with y q;subst C;subst y;subst q;exact⟨o,Nat.le_refl _,by simp,by rw[E,Nat.eq_of_beq_eq_true hb]⟩
  ·exact next h
theorem zK {j:Nat} {k:Tmp} {op:Op}:∀(l:List Oper) (p:Nat),WT k l p=some (j,op)->∃o,p<=j/\l[j-p]? =some o/\o.dst=some k
 | [],p,h=>by cases h
 |o::l,p,h=>by
  have next:fN (p+1) (WT k l)=some (j,op)->∃x,p<=j/\(o::l)[j-p]? =some x/\x.dst=some k:=λh=>by rw[Bu]at h;obtain⟨x,y,q,B⟩:=zK l (p+1) h;exact⟨x,by omega,by rw[show j-p=(j-(p+1))+1 by omega,List.getElem?_cons_succ];exact q,B⟩
  have h:(match o.dst with
   |some d=>cond (Nat.beq d k) (some (p,o.op)) (fN (p+1) (WT k l))
   |none=>fN (p+1) (WT k l))=some (j,op):=h
  split at h
  ·rename_i d C;cases hb:Nat.beq d k with
   |false=>rw[hb]at h;exact next h
   |true=>rw[hb]at h;injection h with h;injection h with y q;subst y;exact⟨o,Nat.le_refl _,by simp,by rw[C,Nat.eq_of_beq_eq_true hb]⟩
  ·exact next h
def fp (P:Program) (g:Gh) (kAV:AV):Option AV:=ob (ofValue g.val) λv=>match v with
  |.int _ _=>ob (EE P (λ_=>none) 0 (.makeMap g.t none)) λp=>match p.1 with
   |.map 0=>cond (Tp P g kAV v g.ins.length g.ins p.2) (some v) none
   |_=>none
  |_=>none
def fo (P:Program) (mk:Value->Gh) (kAV:AV) (l:List (Nat×TypeId×Operand×Operand)):Option (Gh×AV):=List.rec (motive:=λ_=>Option (Gh×AV)) none (λq _ y=>match q.2.2.2 with
  |.const v=>Option.rec (motive:=λ_=>Option (Gh×AV)) y (λa=>some (mk v,a)) (fp P (mk v) kAV)
  |_=>y) l
def nP (g:Gh) (l:List Oper):Nat->Bool:=List.rec (motive:=λ_=>Nat->Bool) (λ_=>true) (λo _ q i=>cond o.guard.isNone (cond (cond (g.side i) true (match o.dst with
  |none=>true
  |some d=>cond (Nat.beq d g.d) false (cond (Nat.beq d g.e) false true))) (fN (i+1) q) false) false) l
theorem xZ {g:Gh}:∀(l:List Oper) (p:Nat),nP g l p=true->∀i o,l[i]? =some o->o.guard=none/\(g.side (p+i)=false->o.dst≠some g.d/\o.dst≠some g.e)
 | [],p,h,i,o,hi=>by simp at hi
 |x::l,p,h,i,o,hi=>by
  have h:cond x.guard.isNone (cond (cond (g.side p) true (match x.dst with
   |none=>true
   |some d=>cond (Nat.beq d g.d) false (cond (Nat.beq d g.e) false true))) (fN (p+1) (nP g l)) false) false=true:=h
  obtain⟨E,h⟩:=A4 h;obtain⟨q,h⟩:=A4 h;rw[Bu]at h;cases i with
  |succ i=>rw[List.getElem?_cons_succ]at hi;have:=xZ l (p+1) h i o hi;rw[show p+1+i=p+(i+1) by omega]at this;exact this
  |zero=>
   have hi:some x=some o:=hi;injection hi with hi;subst hi;refine⟨by simpa using E,λB=>?_⟩;have B:g.side p=false:=B;rw[B,cond_false]at q;cases hd:x.dst with
   |none=>exact⟨by simp,by simp⟩
   |some d=>
    rw[hd]at q;have q:cond (Nat.beq d g.d) false (cond (Nat.beq d g.e) false true)=true:=q;cases y:Nat.beq d g.d with
    |true=>rw[y]at q;cases q
    |false=>
    rw[y,cond_false]at q;cases C:Nat.beq d g.e with
    |true=>rw[C]at q;cases q
    |false=>exact⟨λe=>(by injection e with e;rw[e,Nat.beq_refl]at y;cases y),λe=>(by injection e with e;rw[e,Nat.beq_refl]at C;cases C)⟩
def dA {α:Type} (o:Option α) (f:α->Bool):Bool:=Option.rec (motive:=λ_=>Bool) false f o
theorem pI {α:Type} {o:Option α} {f:α->Bool} (h:dA o f=true):∃a,o=some a/\f a=true:=by
 cases o with
 |none=>cases h
 |some a=>exact⟨a,rfl,h⟩
def Jx (a b:Nat):Bool:=not (Nat.beq a b)
theorem MZ {a b:Nat} (h:Jx a b=true):a≠b:=λe=>by unfold Jx at h;rw[e,Nat.beq_refl]at h;cases h
def x7 (g:Gh) (kAV:AV) (ops:Array Oper) (N:Nat):Bool:=cond (Fu (λq=>dA ops[q.1]? λo=>cond o.dst.isNone (cond (Kt o g.j) (cond (Jx q.1 g.j) (Jx q.1 g.mv) false) false) false) g.ins) (cond (dA ops[g.mv]? λo=>cond (Kt o g.j) (Fu (λq=>Kt o q.1) g.ins) false) (cond (Jx g.mv g.j) (cond (dA ops[g.lk]? λo=>cond (Kt o g.mv) (Kt o g.kx) false) (cond (not (g.side g.lk)) (cond (not (g.side g.kx)) (cond (nP g ops.toList 0) (cond (Jx g.d g.e) (cond (Jx g.key g.d) (cond (Jx g.key g.e) (cond (Z8 kAV) (cond (Nat.blt g.d N) (Nat.blt g.e N) false) false) false) false) false) false) false) false) false) false) false) false
def nA (P:Program) (ops:Array Oper) (s:St):Option (Gh×AV×AV):=ob (cW ops.toList 0) λm=>ob (W4 m.2.1 ops.toList 0) λv=>ob (WX v.2 ops.toList 0) λl=>ob (WT l.2.2 ops.toList 0) λx=>ob (Dl P s.H (B2 s.T) x.2) λkAV=>
  ob (fo P (λc=>⟨m.1,m.2.1,m.2.2,QN m.2.1 ops.toList 0,v.1,v.2,l.1,l.2.1,l.2.2,x.1,c⟩) kAV (QN m.2.1 ops.toList 0)) λr=>cond (x7 r.1 kAV ops s.N) (some (r.1,kAV,r.2)) none
theorem tE {P:Program} {mk:Value->Gh} {kAV:AV} {g:Gh} {a:AV}:∀ {l:List (Nat×TypeId×Operand×Operand)},fo P mk kAV l=some (g,a)->∃v,g=mk v/\fp P (mk v) kAV=some a
 | [],h=>by cases h
 |q::l,h=>by
  have h:(match q.2.2.2 with
   |.const v=>Option.rec (motive:=λ_=>Option (Gh×AV)) (fo P mk kAV l) (λa=>some (mk v,a)) (fp P (mk v) kAV)
   |_=>fo P mk kAV l)=some (g,a):=h
  split at h
  ·rename_i v _;cases hv:fp P (mk v) kAV with
   |none=>rw[hv]at h;exact tE h
   |some b=>rw[hv]at h;injection h with h;injection h with B y;subst B;subst y;exact⟨v,rfl,hv⟩
  ·exact tE h
theorem Afr {P:Program} {ops:Array Oper} {s:St} {g:Gh} {kAV vAV:AV} (h:nA P ops s=some (g,kAV,vAV)):Sj P g ops kAV vAV/\g.d<s.N/\g.e<s.N:=by
 obtain⟨m,hm,h⟩:=Ae.1 h;obtain⟨v,hv,h⟩:=Ae.1 h;obtain⟨l,hl,h⟩:=Ae.1 h;obtain⟨x,hx,h⟩:=Ae.1 h;obtain⟨S,C,h⟩:=Ae.1 h;obtain⟨r,hr,h⟩:=Ae.1 h;cases hb:x7 r.1 S ops s.N with
 |false=>rw[hb]at h;cases h
 |true=>
 rw[hb]at h;injection h with h;injection h with h1 h;injection h with h2 h3;subst h1;subst h2;subst h3;obtain⟨c,hc,y⟩:=tE (g:=r.1) (a:=r.2) hr;obtain⟨b1,hb⟩:=A4 hb;obtain⟨b2,hb⟩:=A4 hb;obtain⟨b3,hb⟩:=A4 hb;obtain⟨b4,hb⟩:=A4 hb;obtain⟨b5,hb⟩:=A4 hb;obtain⟨b6,hb⟩:=A4 hb;obtain⟨b7,hb⟩:=A4 hb;obtain⟨b8,hb⟩:=A4 hb;obtain⟨b9,hb⟩:=A4 hb;obtain⟨Z,hb⟩:=A4 hb;obtain⟨Y,hb⟩:=A4 hb;obtain⟨W,V⟩:=A4 hb;generalize r.1=g at*;obtain⟨om,m1,O,m3,m4⟩:=zk _ _ hm;obtain⟨ov,v1,v2,v3,v4⟩:=zn _ _ hv;obtain⟨ol,l1,R,l3⟩:=zV _ _ hl;obtain⟨ox,x1,x2,x3⟩:=zK _ _ hx;rw[Nat.sub_zero,Array.getElem?_toList]at O v2 R x2;obtain⟨o4,L,q2⟩:=pI b4;obtain⟨o2,K,M⟩:=pI b2;subst hc;rw[R]at L;injection L with L;subst L;rw[v2]at K;injection K with K;subst K;obtain⟨q5,q6⟩:=A4 q2;obtain⟨M,q7⟩:=A4 M;obtain⟨va,w1,y⟩:=Ae.1 y;have U:=xZ _ _ b7;refine⟨⟨⟨om,O,m3,_,m4⟩,λq hq=>?_,⟨ov,v2,v3,v4,M,MZ b3,JP q7⟩,⟨ol,R,l3,q5,q6,by simpa using b5⟩,⟨ox,x2,x3,by simpa using b6⟩,λi o E=>?_,MZ b8,⟨MZ b9,MZ Z⟩,Y,?_,?_,λo E=>?_⟩,by rwa[Nat.blt_eq]at W,by rwa[Nat.blt_eq]at V⟩
 ·obtain⟨oi,i1,i2,i3⟩:=yj _ _ hq;rw[Nat.sub_zero,Array.getElem?_toList]at i2;obtain⟨o5,B,J⟩:=pI (JP b1 q hq);rw[i2]at B;injection B with B;subst B;obtain⟨p3,J⟩:=A4 J;obtain⟨p4,J⟩:=A4 J;obtain⟨p5,p6⟩:=A4 J;exact⟨oi,i2,by simpa using p3,i3,p4,MZ p5,MZ p6⟩
 ·have:=U i o (by rw[Array.getElem?_toList];exact E);rwa[Nat.zero_add]at this
 ·split at y
  ·obtain⟨p,B,y⟩:=Ae.1 y;split at y
   ·rename_i k nn _ _ _;cases C:Tp P _ S _ _ _ p.2 with
    |false=>rw[C]at y;cases y
    |true=>rw[C]at y;injection y with y;exact⟨by rw[w1,<-y],_,_,y.symm⟩
   ·cases y
  ·cases y
 ·split at y
  ·obtain⟨p,B,y⟩:=Ae.1 y;split at y
   ·rename_i hp;cases C:Tp P _ S _ _ _ p.2 with
    |false=>rw[C]at y;cases y
    |true=>rw[C]at y;injection y with y;exact⟨_,p.2,by rw[B,<-hp],by rw[<-y];exact C⟩
   ·cases y
  ·cases y
 ·rw[O]at E;injection E with E;subst E;exact m4
def lO (g:Gh) (s:St):St:=⟨s.N,((s.T.del g.d).del g.e).del g.key,s.H,s.nx,s.ro,s.D⟩
def kq (P:Program) (tb:DQ) (ht:Cq) (ops:Array Oper) (s:St) (K:KX):Prop:=Option.rec (motive:=λ_=>Prop) (kp P tb ht ops s K) (λg=>kr P tb ht g.1 g.2.1 ops (lO g.1 s) K) (nA P ops s)
theorem AdU {P:Program} (O:P.follows .mixedOrders=true) {tb:DQ} {ht:Cq} (C:DP P tb) (J:Db P ht):Ya P (kq P tb ht):=by
 intro ops s K h;unfold kq at h;cases M:nA P ops s with
 |none=>rw[M]at h;exact AdW O C J ops s K h
 |some g=>
  rw[M]at h;obtain⟨g,kAV,vAV⟩:=g;have h:kr P tb ht g kAV ops (lO g s) K:=h;obtain⟨L,hd,U⟩:=Afr M;have del:∀x y,(((s.T.del g.d).del g.e).del g.key).get x=some y->s.T.get x=some y:=λx y q=>by
   rw[Tr.H4]at q;split at q
   ·cases q
   ·rw[Tr.H4]at q;split at q
    ·cases q
    ·rw[Tr.H4]at q;split at q
     ·cases q
     ·exact q
  intro id E F n0 ρ0 ρ a w ro Q R hn S B;refine AdV (s:=lO g s) O C J L ?_ ?_ hd U h R hn S ⟨B.rel,λx y q=>B.tr x y (del x y q),B.size,B.dr,B.rr⟩
  ·show(((s.T.del g.d).del g.e).del g.key).get g.d=none;rw[Tr.H4,if_neg L.kd.1,Tr.H4,if_neg L.de.symm,Tr.H4,if_pos rfl]
  ·show(((s.T.del g.d).del g.e).del g.key).get g.e=none;rw[Tr.H4,if_neg L.kd.2,Tr.H4,if_pos rfl]
def AG (cx:Ctx) (n:Nat):Ft:=kz cx (kq cx.P cx.tb cx.ht) n
theorem Is {cx:Ctx} (y:cx.P.follows .mixedOrders=true) (q:DP cx.P cx.tb) (n:Nat):K2 cx.P (AG cx n).call:=(vC y (AdU y q cx.Am) q n).2
end Go.Ev
end
section
/- The symbolic layer, part M: contracts laid together. -/
namespace Go.Ev
theorem Bc {P:Program}:DP P []:=λ_ _ h=>by cases h
theorem Cw {P:Program} {tb:DQ} {g:FuncId} {AE:Tr Ac->List AV->Option Ct} (h:Ci P g AE) (ht:DP P tb):DP P ((g,AE)::tb):=by
 intro B y C;have q:cond (Nat.beq g B) (some AE) (look tb B)=some y:=C;cases hb:Nat.beq g B with
 |true=>rw[hb]at q;injection q with q;rw[<-q,<-Nat.eq_of_beq_eq_true hb];exact h
 |false=>rw[hb]at q;exact ht B y q
theorem NG {P:Program} {g:FuncId} {AE:Tr Ac->List AV->Option Ct} {gl:List (Nat×Ac)} {ng:Nat} (O:∀p∈gl,Hf p.2=true) (h:∀H args ct,AE H args=some ct->(∀p∈gl,H.get p.1=some p.2)/\AH [] args args/\∃pre v,ct=.A6 pre (.ret v)/\ (pre->∃(cx:Ctx) (n:Nat),cx.P=P/\P.follows .mixedOrders=true/\DP P cx.tb/\(AG cx n).call g args (AU gl) ng (Ch P false v))):Ci P g AE:=by
 intro H args ct R p v C;obtain⟨Y,W,pre,E,V,U⟩:=h H args ct R;subst V;have B:(open Classical in if pre then some (false,E)else none)=some (p,v):=C;by_cases J:pre
 ·rw[if_pos J]at B;injection B with B;injection B with M L;obtain⟨cx,n,e1,e2,e3,Z⟩:=U J;subst e1;exact w9 (Is e2 e3 n) (AE:=λH' args'=>open Classical in if H'=H/\args'=args then some (.ret E)else none) O (λH' args' ab q=>by
   classical
   by_cases K:H'=H/\args'=args
   ·rw[if_pos K]at q;injection q with q;obtain⟨rfl,rfl⟩:=K;refine⟨Y,W,λp' aa y=>?_⟩;rw[<-q]at y;injection y with y;injection y with S hb;subst S;subst hb;exact Z
   ·rw[if_neg K]at q;cases q) H args (.ret E) (if_pos ⟨rfl,rfl⟩) p v (by rw[<-M,<-L];rfl)
 ·rw[if_neg J]at B;cases B
end Go.Ev
namespace Go.Ev
theorem Be {n:Int}:Bo .i64 n=true↔-9223372036854775808<=n/\n<=9223372036854775807:=bR
theorem bS {n:Int}:Bo .u8 n=true↔0<=n/\n<=255:=bR
theorem BJ {n:Int} {l:Nat}:Bn n l=true↔0<=n/\n<l:=by simp[Bn]
theorem Jt {n:Int} {l:Nat}:Iu n l=true↔0<=n/\n<=l:=by simp[Iu]
theorem B1 {a b:Int}:AP a b=true↔a<b:=by simp[EG]
theorem Cg {a b:Int}:AP a b=false↔b<=a:=by simp[EG]
theorem BL {a b:Int}:Ak a b=true↔a=b:=by simp[Dt]
theorem BU {a b:Int}:Ak a b=false↔¬a=b:=by simp[Dt]
end Go.Ev
end
section
/- The symbolic layer, part N: a function that answers a new map: by content. -/
namespace Go.Ev
def YR (has:CN->Bool) (val:CN->AV) (z:AV) (r:CR):Prop:=
 match r with
 |.mk (.map id) H _=>A7 (H.get id) λo=>match o with
  |.map es _=>∀l,P0 .string (.str l) z es=some (has (.str l),val (.str l))
  |_=>False
 |_=>False
theorem vb {pre:Prop} {v w:AV} {p:Bool} (h:IY (.A6 pre (.ret v))=some (p,w)):pre/\false=p/\v=w:=by
 have q:(open Classical in if pre then some (false,v)else none)=some (p,w):=h;by_cases y:pre
 ·rw[if_pos y]at q;injection q with q;injection q with C B;exact⟨y,C,B⟩
 ·rw[if_neg y]at q;cases q
theorem AfF {E:Env} {F:Nat->Option Obj} {nx:Nat} {ρ:Af} {H:Tr Ac} {w:World} (r:Rel E F nx ρ H.get w) {n1:Nat} {y:Af} {H1:Tr Ac} {w':World} {c:AV} {u:Value} (W:∀b o,ρ.st b=some o->y.st b=some o) (r1:Rel (Gs E ρ) (λb=>w.heap[b]?) n1 y H1.get w') {ids:List Nat} (O:Fb H1 ids) (hv:VR (CO y w' ids) c u) (hc:AR [] c c): ∃C,RX nx (nx+1) ρ C/\Rel E F (nx+1) C H.get w'/\VR C c u:=by
 obtain⟨Y,B⟩:=Kr r1 O;generalize CO y w' ids=ρ2 at Y B hv;have M:∀b o,ρ.st b=some o->ρ2.st b=some o:=λb o h=>Y.le.st b o (W b o h);have K:ρ.le ⟨ρ.nm,ρ2.st⟩:=⟨λ_ _ h=>h,M⟩;have q:∀b o,w.heap[b]? =some o->w'.heap[b]? =some o:=B.fr;have L:∀b o o',w.heap[b]? =some o->ρ2.st b=some o'->ρ.st b≠none:=λb o o' h1 h2=>by have:=B.sf b o o' h1 h2;simpa[Gs]using this
 refine⟨⟨ρ.nm,ρ2.st⟩,⟨K,λ_ _=>rfl,Nat.le_succ _⟩,⟨B.tape,B.os,B.output,λb o hb=>q b o (r.fr b o hb),λi o b hi hb=>?_,r.dj,r.inj,λi hi=>r.new i (Nat.le_of_succ_le hi),r.gl,r.bs,B.st,λi o b hi hb=>?_,λb o o' Z S=>?_⟩,Kg (ρ:=ρ2) (ρ2:=⟨ρ.nm,ρ2.st⟩) (XZ λ_ _ h=>h) c c u hc hv⟩
 ·obtain⟨R,U,h5⟩:=r.ob i o b hi hb;exact⟨R,q _ _ U,h5.mono K⟩
 ·obtain⟨R,U,h5⟩:=r.ob i o b hi hb;cases S:ρ2.st b.b with
  |none=>rfl
  |some o'=>exact absurd (r.sd i o b hi hb) (L b.b R o' U S)
 ·have:=L b o o' (r.fr b o Z) S;cases J:ρ.st b with
  |none=>exact absurd J this
  |some V=>exact r.sf b o V Z J
theorem Ahj {E:Env} {F:Nat->Option Obj} {n1:Nat} {B:Af} {M:Tr Ac} {w':World} {has:CN->Bool} {val:CN->AV} {z:AV} {id:Nat} {u:Value} (hz:∃O,∀ρ,VR ρ z O) (V:∀k,has k=false->val k=z) (hint:∀n,has (.int n)=false) (r1:Rel E F n1 B M.get w') (hv:VR B (.map id) u) (h:YR has val z (.mk (.map id) M n1)):Fb M [id]/\VR (CO B w' [id]) (.FN has val z) u:=by
 obtain⟨o,J,S⟩:=BG (show A7 (M.get id) _ from h);cases hv with
 |map _ b hb=>
  split at S
  ·rename_i es ck;have C:Fb M [id]:=λi hi=>by simp only[List.mem_singleton]at hi;subst hi;exact⟨_,J⟩
   have Z:=(Kr r1 C).1.le;obtain⟨c,hc,Y⟩:=r1.ob _ _ b J hb;obtain⟨O,U⟩:=hz;cases Y with
   |map _ _ l hl=>
    have W:(CO B w' [id]).st b.b=some (.map l.toArray ck):=(Tn (List.mem_singleton.2 rfl) hb).trans hc;have key:∀s:List UInt8,∃v,VR B (val (.str s)) v/\(if has (.str s)then∃j,Instr.findNow .string (.string ⟨s.toArray⟩) l 0=some (some (j,v))else Instr.findNow .string (.string ⟨s.toArray⟩) l 0=some none/\v=O):=λs=>
     rp (.str s) (U B) hl 0 _ (S s)
    refine⟨C,.FN has val z b.b l.toArray ck (λk=>match k with|.str s=>Classical.choose (key s)|.int _=>O) W (λkd k u K J R=>?_) (λkd k u K J R=>?_) (λk h=>.inl (V k h)) λk K=>?_⟩
    ·cases K with
     |str s=>obtain⟨v,_,L⟩:=key s;rw[R,if_neg (by simp)]at L;exact L.1
     |int q n=>exact absurd (show has (.int (fF q))=true from J.1) (by rw[hint];simp)
    ·cases K with
     |str s=>have L:=(Classical.choose_spec (key s)).2;show∃j,Instr.findNow .string (.string ⟨s.toArray⟩) l 0=some (some (j,Classical.choose (key s)));generalize Classical.choose (key s)=y at L⊢;rw[R,if_pos rfl]at L;exact L
     |int q n=>exact absurd (show has (.int (fF q))=true from J.1) (by rw[hint];simp)
    ·cases k with
     |str s=>exact(Classical.choose_spec (key s)).1.mono Z
     |int n=>rw[hint n]at K;cases K
  ·exact S.elim
theorem Aey {P:Program} {call:FuncId->List AV->Tr Ac->Nat->KC->Prop} (y:K2 P call) {g:FuncId} {has:CN->Bool} {val:CN->AV} {z:AV} {gl:List (Nat×Ac)} {ng:Nat} (ab:∀p∈gl,Hf p.2=true) (hz:∃U,∀ρ,VR ρ z U) (B:∀k,has k=false->val k=z) (hint:∀n,has (.int n)=false) (Tz:∀k,AR [] (val k) (val k)) {AE:Tr Ac->List AV->Option Ct} (K:∀H args ct,AE H args=some ct->args=[]/\(∀p∈gl,H.get p.1=some p.2)/\ct=.A6 True (.ret (.FN has val z))) (C:call g [] (AU gl) ng (YR has val z)):Ci P g AE:=by
 intro H args ct R p v J E F ρ w nx H' hG r;obtain⟨rfl,hH,rfl⟩:=K H args ct R;obtain⟨_,rfl,rfl⟩:=vb J;have W:Rel (Gs E ρ) (λb=>w.heap[b]?) ng ⟨λ_=>none,ρ.st⟩ (AU gl).get w:=⟨r.tape,r.os,r.output,λ_ _ h=>h,λ_ _ _ _ h=>(by cases h),λ_ _ _ _ h=>(by cases h),λ_ _ _ _ _ _ _ _ h=>(by cases h),λ_ _=>rfl,λg l hg=>hG g l (hH _ (MY hg)),λb o hb=>r.fr b o (r.bs b o hb),r.st,λ_ _ _ _ h=>(by cases h),λb o o' _ Z=>(by simp[Gs];exactλe=>by rw[show ρ.st b=some o' from Z]at e;cases e)⟩;have Am:=y g [] (AU gl) ng _ C _ _ _ w W;refine⟨Am.1,λvs At=>CallsIn.mono (Am.2 vs (by cases At;exact .nil)) λe w' he=>?_⟩;obtain⟨O,q,L⟩:=he;cases O with
 |mk V H1 n1=>
  obtain⟨u,aa,rfl,Y,S,hv⟩:=L;cases V<;>first|exact q.elim|skip
  rename_i id;obtain⟨h4,h5⟩:=Ahj hz B hint S hv q;obtain⟨M,h1,h2,h3⟩:=AfF r Y.le.st S h4 h5 (by rw[AR];exact⟨λ_=>rfl,Tz,λk h=>.inl (B k h)⟩);exact⟨u,M,rfl,h1,h2,h3⟩
 |AA _ _ _=>exact q.elim
 |Dc _ _ _ _=>exact q.elim
end Go.Ev
end
end
