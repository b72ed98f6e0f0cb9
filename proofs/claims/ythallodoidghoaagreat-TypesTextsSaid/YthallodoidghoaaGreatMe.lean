/- Laid by program out of its parts: SxF, SxG, SxI, SxJ, SxK, SxL, SxLG, SxM, SxN. -/
import Derived.Test.YthallodoidghoaaGreatMg
noncomputable section
set_option linter.unusedVariables false
set_option linter.unusedSimpArgs false
section
namespace Go.Ev
def sg (r:List (Nat×Nat)) (i:Nat):Option Nat:=List.rec (motive:=λ_=>Option Nat) none (λp _ x=>cond (Nat.beq p.1 i) (some p.2) x) r
structure Ar (R:Nat->Prop):Prop where
 h:∀i,R i
mutual
def Bi (r:List (Nat×Nat)):AV->AV->Prop
 |.bool p,y=>match y with
  |.bool q=>q=p
  |_=>False
 |.int k m,y=>match y with
  |.int U n=>Ni k U=true/\n=m
  |_=>False
 |.str m n,y=>match y with
  |.str S K=>S=m/\K=n
  |_=>False
 |.bs l,y=>match y with
  |.bs x=>x=l
  |.str m n=>BO m n=l
  |_=>False
 |.bv l,y=>match y with
  |.bv x=>x=l
  |.vec e n f=>Nat.beq e 1=true/\Ok n f=true/\GN n f=l
  |.AW=>l=[]
  |_=>False
 |.vec e n f,y=>match y with
  |.vec Y K W=>Nat.beq e Y=true/\K=n/\Ar λi=>i<K->AZ r (f i) (W i)
  |.bv l=>Nat.beq e 1=true/\l.length=n/\Ar λi=>i<l.length->AZ r (f i) (Kn l i)
  |.AW=>n=0
  |_=>False
 |.pv l,y=>match y with
  |.pv x=>AZ r l x
  |_=>False
 |.Fb has val z,y=>match y with
  |.Fb J B Z=>(∀k,J k=has k)/\(∀k,Bi r (val k) (B k))/\(∀k,has k=false->Y6 z (val k))
  |_=>False
 |.Ei,y=>match y with
  |.Ei=>True
  |_=>False
 |.ptr i o,y=>match y with
  |.ptr j p=>sg r i=some j/\Nat.beq o p=true
  |_=>False
 |.AW,y=>match y with
  |.AW=>True
  |_=>False
 |.sl i o n c,y=>match y with
  |.sl j p m d=>sg r i=some j/\o=p/\m=n/\d=c
  |_=>False
 |.BK i o n e,y=>match y with
  |.BK j p m d=>sg r i=some j/\o=p/\m=n/\Nat.beq e d=true
  |_=>False
 |.AR i n e,y=>match y with
  |.AR j m d=>sg r i=some j/\m=n/\Nat.beq e d=true
  |.BK j p m d=>sg r i=some j/\Nat.beq p 0=true/\m=n/\Nat.beq e d=true
  |.AW=>n=0
  |_=>False
 |.EY,y=>match y with
  |.EY=>True
  |_=>False
 |.map i,y=>match y with
  |.map j=>sg r i=some j
  |_=>False
 |.fn (.func f) a c,y=>match y with
  |.fn (.func g) b d=>Nat.beq f g=true/\AZ r a b/\AZ r c d
  |_=>False
 |.F4,y=>match y with
  |.F4=>True
  |_=>False
 |.iface t v,y=>match y with
  |.iface R L=>Nat.beq t R=true/\Bi r v L
  |_=>False
 |.DU,y=>match y with
  |.DU=>True
  |_=>False
 |.agg l,y=>match y with
  |.agg x=>AZ r l x
  |_=>False
 |.AM l,y=>match y with
  |.AM x=>AZ r l x
  |_=>False
 |.F6 g o,y=>match y with
  |.F6 V o'=>Nat.beq g V=true/\Nat.beq o o'=true
  |_=>False
 |.Cv i,y=>match y with
  |.Cv j=>sg r i=some j
  |_=>False
 |_,_=>False
def AZ (r:List (Nat×Nat)):Al->Al->Prop
 | [],l=>match l with
  | []=>True
  |_=>False
 |x::l,z=>match z with
  |y::m=>Bi r x y/\AZ r l m
  | []=>False
end
structure Tz (σ:List (Nat×Nat)) (ρ ρ2:Ak):Prop where
 nm:∀i j,sg σ i=some j->ρ2 i=ρ j
 st:∀b o,ρ.st b=some o->ρ2.st b=some o
theorem AgC {ρ:Ak} {l:Aj} {v:Value} (h:VR ρ (.bv l) v):VR ρ (.vec 1 l.length (Kn l)) v:=by
 cases h with
 |Hr _ hl base cap=>subst hl;exact .GR _ _ _ rfl _ _
 |bv _ b o cap cs el fz y r hc=>
  refine .vec 1 l.length _ b o cap cs el fz (λi=>[.int .u8 ((l.getD i 0).toNat:Int)]) y (by decide) r (λi hi=>.cons _ _ _ _ (.int _ _) .nil) λi hi j v x=>?_
  match j with
  |0=>injection x with x;subst x;simpa using hc i hi
  |_+1=>simp at x
theorem AbL {y r:Cn->Bool} (h:∀k,y k=r k) {kd:TypeDesc} {k:Cn} (x:PY y kd k):PY r kd k:=by
 unfold PY at x⊢;split at x
 ·show r _=false;rw[<-h];exact x
 ·show r _=true/\_;rw[<-h];exact x
 ·exact x.elim
mutual
theorem Kf {Z:List (Nat×Nat)} {ρ ρ2:Ak} (r:Tz Z ρ ρ2):∀(a b:AV) (u:Value),Bi Z a b->VR ρ b u->VR ρ2 a u
 |.bool p,b,u,h,hb=>by
  cases b<;>first|(simp[Bi]at h;done)|skip
  rw[Bi]at h;subst h;cases hb;exact .bool _
 |.int k m,b,u,h,hb=>by
  cases b<;>first|(simp[Bi]at h;done)|skip
  rw[Bi]at h;obtain⟨x,y⟩:=h;have:=PW x;subst this;subst y;cases hb;exact .int _ _
 |.str m n,b,u,h,hb=>by
  cases b<;>first|(simp[Bi]at h;done)|skip
  rw[Bi]at h;obtain⟨rfl,rfl⟩:=h;cases hb with
  |str _ _ hn=>exact .str _ _ hn
 |.bs l,b,u,h,hb=>by
  cases b<;>first|(simp[Bi]at h;done)|skip
  ·rw[Bi]at h;subst h;rw[ML hb rfl];exact .bs _
  ·rw[Bi]at h;subst h;cases hb;exact .bs _
 |.bv l,b,u,h,hb=>by
  cases b<;>first|(simp[Bi]at h;done)|skip
  ·rw[Bi]at h;subst h;cases hb;exact .Hr _ rfl _ _
  ·rw[Bi]at h;subst h;cases hb with
   |bv _ b o cap cs el fz J B hc=>exact .bv _ b o cap cs el fz (r.st _ _ J) B hc
   |Hr _ hl base cap=>exact .Hr _ hl _ _
  ·rw[Bi]at h;obtain⟨x,y,rfl⟩:=h;rw[A0]at x;subst x;cases wL hb y with
   |bv _ b o cap cs el fz J B hc=>exact .bv _ b o cap cs el fz (r.st _ _ J) B hc
   |Hr _ hl base cap=>exact .Hr _ hl _ _
 |.vec e n f,b,u,h,hb=>by
  have key:∀(V:Nat) (Y:Nat->Al),VR ρ (.vec e V Y) u->V=n->(∀i,i<V->AZ Z (f i) (Y i))->VR ρ2 (.vec e n f) u:=λV Y hb hn U=>by
   subst hn;cases hb with
   |vec _ _ _ b o cap cs el fz g J K B hv hc=>exact .vec _ _ _ b o cap cs el fz g (r.st _ _ J) K B (λi hi=>LM r (f i) (Y i) (g i) (U i hi) (hv i hi)) hc
   |GR _ _ _ W base cap=>exact .GR _ _ _ W _ _
  cases b<;>first|(simp[Bi]at h;done)|skip
  ·rw[Bi]at h;subst h;cases hb;exact .GR _ _ _ rfl _ _
  ·rw[Bi]at h;obtain⟨x,y,L⟩:=h;rw[A0]at x;subst x;exact key _ _ (AgC hb) y L.h
  ·rw[Bi]at h;obtain⟨x,y,L⟩:=h;rw[A0]at x;subst x;exact key _ _ hb y L.h
 |.pv l,b,u,h,hb=>by
  cases b<;>first|(simp[Bi]at h;done)|skip
  rw[Bi]at h;cases hb with
  |pv _ vs b o cs el fz J hv hc=>exact .pv _ vs b o cs el fz (r.st _ _ J) (LM r l _ vs h hv) hc
 |.Fb has val z,b,u,h,hb=>by
  cases b<;>first|(simp[Bi]at h;done)|skip
  rw[Bi]at h;obtain⟨x,y,L⟩:=h;cases hb with
  |Fb _ _ _ b es R g J hn hy hz hg=>exact .Fb _ _ _ b es R g (r.st _ _ J) (λkd k u S ho U=>hn kd k u S (AbL (λk=>(x k).symm) ho) (by rw[x];exact U)) (λkd k u S ho U=>hy kd k u S (AbL (λk=>(x k).symm) ho) (by rw[x];exact U)) L λk S=>Kf r (val k) _ (g k) (y k) (hg k (by rw[x];exact S))
 |.Ei,b,u,h,hb=>by
  cases b<;>first|(simp[Bi]at h;done)|skip
  cases hb;exact .Ei
 |.ptr i o,b,u,h,hb=>by
  cases b<;>first|(simp[Bi]at h;done)|skip
  rw[Bi]at h;obtain⟨x,y⟩:=h;rw[A0]at y;subst y;cases hb with
  |ptr _ _ b hb=>exact .ptr _ _ b (by rw[r.nm _ _ x];exact hb)
 |.AW,b,u,h,hb=>by
  cases b<;>first|(simp[Bi]at h;done)|skip
  cases hb;exact .AW
 |.sl i o n c,b,u,h,hb=>by
  cases b<;>first|(simp[Bi]at h;done)|skip
  rw[Bi]at h;obtain⟨x,rfl,rfl,rfl⟩:=h;cases hb with
  |sl _ _ _ _ b hb=>exact .sl _ _ _ _ b (by rw[r.nm _ _ x];exact hb)
 |.BK i o n e,b,u,h,hb=>by
  cases b<;>first|(simp[Bi]at h;done)|skip
  rw[Bi]at h;obtain⟨x,rfl,rfl,y⟩:=h;rw[A0]at y;subst y;cases hb with
  |BK _ _ _ _ b hb K hl=>exact .BK _ _ _ _ b (by rw[r.nm _ _ x];exact hb) K hl
 |.AR i n e,b,u,h,hb=>by
  cases b<;>first|(simp[Bi]at h;done)|skip
  ·rw[Bi]at h;subst h;cases hb;exact .GQ _ _ _ rfl _
  ·rw[Bi]at h;obtain⟨x,W,rfl,y⟩:=h;rw[A0]at y W;subst y;subst W;cases hb with
   |BK _ _ _ _ b hb K hl=>rw[Nat.sub_zero,Nat.add_zero];exact .AR _ _ _ b (by rw[r.nm _ _ x];exact hb) K (by omega)
  ·rw[Bi]at h;obtain⟨x,rfl,y⟩:=h;rw[A0]at y;subst y;cases hb with
   |AR _ _ _ b hb K hl=>exact .AR _ _ _ b (by rw[r.nm _ _ x];exact hb) K hl
   |GQ _ _ _ hn base=>exact .GQ _ _ _ hn base
 |.EY,b,u,h,hb=>by
  cases b<;>first|(simp[Bi]at h;done)|skip
  cases hb;exact .EY
 |.map i,b,u,h,hb=>by
  cases b<;>first|(simp[Bi]at h;done)|skip
  rw[Bi]at h;cases hb with
  |map _ b hb=>exact .map _ b (by rw[r.nm _ _ h];exact hb)
 |.fn (.func f) a c,b,u,h,hb=>by
  cases b<;>first|(simp[Bi]at h;done)|skip
  rename_i g b d;cases g<;>first|(simp[Bi]at h;done)|skip
  rw[Bi]at h;obtain⟨x,y,L⟩:=h;rw[A0]at x;subst x;cases hb with
  |fn _ _ _ va vc ha hc=>exact .fn _ _ _ va vc (LM r a _ va y ha) (LM r c _ vc L hc)
 |.F4,b,u,h,hb=>by
  cases b<;>first|(simp[Bi]at h;done)|skip
  cases hb;exact .F4
 |.iface t v,b,u,h,hb=>by
  cases b<;>first|(simp[Bi]at h;done)|skip
  rw[Bi]at h;obtain⟨x,y⟩:=h;rw[A0]at x;subst x;cases hb with
  |iface _ _ w hv=>exact .iface _ _ _ (Kf r v _ w y hv)
 |.DU,b,u,h,hb=>by
  cases b<;>first|(simp[Bi]at h;done)|skip
  cases hb;exact .DU
 |.agg l,b,u,h,hb=>by
  cases b<;>first|(simp[Bi]at h;done)|skip
  rw[Bi]at h;cases hb with
  |agg _ vs hv=>exact .agg _ _ (LM r l _ vs h hv)
 |.AM l,b,u,h,hb=>by
  cases b<;>first|(simp[Bi]at h;done)|skip
  rw[Bi]at h;cases hb with
  |AM _ vs hv=>exact .AM _ _ (LM r l _ vs h hv)
 |.F6 g o,b,u,h,hb=>by
  cases b<;>first|(simp[Bi]at h;done)|skip
  rw[Bi]at h;obtain⟨x,y⟩:=h;rw[A0]at x y;subst x;subst y;cases hb;exact .F6 _ _
 |.Cv i,b,u,h,hb=>by
  cases b<;>first|(simp[Bi]at h;done)|skip
  rw[Bi]at h;cases hb with
  |Cv _ b hb=>exact .Cv _ b (by rw[r.nm _ _ h];exact hb)
 |.sle _,b,u,h,hb|.M0,b,u,h,hb|.chan _,b,u,h,hb|.Gr _ _ _ _,b,u,h,hb=>by simp[Bi]at h
 |.fn (.method _) _ _,b,u,h,hb=>by simp[Bi]at h
 |.fn (.methodOf _ _) _ _,b,u,h,hb=>by simp[Bi]at h
 |.fn (.via _ _ _ _) _ _,b,u,h,hb=>by simp[Bi]at h
 |.fn (.yield _) _ _,b,u,h,hb=>by simp[Bi]at h
theorem LM {z:List (Nat×Nat)} {ρ ρ2:Ak} (r:Tz z ρ ρ2):∀(a b:Al) (u:List Value),AZ z a b->AL ρ b u->AL ρ2 a u
 | [],b,u,h,hb=>by
  cases b with
  |cons _ _=>simp[AZ]at h
  |nil=>cases hb;exact .nil
 |x::l,b,u,h,hb=>by
  cases b with
  |nil=>simp[AZ]at h
  |cons y m=>
   rw[AZ]at h;cases hb with
   |cons _ v _ vs J B=>exact .cons _ _ _ _ (Kf r x y v h.1 J) (LM r l m vs h.2 B)
end
end Go.Ev
end
section
namespace Go.Ev
def fD (r:List (Nat×Nat)) (c:Tr AV) (z:CB) (B:Tr AV) (x:CB) (n:Nat):Prop:=Nat.rec (motive:=λ_=>Prop) True (λk y=>y/\(match cellOf c z k with
  |none=>True
  |some a=>match cellOf B x k with
   |none=>False
   |some b=>Bi r a b)) n
def Uj (r:List (Nat×Nat)):List Di->List Di->Prop
 | [],l=>match l with
  | []=>True
  |_=>False
 |e::l,x=>match x with
  |d::m=>(Bi r e.key d.key/\Bi r e.val d.val/\Nat.beq e.born d.born=true)/\Uj r l m
  | []=>False
def trP (r:List (Nat×Nat)) (T:Tr AV):Tr AV->Prop:=Tr.rec (motive:=λ_=>Tr AV->Prop) (λ_=>True) (λv _ _ il ir T'=>Tr.rec (motive:=λ_=>Prop) False (λx z y _ _=>(match v with
  |none=>True
  |some a=>match x with
   |none=>False
   |some b=>Bi r a b)/\il z/\ir y) T') T
theorem w8 {z:List (Nat×Nat)}:∀ {T T':Tr AV},trP z T T'->∀(p:List Bool) (a:AV),Tr.gp p T=some a->∃b,Tr.gp p T'=some b/\Bi z a b
 |.leaf,_,_,p,a,h=>by rw[Tr.Uy]at h;cases h
 |.node v l r,.leaf,h,p,a,x=>False.elim h
 |.node v l r,.node J S R,h,p,a,x=>by
  obtain⟨B,L,K⟩:=h;cases p with
  |nil=>
   have y:v=some a:=x;subst y;cases J with
   |none=>exact B.elim
   |some b=>exact⟨b,rfl,B⟩
  |cons c p=>
   cases c with
   |true=>exact w8 L p a x
   |false=>exact w8 K p a x
def Kz (B:List (Nat×Nat)) (a b:Ah):Prop:=
 match a with
 |.cells el c z n op=>match b with
  |.cells W R L J r=>Nat.beq el W=true/\(op|| !r)=true/\(match z with
   |.rows e f=>match c with
    |.leaf=>match R,L with
     |.leaf,.rows e' f'=>Nat.beq e e'=true/\J=n/\Ar λi=>i*e<J->AZ B (f i) (f' i)
     |_,_=>J=n/\fD B .leaf (.rows e f) R L J
    |_=>False
   |.Dv _=>Nat.beq n J=true/\fD B c z R L n)
  |_=>False
 |.map es ck=>match b with
  |.map V Y=>Nat.beq ck Y=true/\Uj B es V
  |_=>False
 |.Nd l=>match b with
  |.Nd l'=>l'=l
  |_=>False
 |.Cf op=>match b with
  |.Cf r=>cond op r (!r)=true
  |_=>False
 |.loop st Cq T N ps Z body d=>match st,Cq,b with
  |.ready,none,.loop S x T' N' U K y d'=>match S,x with
   |.ready,none=>Nat.beq N N'=true/\(match sg B d with
    |none=>False
    |some j=>Nat.beq j d'=true)/\ps=U/\Z=K/\body=y/\trP B T T'
   |_,_=>False
  |_,_,_=>False
 |_=>False
theorem uL {x:List (Nat×Nat)} {c:Tr AV} {z:CB} {B:Tr AV} {y:CB}:∀ {n:Nat},fD x c z B y n->∀k a,k<n->cellOf c z k=some a->∃b,cellOf B y k=some b/\Bi x a b
 |0,_,k,a,L,_=>by omega
 |n+1,h,k,a,L,K=>by
  have h':fD x c z B y n/\(match cellOf c z n with
   |none=>True
   |some a=>match cellOf B y n with
    |none=>False
    |some b=>Bi x a b):=h
  by_cases J:k=n
  ·subst J;have r:=h'.2;rw[K]at r;simp only at r;split at r
   ·exact r.elim
   ·rename_i b hb;exact⟨b,hb,r⟩
  ·exact uL h'.1 k a (by omega) K
theorem we {z:List (Nat×Nat)}:∀ {l m:Al},AZ z l m->∀(j:Nat) (a:AV),l[j]? =some a->∃b,m[j]? =some b/\Bi z a b
 | [],m,h,j,a,r=>by simp at r
 |x::l,m,h,j,a,r=>by
  cases m with
  |nil=>simp[AZ]at h
  |cons y m=>
   rw[AZ]at h
   match j with
   |0=>injection r with r;subst r;exact⟨y,rfl,h.1⟩
   |j+1=>exact we h.2 j a r
theorem Aab {B:List (Nat×Nat)} {ρ ρ2:Ak} (x:Tz B ρ ρ2):∀ {z r:List Di} {l:List MapEntry},Uj B z r->D3 ρ r l->D3 ρ2 z l
 | [],r,l,h,hl=>by
  cases hl with
  |nil=>exact .nil
  |cons=>simp[Uj]at h
 |e::z,r,l,h,hl=>by
  cases hl with
  |nil=>simp[Uj]at h
  |cons d m _ _ y S=>rw[Uj]at h;obtain⟨⟨R,L,J⟩,K⟩:=h;rw[A0]at J;exact .cons _ _ _ _ ⟨Kf x _ _ _ R y.1,Kf x _ _ _ L y.2.1,J.trans y.2.2⟩ (Aab x K S)
theorem Ac5 {σ:List (Nat×Nat)} {ρ ρ2:Ak} (x:Tz σ ρ ρ2) {a o:Ah} {b:CD} {c:Obj} (h:Kz σ a o) (Z:OR ρ b o c):OR ρ2 b a c:=by
 unfold Kz at h;split at h
 ·rename_i el c0 z n op;split at h
  ·rename_i aj c' z' n' J;obtain⟨S,R,V⟩:=h;rw[A0]at S;subst S;cases Z with
   |cells _ _ _ _ _ cs fz DT hn aa Y hc=>
    have y:∀m,m=n'->op=false->m=b.cap:=λm B h=>by subst B;subst h;refine aa ?_;cases J<;>first|rfl|simp at R
    cases z with
    |rows e f=>
     cases c0 with
     |node _ _ _=>exact V.elim
     |leaf=>
      simp only at V;split at V
      ·rename_i e' f';obtain⟨h4,rfl,h6⟩:=V;rw[A0]at h4;subst h4;refine .cells _ _ _ _ _ cs fz DT hn (y _ rfl) Y λk a K L=>?_;rw[G1]at L;have ad:(f (k/e))[k %e]? =some a:=L;have ab:k/e*e<n':=Nat.lt_of_le_of_lt (Nat.div_mul_le_self k e) K;obtain⟨W,r,B⟩:=we (h6.h _ ab) _ _ ad;obtain⟨v,hv,U⟩:=hc k W K (by rw[G1];exact r);exact⟨v,hv,Kf x _ _ _ B U⟩
      ·obtain⟨rfl,h5⟩:=V;refine .cells _ _ _ _ _ cs fz DT hn (y _ rfl) Y λk a K L=>?_;obtain⟨W,r,B⟩:=uL h5 k a K L;obtain⟨v,hv,U⟩:=hc k W K r;exact⟨v,hv,Kf x _ _ _ B U⟩
    |Dv zs=>simp only at V;obtain⟨h4,h5⟩:=V;rw[A0]at h4;subst h4;refine .cells _ _ _ _ _ cs fz DT hn (y _ rfl) Y λk a K L=>?_;obtain⟨W,r,B⟩:=uL h5 k a K L;obtain⟨v,hv,U⟩:=hc k W K r;exact⟨v,hv,Kf x _ _ _ B U⟩
  ·exact h.elim
 ·split at h
  ·obtain⟨S,R⟩:=h;rw[A0]at S;subst S;cases Z with
   |map _ _ l hl=>exact .map _ _ l (Aab x R hl)
  ·exact h.elim
 ·split at h
  ·cases Z
  ·exact h.elim
 ·rename_i op;split at h
  ·rename_i J;have e:op=J:=by cases op<;>cases J<;>first|rfl|cases h
   subst e;cases Z with
   |Cf _=>exact .Cf op
  ·exact h.elim
 ·rename_i st Cq T N ps ak body d;split at h
  ·rename_i ah ae T' N' ai ag af d';split at h
   ·obtain⟨S,R,rfl,rfl,rfl,h6⟩:=h;rw[A0]at S;subst S;split at R
    ·exact R.elim
    ·rename_i j hj;rw[A0]at R;subst R;cases Z with
     |loop _ _ _ _ _ _ _ _ fn tmps bd hT hN hd=>refine .loop _ _ _ _ _ _ _ _ fn tmps bd (λt a L=>?_) hN ((x.nm _ _ hj).trans hd);obtain⟨W,r,B⟩:=w8 h6 _ a L;obtain⟨v,hv,U⟩:=hT t W r;exact⟨v,hv,Kf x _ _ _ B U⟩
   ·exact h.elim
  ·exact h.elim
 ·exact h.elim
mutual
def VQ (a b:AV) (r:List (Nat×Nat)):List (Nat×Nat):=
 match a with
 |.ptr i _=>match b with
  |.ptr j _=>Rj i j r
  |_=>r
 |.sl i _ _ _=>match b with
  |.sl j _ _ _=>Rj i j r
  |_=>r
 |.BK i _ _ _=>match b with
  |.BK j _ _ _=>Rj i j r
  |_=>r
 |.AR i _ _=>match b with
  |.AR j _ _=>Rj i j r
  |.BK j _ _ _=>Rj i j r
  |_=>r
 |.map i=>match b with
  |.map j=>Rj i j r
  |_=>r
 |.Cv i=>match b with
  |.Cv j=>Rj i j r
  |_=>r
 |.fn _ l m=>match b with
  |.fn _ x z=>YT m z (YT l x r)
  |_=>r
 |.agg l=>match b with
  |.agg x=>YT l x r
  |_=>r
 |.AM l=>match b with
  |.AM x=>YT l x r
  |_=>r
 |.iface _ v=>match b with
  |.iface _ y=>VQ v y r
  |_=>r
 |_=>r
def YT (a b:Al) (r:List (Nat×Nat)):List (Nat×Nat):=
 match a with
 | []=>r
 |x::l=>match b with
  | []=>r
  |y::m=>YT l m (VQ x y r)
def Rj (i j:Nat) (r:List (Nat×Nat)):List (Nat×Nat):=Option.rec (motive:=λ_=>List (Nat×Nat)) ((i,j)::r) (λ_=>r) (sg r i)
end
def VS (c:Tr AV) (z:CB) (B:Tr AV) (y:CB) (n:Nat) (x:List (Nat×Nat)):List (Nat×Nat):=Nat.rec (motive:=λ_=>List (Nat×Nat)) x (λk r=>match cellOf c z k with
  |none=>r
  |some a=>match cellOf B y k with
   |none=>r
   |some b=>VQ a b r) n
def AeI (a b:Ah) (r:List (Nat×Nat)):List (Nat×Nat):=
 match a with
 |.cells _ c z n _=>match z with
  |.rows _ _=>r
  |.Dv _=>match b with
   |.cells _ y x _ _=>VS c z y x n r
   |_=>r
 |_=>r
def fL {r:Type} (l:List (Nat×Nat)):(List (Nat×Nat)->r)->r:=List.rec (motive:=λ_=>(List (Nat×Nat)->r)->r) (λk=>k []) (λp _ x k=>fN p.1 λa=>fN p.2 λb=>x λl=>k ((a,b)::l)) l
theorem dF {r:Type}:∀(l:List (Nat×Nat)) (k:List (Nat×Nat)->r),fL l k=k l
 | [],_=>rfl
 |p::l,k=>by show(fN p.1 λa=>fN p.2 λb=>fL l λl=>k ((a,b)::l))=_;rw[Bv,Bv,dF l]
def AeJ (T:Tr AV) (l:List (Nat×AV)) (r:List (Nat×Nat)):List (Nat×Nat):=List.rec (motive:=λ_=>List (Nat×Nat)->List (Nat×Nat)) (λr=>r) (λp _ x r=>fL (Option.rec (motive:=λ_=>List (Nat×Nat)) r (λb=>VQ p.2 b r) (T.get p.1)) x) l r
def iO (H:Tr Ah) (l:List (Nat×Ah)) (r:List (Nat×Nat)):List (Nat×Nat):=List.rec (motive:=λ_=>List (Nat×Nat)->List (Nat×Nat)) (λr=>r) (λp _ x r=>fL (Option.rec (motive:=λ_=>List (Nat×Nat)) r (λj=>Option.rec (motive:=λ_=>List (Nat×Nat)) r (λo=>AeI p.2 o r) (H.get j)) (sg r p.1)) x) l r
def Mj (l:List Nat):Bool:=List.rec (motive:=λ_=>Bool) true (λa l r=>cond (l.any (Nat.beq a)) false r) l
def idS (n0:Nat):List (Nat×Nat):=(List.range n0).map λi=>(i,i)
def Ace (i:Nat) (l:List Nat):Bool:=l.any λj=>Nat.beq i j
theorem Acf {i:Nat} {l:List Nat} (h:i∈l):Ace i l=true:=List.any_eq_true.2 ⟨i,h,Nat.beq_refl i⟩
def wK (n0 nx:Nat) (x:List Nat) (r:List (Nat×Nat)):Bool:=cond ((List.range n0).all λi=>Option.rec (motive:=λ_=>Bool) false (λj=>Nat.beq j i) (sg r i)) (cond (r.all λp=>Nat.blt p.1 nx) (Mj ((r.filter λp=>Ace p.1 x).map (·.2))) false) false
def tP (r:List (Nat×Nat)) (T:Tr AV) (l:List (Nat×AV)):Prop:=List.rec (motive:=λ_=>Prop) True (λp _ x=>(match T.get p.1 with
  |none=>False
  |some b=>Bi r p.2 b)/\x) l
def Kw:Ah->Bool
 |.Nd _=>true
 |_=>false
def hP (n0:Nat) (r:List (Nat×Nat)) (H:Tr Ah) (l:List (Nat×Ah)):Prop:=List.rec (motive:=λ_=>Prop) True (λp _ x=>(cond (Kw p.2) (Nat.blt p.1 n0) true=true/\match sg r p.1 with
  |none=>True
  |some j=>match H.get j with
   |none=>False
   |some o=>Kz r p.2 o)/\x) l
def UO (l:List (Nat×AV)):Tr AV:=List.rec (motive:=λ_=>Tr AV) .leaf (λp _ r=>r.set p.1 p.2) l
def BU (l:List (Nat×Ah)):Tr Ah:=List.rec (motive:=λ_=>Tr Ah) .leaf (λp _ r=>r.set p.1 p.2) l
theorem Acp:∀ {l:List (Nat×AV)} {t:Nat} {a:AV},(UO l).get t=some a->(t,a)∈l
 | [],t,a,h=>by rw[show UO []=.leaf from rfl,Tr.Cy]at h;cases h
 |p::l,t,a,h=>by
  have h':((UO l).set p.1 p.2).get t=some a:=h;rw[Tr.Gm]at h';split at h'
  ·rename_i e;injection h' with h';subst e;subst h';exact EG ..
  ·exact EF _ (Acp h')
theorem Nl:∀ {l:List (Nat×Ah)} {t:Nat} {a:Ah},(BU l).get t=some a->(t,a)∈l
 | [],t,a,h=>by rw[show BU []=.leaf from rfl,Tr.Cy]at h;cases h
 |p::l,t,a,h=>by
  have h':((BU l).set p.1 p.2).get t=some a:=h;rw[Tr.Gm]at h';split at h'
  ·rename_i e;injection h' with h';subst e;subst h';exact EG ..
  ·exact EF _ (Nl h')
theorem AeM {x:List (Nat×Nat)} {T:Tr AV}:∀ {l:List (Nat×AV)},tP x T l->∀p∈l,∃b,T.get p.1=some b/\Bi x p.2 b
 | [],_,p,r=>by cases r
 |q::l,h,p,r=>by
  have h':(match T.get q.1 with
   |none=>False
   |some b=>Bi x q.2 b)/\tP x T l:=h
  rcases Dp.1 r with rfl|r
  ·have y:=h'.1;split at y
   ·exact y.elim
   ·rename_i b hb;exact⟨b,hb,y⟩
  ·exact AeM h'.2 p r
theorem sn {n0:Nat} {r:List (Nat×Nat)} {H:Tr Ah}:∀ {l:List (Nat×Ah)},hP n0 r H l->∀p∈l,cond (Kw p.2) (Nat.blt p.1 n0) true=true/\∀j,sg r p.1=some j->∃o,H.get j=some o/\Kz r p.2 o
 | [],_,p,x=>by cases x
 |q::l,h,p,x=>by
  have h':(cond (Kw q.2) (Nat.blt q.1 n0) true=true/\match sg r q.1 with
   |none=>True
   |some j=>match H.get j with
    |none=>False
    |some o=>Kz r q.2 o)/\hP n0 r H l:=h
  rcases Dp.1 x with rfl|x
  ·refine⟨h'.1.1,λj B=>?_⟩;have y:=h'.1.2;rw[B]at y;simp only at y;split at y
   ·exact y.elim
   ·rename_i o z;exact⟨o,z,y⟩
  ·exact sn h'.2 p x
theorem VO:∀ {r:List (Nat×Nat)} {i j:Nat},sg r i=some j->(i,j)∈r
 | [],i,j,h=>by cases h
 |p::r,i,j,h=>by
  have h':cond (Nat.beq p.1 i) (some p.2) (sg r i)=some j:=h;cases hb:Nat.beq p.1 i with
  |true=>rw[hb]at h';rw[A0]at hb;injection h' with h';subst hb;subst h';exact EG ..
  |false=>rw[hb]at h';exact EF _ (VO h')
theorem tn:∀ {l:List (Nat×Nat)},Mj (l.map (·.2))=true->∀p∈l,∀q∈l,p.2=q.2->p=q
 | [],_,p,B,_,_,_=>by cases B
 |a::l,h,p,B,q,L,e=>by
  have h':cond ((l.map (·.2)).any (Nat.beq a.2)) false (Mj (l.map (·.2)))=true:=h;cases J:(l.map (·.2)).any (Nat.beq a.2)with
  |true=>rw[J]at h';cases h'
  |false=>
   rw[J,cond_false]at h';have z:∀r∈l,r.2≠a.2:=λr K e=>by have:(l.map (·.2)).any (Nat.beq a.2)=true:=List.any_eq_true.2 ⟨r.2,List.mem_map.2 ⟨r,K,rfl⟩,by rw[A0];exact e.symm⟩;rw[J]at this;cases this
   rcases Dp.1 B with y|y<;>rcases Dp.1 L with x|x
   ·rw[y,x]
   ·rw[y]at e;exact absurd e.symm (z q x)
   ·rw[x]at e;exact absurd e (z p y)
   ·exact tn h' p y q x e
structure Dc (n0:Nat) (ρ ρ':Ak):Prop where
 lo:∀i,i<n0->ρ' i=ρ i
 st:∀b o,ρ.st b=some o->ρ'.st b=some o
theorem Dc.refl (n0:Nat) (ρ:Ak):Dc n0 ρ ρ:=⟨λ_ _=>rfl,λ_ _ h=>h⟩
theorem Dc.trans {n0:Nat} {a b c:Ak} (h:Dc n0 a b) (k:Dc n0 b c):Dc n0 a c:=⟨λi hi=>(k.lo i hi).trans (h.lo i hi),λb o hb=>k.st b o (h.st b o hb)⟩
theorem Dc.Nn {n0 n x:Nat} {ρ r:Ak} (h:RX n x ρ r) (hn:n0<=n):Dc n0 ρ r:=⟨λi hi=>h.lo i (Nat.lt_of_lt_of_le hi hn),h.le.st⟩
def MH (r:List (Nat×Nat)) (ρ:Ak):Ak:=⟨λi=>(sg r i).bind ρ.nm,ρ.st⟩
theorem v9 (r:List (Nat×Nat)) (ρ:Ak):Tz r ρ (MH r ρ):=⟨λi j h=>by show(sg r i).bind ρ.nm=_;rw[h];rfl,λ_ _ h=>h⟩
def S7 (n0 N nx:Nat) (T:List (Nat×AV)) (H:List (Nat×Ah)) (s:St):Prop:=
 match s.D,s.ro with
 | [],none=>fL (iO s.H H (AeJ s.T T (idS n0))) λr=>cond (Nat.beq s.N N) (cond (Nat.ble n0 nx) (wK n0 nx (H.map (·.1)) r) false) false=true/\tP r s.T T/\hP n0 r s.H H
 |_,_=>False
theorem iL {n0 N nx:Nat} {T:List (Nat×AV)} {H:List (Nat×Ah)} {s:St} (h:S7 n0 N nx T H s) {E:Env} {F:Nat->Option Obj} {ρ:Ak} {a:Act} {w:World} {ro:Option Nat} (V:SR E F ρ s a w ro): n0<=nx/\∃ρ2,Dc n0 ρ ρ2/\SR E F ρ2 ⟨N,UO T,BU H,nx,none,[]⟩ a w ro:=by
 unfold S7 at h;split at h
 ·rename_i hD ad;rw[dF]at h;generalize(iO s.H H (AeJ s.T T (idS n0)))=B at h;obtain⟨U,hT,hH⟩:=h;obtain⟨hN,U⟩:=BG U;obtain⟨aa,U⟩:=BG U;rw[A0]at hN;rw[Nat.ble_eq]at aa;refine⟨aa,?_⟩;unfold wK at U;obtain⟨Y,R⟩:=BG U;obtain⟨R,ab⟩:=BG R;have W:=v9 B ρ;have ae:∀i b,MH B ρ i=some b->∃j,sg B i=some j/\ρ j=some b:=λi b h=>by
   have h':(sg B i).bind ρ.nm=some b:=h;cases x:sg B i with
   |none=>rw[x]at h';cases h'
   |some j=>rw[x]at h';exact⟨j,rfl,h'⟩
  have y:∀i o b,(BU H).get i=some o->MH B ρ i=some b->∃j o',sg B i=some j/\ρ j=some b/\s.H.get j=some o'/\Kz B o o':=λi o b hi hb=>by obtain⟨j,z,L⟩:=ae i b hb;obtain⟨o',K,J⟩:=(sn hH _ (Nl hi)).2 j z;exact⟨j,o',z,L,K,J⟩
  have r:=V.rel;refine⟨MH B ρ,⟨λi hi=>?_,λ_ _ h=>h⟩,⟨⟨r.tape,r.os,r.output,r.fr,λi o b hi hb=>?_,λi o b hi hb=>?_,λi k o o' b b' hi hk hb ag e=>?_,λi hi=>?_,λg l hg=>?_,r.bs,r.st,λi o b hi hb=>?_,r.sf⟩,λt v ht=>?_,V.size.trans hN,?_,?_⟩⟩
  ·have:=List.all_eq_true.1 Y i (List.mem_range.2 hi);cases x:sg B i with
   |none=>rw[x]at this;cases this
   |some j=>rw[x]at this;have this:Nat.beq j i=true:=this;rw[A0]at this;subst this;show(sg B j).bind ρ.nm=_;rw[x];rfl
  ·obtain⟨j,o',z,L,K,J⟩:=y i o b hi hb;obtain⟨c,h5,h6⟩:=r.ob j o' b K L;exact⟨c,h5,Ac5 W J h6⟩
  ·obtain⟨j,o',z,L,K,J⟩:=y i o b hi hb;exact r.dj j o' b K L
  ·obtain⟨j,p,z,L,K,J⟩:=y i o b hi hb;obtain⟨j',p',aj,ai,ah,an⟩:=y k o' b' hk ag;have hj:=r.inj j j' p p' b b' K ah L ai e;have:=tn ab _ (List.mem_filter.2 ⟨VO z,Acf (List.mem_map.2 ⟨_,Nl hi,rfl⟩)⟩) _ (List.mem_filter.2 ⟨VO aj,Acf (List.mem_map.2 ⟨_,Nl hk,rfl⟩)⟩) hj;exact congrArg Prod.fst this
  ·show(sg B i).bind ρ.nm=none;cases x:sg B i with
   |none=>rfl
   |some j=>have z:Nat.blt i nx=true:=List.all_eq_true.1 R _ (VO x);rw[CE]at z;have ak:nx<=i:=hi;omega
  ·obtain⟨z,L⟩:=sn hH _ (Nl hg);have af:g<n0:=by have z:Nat.blt g n0=true:=z;rwa[CE]at z
   have:=List.all_eq_true.1 Y g (List.mem_range.2 af);cases x:sg B g with
   |none=>rw[x]at this;cases this
   |some j=>
    rw[x]at this;have this:Nat.beq j g=true:=this;rw[A0]at this;subst this;obtain⟨o,K,J⟩:=L j x;cases o with
    |Nd l'=>have J:l'=l:=J;subst J;exact r.gl j l' K
    |_=>exact J.elim
  ·obtain⟨j,o',z,L,K,J⟩:=y i o b hi hb;exact r.sd j o' b K L
  ·obtain⟨b,z,L⟩:=AeM hT _ (Acp ht);obtain⟨u,K,J⟩:=V.tr _ b z;exact⟨u,K,Kf W _ _ _ L J⟩
  ·have S:=V.dr;rw[hD]at S;generalize a.defers=ds at S;cases S;exact .nil
  ·have Z:=V.rr;rw[ad]at Z;cases Z;exact .none
 ·exact h.elim
end Go.Ev
end
section
namespace Go.Ev
inductive Ct where
 |ret (v:AV)
 |AG (v:AV)
 |br (b:Bool) (t e:Ct)
 |Bb (p:Prop) (t:Ct)
abbrev DQ:=List (FuncId×(Tr Ah->List AV->Option Ct))
def look (tb:DQ) (g:FuncId):Option (Tr Ah->Al->Option Ct):=List.rec (motive:=λ_=>Option (Tr Ah->Al->Option Ct)) none (λp _ r=>cond (Nat.beq p.1 g) (some p.2) r) tb
def Ap (b:Bool) (K:Prop):Prop:=Bool.rec (motive:=λ_=>Prop) False K b
def Ag (b:Bool) (K L:Prop):Prop:=Bool.rec (motive:=λ_=>Prop) L K b
theorem EE {b:Bool} {K:Prop}:Ap b K↔b=true/\K:=by cases b<;>simp[Ap]
theorem GC {b:Bool} {K L:Prop}:Ag b K L↔(b=true->K)/\(b=false->L):=by cases b<;>simp[Ag]
theorem Ao {b:Bool} {K L:Prop} (x:b=true->K) (r:b=false->L):Ag b K L:=GC.2 ⟨x,r⟩
theorem Am {b:Bool} {K:Prop} (x:b=true) (r:K):Ap b K:=EE.2 ⟨x,r⟩
def PA (ct:Ct) (R y:AV->Prop):Prop:=Ct.rec (motive:=λ_=>Prop) R y (λb _ _ r x=>Ag b r x) (λp _ r=>p/\r) ct
open Classical in
def G2 (ct:Ct):Option (Bool×AV):=Ct.rec (motive:=λ_=>Option (Bool×AV)) (λv=>some (false,v)) (λv=>some (true,v)) (λb _ _ r x=>cond b r x) (λp _ r=>if p then r else none) ct
theorem WO {R r:AV->Prop}:∀ {ct:Ct},PA ct R r->∃p v,G2 ct=some (p,v)/\(if p then r v else R v)
 |.ret v,h=>⟨false,v,rfl,h⟩
 |.AG v,h=>⟨true,v,rfl,h⟩
 |.br b t e,h=>by
  have h':Ag b (PA t R r) (PA e R r):=h;cases b with
  |true=>exact WO (ct:=t) h'
  |false=>exact WO (ct:=e) h'
 |.Bb p t,h=>by have h':p/\PA t R r:=h;obtain⟨q,v,y,x⟩:=WO (ct:=t) h'.2;exact⟨q,v,(As h'.1).trans y,x⟩
def Hy (p:Bool) (v:AV) (H:Tr Ah) (nx:Nat):CR:=match p with
 |false=>.mk v H nx
 |true=>.AG v H nx
inductive Eg:Type 1 where
 |ret (v:AV) (up:List (Nat×Ah)) (nx:Nat)
 |AG (v:AV) (up:List (Nat×Ah)) (nx:Nat)
 |br (b:Bool) (t e:Eg)
 |Bb (p:Prop) (t:Eg)
 |gen {α:Type} (a:α) (f:α->Eg)
abbrev Ft:=Tr Ah->Nat->List AV->Option Eg
abbrev CZ:=List (FuncId×Ft)
def Lf (tb:CZ) (g:FuncId):Option Ft:=List.rec (motive:=λ_=>Option Ft) none (λp _ r=>cond (Nat.beq p.1 g) (some p.2) r) tb
def Aip:Ah:=.Ih 0 0 [] 0
def Jg (o:Ah):Bool:=match o with
 |.Ih _ _ _ _=>true
 |_=>false
def Fm (l:List (Nat×Ah)) (H:Tr Ah):Tr Ah:=List.rec (motive:=λ_=>Tr Ah) H (λp _ r=>cond (Jg p.2) (r.del p.1) (r.set p.1 p.2)) l
def PB (hc:Eg) (R B:AV->List (Nat×Ah)->Nat->Prop):Prop:=Eg.rec (motive:=λ_=>Prop) R B (λb _ _ r z=>Ag b r z) (λp _ r=>p/\r) (λa _ x=>∀y,y=a->x y) hc
open Classical in
def hOut (hc:Eg):Option (Bool×AV×List (Nat×Ah)×Nat):=Eg.rec (motive:=λ_=>Option (Bool×AV×List (Nat×Ah)×Nat)) (λv up nx=>some (false,v,up,nx)) (λv up nx=>some (true,v,up,nx)) (λb _ _ r y=>cond b r y) (λp _ r=>if p then r else none) (λa _ x=>x a) hc
theorem TV {R r:AV->List (Nat×Ah)->Nat->Prop}:∀ {hc:Eg},PB hc R r->∃p v up nx,hOut hc=some (p,v,up,nx)/\(if p then r v up nx else R v up nx)
 |.ret v up nx,h=>⟨false,v,up,nx,rfl,h⟩
 |.AG v up nx,h=>⟨true,v,up,nx,rfl,h⟩
 |.br b t e,h=>by
  have h':Ag b (PB t R r) (PB e R r):=h;cases b with
  |true=>exact TV (hc:=t) h'
  |false=>exact TV (hc:=e) h'
 |.Bb p t,h=>by have h':p/\PB t R r:=h;obtain⟨q,v,up,nx,z,x⟩:=TV (hc:=t) h'.2;exact⟨q,v,up,nx,(As h'.1).trans z,x⟩
 |.gen a f,h=>by have h':∀y,y=a->PB (f y) R r:=h;exact TV (hc:=f a) (h' a rfl)
def BH (P:Program) (g:FuncId) (AN:Ft):Prop:=∀H nx args hc,AN H nx args=some hc->∀p v up nx',hOut hc=some (p,v,up,nx')->∀E F ρ w,Rel E F nx ρ H.get w->Kl P (.fn g args) w ρ (LR E F nx ρ (Hy p v (Fm up H) nx'))
def Es (P:Program) (ht:CZ):Prop:=∀g AN,Lf ht g=some AN->BH P g AN
theorem UC (P:Program):Es P []:=λ_ _ h=>by cases h
theorem Dj {P:Program} {ht:CZ} {g:FuncId} {AN:Ft} (h:BH P g AN) (z:Es P ht):Es P ((g,AN)::ht):=by
 intro y x hl;have r:cond (Nat.beq g y) (some AN) (Lf ht y)=some x:=hl;cases hb:Nat.beq g y with
 |true=>rw[hb]at r;injection r with r;rw[<-r,<-D4 hb];exact h
 |false=>rw[hb]at r;exact z y x r
structure RCt where
 X:Type
 pre:Prop
 Q:X->Prop
 v:X->AV
abbrev H9:=Tr Ah->List AV->Option RCt
abbrev Pr:=List (FuncId×H9)
def UJ (tb:Pr) (g:FuncId):Option H9:=List.rec (motive:=λ_=>Option H9) none (λp _ r=>cond (Nat.beq p.1 g) (some p.2) r) tb
def JG (P:Program) (g:FuncId) (AN:H9):Prop:=∀H args y,AN H args=some y->y.pre->∀E F ρ w nx H',(∀g l,H.get g=some (.Nd l)->∃cs e fz,E.base g=some (.cells cs e fz)/\∀z,AL z l cs.toList)->Rel E F nx ρ H'.get w-> Kl P (.fn g args) w ρ (λe w'=>∃r:CR,(∃x,y.Q x/\r=.mk (y.v x) H' (nx+1))/\LR E F nx ρ r e w')
def Pt (P:Program) (rt:Pr):Prop:=∀g AN,UJ rt g=some AN->JG P g AN
theorem VM (P:Program):Pt P []:=λ_ _ h=>by cases h
theorem LI {P:Program} {rt:Pr} {g:FuncId} {AN:H9} (h:JG P g AN) (z:Pt P rt):Pt P ((g,AN)::rt):=by
 intro y x hl;have r:cond (Nat.beq g y) (some AN) (UJ rt y)=some x:=hl;cases hb:Nat.beq g y with
 |true=>rw[hb]at r;injection r with r;rw[<-r,<-D4 hb];exact h
 |false=>rw[hb]at r;exact z y x r
structure AfM where
 X:Type
 pre:Prop
 Q:X->Prop
 v:X->AV
 up:X->List (Nat×Ah)
 nx:Nat
abbrev ZA:=Tr Ah->Nat->List AV->Option AfM
abbrev kT:=List (FuncId×ZA)
def dz (tb:kT) (g:FuncId):Option ZA:=List.rec (motive:=λ_=>Option ZA) none (λp _ r=>cond (Nat.beq p.1 g) (some p.2) r) tb
def AfN (P:Program) (g:FuncId) (AN:ZA):Prop:=∀H nx args y,AN H nx args=some y->y.pre->∀E F ρ w,Rel E F nx ρ H.get w-> Kl P (.fn g args) w ρ (λe w'=>∃r:CR,(∃x,y.Q x/\r=.mk (y.v x) (Fm (y.up x) H) y.nx)/\LR E F nx ρ r e w')
def xZ (P:Program) (rt:kT):Prop:=∀g AN,dz rt g=some AN->AfN P g AN
theorem AlY (P:Program):xZ P []:=λ_ _ h=>by cases h
def Ko (tb:DQ) (ht:CZ):Da:=λt H nx=>match t with
 |.fn g args=>Option.rec (motive:=λ_=>Option CR) (ob (look tb g) λAN=>ob (AN H args) λct=>ob (G2 ct) λo=>some (Hy o.1 o.2 H (nx+1)))
   (λAN=>ob (AN H nx args) λhc=>ob (hOut hc) λo=>some (Hy o.1 o.2.1 (Fm o.2.2.1 H) o.2.2.2)) (Lf ht g)
 |.Cv _ _=>none
structure B0 where
 X:Type
 T:St->Nat->X->List (Nat×AV)
 H:St->Nat->X->List (Nat×Ah)
 nx:St->Nat->Nat
 I:St->X->Prop
 m:X->Nat
abbrev KX:=AX->St->Prop
abbrev KC:=CR->Prop
structure Ctx where
 P:Program
 tb:DQ
 lp:FuncId->Nat->Option B0
 cut:FuncId->Nat->Option B0
 ht:CZ:=[]
 AA:Es P ht:=by exact UC _
 rt:Pr:=[]
 VL:Pt P rt:=by exact VM _
 pl:FuncId->Nat->St->Bool:=λ_ _ _=>false
 fr:FuncId->Nat->List Nat:=λ_ _=>[]
 fl:FuncId->Nat->List Nat:=λ_ _=>[]
 rh:kT:=[]
 AlZ:xZ P rh:=by exact AlY _
structure Fq where
 code:Nat->FuncId->Code->St->KX->Prop
 call:FuncId->List AV->Tr Ah->Nat->KC->Prop
def Bp.{u} {α:Type u} (x:Option α) (K:α->Prop):Prop:=Option.rec (motive:=λ_=>Prop) False K x
theorem BV.{u} {α:Type u} {x:Option α} {K:α->Prop} (h:Bp x K):∃a,x=some a/\K a:=by
 cases x with
 |none=>exact h.elim
 |some a=>exact⟨a,rfl,h⟩
def OG:Da:=λ_ _ _=>none
def Rt (ops:Array Oper) (T:Tr AV) (o:Oper) (K:Tr AV->Bool->Prop):Prop:=
 match o.guard with
 |none=>K T true
 |some (j,r)=>Bp (ops[j]?) λx=>Bp x.dst λd=>Bp (T.get d) λv=>match v with
  |.bool b=>Ag b (K (T.set d (.bool true)) r) (K (T.set d (.bool false)) (!r))
  |_=>K T false
def oJ (X:Operand->Option AV) (op:Op) (C:K5->Prop):Prop:=
 match op with
 |.call c=>match c.callee with
  |.value f=>Bp (X f) λx=>Bp (F0 X c.args.toList) λr=>Bp (Ie x r) C
  |_=>False
 |_=>False
def oW (kd:TypeDesc) (k:Cn) (z:AV) (K:Bool->AV->Prop) (x:List Di):Prop:=List.rec (motive:=λ_=>Prop) (K false z) (λe _ r=>Bp (PZ kd e.key) λs=>Bp (W7 k s) λq=>Ag q (K true e.val) r) x
def cJ (P:Program) (X:Operand->Option AV) (H:Tr Ah) (nx:Nat) (op:Op) (K:KC) (D:Prop):Prop:=
 match op with
 |.lookup t m k ok=>Bp (X m) λm=>Bp (X k) λk=>Bp (P.underlying t) λd=>match d with
  |.map key r=>Bp (P.underlying key) λkd=>Ap (Xt kd) (Bp (PZ kd k) λs=>Bp (Pl P r) λz=>match m with
   |.map id=>Bp (H.get id) λo=>match o with
    |.map es _=>oW kd s z (λx v=>K (.mk (cond ok (.AM [v,.bool x]) v) H nx)) es
    |_=>False
   |_=>False)
  |_=>False
 |_=>D
def xF (z:Int) (K:Nat->Prop) (n:Nat):Prop:=Nat.rec (motive:=λ_=>Prop) False (λj r=>Ag (Au z (j:Int)) (K j) r) n
theorem Afw {z:Int} {K:Nat->Prop}:∀ {n:Nat},xF z K n->∃j,j<n/\z=(j:Int)/\K j
 |0,h=>h.elim
 |n+1,h=>by
  obtain⟨J,B⟩:=GC.1 (show Ag (Au z (n:Int)) (K n) (xF z K n)from h);cases hb:Au z (n:Int)with
  |true=>exact⟨n,Nat.lt_succ_self _,by simpa[DD]using hb,J hb⟩
  |false=>obtain⟨j,y,x,r⟩:=Afw (B hb);exact⟨j,Nat.lt_succ_of_lt y,x,r⟩
def WQ (P:Program) (X:Operand->Option AV) (op:Op) (K:AV->Prop) (D:Prop):Prop:=
 match op with
 |.indexAddr t x i=>match X x,X i with
  |some (.sl id off n _),some (.int _ z)=>cond (Nat.ble n 8) (Bp (P.underlying t) λd=>match d with
   |.slice e=>Bp (P.underlying e) λ_=>xF z (λj=>fN (off+j*P.cellsOf e) λo=>K (.ptr id o)) n
   |_=>D) D
  |_,_=>D
 |_=>D
theorem y0 {P:Program} {H:Tr Ah} {X:Operand->Option AV} {op:Op} {K:AV->Prop} {D:Prop} (h:WQ P X op K D):D\/∃v,G4 P H X op=some v/\K v:=by
 unfold WQ at h;split at h
 ·rename_i t x i;split at h
  ·rename_i id off n cap k z L hi;cases hb:Nat.ble n 8 with
   |false=>rw[hb]at h;exact .inl h
   |true=>
    rw[hb,cond_true]at h;obtain⟨d,hd,r⟩:=BV h;split at r
    ·rename_i e;obtain⟨de,B,S⟩:=BV r;obtain⟨j,R,rfl,J⟩:=Afw S;rw[Bv]at J;refine .inr ⟨_,?_,J⟩;have y:Nat.blt j n=true:=by rw[CE];exact R
     show(ob (X x) λa=>ob (X i) λb=>Ul P t a b)=_;rw[L,hi];show Ul P t (.sl id off n cap) (.int k (.ofNat j))=_;simp only[Ul,hd,B,ob,gd,y,cond_true,Bv]
    ·exact .inl r
  ·exact .inl h
 ·exact .inl h
def cK (P:Program) (X:Operand->Option AV) (H:Tr Ah) (ni nx nx':Nat) (op:Op) (K:KC) (C:K5->Prop):Prop:=Option.rec (motive:=λ_=>Prop) (WQ P X op (λv=>K (.mk v H nx)) (Option.rec (motive:=λ_=>Prop) (Option.rec (motive:=λ_=>Prop) (Option.rec (motive:=λ_=>Prop) (Option.rec (motive:=λ_=>Prop) (Option.rec (motive:=λ_=>Prop) (cJ P X H nx op K (oJ X op C)) K (Gk P OG X H ni nx' op)) (λr=>Ap r.1 (K (.mk r.2.1 r.2.2 nx'))) (JA P X H ni op)) (λp=>K (.mk p.1 (H.set ni p.2) nx')) (Ic P X ni op)) (λr=>Ap r.1 (K (.mk r.2.1 (H.set ni r.2.2) nx'))) (I2 P X ni op)) (λv=>K (.mk v H nx)) (G4 P H X op))) (λr=>Ap r.1 (K (.mk r.2 H nx))) (HC P H X op)
def L5 (N:Nat) (T:Tr AV) (dst:Option Tmp) (v:AV) (K:Tr AV->Prop):Prop:=
 match dst with
 |none=>K T
 |some d=>Ap (Nat.blt d N) (K (T.set d v))
def F3 (o:Oper) (s:St) (K:KX) (x:St->Prop) (r:CR):Prop:=
 match r with
 |.mk v H nx=>L5 s.N s.T o.dst v λT=>x ⟨s.N,T,H,nx,s.ro,s.D⟩
 |.AG v H nx=>K (.AG v) ⟨s.N,s.T,H,nx,s.ro,s.D⟩
 |.Cf g args H nx=>match s.ro with
  |none=>L5 s.N s.T o.dst (.AM []) λT=>x ⟨s.N,T,H,nx,s.ro,.call g args::s.D⟩
  |some _=>False
def dJ (fz:List FZ) (id:Nat):Option FZ:=List.rec (motive:=λ_=>Option FZ) none (λz _ r=>cond (Nat.beq z.id id) (some z) r) fz
def RF (fz:List FZ) (a:AV):Bool×AV:=
 match a with
 |.AR id n e=>Option.rec (motive:=λ_=>Bool×AV) (true,.AR id n e) (λz=>(cond (Nat.beq e z.Ax) (Nat.beq n z.n) false,z.a)) (dJ fz id)
 |a=>(true,a)
def dK (fz:List FZ) (a:Option AV):Bool×Option AV:=Option.rec (motive:=λ_=>Bool×Option AV) (true,none) (λa=>((RF fz a).1,some (RF fz a).2)) a
def Us (fz:List FZ) (T:Tr AV):Bool×Tr AV:=Tr.rec (motive:=λ_=>Bool×Tr AV) (true,.leaf) (λv _ _ il ir=>(cond (dK fz v).1 (cond il.1 ir.1 false) false,.node (dK fz v).2 il.2 ir.2)) T
def IB (fz:List FZ) (T:Tr AV):Bool×Tr AV:=
 match fz with
 | []=>(true,T)
 |fz=>Us fz T
def AdG:FuncId:=1000000
def cN (E:Fq) (id:Nat) (args:Al) (H:Tr Ah) (nx:Nat) (K:KC):Prop:=Bp (H.get id) λo=>match o with
  |.loop _ _ T N B y body _=>Bp (iE B.toList args N T) λT'=>E.code nx AdG y ⟨N,T',H,nx,some id,[]⟩ λx s=>match x with
   |.Bh=>Bp (Mg s.H id λst Cq=>match st with
     |.ready=>some (.busy,Cq)
     |_=>none) λH1=>E.code nx AdG body ⟨s.N,s.T,H1,s.nx,s.ro,s.D⟩ λr z=>Ap r.calm (Bp (Mg z.H id λ_ _=>some (cond r.jump.isNone .ready .done,r.jump)) λJ=>K (.mk (.bool r.jump.isNone) J z.nx))
   |_=>False
  |_=>False
def o7 (E:Fq) (f:Operand) (z:Array Tmp) (y body:Code) (s:St) (K:KX):Prop:=Bp (BR s.T f) λB=>match s.ro with
  |none=>fN (s.nx+1) λl=>fN (l+1) λnx=>Bp (Ie B [.Cv l]) λt=>match t with
   |.fn g args=>E.call g args ((s.H.set s.nx (.Cf true)).set l (.loop .ready none s.T s.N z y body s.nx)) nx λr=>match r with
    |.mk _ H nx'=>Bp (H.get l) λo=>match o with
     |.loop st Cq _ _ _ _ _ _=>Bp (Xr Cq) λx=>Bp (Mg H l λ_ _=>match st with
       |.busy=>none
       |_=>some (.exhausted,Cq)) λH'=>K x ⟨s.N,s.T,H',nx',s.ro,.mark s.nx::s.D⟩
     |_=>False
    |_=>False
   |_=>False
  |some _=>False
def rfC (c:Code):Option (Array Tmp×Code×Code):=Code.rec (motive:=λ_=>Option (Array Tmp×Code×Code)) none (λ_ _ _=>none) (λ_ _ y x=>Option.rec (motive:=λ_=>Option (Array Tmp×Code×Code)) x some y) (λ_ _ _ y x=>Option.rec (motive:=λ_=>Option (Array Tmp×Code×Code)) x some y) (λ_ _ r=>r) (λ_ r=>r) (λ_ z a b _ _=>some (z,a,b)) (λ_=>none) (λ_ r=>r) (λ_=>none) (λ_=>none) none (λ_=>none) c
def vd (P:Program) (f:FuncId):Option (Array Tmp×Code×Code):=(P.funcs[f]?).bind λfn=>fn.body.bind rfC
def rfP (P:Program) (f:FuncId):Array Tmp:=Option.rec (motive:=λ_=>Array Tmp) #[] (λr=>r.1) (vd P f)
def rfA (P:Program) (f:FuncId):Code:=Option.rec (motive:=λ_=>Code) .skip (λr=>r.2.1) (vd P f)
def rfB (P:Program) (f:FuncId):Code:=Option.rec (motive:=λ_=>Code) .skip (λr=>r.2.2) (vd P f)
def o9 (y:Ctx) (E:Fq) (o:Oper) (s:St) (nx':Nat) (K:KX) (x:St->Prop) (t:K5):Prop:=
 match t with
 |.Cv id args=>cN E id args s.H nx' (F3 o s K x)
 |.fn g args=>Option.rec (motive:=λ_=>Prop) (Option.rec (motive:=λ_=>Prop) (E.call g args s.H nx' (F3 o s K x))
  (λAN=>Bp (PQ y.P s.H args) λr=>Ap r.1 (Bp (AN s.H r.2.1) λct=>(λq:Bool×Tr AV=>Ap q.1 (PA ct (λv=>F3 o ⟨s.N,q.2,Dz s.H r.2.2.2,nx',s.ro,s.D⟩ K x (.mk v (Dz s.H r.2.2.2) (nx'+1))) (λv=>F3 o ⟨s.N,q.2,Dz s.H r.2.2.2,nx',s.ro,s.D⟩ K x (.AG v (Dz s.H r.2.2.2) (nx'+1))))) (IB r.2.2.1 s.T))) (look y.tb g))
  (λAN=>Bp (AN s.H nx' args) λhc=>PB hc (λv up nx=>F3 o ⟨s.N,s.T,s.H,nx',s.ro,s.D⟩ K x (.mk v (Fm up s.H) nx)) (λv up nx=>F3 o ⟨s.N,s.T,s.H,nx',s.ro,s.D⟩ K x (.AG v (Fm up s.H) nx))) (Lf y.ht g)
def y8 (B:Ctx) (E:Fq) (o:Oper) (s:St) (nx':Nat) (K:KX) (z:St->Prop) (t:K5):Prop:=
 match t with
 |.Cv id args=>cN E id args s.H nx' (F3 o s K z)
 |.fn g args=>Option.rec (motive:=λ_=>Prop) (Option.rec (motive:=λ_=>Prop) (o9 B E o s nx' K z (.fn g args))
  (λAN=>Bp (PQ B.P s.H args) λr=>Ap r.1 (Bp (AN s.H r.2.1) λy=>(λq:Bool×Tr AV=>Ap q.1 (y.pre/\∀x,y.Q x->F3 o ⟨s.N,q.2,Dz s.H r.2.2.2,nx',s.ro,s.D⟩ K z (.mk (y.v x) (Dz s.H r.2.2.2) (nx'+1)))) (IB r.2.2.1 s.T))) (UJ B.rt g))
  (λAN=>Bp (AN s.H nx' args) λy=>y.pre/\∀x,y.Q x->F3 o ⟨s.N,s.T,s.H,nx',s.ro,s.D⟩ K z (.mk (y.v x) (Fm (y.up x) s.H) y.nx)) (dz B.rh g)
def FM (x:Ctx) (E:Fq) (ops:Array Oper) (K:KX) (l:List Oper):St->Prop:=List.rec (motive:=λ_=>St->Prop) (λs=>K .Bh s) (λo _ r s=>Rt ops s.T o λT y=>cond y (fN (s.nx+1) λnx'=>cK x.P (BR T) s.H s.nx s.nx nx' o.op (F3 o ⟨s.N,T,s.H,s.nx,s.ro,s.D⟩ K r) (y8 x E o ⟨s.N,T,s.H,s.nx,s.ro,s.D⟩ nx' K r)) (L5 s.N T o.dst (.AM []) λT=>r ⟨s.N,T,s.H,s.nx,s.ro,s.D⟩)) l
def TT (T:Tr AV) (c:Operand) (A B:Tr AV->Prop):Prop:=
 match c with
 |.tmp d=>Bp (T.get d) λv=>match v with
  |.bool b=>Ag b (A (T.set d (.bool true))) (B (T.set d (.bool false)))
  |_=>False
 |.const (.bool b)=>Ag b (A T) (B T)
 |_=>False
def La (c:Code):Option Nat:=Code.rec (motive:=λ_=>Option Nat) none (λid _ _=>some id) (λ_ _ y x=>Option.rec (motive:=λ_=>Option Nat) x some y) (λ_ _ _ _ _=>none) (λ_ _ r=>r) (λ_ r=>r) (λ_ _ _ _ _ _=>none) (λ_=>none) (λ_ r=>r) (λ_=>none) (λ_=>none) none (λ_=>none) c
def wO (S:B0) (s:St) (n0:Nat) (x:S.X):St:=⟨s.N,UO (S.T s n0 x),BU (S.H s n0 x),S.nx s n0,none,[]⟩
def Ig (s:St) (l:List Nat):List (Nat×AV):=List.rec (motive:=λ_=>List (Nat×AV)) [] (λt _ r=>Option.rec (motive:=λ_=>List (Nat×AV)) r (λv=>(t,v)::r) (s.T.get t)) l
def dp (s:St) (n0:Nat):List (Nat×Ah):=List.rec (motive:=λ_=>List (Nat×Ah)) [] (λt _ r=>Option.rec (motive:=λ_=>List (Nat×Ah)) r (λv=>(t,v)::r) (s.H.get t)) (List.range s.nx)
def thin (X:Type) (ks:List Nat) (T:X->List (Nat×AV)) (I:St->X->Prop) (m:X->Nat):B0:=⟨X,λs _ x=>T x++Ig s ks,λs n0 _=>dp s n0,λs _=>s.nx,I,m⟩
def oN (E:Fq) (S:B0) (n0:Nat) (f:FuncId) (a b:Code) (s:St) (K:KX):Prop:=(E.code n0 f a s λax s'=>match ax with
  |.Bh=>∃x:S.X,S.I s x/\S7 n0 s.N (S.nx s n0) (S.T s n0 x) (S.H s n0 x) s'
  |ax=>K ax s')/\
 ∀x:S.X,S.I s x->E.code n0 f b (wO S s n0 x) K
def Rr (P:Program) (y:List Nat) (K:St->Prop) (s:St):Prop:=List.rec (motive:=λ_=>St->Prop) K (λd _ x s=>Bp (s.T.get d) λv=>Bp (Lb P s.H v) λr=>Ap r.1 ((λq:Bool×Tr AV=>Ap q.1 (x ⟨s.N,q.2.set d r.2.1,Dz s.H r.2.2.2,s.nx,s.ro,s.D⟩)) (IB r.2.2.1 s.T))) y s
def PC (P:Program) (z:List Nat) (E:Fq) (S:B0) (n0:Nat) (f:FuncId) (c:Code) (s:St) (K:KX):Prop:=(∃y:S.X,S.I s y/\S7 n0 s.N (S.nx s n0) (S.T s n0 y) (S.H s n0 y) s)/\ ∀x:S.X,S.I s x->E.code n0 f c (wO S s n0 x) λax s'=>match ax with
  |.Bh=>Rr P z (λs'=>∃r:S.X,S.I s r/\S.m r<S.m x/\S7 n0 s.N (S.nx s n0) (S.T s n0 r) (S.H s n0 r) s') s'
  |ax=>K ax s'
def Ov (x:Ctx) (f:FuncId) (c:Code):List Nat:=Option.rec (motive:=λ_=>List Nat) [] (λr=>x.fl f r) (La c)
def yT (x:Ctx) (E:Fq) (D:Array Oper->St->KX->Prop) (n0:Nat) (f:FuncId) (c:Code) (s:St) (K:KX):Prop:=
 match c with
 |.skip=>K .Bh s
 |.region id ops false=>Rr x.P (x.fr f id) (λs=>FM x E ops K ops.toList s) s
 |.region id ops true=>Rr x.P (x.fr f id) (λs=>D ops s K) s
 |.seq a b=>Option.rec (motive:=λ_=>Prop) (E.code n0 f a s λax s'=>match ax with
   |.Bh=>E.code n0 f b s' K
   |ax=>K ax s') (λS=>oN E S n0 f a b s K) (Option.rec (motive:=λ_=>Option B0) none (λr=>x.cut f r) (La b))
 |.cond c a b=>TT s.T c (λT=>E.code n0 f a ⟨s.N,T,s.H,s.nx,s.ro,s.D⟩ K) (λT=>E.code n0 f b ⟨s.N,T,s.H,s.nx,s.ro,s.D⟩ K)
 |.block id c=>E.code n0 f c s λax s'=>match ax with
   |.exit y=>cond (Nat.beq y id) (K .Bh s') (K (.exit y) s')
   |ax=>K ax s'
 |.loop c=>Option.rec (motive:=λ_=>Prop) (E.code n0 f c s λax s'=>match ax with
   |.Bh=>E.code n0 f (.loop c) s' K
   |ax=>K ax s') (λS=>cond (Option.rec (motive:=λ_=>Bool) false (λr=>x.pl f r s) (La c)) (E.code n0 f c s λax s'=>match ax with
   |.Bh=>PC x.P (Ov x f c) E S n0 f c s' K
   |ax=>K ax s') (PC x.P (Ov x f c) E S n0 f c s K)) (Option.rec (motive:=λ_=>Option B0) none (λr=>x.lp f r) (La c))
 |.exit id=>K (.exit id) s
 |.label _=>K .Bh s
 |.goto l=>K (.goto l) s
 |.ret=>K .ret s
 |.scope c=>E.code n0 f c s λax s'=>match ax with
   |.goto _=>False
   |ax=>K ax s'
 |.rangeFunc g B z body=>o7 E g B z body s K
 |_=>False
abbrev KD:=AX->St->MD->Prop
def y6 (s:St) (dst:Option Tmp) (m:MD) (K:KD):Prop:=
 match m with
 |.AG v=>Bp (Fa s.N s.T dst v) λT=>K .Bh ⟨s.N,T,s.H,s.nx,s.ro,s.D⟩ (.Gd v)
 |.ret=>Bp (Fa s.N s.T dst .DU) λT=>K .Bh ⟨s.N,T,s.H,s.nx,s.ro,s.D⟩ .ret
 |.Gd v=>Bp (Fa s.N s.T dst .DU) λT=>K .Bh ⟨s.N,T,s.H,s.nx,s.ro,s.D⟩ (.Gd v)
def Rq (E:Fq) (n0:Nat) (f:FuncId) (k:Nat):Code->St->MD->KD->Prop:=Nat.rec (motive:=λ_=>Code->St->MD->KD->Prop) (λ_ _ _ _=>False) (λ_ y c s m K=>match c with
  |.seq a b=>y a s m λx s' r=>match x with
   |.Bh=>y b s' r K
   |x=>K x s' r
  |.cond c a b=>TT s.T c (λT=>y a ⟨s.N,T,s.H,s.nx,s.ro,s.D⟩ m K) (λT=>y b ⟨s.N,T,s.H,s.nx,s.ro,s.D⟩ m K)
  |.block id c=>y c s m λx s' r=>match x with
   |.exit z=>cond (Nat.beq z id) (K .Bh s' r) (K (.exit z) s' r)
   |x=>K x s' r
  |.region id ops false=>Option.rec (motive:=λ_=>Prop) (E.code n0 f (.region id ops false) s λx s'=>K x s' m) (λdst=>y6 s dst m K) (O9 ops.toList)
  |c=>E.code n0 f c s λx s'=>K x s' m) k
def oP (P:Program) (E:Fq) (g:FuncId) (args:Al) (H:Tr Ah) (nx:Nat) (m:MD) (K:MD->Tr Ah->Nat->Prop):Prop:=
 Bp (P.funcs[g]?) fun fn => Ap (!(fn.name == "runtime.NumGoroutine")) (Bp fn.body fun c =>
  fN args.length λn=>fN (n+(fn.ntmps-n)) λN=>Rq E nx g 60 c ⟨N,setArgs args .leaf 0,H,nx,none,[]⟩ m λx s m'=>cond (match x with
   |.Bh=>true
   |.ret=>true
   |_=>false) (Ap s.D.isEmpty (Bp (Na P s.H s.T fn.results.toList) λ_=>K m'.settle s.H s.nx)) False)
def cI (P:Program) (E:Fq) (l:List Od):MD->Tr Ah->Nat->(MD->Tr Ah->Nat->Prop)->Prop:=List.rec (motive:=λ_=>MD->Tr Ah->Nat->(MD->Tr Ah->Nat->Prop)->Prop) (λm H nx K=>K m H nx) (λd _ r m H nx K=>match d with
   |.mark id=>Bp (H.get id) λo=>match o with
    |.Cf true=>r m (H.set id (.Cf false)) nx K
    |_=>False
   |.call g args=>oP P E g args H nx m λm H nx=>r m H nx K) l
def cF (P:Program) (E:Fq) (fn:Func) (K:KC) (m:MD) (s:St):Prop:=cI P E s.D m s.H s.nx λm H nx=>match m with
  |.ret=>Bp (Na P H s.T fn.results.toList) λv=>K (.mk v H nx)
  |.AG v=>K (.AG v H nx)
  |.Gd _=>False
def y5 (P:Program) (E:Fq) (fn:Func) (K:KC) (ax:AX) (s:St):Prop:=
 match s.D with
 | []=>match ax with
  |.Bh=>Bp (Na P s.H s.T fn.results.toList) λv=>K (.mk v s.H s.nx)
  |.ret=>Bp (Na P s.H s.T fn.results.toList) λv=>K (.mk v s.H s.nx)
  |.AG v=>K (.AG v s.H s.nx)
  |_=>False
 |_=>match ax with
  |.Bh=>cF P E fn K .ret s
  |.ret=>cF P E fn K .ret s
  |.AG v=>cF P E fn K (.AG v) s
  |_=>False
def yZ (cx:Ctx) (E:Fq) (g:FuncId) (args:Al) (H:Tr Ah) (nx:Nat) (K:KC):Prop:=
 Bp (cx.P.funcs[g]?) fun fn => Ap (!(fn.name == "runtime.NumGoroutine")) (Bp fn.body fun c =>
  fN args.length λn=>fN (n+(fn.ntmps-n)) λN=>E.code nx g c ⟨N,setArgs args .leaf 0,H,nx,none,[]⟩ (y5 cx.P E fn K))
def oV (r:Ctx) (D:Array Oper->St->KX->Prop) (n:Nat):Fq:=Nat.rec (motive:=λ_=>Fq) ⟨λ_ _ _ _ _=>False,λ_ _ _ _ _=>False⟩ (λ_ E=>⟨yT r E D,yZ r E⟩) n
end Go.Ev
end
section
namespace Go.Ev
def jC (E:Env) (F:Nat->Option Obj) (nx:Nat) (ρ:Ak) (K:KC) (e:Ending) (w':World):Prop:=∃r,K r/\LR E F nx ρ r e w'
def LQ (P:Program) (call:FuncId->Al->Tr Ah->Nat->KC->Prop):Prop:=∀g args H nx K,call g args H nx K->∀E F ρ w,Rel E F nx ρ H.get w->Kl P (.fn g args) w ρ (jC E F nx ρ K)
def AfI (E:Env) (H:Tr Ah):Prop:=∀g l,H.get g=some (.Nd l)->∃cs e fz,E.base g=some (.cells cs e fz)/\∀r,AL r l cs.toList
def BC (P:Program) (g:FuncId) (AN:Tr Ah->Al->Option Ct):Prop:=∀H args ct,AN H args=some ct->∀p v,G2 ct=some (p,v)->∀E F ρ w nx H',AfI E H->Rel E F nx ρ H'.get w->Kl P (.fn g args) w ρ (LR E F nx ρ (Hy p v H' (nx+1)))
def EU (P:Program) (tb:DQ):Prop:=∀g AN,look tb g=some AN->BC P g AN
theorem Aj1 (P:Program):GX P OG:=λ_ _ _ _ h=>by cases h
theorem yb {P:Program} {tb:DQ} {ht:CZ} (h:EU P tb) (R:Es P ht):GX P (Ko tb ht):=by
 intro t H nx r y E F ρ w rel;cases t with
 |Cv _ _=>cases y
 |fn g args=>
  have x:Option.rec (motive:=λ_=>Option CR) (ob (look tb g) λAN=>ob (AN H args) λct=>ob (G2 ct) λo=>some (Hy o.1 o.2 H (nx+1))) (λAN=>ob (AN H nx args) λhc=>ob (hOut hc) λo=>some (Hy o.1 o.2.1 (Fm o.2.2.1 H) o.2.2.2)) (Lf ht g)=some r:=y;clear y;cases hl:Lf ht g with
  |some AN=>rw[hl]at x;obtain⟨hc,K,J⟩:=Ai.1 x;obtain⟨⟨p,v,up,n⟩,z,B⟩:=Ai.1 J;injection B with B;subst B;exact R g AN hl H nx args hc K p v up n z E F ρ w rel
  |none=>
  rw[hl]at x;have y:=x;obtain⟨AN,he,K⟩:=Ai.1 y;obtain⟨ct,hc,J⟩:=Ai.1 K;obtain⟨⟨p,v⟩,L,z⟩:=Ai.1 J;injection z with z;subst z;exact h g AN he H args ct hc p v L E F ρ w nx H rel.gl rel
theorem yY {ρ:Ak} {kd:TypeDesc} {k:Cn} {z:AV} {u y:Value} {K:Bool->AV->Prop} (J:KR kd k u) (hz:VR ρ z y):∀ {x:List Di} {l:List MapEntry},D3 ρ x l->∀(i:Nat),oW kd k z K x->∃r val v,K r val/\VR ρ val v/\(if r then∃j,Instr.findNow kd u l i=some (some (j,v))else Instr.findNow kd u l i=some none/\v=y)
 |_,_,.nil,i,h=>⟨false,z,y,h,hz,by simp[Instr.findNow]⟩
 |_,_,.cons e m x l L R,i,h=>by
  obtain⟨s,B,h1⟩:=BV (show Bp (PZ kd e.key) (λs=>Bp (W7 k s) λq=>Ag q (K true e.val) (oW kd k z K x))from h);obtain⟨q,S,h2⟩:=BV h1;obtain⟨Z,Y⟩:=GC.1 h2;have hn:=zz J (dq L.1 B) S;cases q with
  |true=>exact⟨true,e.val,m.val,Z rfl,L.2.1,by simp[Instr.findNow,hn]⟩
  |false=>obtain⟨r,val,v,W,V,U⟩:=yY J hz R (i+1) (Y rfl);exact⟨r,val,v,W,V,by simpa[Instr.findNow,hn]using U⟩
theorem AgQ {P:Program} {X:Operand->Option AV} {H:Tr Ah} {nx:Nat} {op:Op} {K:KC} {D:Prop} (h:cJ P X H nx op K D):D\/∃t m k ok,op=.lookup t m k ok/\ ∀(E:Env) (F:Nat->Option Obj) (n:Nat) (ρ:Ak) (w:World) (J:Operand->Value),Rel E F n ρ H.get w->XR ρ X J->∃a z,K (.mk a H nx)/\(Instr.lookup t (J m) (J k) ok).run P w=.ok z w/\VR ρ a z:=by
 unfold cJ at h;split at h
 ·rename_i t m k ok;refine .inr ⟨t,m,k,ok,rfl,λE F n ρ w J r hX=>?_⟩;obtain⟨ma,ab,h1⟩:=BV h;obtain⟨ka,af,h2⟩:=BV h1;obtain⟨d,hd,W⟩:=BV h2;have hm:=hX _ _ ab;have hk:=hX _ _ af;generalize J m=u at hm;generalize J k=v at hk;clear h h1 h2;split at W
  ·rename_i key ah;obtain⟨kd,x,h4⟩:=BV W;obtain⟨ae,h5⟩:=EE.1 h4;obtain⟨s,Z,h6⟩:=BV h5;obtain⟨z,hz,V⟩:=BV h6;have ad:=dq hk Z;obtain⟨zv,L,Y⟩:=Pm hz w;have y:=λe=>cU (P:=P) x ae e 9999 v w;split at V
   ·obtain⟨o,ho,U⟩:=BV V;split at U
    ·rename_i es ag;cases hm with
     |map _ b hb=>
      obtain⟨c,hc,aa⟩:=r.ob _ _ b ho hb;cases aa with
      |map _ _ l hl=>
       obtain⟨R,val,q,h9,S,B⟩:=yY ad (Y ρ) hl 0 U;refine⟨_,?_,h9,?_⟩
       ·exact cond ok (.tuple #[q,.bool R]) q
       ·cases R with
        |true=>
         obtain⟨j,B⟩:=B;cases ok with
         |true=>refine⟨?_,.AM _ [q,.bool true] (.cons _ _ _ _ S (.cons _ _ _ _ (.bool true) .nil))⟩;simp[Instr.lookup,run_underlying hd,y,Instr.findKey,run_underlying x,B,getObj,Sem.run,hc]
         |false=>refine⟨?_,S⟩;simp[Instr.lookup,run_underlying hd,y,Instr.findKey,run_underlying x,B,getObj,Sem.run,hc]
        |false=>
         obtain⟨B,rfl⟩:=B;cases ok with
         |true=>refine⟨?_,.AM _ [q,.bool false] (.cons _ _ _ _ S (.cons _ _ _ _ (.bool false) .nil))⟩;simp[Instr.lookup,run_underlying hd,y,Instr.findKey,run_underlying x,B,getObj,Sem.run,hc,L]
         |false=>refine⟨?_,S⟩;simp[Instr.lookup,run_underlying hd,y,Instr.findKey,run_underlying x,B,getObj,Sem.run,hc,L]
    ·exact U.elim
   ·exact V.elim
  ·exact W.elim
 ·exact .inl h
theorem AgR {P:Program} {X:Operand->Option AV} {H:Tr Ah} {ni nx nx':Nat} {op:Op} {K:KC} {C:K5->Prop} (h:cK P X H ni nx nx' op K C): (∃r,Ks P OG X H ni nx nx' op=some r/\K r)\/cJ P X H nx op K (oJ X op C):=by
 unfold cK at h;cases L:HC P H X op with
 |some r=>rw[L]at h;obtain⟨z,y⟩:=EE.1 h;obtain⟨b,v⟩:=r;simp only at z;subst z;exact .inl ⟨_,by unfold Ks;rw[wA L],y⟩
 |none=>
 rw[L]at h;rcases y0 (H:=H) h with h|⟨v,hv,U⟩
 rotate_left
 ·exact .inl ⟨_,by unfold Ks;rw[XQ L hv],U⟩
 cases z:G4 P H X op with
 |some v=>rw[z]at h;exact .inl ⟨_,by unfold Ks;rw[XQ L z],h⟩
 |none=>
 rw[z]at h;have R:De P H X op=none:=by unfold De;rw[L];exact z
 cases y:I2 P X ni op with
 |some r=>rw[y]at h;obtain⟨x,J⟩:=EE.1 h;obtain⟨b,v,o⟩:=r;simp only at x;subst x;exact .inl ⟨_,by unfold Ks;rw[R,Ad8 y],J⟩
 |none=>
 rw[y]at h;cases x:Ic P X ni op with
 |some p=>rw[x]at h;exact .inl ⟨_,by unfold Ks;rw[R,AcJ y x],h⟩
 |none=>
 rw[x]at h;have S:Ew P X ni op=none:=by unfold Ew;rw[y];exact x
 cases J:JA P X H ni op with
 |some r=>rw[J]at h;obtain⟨B,V⟩:=EE.1 h;obtain⟨b,v,H'⟩:=r;simp only at B;subst B;exact .inl ⟨_,by unfold Ks;rw[R,S,Ad4 J],V⟩
 |none=>
 rw[J]at h;cases B:Gk P OG X H ni nx' op with
 |some r=>rw[B]at h;exact .inl ⟨_,by unfold Ks;rw[R,S,Xn J B],h⟩
 |none=>rw[B]at h;exact .inr h
theorem AgW {ops:Array Oper} {T:Tr AV} {o:Oper} {K:Tr AV->Bool->Prop} (h:Rt ops T o K):∃T' J,K T' J/\Ex ops T o=some J/\∀t,T'.get t=T.get t:=by
 unfold Rt at h;unfold Ex;split at h
 ·rename_i y;rw[y];exact⟨T,true,h,rfl,λ_=>rfl⟩
 ·rename_i j L y;rw[y];obtain⟨Z,W,V⟩:=BV h;obtain⟨d,B,U⟩:=BV V;obtain⟨v,x,z⟩:=BV U;simp only[W];have r:∀b,v=.bool b->∀t,(T.set d (.bool b)).get t=T.get t:=λb hb t=>by
   rw[Tr.Gm];split
   ·rename_i e;subst e;rw[x,hb]
   ·rfl
  split at z
  ·rename_i b;obtain⟨S,R⟩:=GC.1 z;cases b with
   |true=>exact⟨_,_,S rfl,by simp[ob,B,x],r true rfl⟩
   |false=>exact⟨_,_,R rfl,by simp[ob,B,x],r false rfl⟩
  ·rename_i Y;refine⟨T,false,z,?_,λ_=>rfl⟩;simp only[ob,B,x]
theorem TY {N:Nat} {T:Tr AV} {dst:Option Tmp} {v:AV} {K:Tr AV->Prop} (h:L5 N T dst v K):∃T',Fa N T dst v=some T'/\K T':=by
 unfold L5 at h;split at h
 ·exact⟨T,rfl,h⟩
 ·obtain⟨x,r⟩:=EE.1 h;exact⟨_,by unfold Fa;exact AQ.2 ⟨x,rfl⟩,r⟩
theorem WS {P:Program} {ρ:Ak} {X:Operand->Option AV} {a:Act} {w:World} (hX:XR ρ X a.eval) {o:Oper} {c:Call} (ho:o.op=.call c) {f:Operand} (hc:c.callee=.value f) {fv:AV} (hf:X f=some fv) {xs:Al} (B:F0 X c.args.toList=some xs) {g:FuncId} {r:Al} (ht:Ie fv xs=some (.fn g r)) {R:Ending->World->Prop} (AA:Kl P (.fn g r) w ρ R) {ro:Option Nat} {next:Act->World->Prop} {Q:Exit->Act->World->Prop} (hR:∀e w',R e w'->match e with
   |.returned v=>next (a.put o.dst v) w'
   |.panicked chain=>Q (.panic chain) a w'
   |.outgrown=>LetsOut Q):o.wpIn (FW ro) 0 P a w next Q:=by
 obtain⟨dst,op,type,pos,after,guard⟩:=o;simp only at ho;subst ho;obtain⟨callee,args,argTypes⟩:=c;simp only at hc B;subst hc;have K:=hX _ _ hf;have J:=I6 hX B;rw[show args.toList.map a.eval=(args.map a.eval).toList by rw[Array.toList_map]]at J;refine⟨L1 ro P _ w a.eval,?_⟩;rw[Oper.semAt_eq _ _ _ (by simp)];unfold Ie at ht;split at ht
 ·rename_i g' first cap
  injection ht with ht;injection ht with U S;subst U;subst S;generalize Y:a.eval f=ab at K;cases K with
  |fn _ _ _ va vc ha hc=>
   obtain⟨⟨fn,c,W,V,aa⟩,y⟩:=AA;have Z:=y _ (ha.append (J.append hc));have L:(execOp a.eval {dst,op:=.call {callee:=.value f,args,argTypes},type,pos,after,guard}).run P w=.ok (.enter g' ((va++((args.map a.eval).toList++vc)).toArray)) w:=by simp only[execOp,resolve,Y,Deferred.ofValue,Sem.run_bind,Sem.run_pure,Result.andThen_ok,invoke,callFunc,run_program,W,V,Bool.false_eq_true,if_false,aa,Option.isNone_some];congr 2;apply Array.ext';simp
   rw[L];refine⟨by simp[FW,Fence.wide],?_⟩;have x:=CallsIn.mono Z (R':=λ
    |.returned v,z=>next (a.put dst v) z
    |.panicked chain,z=>Q (.panic chain) a z
    |.outgrown,_=>LetsOut Q) (λe w' he=>by have:=hR e w' he;cases e<;>exact this)
   cases ro with
   |none=>exact x
   |some l=>exact x
 ·injection ht with ht;cases ht
 ·cases ht
theorem Aik {ρ B:Ak} {w:World} {H:Tr Ah} {fz:List FZ} {x r:List Nat} (hz:V7 ρ w H fz x) (hi:Fv H r) (L:∀i∈x,i∈r) (U:B=Cx ρ w r) (J:ρ.le B) {a:AV} {v:Value} (hv:VR ρ a v) (h:(RF fz a).1=true):VR B (RF fz a).2 v:=by
 have find:∀(l:List FZ) id z,dJ l id=some z->z∈l/\z.id=id:=by
  intro l
  induction l with
  |nil=>intro id z h;cases h
  |cons y l V=>
   intro id z h;have h':cond (Nat.beq y.id id) (some y) (dJ l id)=some z:=h;cases hb:Nat.beq y.id id with
   |true=>rw[hb]at h';injection h' with h';subst h';rw[A0]at hb;exact⟨EG ..,hb⟩
   |false=>rw[hb]at h';obtain⟨S,R⟩:=V id z h';exact⟨EF _ S,R⟩
 unfold RF at h⊢;split at h
 ·rename_i id n e;cases K:dJ fz id with
  |none=>exact hv.mono J
  |some z=>rw[K]at h;have h:(cond (Nat.beq e z.Ax) (Nat.beq n z.n) false)=true:=h;obtain⟨S,R⟩:=BG h;rw[A0]at S R;obtain⟨h3,Z⟩:=find fz id z K;subst Z;subst S;subst R;obtain⟨Y,W⟩:=hz z h3;rw[U];exact W r hi (L _ Y) v hv
 ·exact hv.mono J
theorem sY {fz:List FZ}:∀(T:Tr AV),(Us fz T).1=true->∀(p:List Bool) (b:AV),Tr.gp p (Us fz T).2=some b->∃a,Tr.gp p T=some a/\(RF fz a).1=true/\(RF fz a).2=b
 |.leaf,_,p,b,h=>by rw[show(Us fz (.leaf:Tr AV)).2=.leaf from rfl,Tr.Uy]at h;cases h
 |.node v l r,h,p,b,y=>by
  have h':cond (dK fz v).1 (cond (Us fz l).1 (Us fz r).1 false) false=true:=h;obtain⟨J,z⟩:=BG h';obtain⟨z,B⟩:=BG z;cases p with
  |nil=>
   have x:(dK fz v).2=some b:=y;cases v with
   |none=>cases x
   |some a=>injection x with x;exact⟨a,rfl,J,x⟩
  |cons c p=>
   cases c with
   |true=>exact sY l z p b y
   |false=>exact sY r B p b y
theorem sX {ρ x:Ak} {w:World} {H:Tr Ah} {fz:List FZ} {r y:List Nat} (hz:V7 ρ w H fz r) (hi:Fv H y) (B:∀i∈r,i∈y) (J:x=Cx ρ w y) (z:ρ.le x) {T:Tr AV} {tmps:Array Value} (ht:TR ρ T tmps) (h:(IB fz T).1=true):TR x (IB fz T).2 tmps:=by
 unfold IB at h⊢;split at h
 ·exact ht.mono z
 ·intro t b hb;obtain⟨a,U,S,R⟩:=sY T h _ b hb;obtain⟨v,L,K⟩:=ht t a U;subst R;exact⟨v,L,Aik hz hi B J z K S⟩
theorem Aq3 {P:Program} {ρ:Ak} {X:Operand->Option AV} {a:Act} {w:World} (hX:XR ρ X a.eval) {o:Oper} {c:Call} (Z:o.op=.call c) {f:Operand} (hc:c.callee=.value f) {fv:AV} (hf:X f=some fv) {Y:Al} (B:F0 X c.args.toList=some Y) {id:Nat} {r:Al} (ht:Ie fv Y=some (.Cv id r)) {R:Ending->World->Prop} (AA:Kl P (.Cv id r) w ρ R) {ro:Option Nat} {next:Act->World->Prop} {Q:Exit->Act->World->Prop} (hR:∀e w',R e w'->match e with
   |.returned v=>next (a.put o.dst v) w'
   |.panicked chain=>Q (.panic chain) a w'
   |.outgrown=>LetsOut Q):o.wpIn (FW ro) 0 P a w next Q:=by
 obtain⟨dst,op,type,pos,after,guard⟩:=o;simp only at Z;subst Z;obtain⟨callee,args,argTypes⟩:=c;simp only at hc B;subst hc;have K:=hX _ _ hf;have J:=I6 hX B;rw[show args.toList.map a.eval=(args.map a.eval).toList by rw[Array.toList_map]]at J;refine⟨L1 ro P _ w a.eval,?_⟩;rw[Oper.semAt_eq _ _ _ (by simp)];unfold Ie at ht;split at ht
 ·cases ht
 ·rename_i aa;injection ht with ht;injection ht with U S;subst U;subst S;generalize V:a.eval f=ab at K;cases K with
  |Cv _ b hb=>
   obtain⟨fn,tmps,W,body,hy,y⟩:=AA _ b J hb;have L:(execOp a.eval {dst,op:=.call {callee:=.value f,args,argTypes},type,pos,after,guard}).run P w=.ok (.round b.b fn tmps W body) w:=by rw[Array.toArray_toList]at hy;simp only[execOp,resolve,V,Deferred.ofValue,Sem.run_bind,Sem.run_pure,Result.andThen_ok,invoke,Array.empty_append,hy]
   rw[L];refine⟨by simp[FW,Fence.wide],?_⟩;have x:=RoundIn.mono y (R':=λ
    |.returned v,z=>next (a.put dst v) z
    |.panicked chain,z=>Q (.panic chain) a z
    |.outgrown,_=>LetsOut Q) (λe w' he=>by have:=hR e w' he;cases e<;>exact this)
   cases ro with
   |none=>exact x
   |some l=>exact x
 ·cases ht
def xq (P:Program) (y:Nat->Al->Tr Ah->Nat->KC->Prop):Prop:=∀id args H nx K,y id args H nx K->∀E F ρ w,Rel E F nx ρ H.get w->Kl P (.Cv id args) w ρ (jC E F nx ρ K)
set_option maxHeartbeats 1000000 in
theorem y7 {L:Ctx} {Z:Fq} (aD:LQ L.P Z.call) (aK:xq L.P (cN Z)) (aT:EU L.P L.tb) {ops:Array Oper} {E:Env} {F:Nat->Option Obj} {ro:Option Nat} {Q:Exit->Act->World->Prop} {n0:Nat} {ρ0:Ak} {K:KX} (hq:∀x s' B a' w',K x s'->n0<=s'.nx->Dc n0 ρ0 B->SR E F B s' a' w' ro->JF B x λe=>Q e a' w'): ∀(l:List Oper) (i:Nat) (s:St) (ρ:Ak) (a:Act) (w:World),(∀j o,l[j]? =some o->ops[i+j]? =some o)->FM L Z ops K l s->n0<=s.nx->Dc n0 ρ0 ρ->SR E F ρ s a w ro-> LZ ro L.P ops Q (List.range' i l.length) a w
 | [],i,s,ρ,a,w,_,h,hn,hk,U=>Adg (hq .Bh s ρ a w h hn hk U)
 |o::l,i,s,ρ,a,w,hl,h,hn,hk,U=>by
  obtain⟨T,wd,h1,aY,a4⟩:=AgW (show Rt ops s.T o (λT wd=>cond wd (fN (s.nx+1) λnx'=>cK L.P (BR T) s.H s.nx s.nx nx' o.op (F3 o ⟨s.N,T,s.H,s.nx,s.ro,s.D⟩ K (FM L Z ops K l)) (y8 L Z o ⟨s.N,T,s.H,s.nx,s.ro,s.D⟩ nx' K (FM L Z ops K l))) (L5 s.N T o.dst (.AM []) λT=>FM L Z ops K l ⟨s.N,T,s.H,s.nx,s.ro,s.D⟩))from h);have hw:=AaE U.tr aY;have S:TR ρ T a.tmps:=λt b hb=>U.tr t b (by rw[<-a4];exact hb);have ho:ops[i]? =some o:=by have:=hl 0 o rfl;simpa using this
  have az:∀j o',l[j]? =some o'->ops[i+1+j]? =some o':=λj o' hj=>by have:=hl (j+1) o' (by simpa using hj);rwa[show i+(j+1)=i+1+j by omega]at this
  rw[show(o::l).length=l.length+1 from rfl,List.range'_succ];have ih:=y7 (ops:=ops) aD aK aT hq l (i+1);cases wd with
  |false=>rw[cond_false]at h1;obtain⟨T',a5,h3⟩:=TY h1;obtain⟨e1,e2,e3⟩:=IA (u:=undef) S U.size (.AM (ρ:=ρ) [] [] .nil) a5;exact Adh ho (by rw[hw];simp) (L1 ro _ o w a.eval) (ih _ ρ _ w az h3 hn hk ⟨U.rel,e1,e2,by rw[e3];exact U.dr,U.rr⟩)
  |true=>
   rw[cond_true,Bv]at h1;refine Adj ho hw ?_;have J:∀(T':Tr AV) (H':Tr Ah) (r:CR),F3 o ⟨s.N,T',H',s.nx+1,s.ro,s.D⟩ K (FM L Z ops K l) r->(∀g args H nx,r≠.Cf g args H nx)->∀av,TR av T' a.tmps->RX s.nx (s.nx+1) ρ av->
     match r with
     |.mk v H nx=>∀u B w',RX (s.nx+1) nx av B->Rel E F nx B H.get w'->VR B v u->LZ ro L.P ops Q (List.range' (i+1) l.length) (a.put o.dst u) w'
     |.AG v H nx=>∀u B w',RX (s.nx+1) nx av B->Rel E F nx B H.get w'->VR B v u->Q (.panic (fresh u)) a w'
     |.Cf _ _ _ _=>True:=by
    intro T' H' r hb a7 av ag W;cases r with
    |mk v H nx=>intro u B w' Y y hv;obtain⟨T2,aj,h3⟩:=TY (show L5 s.N T' o.dst v (λT=>FM L Z ops K l ⟨s.N,T,H,nx,s.ro,s.D⟩)from hb);obtain⟨e1,e2,e3⟩:=IA (ag.mono Y.le) U.size hv aj;have ad:=W.trans Y;have a6:=ad.nn;exact ih _ B _ w' az h3 (Ho hn ad.nn) (hk.trans (Dc.Nn ad hn)) ⟨y,e1,e2,by rw[e3];exact U.dr.mono ad.le,U.rr.mono ad.le⟩
    |AG v H nx=>intro u B w' Y y hv;have ad:=W.trans Y;exact hq (.AG v) ⟨s.N,T',H,nx,s.ro,s.D⟩ B a w' hb (Ho hn ad.nn) (hk.trans (Dc.Nn ad hn)) ⟨y,ag.mono Y.le,U.size,U.dr.mono ad.le,U.rr.mono ad.le⟩ u hv
    |Cf g args H nx=>trivial
   rcases AgR h1 with⟨r,hr,hb⟩|aZ
   ·refine Aav (Aj1 L.P) U.rel S.xr (U.rel.new _ (AH _)) (Nat.le_succ _) (Nat.lt_succ_self _) hr ?_;cases r with
    |mk v H nx=>obtain⟨T2,aj,h3⟩:=TY (show L5 s.N T o.dst v (λT=>FM L Z ops K l ⟨s.N,T,H,nx,s.ro,s.D⟩)from hb);intro u B w' Y y hv;have ai:=Y.le;obtain⟨e1,e2,e3⟩:=IA (S.mono ai) U.size hv aj;exact ih _ B _ w' az h3 (Ho hn Y.nn) (hk.trans (Dc.Nn Y.rx hn)) ⟨y,e1,e2,by rw[e3];exact U.dr.mono ai,U.rr.mono ai⟩
    |AG v H nx=>intro u B w' Y y hv;have ai:=Y.le;exact hq (.AG v) ⟨s.N,T,H,nx,s.ro,s.D⟩ B a w' hb (Ho hn Y.nn) (hk.trans (Dc.Nn Y.rx hn)) ⟨y,S.mono ai,U.size,U.dr.mono ai,U.rr.mono ai⟩ u hv
    |Cf g args H nx=>
     have aF:(match s.ro with
      |none=>L5 s.N T o.dst (.AM []) λT=>FM L Z ops K l ⟨s.N,T,H,nx,s.ro,.call g args::s.D⟩
      |some _=>False):=hb
     cases aE:s.ro with
     |some l0=>rw[aE]at aF;exact aF.elim
     |none=>
      rw[aE]at aF;obtain⟨T2,aj,h4⟩:=TY aF;have aU:=U.rr;have aX:ro=none:=by rw[aE]at aU;cases aU;rfl
      refine⟨aX,λva vc Y y hv=>?_⟩;obtain⟨e1,e2,e3⟩:=IA (u:=undef) (a:={a with defers:={target:=.fn (.func g) vc.toArray,args:=va.toArray}::a.defers}) S U.size (.AM (ρ:=ρ) [] [] .nil) aj;exact ih _ ρ _ w az h4 (Ho hn Y.nn) (hk.trans (Dc.Nn Y hn)) ⟨y,e1,e2,by rw[e3];exact .call g args va vc _ _ hv U.dr,by rw[<-aE];exact U.rr⟩
   ·refine(AgQ aZ).elim (λar=>?_) (λ⟨t,m,k,ok,ae,ay⟩=>?_)
    rotate_left
    ·obtain⟨v,z,hb,aW,hv⟩:=ay E F s.nx ρ w a.eval U.rel S.xr;obtain⟨T2,aj,h3⟩:=TY (show L5 s.N T o.dst v (λT=>FM L Z ops K l ⟨s.N,T,s.H,s.nx,s.ro,s.D⟩)from hb);obtain⟨e1,e2,e3⟩:=IA S U.size hv aj;refine FX (by rw[ae];simp) (.inl ?_) (ih _ ρ _ w az h3 hn hk ⟨U.rel,e1,e2,by rw[e3];exact U.dr,U.rr⟩);obtain⟨dst,op,type,pos,after,guard⟩:=o;simp only at ae;subst ae;exact C1 aW
    unfold oJ at ar;split at ar
    ·rename_i c ae;split at ar
     ·rename_i f au;obtain⟨fv,aq,h2⟩:=BV ar;obtain⟨xs,ao,h3⟩:=BV h2;obtain⟨t,ht,h4⟩:=BV h3;cases t with
      |Cv id args=>
       have AA:=aK id args s.H (s.nx+1) _ h4 E F ρ w (U.rel.EZ (Nat.le_succ _));have W:RX s.nx (s.nx+1) ρ ρ:=⟨Ak.le_refl ρ,λ_ _=>rfl,Nat.le_succ _⟩;refine Aq3 S.xr ae au aq ao ht AA λe w' he=>?_;obtain⟨r,aw,ah⟩:=he;cases r with
       |mk v H nx=>obtain⟨u,B,rfl,Y,y,hv⟩:=ah;exact J T s.H (.mk v H nx) aw (λ_ _ _ _ h=>by cases h) ρ S W u B w' Y y hv
       |AG v H nx=>obtain⟨u,B,rfl,Y,y,hv⟩:=ah;exact J T s.H (.AG v H nx) aw (λ_ _ _ _ h=>by cases h) ρ S W u B w' Y y hv
       |Cf g args H nx=>exact ah.elim
      |fn g args=>
       have aI:(Option.rec (motive:=λ_=>Prop) (Option.rec (motive:=λ_=>Prop) (o9 L Z o ⟨s.N,T,s.H,s.nx,s.ro,s.D⟩ (s.nx+1) K (FM L Z ops K l) (.fn g args)) (λAN=>Bp (PQ L.P s.H args) λr=>Ap r.1 (Bp (AN s.H r.2.1) λrc=>(λq:Bool×Tr AV=>Ap q.1 (rc.pre/\∀x,rc.Q x->F3 o ⟨s.N,q.2,Dz s.H r.2.2.2,s.nx+1,s.ro,s.D⟩ K (FM L Z ops K l) (.mk (rc.v x) (Dz s.H r.2.2.2) (s.nx+1+1)))) (IB r.2.2.1 T))) (UJ L.rt g)) (λAN=>Bp (AN s.H (s.nx+1) args) λrc=>rc.pre/\∀x,rc.Q x->F3 o ⟨s.N,T,s.H,s.nx+1,s.ro,s.D⟩ K (FM L Z ops K l) (.mk (rc.v x) (Fm (rc.up x) s.H) rc.nx)) (dz L.rh g)):=h4;cases aM:dz L.rh g with
       |some AN=>rw[aM]at aI;obtain⟨rc,aN,aA,h5⟩:=BV aI;have AA:=L.AlZ g AN aM s.H (s.nx+1) args rc aN aA E F ρ w (U.rel.EZ (Nat.le_succ _));have W:RX s.nx (s.nx+1) ρ ρ:=⟨Ak.le_refl ρ,λ_ _=>rfl,Nat.le_succ _⟩;refine WS S.xr ae au aq ao ht AA λe w' he=>?_;obtain⟨r,⟨x,aO,rfl⟩,he⟩:=he;obtain⟨u,B,rfl,Y,y,hv⟩:=he;exact J T s.H (.mk (rc.v x) (Fm (rc.up x) s.H) rc.nx) (h5 x aO) (λ_ _ _ _ h=>by cases h) ρ S W u B w' Y y hv
       |none=>
       rw[aM]at aI;have aH:(Option.rec (motive:=λ_=>Prop) (o9 L Z o ⟨s.N,T,s.H,s.nx,s.ro,s.D⟩ (s.nx+1) K (FM L Z ops K l) (.fn g args)) (λAN=>Bp (PQ L.P s.H args) λr=>Ap r.1 (Bp (AN s.H r.2.1) λrc=>(λq:Bool×Tr AV=>Ap q.1 (rc.pre/\∀x,rc.Q x->F3 o ⟨s.N,q.2,Dz s.H r.2.2.2,s.nx+1,s.ro,s.D⟩ K (FM L Z ops K l) (.mk (rc.v x) (Dz s.H r.2.2.2) (s.nx+1+1)))) (IB r.2.2.1 T))) (UJ L.rt g)):=aI;cases aL:UJ L.rt g with
       |some AN=>rw[aL]at aH;obtain⟨⟨sd,ab,fz,V⟩,aR,h5⟩:=BV aH;obtain⟨h6,h7⟩:=EE.1 h5;simp only at h6;subst h6;obtain⟨rc,aN,h8⟩:=BV h7;obtain⟨h9,aA,aS⟩:=EE.1 h8;obtain⟨aa,aQ,an⟩:=sW U.rel args ab fz V aR;obtain⟨af,ak⟩:=Ku U.rel aa;have W:RX s.nx (s.nx+1) ρ (Cx ρ w V):=⟨af.le,af.lo,Nat.le_succ _⟩;have ag:TR (Cx ρ w V) (IB fz T).2 a.tmps:=sX aQ aa (λ_ h=>h) rfl af.le S h9;have AA:=L.VL g AN aL s.H ab rc aN aA E F (Cx ρ w V) w (s.nx+1) (Dz s.H V) U.rel.gl (ak.EZ (Nat.le_succ _));have aC:=AA.2;refine WS S.xr ae au aq ao ht (R:=λe w'=>∃r:CR,(∃x,rc.Q x/\r=.mk (rc.v x) (Dz s.H V) (s.nx+1+1))/\LR E F (s.nx+1) (Cx ρ w V) r e w') ⟨AA.1,λvs Az=>aC vs (an V aa (λ_ h=>h) vs Az)⟩ λe w' he=>?_;obtain⟨r,⟨x,aO,rfl⟩,he⟩:=he;obtain⟨u,B,rfl,Y,y,hv⟩:=he;exact J _ _ (.mk (rc.v x) (Dz s.H V) (s.nx+1+1)) (aS x aO) (λ_ _ _ _ h=>by cases h) _ ag W u B w' Y y hv
       |none=>
       rw[aL]at aH;have aG:(Option.rec (motive:=λ_=>Prop) (Option.rec (motive:=λ_=>Prop) (Z.call g args s.H (s.nx+1) (F3 o ⟨s.N,T,s.H,s.nx,s.ro,s.D⟩ K (FM L Z ops K l))) (λAN=>Bp (PQ L.P s.H args) λr=>Ap r.1 (Bp (AN s.H r.2.1) λct=>(λq:Bool×Tr AV=>Ap q.1 (PA ct (λv=>F3 o ⟨s.N,q.2,Dz s.H r.2.2.2,s.nx+1,s.ro,s.D⟩ K (FM L Z ops K l) (.mk v (Dz s.H r.2.2.2) (s.nx+1+1))) (λv=>F3 o ⟨s.N,q.2,Dz s.H r.2.2.2,s.nx+1,s.ro,s.D⟩ K (FM L Z ops K l) (.AG v (Dz s.H r.2.2.2) (s.nx+1+1))))) (IB r.2.2.1 T))) (look L.tb g)) (λAN=>Bp (AN s.H (s.nx+1) args) λhc=>PB hc (λv up nx=>F3 o ⟨s.N,T,s.H,s.nx+1,s.ro,s.D⟩ K (FM L Z ops K l) (.mk v (Fm up s.H) nx)) (λv up nx=>F3 o ⟨s.N,T,s.H,s.nx+1,s.ro,s.D⟩ K (FM L Z ops K l) (.AG v (Fm up s.H) nx))) (Lf L.ht g)):=aH;cases aP:Lf L.ht g with
       |some AN=>
        rw[aP]at aG;obtain⟨hc,a2,h5⟩:=BV aG;obtain⟨p,v,up,n1,aB,h6⟩:=TV h5;have AA:=L.AA g AN aP s.H (s.nx+1) args hc a2 p v up n1 aB E F ρ w (U.rel.EZ (Nat.le_succ _));have W:RX s.nx (s.nx+1) ρ ρ:=⟨Ak.le_refl ρ,λ_ _=>rfl,Nat.le_succ _⟩;refine WS S.xr ae au aq ao ht AA λe w' he=>?_;cases p with
        |false=>obtain⟨u,B,rfl,Y,y,hv⟩:=he;exact J T s.H (.mk v (Fm up s.H) n1) h6 (λ_ _ _ _ h=>by cases h) ρ S W u B w' Y y hv
        |true=>obtain⟨u,B,rfl,Y,y,hv⟩:=he;exact J T s.H (.AG v (Fm up s.H) n1) h6 (λ_ _ _ _ h=>by cases h) ρ S W u B w' Y y hv
       |none=>
       rw[aP]at aG;have aJ:(Option.rec (motive:=λ_=>Prop) (Z.call g args s.H (s.nx+1) (F3 o ⟨s.N,T,s.H,s.nx,s.ro,s.D⟩ K (FM L Z ops K l))) (λAN=>Bp (PQ L.P s.H args) λr=>Ap r.1 (Bp (AN s.H r.2.1) λct=>(λq:Bool×Tr AV=>Ap q.1 (PA ct (λv=>F3 o ⟨s.N,q.2,Dz s.H r.2.2.2,s.nx+1,s.ro,s.D⟩ K (FM L Z ops K l) (.mk v (Dz s.H r.2.2.2) (s.nx+1+1))) (λv=>F3 o ⟨s.N,q.2,Dz s.H r.2.2.2,s.nx+1,s.ro,s.D⟩ K (FM L Z ops K l) (.AG v (Dz s.H r.2.2.2) (s.nx+1+1))))) (IB r.2.2.1 T))) (look L.tb g)):=aG;cases ay:look L.tb g with
       |none=>
        rw[ay]at aJ;have AA:=aD g args s.H (s.nx+1) _ aJ E F ρ w (U.rel.EZ (Nat.le_succ _));refine WS S.xr ae au aq ao ht AA λe w' he=>?_;obtain⟨r,aw,ah⟩:=he;have W:RX s.nx (s.nx+1) ρ ρ:=⟨Ak.le_refl ρ,λ_ _=>rfl,Nat.le_succ _⟩;cases r with
        |mk v H nx=>obtain⟨u,B,rfl,Y,y,hv⟩:=ah;exact J T s.H (.mk v H nx) aw (λ_ _ _ _ h=>by cases h) ρ S W u B w' Y y hv
        |AG v H nx=>obtain⟨u,B,rfl,Y,y,hv⟩:=ah;exact J T s.H (.AG v H nx) aw (λ_ _ _ _ h=>by cases h) ρ S W u B w' Y y hv
        |Cf g args H nx=>exact ah.elim
       |some AN=>
        rw[ay]at aJ;obtain⟨⟨sd,ab,fz,V⟩,aR,h5⟩:=BV aJ;obtain⟨h6,h7⟩:=EE.1 h5;simp only at h6;subst h6;obtain⟨ct,a3,h8⟩:=BV h7;obtain⟨h9,aS⟩:=EE.1 h8;obtain⟨p,v,aB,aV⟩:=WO aS;obtain⟨aa,aQ,an⟩:=sW U.rel args ab fz V aR;obtain⟨af,ak⟩:=Ku U.rel aa;have W:RX s.nx (s.nx+1) ρ (Cx ρ w V):=⟨af.le,af.lo,Nat.le_succ _⟩;have ag:TR (Cx ρ w V) (IB fz T).2 a.tmps:=sX aQ aa (λ_ h=>h) rfl af.le S h9;have AA:=aT g AN ay s.H ab ct a3 p v aB E F (Cx ρ w V) w (s.nx+1) (Dz s.H V) U.rel.gl (ak.EZ (Nat.le_succ _));have aC:Kl L.P (.fn g args) w ρ (LR E F (s.nx+1) (Cx ρ w V) (Hy p v (Dz s.H V) (s.nx+1+1))):=⟨AA.1,λvs Az=>AA.2 vs (an V aa (λ_ h=>h) vs Az)⟩;refine WS S.xr ae au aq ao ht aC λe w' he=>?_;cases p with
        |false=>obtain⟨u,B,rfl,Y,y,hv⟩:=he;exact J _ _ (.mk v (Dz s.H V) (s.nx+1+1)) aV (λ_ _ _ _ h=>by cases h) _ ag W u B w' Y y hv
        |true=>obtain⟨u,B,rfl,Y,y,hv⟩:=he;exact J _ _ (.AG v (Dz s.H V) (s.nx+1+1)) aV (λ_ _ _ _ h=>by cases h) _ ag W u B w' Y y hv
     ·exact ar.elim
    ·exact ar.elim
end Go.Ev
end
section
namespace Go.Ev
def Rb (F:Fence) (n:Nat) (P:Program) (c:Code) (Q:Exit->Act->World->Prop) (a:Act) (w:World):Prop:=∀(b:Frame) (k:List Item) (cs:List Frame),b.roundOf=F.round->F.fn b.fn->F.room (cs.length+1+n)-> ∃e r w',Q e r w'/\ArrivesIn (Machine.fenced P F) P (lone (b.atR a (.code c::.inLoop c::k)) cs w) b k cs e r w'
theorem tV {F:Fence} {n:Nat} {P:Program} {c:Code} {Q:Exit->Act->World->Prop} {a:Act} {w:World} (h:c.wpIn F n P (Exit.then (Rb F n P c Q) Q) a w):Rb F n P c Q a w:=by
 intro b k cs L hb V;obtain⟨e,z,y,K,r⟩:=h b (.inLoop c::k) cs L hb V;cases e with
 |normal=>obtain⟨S,U,R,J,B⟩:=K b k cs L hb V;exact⟨S,U,R,J,.of_steps (StepsIn.trans r (.one (fenced_calm hb V rfl) stepR_inLoop)) B⟩
 |exit id=>exact⟨_,z,y,K,.pass (x:=.inLoop c) rfl (λ_ _=>.inl (by simp)) r⟩
 |goto l=>exact⟨_,z,y,K,.pass (x:=.inLoop c) rfl (λ_ _=>.inl (by simp)) r⟩
 |ret=>exact⟨_,z,y,K,.pass (x:=.inLoop c) rfl (λ_ _=>.inl (by simp)) r⟩
 |panic W=>exact⟨_,z,y,K,.pass (x:=.inLoop c) rfl (λ_ _=>.inl (by simp)) r⟩
 |outgrown=>exact⟨_,z,y,K,.pass (x:=.inLoop c) rfl (λ_ _=>.inl (by simp)) r⟩
theorem Ajm {F:Fence} {n:Nat} {P:Program} {c:Code} {Q:Exit->Act->World->Prop} {a:Act} {w:World} (h:Rb F n P c Q a w):(Code.loop c).wpIn F n P Q a w:=by intro b k cs x hb y;obtain⟨e,B,w',z,r⟩:=h b k cs x hb y;exact⟨e,B,w',z,.of_steps (.one (fenced_calm hb y rfl) stepR_loop) r⟩
def V9 (E:Env) (F:Nat->Option Obj) (n0:Nat) (ρ0:Ak) (ro:Option Nat) (K:KX) (Q:Exit->Act->World->Prop):Prop:=∀x s' r y w',K x s'->n0<=s'.nx->Dc n0 ρ0 r->SR E F r s' y w' ro->JF r x λe=>Q e y w'
def Oe (P:Program) (code:Nat->FuncId->Code->St->KX->Prop):Prop:=∀n0 f c s K,code n0 f c s K->∀E F ρ0 ρ a w ro Q,V9 E F n0 ρ0 ro K Q->n0<=s.nx->Dc n0 ρ0 ρ->SR E F ρ s a w ro->
  match c with
  |.loop r=>Rb (FW ro) 0 P r Q a w
  |c=>c.wpIn (FW ro) 0 P Q a w
def Y8 (P:Program) (D:Array Oper->St->KX->Prop):Prop:=∀ops s K,D ops s K->∀id E F n0 ρ0 ρ a w ro Q,V9 E F n0 ρ0 ro K Q->n0<=s.nx->Dc n0 ρ0 ρ->SR E F ρ s a w ro->(Code.region id ops true).wpIn (FW ro) 0 P Q a w
theorem Jd {P:Program} {code:Nat->FuncId->Code->St->KX->Prop} (h:Oe P code) {n0:Nat} {f:FuncId} {c:Code} {s:St} {K:KX} (hc:code n0 f c s K) {E:Env} {F:Nat->Option Obj} {ρ0 ρ:Ak} {a:Act} {w:World} {ro:Option Nat} {Q:Exit->Act->World->Prop} (x:V9 E F n0 ρ0 ro K Q) (hn:n0<=s.nx) (y:Dc n0 ρ0 ρ) (r:SR E F ρ s a w ro):c.wpIn (FW ro) 0 P Q a w:=by have:=h n0 f c s K hc E F ρ0 ρ a w ro Q x hn y r;cases c<;>first|exact this|exact Ajm this
theorem yU {ρ:Ak} {T:Tr AV} {tmps:Array Value} {c:Operand} {A B:Tr AV->Prop} (h:TT T c A B) {a:Act} (ht:TR ρ T a.tmps): ∃b T',a.eval c=.bool b/\(∀t,T'.get t=T.get t)/\(if b then A T' else B T'):=by
 unfold TT at h;split at h
 ·rename_i d;obtain⟨v,hv,y⟩:=BV h;split at y
  ·rename_i b;have z:=ht.xr (.tmp d) (.bool b) hv;have he:a.eval (.tmp d)=.bool b:=by generalize a.eval (.tmp d)=u at z;cases z;rfl
   obtain⟨x,r⟩:=GC.1 y;refine⟨b,T.set d (.bool b),he,λt=>?_,?_⟩
   ·rw[Tr.Gm];split
    ·rename_i e;subst e;exact hv.symm
    ·rfl
   ·cases b with
    |true=>exact x rfl
    |false=>exact r rfl
  ·exact y.elim
 ·rename_i b;obtain⟨x,r⟩:=GC.1 h;refine⟨b,T,rfl,λ_=>rfl,?_⟩;cases b with
  |true=>exact x rfl
  |false=>exact r rfl
 ·exact h.elim
theorem AgX {P:Program} {En:Fq} (z:Oe P En.code):xq P (cN En):=by
 intro id args H nx K h E F ρ w r vs b Az hb;obtain⟨o,ho,h1⟩:=BV h;clear h;cases o with
 |loop aJ aC T N ps az body d=>
  obtain⟨T',av,h2⟩:=BV h1;clear h1;obtain⟨fn,tmps,bd,V,an,ao,_,_⟩:=OB r hb ho;obtain⟨e1,e2,e3⟩:=wH ps.toList args vs N T T' tmps Az av an ao;have hy:=run_yield (P:=P) (args:=vs.toArray) V (by simp[e1]);have W:(ps.zip vs.toArray).foldl (λtmps (x:Tmp×Value)=>tmps.setIfInBounds x.1 x.2) tmps=(ps.toList.zip vs).foldl (λtmps (x:Tmp×Value)=>tmps.setIfInBounds x.1 x.2) tmps:=by rw[<-Array.foldl_toList,Array.toList_zip]
  refine⟨fn,_,az,body,hy,roundIn_of_wpIn trivial ?_⟩;rw[W];have R:∀ {n:Nat} {L:Ak},nx<=n->Dc nx ρ L->RX nx n ρ L:=λ{n L} hn hk=>⟨⟨λi b hb=>(by
   by_cases hi:i<nx
   ·rw[hk.lo i hi];exact hb
   ·rw[r.new i (by omega)]at hb;exact absurd hb (by simp)),hk.st⟩,hk.lo,hn⟩
  refine Jd z h2 (E:=E) (F:=F) (ρ0:=ρ) (ρ:=ρ) (a:={tmps:=(ps.toList.zip vs).foldl (λtmps (x:Tmp×Value)=>tmps.setIfInBounds x.1 x.2) tmps,defers:=[]}) (ro:=some b.b) ?_ (AH _) (Dc.refl _ _) ⟨r,e2,e3,.nil,.some id b hb⟩;intro x s aj a1 w1 hx ae ag y;cases x with
  |Bh=>
   obtain⟨H1,ay,h4⟩:=BV hx;obtain⟨aa,p1,T1,N1,aL,aH,aE,d1,ah,ab,g1,g2,g3⟩:=UK ay;have au:=(R ae ag).le _ _ hb;obtain⟨aO,aB,aQ,J,_,_,_,U⟩:=OB y.rel au g1;have ai:aa=.ready/\ah=.busy/\ab=p1:=by cases aa<;>first|(cases g2;done)|(injection g2 with g2;injection g2 with g4 g5;exact⟨rfl,g4.symm,g5.symm⟩)
   obtain⟨rfl,rfl,rfl⟩:=ai;refine⟨_,run_beginRound J rfl,?_⟩;refine Jd z h4 (E:=E) (F:=F) (ρ0:=ρ) (ρ:=aj) (ro:=some b.b) ?_ ae ag ⟨by rw[g3];exact U .busy ab,y.tr,y.size,y.dr,y.rr⟩;intro Z s2 ρ2 a2 w2 ak ad af aq;obtain⟨Y,h5⟩:=EE.1 ak;obtain⟨H2,aw,h6⟩:=BV h5;obtain⟨aI,p2,T2,N2,aK,aG,aD,d2,aF,aM,k1,k2,k3⟩:=UK aw;have ar:=(R ad af).le _ _ hb;obtain⟨aN,aA,aP,B,_,_,_,S⟩:=OB aq.rel ar k1;injection k2 with k2;injection k2 with k4 k5;refine AdH (run_endRound Z.jump B) ⟨_,h6,_,ρ2,rfl,R ad af,?_,.bool _⟩ ρ2 Y;rw[k3,<-k4,<-k5];have:=S (cond Z.jump.isNone .ready .done) Z.jump;have hc:(cond Z.jump.isNone LoopState.ready .done)=if Z.jump.isNone=true then .ready else .done:=by cases Z.jump.isNone<;>rfl
   rw[hc]at this⊢;exact this
  |_=>exact hx.elim
 |_=>exact h1.elim
theorem AgT {P:Program} {En:Fq} (ag:LQ P En.call) {f:Operand} {J:Array Tmp} {y body:Code} {s:St} {K:KX} (h:o7 En f J y body s K) {E:Env} {F:Nat->Option Obj} {n0:Nat} {ρ0 ρ:Ak} {a:Act} {w:World} {ro:Option Nat} {Q:Exit->Act->World->Prop} (aI:V9 E F n0 ρ0 ro K Q) (hn:n0<=s.nx) (hk:Dc n0 ρ0 ρ) (L:SR E F ρ s a w ro): (Code.rangeFunc f J y body).wpIn (FW ro) 0 P Q a w:=by
 refine wpIn_rangeFunc λfn _=>?_;obtain⟨fa,aQ,h1⟩:=BV h;clear h;have aO:=L.tr.xr _ _ aQ;have aj:=L.rr;cases ak:s.ro with
 |some l0=>rw[ak]at h1;exact h1.elim
 |none=>
  rw[ak]at h1 aj;cases aj;simp only[Bv]at h1;obtain⟨t,ht,h2⟩:=BV h1;clear h1;have aM:=L.rel.new s.nx (AH _);have A1:=L.rel.alloc (nx':=s.nx+1) aM (Nat.le_succ _) (Nat.lt_succ_self _) (cap:=0) (a:=.Cf true) (o:=.deferred (some [])) (.Cf true);obtain⟨ab,ar⟩:=A1;rw[<-F5]at ab;have an:=ab.new (s.nx+1) (AH _);have B:(ρ.put s.nx ⟨w.heap.size,0,0⟩) s.nx=some ⟨w.heap.size,0,0⟩:=Ak.EO _ _ _;let R:Ak:=ρ.put s.nx ⟨w.heap.size,0,0⟩;let x:CD:=⟨(w.alloc (.deferred (some []))).heap.size,0,0⟩;let ρ2:Ak:=R.put (s.nx+1) x;have z:R.le ρ2:=Ak.JT (ρ:=R) an x;have A2:=ab.alloc (nx':=s.nx+1+1) an (Nat.le_succ _) (Nat.lt_succ_self _) (cap:=0) (a:=.loop .ready none s.T s.N J y body s.nx) (o:=.loop {state:=.ready,pending:=none,fn,tmps:=a.tmps,params:=J,assign:=y,body,defers:=w.heap.size}) (.loop .ready none s.T s.N J y body s.nx fn a.tmps ⟨w.heap.size,0,0⟩ (L.tr.mono (Ak.le_trans ar z)) L.size (z _ _ B));obtain⟨aq,a6⟩:=A2;rw[<-F5]at aq;have aa:ρ.le ρ2:=Ak.le_trans ar z;have hb:ρ2 (s.nx+1)=some x:=Ak.EO _ _ _;have aN:∀i,i<s.nx->ρ2 i=ρ i:=λi hi=>by simp[Ak.put,ρ2,R,Nat.ne_of_lt hi,Nat.ne_of_lt (Nat.lt_succ_of_lt hi)]
  have aE:RX s.nx (s.nx+1+1) ρ ρ2:=⟨aa,aN,by omega⟩;have aA:DR ρ2 (.mark s.nx::s.D) ({target:=.collected w.heap.size,args:=#[]}::a.defers):=.mark s.nx ⟨w.heap.size,0,0⟩ _ _ (z _ _ B) (L.dr.mono aa);cases t with
  |Cv _ _=>exact h2.elim
  |fn g args=>
   have AA:=ag g args _ _ _ h2 E F ρ2 _ aq;have V:=aO.mono aa;unfold Ie at ht;split at ht
   ·rename_i gi first cap
    injection ht with ht;injection ht with aG aF;subst aG;subst aF;generalize ao:a.eval f=fv at V;cases V with
    |fn _ _ _ va vc ha hc=>
     obtain⟨⟨a5,c,aP,aK,aS⟩,U⟩:=AA;have ah:AL ρ2 [AV.Cv (s.nx+1)] [Value.func (.yield x.b) #[] #[]]:=.cons _ _ _ _ (.Cv (s.nx+1) x hb) .nil;have aR:=U _ (ha.append (ah.append hc));have e:x.b=w.heap.size+1:=by simp[x]
     refine⟨w.heap.size+1,[{target:=.collected w.heap.size,args:=#[]}],((w.alloc (.deferred (some []))).alloc (.loop {state:=.ready,pending:=none,fn,tmps:=a.tmps,params:=J,assign:=y,body,defers:=w.heap.size})),{target:=.fn (.func gi) vc.toArray,args:=va.toArray++ #[.func (.yield x.b) #[] #[]]},((w.alloc (.deferred (some []))).alloc (.loop {state:=.ready,pending:=none,fn,tmps:=a.tmps,params:=J,assign:=y,body,defers:=w.heap.size})),gi,(va++([Value.func (.yield x.b) #[] #[]]++vc)).toArray,((w.alloc (.deferred (some []))).alloc (.loop {state:=.ready,pending:=none,fn,tmps:=a.tmps,params:=J,assign:=y,body,defers:=w.heap.size})),run_enterLoop_outer fn a.tmps J y body,?_,λ_ _=>trivial,?_,by simp[FW,Fence.wide],?_⟩
     ·rw[<-e];unfold resolve rangeCall;have hm:Array.map a.eval #[Operand.const (Value.func (Fn.yield x.b) #[] #[])]= #[Value.func (Fn.yield x.b) #[] #[]]:=by simp[Act.eval]
      have az:Act.eval {a with defers:=[{target:=.collected w.heap.size,args:=#[]}]++a.defers} f=.func (.func gi) va.toArray vc.toArray:=ao
      first
       |(simp only[ao,Deferred.ofValue,hm];rfl)
       |(simp only[az,Deferred.ofValue,hm];rfl)
     ·simp only[invoke,callFunc,Sem.run_bind,run_program,Result.andThen_ok,aP,aK,Bool.false_eq_true,if_false,aS,Option.isNone_some,Sem.run_pure];congr 2;apply Array.ext';simp
     ·rw[<-e];refine CallsIn.mono aR ?_;rintro ed w' ⟨r,hr,W⟩;cases r with
      |AG _ _ _=>exact hr.elim
      |Cf _ _ _ _=>exact W.elim
      |mk v H nx=>
       obtain⟨u,Y,rfl,hx,aw,hv⟩:=W;obtain⟨o,ho,h3⟩:=BV hr;cases o with
       |loop st Cq T N aC aB ai d=>
        obtain⟨x1,aD,h4⟩:=BV h3;obtain⟨H1,aU,h5⟩:=BV h4;obtain⟨ad,af⟩:=AbJ aD;obtain⟨a3,p1,T1,N1,a4,a2,aZ,d1,au,S,g1,g2,g3⟩:=UK aU;rw[ho]at g1;injection g1 with g1;injection g1 with g1 g4 g5 g6 g7 g8 g9 aX;subst g1;subst g4;have aT:=hx.le _ _ hb;obtain⟨aY,tmps,bd,ae,_,_,_,av⟩:=OB aw aT ho;have aL:st≠.busy/\au=.exhausted/\S=Cq:=by cases st<;>first|(cases g2;done)|(injection g2 with g2;injection g2 with aW aV;exact⟨by simp,aW.symm,aV.symm⟩)
        obtain⟨ay,rfl,rfl⟩:=aL;refine⟨S,_,run_endLoop ae ay,?_⟩;have Z:=RX.trans aE hx;have aH:SR E F Y ⟨s.N,s.T,H1,nx,none,.mark s.nx::s.D⟩ {a with defers:=[{target:=.collected w.heap.size,args:=#[]}]++a.defers} (w'.putObj x.b (.loop {state:=.exhausted,pending:=S,fn:=aY,tmps,params:=aC,assign:=aB,body:=ai,defers:=bd})) none:=by refine⟨?_,L.tr.mono Z.le,L.size,aA.mono hx.le,.none⟩;show Rel E F nx Y H1.get _;rw[g3];subst g5;subst g6;subst g7;subst g8;subst g9;subst aX;exact av .exhausted S
        have aJ:=aI x1 _ Y _ _ h5 (Ho hn Z.nn) (hk.trans (Dc.Nn Z hn)) aH;have:=AbK (P:=P) (ro:=none) (Q:=Q) (a:={a with defers:=[{target:=.collected w.heap.size,args:=#[]}]++a.defers}) x1 af aJ;rw[<-ad]at this;exact this
       |_=>exact h3.elim
   ·cases ht
   ·cases ht
theorem cB {P:Program} {E:Env} {F:Nat->Option Obj} {n0:Nat} {ρ0:Ak} {a:Act} {w:World} {ro:Option Nat} {K:St->Prop}:∀(S:List Nat) (s:St) (ρ:Ak),Rr P S K s->n0<=s.nx->Dc n0 ρ0 ρ->SR E F ρ s a w ro-> ∃s' L,K s'/\n0<=s'.nx/\Dc n0 ρ0 L/\SR E F L s' a w ro
 | [],s,ρ,h,hn,V,z=>⟨s,ρ,h,hn,V,z⟩
 |d::S,s,ρ,h,hn,V,z=>by
  obtain⟨v,hv,h1⟩:=BV (show Bp (s.T.get d) λv=>Bp (Lb P s.H v) λr=>Ap r.1 ((λq:Bool×Tr AV=>Ap q.1 (Rr P S K ⟨s.N,q.2.set d r.2.1,Dz s.H r.2.2.2,s.nx,s.ro,s.D⟩)) (IB r.2.2.1 s.T))from h);obtain⟨⟨sd,U,fz,x⟩,hf,h2⟩:=BV h1;obtain⟨e1,h3⟩:=EE.1 h2;simp only at e1;subst e1;obtain⟨e2,h4⟩:=EE.1 h3;obtain⟨y,aa,R⟩:=PR z.rel v U fz x hf;obtain⟨B,J⟩:=Ku z.rel y;have Z:TR (Cx ρ w x) (IB fz s.T).2 a.tmps:=sX aa y (λ_ h=>h) rfl B.le z.tr e2;have Y:TR (Cx ρ w x) ((IB fz s.T).2.set d U) a.tmps:=λt b hb=>by
   rw[Tr.Gm]at hb;by_cases e:d=t
   ·rw[As e]at hb;injection hb with hb;subst e;subst hb;obtain⟨u,hu,W⟩:=z.tr d v hv;exact⟨u,hu,R x y (λ_ h=>h) u W⟩
   ·rw[An e]at hb;exact Z t b hb
  exact cB S ⟨s.N,(IB fz s.T).2.set d U,Dz s.H x,s.nx,s.ro,s.D⟩ (Cx ρ w x) h4 hn (V.trans (Dc.Nn B hn)) ⟨J,Y,z.size,z.dr.mono B.le,z.rr.mono B.le⟩
theorem AgH {U:Ctx} {Y:Fq} {D:Array Oper->St->KX->Prop} (hD:Y8 U.P D) (L:Oe U.P Y.code) (af:LQ U.P Y.call) (aq:EU U.P U.tb):Oe U.P (yT U Y D):=by
 intro n0 f c s K h E F ρ0 ρ a w ro Q R hn hk Z;cases c with
 |skip=>exact wpIn_skip (R _ _ _ _ _ h hn hk Z)
 |region id ops ao=>
  cases ao with
  |false=>obtain⟨s',W,h',J,B,z⟩:=cB (U.fr f id) s ρ (show Rr U.P (U.fr f id) (λs=>FM U Y ops K ops.toList s) s from h) hn hk Z;refine Adi ?_;have:=y7 af (AgX L) aq (ops:=ops) (E:=E) (F:=F) (ro:=ro) (Q:=Q) (K:=K) R ops.toList 0 s' W a w (λj o hj=>by simpa using hj) h' J B z;rw[List.range_eq_range'];simpa using this
  |true=>obtain⟨s',W,h',J,B,z⟩:=cB (U.fr f id) s ρ (show Rr U.P (U.fr f id) (λs=>D ops s K) s from h) hn hk Z;exact hD ops s' K h' id E F n0 ρ0 W a w ro Q R J B z
 |seq p q=>
  have h':(Option.rec (motive:=λ_=>Prop) (Y.code n0 f p s λax s'=>match ax with
   |.Bh=>Y.code n0 f q s' K
   |ax=>K ax s') (λS=>oN Y S n0 f p q s K) (Option.rec (motive:=λ_=>Option B0) none (λr=>U.cut f r) (La q))):=h
  cases hS:(Option.rec (motive:=λ_=>Option B0) none (λr=>U.cut f r) (La q))with
  |none=>
   rw[hS]at h';refine wpIn_seq (Jd L h' (ρ0:=ρ0) ?_ hn hk Z);intro x s' W a' w' V J B z;cases x with
   |Bh=>exact Jd L V R J B z
   |exit id=>exact R _ _ _ _ _ V J B z
   |goto l=>exact R _ _ _ _ _ V J B z
   |ret=>exact R _ _ _ _ _ V J B z
   |AG v=>exactλu hu=>R (.AG v) _ _ _ _ V J B z u hu
  |some S=>
   rw[hS]at h';obtain⟨h1,h2⟩:=(show oN Y S n0 f p q s K from h');refine wpIn_seq (Jd L h1 (ρ0:=ρ0) ?_ hn hk Z);intro x s' W a' w' V J B z;cases x with
   |Bh=>obtain⟨x0,hI,ar⟩:=V;obtain⟨ad,ρ2,ae,ab⟩:=iL ar z;exact Jd L (h2 x0 hI) R ad (B.trans ae) ab
   |exit id=>exact R _ _ _ _ _ V J B z
   |goto l=>exact R _ _ _ _ _ V J B z
   |ret=>exact R _ _ _ _ _ V J B z
   |AG v=>exactλu hu=>R (.AG v) _ _ _ _ V J B z u hu
 |cond c p q=>
  obtain⟨b,T',he,hT,hb⟩:=yU (tmps:=a.tmps) (show TT s.T c (λT=>Y.code n0 f p ⟨s.N,T,s.H,s.nx,s.ro,s.D⟩ K) (λT=>Y.code n0 f q ⟨s.N,T,s.H,s.nx,s.ro,s.D⟩ K)from h) Z.tr;have z:SR E F ρ ⟨s.N,T',s.H,s.nx,s.ro,s.D⟩ a w ro:=⟨Z.rel,λt b hb=>Z.tr t b (by rw[<-hT];exact hb),Z.size,Z.dr,Z.rr⟩;refine wpIn_cond he ?_;cases b with
  |true=>exact Jd L (show Y.code n0 f p ⟨s.N,T',s.H,s.nx,s.ro,s.D⟩ K from hb) R hn hk z
  |false=>exact Jd L (show Y.code n0 f q ⟨s.N,T',s.H,s.nx,s.ro,s.D⟩ K from hb) R hn hk z
 |block id p=>
  refine wpIn_block (Jd L (show Y.code n0 f p s _ from h) (ρ0:=ρ0) ?_ hn hk Z);intro x s' W a' w' V J B z;cases x with
  |Bh=>exact R _ _ _ _ _ V J B z
  |exit aa=>
   show if aa=id then Q .normal a' w' else Q (.exit aa) a' w'
   have ag:cond (Nat.beq aa id) (K .Bh s') (K (.exit aa) s'):=V;cases hb:Nat.beq aa id with
   |true=>rw[hb,cond_true]at ag;rw[A0]at hb;rw[As hb];exact R _ _ _ _ _ ag J B z
   |false=>rw[hb,cond_false]at ag;rw[An (λe=>by rw[<-A0,hb]at e;cases e)];exact R _ _ _ _ _ ag J B z
  |goto l=>exact R _ _ _ _ _ V J B z
  |ret=>exact R _ _ _ _ _ V J B z
  |AG v=>exactλu hu=>R (.AG v) _ _ _ _ V J B z u hu
 |loop p=>
  have h':(Option.rec (motive:=λ_=>Prop) (Y.code n0 f p s λax s'=>match ax with
   |.Bh=>Y.code n0 f (.loop p) s' K
   |ax=>K ax s') (λS=>cond (Option.rec (motive:=λ_=>Bool) false (λr=>U.pl f r s) (La p)) (Y.code n0 f p s λax s'=>match ax with
   |.Bh=>PC U.P (Ov U f p) Y S n0 f p s' K
   |ax=>K ax s') (PC U.P (Ov U f p) Y S n0 f p s K)) (Option.rec (motive:=λ_=>Option B0) none (λr=>U.lp f r) (La p))):=h
  show Rb (FW ro) 0 U.P p Q a w;cases hS:(Option.rec (motive:=λ_=>Option B0) none (λr=>U.lp f r) (La p))with
  |none=>
   rw[hS]at h';refine tV (Jd L h' (ρ0:=ρ0) ?_ hn hk Z);intro x s' W a' w' V J B z;cases x with
   |Bh=>exact L n0 f (.loop p) s' K V E F ρ0 W a' w' ro Q R J B z
   |exit id=>exact R _ _ _ _ _ V J B z
   |goto l=>exact R _ _ _ _ _ V J B z
   |ret=>exact R _ _ _ _ _ V J B z
   |AG v=>exactλu hu=>R (.AG v) _ _ _ _ V J B z u hu
  |some S=>
   rw[hS]at h';have stat:∀(s:St) ρ a w,PC U.P (Ov U f p) Y S n0 f p s K->n0<=s.nx->Dc n0 ρ0 ρ->SR E F ρ s a w ro->Rb (FW ro) 0 U.P p Q a w:=by
    intro s ρ a w hl hn hk Z;obtain⟨⟨x0,az,aj⟩,ah⟩:=hl;have key:∀(m:Nat) (x:S.X),S.m x<m->S.I s x->∀ρ a w,n0<=S.nx s n0->Dc n0 ρ0 ρ->SR E F ρ (wO S s n0 x) a w ro->Rb (FW ro) 0 U.P p Q a w:=by
     intro m
     induction m with
     |zero=>intro x V;omega
     |succ m ih=>
      intro x V hI ρ a w av aw au;refine tV (Jd L (ah x hI) (ρ0:=ρ0) ?_ av aw au);intro y s' W a' w' hy J B z;cases y with
      |Bh=>obtain⟨s1,aC,⟨x1,ay,aD,ai⟩,aB,an,ak⟩:=cB (Ov U f p) s' W hy J B z;obtain⟨ad,ρ2,ae,ab⟩:=iL ai ak;exact ih x1 (by omega) ay ρ2 a' w' ad (an.trans ae) ab
      |exit id=>exact R _ _ _ _ _ hy J B z
      |goto l=>exact R _ _ _ _ _ hy J B z
      |ret=>exact R _ _ _ _ _ hy J B z
      |AG v=>exactλu hu=>R (.AG v) _ _ _ _ hy J B z u hu
    obtain⟨ad,ρ2,ae,ab⟩:=iL aj Z;exact key (S.m x0+1) x0 (Nat.lt_succ_self _) az ρ2 a w ad (hk.trans ae) ab
   cases hp:(Option.rec (motive:=λ_=>Bool) false (λr=>U.pl f r s) (La p))with
   |false=>have h2:cond (Option.rec (motive:=λ_=>Bool) false (λr=>U.pl f r s) (La p)) _ (PC U.P (Ov U f p) Y S n0 f p s K):=h';rw[hp]at h2;exact stat s _ a w h2 hn hk Z
   |true=>
    have h2:cond (Option.rec (motive:=λ_=>Bool) false (λr=>U.pl f r s) (La p)) (Y.code n0 f p s λax s'=>match ax with
     |.Bh=>PC U.P (Ov U f p) Y S n0 f p s' K
     |ax=>K ax s') (PC U.P (Ov U f p) Y S n0 f p s K):=h'
    rw[hp]at h2;refine tV (Jd L h2 (ρ0:=ρ0) ?_ hn hk Z);intro x s' W a' w' V J B z;cases x with
    |Bh=>exact stat s' W a' w' V J B z
    |exit id=>exact R _ _ _ _ _ V J B z
    |goto l=>exact R _ _ _ _ _ V J B z
    |ret=>exact R _ _ _ _ _ V J B z
    |AG v=>exactλu hu=>R (.AG v) _ _ _ _ V J B z u hu
 |rangeFunc g ps aA body=>exact AgT af (show o7 Y g ps aA body s K from h) R hn hk Z
 |exit id=>exact wpIn_exit (R (.exit id) _ _ _ _ h hn hk Z)
 |label l=>exact wpIn_label (R .Bh _ _ _ _ h hn hk Z)
 |goto l=>exact wpIn_goto (R (.goto l) _ _ _ _ h hn hk Z)
 |ret=>exact wpIn_ret (R .ret _ _ _ _ h hn hk Z)
 |scope p=>
  refine Afx (Jd L (show Y.code n0 f p s _ from h) (ρ0:=ρ0) ?_ hn hk Z);intro x s' W a' w' V J B z;cases x with
  |Bh=>exact⟨λ_ e=>(by cases e),R .Bh _ _ _ _ V J B z⟩
  |exit id=>exact⟨λ_ e=>(by cases e),R (.exit id) _ _ _ _ V J B z⟩
  |goto l=>exact V.elim
  |ret=>exact⟨λ_ e=>(by cases e),R .ret _ _ _ _ V J B z⟩
  |AG v=>exactλu hu=>⟨λ_ e=>(by cases e),R (.AG v) _ _ _ _ V J B z u hu⟩
 |refuse _=>exact h.elim
theorem yV {P:Program} {En:Fq} (ab:Oe P En.code) {n0:Nat} {f:FuncId} {E:Env} {F:Nat->Option Obj} {ρ0:Ak} (ad:∀y,Dc n0 ρ0 y->ρ0.le y):∀(k:Nat) (c:Code) (s:St) (m:MD) (K:KD),Rq En n0 f k c s m K-> ∀(ρ:Ak) (a:Act) (w:World) (r:Frame) (cs:List Frame) (Q:Exit->Act->List Frame->World->Prop),(∀x s' S y V w' Z,K x s' S->n0<=s'.nx->Dc n0 ρ0 y->SR E F y s' V w' none->MR ρ0 S Z->JF y x λe=>Q e V ({r with mode:=Z}::cs) w')-> n0<=s.nx->Dc n0 ρ0 ρ->SR E F ρ s a w none->MR ρ0 m r.mode->c.wpSIn (FW none) 0 P Q a (r::cs) w
 |0,_,_,_,_,h=>h.elim
 |k+1,c,s,m,K,h=>by
  intro ρ a w r cs Q Y hn hk U hm;have ih:=yV ab (f:=f) (E:=E) (F:=F) ad k;have z:En.code n0 f c s (λx s'=>K x s' m)->c.wpSIn (FW none) 0 P Q a (r::cs) w:=λh=>
   wpSIn_of_wpIn rfl (Jd ab h (Q:=λe V w'=>Q e V (r::cs) w') (λx s' y V w' hx J L B=>Y x s' m y V w' r.mode hx J L B hm) hn hk U)
  cases c with
  |skip=>exact z h
  |region id ops ak=>
   cases ak with
   |true=>exact z h
   |false=>
    have h':Option.rec (motive:=λ_=>Prop) (En.code n0 f (.region id ops false) s λx s'=>K x s' m) (λdst=>y6 s dst m K) (O9 ops.toList):=h;cases hr:O9 ops.toList with
    |none=>rw[hr]at h';exact z h'
    |some dst=>
     rw[hr]at h';refine AdC hr ?_;cases m with
     |ret=>
      obtain⟨T,hT,h1⟩:=BV h';generalize hu:r.mode=u at hm;cases hm;obtain⟨e1,e2,e3⟩:=IA U.tr U.size (.DU (ρ:=ρ)) hT;have hc:{r with mode:=.returning}=r:=by rw[<-hu]
      have:=Y .Bh _ _ ρ (a.put dst .nilIface) w .returning h1 hn hk ⟨U.rel,e1,e2,by rw[e3];exact U.dr,U.rr⟩ .ret;simp only[recoverD,hu];rw[hc]at this;exact this
     |AG v=>obtain⟨T,hT,h1⟩:=BV h';generalize hu:r.mode=u at hm;cases hm;rename_i u hv;obtain⟨e1,e2,e3⟩:=IA U.tr U.size (hv.mono (ad ρ hk)) hT;have:=Y .Bh _ _ ρ (a.put dst u) w (.panicking [{v:=u,recovered:=true}]) h1 hn hk ⟨U.rel,e1,e2,by rw[e3];exact U.dr,U.rr⟩ (.Gd v u hv);simp only[recoverD,hu,fresh];exact this
     |Gd v=>
      obtain⟨T,hT,h1⟩:=BV h';generalize hu:r.mode=u at hm;cases hm;rename_i u hv;obtain⟨e1,e2,e3⟩:=IA U.tr U.size (.DU (ρ:=ρ)) hT;have hc:{r with mode:=.panicking [{v:=u,recovered:=true}]}=r:=by rw[<-hu]
      have:=Y .Bh _ _ ρ (a.put dst .nilIface) w (.panicking [{v:=u,recovered:=true}]) h1 hn hk ⟨U.rel,e1,e2,by rw[e3];exact U.dr,U.rr⟩ (.Gd v u hv);simp only[recoverD,hu];rw[hc]at this;exact this
  |seq p q=>
   refine wpSIn_seq (ih p s m _ (show Rq En n0 f k p s m (λx s' S=>match x with
    |.Bh=>Rq En n0 f k q s' S K
    |x=>K x s' S)from h) ρ a w r cs _ (λx s' S y V w' Z hx J L B R=>?_) hn hk U hm)
   cases x with
   |Bh=>exact ih q s' S K hx y V w' {r with mode:=Z} cs Q (λx aq ar af av an ao aa ah aj ag ai=>Y x aq ar af av an ao aa ah aj ag ai) J L B R
   |exit id=>exact Y (.exit id) s' S y V w' Z hx J L B R
   |goto l=>exact Y (.goto l) s' S y V w' Z hx J L B R
   |ret=>exact Y .ret s' S y V w' Z hx J L B R
   |AG v=>exact Y (.AG v) s' S y V w' Z hx J L B R
  |cond c p q=>
   obtain⟨b,T',au,hT,h1⟩:=yU (tmps:=a.tmps) (show TT s.T c (λT=>Rq En n0 f k p ⟨s.N,T,s.H,s.nx,s.ro,s.D⟩ m K) (λT=>Rq En n0 f k q ⟨s.N,T,s.H,s.nx,s.ro,s.D⟩ m K)from h) (a:=a) U.tr;have ae:SR E F ρ ⟨s.N,T',s.H,s.nx,s.ro,s.D⟩ a w none:=⟨U.rel,λt x ht=>U.tr t x (by rw[<-hT];exact ht),U.size,U.dr,U.rr⟩;refine wpSIn_cond au ?_;cases b with
   |true=>exact ih p _ m K h1 ρ a w r cs Q Y hn hk ae hm
   |false=>exact ih q _ m K h1 ρ a w r cs Q Y hn hk ae hm
  |block id p=>
   refine Afz (ih p s m _ (show Rq En n0 f k p s m (λx s' S=>match x with
    |.exit W=>cond (Nat.beq W id) (K .Bh s' S) (K (.exit W) s' S)
    |x=>K x s' S)from h) ρ a w r cs _ (λx s' S y V w' Z hx J L B R=>?_) hn hk U hm)
   cases x with
   |Bh=>exact Y .Bh s' S y V w' Z hx J L B R
   |exit W=>
    show if W=id then Q .normal V _ w' else Q (.exit W) V _ w'
    have aa:cond (Nat.beq W id) (K .Bh s' S) (K (.exit W) s' S):=hx;cases hb:Nat.beq W id with
    |true=>rw[hb]at aa;rw[A0]at hb;rw[As hb];exact Y .Bh s' S y V w' Z aa J L B R
    |false=>rw[hb]at aa;rw[An (λe=>by rw[<-A0,hb]at e;cases e)];exact Y (.exit W) s' S y V w' Z aa J L B R
   |goto l=>exact Y (.goto l) s' S y V w' Z hx J L B R
   |ret=>exact Y .ret s' S y V w' Z hx J L B R
   |AG v=>exact Y (.AG v) s' S y V w' Z hx J L B R
  |loop p=>exact z h
  |rangeFunc f ps aw body=>exact z h
  |exit id=>exact z h
  |label l=>exact z h
  |goto l=>exact z h
  |ret=>exact z h
  |scope _=>exact z h
  |refuse _=>exact z h
theorem AbR {n0 n:Nat} {ρ0 r:Ak} (x:∀i,n0<=i->ρ0 i=none) (y:Dc n0 ρ0 r) (hn:n0<=n):RX n0 n ρ0 r:=⟨⟨λi b hb=>(by
  by_cases hi:i<n0
  ·rw[y.lo i hi];exact hb
  ·rw[x i (by omega)]at hb;exact absurd hb (by simp)),y.st⟩,y.lo,hn⟩
theorem AgI {P:Program} {En:Fq} (hcode:Oe P En.code) {g:FuncId} {args:Al} {H:Tr Ah} {nx:Nat} {m:MD} {K:MD->Tr Ah->Nat->Prop} (h:oP P En g args H nx m K) {E:Env} {F:Nat->Option Obj} {ρ:Ak} {w:World} (r:Rel E F nx ρ H.get w) {u:FrameMode} (hm:MR ρ m u):
  (∃ fn c, P.funcs[g]? = some fn ∧ (fn.name == "runtime.NumGoroutine") = false ∧ fn.body = some c) ∧ ∀ vs, AL ρ args vs →
   CallsDIn (FW none) 0 P g vs.toArray u w λe u' w'=>∃v m' H' nx' ρ',e=.returned v/\K m' H' nx'/\RX nx nx' ρ ρ'/\Rel E F nx' ρ' H'.get w'/\MR ρ' m' (Go.settle u'):=by
 obtain⟨fn,hfn,h1⟩:=BV h;obtain⟨hnm,h2⟩:=EE.1 h1;obtain⟨c,hc,h3⟩:=BV h2;simp only[Bv]at h3;refine⟨⟨fn,c,hfn,by simpa using hnm,hc⟩,λvs Az=>?_⟩;refine callsDIn_of_wpSIn hfn hc trivial λc₀ cs hc₀=>?_;have hlen:=Az.length;subst hc₀;refine yV hcode (f:=g) (ρ0:=ρ) (λρ' hk=>(AbR r.new hk (AH _)).le) 60 c _ m _ h3 ρ {tmps:=vs.toArray++Array.replicate (fn.ntmps-vs.toArray.size) undef,defers:=[]} w c₀ cs _ (λx s m1 ρ' a' w' u' hx hn hk hs' hm'=>?_) (AH _) (Dc.refl _ _) ⟨r,iD Az _,by simp[hlen],.nil,.none⟩ hm;have h5:(x=.Bh\/x=.ret)/\Ap s.D.isEmpty (Bp (Na P s.H s.T fn.results.toList) λ_=>K m1.settle s.H s.nx):=by
  cases x with
  |Bh=>exact⟨.inl rfl,hx⟩
  |ret=>exact⟨.inr rfl,hx⟩
  |exit _=>exact hx.elim
  |goto _=>exact hx.elim
  |AG _=>exact hx.elim
 obtain⟨hxx,h6⟩:=h5;obtain⟨hD,h7⟩:=EE.1 h6;obtain⟨v1,hv1,h8⟩:=BV h7;obtain⟨uv,hu,_⟩:=Uo (P:=P) hs'.rel hs'.tr hv1;have hdr:=hs'.dr;have hD':s.D=[]:=by simpa using hD
 rw[hD']at hdr;have hdf:a'.defers=[]:=by generalize a'.defers=ds at hdr;cases hdr;rfl
 have hrx:=AbR r.new hk hn;have fin:a'.defers=[]/\∃u'',({c₀ with mode:=u'}::cs)={c₀ with mode:=u''}::cs/\∃v,(results fn a'.tmps).run P w'=.ok v w'/\ ∃v' m' H' nx' ρ',Ending.returned v=.returned v'/\K m' H' nx'/\RX nx nx' ρ ρ'/\Rel E F nx' ρ' H'.get w'/\MR ρ' m' (Go.settle u''):=⟨hdf,u',rfl,uv,hu,uv,m1.settle,s.H,s.nx,ρ',rfl,h8,hrx,hs'.rel,(hm'.mono hrx.le).settle⟩;rcases hxx with hx|hx
 ·rw[hx];exact fin
 ·rw[hx];exact fin
theorem oY {P:Program} {W:Fq} (x:Oe P W.code) {E:Env} {F:Nat->Option Obj} {fn:Func} {tmps:Array Value} {R:Ending->World->Prop} {K:MD->Tr Ah->Nat->Prop}: ∀(D:List Od) (S:List Deferred) (m:MD) (H:Tr Ah) (nx:Nat) (ρ:Ak) (u:FrameMode) (w:World),DR ρ D S->MR ρ m u->cI P W D m H nx K->Rel E F nx ρ H.get w-> (∀m' H' nx' y u' w',K m' H' nx'->RX nx nx' ρ y->Rel E F nx' y H'.get w'->MR y m' u'->LeavesIn (FW none) 0 P fn tmps R [] u' w')->LeavesInM (FW none) 0 P fn tmps R S u w
 |_,_,m,H,nx,ρ,u,w,.nil,hm,h,r,U=>U m H nx ρ u w h (RX.refl _ ρ) r hm
 |_,_,m,H,nx,ρ,u,w,.mark id b l S hb hs,hm,h,r,U=>by
  obtain⟨o,ho,V⟩:=BV (show Bp (H.get id) λo=>match o with
    |.Cf true=>cI P W l m (H.set id (.Cf false)) nx K
    |_=>False from h)
  cases o with
  |Cf op=>
   cases op with
   |false=>exact V.elim
   |true=>obtain⟨c,hc,ai⟩:=r.ob _ _ b ho hb;cases ai;refine⟨hm.out,.inl ⟨b.b,_,rfl,run_takeDeferred hc,?_⟩⟩;refine oY x l S m (H.set id (.Cf false)) nx ρ u _ hs hm V ?_ U;rw[F5];exact r.put ho hb (.Cf false) (uN w b.b _ _ hc) rfl rfl rfl
  |_=>exact V.elim
 |_,_,m,H,nx,ρ,u,w,.call g args va vc l S hv hs,hm,h,r,U=>by
  obtain⟨⟨ar,c1,an,aj,ao⟩,B⟩:=AgI x (show oP P W g args H nx m (λm H nx=>cI P W l m H nx K)from h) r hm;refine⟨hm.out,.inr ⟨by simp[FW,Fence.wide],.func g,vc.toArray,g,(va++vc).toArray,rfl,?_,λ_ _=>trivial,?_⟩⟩
  ·simp only[invoke,callFunc,Sem.run_bind,run_program,Result.andThen_ok,an,aj,Bool.false_eq_true,if_false,ao,Option.isNone_some,Sem.run_pure];congr 2;apply Array.ext';simp
  ·obtain⟨hF,B⟩:=B _ hv;refine⟨hF,λc cs hc J=>?_⟩;obtain⟨e,u',w',fr,⟨v,m1,H1,af,y,rfl,V,hx,aa,ak⟩,z⟩:=B c cs hc J;exact⟨_,u',w',fr,oY x l S m1 H1 af y _ w' (hs.mono hx.le) ak V aa λag aq Z Y ae ad hk ah L ab=>U ag aq Z Y ae ad hk (hx.trans ah) L ab,z⟩
theorem AgP {L:Ctx} (hm:L.P.follows .mixedOrders=true) {En:Fq} (W:Oe L.P En.code):LQ L.P (yZ L En):=by
 intro g args H nx K h E F ρ w r;obtain⟨fn,ag,h1⟩:=BV h;obtain⟨ai,h2⟩:=EE.1 h1;obtain⟨c,hc,h3⟩:=BV h2;simp only[Bv]at h3;refine⟨⟨fn,c,ag,by simpa using ai,hc⟩,λvs Az=>?_⟩;refine callsIn_of_wp_marks ag hc trivial ?_;have ah:=Az.length;refine Jd W h3 (E:=E) (F:=F) (ρ0:=ρ) (ρ:=ρ) (ro:=none) (λx s B a' w' J hn hk y=>?_) (AH _) (Dc.refl _ _) ⟨r,iD Az _,by simp[ah],.nil,.none⟩;have Z:RX nx s.nx ρ B:=⟨⟨λi b hb=>(by
  by_cases hi:i<nx
  ·rw[hk.lo i hi];exact hb
  ·rw[r.new i (by omega)]at hb;exact absurd hb (by simp)),hk.st⟩,hk.lo,hn⟩
 unfold y5 at J;split at J
 ·rename_i hD;have af:=y.dr;rw[hD]at af;have ak:a'.defers=[]:=by generalize a'.defers=ds at af;cases af;rfl
  have lv:∀u R,u≠FrameMode.run->LeavesIn (FW none) 0 L.P fn a'.tmps R [] u w'->LeavesInM (FW none) 0 L.P fn a'.tmps R a'.defers u w':=λu R hu h=>by rw[ak];exact h
  split at J
  ·obtain⟨v1,S,h8⟩:=BV J;obtain⟨Y,hu,U⟩:=Uo (P:=L.P) y.rel y.tr S;exact lv _ _ (by simp) ⟨Y,hu,_,h8,Y,B,rfl,Z,y.rel,U⟩
  ·obtain⟨v1,S,h8⟩:=BV J;obtain⟨Y,hu,U⟩:=Uo (P:=L.P) y.rel y.tr S;exact lv _ _ (by simp) ⟨Y,hu,_,h8,Y,B,rfl,Z,y.rel,U⟩
  ·intro u hu;exact lv _ _ (by simp) ⟨_,J,u,B,rfl,Z,y.rel,hu⟩
  ·exact J.elim
 ·have z:∀(m:MD) (u:FrameMode),MR B m u->cF L.P En fn K m s->LeavesInM (FW none) 0 L.P fn a'.tmps (jC E F nx ρ K) a'.defers u w':=λm u aj hL=>by
   refine oY W s.D a'.defers m s.H s.nx B u w' y.dr aj hL y.rel λm1 H1 aq aa ao an h6 ae V ad=>?_;have ab:=Z.trans ae;cases m1 with
   |ret=>obtain⟨v1,S,h8⟩:=BV h6;cases ad;obtain⟨Y,hu,U⟩:=Uo (P:=L.P) V (y.tr.mono ae.le) S;exact⟨Y,hu,_,h8,Y,aa,rfl,ab,V,U⟩
   |AG v=>cases ad;rename_i Y hu;exact⟨_,h6,Y,aa,rfl,ab,V,hu⟩
   |Gd v=>exact h6.elim
  split at J
  ·exact z .ret .returning .ret J
  ·exact z .ret .returning .ret J
  ·intro u hu;exact z (.AG _) _ (.AG _ u hu) J
  ·exact J.elim
theorem yX {r:Ctx} (y:r.P.follows .mixedOrders=true) {D:Array Oper->St->KX->Prop} (hD:Y8 r.P D) (x:EU r.P r.tb):∀n,Oe r.P (oV r D n).code/\LQ r.P (oV r D n).call
 |0=>⟨λ_ _ _ _ _ h=>h.elim,λ_ _ _ _ _ h=>h.elim⟩
 |n+1=>by obtain⟨z,B⟩:=yX y hD x n;exact⟨AgH hD z B x,AgP y z⟩
def BS (P:Program) (p:Bool) (c:AV) (r:CR):Prop:=
 match p,r with
 |false,.mk v H _=>Bp (Lb P H v) λq=>Ap q.1 (Bi [] c q.2.1)
 |true,.AG v H _=>Bp (Lb P H v) λq=>Ap q.1 (Bi [] c q.2.1)
 |_,_=>False
theorem Q6 {ρ ρ2:Ak} (h:∀b o,ρ.st b=some o->ρ2.st b=some o):Tz [] ρ ρ2:=⟨λi j r=>(by cases r),h⟩
theorem tS {P:Program} {E:Env} {F:Nat->Option Obj} {nx:Nat} {ρ:Ak} {H:Tr Ah} {w:World} (r:Rel E F nx ρ H.get w) {n1:Nat} {y:Ak} {H1:Tr Ah} {w':World} {Z c:AV} {u:Value} (ab:∀b o,ρ.st b=some o->y.st b=some o) (r1:Rel (FO E ρ) (λb=>w.heap[b]?) n1 y H1.get w') (hv:VR y Z u) (hc:Bp (Lb P H1 Z) λq=>Ap q.1 (Bi [] c q.2.1)): ∃J,RX nx (nx+1) ρ J/\Rel E F (nx+1) J H.get w'/\VR J c u:=by
 obtain⟨⟨s,c',fz,K⟩,ad,h1⟩:=BV hc;obtain⟨Y,h3⟩:=EE.1 h1;simp only at Y;subst Y;obtain⟨z,_,V⟩:=PR r1 Z c' fz K ad;obtain⟨hx,B⟩:=Ku r1 z;have L:=V K z (λ_ h=>h) u hv;generalize Cx y w' K=ρ2 at hx B L;have W:∀b o,ρ.st b=some o->ρ2.st b=some o:=λb o h=>hx.le.st b o (ab b o h);have S:ρ.le ⟨ρ.nm,ρ2.st⟩:=⟨λ_ _ h=>h,W⟩;have x:∀b o,w.heap[b]? =some o->w'.heap[b]? =some o:=B.fr;have U:∀b o o',w.heap[b]? =some o->ρ2.st b=some o'->ρ.st b≠none:=λb o o' h1 Y=>by have:=B.sf b o o' h1 Y;simpa[FO]using this
 refine⟨⟨ρ.nm,ρ2.st⟩,⟨S,λ_ _=>rfl,Nat.le_succ _⟩,⟨B.tape,B.os,B.output,λb o hb=>x b o (r.fr b o hb),λi o b hi hb=>?_,r.dj,r.inj,λi hi=>r.new i (Nat.le_of_succ_le hi),r.gl,r.bs,B.st,λi o b hi hb=>?_,λb o o' hF hs=>?_⟩,Kf (ρ:=ρ2) (ρ2:=⟨ρ.nm,ρ2.st⟩) (Q6 λ_ _ h=>h) c c' u h3 L⟩
 ·obtain⟨oc,h4,h5⟩:=r.ob i o b hi hb;exact⟨oc,x _ _ h4,h5.mono S⟩
 ·obtain⟨oc,h4,h5⟩:=r.ob i o b hi hb;cases hs:ρ2.st b.b with
  |none=>rfl
  |some o'=>exact absurd (r.sd i o b hi hb) (U b.b oc o' h4 hs)
 ·have:=U b o o' (r.fr b o hF) hs;cases R:ρ.st b with
  |none=>exact absurd R this
  |some aa=>exact r.sf b o aa hF R
theorem zu {P:Program} {call:FuncId->Al->Tr Ah->Nat->KC->Prop} (B:LQ P call) {g:FuncId} {AN:Tr Ah->Al->Option Ct} {gl:List (Nat×Ah)} {ng:Nat} (ad:∀p∈gl,Kw p.2=true) (L:∀H args ct,AN H args=some ct->(∀p∈gl,H.get p.1=some p.2)/\AZ [] args args/\∀p v,G2 ct=some (p,v)->call g args (BU gl) ng (BS P p v)):BC P g AN:=by
 intro H args ct aa p v R E F ρ w nx H' hG r;obtain⟨hH,J,ab⟩:=L H args ct aa;have r0:Rel (FO E ρ) (λb=>w.heap[b]?) ng ⟨λ_=>none,ρ.st⟩ (BU gl).get w:=⟨r.tape,r.os,r.output,λ_ _ h=>h,λ_ _ _ _ h=>(by cases h),λ_ _ _ _ h=>(by cases h),λ_ _ _ _ _ _ _ _ h=>(by cases h),λ_ _=>rfl,λg l hg=>hG g l (hH _ (Nl hg)),λb o hb=>r.fr b o (r.bs b o hb),r.st,λ_ _ _ _ h=>(by cases h),λb o o' _ hs=>(by simp[FO];exactλe=>by rw[show ρ.st b=some o' from hs]at e;cases e)⟩;have AA:=B g args (BU gl) ng _ (ab p v R) _ _ _ w r0;refine⟨AA.1,λvs Az=>CallsIn.mono (AA.2 vs (LM (ρ:=ρ) (ρ2:=⟨λ_=>none,ρ.st⟩) (Q6 λ_ _ h=>h) args args vs J Az)) λe w' he=>?_⟩;obtain⟨K,x,y⟩:=he;cases p with
 |false=>
  cases K with
  |mk v' H1 n1=>obtain⟨u,Z,rfl,U,S,hv⟩:=y;obtain⟨z,Y,W,V⟩:=tS r U.le.st S hv x;exact⟨u,z,rfl,Y,W,V⟩
  |AG _ _ _=>exact x.elim
  |Cf _ _ _ _=>exact x.elim
 |true=>
  cases K with
  |AG v' H1 n1=>obtain⟨u,Z,rfl,U,S,hv⟩:=y;obtain⟨z,Y,W,V⟩:=tS r U.le.st S hv x;exact⟨u,z,rfl,Y,W,V⟩
  |mk _ _ _=>exact x.elim
  |Cf _ _ _ _=>exact x.elim
end Go.Ev
end
section
namespace Go.Ev
theorem Tr.wJ {α:Type} {x:α}:∀(p:List Bool) (t:Tr α),Tr.gp p t=some x->Tr.sp (some x) p t=t
 | [],.leaf,h=>by cases h
 | [],.node v l r,h=>by have h':v=some x:=h;subst h';rfl
 |b::p,.leaf,h=>by rw[Tr.Uy]at h;cases h
 |b::p,.node v l r,h=>by
  cases b with
  |true=>have h':Tr.gp p l=some x:=h;show Tr.node v (Tr.sp (some x) p l) r=_;rw[wJ p l h']
  |false=>have h':Tr.gp p r=some x:=h;show Tr.node v l (Tr.sp (some x) p r)=_;rw[wJ p r h']
theorem Tr.Aev {α:Type} {x:α} {t:Tr α} {n:Nat} (h:t.get n=some x):t.set n x=t:=wJ (path n) t h
theorem AgV {ops:Array Oper} {T:Tr AV} {o:Oper} {K:Tr AV->Bool->Prop} (h:Rt ops T o K):∃B,K T B/\Ex ops T o=some B:=by
 unfold Rt at h;unfold Ex;split at h
 ·rename_i x;rw[x];exact⟨true,h,rfl⟩
 ·rename_i j J x;rw[x];obtain⟨W,V,U⟩:=BV h;obtain⟨d,z,S⟩:=BV U;obtain⟨v,r,y⟩:=BV S;simp only[V];split at y
  ·rename_i b;obtain⟨R,L⟩:=GC.1 y;cases b with
   |true=>exact⟨_,by have:=R rfl;rwa[Tr.Aev r]at this,by simp[ob,z,r]⟩
   |false=>exact⟨_,by have:=L rfl;rwa[Tr.Aev r]at this,by simp[ob,z,r]⟩
  ·refine⟨false,y,?_⟩;simp only[ob,z,r]
def YV (X:Operand->Option AV) (op:Op):Option K5:=
 match op with
 |.call c=>match c.callee with
  |.value f=>ob (X f) λf=>ob (F0 X c.args.toList) λr=>Ie f r
  |_=>none
 |_=>none
theorem Abf {P:Program} {call:Da} {X:Operand->Option AV} {H:Tr Ah} {ni nx:Nat} {op:Op} (h:∀t,YV X op=some t->call t H nx=none):Gk P call X H ni nx op=Gk P OG X H ni nx op:=by
 cases op<;>try rfl
 rename_i c;obtain⟨r,args,J⟩:=c;cases r with
 |builtin b=>cases b<;>rfl
 |invoke _ _=>rfl
 |value f=>
  simp only[Gk];simp only[YV]at h;cases z:X f with
  |none=>rfl
  |some B=>
   rw[z]at h;cases y:F0 X args.toList with
   |none=>rfl
   |some x=>
    rw[y]at h;cases ht:Ie B x with
    |none=>simp[ob,ht]
    |some t=>have:=h t (by simp[ob,ht]);simp[ob,ht,this,OG]
theorem Abe {P:Program} {call:Da} {X:Operand->Option AV} {H:Tr Ah} {ni nx:Nat} {op:Op} {t:K5} {r:CR} (ht:YV X op=some t) (B:call t H nx=some r):Gk P call X H ni nx op=some r:=by
 cases op<;>first|(cases ht;done)|skip
 rename_i c;obtain⟨x,args,R⟩:=c;cases x with
 |builtin b=>cases ht
 |invoke _ _=>cases ht
 |value f=>obtain⟨S,J,L⟩:=Ai.1 (show(ob (X f) λf=>ob (F0 X args.toList) λy=>Ie f y)=some t from ht);obtain⟨y,z,K⟩:=Ai.1 L;simp[Gk,ob,J,z,K,B]
def HM (N p:Nat) (o:Oper) (A:Nat) (r:DS) (k:DK) (v:AV) (H:Tr Ah) (nx cc:Nat) (K:DS->Prop):Prop:=L5 N r.T o.dst v λT=>K (match k with
  |.off=>⟨r.reads,r.news,r.Az,T,H,nx,cc,r.pn⟩
  |.pure=>cond (LG o.op) ⟨⟨p,o,A,r.T,.pure,v,H,cc⟩::r.reads,r.news,r.Az,T,H,nx,cc,r.pn⟩ ⟨r.reads,r.news,r.Az,T,H,nx,cc,r.pn⟩
  |.new b=>⟨r.reads,⟨p,o,A,r.T,.new b,v,H,cc⟩::r.news,r.Az,T,H,nx,cc,r.pn⟩
  |.Ds=>⟨r.reads,r.news,⟨p,o,A,r.T,.Ds,v,H,cc⟩::r.Az,T,H,nx,cc,r.pn⟩
  |.dead=>⟨r.reads,r.news,r.Az,T,H,nx,cc,r.pn⟩
  |.AG x H' nx'=>⟨r.reads,r.news,r.Az,T,H,nx,cc,some ⟨p,A,x,H',nx'⟩⟩)
theorem Om {N p:Nat} {o:Oper} {A:Nat} {x:DS} {k:DK} {v:AV} {H:Tr Ah} {nx cc:Nat} {K:DS->Prop} (h:HM N p o A x k v H nx cc K):∃r,HN N p o A x k v H nx cc=some r/\K r:=by obtain⟨T,z,y⟩:=TY h;exact⟨_,by unfold HN;rw[z];rfl,y⟩
def yW (N p:Nat) (o:Oper) (A:Nat) (x:DS) (K:DS->Prop) (r:CR):Prop:=
 match r with
 |.mk v H nx=>fN (p+1) λcc=>HM N p o A x .Ds v H nx cc K
 |.AG v H nx=>HM N p o A x (.AG v H nx) (.AM []) x.H x.nx x.cc K
 |.Cf _ _ _ _=>False
def oO (tb:DQ) (ht:CZ) (r:Tr Ah) (nx:Nat) (K:CR->Prop) (g:FuncId) (args:Al) (L:Prop):Prop:=Option.rec (motive:=λ_=>Prop) (Option.rec (motive:=λ_=>Prop) L (λAN=>Bp (AN r args) λct=>PA ct (λv=>K (.mk v r (nx+1))) (λv=>K (.AG v r (nx+1)))) (look tb g)) (λAN=>Bp (AN r nx args) λhc=>PB hc (λv up n=>K (.mk v (Fm up r) n)) (λv up n=>K (.AG v (Fm up r) n))) (Lf ht g)
def bZ (P:Program) (tb:DQ) (ht:CZ) (X:Operand->Option AV) (x:Tr Ah) (ni nx:Nat) (op:Op) (K:CR->Prop):Prop:=Option.rec (motive:=λ_=>Prop) (Option.rec (motive:=λ_=>Prop) (Bp (Gk P OG X x ni nx op) K) (λt=>match t with
    |.fn g args=>oO tb ht x nx K g args (Bp (Gk P OG X x ni nx op) K)
    |.Cv _ _=>False) (YV X op))
  (λr=>Ap r.1 (K (.mk r.2.1 r.2.2 nx))) (JA P X x ni op)
theorem AgJ {P:Program} {tb:DQ} {ht:CZ} {X:Operand->Option AV} {x:Tr Ah} {ni nx:Nat} {op:Op} {K:CR->Prop} (h:bZ P tb ht X x ni nx op K):∃r,FN P (Ko tb ht) X x ni nx op=some r/\K r:=by
 unfold bZ at h;cases S:JA P X x ni op with
 |some r=>rw[S]at h;obtain⟨z,L⟩:=EE.1 h;obtain⟨b,v,H'⟩:=r;simp only at z;subst z;exact⟨_,Ad4 S,L⟩
 |none=>
  rw[S]at h;cases z:YV X op with
  |none=>rw[z]at h;obtain⟨r,L,R⟩:=BV h;exact⟨r,Xn S (by rw[Abf (λt ht=>by rw[z]at ht;cases ht)];exact L),R⟩
  |some t=>
   rw[z]at h;cases t with
   |Cv _ _=>exact h.elim
   |fn g args=>
    have h':oO tb ht x nx K g args (Bp (Gk P OG X x ni nx op) K):=h;unfold oO at h';cases J:Lf ht g with
    |some AN=>
     rw[J]at h';obtain⟨hc,R,V⟩:=BV h';obtain⟨p,v,up,n,W,U⟩:=TV V;have Y:Ko tb ht (.fn g args) x nx=some (Hy p v (Fm up x) n):=by show Option.rec (motive:=λ_=>Option CR) (ob (look tb g) λAN=>ob (AN x args) λct=>ob (G2 ct) λo=>some (Hy o.1 o.2 x (nx+1))) (λAN=>ob (AN x nx args) λhc=>ob (hOut hc) λo=>some (Hy o.1 o.2.1 (Fm o.2.2.1 x) o.2.2.2)) (Lf ht g)=_;rw[J];show(ob (AN x nx args) λhc=>ob (hOut hc) λo=>some (Hy o.1 o.2.1 (Fm o.2.2.1 x) o.2.2.2))=_;rw[R];show(ob (hOut hc) λo=>some (Hy o.1 o.2.1 (Fm o.2.2.1 x) o.2.2.2))=_;rw[W];rfl
     refine⟨_,Xn S (Abe z Y),?_⟩;cases p with
     |false=>exact U
     |true=>exact U
    |none=>
    rw[J]at h';have y:Ko tb ht (.fn g args) x nx=(ob (look tb g) λAN=>ob (AN x args) λct=>ob (G2 ct) λo=>some (Hy o.1 o.2 x (nx+1))):=by show Option.rec (motive:=λ_=>Option CR) (ob (look tb g) λAN=>ob (AN x args) λct=>ob (G2 ct) λo=>some (Hy o.1 o.2 x (nx+1))) (λAN=>ob (AN x nx args) λhc=>ob (hOut hc) λo=>some (Hy o.1 o.2.1 (Fm o.2.2.1 x) o.2.2.2)) (Lf ht g)=_;rw[J]
    cases L:look tb g with
    |none=>rw[L]at h';obtain⟨r,R,V⟩:=BV h';exact⟨r,Xn S (by rw[Abf (λt B=>by rw[z]at B;injection B with B;subst B;rw[y,L];rfl)];exact R),V⟩
    |some AN=>
     rw[L]at h';obtain⟨ct,R,V⟩:=BV h';obtain⟨p,v,W,U⟩:=WO V;have hc:Ko tb ht (.fn g args) x nx=some (Hy p v x (nx+1)):=by rw[y,L];show(ob (AN x args) λct=>ob (G2 ct) λo=>some (Hy o.1 o.2 x (nx+1)))=_;rw[R];show(ob (G2 ct) λo=>some (Hy o.1 o.2 x (nx+1)))=_;rw[W];rfl
     refine⟨_,Xn S (Abe z hc),?_⟩;cases p with
     |false=>exact U
     |true=>exact U
def oU (P:Program) (tb:DQ) (ht:CZ) (ops:Array Oper) (N y:Nat) (B:Tr Nat) (p:Nat) (o:Oper) (x:DS) (K:DS->Prop):Prop:=Bp (B.get p) λA=>cond (RO x.pn A) (HM N p o A x .dead (.AM []) x.H x.nx x.cc K) (Rt ops x.T o λT z=>(λx:DS=>cond z (Option.rec (motive:=λ_=>Prop) (WQ P (BR x.T) o.op (λv=>HM N p o A x .pure v x.H x.nx x.cc K) (Option.rec (motive:=λ_=>Prop) (fN (y+p) λni=>Option.rec (motive:=λ_=>Prop) (Option.rec (motive:=λ_=>Prop) (Ap (EH (λh=>Go.Ev.tb A h.i) x.Az) (Ap x.pn.isNone (bZ P tb ht (BR x.T) (D2 x.news x.Az A p y x.H) ni x.nx o.op (yW N p o A x K)))) (λq=>HM N p o A x (.new q.2) q.1 x.H x.nx x.cc K) (Ic P (BR x.T) ni o.op)) (λq=>Ap q.1 (HM N p o A x (.new q.2.2) q.2.1 x.H x.nx x.cc K)) (I2 P (BR x.T) ni o.op)) (λv=>HM N p o A x .pure v x.H x.nx x.cc K) (G4 P (D2 x.news x.Az A p y x.H) (BR x.T) o.op))) (λr=>Ap r.1 (HM N p o A x .pure r.2 x.H x.nx x.cc K)) (HC P (D2 x.news x.Az A p y x.H) (BR x.T) o.op)) (HM N p o A x .off (.AM []) x.H x.nx x.cc K)) ⟨x.reads,x.news,x.Az,T,x.H,x.nx,x.cc,x.pn⟩)
theorem AgO {P:Program} {tb:DQ} {ht:CZ} {ops:Array Oper} {N L:Nat} {AT:Tr Nat} {p:Nat} {o:Oper} {x:DS} {K:DS->Prop} (h:oU P tb ht ops N L AT p o x K):∃y,Ue P (Ko tb ht) ops N L AT p o x=some y/\K y:=by
 obtain⟨A,hA,W⟩:=BV h;unfold Ue;rw[hA];show∃y,(cond (RO x.pn A) (HN N p o A x .dead (.AM []) x.H x.nx x.cc) <| ob (Ex ops x.T o) λY=>cond Y _ _)=some y/\K y;cases hd:RO x.pn A with
 |true=>rw[hd,cond_true]at W;obtain⟨y,z,S⟩:=Om W;exact⟨y,z,S⟩
 |false=>
  rw[hd,cond_false]at W;obtain⟨Y,z,hw⟩:=AgV W;rw[cond_false,hw];cases Y with
  |false=>have z:HM N p o A x .off (.AM []) x.H x.nx x.cc K:=z;obtain⟨y,S,U⟩:=Om z;refine⟨y,?_,U⟩;show HN N p o A x .off (.AM []) x.H x.nx x.cc=some y;exact S
  |true=>
   have z:(Option.rec (motive:=λ_=>Prop) (WQ P (BR x.T) o.op (λv=>HM N p o A x .pure v x.H x.nx x.cc K) (Option.rec (motive:=λ_=>Prop) (fN (L+p) λni=>Option.rec (motive:=λ_=>Prop) (Option.rec (motive:=λ_=>Prop) (Ap (EH (λh=>Go.Ev.tb A h.i) x.Az) (Ap x.pn.isNone (bZ P tb ht (BR x.T) (D2 x.news x.Az A p L x.H) ni x.nx o.op (yW N p o A x K)))) (λq=>HM N p o A x (.new q.2) q.1 x.H x.nx x.cc K) (Ic P (BR x.T) ni o.op)) (λq=>Ap q.1 (HM N p o A x (.new q.2.2) q.2.1 x.H x.nx x.cc K)) (I2 P (BR x.T) ni o.op)) (λv=>HM N p o A x .pure v x.H x.nx x.cc K) (G4 P (D2 x.news x.Az A p L x.H) (BR x.T) o.op))) (λr=>Ap r.1 (HM N p o A x .pure r.2 x.H x.nx x.cc K)) (HC P (D2 x.news x.Az A p L x.H) (BR x.T) o.op)):=z;show∃y,(Option.rec (motive:=λ_=>Option DS) (fN (L+p) λni=>Option.rec (motive:=λ_=>Option DS) (gd (EH (λh=>Go.Ev.tb A h.i) x.Az) (gd x.pn.isNone <| ob (FN P (Ko tb ht) (BR x.T) (D2 x.news x.Az A p L x.H) ni x.nx o.op) λr=>CR.rec (motive:=λ_=>Option DS) (λv H nx=>fN (p+1) λcc=>HN N p o A x .Ds v H nx cc) (λv H nx=>HN N p o A x (.AG v H nx) (.AM []) x.H x.nx x.cc) (λ_ _ _ _=>none) r)) (λq=>HN N p o A x (.new q.2) q.1 x.H x.nx x.cc) (Ew P (BR x.T) ni o.op)) (λv=>HN N p o A x .pure v x.H x.nx x.cc) (De P (D2 x.news x.Az A p L x.H) (BR x.T) o.op))=some y/\K y;cases S:HC P (D2 x.news x.Az A p L x.H) (BR x.T) o.op with
   |some r=>rw[S]at z;obtain⟨U,V⟩:=EE.1 z;obtain⟨b,v⟩:=r;simp only at U;subst U;rw[wA S];obtain⟨y,B,J⟩:=Om V;exact⟨y,B,J⟩
   |none=>
   rw[S]at z;rcases y0 (H:=D2 x.news x.Az A p L x.H) z with z|⟨v,hv,hk⟩
   rotate_left
   ·rw[XQ S hv];obtain⟨y,B,J⟩:=Om hk;exact⟨y,B,J⟩
   cases U:G4 P (D2 x.news x.Az A p L x.H) (BR x.T) o.op with
   |some v=>rw[U]at z;rw[XQ S U];obtain⟨y,B,J⟩:=Om z;exact⟨y,B,J⟩
   |none=>
   rw[U]at z;have e1:De P (D2 x.news x.Az A p L x.H) (BR x.T) o.op=none:=by unfold De;rw[S];exact U
   rw[e1];simp only[Bv]at z⊢;cases V:I2 P (BR x.T) (L+p) o.op with
   |some r=>rw[V]at z;obtain⟨B,J⟩:=EE.1 z;obtain⟨b,v,ab⟩:=r;simp only at B;subst B;rw[Ad8 V];obtain⟨y,B,J⟩:=Om J;exact⟨y,B,J⟩
   |none=>
   rw[V]at z;cases B:Ic P (BR x.T) (L+p) o.op with
   |some q=>rw[B]at z;rw[AcJ V B];obtain⟨y,B,J⟩:=Om z;exact⟨y,B,J⟩
   |none=>
   rw[B]at z;have e2:Ew P (BR x.T) (L+p) o.op=none:=by unfold Ew;rw[V];exact B
   rw[e2];obtain⟨J,h8⟩:=EE.1 z;obtain⟨h9,aa⟩:=EE.1 h8;obtain⟨r,Z,R⟩:=AgJ aa;simp only[J,h9,Z,gd,cond_true,ob];cases r with
   |mk v H nx=>have R:fN (p+1) (λcc=>HM N p o A x .Ds v H nx cc K):=R;rw[Bv]at R;obtain⟨y,B,J⟩:=Om R;exact⟨y,B,J⟩
   |AG v H nx=>obtain⟨y,B,J⟩:=Om (show HM N p o A x (.AG v H nx) (.AM []) x.H x.nx x.cc K from R);exact⟨y,B,J⟩
   |Cf _ _ _ _=>exact R.elim
def cA (P:Program) (tb:DQ) (ht:CZ) (ops:Array Oper) (N y:Nat) (B:Tr Nat) (K:DS->Prop) (l:List Oper):Nat->DS->Prop:=List.rec (motive:=λ_=>Nat->DS->Prop) (λ_ r=>K r) (λo _ z p r=>oU P tb ht ops N y B p o r λx=>fN (p+1) λq=>z q x) l
theorem oT {P:Program} {tb:DQ} {ht:CZ} {ops:Array Oper} {N y:Nat} {z:Tr Nat} {K:DS->Prop}:∀ {l:List Oper} {p:Nat} {x:DS},cA P tb ht ops N y z K l p x->∃r,Ry P (Ko tb ht) ops N y z l p x=some r/\K r
 | [],p,x,h=>⟨x,rfl,h⟩
 |o::l,p,x,h=>by obtain⟨B,S,J⟩:=AgO (show oU P tb ht ops N y z p o x (λr=>fN (p+1) λq=>cA P tb ht ops N y z K l q r)from h);rw[Bv]at J;obtain⟨r,R,L⟩:=oT J;refine⟨r,?_,L⟩;show(ob (Ue P (Ko tb ht) ops N y z p o x) λr=>fN (p+1) λq=>Ry P (Ko tb ht) ops N y z l q r)=_;rw[S];show fN (p+1) (λq=>Ry P (Ko tb ht) ops N y z l q B)=_;rw[Bv];exact R
def oZ (P:Program) (H:Tr Ah) (X:Operand->Option AV) (op:Op) (K:AV->Prop):Prop:=Option.rec (motive:=λ_=>Prop) (Bp (G4 P H X op) K) (λr=>Ap r.1 (K r.2)) (HC P H X op)
theorem AgS {P:Program} {H:Tr Ah} {X:Operand->Option AV} {op:Op} {K:AV->Prop} (h:oZ P H X op K):∃v,De P H X op=some v/\K v:=by
 unfold oZ at h;cases y:HC P H X op with
 |some r=>rw[y]at h;obtain⟨x,z⟩:=EE.1 h;obtain⟨b,v⟩:=r;simp only at x;subst x;exact⟨v,wA y,z⟩
 |none=>rw[y]at h;obtain⟨v,x,z⟩:=BV h;exact⟨v,XQ y x,z⟩
def o8 (P:Program) (x:DS) (y:Nat) (r:It) (c:Nat) (H:Tr Ah):Prop:=cond (Nat.beq c r.cc) True (cond (G9 x.Az c r.i) (cond (EH (λh=>cond (tb r.A h.i) (Nat.blt h.i c) true) x.Az) (oZ P (D2 x.news x.Az r.A c y H) (BR r.T) r.o.op λv=>v=r.v) True) True)
theorem AgU {P:Program} {x:DS} {y:Nat} {r:It} {c:Nat} {H:Tr Ah} (h:o8 P x y r c H):YH P x y r c H=true:=by
 unfold o8 at h;unfold YH;cases L:Nat.beq c r.cc with
 |true=>rfl
 |false=>
  rw[L,cond_false]at h;rw[cond_false];cases K:G9 x.Az c r.i with
  |false=>rfl
  |true=>
   rw[K,cond_true]at h;rw[cond_true];cases J:EH (λh=>cond (tb r.A h.i) (Nat.blt h.i c) true) x.Az with
   |false=>rfl
   |true=>rw[J,cond_true]at h;rw[cond_true];obtain⟨v,B,z⟩:=AgS h;rw[B];exact wE.2 z
def bP {α:Type} (f:α->Prop) (l:List α):Prop:=List.rec (motive:=λ_=>Prop) True (λa _ r=>f a/\r) l
theorem ny {α:Type} {f:α->Prop} {g:α->Bool} (r:∀a,f a->g a=true):∀ {l:List α},bP f l->EH g l=true
 | [],_=>rfl
 |a::l,h=>by have h':f a/\bP f l:=h;show cond (g a) (EH g l) false=true;rw[r a h'.1];exact ny r h'.2
def oK (P:Program) (x:DS) (y:Nat) (c:Nat) (H:Tr Ah):Prop:=bP (λr=>o8 P x y r c H) x.reads/\Ap (EH (λr=>eU x y r c H) x.news) True
theorem yR {P:Program} {x:DS} {y:Nat} {c:Nat} {H:Tr Ah} (h:oK P x y c H):T4 P x y c H=true:=by unfold T4;rw[ny (λr z=>AgU z) h.1];exact(EE.1 h.2).1
def oL (P:Program) (r:DS) (x:Nat) (y:Tr Ah):Prop:=oK P r x 0 y/\bP (λh=>oK P r x h.cc h.H) r.Az
theorem yS {P:Program} {x:DS} {y:Nat} {z:Tr Ah} (h:oL P x y z):cf P x y z=true:=by unfold cf;rw[yR h.1];exact ny (λr B=>yR B) h.2
def oQ (P:Program) (tb:DQ) (ht:CZ) (ops:Array Oper) (s:St) (K:KX):Prop:=Bp (WZ ops) λy=>fN ops.size λn=>fN (s.nx+n) λx=>cA P tb ht ops s.N s.nx y (λr=>oL P r s.nx s.H/\ (Option.rec (motive:=λ_=>Prop) (K .Bh ⟨s.N,r.T,MT r.news r.Az n s.nx r.H,r.nx,s.ro,s.D⟩) (λq=>K (.AG q.v) ⟨s.N,Kr q.A ops.toList 0 r.T,q.H,q.nx,s.ro,s.D⟩) r.pn)) ops.toList 0 ⟨[],[],[],s.T,s.H,x,0,none⟩
theorem AgN {P:Program} {tb:DQ} {ht:CZ} {ops:Array Oper} {s:St} {K:KX} (h:oQ P tb ht ops s K):∃x s',cz P (Ko tb ht) ops s=some (.mk x s')/\K x s':=by
 obtain⟨S,R,z⟩:=BV h;simp only[Bv]at z;obtain⟨B,L,J,r⟩:=oT z;unfold cz;simp only[R,L,Bv,yS J,ob,gd,cond_true];cases y:B.pn with
 |none=>rw[y]at r;exact⟨_,_,rfl,r⟩
 |some q=>rw[y]at r;exact⟨_,_,rfl,r⟩
theorem AgM {P:Program} (S:P.follows .mixedOrders=true) {tb:DQ} {ht:CZ} (y:EU P tb) (B:Es P ht):Y8 P (oQ P tb ht):=by intro ops s K h id E F n0 ρ0 ρ a w ro Q R hn U L;obtain⟨x,s',W,V⟩:=AgN h;exact pE S (Ko tb ht) ops s x s' (yb y B) W id E F ρ a w ro Q L λr Y w' J z=>R x s' r Y w' V (Ho hn J.nn) (U.trans (Dc.Nn J hn)) z
end Go.Ev
end
section
namespace Go.Ev
structure AfH (t:B5) (ops:Array Oper) (s:St) (σ:DS):Prop where
 T:t.FL ops.size=σ.T
 nx:t.E0 ops.size=σ.nx
 Bh:σ.pn=none->(∀i,i<ops.size->¬t.Oz i)/\∀x o,(MT σ.news σ.Az ops.size s.nx σ.H).get x=some o->(∃j,j<ops.size/\t.k j=.new o/\t.late ops.size ops.size j/\x=s.nx+j)\/(t.G ops.size).get x=some o
 AG:∀q,σ.pn=some q->q.p<ops.size/\t.Oz q.p/\(∀i v' H'' nx',i<ops.size->t.k i=.AG v' H'' nx'->i=q.p/\v'=q.v/\H''=q.H/\nx'=q.nx)/\
  ∀d b,(Kr q.A ops.toList 0 σ.T).get d=some b->(t.FL ops.size).get d=some b/\∀k,k<ops.size->(t.oo k).dst=some d->t.Cj q.p k
theorem Ahk {P:Program} {call:Da} {ops:Array Oper} {s:St} {AT:Tr Nat} {σ:DS} (ak:WZ ops=some AT) (aG:Ry P call ops s.N s.nx AT ops.toList 0 ⟨[],[],[],s.T,s.H,s.nx+ops.size,0,none⟩=some σ) (aI:cf P σ s.nx s.H=true): ∃t,Ef t P call ops s/\(∀i,t.oo i=(ops[i]?).getD default)/\AfH t ops s σ:=by
 have ah:∀i,i<ops.size->ops[i]? =some ((ops[i]?).getD default):=λi hi=>by rw[Array.getElem?_eq_getElem hi];rfl
 have st:=zk ah ak;obtain⟨f,g,f0,fn,av⟩:=pI _ _ _ _ aG;rw[show 0+ops.toList.length=ops.size by simp]at fn;have step:∀i,i<ops.size->DStep P call ops s.N s.nx (EL AT i) i ((ops[i]?).getD default) (f i) (f (i+1)) (g i):=λi hi=>by have:=av i ((ops[i]?).getD default) (by rw[Array.getElem?_toList];exact ah i hi);rwa[Nat.zero_add]at this
 let t:B5:=⟨λi=>(ops[i]?).getD default,EL AT,λi=>(f i).T,λi=>(g i).k,λi=>(g i).v,λi=>(f i).H,λi=>(f i).nx⟩;have ag:∀p,p<=ops.size->∀i,i<p->(g i).k=.Ds->g i∈(f p).Az:=by
  intro p
  induction p with
  |zero=>intro _ i hi;omega
  |succ p V=>
   intro J i hi z;by_cases ab:i=p
   ·subst ab;exact(step i J).hv z
   ·exact(step p J).dc _ (V (by omega) i (by omega) z)
 have PU:∀p,p<=ops.size->∀r∈(f p).Az,∃i,i<p/\r=g i/\(g i).k=.Ds:=by
  intro p
  induction p with
  |zero=>intro _ r B;rw[f0]at B;cases B
  |succ p V=>
   intro J r B;rcases(step p J).PU r B with B|⟨rfl,z⟩
   ·obtain⟨i,h1,U⟩:=V (by omega) r B;exact⟨i,by omega,U⟩
   ·exact⟨p,by omega,rfl,z⟩
 have aM:∀p,p<=ops.size->∀i b,i<p->(g i).k=.new b->g i∈(f p).news:=by
  intro p
  induction p with
  |zero=>intro _ i b hi;omega
  |succ p V=>
   intro J i b hi z;by_cases ab:i=p
   ·subst ab;exact(step i J).nw b z
   ·exact(step p J).nwk _ (V (by omega) i b (by omega) z)
 have P4:∀p,p<=ops.size->∀r∈(f p).news,∃i,i<p/\r=g i/\∃b,(g i).k=.new b:=by
  intro p
  induction p with
  |zero=>intro _ r B;rw[f0]at B;cases B
  |succ p V=>
   intro J r B;rcases(step p J).P4 r B with B|⟨rfl,z⟩
   ·obtain⟨i,h1,U⟩:=V (by omega) r B;exact⟨i,by omega,U⟩
   ·exact⟨p,by omega,rfl,z⟩
 have aK:∀p,p<=ops.size->∀i,i<p->(g i).k=.pure->LG ((ops[i]?).getD default).op=true->g i∈(f p).reads:=by
  intro p
  induction p with
  |zero=>intro _ i hi;omega
  |succ p V=>
   intro J i hi z B;by_cases ab:i=p
   ·subst ab;exact(step i J).rd z B
   ·exact(step p J).rdk _ (V (by omega) i (by omega) z B)
 have aw:∀p,p<=ops.size->∀q,(f p).pn=some q->q.p<p/\(g q.p).k=.AG q.v q.H q.nx/\q.A=EL AT q.p:=by
  intro p
  induction p with
  |zero=>intro _ q hq;rw[f0]at hq;cases hq
  |succ p V=>
   intro J q hq;have K:=(step p J).pk;rw[hq]at K;have aL:(f p).pn=some q->q.p<p+1/\(g q.p).k=.AG q.v q.H q.nx/\q.A=EL AT q.p:=λh=>by obtain⟨i1,i2,i3⟩:=V (by omega) q h;exact⟨by omega,i2,i3⟩
   split at K
   ·rename_i v H nx z;injection K with K;subst K;exact⟨Nat.lt_succ_self p,z,rfl⟩
   ·exact aL K.symm
 have af:∀i v H nx,i<ops.size->(g i).k=.AG v H nx->∀p,i<p->p<=ops.size->(f p).pn≠none:=by
  intro i v H nx hi z p
  induction p with
  |zero=>intro h;omega
  |succ p V=>
   intro ab J;have K:=(step p J).pk;by_cases he:i=p
   ·subst he;rw[z]at K;rw[K];simp
   ·have:=V (by omega) (by omega);split at K
    ·rw[K];simp
    ·rw[K];exact this
 have aR:∀p,p<=ops.size->t.Gj ops.size (f p).cc/\(f p).cc<=p/\∀q,t.hv ops.size q->(q<(f p).cc↔q<p):=by
  intro p
  induction p with
  |zero=>intro _;rw[f0];exact⟨.inl rfl,AH _,λq _=>Iff.rfl⟩
  |succ p V=>
   intro J;obtain⟨i1,i2,i3⟩:=V (by omega);have z:=(step p J).kind;by_cases hh:(g p).k=.Ds
   ·rw[hh]at z;have e:(f (p+1)).cc=p+1:=z.2.1;rw[e];exact⟨.inr ⟨p,⟨J,hh⟩,rfl⟩,AH _,λq _=>Iff.rfl⟩
   ·have e:(f (p+1)).cc=(f p).cc:=by
     split at z
     ·exact z.2.2.2.2
     ·exact z.2.2.2.1
     ·exact z.2.2.2.1
     ·rename_i hx;exact absurd hx hh
     ·exact z.2.2.2.2
     ·exact z.2.2.2.1
    rw[e];refine⟨i1,by omega,λq y=>?_⟩;rw[i3 q y];have:q≠p:=λe=>by subst e;exact hh y.2
    omega
 have Z:∀p,p<=ops.size->∀c j,(c<=p\/p=ops.size)->G9 (f p).Az c j=true->t.late ops.size c j:=λp J c j ar hl q y ao au=>by
  have aN:q<p:=by
   rcases ar with h|h
   ·omega
   ·rw[h];exact y.1
  have:=Ab1 hl (g q) (ag p J q aN y.2) (by rw[(step q y.1).ei];exact ao);rw[(step q y.1).eA]at this;unfold B5.Cj at au;rw[show t.A q=EL AT q from rfl,this]at au;cases au
 have R:∀p,p<=ops.size->∀c j,t.late ops.size c j->G9 (f p).Az c j=true:=λp J c j hl=>Ab2 λr B hc=>by
  obtain⟨q,hq,rfl,z⟩:=PU p J r B;have an:q<ops.size:=by omega
  rw[(step q an).ei]at hc;have:=hl q ⟨an,z⟩ hc;unfold B5.Cj at this;rw[(step q an).eA];simpa using this
 have L:∀p,p<=ops.size->∀i c H,(c<=p\/p=ops.size)->(∀x o,H.get x=some o->(t.G c).get x=some o)->t.sub ops.size s.nx (D2 (f p).news (f p).Az (EL AT i) c s.nx H) i c:=by
  intro p J i c H ar hG x o hx;rcases Afq hx with⟨r,B,h1,U,h3,h4⟩|h
  ·obtain⟨j,hj,rfl,b,hb⟩:=P4 p J r B;have aP:j<ops.size:=by omega
   rw[(step j aP).ei]at U h3 h4;exact .inl ⟨j,U,h1,Z p J c j ar h3,h4⟩
  ·exact .inr (hG x o h)
 have ae:∀c,t.Gj ops.size c->T4 P σ s.nx c (t.G c)=true:=by
  obtain⟨c1,c2⟩:=BG aI;rintro c (rfl|⟨q,y,rfl⟩)
  ·have:t.G 0=s.H:=by show(f 0).H=s.H;rw[f0]
   rw[this];exact c1
  ·have hm:=ag ops.size (AH _) q y.1 y.2;rw[fn]at hm;have:=JH c2 _ hm;have z:=(step q y.1).kind;rw[show(g q).k=.Ds from y.2]at z;rw[(step q y.1).ec,show(f (q+1)).cc=q+1 from z.2.1,(step q y.1).eH]at this;exact this
 have ok:Ef t P call ops s:=by
  refine⟨ah,λi j hi hj=>st.Cj i j hi hj,st.K8,by show(f 0).T=_;rw[f0],λi hi=>(step i hi).put,st.dst,λi d k hi z hl hd aB=>st.look i d k hi z hl hd aB,
   by show(f 0).H=_;rw[f0],by show(f 0).nx=_;rw[f0],λi hi=>?_⟩
  have z:=(step i hi).kind;unfold B5.Le;show(match(g i).k with
   |.off=>_
   |.pure=>_
   |.new o=>_
   |.Ds=>_
   |.dead=>_
   |.AG v H nx=>_)
  split at z
  ·rename_i e;rw[e];exact⟨z.1,z.2.1,z.2.2.1,z.2.2.2.1⟩
  ·rename_i e;rw[e];refine⟨z.1,⟨z.2.1,z.2.2.1⟩,λc hc hl aH=>?_⟩;have ad:=z.2.2.2.2;cases ay:LG ((ops[i]?).getD default).op with
   |false=>exact⟨.leaf,λx o hx=>(by rw[Tr.Cy]at hx;cases hx),(Aaw ay).trans ad⟩
   |true=>
    have hm:=aK ops.size (AH _) i hi e ay;rw[fn]at hm;have aa:=(BG (ae c hc)).1;have B:=JH aa _ hm;unfold YH at B;cases hb:Nat.beq c (g i).cc with
    |true=>
     have aD:c=(f i).cc:=by rw[D4 hb,(step i hi).ec];exact z.2.2.2.1
     obtain⟨_,i2,i3⟩:=aR i (by omega);refine⟨_,?_,ad⟩;have aF:=L i (by omega) i i (f i).H (.inl (AH _)) (λx o h=>h);intro x o hx;rcases aF x o hx with⟨j,h1,U,h3,h4⟩|h
     ·exact .inl ⟨j,h1,U,λq y ao=>h3 q y ((i3 q y).1 (by rw[<-aD];exact ao)),h4⟩
     ·refine .inr ?_;have hG:∀d p,p+d<=i->(∀q,t.hv ops.size q->(q<p↔q<p+d))->t.G (p+d)=t.G p:=by
       intro d
       induction d with
       |zero=>intro p _ _;rfl
       |succ d V=>
        intro p aS hq;have aA:(g (p+d)).k≠.Ds:=λY=>by have:=hq (p+d) ⟨by omega,Y⟩;omega
        have ak:(f (p+d+1)).H=(f (p+d)).H:=by
         have Y:=(step (p+d) (by omega)).kind;split at Y
         ·exact Y.2.2.1
         ·exact Y.2.1
         ·exact Y.2.1
         ·rename_i hx;exact absurd hx aA
         ·exact Y.2.2.1
         ·exact Y.2.1
        refine(show t.G (p+(d+1))=t.G (p+d)from ak).trans (V p (by omega) λq y=>?_);have:=hq q y;have aB:q≠p+d:=λe=>by subst e;exact aA y.2
        omega
      obtain⟨d,hd⟩:=Nat.le.dest i2;have:=hG d (f i).cc (by omega) (λq y=>by rw[hd];exact i3 q y);rw[hd]at this;rw[aD,<-this];exact h
    |false=>
     rw[hb,cond_false,(step i hi).ei,<-fn,R ops.size (AH _) c i hl,cond_true]at B;have aJ:EH (λh=>cond (tb (g i).A h.i) (Nat.blt h.i c) true) (f ops.size).Az=true:=by
      apply bO;intro r B;obtain⟨q,hq,rfl,S⟩:=PU ops.size (AH _) r B;rw[(step q hq).ei,(step i hi).eA];cases az:tb (EL AT i) q with
      |false=>rfl
      |true=>rw[LK]at az;rw[cond_true,CE];exact aH q ⟨hq,S⟩ az
     rw[aJ,cond_true,(step i hi).eA,(step i hi).eT,(step i hi).eo]at B;cases aq:De P (D2 (f ops.size).news (f ops.size).Az (EL AT i) c s.nx (t.G c)) (BR (f i).T) ((ops[i]?).getD default).op with
     |none=>rw[aq]at B;cases B
     |some v=>rw[aq]at B;have:=wE.1 B;subst this;exact⟨_,L ops.size (AH _) i c (t.G c) (.inr rfl) (λx o h=>h),aq⟩
  ·rename_i b e;rw[e];refine⟨z.1,⟨z.2.1,z.2.2.1⟩,z.2.2.2.2,λc hc hl=>?_⟩;have hm:=aM ops.size (AH _) i b hi e;rw[fn]at hm;have aa:=(BG (ae c hc)).2;have B:=JH aa _ hm;unfold eU at B;rw[(step i hi).ei,<-fn,R ops.size (AH _) c i hl,cond_true,Bv]at B;simpa using B
  ·rename_i e;rw[e];refine⟨z.1,λq y aO=>?_,_,L i (by omega) i i (f i).H (.inl (AH _)) (λx o h=>h),z.2.2.2.1⟩;have:=z.2.2.1 _ (ag i (by omega) q aO y.2);rw[(step q y.1).ei]at this;exact this
  ·rename_i e;rw[e];refine⟨?_,z.2.2.1,z.2.2.2.1⟩;have aj:=z.1;cases W:(f i).pn with
   |none=>rw[W]at aj;cases aj
   |some q=>rw[W]at aj;obtain⟨h1,U,_⟩:=aw i (by omega) q W;refine⟨q.p,by omega,?_,q.v,q.H,q.nx,U⟩;show(EL AT i).testBit q.p=true;rw[<-LK];exact aj
  ·rename_i v H nx e;rw[e];refine⟨z.1,⟨z.2.1,z.2.2.1⟩,λq y=>?_,_,L i (by omega) i i (f i).H (.inl (AH _)) (λx o h=>h),z.2.2.2.2.2.1⟩;have aC:q<i:=by
    rcases Nat.lt_trichotomy q i with h|h|h
    ·exact h
    ·subst h;have:=y.2;rw[show t.k q=(g q).k from rfl,e]at this;cases this
    ·have S:=(step q y.1).kind;rw[show(g q).k=.Ds from y.2]at S;exact absurd S.2.2.2.2 (af i v H nx hi e q h (Nat.le_of_lt y.1))
   refine⟨aC,?_⟩;have:=z.2.2.2.2.1 _ (ag i (by omega) q aC y.2);rw[(step q y.1).ei]at this;exact this
 refine⟨t,ok,λi=>rfl,⟨by show(f ops.size).T=_;rw[fn],by show(f ops.size).nx=_;rw[fn],λW=>⟨λi hi ⟨v,H,nx,z⟩=>af i v H nx hi z ops.size hi (AH _) (by rw[fn];exact W),?_⟩,λq W=>?_⟩⟩
 ·intro x o hx;rcases Afp hx with⟨r,B,h1,U,h4⟩|h
  ·rw[<-fn]at B U;obtain⟨j,hj,rfl,b,hb⟩:=P4 ops.size (AH _) r B;rw[(step j hj).ei]at U h4;exact .inl ⟨j,hj,h1,Z ops.size (AH _) _ j (.inr rfl) U,h4⟩
  ·refine .inr ?_;show(f ops.size).H.get x=some o;rw[fn];exact h
 ·rw[<-fn]at W;obtain⟨h1,U,h5⟩:=aw ops.size (AH _) q W;refine⟨h1,⟨_,_,_,U⟩,λi v' aE nx' hi z=>?_,λd b hb=>?_⟩
  ·have ai:(g i).k=.AG v' aE nx':=z;have aQ:i=q.p:=by
    rcases Nat.lt_trichotomy i q.p with h|h|h
    ·have S:=(step q.p h1).kind;rw[U]at S;exact absurd S.2.2.2.2.2.2 (af i v' aE nx' hi ai q.p h (by omega))
    ·exact h
    ·have S:=(step i hi).kind;rw[ai]at S;exact absurd S.2.2.2.2.2.2 (af q.p q.v q.H q.nx h1 U i h (by omega))
   subst aQ;rw[U]at ai;injection ai with e1 e2 e3;exact⟨rfl,e1.symm,e2.symm,e3.symm⟩
  ·obtain⟨e1,e2⟩:=oz _ _ _ _ _ hb;refine⟨?_,λk z hd=>?_⟩
   ·show(f ops.size).T.get d=some b;rw[fn];exact e1
   ·have:=e2 k _ (by rw[Array.getElem?_toList];exact ah k z) hd;rw[Nat.zero_add,h5]at this;exact this
structure Gh where
 j:Nat
 d:Tmp
 t:TypeId
 ins:List (Nat×TypeId×Operand×Operand)
 mv:Nat
 e:Tmp
 lk:Nat
 lt:TypeId
 key:Tmp
 kx:Nat
 val:Value
def sx (l:List (Nat×TypeId×Operand×Operand)) (i:Nat):Bool:=List.rec (motive:=λ_=>Bool) false (λq _ r=>cond (Nat.beq q.1 i) true r) l
theorem AbC {i:Nat}:∀ {l:List (Nat×TypeId×Operand×Operand)},sx l i=true↔∃q∈l,q.1=i
 | []=>⟨λh=>(by cases h),λ⟨_,h,_⟩=>(by cases h)⟩
 |p::l=>by
  show cond (Nat.beq p.1 i) true (sx l i)=true↔_;cases h:Nat.beq p.1 i with
  |true=>exact⟨λ_=>⟨p,EG ..,D4 h⟩,λ_=>rfl⟩
  |false=>
   rw[cond_false,AbC];constructor
   ·rintro⟨q,r,x⟩;exact⟨q,EF _ r,x⟩
   ·rintro⟨q,r,x⟩;rcases Dp.1 r with rfl|r
    ·rw[x,Nat.beq_refl]at h;cases h
    ·exact⟨q,r,x⟩
def Gh.side (g:Gh) (i:Nat):Bool:=cond (Nat.beq i g.j) true (cond (Nat.beq i g.mv) true (sx g.ins i))
def GD (g:Gh) (i:Nat) (o:Oper):Oper:=cond (Nat.beq i g.lk) ⟨o.dst,.move (.const g.val),o.type,o.pos,o.after,o.guard⟩ (cond (g.side i) ⟨none,.move (.const g.val),o.type,o.pos,o.after,o.guard⟩ o)
def RH (g:Gh) (l:List Oper):Nat->List Oper:=List.rec (motive:=λ_=>Nat->List Oper) (λ_=>[]) (λo _ r i=>GD g i o::fN (i+1) r) l
def DC (g:Gh) (ops:Array Oper):Array Oper:=⟨RH g ops.toList 0⟩
theorem AaY (g:Gh):∀(l:List Oper) (p i:Nat),(RH g l p)[i]? =(l[i]?).map (GD g (p+i))
 | [],p,i=>by show([]:List Oper)[i]? =_;simp
 |o::l,p,0=>rfl
 |o::l,p,i+1=>by show(GD g p o::fN (p+1) (RH g l))[i+1]? =_;rw[Bv,List.getElem?_cons_succ,AaY g l (p+1) i,List.getElem?_cons_succ,show p+1+i=p+(i+1) by omega]
theorem AaZ (g:Gh):∀(l:List Oper) (p:Nat),(RH g l p).length=l.length
 | [],p=>rfl
 |o::l,p=>by show(GD g p o::fN (p+1) (RH g l)).length=_;rw[Bv,Dn,AaZ g l,Dn]
theorem RG (g:Gh) (ops:Array Oper):(DC g ops).size=ops.size:=by show(RH g ops.toList 0).length=_;rw[AaZ];simp
theorem s8 (g:Gh) (ops:Array Oper) (i:Nat):(DC g ops)[i]? =(ops[i]?).map (GD g i):=by show(⟨RH g ops.toList 0⟩:Array Oper)[i]? =_;rw[List.getElem?_toArray,AaY,Nat.zero_add,Array.getElem?_toList]
theorem Uw (g:Gh) (i:Nat) (o:Oper):(GD g i o).after=o.after:=by unfold GD;cases Nat.beq i g.lk<;>cases g.side i<;>rfl
theorem Aa0 (g:Gh) (i:Nat) (o:Oper):(GD g i o).guard=o.guard:=by unfold GD;cases Nat.beq i g.lk<;>cases g.side i<;>rfl
def Xk (g:Gh) (kAV:AV):Operand->Option AV:=λx=>match x with
 |.tmp s=>cond (Nat.beq s g.e) (some (.map 0)) (cond (Nat.beq s g.d) (some (.map 0)) (cond (Nat.beq s g.key) (some kAV) none))
 |x=>BR .leaf x
def dN (k:AV):Bool:=match k with
 |.str _ _=>true
 |.bs _=>true
 |_=>false
def Uc (i:Nat) (l:List (Nat×TypeId×Operand×Operand)):List (Nat×TypeId×Operand×Operand):=List.rec (motive:=λ_=>List (Nat×TypeId×Operand×Operand)) [] (λq _ r=>cond (Nat.beq q.1 i) r (q::r)) l
def Ut (P:Program) (g:Gh) (kAV vAV:AV):Nat->List (Nat×TypeId×Operand×Operand)->Ah->Bool:=Nat.rec (motive:=λ_=>List (Nat×TypeId×Operand×Operand)->Ah->Bool) (λr o=>cond r.isEmpty (Option.rec (motive:=λ_=>Bool) false (λa=>Cp a vAV) (De P (Tr.leaf.set 0 o) (Xk g kAV) (.lookup g.lt (.tmp g.e) (.tmp g.key) false))) false) (λ_ x r o=>cond r.isEmpty (Option.rec (motive:=λ_=>Bool) false (λa=>Cp a vAV) (De P (Tr.leaf.set 0 o) (Xk g kAV) (.lookup g.lt (.tmp g.e) (.tmp g.key) false))) (EH (λq=>Option.rec (motive:=λ_=>Bool) false (λo'=>x (Uc q.1 r) o') (ob (BR .leaf q.2.2.1) λk=>ob (BR .leaf q.2.2.2) λv=>ob (Un P (Tr.leaf.set 0 o) q.2.1 (.map 0) k v) λH=>H.get 0)) r))
def Kv (o:Oper) (j:Nat):Bool:=List.rec (motive:=λ_=>Bool) false (λe _ r=>cond (Region.binds .any e) (cond (Nat.beq e.on j) true r) r) o.after.toList
theorem sq {o:Oper} {j:Nat} (h:Kv o j=true):∃e∈o.after,Region.binds .any e=true/\e.on=j:=by
 unfold Kv at h;have:∀l:List Edge,List.rec (motive:=λ_=>Bool) false (λe _ r=>cond (Region.binds .any e) (cond (Nat.beq e.on j) true r) r) l=true->∃e∈l,Region.binds .any e=true/\e.on=j:=λl=>by
  induction l with
  |nil=>intro h;cases h
  |cons e l r=>
   intro h;have h:cond (Region.binds .any e) (cond (Nat.beq e.on j) true (List.rec (motive:=λ_=>Bool) false (λe _ r=>cond (Region.binds .any e) (cond (Nat.beq e.on j) true r) r) l)) (List.rec (motive:=λ_=>Bool) false (λe _ r=>cond (Region.binds .any e) (cond (Nat.beq e.on j) true r) r) l)=true:=h;have y:List.rec (motive:=λ_=>Bool) false (λe _ r=>cond (Region.binds .any e) (cond (Nat.beq e.on j) true r) r) l=true->∃x∈e::l,Region.binds .any x=true/\x.on=j:=λh=>by obtain⟨x,B,z⟩:=r h;exact⟨x,EF _ B,z⟩
   cases hb:Region.binds .any e with
   |false=>rw[hb,cond_false]at h;exact y h
   |true=>
    rw[hb,cond_true]at h;cases J:Nat.beq e.on j with
    |false=>rw[J,cond_false]at h;exact y h
    |true=>exact⟨e,EG ..,hb,D4 J⟩
 obtain⟨e,B,z⟩:=this _ h;exact⟨e,by simpa using B,z⟩
structure Tm (P:Program) (g:Gh) (ops:Array Oper) (kAV vAV:AV):Prop where
 made:∃o,ops[g.j]? =some o/\o.dst=some g.d/\(∃t,o.op=.makeMap t none)
 ins:∀q∈g.ins,∃o,ops[q.1]? =some o/\o.dst=none/\o.op=.insert q.2.1 (.tmp g.d) q.2.2.1 q.2.2.2/\Kv o g.j=true/\q.1≠g.j/\q.1≠g.mv
 mv:∃o,ops[g.mv]? =some o/\o.dst=some g.e/\o.op=.move (.tmp g.d)/\Kv o g.j=true/\g.mv≠g.j/\∀q∈g.ins,Kv o q.1=true
 lk:∃o,ops[g.lk]? =some o/\o.op=.lookup g.lt (.tmp g.e) (.tmp g.key) false/\Kv o g.mv=true/\Kv o g.kx=true/\g.side g.lk=false
 kx:∃o,ops[g.kx]? =some o/\o.dst=some g.key/\g.side g.kx=false
 gd:∀i o,ops[i]? =some o->o.guard=none/\(g.side i=false->o.dst≠some g.d/\o.dst≠some g.e)
 de:g.d≠g.e
 kd:g.key≠g.d/\g.key≠g.e
 key:dN kAV=true
 val:ofValue g.val=some vAV/\∃k n,vAV=.int k n
 ok:∃n o0,Ew P (λ_=>none) 0 (.makeMap g.t none)=some (.map 0,o0)/\Ut P g kAV vAV n g.ins o0=true
 mt:∀o,ops[g.j]? =some o->o.op=.makeMap g.t none
def KS (b cap:Nat):Ak:=⟨λi=>if i=0 then some ⟨b,0,cap⟩else none,λ_=>none⟩
theorem VJ {b cap i:Nat} {x:CD} (h:KS b cap i=some x):i=0/\x=⟨b,0,cap⟩:=by
 have h:(if i=0 then some (⟨b,0,cap⟩:CD)else none)=some x:=h;split at h
 ·rename_i e;exact⟨e,(Option.some.inj h).symm⟩
 ·cases h
def Aht (w:World):Env:=⟨w.tape,w.os,w.output,λ_=>none,λ_=>true⟩
def sS (w:World) (b:Nat):Nat->Option Obj:=λk=>if k=b then none else w.heap[k]?
theorem AdD {w:World} {b cap:Nat} {o:Ah} {c:Obj} (hc:w.heap[b]? =some c) (J:OR (KS b cap) ⟨b,0,cap⟩ o c):Rel (Aht w) (sS w b) 1 (KS b cap) (Tr.leaf.set 0 o).get w:=by
 have z:∀i o',(Tr.leaf.set 0 o).get i=some o'->KS b cap i≠none->o'=o:=λi o' h hn=>by
  cases hi:KS b cap i with
  |none=>exact absurd hi hn
  |some x=>obtain⟨rfl,_⟩:=VJ hi;rw[Tr.PS]at h;exact(Option.some.inj h).symm
 refine⟨rfl,rfl,rfl,λk o' h=>?_,λi o' x h r=>?_,λi o' x h r=>?_,λi j o' B x y S K R L _=>?_,λi hi=>?_,λi l h=>?_,λk o' h=>(by cases h),λk o' h=>(by cases h),λi o' x h r=>rfl,λk o' B h K=>(by cases K)⟩
 ·unfold sS at h;split at h
  ·cases h
  ·exact h
 ·have:=z i o' h (by rw[r];simp);obtain⟨rfl,rfl⟩:=VJ r;subst this;exact⟨c,hc,J⟩
 ·obtain⟨rfl,rfl⟩:=VJ r;exact As rfl
 ·exact(VJ R).1.trans (VJ L).1.symm
 ·exact An (by omega)
 ·by_cases hi:0=i
  ·subst hi;rw[Tr.PS]at h;injection h with h;subst h;cases J
  ·rw[Tr.Uv _ hi,Tr.Cy]at h;cases h
theorem AqT {ρ r:Ak} {k:IntKind} {n:Int} {u:Value} (h:VR ρ (.int k n) u):VR r (.int k n) u:=by cases h;exact .int _ _
theorem AqU {ρ x:Ak} {k:AV} {u:Value} (r:dN k=true) (h:VR ρ k u):VR x k u:=by
 unfold dN at r;split at r
 ·cases h;exact .str _ _ (by assumption)
 ·cases h;exact .bs _
 ·cases r
theorem AlQ {E:Env} {F:Nat->Option Obj} {nx:Nat} {ρ:Ak} {h:Nat->Option Ah} {w w':World} (r:Rel E F nx ρ h w) {b:Nat} {c W:Obj} (hb:F b=some c) (Z:E.base b=none) (Y:E.fs b=false) (ht:w'.tape=w.tape) (U:w'.os=w.os) (R:w'.output=w.output) (hc:w'.heap[b]? =some W) (S:∀k o,k≠b->w.heap[k]? =some o->w'.heap[k]? =some o):Rel E (λk=>if k=b then some W else F k) nx ρ h w':=by
 have L:∀i o x,h i=some o->ρ i=some x->x.b≠b:=λi o x J B e=>by have:=r.dj i o x J B;rw[e,hb]at this;cases this
 have K:∀k o,ρ.st k=some o->k≠b:=λk o h e=>by subst e;have:=r.sf _ _ _ hb h;rw[Y]at this;cases this
 refine⟨ht.trans r.tape,U.trans r.os,R.trans r.output,λk o z=>?_,λi o x J B=>?_,λi o x J B=>?_,r.inj,r.new,r.gl,λk o z=>?_,λk o z=>?_,r.sd,λk o o' z V=>?_⟩
 ·split at z
  ·rename_i e;subst e;injection z with z;subst z;exact hc
  ·rename_i e;exact S k o e (r.fr k o z)
 ·obtain⟨y,h3,h4⟩:=r.ob i o x J B;exact⟨y,S _ _ (L i o x J B) h3,h4⟩
 ·rw[An (L i o x J B)];exact r.dj i o x J B
 ·rw[An (λe=>by subst e;rw[Z]at z;cases z)];exact r.bs k o z
 ·exact S k o (K k o z) (r.st k o z)
 ·have:=K k o' V;rw[An this]at z;exact r.sf k o o' z V
def zx (E:Env) (b:Nat):Env:=⟨E.tape,E.os,E.output,E.base,λk=>if k=b then false else E.fs k⟩
theorem AlP {E:Env} {F:Nat->Option Obj} {nx:Nat} {ρ:Ak} {h:Nat->Option Ah} {w K:World} (r:Rel E F nx ρ h w) {c:Obj} (R:K=w\/K=w.drew): Rel (zx E w.heap.size) (λk=>if k=w.heap.size then some c else F k) nx ρ h (K.alloc c)/\F w.heap.size=none/\E.base w.heap.size=none/\(K.alloc c).heap[w.heap.size]? =some c:=by
 have V:w.heap[w.heap.size]? =none:=by simp
 have Z:F w.heap.size=none:=by
  cases h:F w.heap.size with
  |none=>rfl
  |some o=>have:=r.fr _ _ h;rw[V]at this;cases this
 have hB:E.base w.heap.size=none:=by
  cases h:E.base w.heap.size with
  |none=>rfl
  |some o=>have:=r.bs _ _ h;rw[Z]at this;cases this
 have Y:(K.alloc c).heap=w.heap.push c:=by rcases R with rfl|rfl<;>rfl
 have J:(K.alloc c).heap[w.heap.size]? =some c:=by rw[Y];simp
 have z:∀k o,w.heap[k]? =some o->(K.alloc c).heap[k]? =some o/\k≠w.heap.size:=λk o B=>by have aa:=JV B;refine⟨?_,by omega⟩;rw[Y,Array.getElem?_push,An (by omega)];exact B
 refine⟨⟨?_,?_,?_,λk o B=>?_,λi o x L S=>?_,λi o x L S=>?_,r.inj,r.new,r.gl,λk o B=>?_,λk o B=>(z k o (r.st k o B)).1,r.sd,λk o o' B W=>?_⟩,Z,hB,J⟩
 ·rcases R with rfl|rfl<;>exact r.tape
 ·rcases R with rfl|rfl<;>exact r.os
 ·rcases R with rfl|rfl<;>exact r.output
 ·split at B
  ·rename_i e;subst e;injection B with B;subst B;exact J
  ·exact(z k o (r.fr k o B)).1
 ·obtain⟨y,U,h4⟩:=r.ob i o x L S;exact⟨y,(z _ _ U).1,h4⟩
 ·obtain⟨y,U,_⟩:=r.ob i o x L S;rw[An (z _ _ U).2];exact r.dj i o x L S
 ·have:=r.bs k o B;rw[An (z k o (r.fr k o this)).2];exact this
 ·have L:=(z k o' (r.st k o' W)).2;rw[An L]at B;show(if k=w.heap.size then false else E.fs k)=true;rw[An L];exact r.sf k o o' B W
structure Sub (E E':Env) (F F':Nat->Option Obj):Prop where
 t:E'.tape=E.tape
 o:E'.os=E.os
 p:E'.output=E.output
 b:E'.base=E.base
 f:∀k,E'.fs k=true->E.fs k=true
 F:∀k o,F k=some o->F' k=some o
theorem Sub.rel {E K:Env} {F J:Nat->Option Obj} (h:Sub E K F J) (B:∀b o,E.base b=some o->F b=some o) {nx:Nat} {ρ:Ak} {H:Nat->Option Ah} {w:World} (r:Rel K J nx ρ H w):Rel E F nx ρ H w:=by
 refine⟨r.tape.trans h.t,r.os.trans h.o,r.output.trans h.p,λk o z=>r.fr k o (h.F k o z),r.ob,λi o x V U=>?_,r.inj,r.new,λg l R=>?_,B,r.st,r.sd,λk o o' z L=>h.f k (r.sf k o o' (h.F k o z) L)⟩
 ·have:=r.dj i o x V U;cases S:F x.b with
  |none=>rfl
  |some y=>rw[h.F _ _ S]at this;cases this
 ·have:=r.gl g l R;rw[h.b]at this;exact this
theorem Db.re {t:B5} {ops:Array Oper} {s:St} {E B:Env} {F z:Nat->Option Obj} {ρ0:Ak} {ro:Option Nat} {listed:Array Bool} {a y:Act} {w w':World} {ρ:Ak} {c:Nat} (r:Db t ops s E F ρ0 ro listed a w ρ c) (J:Rel B z (t.E0 c) ρ (t.hD ops.size s.nx listed c) w') (S:∀i d,i<ops.size->Ls listed i->(t.oo i).dst=some d->y.tmps[d]? =a.tmps[d]?) (R:∀d x,s.T.get d=some x->y.tmps[d]? =a.tmps[d]?) (L:y.tmps.size=a.tmps.size) (K:y.defers=a.defers): Db t ops s B z ρ0 ro listed y w' ρ c:=⟨r.size,r.Gj,r.hc,r.down,r.le,r.lo,r.nn,J,r.VY,λi d hi hl hd=>by rw[S i d hi hl hd];exact r.Q3 i d hi hl hd,λd x hn hd=>by rw[R d x hd];exact r.Ta d x hn hd,L.trans r.sz,by rw[K];exact r.dr,r.rr,r.np⟩
theorem GH {a:Act} {dst:Option Tmp} {v:Value} {d:Tmp} (h:dst≠some d):(a.put dst v).tmps[d]? =a.tmps[d]?:=by
 cases dst with
 |none=>rfl
 |some x=>have:x≠d:=λe=>h (by rw[e]);simp only[Act.put];rw[Array.getElem?_setIfInBounds_ne this]
theorem Afy {F:Fence} {n:Nat} {P:Program} {ops:Array Oper} {Q:Exit->Act->World->Prop} {i:Nat} {K:Act->World->Prop} {a:Act} {w:World} {d:Tmp} (hd:∀o,ops[i]? =some o->o.dst≠some d) (h:wpOpIn F n P ops Q i K a w):wpOpIn F n P ops Q i (λS w'=>K S w'/\S.tmps[d]? =a.tmps[d]?) a w:=by
 unfold wpOpIn at*;split
 ·exact⟨by simpa[*]using h,rfl⟩
 ·rename_i o R;have y:=hd o R;simp only[R]at h;split
  ·rename_i J;simp only[J,if_true]at h;unfold Oper.wpIn at*;refine⟨h.1,?_⟩;have z:=h.2;generalize(o.semAt F.round a.eval).run P w=r at*;cases r with
   |ok x w'=>
    cases x<;>simp only[Oper.uponIn]at z⊢ <;>
     first
      |exact⟨z,GH y⟩
      |exact⟨z.1,CallsIn.mono z.2 (λe L B=>by cases e<;>first|exact⟨B,GH y⟩|exact B)⟩
      |exact⟨z.1,RowsIn.mono z.2 (λ_ _ B=>⟨B,GH y⟩)⟩
      |exact⟨z.1,RoundIn.mono z.2 (λe L B=>by cases e<;>first|exact⟨B,GH y⟩|exact B)⟩
   |halt x w'=>cases x<;>simp only[Oper.uponIn]at z⊢ <;>exact z
  ·rename_i J;simp only[J]at h;exact⟨h.1,h.2,GH y⟩
theorem Afv {o:Oper} {y:Nat->Option Bool} (h:o.guard=none):Region.wanted o y=true:=by unfold Region.wanted;rw[h]
def JD (listed:Array Bool) (l:List (Nat×TypeId×Operand×Operand)):List (Nat×TypeId×Operand×Operand):=l.filter λq=>!listed.getD q.1 false
theorem Ae5 {listed:Array Bool} {i:Nat} (hi:i<listed.size):∀l,JD (listed.setIfInBounds i true) l=Uc i (JD listed l)
 | []=>rfl
 |q::l=>by
  have r:=Ae5 (listed:=listed) hi l;unfold JD at r⊢;rw[List.filter_cons,List.filter_cons,r];by_cases h:i=q.1
  ·subst h;have e:(listed.setIfInBounds q.1 true).getD q.1 false=true:=by simp[hi]
   rw[e,An (by simp)];cases hb:listed.getD q.1 false with
   |false=>rw[As (show(!false)=true from rfl)];show _=cond (Nat.beq q.1 q.1) (Uc q.1 _) _;rw[Nat.beq_refl];rfl
   |true=>rw[An (by simp)]
  ·rw[getD_set_ne false h];split
   ·show _=cond (Nat.beq q.1 i) (Uc i _) (q::Uc i _);have:Nat.beq q.1 i=false:=by
     cases hb:Nat.beq q.1 i with
     |false=>rfl
     |true=>exact absurd (D4 hb).symm h
    rw[this];rfl
   ·rfl
theorem w6 {listed:Array Bool} {i:Nat} {l:List (Nat×TypeId×Operand×Operand)} (h:∀q∈l,q.1≠i):JD (listed.setIfInBounds i true) l=JD listed l:=by unfold JD;apply List.filter_congr;intro q r;rw[getD_set_ne false λe=>h q r e.symm]
theorem Aql {listed:Array Bool} {l:List (Nat×TypeId×Operand×Operand)} (h:∀q∈l,¬Ls listed q.1):JD listed l=l:=by unfold JD;rw[List.filter_eq_self];intro q r;have:=h q r;unfold Ls at this;simpa using this
theorem Aqk {listed:Array Bool} {l:List (Nat×TypeId×Operand×Operand)} (h:∀q∈l,Ls listed q.1):JD listed l=[]:=by unfold JD;rw[List.filter_eq_nil_iff];intro q r;have:=h q r;unfold Ls at this;simp[this]
section
variable {t:B5} {P:Program} {call:Da} {R:Array Oper} {s:St} {g:Gh} {kAV vAV:AV}
variable {E:Env} {F:Nat->Option Obj} {ρ0:Ak} {ro rr:Option Nat} {Q:Exit->Act->World->Prop}
def GV (P:Program) (g:Gh) (kAV vAV:AV) (r:Nat->Option Obj) (listed:Array Bool) (a:Act) (E:Env) (F:Nat->Option Obj):Prop:=∃b cap o cc n,r b=none/\E.base b=none/\E.fs b=false/\F b=some cc/\OR (KS b cap) ⟨b,0,cap⟩ o cc/\a.tmps[g.d]? =some (.map (some b))/\(Ls listed g.mv->a.tmps[g.e]? =some (.map (some b)))/\Ut P g kAV vAV n (JD listed g.ins) o=true
structure V8 (t:B5) (P:Program) (g:Gh) (kAV vAV:AV) (R:Array Oper) (s:St) (E:Env) (F:Nat->Option Obj) (ρ0:Ak) (rr:Option Nat) (listed:Array Bool) (a:Act) (w:World) (ρ:Ak) (c:Nat):Prop where
 ex:∃E' F',Sub E E' F F'/\Db t (DC g R) s E' F' ρ0 rr listed a w ρ c/\(Ls listed g.j->GV P g kAV vAV F listed a E' F')
 mj:Ls listed g.mv->Ls listed g.j
 ij:∀q∈g.ins,Ls listed q.1->Ls listed g.j
 mi:Ls listed g.mv->∀q∈g.ins,Ls listed q.1
theorem Adu (ok:Ef t P call (DC g R) s) {listed:Array Bool} {a:Act} {w:World} {ρ:Ak} {c i:Nat} (y:Db t (DC g R) s E F ρ0 rr listed a w ρ c) (hi:i<(DC g R).size) (Y:¬Ls listed i) (z:∀j,t.Cj i j->Ls listed j) (L:(t.oo i).op=.move (.const g.val)) (S:(t.oo i).guard=none) (hv:ofValue g.val=some vAV):(∀o,t.k i≠.new o)/\t.k i≠.Ds/\¬t.Oz i/\t.v i=vAV:=by
 have r:=ok.kind i hi;unfold B5.Le at r;rw[L]at r;have U:Ex (DC g R) (t.FL i) (t.oo i)=some true:=by unfold Ex;rw[S]
 split at r
 ·rw[U]at r;exact absurd r.1 (by simp)
 ·rename_i K;obtain⟨V,hV,x⟩:=r.2.2 c y.Gj (tp y Y) λq W B=>(y.hc q W).1 (z q B);refine⟨by rw[K];simp,by rw[K];simp,(by rintro⟨v,H,nx,e⟩;rw[K]at e;cases e),?_⟩;have:De P V (BR (t.FL i)) (.move (.const g.val))=ofValue g.val:=rfl;rw[this,hv]at x;exact(Option.some.inj x).symm
 ·have:=r.2.2.1;simp[Ew,I2,Ic]at this
 ·obtain⟨_,_,V,_,x⟩:=r;simp[FN,JA,Gk]at x
 ·obtain⟨⟨p,Z,B,J⟩,_⟩:=r;exact absurd J (y.np p (z p B))
 ·obtain⟨_,_,_,V,_,x⟩:=r;simp[FN,JA,Gk]at x
end
section
variable {t:B5} {P:Program} {call:Da} {R:Array Oper} {s:St} {g:Gh} {kAV vAV:AV}
variable {E:Env} {F:Nat->Option Obj} {ρ0:Ak} {ro rr:Option Nat} {Q:Exit->Act->World->Prop}
theorem iF {i:Nat}:g.side i=true↔i=g.j\/i=g.mv\/∃q∈g.ins,q.1=i:=by
 unfold Gh.side;cases x:Nat.beq i g.j with
 |true=>exact⟨λ_=>.inl (D4 x),λ_=>rfl⟩
 |false=>
  have n1:i≠g.j:=λe=>by rw[e,Nat.beq_refl]at x;cases x
  cases r:Nat.beq i g.mv with
  |true=>exact⟨λ_=>.inr (.inl (D4 r)),λ_=>rfl⟩
  |false=>
   have y:i≠g.mv:=λe=>by rw[e,Nat.beq_refl]at r;cases r
   rw[cond_false,cond_false,AbC];exact⟨λh=>.inr (.inr h),λh=>(h.resolve_left n1).resolve_left y⟩
theorem Aa2 {i:Nat} {o:Oper} (h:g.side i=true) (hl:i≠g.lk):(GD g i o).dst=none/\(GD g i o).op=.move (.const g.val):=by
 unfold GD;have:Nat.beq i g.lk=false:=by
  cases hb:Nat.beq i g.lk with
  |false=>rfl
  |true=>exact absurd (D4 hb) hl
 rw[this,h];exact⟨rfl,rfl⟩
theorem Aa1 {o:Oper}:(GD g g.lk o).dst=o.dst/\(GD g g.lk o).op=.move (.const g.val):=by unfold GD;rw[Nat.beq_refl];exact⟨rfl,rfl⟩
theorem dR {i:Nat} {o:Oper} (h:g.side i=false) (hl:i≠g.lk):GD g i o=o:=by
 unfold GD;have:Nat.beq i g.lk=false:=by
  cases hb:Nat.beq i g.lk with
  |false=>rfl
  |true=>exact absurd (D4 hb) hl
 rw[this,h];rfl
theorem Ahb {ρ:Ak} {a:Act} (hv:ofValue g.val=some vAV):VR ρ vAV (a.eval (.const g.val)):=TR.xr (T:=.leaf) (ρ:=ρ) (a:=a) (λt a h=>by rw[Tr.Cy]at h;cases h) (.const g.val) vAV hv
theorem Xd {a:Act} {d:Tmp} {u:Value} (h:a.tmps[d]? =some u):a.eval (.tmp d)=u:=by simp[Act.eval,h]
theorem UY (ok:Ef t P call (DC g R) s) {i:Nat} {o:Oper} (y:R[i]? =some o):i<(DC g R).size/\t.oo i=GD g i o:=by
 have x:(DC g R)[i]? =some (GD g i o):=by rw[s8,y];rfl
 have r:i<(DC g R).size:=(Array.getElem?_eq_some_iff.1 x).1;have:=ok.eu i r;rw[x]at this;exact⟨r,(Option.some.inj this).symm⟩
theorem Als (ok:Ef t P call (DC g R) s) (z:Tm P g R kAV vAV) {i:Nat} (hi:i<(DC g R).size):(t.oo i).dst≠some g.d/\(t.oo i).dst≠some g.e:=by
 have x:i<R.size:=by rw[RG]at hi;exact hi
 obtain⟨_,K⟩:=UY ok (Array.getElem?_eq_getElem x);obtain⟨S,L⟩:=z.gd i _ (Array.getElem?_eq_getElem x);rw[K];cases y:g.side i with
 |true=>
  obtain⟨_,_,_,_,_,r⟩:=z.lk;have hl:i≠g.lk:=λe=>by rw[<-e,y]at r;cases r
  rw[(Aa2 y hl).1];exact⟨by simp,by simp⟩
 |false=>
  obtain⟨J,B⟩:=L y;by_cases hl:i=g.lk
  ·subst hl;rw[Aa1.1];exact⟨J,B⟩
  ·rw[dR y hl];exact⟨J,B⟩
theorem ApR (ok:Ef t P call (DC g R) s) (B:Tm P g R kAV vAV) {listed:Array Bool} {a:Act} {w:World} {ρ:Ak} {c i:Nat} {o:Oper} (y:Db t (DC g R) s E F ρ0 rr listed a w ρ c) (K:R[i]? =some o) (J:g.side i=true) (L:¬Ls listed i) (r:∀j,t.Cj i j->Ls listed j):Db t (DC g R) s E F ρ0 rr (listed.setIfInBounds i true) a w ρ c:=by
 obtain⟨hi,x⟩:=UY ok K;obtain⟨_,_,_,_,_,z⟩:=B.lk;have hl:i≠g.lk:=λe=>by rw[<-e,J]at z;cases z
 obtain⟨Z,Y⟩:=Aa2 (o:=o) J hl;obtain⟨W,V,U,S⟩:=Adu ok y hi L r (by rw[x];exact Y) (by rw[x,Aa0];exact(B.gd i o K).1) B.val.1;have:=iN ok y hi L r W V U (u:=a.eval (.const g.val)) (by rw[S];exact Ahb B.val.1);rw[x,Z]at this;exact this
theorem Aim (aE:GX P call) (ok:Ef t P call (DC g R) s) (hg:Tm P g R kAV vAV) (aO:∀b o,E.base b=some o->F b=some o) (aZ:t.v g.kx=kAV) (bb:s.T.get g.d=none) (ba:s.T.get g.e=none) (a7:g.d<s.N) (a5:g.e<s.N) (hP:∀listed a w ρ c i v H' nx',i<R.size->t.k i=.AG v H' nx'->(∀j,t.Cj i j->Ls listed j)->∀u V w',RX s.nx nx' ρ0 V->Rel E F nx' V H'.get w'->VR V v u->Db t (DC g R) s E F ρ0 rr listed a w ρ c->ρ.le V->Q (.panic (fresh u)) a w') {listed:Array Bool} {a:Act} {w:World} {ρ:Ak} {c i:Nat} (aU:V8 t P g kAV vAV R s E F ρ0 rr listed a w ρ c) {o:Oper} (ho:R[i]? =some o) (hL:¬Ls listed i) (he:∀e∈o.after,Region.binds .any e=true->Ls listed e.on) {K:Act->World->Prop} (hK:∀V c' a' w',V8 t P g kAV vAV R s E F ρ0 rr (listed.setIfInBounds i true) a' w' V c'->K a' w'):wpOpIn (FW ro) 0 P R Q i K a w:=by
 obtain⟨⟨E',F',r,Y,ai⟩,au,aK,aw⟩:=aU;obtain⟨hi,ag⟩:=UY ok ho;have hR:i<R.size:=by rw[RG]at hi;exact hi
 have aF:i<listed.size:=by rw[Y.size];exact hi
 have B:=λj=>Wa (listed:=listed) (j:=j) aF;have ad:∀j,t.Cj i j->Ls listed j:=λj hj=>by
  obtain⟨bf,e,aA,hb,ar⟩:=ok.Cj i j hi hj;rw[ag,Uw]at aA;have aI:Ls listed e.on:=he e aA hb;rcases ar with rfl|ar
  ·exact aI
  ·have:e.on<i:=ok.K8 i e hi (by rw[ag,Uw];exact aA) hb;exact Y.down e.on j (by omega) aI ar
 have hE:∀j,Kv o j=true->Ls listed j:=λj h=>by obtain⟨e,h1,h2,rfl⟩:=sq h;exact he e h1 h2
 obtain⟨ay,aT⟩:=hg.gd i o ho;have aC:Region.wanted o (yielded R a.tmps)=true:=Afv ay;have aM:=λk (Z:k<(DC g R).size)=>Als ok hg Z;unfold wpOpIn;rw[ho];simp only[aC,if_true];cases hs:g.side i with
 |true=>
  have ds:=ApR ok hg Y ho hs hL ad;rcases iF.1 hs with rfl|rfl|⟨q,hq,rfl⟩
  ·-- bd map is made
   have W:=hg.mt o ho;obtain⟨o1,L,S,_⟩:=hg.made;rw[ho]at L;injection L with L;subst L;obtain⟨n,o0,hn,AA⟩:=hg.ok;rw[<-W]at hn;obtain⟨u,w1,aq,cap,h4,h5,h6,h7⟩:=rm (P:=P) (ρ:=⟨λ_=>none,λ_=>none⟩) (w:=w) (f:=a.eval) (λx a h=>by cases h) (ni:=0) rfl o hn;have h6:OR (KS w.heap.size cap) ⟨w.heap.size,0,cap⟩ o0 aq:=h6;have h7:VR (KS w.heap.size cap) (.map 0) u:=h7;have hu:u=.map (some w.heap.size):=by
    cases h7 with
    |map _ b hb=>obtain⟨_,rfl⟩:=VJ hb;rfl
   subst hu;have ab:¬Ls listed g.mv:=λh=>hL (au h);have ao:∀q∈g.ins,¬Ls listed q.1:=λq hq h=>hL (aK q hq h);obtain⟨r1,r2,r3,r4⟩:=AlP ds.rel (c:=aq) h5;refine FX (by rw[W];simp) (.inl h4) (hK ρ c _ _ ⟨⟨zx E' w.heap.size,_,?_,Db.re ds r1 (λk d Z hl hd=>GH ?_) (λd x J=>GH ?_) (by rw[S];simp[Act.put]) (by rw[S];rfl),λ_=>?_⟩,λ_=>(B _).2 (.inl rfl),λ_ _ _=>(B _).2 (.inl rfl),λh=>absurd (((B _).1 h).resolve_left λe=>(by obtain⟨_,_,_,_,_,U,_⟩:=hg.mv;exact U e)) ab⟩)
   ·exact⟨r.t,r.o,r.p,r.b,λk Z=>by
     have Z:(if k=w.heap.size then false else E'.fs k)=true:=Z;split at Z
     ·cases Z
     ·exact r.f k Z,λk x Z=>by
     have:=r.F k x Z;have U:k≠w.heap.size:=λe=>by rw[e,r2]at this;cases this
     show(if k=w.heap.size then some aq else F' k)=_;rw[An U];exact this⟩
   ·rw[S];intro e;injection e with e;exact(aM k Z).1 (by rw[hd,e])
   ·rw[S];intro e;injection e with e;rw[<-e,bb]at J;cases J
   ·refine⟨w.heap.size,cap,o0,aq,n,?_,r3,As rfl,As rfl,h6,?_,λh=>?_,?_⟩
    ·cases hF:F w.heap.size with
     |none=>rfl
     |some x=>have:=r.F _ _ hF;rw[r2]at this;cases this
    ·rw[S];simp[Act.put,Y.sz,a7]
    ·rcases(B _).1 h with e|h
     ·obtain⟨_,_,_,_,_,U,_⟩:=hg.mv;exact absurd e U
     ·exact absurd h ab
    ·rw[w6 (λq hq e=>by obtain⟨_,_,_,_,_,U,_⟩:=hg.ins q hq;exact U e),Aql ao];exact AA
  ·-- it is bc
   obtain⟨o1,L,S,W,az,U,aS⟩:=hg.mv;rw[ho]at L;injection L with L;subst L;have hj:=hE _ az;obtain⟨b,cap,oo,cc,n,e0,e1,e2,e3,e4,e5,e6,e7⟩:=ai hj;have h4:(execOp a.eval o).run P w=.ok (.value (.map (some b))) w:=by have:=Xd e5;obtain⟨dst,op,type,pos,after,guard⟩:=o;simp only at W;subst W;simp[execOp,this]
   refine FX (by rw[W];simp) (.inl h4) (hK ρ c _ _ ⟨⟨E',F',r,Db.re ds ds.rel (λk d Z hl hd=>GH ?_) (λd x J=>GH ?_) (by rw[S];simp[Act.put]) (by rw[S];rfl),λ_=>⟨b,cap,oo,cc,n,e0,e1,e2,e3,e4,?_,λ_=>?_,?_⟩⟩,λ_=>(B _).2 (.inr hj),λq hq h=>(B _).2 (.inr hj),λ_ q hq=>(B _).2 (.inr (hE _ (aS q hq)))⟩)
   ·rw[S];intro e;injection e with e;exact(aM k Z).2 (by rw[hd,e])
   ·rw[S];intro e;injection e with e;rw[<-e,ba]at J;cases J
   ·rw[GH (by rw[S];intro e;injection e with e;exact hg.de e.symm)];exact e5
   ·rw[S];simp[Act.put,Y.sz,a5]
   ·rw[w6 (λq hq e=>by obtain⟨_,_,_,_,_,_,U⟩:=hg.ins q hq;exact U e)];exact e7
  ·-- an entry
   obtain⟨o1,L,S,W,az,aG,ab⟩:=hg.ins q hq;rw[ho]at L;injection L with L;subst L;have hj:=hE _ az;obtain⟨b,cap,oo,cc,n,e0,e1,e2,e3,e4,e5,e6,e7⟩:=ai hj;have aj:q∈JD listed g.ins:=by unfold JD;rw[List.mem_filter];refine⟨hq,?_⟩;unfold Ls at hL;simpa using hL
   have aD:∃n' k v H' o',BR .leaf q.2.2.1=some k/\BR .leaf q.2.2.2=some v/\Un P (Tr.leaf.set 0 oo) q.2.1 (.map 0) k v=some H'/\H'.get 0=some o'/\Ut P g kAV vAV n' (Uc q.1 (JD listed g.ins)) o'=true:=by
    generalize JD listed g.ins=td at e7 aj;have U:td.isEmpty=false:=by cases td with
     |nil=>cases aj
     |cons _ _=>rfl
    cases n with
    |zero=>have e7:cond td.isEmpty _ false=true:=e7;rw[U]at e7;cases e7
    |succ n=>
     have e7:cond td.isEmpty _ (EH _ td)=true:=e7;rw[U,cond_false]at e7;have:=JH e7 q aj;cases J:(ob (BR .leaf q.2.2.1) λk=>ob (BR .leaf q.2.2.2) λv=>ob (Un P (Tr.leaf.set 0 oo) q.2.1 (.map 0) k v) λH=>H.get 0)with
     |none=>rw[J]at this;cases this
     |some o'=>rw[J]at this;obtain⟨k,h1,J⟩:=Ai.1 J;obtain⟨v,h2,J⟩:=Ai.1 J;obtain⟨H',h3,J⟩:=Ai.1 J;exact⟨n,k,v,H',o',h1,h2,h3,J,this⟩
   obtain⟨n',k,v,H',o',s1,s2,s3,s4,s5⟩:=aD;have aB:w.heap[b]? =some cc:=Y.rel.fr b cc e3;have xr:XR (KS b cap) (BR .leaf) a.eval:=TR.xr (λt a h=>by rw[Tr.Cy]at h;cases h);obtain⟨w',h6,h7⟩:=rf (P:=P) (AdD aB e4) (t:=q.2.1) (m:=.map 0) (um:=.map (some b)) (.map 0 ⟨b,0,cap⟩ rfl) (xr _ _ s1) (xr _ _ s2) s3;obtain⟨c',a8,aQ⟩:=h7.ob 0 o' ⟨b,0,cap⟩ s4 rfl;have ah:a.eval (.tmp g.d)=.map (some b):=Xd e5;have h4:(execOp a.eval o).run P w=.ok .skip w':=by obtain⟨dst,op,type,pos,after,guard⟩:=o;simp only at W;subst W;simp[execOp,ah,h6]
   have aP:a.put o.dst undef=a:=by rw[S];rfl
   refine FX (by rw[W];simp) (.inr ⟨h4,rfl⟩) (hK ρ c _ _ ?_);rw[aP];refine⟨⟨E',_,?_,Db.re ds (AlQ ds.rel e3 e1 e2 h7.tape h7.os h7.output a8 λk x Z J=>h7.fr k x (by unfold sS;rw[An Z];exact J)) (λ_ _ _ _ _=>rfl) (λ_ _ _=>rfl) rfl rfl,λ_=>⟨b,cap,o',c',n',e0,e1,e2,As rfl,aQ,e5,λh=>e6 (((B _).1 h).resolve_left λe=>ab e.symm),?_⟩⟩,λh=>(B _).2 (.inr hj),λ_ _ _=>(B _).2 (.inr hj),λh q' aW=>(B _).2 (.inr (aw (((B _).1 h).resolve_left λe=>ab e.symm) q' aW))⟩
   ·refine⟨r.t,r.o,r.p,r.b,r.f,λk x Z=>?_⟩;have:=r.F k x Z;have U:k≠b:=λe=>by subst e;rw[e0]at Z;cases Z
    show(if k=b then some c' else F' k)=_;rw[An U];exact this
   ·rw[Ae5 aF];exact s5
 |false=>
  obtain⟨S,aN⟩:=aT hs;have aG:i≠g.j:=λe=>by rw[iF.2 (.inl e)]at hs;cases hs
  have ab:i≠g.mv:=λe=>by rw[iF.2 (.inr (.inl e))]at hs;cases hs
  have ao:∀q∈g.ins,q.1≠i:=λq hq e=>by rw[iF.2 (.inr (.inr ⟨q,hq,e⟩))]at hs;cases hs
  have ae:∀j,j≠i->Ls (listed.setIfInBounds i true) j->Ls listed j:=λj hj h=>((B j).1 h).resolve_left hj;have ak:∀ {a':Act} {E1:Env} {F1:Nat->Option Obj},GV P g kAV vAV F listed a E1 F1->a'.tmps[g.d]? =a.tmps[g.d]?->a'.tmps[g.e]? =a.tmps[g.e]?->GV P g kAV vAV F (listed.setIfInBounds i true) a' E1 F1:=λh k1 k2=>by obtain⟨b,cap,oo,cc,n,e0,e1,e2,e3,e4,e5,e6,e7⟩:=h;exact⟨b,cap,oo,cc,n,e0,e1,e2,e3,e4,k1.trans e5,λh=>k2.trans (e6 (ae _ ab.symm h)),by rw[w6 ao];exact e7⟩
  have mj:Ls (listed.setIfInBounds i true) g.mv->Ls (listed.setIfInBounds i true) g.j:=λh=>(B _).2 (.inr (au (ae _ ab.symm h)));have ij:∀q∈g.ins,Ls (listed.setIfInBounds i true) q.1->Ls (listed.setIfInBounds i true) g.j:=λq hq h=>(B _).2 (.inr (aK q hq (ae _ (ao q hq) h)));have mi:Ls (listed.setIfInBounds i true) g.mv->∀q∈g.ins,Ls (listed.setIfInBounds i true) q.1:=λh q hq=>(B _).2 (.inr (aw (ae _ ab.symm h) q hq));by_cases aH:i=g.lk
  ·-- it is looked at
   subst aH;obtain⟨o1,L,W,a4,aL,_⟩:=hg.lk;rw[ho]at L;injection L with L;subst L;have hm:=hE _ a4;have hj:=au hm;obtain⟨b,cap,oo,cc,n,e0,e1,e2,e3,e4,e5,e6,e7⟩:=ai hj;rw[Aqk λq hq=>aw hm q hq]at e7;have e7:Option.rec (motive:=λ_=>Bool) false (λa=>Cp a vAV) (De P (Tr.leaf.set 0 oo) (Xk g kAV) (.lookup g.lt (.tmp g.e) (.tmp g.key) false))=true:=by cases n<;>exact e7
   obtain⟨ox,aX,a6,aV⟩:=hg.kx;obtain⟨a3,aR⟩:=UY ok aX;have aY:g.kx≠g.lk:=λe=>by obtain⟨ed,h1,h2,h3⟩:=sq aL;have:=ok.K8 g.lk ed hi (by rw[ag,Uw];exact h1) h2;omega
   obtain⟨uk,a2,aJ⟩:=Y.Q3 g.kx g.key a3 (hE _ aL) (by rw[aR,dR aV aY];exact a6);rw[aZ]at aJ;cases ah:De P (Tr.leaf.set 0 oo) (Xk g kAV) (.lookup g.lt (.tmp g.e) (.tmp g.key) false)with
   |none=>rw[ah]at e7;cases e7
   |some av=>
    rw[ah]at e7;have a9:=TN _ _ e7;subst a9;have aB:w.heap[b]? =some cc:=Y.rel.fr b cc e3;have hX:XR (KS b cap) (Xk g kAV) a.eval:=λx y J=>by
     cases x with
     |tmp d=>
      have J:cond (Nat.beq d g.e) (some (.map 0)) (cond (Nat.beq d g.d) (some (.map 0)) (cond (Nat.beq d g.key) (some kAV) none))=some y:=J;cases b1:Nat.beq d g.e with
      |true=>rw[b1]at J;injection J with J;subst J;rw[D4 b1,Xd (e6 hm)];exact .map 0 ⟨b,0,cap⟩ rfl
      |false=>
      rw[b1,cond_false]at J;cases b2:Nat.beq d g.d with
      |true=>rw[b2]at J;injection J with J;subst J;rw[D4 b2,Xd e5];exact .map 0 ⟨b,0,cap⟩ rfl
      |false=>
      rw[b2,cond_false]at J;cases b3:Nat.beq d g.key with
      |true=>rw[b3]at J;injection J with J;subst J;rw[D4 b3,Xd a2];exact AqU hg.key aJ
      |false=>rw[b3]at J;cases J
     |const v=>exact TR.xr (T:=.leaf) (ρ:=KS b cap) (a:=a) (λt a h=>by rw[Tr.Cy]at h;cases h) (.const v) y J
     |func f=>exact TR.xr (T:=.leaf) (ρ:=KS b cap) (a:=a) (λt a h=>by rw[Tr.Cy]at h;cases h) (.func f) y J
     |global f=>exact TR.xr (T:=.leaf) (ρ:=KS b cap) (a:=a) (λt a h=>by rw[Tr.Cy]at h;cases h) (.global f) y J
    rw[<-W]at ah;obtain⟨z,h4,h5⟩:=rp (AdD aB e4) (HS.refl _ _) hX o ah;obtain⟨l1,l2⟩:=Aa1 (g:=g) (o:=o);obtain⟨p1,p2,p3,p4⟩:=Adu ok Y hi hL ad (by rw[ag];exact l2) (by rw[ag,Aa0];exact ay) hg.val.1;obtain⟨_,k,nn,hint⟩:=hg.val;have ds:=iN ok Y hi hL ad p1 p2 p3 (u:=z) (by rw[p4,hint];rw[hint]at h5;exact AqT h5);rw[ag,l1]at ds;refine FX (by rw[W];simp) (.inl h4) (hK ρ c _ _ ⟨⟨E',F',r,ds,λ_=>ak (ai hj) (GH S) (GH aN)⟩,mj,ij,mi⟩)
  ·-- any other one
   have af:(DC g R)[i]? =some o:=by rw[s8,ho];exact congrArg some (dR hs aH)
   have h1:=AeE (ro:=ro) (Q:=Q) aE ok Y hi hL ad (K:=λa' w'=>∃V c',Db t (DC g R) s E' F' ρ0 rr (listed.setIfInBounds i true) a' w' V c') (λV c' a' w' h=>⟨V,c',h⟩) λv H' nx' Z u V w' h3 h4 h5 h6 h7=>hP listed a w ρ c i v H' nx' hR Z ad u V w' h3 (r.rel aO h4) h5 (Db.re h6 (r.rel aO h6.rel) (λ_ _ _ _ _=>rfl) (λ_ _ _=>rfl) rfl rfl) h7;have h2:=Afy (d:=g.d) (λo' aa=>by rw[af]at aa;injection aa with aa;subst aa;exact S) h1;have h3:=Afy (d:=g.e) (λo' aa=>by rw[af]at aa;injection aa with aa;subst aa;exact aN) h2;unfold wpOpIn at h3;rw[af]at h3;simp only[Afv ay,if_true]at h3;refine Oper.wpIn_mono (λa' w' h=>?_) h3;obtain⟨⟨⟨V,c',hd⟩,k1⟩,k2⟩:=h;exact hK V c' a' w' ⟨⟨E',F',r,hd,λh=>ak (ai (ae _ aG.symm h)) k1 k2⟩,mj,ij,mi⟩
end
section
variable {t:B5} {P:Program} {call:Da} {R:Array Oper} {s:St} {g:Gh} {kAV vAV:AV}
variable {E:Env} {F:Nat->Option Obj} {ρ0:Ak} {ro rr:Option Nat} {Q:Exit->Act->World->Prop}
theorem AlJ {listed:Array Bool} {i:Nat}:i∈Region.ready .any (DC g R) listed↔i∈Region.ready .any R listed:=by
 rw[mem_ready,mem_ready,s8];constructor
 ·rintro⟨y,o,r,x⟩;cases z:R[i]? with
  |none=>rw[z]at r;cases r
  |some o'=>rw[z]at r;have r:some (GD g i o')=some o:=r;injection r with r;subst r;rw[Uw]at x;exact⟨y,o',rfl,x⟩
 ·rintro⟨y,o,r,x⟩;exact⟨y,GD g i o,by rw[r];rfl,by rw[Uw];exact x⟩
theorem Aa3 (U:GX P call) (ok:Ef t P call (DC g R) s) (hg:Tm P g R kAV vAV) (Y:∀b o,E.base b=some o->F b=some o) (ad:t.v g.kx=kAV) (ah:s.T.get g.d=none) (ag:s.T.get g.e=none) (af:g.d<s.N) (ae:g.e<s.N) (hP:∀listed a w ρ c i v H' nx',i<R.size->t.k i=.AG v H' nx'->(∀j,t.Cj i j->Ls listed j)->∀u z w',RX s.nx nx' ρ0 z->Rel E F nx' z H'.get w'->VR z v u->Db t (DC g R) s E F ρ0 rr listed a w ρ c->ρ.le z->Q (.panic (fresh u)) a w') (hQ:∀listed a w ρ c,Db t (DC g R) s E F ρ0 rr listed a w ρ c->(∀i,i<R.size->Ls listed i)->Q .normal a w):∀(r:Nat) (listed:Array Bool) (a:Act) (w:World) (ρ:Ak) (c:Nat),V8 t P g kAV vAV R s E F ρ0 rr listed a w ρ c->Kd R.size listed<=r->wpAnyIn (FW ro) 0 P .any R Q r listed a w:=by
 have S:∀ {listed:Array Bool} {a:Act} {w:World} {ρ:Ak} {c:Nat},V8 t P g kAV vAV R s E F ρ0 rr listed a w ρ c->Db t (DC g R) s E F ρ0 rr listed a w ρ c:=λy=>by obtain⟨E',F',ab,Z,_⟩:=y.ex;exact Db.re Z (ab.rel Y Z.rel) (λ_ _ _ _ _=>rfl) (λ_ _ _=>rfl) rfl rfl
 intro r
 induction r with
 |zero=>
  intro listed a w ρ c y hf;have K:∀i,i<R.size->listed.getD i true=true:=λi hi=>by
   have h0:Kd R.size listed=0:=by omega
   unfold Kd at h0;rw[List.countP_eq_zero]at h0;have:=h0 i (List.mem_range.2 hi);simpa using this
  refine⟨?_,hQ listed a w ρ c (S y) λi hi=>?_⟩
  ·rw[List.eq_nil_iff_forall_not_mem];intro i hi;rw[mem_ready]at hi;obtain⟨V,o,ho,_⟩:=hi;have J:i<R.size:=(Array.getElem?_eq_some_iff.1 ho).1;rw[K i J]at V;cases V
  ·unfold Ls;rw[<-Xj (by rw[(S y).size,RG];exact hi)];exact K i hi
 |succ r ih=>
  intro listed a w ρ c y hf;have B:=S y;refine⟨λh=>hQ listed a w ρ c B λi hi=>xy ok B.size ?_ i (by rw[RG];exact hi),λi hi=>?_⟩
  ·rw[List.eq_nil_iff_forall_not_mem]at h⊢;exactλj hj=>h j (AlJ.1 hj)
  rw[mem_ready]at hi;obtain⟨V,o,ho,h2⟩:=hi;have J:i<R.size:=(Array.getElem?_eq_some_iff.1 ho).1;have L:i<listed.size:=by rw[B.size,RG];exact J
  have hL:¬Ls listed i:=by unfold Ls;rw[<-Xj L,V];simp
  refine Aim U ok hg Y ad ah ag af ae hP y ho hL h2 λz c' a' w' aa=>ih _ a' w' z c' aa ?_;have:Kd R.size (listed.setIfInBounds i true)<Kd R.size listed:=by
   unfold Kd;apply ou
   ·intro x hx hp;by_cases W:i=x
    ·subst W;simp[L]at hp
    ·rwa[getD_set_ne true W]at hp
   ·exact⟨i,List.mem_range.2 J,by simp[V],by simp[L]⟩
  omega
theorem Aa4 (ok:Ef t P call (DC g R) s) {a:Act} {w:World} (r:SR E F ρ0 s a w rr):V8 t P g kAV vAV R s E F ρ0 rr (Array.replicate R.size false) a w.drew ρ0 0:=by
 have hn:∀i,¬Ls (Array.replicate R.size false) i:=λi=>by unfold Ls;by_cases h:i<R.size<;>simp[Array.getD,h]
 have:=pG ok r;rw[RG]at this;exact⟨⟨E,F,⟨rfl,rfl,rfl,rfl,λ_ h=>h,λ_ _ h=>h⟩,this,λh=>absurd h (hn _)⟩,λh=>absurd h (hn _),λq _ h=>absurd h (hn _),λh=>absurd h (hn _)⟩
end
def oS (P:Program) (tb:DQ) (ht:CZ) (g:Gh) (kAV:AV) (ops:Array Oper) (s:St) (K:KX):Prop:=Bp (WZ (DC g ops)) λy=>fN (DC g ops).size λn=>fN (s.nx+n) λx=>cA P tb ht (DC g ops) s.N s.nx y (λr=>(oL P r s.nx s.H/\Ap (match r.T.get g.key with
   |some a=>Cp a kAV
   |none=>false) True)/\
  (Option.rec (motive:=λ_=>Prop) (K .Bh ⟨s.N,r.T,MT r.news r.Az n s.nx r.H,r.nx,s.ro,s.D⟩) (λq=>K (.AG q.v) ⟨s.N,Kr q.A (DC g ops).toList 0 r.T,q.H,q.nx,s.ro,s.D⟩) r.pn)) (DC g ops).toList 0 ⟨[],[],[],s.T,s.H,x,0,none⟩
theorem AgL {P:Program} (hm:P.follows .mixedOrders=true) {tb:DQ} {ht:CZ} (ay:EU P tb) (aG:Es P ht) {g:Gh} {kAV vAV:AV} {R:Array Oper} (hg:Tm P g R kAV vAV) {s:St} {K:KX} (an:s.T.get g.d=none) (ak:s.T.get g.e=none) (ai:g.d<s.N) (ah:g.e<s.N) (h:oS P tb ht g kAV R s K) {id:Nat} {E:Env} {F:Nat->Option Obj} {n0:Nat} {ρ0 ρ:Ak} {a:Act} {w:World} {ro:Option Nat} {Q:Exit->Act->World->Prop} (J:V9 E F n0 ρ0 ro K Q) (hn:n0<=s.nx) (hk:Dc n0 ρ0 ρ) (hs:SR E F ρ s a w ro): (Code.region id R true).wpIn (FW ro) 0 P Q a w:=by
 obtain⟨AT,h1,h2⟩:=BV h;simp only[Bv]at h2;obtain⟨σ,h3,⟨h4,B⟩,h5⟩:=oT h2;obtain⟨t,ok,aL,en⟩:=Ahk h1 h3 (yS h4);have V:=yb ay aG (P:=P);have af:t.v g.kx=kAV:=by
  obtain⟨B,_⟩:=EE.1 B;cases hT:σ.T.get g.key with
  |none=>rw[hT]at B;cases B
  |some x=>
   rw[hT]at B;have hx:=TN _ _ B;subst hx;rw[<-en.T]at hT;obtain⟨ox,aA,aI,az⟩:=hg.kx;obtain⟨ag,au⟩:=UY ok aA;obtain⟨ol,aB,_,_,aH,_⟩:=hg.lk;obtain⟨aF,av⟩:=UY ok aB;have aD:g.kx≠g.lk:=λe=>by obtain⟨ed,L,Y,W⟩:=sq aH;have:=ok.K8 g.lk ed aF (by rw[av,Uw];exact L) Y;omega
   have hd:(t.oo g.kx).dst=some g.key:=by rw[au,dR az aD];exact aI
   rcases Q1 ok _ g.key x (AH _) hT with⟨k,k1,k2,k3⟩|⟨k1,k2⟩
   ·have:=ok.dst k g.kx g.key k1 ag k2 hd;subst this;exact k3
   ·exact absurd hd (k1 g.kx ag)
 have Z:=RG g R;have aj:=hs.rel.bs;cases aa:σ.pn with
 |none=>
  rw[aa]at h5;obtain⟨aC,hH⟩:=en.Bh aa;refine wpIn_region_any hm (Aa3 V ok hg aj af an ak ai ah (E:=E) (F:=F) (ρ0:=ρ) (rr:=ro) (λ_ _ _ _ _ i v H' nx' hi hk=>absurd ⟨v,H',nx',hk⟩ (aC i (by rw[Z];exact hi))) (λlisted a' w' S c r U=>?_) _ _ _ _ ρ 0 (Aa4 ok hs) cn);have y:∀i,i<(DC g R).size->Ls listed i:=λi hi=>U i (by rw[Z]at hi;exact hi);obtain⟨hG,ae⟩:=Za ok (cO r.Gj) (AH _) λq J=>by rw[<-r.hc q J];exact⟨λ_=>J.1,λ_=>y q J.1⟩
  have aM:∀q,t.hv (DC g R).size q->q<c:=λq J=>(r.hc q J).1 (y q J.1);have ad:s.nx<=σ.nx:=by have:=r.nn;rw[<-en.nx,<-ae];omega
  refine J .Bh _ S a' w' h5 (Ho hn ad) (hk.trans (Dc.Nn ⟨r.le,r.lo,ad⟩ hn)) ⟨?_,?_,r.sz,r.dr,r.rr⟩
  ·show Rel E F σ.nx S (MT σ.news σ.Az (DC g R).size s.nx σ.H).get w';rw[<-en.nx,<-ae];refine r.rel.less λx o hx=>?_;rcases hH x o hx with⟨j,L,Y,W,rfl⟩|h
   ·exact Nf ⟨L,y j L,λq J _=>W q J J.1⟩ Y
   ·rw[<-hG]at h;refine Xl h λj o' e hp hj=>?_;subst e;rw[Xh ok r hp hj]at h;cases h
  ·intro d b hb;have hb:σ.T.get d=some b:=hb;rw[<-en.T]at hb;rcases Q1 ok _ d b (AH _) hb with⟨k,L,Y,W⟩|⟨L,Y⟩
   ·subst W;exact r.Q3 k d L (y k L) Y
   ·exact r.Ta d b (λi hi _=>L i hi) Y
 |some q=>
  rw[aa]at h5;obtain⟨hp,ar,aw,hT⟩:=en.AG q aa;refine wpIn_region_any hm (Aa3 V ok hg aj af an ak ai ah (E:=E) (F:=F) (ρ0:=ρ) (rr:=ro) (λlisted a' w1 aK c i v' aJ nx' hi aE aq u S w' hx ao hv r ab=>?_) (λlisted a' w' S c r U=>absurd ar (r.np q.p (U q.p (by rw[<-Z];exact hp)))) _ _ _ _ ρ 0 (Aa4 ok hs) cn);obtain⟨rfl,rfl,rfl,rfl⟩:=aw i v' aJ nx' (by rw[Z];exact hi) aE;refine J (.AG q.v) _ S a' w' h5 (Ho hn hx.nn) (hk.trans (Dc.Nn hx hn)) ⟨ao,?_,r.sz,r.dr.mono ab,r.rr.mono ab⟩ u hv;intro d b hb;obtain⟨L,Y⟩:=hT d b hb;rcases Q1 ok _ d b (AH _) L with⟨k,W,e4,e5⟩|⟨W,e4⟩
  ·subst e5;obtain⟨z,e6,e7⟩:=r.Q3 k d W (aq k (Y k W e4)) e4;exact⟨z,e6,e7.mono ab⟩
  ·obtain⟨z,e6,e7⟩:=r.Ta d b (λi hi _=>W i hi) e4;exact⟨z,e6,e7.mono ab⟩
def eJ (l:List Oper):Nat->Option (Nat×Tmp×TypeId):=List.rec (motive:=λ_=>Nat->Option (Nat×Tmp×TypeId)) (λ_=>none) (λo _ r i=>match o.op,o.dst with
  |.makeMap t none,some d=>some (i,d,t)
  |_,_=>fN (i+1) r) l
def RL (d:Tmp) (l:List Oper):Nat->List (Nat×TypeId×Operand×Operand):=List.rec (motive:=λ_=>Nat->List (Nat×TypeId×Operand×Operand)) (λ_=>[]) (λo _ r i=>match o.op with
  |.insert t (.tmp x) k v=>cond (Nat.beq x d) ((i,t,k,v)::fN (i+1) r) (fN (i+1) r)
  |_=>fN (i+1) r) l
def XF (d:Tmp) (l:List Oper):Nat->Option (Nat×Tmp):=List.rec (motive:=λ_=>Nat->Option (Nat×Tmp)) (λ_=>none) (λo _ r i=>match o.op,o.dst with
  |.move (.tmp x),some e=>cond (Nat.beq x d) (some (i,e)) (fN (i+1) r)
  |_,_=>fN (i+1) r) l
def XB (e:Tmp) (l:List Oper):Nat->Option (Nat×TypeId×Tmp):=List.rec (motive:=λ_=>Nat->Option (Nat×TypeId×Tmp)) (λ_=>none) (λo _ r i=>match o.op with
  |.lookup t (.tmp x) (.tmp k) false=>cond (Nat.beq x e) (some (i,t,k)) (fN (i+1) r)
  |_=>fN (i+1) r) l
def Xz (k:Tmp) (l:List Oper):Nat->Option (Nat×Op):=List.rec (motive:=λ_=>Nat->Option (Nat×Op)) (λ_=>none) (λo _ r i=>match o.dst with
  |some d=>cond (Nat.beq d k) (some (i,o.op)) (fN (i+1) r)
  |none=>fN (i+1) r) l
theorem Acn {j:Nat} {d:Tmp} {t:TypeId}:∀(l:List Oper) (p:Nat),eJ l p=some (j,d,t)->∃o,p<=j/\l[j-p]? =some o/\o.dst=some d/\o.op=.makeMap t none
 | [],p,h=>by cases h
 |o::l,p,h=>by
  have next:fN (p+1) (eJ l)=some (j,d,t)->∃x,p<=j/\(o::l)[j-p]? =some x/\x.dst=some d/\x.op=.makeMap t none:=λh=>by rw[Bv]at h;obtain⟨x,z,y,r⟩:=Acn l (p+1) h;exact⟨x,by omega,by rw[show j-p=(j-(p+1))+1 by omega,List.getElem?_cons_succ];exact y,r⟩
  have h:(match o.op,o.dst with
   |.makeMap t none,some d=>some (p,d,t)
   |_,_=>fN (p+1) (eJ l))=some (j,d,t):=h
  split at h
  ·rename_i J B;injection h with h;injection h with z h;injection h with y r;subst z;subst y;subst r;exact⟨o,AH _,by simp,B,J⟩
  ·exact next h
theorem AbD {d:Tmp} {q:Nat×TypeId×Operand×Operand}:∀(l:List Oper) (p:Nat),q∈RL d l p->∃o,p<=q.1/\l[q.1-p]? =some o/\o.op=.insert q.2.1 (.tmp d) q.2.2.1 q.2.2.2
 | [],p,h=>by cases h
 |o::l,p,h=>by
  have next:q∈fN (p+1) (RL d l)->∃x,p<=q.1/\(o::l)[q.1-p]? =some x/\x.op=.insert q.2.1 (.tmp d) q.2.2.1 q.2.2.2:=λh=>by rw[Bv]at h;obtain⟨x,J,z,y⟩:=AbD l (p+1) h;exact⟨x,by omega,by rw[show q.1-p=(q.1-(p+1))+1 by omega,List.getElem?_cons_succ];exact z,y⟩
  have h:q∈(match o.op with
   |.insert t (.tmp r) k v=>cond (Nat.beq r d) ((p,t,k,v)::fN (p+1) (RL d l)) (fN (p+1) (RL d l))
   |_=>fN (p+1) (RL d l)):=h
  split at h
  ·rename_i t r k v B;cases hb:Nat.beq r d with
   |false=>rw[hb]at h;exact next h
   |true=>
    rw[hb]at h;rcases Dp.1 h with rfl|h
    ·exact⟨o,AH _,by simp,by rw[B,D4 hb]⟩
    ·exact next h
  ·exact next h
theorem Acq {j:Nat} {d e:Tmp}:∀(l:List Oper) (p:Nat),XF d l p=some (j,e)->∃o,p<=j/\l[j-p]? =some o/\o.dst=some e/\o.op=.move (.tmp d)
 | [],p,h=>by cases h
 |o::l,p,h=>by
  have next:fN (p+1) (XF d l)=some (j,e)->∃x,p<=j/\(o::l)[j-p]? =some x/\x.dst=some e/\x.op=.move (.tmp d):=λh=>by rw[Bv]at h;obtain⟨x,z,r,B⟩:=Acq l (p+1) h;exact⟨x,by omega,by rw[show j-p=(j-(p+1))+1 by omega,List.getElem?_cons_succ];exact r,B⟩
  have h:(match o.op,o.dst with
   |.move (.tmp y),some e=>cond (Nat.beq y d) (some (p,e)) (fN (p+1) (XF d l))
   |_,_=>fN (p+1) (XF d l))=some (j,e):=h
  split at h
  ·rename_i y L K J;cases hb:Nat.beq y d with
   |false=>rw[hb]at h;exact next h
   |true=>rw[hb]at h;injection h with h;injection h with z r;subst z;subst r;exact⟨o,AH _,by simp,J,by rw[K,D4 hb]⟩
  ·exact next h
theorem Ab8 {j:Nat} {e k:Tmp} {t:TypeId}:∀(l:List Oper) (p:Nat),XB e l p=some (j,t,k)->∃o,p<=j/\l[j-p]? =some o/\o.op=.lookup t (.tmp e) (.tmp k) false
 | [],p,h=>by cases h
 |o::l,p,h=>by
  have next:fN (p+1) (XB e l)=some (j,t,k)->∃x,p<=j/\(o::l)[j-p]? =some x/\x.op=.lookup t (.tmp e) (.tmp k) false:=λh=>by rw[Bv]at h;obtain⟨x,B,y,r⟩:=Ab8 l (p+1) h;exact⟨x,by omega,by rw[show j-p=(j-(p+1))+1 by omega,List.getElem?_cons_succ];exact y,r⟩
  have h:(match o.op with
   |.lookup t (.tmp z) (.tmp k) false=>cond (Nat.beq z e) (some (p,t,k)) (fN (p+1) (XB e l))
   |_=>fN (p+1) (XB e l))=some (j,t,k):=h
  split at h
  ·rename_i K z L J;cases hb:Nat.beq z e with
   |false=>rw[hb]at h;exact next h
   |true=>rw[hb]at h;injection h with h;injection h with B h;injection h with y r;subst B;subst y;subst r;exact⟨o,AH _,by simp,by rw[J,D4 hb]⟩
  ·exact next h
theorem Ab0 {j:Nat} {k:Tmp} {op:Op}:∀(l:List Oper) (p:Nat),Xz k l p=some (j,op)->∃o,p<=j/\l[j-p]? =some o/\o.dst=some k
 | [],p,h=>by cases h
 |o::l,p,h=>by
  have next:fN (p+1) (Xz k l)=some (j,op)->∃x,p<=j/\(o::l)[j-p]? =some x/\x.dst=some k:=λh=>by rw[Bv]at h;obtain⟨x,y,r,z⟩:=Ab0 l (p+1) h;exact⟨x,by omega,by rw[show j-p=(j-(p+1))+1 by omega,List.getElem?_cons_succ];exact r,z⟩
  have h:(match o.dst with
   |some d=>cond (Nat.beq d k) (some (p,o.op)) (fN (p+1) (Xz k l))
   |none=>fN (p+1) (Xz k l))=some (j,op):=h
  split at h
  ·rename_i d B;cases hb:Nat.beq d k with
   |false=>rw[hb]at h;exact next h
   |true=>rw[hb]at h;injection h with h;injection h with y r;subst y;exact⟨o,AH _,by simp,by rw[B,D4 hb]⟩
  ·exact next h
def ib (P:Program) (g:Gh) (kAV:AV):Option AV:=ob (ofValue g.val) λv=>match v with
  |.int _ _=>ob (Ew P (λ_=>none) 0 (.makeMap g.t none)) λp=>match p.1 with
   |.map 0=>cond (Ut P g kAV v g.ins.length g.ins p.2) (some v) none
   |_=>none
  |_=>none
def ia (P:Program) (mk:Value->Gh) (kAV:AV) (l:List (Nat×TypeId×Operand×Operand)):Option (Gh×AV):=List.rec (motive:=λ_=>Option (Gh×AV)) none (λq _ r=>match q.2.2.2 with
  |.const v=>Option.rec (motive:=λ_=>Option (Gh×AV)) r (λa=>some (mk v,a)) (ib P (mk v) kAV)
  |_=>r) l
def s6 (g:Gh) (l:List Oper):Nat->Bool:=List.rec (motive:=λ_=>Nat->Bool) (λ_=>true) (λo _ r i=>cond o.guard.isNone (cond (cond (g.side i) true (match o.dst with
  |none=>true
  |some d=>cond (Nat.beq d g.d) false (cond (Nat.beq d g.e) false true))) (fN (i+1) r) false) false) l
theorem AaU {g:Gh}:∀(l:List Oper) (p:Nat),s6 g l p=true->∀i o,l[i]? =some o->o.guard=none/\(g.side (p+i)=false->o.dst≠some g.d/\o.dst≠some g.e)
 | [],p,h,i,o,hi=>by simp at hi
 |x::l,p,h,i,o,hi=>by
  have h:cond x.guard.isNone (cond (cond (g.side p) true (match x.dst with
   |none=>true
   |some d=>cond (Nat.beq d g.d) false (cond (Nat.beq d g.e) false true))) (fN (p+1) (s6 g l)) false) false=true:=h
  obtain⟨J,h⟩:=BG h;obtain⟨r,h⟩:=BG h;rw[Bv]at h;cases i with
  |succ i=>rw[List.getElem?_cons_succ]at hi;have:=AaU l (p+1) h i o hi;rw[show p+1+i=p+(i+1) by omega]at this;exact this
  |zero=>
   have hi:some x=some o:=hi;injection hi with hi;subst hi;refine⟨by simpa using J,λz=>?_⟩;have z:g.side p=false:=z;rw[z,cond_false]at r;cases hd:x.dst with
   |none=>exact⟨by simp,by simp⟩
   |some d=>
    rw[hd]at r;have r:cond (Nat.beq d g.d) false (cond (Nat.beq d g.e) false true)=true:=r;cases y:Nat.beq d g.d with
    |true=>rw[y]at r;cases r
    |false=>
    rw[y,cond_false]at r;cases B:Nat.beq d g.e with
    |true=>rw[B]at r;cases r
    |false=>exact⟨λe=>(by injection e with e;rw[e,Nat.beq_refl]at y;cases y),λe=>(by injection e with e;rw[e,Nat.beq_refl]at B;cases B)⟩
def ev {α:Type} (o:Option α) (f:α->Bool):Bool:=Option.rec (motive:=λ_=>Bool) false f o
theorem uG {α:Type} {o:Option α} {f:α->Bool} (h:ev o f=true):∃a,o=some a/\f a=true:=by
 cases o with
 |none=>cases h
 |some a=>exact⟨a,rfl,h⟩
def P3 (a b:Nat):Bool:=not (Nat.beq a b)
theorem UR {a b:Nat} (h:P3 a b=true):a≠b:=λe=>by unfold P3 at h;rw[e,Nat.beq_refl]at h;cases h
def ghB (g:Gh) (kAV:AV) (ops:Array Oper) (N:Nat):Bool:=cond (EH (λq=>ev ops[q.1]? λo=>cond o.dst.isNone (cond (Kv o g.j) (cond (P3 q.1 g.j) (P3 q.1 g.mv) false) false) false) g.ins) (cond (ev ops[g.mv]? λo=>cond (Kv o g.j) (EH (λq=>Kv o q.1) g.ins) false) (cond (P3 g.mv g.j) (cond (ev ops[g.lk]? λo=>cond (Kv o g.mv) (Kv o g.kx) false) (cond (not (g.side g.lk)) (cond (not (g.side g.kx)) (cond (s6 g ops.toList 0) (cond (P3 g.d g.e) (cond (P3 g.key g.d) (cond (P3 g.key g.e) (cond (dN kAV) (cond (Nat.blt g.d N) (Nat.blt g.e N) false) false) false) false) false) false) false) false) false) false) false) false
def sL (P:Program) (ops:Array Oper) (s:St):Option (Gh×AV×AV):=ob (eJ ops.toList 0) λm=>ob (XF m.2.1 ops.toList 0) λv=>ob (XB v.2 ops.toList 0) λl=>ob (Xz l.2.2 ops.toList 0) λx=>ob (De P s.H (BR s.T) x.2) λkAV=>
  ob (ia P (λc=>⟨m.1,m.2.1,m.2.2,RL m.2.1 ops.toList 0,v.1,v.2,l.1,l.2.1,l.2.2,x.1,c⟩) kAV (RL m.2.1 ops.toList 0)) λr=>cond (ghB r.1 kAV ops s.N) (some (r.1,kAV,r.2)) none
theorem wb {P:Program} {mk:Value->Gh} {kAV:AV} {g:Gh} {a:AV}:∀ {l:List (Nat×TypeId×Operand×Operand)},ia P mk kAV l=some (g,a)->∃v,g=mk v/\ib P (mk v) kAV=some a
 | [],h=>by cases h
 |q::l,h=>by
  have h:(match q.2.2.2 with
   |.const v=>Option.rec (motive:=λ_=>Option (Gh×AV)) (ia P mk kAV l) (λa=>some (mk v,a)) (ib P (mk v) kAV)
   |_=>ia P mk kAV l)=some (g,a):=h
  split at h
  ·rename_i v _;cases hv:ib P (mk v) kAV with
   |none=>rw[hv]at h;exact wb h
   |some b=>rw[hv]at h;injection h with h;injection h with x r;subst x;subst r;exact⟨v,rfl,hv⟩
  ·exact wb h
theorem Ah8 {P:Program} {ops:Array Oper} {s:St} {g:Gh} {kAV vAV:AV} (h:sL P ops s=some (g,kAV,vAV)):Tm P g ops kAV vAV/\g.d<s.N/\g.e<s.N:=by
 obtain⟨m,hm,h⟩:=Ai.1 h;obtain⟨v,hv,h⟩:=Ai.1 h;obtain⟨l,hl,h⟩:=Ai.1 h;obtain⟨x,hx,h⟩:=Ai.1 h;obtain⟨W,B,h⟩:=Ai.1 h;obtain⟨r,hr,h⟩:=Ai.1 h;cases hb:ghB r.1 W ops s.N with
 |false=>rw[hb]at h;cases h
 |true=>
 rw[hb]at h;injection h with h;injection h with h1 h;injection h with h2 h3;subst h1;subst h2;subst h3;obtain⟨c,hc,y⟩:=wb (g:=r.1) (a:=r.2) hr;obtain⟨b1,hb⟩:=BG hb;obtain⟨b2,hb⟩:=BG hb;obtain⟨b3,hb⟩:=BG hb;obtain⟨b4,hb⟩:=BG hb;obtain⟨b5,hb⟩:=BG hb;obtain⟨b6,hb⟩:=BG hb;obtain⟨b7,hb⟩:=BG hb;obtain⟨b8,hb⟩:=BG hb;obtain⟨b9,hb⟩:=BG hb;obtain⟨ad,hb⟩:=BG hb;obtain⟨ab,hb⟩:=BG hb;obtain⟨aa,Z⟩:=BG hb;generalize r.1=g at*;obtain⟨om,m1,U,m3,m4⟩:=Acn _ _ hm;obtain⟨ov,v1,v2,v3,v4⟩:=Acq _ _ hv;obtain⟨ol,l1,V,l3⟩:=Ab8 _ _ hl;obtain⟨ox,x1,x2,x3⟩:=Ab0 _ _ hx;rw[Nat.sub_zero,Array.getElem?_toList]at U v2 V x2;obtain⟨o4,R,q2⟩:=uG b4;obtain⟨o2,L,S⟩:=uG b2;subst hc;rw[V]at R;injection R with R;subst R;rw[v2]at L;injection L with L;subst L;obtain⟨q5,q6⟩:=BG q2;obtain⟨S,q7⟩:=BG S;obtain⟨va,w1,y⟩:=Ai.1 y;have Y:=AaU _ _ b7;refine⟨⟨⟨om,U,m3,_,m4⟩,λq hq=>?_,⟨ov,v2,v3,v4,S,UR b3,JH q7⟩,⟨ol,V,l3,q5,q6,by simpa using b5⟩,⟨ox,x2,x3,by simpa using b6⟩,λi o J=>?_,UR b8,⟨UR b9,UR ad⟩,ab,?_,?_,λo J=>?_⟩,by rwa[CE]at aa,by rwa[CE]at Z⟩
 ·obtain⟨oi,i1,i2,i3⟩:=AbD _ _ hq;rw[Nat.sub_zero,Array.getElem?_toList]at i2;obtain⟨o5,z,K⟩:=uG (JH b1 q hq);rw[i2]at z;injection z with z;subst z;obtain⟨p3,K⟩:=BG K;obtain⟨p4,K⟩:=BG K;obtain⟨p5,p6⟩:=BG K;exact⟨oi,i2,by simpa using p3,i3,p4,UR p5,UR p6⟩
 ·have:=Y i o (by rw[Array.getElem?_toList];exact J);rwa[Nat.zero_add]at this
 ·split at y
  ·obtain⟨p,z,y⟩:=Ai.1 y;split at y
   ·rename_i k nn _ _ _;cases B:Ut P _ W _ _ _ p.2 with
    |false=>rw[B]at y;cases y
    |true=>rw[B]at y;injection y with y;exact⟨by rw[w1,<-y],_,_,y.symm⟩
   ·cases y
  ·cases y
 ·split at y
  ·obtain⟨p,z,y⟩:=Ai.1 y;split at y
   ·rename_i hp;cases B:Ut P _ W _ _ _ p.2 with
    |false=>rw[B]at y;cases y
    |true=>rw[B]at y;injection y with y;exact⟨_,p.2,by rw[z,<-hp],by rw[<-y];exact B⟩
   ·cases y
  ·cases y
 ·rw[U]at J;injection J with J;subst J;exact m4
def pC (g:Gh) (s:St):St:=⟨s.N,((s.T.del g.d).del g.e).del g.key,s.H,s.nx,s.ro,s.D⟩
def oR (P:Program) (tb:DQ) (ht:CZ) (ops:Array Oper) (s:St) (K:KX):Prop:=Option.rec (motive:=λ_=>Prop) (oQ P tb ht ops s K) (λg=>oS P tb ht g.1 g.2.1 ops (pC g.1 s) K) (sL P ops s)
theorem AgK {P:Program} (S:P.follows .mixedOrders=true) {tb:DQ} {ht:CZ} (B:EU P tb) (J:Es P ht):Y8 P (oR P tb ht):=by
 intro ops s K h;unfold oR at h;cases R:sL P ops s with
 |none=>rw[R]at h;exact AgM S B J ops s K h
 |some g=>
  rw[R]at h;obtain⟨g,kAV,vAV⟩:=g;have h:oS P tb ht g kAV ops (pC g s) K:=h;obtain⟨L,hd,W⟩:=Ah8 R;have del:∀x y,(((s.T.del g.d).del g.e).del g.key).get x=some y->s.T.get x=some y:=λx y r=>by
   rw[Tr.JN]at r;split at r
   ·cases r
   ·rw[Tr.JN]at r;split at r
    ·cases r
    ·rw[Tr.JN]at r;split at r
     ·cases r
     ·exact r
  intro id E F n0 ρ0 ρ a w ro Q U hn V z;refine AgL (s:=pC g s) S B J L ?_ ?_ hd W h U hn V ⟨z.rel,λx y r=>z.tr x y (del x y r),z.size,z.dr,z.rr⟩
  ·show(((s.T.del g.d).del g.e).del g.key).get g.d=none;rw[Tr.JN,An L.kd.1,Tr.JN,An L.de.symm,Tr.JN,As rfl]
  ·show(((s.T.del g.d).del g.e).del g.key).get g.e=none;rw[Tr.JN,An L.kd.2,Tr.JN,As rfl]
def A3 (r:Ctx) (n:Nat):Fq:=oV r (oR r.P r.tb r.ht) n
theorem PD {r:Ctx} (y:r.P.follows .mixedOrders=true) (x:EU r.P r.tb) (n:Nat):LQ r.P (A3 r n).call:=(yX y (AgK y x r.AA) x n).2
end Go.Ev
end
section
namespace Go.Ev
theorem Bk {P:Program}:EU P []:=λ_ _ h=>by cases h
theorem BD {P:Program} {tb:DQ} {g:FuncId} {AN:Tr Ah->Al->Option Ct} (h:BC P g AN) (ht:EU P tb):EU P ((g,AN)::tb):=by
 intro y x hl;have r:cond (Nat.beq g y) (some AN) (look tb y)=some x:=hl;cases hb:Nat.beq g y with
 |true=>rw[hb]at r;injection r with r;rw[<-r,<-D4 hb];exact h
 |false=>rw[hb]at r;exact ht y x r
theorem W6 {P:Program} {g:FuncId} {AN:Tr Ah->Al->Option Ct} {gl:List (Nat×Ah)} {ng:Nat} (V:∀p∈gl,Kw p.2=true) (h:∀H args ct,AN H args=some ct->(∀p∈gl,H.get p.1=some p.2)/\AZ [] args args/\∃pre v,ct=.Bb pre (.ret v)/\ (pre->∃(J:Ctx) (n:Nat),J.P=P/\P.follows .mixedOrders=true/\EU P J.tb/\(A3 J n).call g args (BU gl) ng (BS P false v))):BC P g AN:=by
 intro H args ct W p v B;obtain⟨h1,h2,pre,K,h3,Z⟩:=h H args ct W;subst h3;have z:(open Classical in if pre then some (false,K)else none)=some (p,v):=B;by_cases L:pre
 ·rw[As L]at z;injection z with z;injection z with U S;obtain⟨J,n,e1,e2,e3,e4⟩:=Z L;subst e1;exact zu (PD e2 e3 n) (AN:=λH' y=>open Classical in if H'=H/\y=args then some (.ret K)else none) V (λH' y ab r=>by
   classical
   by_cases R:H'=H/\y=args
   ·rw[As R]at r;injection r with r;obtain⟨rfl,rfl⟩:=R;refine⟨h1,h2,λp' aa x=>?_⟩;rw[<-r]at x;injection x with x;injection x with Y hb;subst Y;subst hb;exact e4
   ·rw[An R]at r;cases r) H args (.ret K) (As ⟨rfl,rfl⟩) p v (by rw[<-U,<-S];rfl)
 ·rw[An L]at z;cases z
theorem MI {P:Program} {g:FuncId} {AN:H9} {gl:List (Nat×Ah)} {ng:Nat} (ab:∀p∈gl,Kw p.2=true) (h:∀H args B,AN H args=some B->B.pre->(∀p∈gl,H.get p.1=some p.2)/\AZ [] args args/\ ∃(L:Ctx) (n:Nat),L.P=P/\P.follows .mixedOrders=true/\EU P L.tb/\(A3 L n).call g args (BU gl) ng (λr=>∃x,B.Q x/\BS P false (B.v x) r)):JG P g AN:=by
 intro H args B U J E F ρ w nx H' hG r;obtain⟨hH,z,L,n,e1,e2,e3,e4⟩:=h H args B U J;subst e1;have W:Rel (FO E ρ) (λb=>w.heap[b]?) ng ⟨λ_=>none,ρ.st⟩ (BU gl).get w:=⟨r.tape,r.os,r.output,λ_ _ h=>h,λ_ _ _ _ h=>(by cases h),λ_ _ _ _ h=>(by cases h),λ_ _ _ _ _ _ _ _ h=>(by cases h),λ_ _=>rfl,λg l hg=>hG g l (hH _ (Nl hg)),λb o hb=>r.fr b o (r.bs b o hb),r.st,λ_ _ _ _ h=>(by cases h),λb o o' _ Z=>(by simp[FO];exactλe=>by rw[show ρ.st b=some o' from Z]at e;cases e)⟩;have AA:=PD e2 e3 n g args (BU gl) ng _ e4 _ _ _ w W;refine⟨AA.1,λvs Az=>CallsIn.mono (AA.2 vs (LM (ρ:=ρ) (ρ2:=⟨λ_=>none,ρ.st⟩) (Q6 λ_ _ h=>h) args args vs z Az)) λe w' he=>?_⟩;obtain⟨S,⟨x,hq,y⟩,K⟩:=he;cases S with
 |mk v' H1 n1=>obtain⟨u,aa,rfl,Y,V,hv⟩:=K;obtain⟨R,h1,h2,h3⟩:=tS r Y.le.st V hv y;exact⟨_,⟨x,hq,rfl⟩,u,R,rfl,h1,h2,h3⟩
 |AG _ _ _=>exact y.elim
 |Cf _ _ _ _=>exact y.elim
end Go.Ev
namespace Go.Ev
theorem AU {n:Int}:Bf .i64 n=true↔-9223372036854775808<=n/\n<=9223372036854775807:=dh
theorem sy {n:Int}:Bf .u8 n=true↔0<=n/\n<=255:=dh
theorem AK {n:Int} {l:Nat}:AO n l=true↔0<=n/\n<l:=by simp[AO]
theorem Nj {n:Int} {l:Nat}:C0 n l=true↔0<=n/\n<=l:=by simp[C0]
theorem Bd {a b:Int}:AP a b=true↔a<b:=by simp[EX]
theorem Bl {a b:Int}:AP a b=false↔b<=a:=by simp[EX]
theorem Ba {a b:Int}:Au a b=true↔a=b:=by simp[DD]
theorem BB {a b:Int}:Au a b=false↔¬a=b:=by simp[DD]
end Go.Ev
end
section
namespace Go.Ev
theorem oy {pre:Prop} {v w:AV} {p:Bool} (h:G2 (.Bb pre (.ret v))=some (p,w)):pre/\false=p/\v=w:=by
 have r:(open Classical in if pre then some (false,v)else none)=some (p,w):=h;by_cases x:pre
 ·rw[As x]at r;injection r with r;injection r with z y;exact⟨x,z,y⟩
 ·rw[An x]at r;cases r
theorem Aij {E:Env} {F:Nat->Option Obj} {nx:Nat} {ρ:Ak} {H:Tr Ah} {w:World} (r:Rel E F nx ρ H.get w) {n1:Nat} {y:Ak} {H1:Tr Ah} {w':World} {c:AV} {u:Value} (aa:∀b o,ρ.st b=some o->y.st b=some o) (r1:Rel (FO E ρ) (λb=>w.heap[b]?) n1 y H1.get w') {J:List Nat} (U:Fv H1 J) (hv:VR (Cx y w' J) c u) (hc:Bi [] c c): ∃B,RX nx (nx+1) ρ B/\Rel E F (nx+1) B H.get w'/\VR B c u:=by
 obtain⟨hx,z⟩:=Ku r1 U;generalize Cx y w' J=ρ2 at hx z hv;have S:∀b o,ρ.st b=some o->ρ2.st b=some o:=λb o h=>hx.le.st b o (aa b o h);have L:ρ.le ⟨ρ.nm,ρ2.st⟩:=⟨λ_ _ h=>h,S⟩;have x:∀b o,w.heap[b]? =some o->w'.heap[b]? =some o:=z.fr;have R:∀b o o',w.heap[b]? =some o->ρ2.st b=some o'->ρ.st b≠none:=λb o o' h1 h2=>by have:=z.sf b o o' h1 h2;simpa[FO]using this
 refine⟨⟨ρ.nm,ρ2.st⟩,⟨L,λ_ _=>rfl,Nat.le_succ _⟩,⟨z.tape,z.os,z.output,λb o hb=>x b o (r.fr b o hb),λi o b hi hb=>?_,r.dj,r.inj,λi hi=>r.new i (Nat.le_of_succ_le hi),r.gl,r.bs,z.st,λi o b hi hb=>?_,λb o o' hF W=>?_⟩,Kf (ρ:=ρ2) (ρ2:=⟨ρ.nm,ρ2.st⟩) (Q6 λ_ _ h=>h) c c u hc hv⟩
 ·obtain⟨V,Y,h5⟩:=r.ob i o b hi hb;exact⟨V,x _ _ Y,h5.mono L⟩
 ·obtain⟨V,Y,h5⟩:=r.ob i o b hi hb;cases W:ρ2.st b.b with
  |none=>rfl
  |some o'=>exact absurd (r.sd i o b hi hb) (R b.b V o' Y W)
 ·have:=R b o o' (r.fr b o hF) W;cases K:ρ.st b with
  |none=>exact absurd K this
  |some Z=>exact r.sf b o Z hF K
end Go.Ev
end
end
