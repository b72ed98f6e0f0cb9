/- Laid by program out of its parts: PbE, PbF, PbG, PbH, PbI. -/
import Derived.Test.YtlmmbanfhjaioaaGreatDoorPb0
noncomputable section
open List(getD)
set_option linter.unusedVariables false
set_option linter.unusedSimpArgs false
section
set_option maxRecDepth 100000
set_option maxHeartbeats 2000000
open Go Go.Ev
namespace Go.Proofs.YtlmmbanfhjaioaaGreatDoor
def BW (k:Int) (s:Ac) (n l c:Int) (ks:AV):Ae:=.cells 100 .leaf (.Dw [.int .i64 k,.bs s,.int .i64 n,.int .i64 l,.int .i64 c,.Ay,ks]) 7 false
def BI (l:Aj):Ae:=.cells 71 .leaf (.Dw l) l.length false
structure oV (a:AV):Prop where
 vm:∀σ,AZ σ a a
 cl:L0 4 a
 rn:∀τ,D2 τ 4 a=a
structure D8 (l:List AV):Prop where
 h:∀a∈l,oV a
def tO (k:Int) (t:TK) (l:Aj) (ks:AV):HA:={X:=Unit,gl:=[],JI:=λ_=>true,ng:=0,k:=1,args:=λ_=>[.int .i64 k,.agg t.row,ks],FE:=λ_=>[BI l],pre:=λ_=>D8 l,out:=λ_=>.ret (.ptr 1 0) [BI l,BW k [] 0 t.line t.Ao ks] 1,fz:=0,find:=λ_ _=>none}
def tQ (k:Int) (t:TK):HA:={X:=Unit,gl:=[],JI:=λ_=>true,ng:=0,k:=0,args:=λ_=>[.int .i64 k,.agg t.row,.Ay],FE:=λ_=>[],pre:=λ_=>True,out:=λ_=>.ret (.ptr 0 0) [BW k [] 0 t.line t.Ao .Ay] 1,fz:=0,find:=λ_ _=>none}
def tT (k:Int) (s0:Ac) (n a c:Int) (s:Ac) (l:Aj) (ks:AV):HA:={X:=Unit,gl:=[],JI:=λ_=>true,ng:=0,k:=2,args:=λ_=>[.ptr 0 0,.bs s],FE:=λ_=>[BW k s0 n a c ks,BI l],pre:=λ_=>D8 l,out:=λ_=>.ret (.ptr 0 0) [BW k s n a c ks,BI l] 0,fz:=0,find:=λ_ _=>none}
def tU (k:Int) (s0:Ac) (n a c:Int) (s:Ac):HA:={X:=Unit,gl:=[],JI:=λ_=>true,ng:=0,k:=1,args:=λ_=>[.ptr 0 0,.bs s],FE:=λ_=>[BW k s0 n a c .Ay],pre:=λ_=>True,out:=λ_=>.ret (.ptr 0 0) [BW k s n a c .Ay] 0,fz:=0,find:=λ_ _=>none}
def wo (l:Aj):Option Aj:=match l with
 | [.pv a]=>some [.pv a]
 | [.pv a,.pv b]=>some [.pv a,.pv b]
 |_=>none
def Wr (H:Tr Ae) (r m q nx:Nat):Option Aj:=ob (H.get r) λo=>match o with
 |.cells el c z N op=>cond (cond (Nat.beq el 71) (cond op false (cond (Nat.beq N m) (cond (Nat.beq m q) (Nat.blt r nx) false) false)) false) (ob (Mp c z N 0) wo) none
 |_=>none
def gn:Gx:=λH nx args=>match args with
 | [.int .i64 k,.agg [.int .i64 a,b,.int .i64 c,.int .i64 d,.int .i64 e],.Ay]=>ob (Mx b) λ_=>some (.ret (.ptr nx 0) [(nx,BW k [] 0 d e .Ay)] (nx+1))
 | [.int .i64 k,.agg [.int .i64 a,b,.int .i64 c,.int .i64 d,.int .i64 e],.sl r 0 m q]=>ob (Mx b) λ_=>ob (Wr H r m q nx) λl=>some (.Be (D8 l) (.ret (.ptr nx 0) [(r,BI l),(nx,BW k [] 0 d e (.sl r 0 m q))] (nx+1)))
 |_=>none
def YX (H:Tr Ae) (id nx:Nat):Option (((((Int×Ac)×Int)×Int)×Int)×AV):=ob (H.get id) λo=>match o with
 |.cells el c z N op=>cond (cond (Nat.beq el 100) (cond op false (cond (Nat.beq N 7) (Nat.blt id nx) false)) false) (ob (Mp c z 7 0) λl=>match l with
  | [.int .i64 k,.bs s,.int .i64 n,.int .i64 a,.int .i64 b,.Ay,w]=>some (((((k,s),n),a),b),w)
  |_=>none) none
 |_=>none
def hJ:Gx:=λH nx args=>match args with
 | [.ptr id 0,x]=>ob (Mx x) λs=>ob (YX H id nx) λq=>match q.2 with
  |.Ay=>some (.ret (.ptr id 0) [(id,BW q.1.1.1.1.1 s q.1.1.1.2 q.1.1.2 q.1.2 .Ay)] nx)
  |.sl r 0 m y=>ob (Wr H r m y nx) λl=>cond (Nat.beq id r) none (some (.Be (D8 l) (.ret (.ptr id 0) [(id,BW q.1.1.1.1.1 s q.1.1.1.2 q.1.1.2 q.1.2 (.sl r 0 m y)),(r,BI l)] nx)))
  |_=>none
 |_=>none
def Lf:Ctx:={P:=Tryz.prog,tb:=[],lp:=λ_ _=>none,cut:=λ_ _=>none}
def Ty (a:Int) (b:TK):=((((((True/\Aa/\a=a)/\([]:Ac)=[])/\Aa/\Af (0:Int))/\Aa/\Af (TK.line b))/\Aa/\Af (TK.Ao b))/\True)
theorem Ail:∀(k:Int) (t:TK),Aa/\(Hb/\True)/\(Aa/\Aa/\Aa/\Aa/\(Ty k t)/\True)/\True
:=by delta Hb Ty;intro k t;simp only[Cd]
theorem Aik:∀(k:Int) (t:TK),(A4 Lf 60).call 59 [.int .i64 k,.agg t.row,.Ay] .leaf 0 (Gk Tryz.prog 0 0 0 (.ret (.ptr 0 0) [BW k [] 0 t.line t.Ao .Ay] 1)):=Eq.mpr (by kernel_rfl) Ail
theorem Ain:∀(k:Int) (t:TK) (a:Aj),D8 [AV.pv a]->Aa/\((Af (some 2)/\Aa)/\True)/\(Aa/\Aa/\Aa/\Aa/\True/\Ba [(1,2),(0,0)] a a)/\(Aa/\Aa/\Aa/\Aa/\(Ty k t)/\Af (some 0)/\0=0/\1=1/\1=1)/\True
:=by delta Ty;intro k t a h;simp only[Cd];exact(h.h _ (BN ..)).vm _
theorem Aim:∀(k:Int) (t:TK) (a:Aj),D8 [.pv a]->(A4 Lf 60).call 59 [.int .i64 k,.agg t.row,.sl 0 0 1 1] (Bx (Cl [BI [.pv a]] 0)) 1 (Gk Tryz.prog 0 0 1 (.ret (.ptr 1 0) [BI [.pv a],BW k [] 0 t.line t.Ao (.sl 0 0 1 1)] 1)):=Eq.mpr (by kernel_rfl) Ain
theorem Aip:∀(k:Int) (t:TK) (a b:Aj),D8 [AV.pv a,AV.pv b]->Aa/\((Af (some 2)/\Aa)/\True)/\(Aa/\Aa/\Aa/\Aa/\(True/\Ba [(1,2),(0,0)] a a)/\Ba [(1,2),(0,0)] b b)/\(Aa/\Aa/\Aa/\Aa/\(Ty k t)/\Af (some 0)/\0=0/\2=2/\2=2)/\True
:=by delta Ty;intro k t a b h;simp only[Cd];exact⟨(h.h _ (BN ..)).vm _,(h.h _ (Ca _ (DE.2 rfl))).vm _⟩
theorem Aio:∀(k:Int) (t:TK) (a b:Aj),D8 [.pv a,.pv b]->(A4 Lf 60).call 59 [.int .i64 k,.agg t.row,.sl 0 0 2 2] (Bx (Cl [BI [.pv a,.pv b]] 0)) 1 (Gk Tryz.prog 0 0 1 (.ret (.ptr 1 0) [BI [.pv a,.pv b],BW k [] 0 t.line t.Ao (.sl 0 0 2 2)] 1)):=Eq.mpr (by kernel_rfl) Aip
def Kc (a:Int) (b:Ac) (c:Int) (d:Int) (e:Int):=((((((True/\Aa/\a=a)/\b=b)/\Aa/\c=c)/\Aa/\d=d)/\Aa/\e=e)/\True)
theorem Ajc:∀(k:Int) (s0:Ac) (n a c:Int) (s:Ac),Aa/\(Cx/\True)/\(Aa/\Aa/\Aa/\Aa/\(Kc k s n a c)/\True)/\True
:=by delta Cx Kc;intro k s0 n a c s;simp only[Cd]
theorem Ajb:∀(k:Int) (s0:Ac) (n a c:Int) (s:Ac),(A4 Lf 60).call 90 [.ptr 0 0,.bs s] (Bx (Cl [BW k s0 n a c .Ay] 0)) 1 (Gk Tryz.prog 0 0 1 (.ret (.ptr 0 0) [BW k s n a c .Ay] 0)):=Eq.mpr (by kernel_rfl) Ajc
theorem Aje:∀(k:Int) (s0:Ac) (n a c:Int) (s:Ac) (x:Aj),D8 [AV.pv x]->Aa/\(Cx/\True)/\(Aa/\Aa/\Aa/\Aa/\(Kc k s n a c)/\Af (some 1)/\0=0/\1=1/\1=1)/\(Aa/\Aa/\Aa/\Aa/\True/\Ba [(0,0),(1,1)] x x)/\True
:=by delta Cx Kc;intro k s0 n a c s x h;simp only[Cd];exact(h.h _ (BN ..)).vm _
theorem Ajd:∀(k:Int) (s0:Ac) (n a c:Int) (s:Ac) (x:Aj),D8 [.pv x]->(A4 Lf 60).call 90 [.ptr 0 0,.bs s] (Bx (Cl [BW k s0 n a c (.sl 1 0 1 1),BI [.pv x]] 0)) 2 (Gk Tryz.prog 0 0 2 (.ret (.ptr 0 0) [BW k s n a c (.sl 1 0 1 1),BI [.pv x]] 0)):=Eq.mpr (by kernel_rfl) Aje
theorem Ajg:∀(k:Int) (s0:Ac) (n a c:Int) (s:Ac) (x y:Aj),D8 [AV.pv x,AV.pv y]->Aa/\(Cx/\True)/\(Aa/\Aa/\Aa/\Aa/\(Kc k s n a c)/\Af (some 1)/\0=0/\2=2/\2=2)/\(Aa/\Aa/\Aa/\Aa/\(True/\Ba [(0,0),(1,1)] x x)/\Ba [(0,0),(1,1)] y y)/\True
:=by delta Cx Kc;intro k s0 n a c s x y h;simp only[Cd];exact⟨(h.h _ (BN ..)).vm _,(h.h _ (Ca _ (DE.2 rfl))).vm _⟩
theorem Ajf:∀(k:Int) (s0:Ac) (n a c:Int) (s:Ac) (x y:Aj),D8 [.pv x,.pv y]->(A4 Lf 60).call 90 [.ptr 0 0,.bs s] (Bx (Cl [BW k s0 n a c (.sl 1 0 2 2),BI [.pv x,.pv y]] 0)) 2 (Gk Tryz.prog 0 0 2 (.ret (.ptr 0 0) [BW k s n a c (.sl 1 0 2 2),BI [.pv x,.pv y]] 0)):=Eq.mpr (by kernel_rfl) Ajg
theorem mC {H:Tr Ae} {r m E nx:Nat} {l:Aj} (h:Wr H r m E nx=some l):E=m/\r<nx/\Kr H r (BI l)/\((∃a,l=[.pv a]/\m=1)\/∃a b,l=[.pv a,.pv b]/\m=2):=by
 obtain⟨o,O,h⟩:=Ag.1 h;split at h
 ·rename_i el c z N op;obtain⟨q,R⟩:=Sa h;clear h;obtain⟨W,K,B⟩:=Ag.1 R;clear R;obtain⟨V,q⟩:=Bf q;cases y:op with
  |true=>rw[y]at q;cases q
  |false=>
  rw[y]at q;obtain⟨U,q⟩:=Bf (show cond (Nat.beq N m) (cond (Nat.beq m E) (Nat.blt r nx) false) false=true from q);obtain⟨S,M⟩:=Bf q;rw[AN]at V U S;rw[Co]at M;subst V;subst U;subst S;subst y;have C:=(Ui c z N 0 W K).1;unfold wo at B;split at B
  ·injection B with h;subst h;have L:N=1:=C.symm;subst L;exact⟨rfl,M,⟨⟨_,O,λρ b x J=>S4 K J⟩,rfl⟩,.inl ⟨_,rfl,rfl⟩⟩
  ·injection B with h;subst h;have L:N=2:=C.symm;subst L;exact⟨rfl,M,⟨⟨_,O,λρ b x J=>S4 K J⟩,rfl⟩,.inr ⟨_,_,rfl,rfl⟩⟩
  ·cases B
 ·cases h
theorem uh {H:Tr Ae} {id nx:Nat} {k:Int} {s:Ac} {n a b:Int} {w:AV} (h:YX H id nx=some (((((k,s),n),a),b),w)):id<nx/\Kr H id (BW k s n a b w):=by
 obtain⟨o,M,h⟩:=Ag.1 h;split at h
 ·rename_i el c z N op;obtain⟨y,C⟩:=Sa h;clear h;obtain⟨V,O,B⟩:=Ag.1 C;clear C;obtain⟨K,y⟩:=Bf y;cases q:op with
  |true=>rw[q]at y;cases y
  |false=>
  rw[q]at y;obtain⟨J,E⟩:=Bf (show cond (Nat.beq N 7) (Nat.blt id nx) false=true from y);rw[AN]at K J;rw[Co]at E;subst K;subst J;subst q;split at B
  ·injection B with h;injection h with h C;injection h with h B;injection h with h U;injection h with h S;injection h with h R;subst h;subst C;subst B;subst U;subst S;subst R;exact⟨E,⟨⟨_,M,λρ b x L=>S4 O L⟩,rfl⟩⟩
  ·cases B
 ·cases h
theorem SG {v:AV} {up:List (Nat×Ae)} {n:Nat} {p:Bool} {y:AV} {q:List (Nat×Ae)} {B:Nat} (h:hOut (.ret v up n)=some (p,y,q,B)):p=false/\y=v/\q=up/\B=n:=by injection h with h;injection h with K h;injection h with J h;injection h with E C;exact⟨K.symm,J.symm,E.symm,C.symm⟩
theorem Vi {l:Aj} (h:D8 l):IX (BI l):=λa q=>(h.h a q).cl
theorem lz {l:Aj} (h:D8 l) (q:Nat->Nat):CP q (BI l)=BI l:=by
 have:l.map (D2 q 4)=l:=by
  have:∀m:Aj,(∀a∈m,D2 q 4 a=a)->m.map (D2 q 4)=m:=λm=>by
   induction m with
   |nil=>intro _;rfl
   |cons a m y=>intro h;rw[List.map_cons,h a (BN ..),y λb B=>h b (Ca _ B)]
  exact this l λa C=>(h.h a C).rn q
 show Ae.cells _ _ (.Dw (l.map (D2 q 4))) _ _=_;rw[this];rfl
theorem R7 (k:Int) (s:Ac) (n a c:Int) {w:AV} (y:L0 4 w):IX (BW k s n a c w):=λx q=>by
 simp only[CS,List.not_mem_nil,or_false]at q;rcases q with rfl|rfl|rfl|rfl|rfl|rfl|rfl
 ·exact⟨rfl,rfl⟩
 ·exact rfl
 ·exact⟨rfl,rfl⟩
 ·exact⟨rfl,rfl⟩
 ·exact⟨rfl,rfl⟩
 ·exact trivial
 ·exact y
theorem k7 (q:List (Nat×Nat)) {l:Aj} {m:Nat} (h:D8 l) (y:(∃a,l=[.pv a]/\m=1)\/∃a b,l=[.pv a,.pv b]/\m=2):EO q (BI l) (BI l):=by
 rcases y with⟨a,rfl,_⟩|⟨a,b,rfl,_⟩
 ·exact⟨rfl,rfl,rfl,trivial,(h.h _ (BN ..)).vm _⟩
 ·exact⟨rfl,rfl,rfl,⟨trivial,(h.h _ (BN ..)).vm _⟩,(h.h _ (Ca _ (DE.2 rfl))).vm _⟩
theorem Rl {α:Type} {p:α->Prop} {o q:α} (h:p o) (B:p q):∀x∈[o,q],p x:=λx y=>by
 rcases CS.1 y with rfl|y
 ·exact h
 ·rw[DE.1 y];exact B
theorem vR {ρ:Ai} {k a c d e:Int} {b:AV} {y:Ac} {w:AV} {vs:List Value} (B:Mx b=some y) (h:AG ρ [.int .i64 k,.agg [.int .i64 a,b,.int .i64 c,.int .i64 d,.int .i64 e],w] vs):AG ρ [.int .i64 k,.agg (TK.row ⟨a,y,c,d,e⟩),w] vs:=by
 cases h with
 |cons _ _ _ _ O q=>
  cases q with
  |cons _ _ _ _ q M=>
   cases q with
   |agg l R L=>
    cases L with
    |cons _ _ _ _ K J=>
     cases J with
     |cons _ _ _ _ E C=>exact .cons _ _ _ _ O (.cons _ _ _ _ (.agg _ _ (.cons _ _ _ _ K (.cons _ _ _ _ (WJ B ρ _ E) C))) M)
theorem AfA:Bo Tryz.prog 59 gn:=by
 intro H nx args hc B;unfold gn at B;split at B
 ·rename_i k a b0 c d e;obtain⟨b,V,B⟩:=Ag.1 B;injection B with B;subst B;intro p v up nx' y E F ρ Z r;obtain⟨rfl,rfl,rfl,rfl⟩:=SG y;have W:Bo Tryz.prog 59 ((tQ k ⟨a,b,c,d,e⟩).at () []).AJ:=MX _ (λp J=>by cases J) (λH _ p J=>by cases J) (λx=>rfl) (λx o U=>by cases U) (λx J=>⟨trivial,rfl,HG (R7 _ _ _ _ _ trivial)⟩) λx J=>⟨(A4 Lf 60).call,JZ Bu B5 60,Aik k ⟨a,b,c,d,e⟩⟩;exact NV (S:=tQ k ⟨a,b,c,d,e⟩) (x:=()) (ids:=[]) (os:=[]) (args':=[.int .i64 k,.agg (TK.row ⟨a,b,c,d,e⟩),.Ay]) W trivial rfl rfl rfl rfl rfl (λq R=>by cases R) ⟨⟨rfl,rfl⟩,⟨⟨rfl,rfl⟩,rfl,⟨rfl,rfl⟩,⟨rfl,rfl⟩,⟨rfl,rfl⟩,trivial⟩,trivial,trivial⟩ trivial (by show hOut (FV (nx+1) λn=>(λO=>C4.ret (D2 (BP 0 O) 4 (.ptr 0 0)) (O.zip ([BW k [] 0 d e .Ay].map (CP (BP 0 O)))) n) ([]++List.range' nx 1))=_;rw[G5];rfl) (λi hi=>by cases hi) r λvs h=>vR V h
 ·rename_i k a b0 c d e K m M;obtain⟨b,V,B⟩:=Ag.1 B;obtain⟨l,hl,B⟩:=Ag.1 B;injection B with B;subst B;intro p v up nx' y E F ρ Z r;obtain⟨C,y⟩:=NU y;obtain⟨rfl,rfl,rfl,rfl⟩:=SG y;obtain⟨rfl,Y,hd,L⟩:=mC hl;have W:Bo Tryz.prog 59 ((tO k ⟨a,b,c,d,e⟩ l (.sl 0 0 M M)).at () [K]).AJ:=MX _ (λp J=>by cases J) (λH _ p J=>by cases J) (λx=>rfl) (λx o U=>by rw[DE.1 U];rfl) (λx J=>⟨trivial,rfl,Nv (Vi J) (R7 _ _ _ _ _ trivial)⟩) λx J=>by
   refine⟨(A4 Lf 60).call,JZ Bu B5 60,?_⟩;rcases L with⟨p,rfl,rfl⟩|⟨p,q,rfl,rfl⟩
   ·exact Aim k ⟨a,b,c,d,e⟩ p J
   ·exact Aio k ⟨a,b,c,d,e⟩ p q J
  refine NV (S:=tO k ⟨a,b,c,d,e⟩ l (.sl 0 0 M M)) (x:=()) (ids:=[K]) (os:=[BI l]) (args':=[.int .i64 k,.agg (TK.row ⟨a,b,c,d,e⟩),.sl K 0 M M]) W C rfl rfl rfl ?_ rfl (λq R=>by rw[DE.1 R];exact hd) ⟨⟨rfl,rfl⟩,⟨⟨rfl,rfl⟩,rfl,⟨rfl,rfl⟩,⟨rfl,rfl⟩,⟨rfl,rfl⟩,trivial⟩,⟨rfl,rfl,rfl,rfl⟩,trivial⟩ ⟨?_,trivial⟩ ?_ (λi hi=>⟨_,BN ..,(DE.1 hi).symm⟩) r λvs h=>vR V h
  ·show(List.all [K] λj=>Nat.blt j nx)=true;simp[Co,Y]
  ·show(match(H.set K (BI l)).get K with
    |none=>False
    |some o=>EO [(0,K)] (BI l) o)
   rw[Tr.GG];exact k7 _ C L
  ·show hOut (FV (nx+1) λn=>(λO=>C4.ret (D2 (BP 0 O) 4 (.ptr 1 0)) (O.zip ([BI l,BW k [] 0 d e (.sl 0 0 M M)].map (CP (BP 0 O)))) n) ([K]++List.range' nx 1))=_;rw[G5];show some (false,AV.ptr nx 0,[(K,CP (BP 0 [K,nx]) (BI l)),(nx,BW k [] 0 d e (.sl K 0 M M))],nx+1)=_;rw[lz C]
 ·cases B
theorem AfT:Bo Tryz.prog 90 hJ:=by
 intro H nx args hc y;unfold hJ at y;split at y
 case h_2=>cases y
 rename_i id x;obtain⟨s,hs,y⟩:=Ag.1 y;obtain⟨⟨⟨⟨⟨⟨k,s0⟩,n⟩,a⟩,b⟩,w⟩,hq,y⟩:=Ag.1 y;obtain⟨V,hd⟩:=uh hq;have U:∀ρ vs,AG ρ [.ptr id 0,x] vs->AG ρ [.ptr id 0,.bs s] vs:=λρ vs h=>by
  cases h with
  |cons _ _ _ vs h1 h2=>cases h2 with
  |cons _ _ _ vs h2 h3=>exact .cons _ _ _ _ h1 (.cons _ _ _ _ (WJ hs ρ _ h2) h3)
 simp only at y;split at y
 ·injection y with y;subst y;intro p v up nx' J E F ρ w0 r;obtain⟨rfl,rfl,rfl,rfl⟩:=SG J;have hS:Bo Tryz.prog 90 ((tU k s0 n a b s).at () [id]).AJ:=MX _ (λp L=>by cases L) (λH _ p L=>by cases L) (λx=>rfl) (λx o ho=>by rw[DE.1 ho];rfl) (λx L=>⟨trivial,rfl,HG (R7 _ _ _ _ _ trivial)⟩) λx L=>⟨(A4 Lf 60).call,JZ Bu B5 60,Ajb k s0 n a b s⟩;refine NV (S:=tU k s0 n a b s) (x:=()) (ids:=[id]) (os:=[BW k s0 n a b .Ay]) (args':=[.ptr id 0,.bs s]) hS trivial rfl rfl rfl ?_ rfl (λq hq=>by rw[DE.1 hq];exact hd) ⟨⟨rfl,rfl⟩,rfl,trivial⟩ ⟨?_,trivial⟩ ?_ (λi hi=>⟨_,BN ..,(DE.1 hi).symm⟩) r λvs h=>U ρ vs h
  ·show(List.all [id] λj=>Nat.blt j _)=true;simp[Co,V]
  ·show(match(H.set id (BW k s0 n a b .Ay)).get id with
    |none=>False
    |some o=>EO [(0,id)] (BW k s0 n a b .Ay) o)
   rw[Tr.GG];exact⟨rfl,rfl,rfl,⟨⟨⟨⟨⟨⟨trivial,rfl,rfl⟩,rfl⟩,rfl,rfl⟩,rfl,rfl⟩,rfl,rfl⟩,trivial⟩,trivial⟩
  ·show hOut (FV (_+0) λZ=>(λR=>C4.ret (D2 (BP 0 R) 4 (.ptr 0 0)) (R.zip ([BW k s n a b .Ay].map (CP (BP 0 R)))) Z) ([id]++List.range' _ 0))=_;rw[G5];rfl
 ·rename_i B m C;obtain⟨l,hl,y⟩:=Ag.1 y;cases M:Nat.beq id B with
  |true=>rw[M]at y;cases y
  |false=>
  rw[M]at y;injection y with y;subst y;intro p v up nx' J E F ρ w0 r;obtain⟨K,J⟩:=NU J;obtain⟨rfl,rfl,rfl,rfl⟩:=SG J;obtain⟨rfl,Y,aa,O⟩:=mC hl;have W:id≠B:=λe=>by rw[e,Nat.beq_refl]at M;cases M
  have hS:Bo Tryz.prog 90 ((tT k s0 n a b s l (.sl 1 0 C C)).at () [id,B]).AJ:=MX _ (λp L=>by cases L) (λH _ p L=>by cases L) (λx=>rfl) (λx=>Rl rfl rfl) (λx L=>⟨trivial,rfl,Nv (R7 _ _ _ _ _ trivial) (Vi L)⟩) λx L=>by
   refine⟨(A4 Lf 60).call,JZ Bu B5 60,?_⟩;rcases O with⟨p,rfl,rfl⟩|⟨p,q,rfl,rfl⟩
   ·exact Ajd k s0 n a b s p L
   ·exact Ajf k s0 n a b s p q L
  refine NV (S:=tT k s0 n a b s l (.sl 1 0 C C)) (x:=()) (ids:=[id,B]) (os:=[BW k s0 n a b (.sl B 0 C C),BI l]) (args':=[.ptr id 0,.bs s]) hS K rfl rfl ?_ ?_ rfl ?_ ⟨⟨rfl,rfl⟩,rfl,trivial⟩ ⟨?_,?_,trivial⟩ ?_ ?_ r λvs h=>U ρ vs h
  ·show cond (List.any [B] (Nat.beq id)) false true=true;simp only[List.any_cons,List.any_nil,M,Bool.or_false,cond_false]
  ·show(List.all [id,B] λj=>Nat.blt j _)=true;simp[Co,V,Y]
  ·exact Rl (p:=λq:Nat×Ae=>Kr H q.1 q.2) hd aa
  ·show(match((H.set B (BI l)).set id (BW k s0 n a b (.sl B 0 C C))).get id with
    |none=>False
    |some o=>EO [(0,id),(1,B)] (BW k s0 n a b (.sl 1 0 C C)) o)
   rw[Tr.GG];exact⟨rfl,rfl,rfl,⟨⟨⟨⟨⟨⟨trivial,rfl,rfl⟩,rfl⟩,rfl,rfl⟩,rfl,rfl⟩,rfl,rfl⟩,trivial⟩,⟨rfl,rfl,rfl,rfl⟩⟩
  ·show(match((H.set B (BI l)).set id (BW k s0 n a b (.sl B 0 C C))).get B with
    |none=>False
    |some o=>EO [(0,id),(1,B)] (BI l) o)
   rw[Tr.KE _ W,Tr.GG];exact k7 _ K O
  ·show hOut (FV (_+0) λZ=>(λR=>C4.ret (D2 (BP 0 R) 4 (.ptr 0 0)) (R.zip ([BW k s n a b (.sl 1 0 C C),BI l].map (CP (BP 0 R)))) Z) ([id,B]++List.range' _ 0))=_;rw[G5];show some (false,AV.ptr id 0,[(id,BW k s n a b (.sl B 0 C C)),(B,CP (BP 0 [id,B]) (BI l))],_)=_;rw[lz K];rfl
  ·exact Rl (p:=λi:Nat=>∃q∈[(id,BW k s n a b (.sl B 0 C C)),(B,BI l)],q.1=i) ⟨_,BN ..,rfl⟩ ⟨_,Ca _ (DE.2 rfl),rfl⟩
 ·cases y
def oF (L:Ab) (F:Ab->PF) (s:RS):HO:=.gen (F L s) λy=>.br (An y.2.err 0) (.ret (Bw y.1) [Bl L y.2] 0) (.AB (CQ L y.2) [F4] 0)
def mF (L:Ab) (n:Nat) (F:Ab->PF):Gx:=mP L Unit LD (λs _=>Bb L n s) (λs _=>oF L F s)
def mG (L:Ab) (F:Ab->PF):Gx:=mP L Unit LD (λ_ _=>True) (λs _=>oF L F s)
structure JW (x:PT) (v:AV):Prop where
 h:∀σ,AZ σ (Bw x) v
structure Hh (L:List TK) (c:AV) (m:Int) (v:AV) (t:PT×RS):Prop where
 e:t.2.err=0
 c:c=cP L t.2
 m:m=t.2.nest
 v:JW t.1 v
structure Gg (L:List TK) (v:AV) (t:RS):Prop where
 e:t.err≠0
 v:v=CQ L t
def Hj (L:Ab) (t:PT×RS):KC:=λr=>match r with
 |.mk v H _=>Bg (L4 H (.ptr 4 0)) λq=>Bg (Jn Tryz.prog H v) λf=>Al f.1 (Hh L q.1.1 q.1.2 f.2.1 t/\Al (f.2.2.2.all λi=>not (Nat.beq i 4)) True)
 |.AB v H _=>Bg (H.get 4) λo=>match o with
  |.cells ty c z n op=>Al (cond (Nat.beq ty 68) (cond (Nat.beq n 2) (not op) false) false) (Gg L v t.2)
  |_=>False
 |_=>False
def j8 (L:Ab):DX:=(59,gn)::(90,hJ)::(89,vM L)::j7 L
theorem tc (L:Ab):Gi Tryz.prog (j8 L):=El AfA (El AfT (El (AfD L) (ta L)))
def X0 (L:Ab):Ctx:=NL (j8 L) (tc L)
mutual
theorem zZ (q:List (Nat×Nat)):∀x:PT,AZ q (Md x) (Md x)
 |.mk k s n l c ks=>by unfold Md;exact⟨⟨rfl,rfl⟩,rfl,⟨rfl,rfl⟩,⟨rfl,rfl⟩,⟨rfl,rfl⟩,trivial,⟨rfl,rfl,⟨λi _=>Ny q ks i⟩⟩,trivial⟩
theorem Ny (q:List (Nat×Nat)):∀(ks:Av) (i:Nat),Ba q ((Bz ks).getD i []) ((Bz ks).getD i [])
 | [],i=>by unfold Bz;exact trivial
 |y::B,0=>by unfold Bz;exact⟨zZ q y,trivial⟩
 |y::B,i+1=>by unfold Bz;exact Ny q B i
end
theorem PI (q:List (Nat×Nat)) (x:PT):AZ q (Bw x) (Bw x):=by rw[<-Zr];exact zZ q x
theorem OC (x:PT):JW x (Bw x):=⟨λq=>PI q x⟩
theorem HI:∀(ks:Av) (i:Nat) (h:i<ks.length),(Bz ks).getD i []=[Bw ks[i]]
 | [],i,h=>by simp at h
 |x::q,0,h=>by unfold Bz;rw[Zr];rfl
 |x::q,i+1,h=>by unfold Bz;have:=HI q i (by simpa using h);simpa using this
theorem Uz {k n:Int} {x:Ac} {tk:TK} {ks:Av} {w:AV} (y:∀q,AZ q (.vec 1 ks.length λi=>(Bz ks).getD i []) w):JW (nd k x n tk ks) (.pv [.int .i64 k,.bs x,.int .i64 n,.int .i64 tk.line,.int .i64 tk.Ao,.Ay,w]):=⟨λq=>⟨⟨rfl,rfl⟩,rfl,⟨rfl,rfl⟩,⟨rfl,rfl⟩,⟨rfl,rfl⟩,trivial,y q,trivial⟩⟩
theorem uM (q:List (Nat×Nat)):AZ q (.vec 1 ([]:Av).length λi=>(Bz []).getD i []) .Ay:=rfl
theorem jh {y:List (Nat×Nat)} {ks:Av} {m:Nat} {g:Nat->Aj} (hm:m=ks.length) (B:∀i,(h:i<ks.length)->g i=[Bw ks[i]]):AZ y (.vec 1 ks.length λi=>(Bz ks).getD i []) (.vec 1 m g):=by
 refine⟨rfl,hm,⟨λi hi=>?_⟩⟩;have q:i<ks.length:=by omega
 show Ba y ((Bz ks).getD i []) (g i);rw[HI ks i q,B i q];exact⟨PI y _,trivial⟩
def dB (ws:List Ac):Bool:=(ws.all λw=>DC w==decide (Fl w=2))&&decide (ws.length<=1000)
theorem IQ {ws:List Ac} (h:dB ws=true):BK ws:=by unfold dB at h;rw[C5,List.all_eq_true,BV]at h;exact⟨λw q=>by have:=h.1 w q;simpa using this,h.2⟩
theorem Vp {L:Ab} {y t:RS} (h:Kp y t) (q:y.err≠0):Gg L (CQ L y) t:=by obtain⟨B,C⟩:=h.e q;refine⟨by rw[B];exact q,?_⟩;unfold CQ FD FC;rw[B,C]
theorem MN {L:Ab} {k n:Int} {x:Ac} {tk:TK} {s:RS} {t:PT×RS} (h:t=(nd k x n tk [],s)) (q:s.err=0):Hh L (cP L s) s.nest (.pv [.int .i64 k,.bs x,.int .i64 n,.int .i64 tk.line,.int .i64 tk.Ao,.Ay,.Ay]) t:=by subst h;exact⟨q,rfl,rfl,Uz uM⟩
theorem Lh {L:Ab} {y t:PT×RS} (h:t=y) (q:y.2.err=0):Hh L (cP L y.2) y.2.nest (Bw y.1) t:=by subst h;exact⟨q,rfl,rfl,OC _⟩
theorem AkK {L:Ab} {t:RS} {c:Tr AV} {z:CB} {q:List (Nat×Nat)}:cK .leaf (.Dw [cP L t,.int .i64 t.nest]) c z 2 q=q:=by
 have step:∀(x:AV) (k:Nat) (q:List (Nat×Nat)),(∀b,Ur x b q=q)->(match cellOf c z k with
   |none=>q
   |some b=>Ur x b q)=q:=λx k q y=>by
  split
  ·rfl
  ·exact y _
 have s0:cK .leaf (.Dw [cP L t,.int .i64 t.nest]) c z 1 q=q:=step (cP L t) 0 _ λb=>rfl;exact(step (.int .i64 t.nest) 1 _ λb=>rfl).trans s0
theorem AkI {c:Tr AV} {z:CB} {q:List (Nat×Nat)}:cK .leaf (.Dw []) c z 2 q=q:=rfl
theorem AcN {H:Tr Ae} {c:AV} {m:Int} {id i:Nat} (h:L4 H (.ptr id 0)=some ((c,m),i)):i=id/\∃cc z,H.get id=some (.cells 68 cc z 2 false)/\cellOf cc z 0=some c/\cellOf cc z 1=some (.int .i64 m):=by
 obtain⟨o,L,h⟩:=Ag.1 h;split at h
 ·rename_i ty cc z n op;obtain⟨y,q⟩:=Sa h;clear h;obtain⟨cs,B,h⟩:=Ag.1 q;clear q;split at h
  ·rename_i S R;injection h with h;injection h with h q;injection h with O M;subst q;subst O;subst M;obtain⟨K,y⟩:=Bf y;obtain⟨J,E⟩:=Bf y;rw[AN]at K J;have E:op=false:=by cases op<;>simp_all
   subst K;subst J;subst E;have C:=(Ui cc z 2 0 _ B).2;exact⟨rfl,cc,z,L,C 0 _ rfl,C 1 _ rfl⟩
  ·cases h
 ·cases h
theorem AgG {L:Ab} {F:Ab->PF} {s:RS} {r:CR} (h:Hj L (F L s) r):Gk Tryz.prog 1 4 (4+1) (oF L F s) r:=by
 show Ah (An (F L s).2.err 0) (Gk Tryz.prog 1 4 (4+1) (.ret (Bw (F L s).1) [Bl L (F L s).2] 0) r) (Gk Tryz.prog 1 4 (4+1) (.AB (CQ L (F L s).2) [F4] 0) r);generalize F L s=t at h;unfold Hj at h;split at h
 ·rename_i v H n;obtain⟨⟨⟨c,m⟩,i⟩,V,h⟩:=BM h;obtain⟨⟨f1,S,fz,ids⟩,Y,h⟩:=BM h;obtain⟨B,M,K⟩:=EE.1 h;simp only at B M K;subst B;obtain⟨K,_⟩:=EE.1 K;obtain⟨e,hc,hm,hv⟩:=M;obtain⟨rfl,cc,z,W,g0,Z⟩:=AcN V;refine Aw (λ_=>?_) λC=>by rw[Dy]at C;exact absurd e C
  have E:(C8 H ids).get 4=some (.cells 68 cc z 2 false):=by
   have:∀l:List Nat,(l.all λi=>not (Nat.beq i 4))=true->(C8 H l).get 4=H.get 4:=λl=>by
    induction l with
    |nil=>intro _;rfl
    |cons a l U=>intro h;rw[List.all_cons,C5]at h;show((C8 H l).del a).get 4=_;rw[Tr.H6,Ad (λe=>by rw[e,Nat.beq_refl]at h;cases h.1)];exact U h.2
   rw[this ids K,W]
  show Bg (Jn Tryz.prog H v) _;rw[Y];refine At rfl ?_;have J:Us (C8 H ids) [(4,Bl L t.2)] (I2 (4+1))=I2 (4+1):=by show fL (Option.rec (motive:=λ_=>List (Nat×Nat)) (I2 (4+1)) (λo=>mn (Bl L t.2) o (I2 (4+1))) ((C8 H ids).get 4)) (λq=>q)=_;rw[E,Sw];exact AkK
  show fL (Us (C8 H ids) [(4,Bl L t.2)] (I2 (4+1))) (λq=>cond (Nat.beq 1 1) (cond (Nat.ble (4+1) (4+1)) (bV (4+1) (4+1) [4] q) false) false=true/\tP q (Tr.leaf.set 0 S) [(0,Bw t.1)]/\Go.Ev.hP (4+1) q (C8 H ids) [(4,Bl L t.2)]);rw[J,Sw];refine⟨rfl,⟨hv.h _,trivial⟩,⟨rfl,?_⟩,trivial⟩;show(match(C8 H ids).get 4 with
   |none=>False
   |some o=>EO (I2 (4+1)) (Bl L t.2) o)
  rw[E];have pp:∀(x y:AV) (k:Nat),cellOf cc z k=some y->AZ (I2 (4+1)) x y->(match cellOf cc z k with
    |none=>False
    |some b=>AZ (I2 (4+1)) x b):=λx y k B M=>by rw[B];exact M
  exact⟨rfl,rfl,rfl,⟨trivial,pp _ _ 0 g0 (by rw[hc];exact cf _ L t.2)⟩,pp _ _ 1 Z (by rw[hm];exact⟨rfl,rfl⟩)⟩
 ·rename_i v H n;obtain⟨o,O,h⟩:=BM h;split at h
  ·rename_i ty cc z m op;obtain⟨B,h⟩:=EE.1 h;obtain⟨e,hv⟩:=h;obtain⟨J,B⟩:=Bf B;obtain⟨C,R⟩:=Bf B;rw[AN]at J C;have R:op=false:=by cases op<;>simp_all
   subst J;subst C;subst R;subst hv;refine Aw (λC=>by rw[C0]at C;exact absurd C e) λ_=>?_;show VX Tryz.prog 1 (4+1) (CQ L t.2) [F4] 0 4 (CQ L t.2) H n;unfold VX;rw[show Yy 1 Tryz.prog H (CQ L t.2)=some (true,CQ L t.2,[],[])from rfl];refine At rfl ?_;have J:Us H [(4,F4)] (I2 (4+1))=I2 (4+1):=by show fL (Option.rec (motive:=λ_=>List (Nat×Nat)) (I2 (4+1)) (λo=>mn F4 o (I2 (4+1))) (H.get 4)) (λq=>q)=_;rw[O,Sw];exact AkI (c:=cc) (z:=z)
   show fL (Us H [(4,F4)] (I2 (4+1))) (λq=>cond (Nat.beq 1 1) (cond (Nat.ble (4+1) (4+1)) (bV (4+1) (4+1) [4] q) false) false=true/\tP q (Tr.leaf.set 0 (CQ L t.2)) [(0,CQ L t.2)]/\Go.Ev.hP (4+1) q H [(4,F4)]);rw[J,Sw];refine⟨rfl,⟨⟨rfl,⟨⟨rfl,rfl⟩,⟨rfl,rfl⟩,⟨rfl,rfl⟩,trivial⟩⟩,trivial⟩,⟨rfl,?_⟩,trivial⟩;show(match H.get 4 with
    |none=>False
    |some o=>EO (I2 (4+1)) F4 o)
   rw[O];exact⟨rfl,rfl,rfl,⟨trivial,trivial⟩,trivial⟩
  ·exact h.elim
 ·exact h.elim
def Cg (a:Ab) (b:RS):=Hh a (cP a b) (RS.nest b)
def Ci (a:TK):=AV.int .i64 (TK.line a)
def BD (a:Ab) (b:RS):=Gg a (CQ a b)
def Ch (a:TK):=AV.int .i64 (TK.Ao a)
theorem Ajq:∀(L:Ab) (s:RS) (t:PT×RS),R0 L s->t=Eh L s->(Bk L s λ(s:RS)=>(1:Int)≠(0:Int))/\∀(y:TK×RS),y=IE L s->A5 y.2 ((((Af (DD y.1)/\True/\True)/\True)/\BS/\BS/\True)/\Cg L y.2 (AV.pv [AV.int .i64 (29:Int),DD y.1,BX,Ci y.1,Ch y.1,AV.Ay,AV.Ay]) t/\True) (BD L y.2 t.2)
:=by
 delta Bj Bk A5 BS Cg Ci BX BD Ch DD IE;intro L s t q ht;simp only[Cd];refine⟨I5 q (by decide),λy hy=>?_⟩;rw[Jf q]at hy;have ht:t=(nd 29 y.1.text 0 y.1 [],y.2):=by rw[ht,hy];rfl
 exact Aw (λe=>MN ht (C0.1 e)) λe=>Vp (by rw[ht];exact Du _) (Dy.1 e)
theorem Ajp:∀(L:Ab) (s:RS) (t:PT×RS),R0 L s->t=Eh L s->(A4 (X0 L) 60).call 94 [.ptr 4 0] (Bx (CI++Cl [Bl L s] 4)) (4+1) (Hj L t):=Eq.mpr (by kernel_rfl) Ajq
@[reducible] def dR:Ab->PT×RS->TK×RS->Prop:=λ(L:Ab) (t:PT×RS) (a:TK×RS)=>(((Af (DD a.1)/\True/\True)/\True)/\BS/\BS/\True)/\Cg L a.2 (AV.pv [AV.int .i64 (5:Int),DD a.1,BX,Ci a.1,Ch a.1,AV.Ay,AV.Ay]) t/\True
def lG:=[[(105:UInt8),110,116],[(102:UInt8),110],[(116:UInt8),111,107],[(104:UInt8),97,110,100],Pj]
def Hw (a:Ab) (b:RS):=Aq a (Bj a b)
@[reducible] def dT:Ab->RS->PT×RS->Prop:=λ(L:Ab) (s:RS) (t:PT×RS)=>(True/\Bk L s λ(s:RS)=>BK lG)/\∀(y:TK×RS),y=Hw L s lG->A5 y.2 (dR L t y) (BD L y.2 t.2)
theorem Ajk:∀(L:Ab) (s:RS) (t:PT×RS),R0 L s->t=Eg L s->Pl s L (HL s L (Ah (An (TK.kind (Ef s L)) (1:Int)) ((Cs L s)/\∀(y:TK×RS),y=(Cu L s)->dR L t y) (dT L s t))) (dT L s t)
:=by
 delta Bj Bk IC Cs Cu Ef D1 HL Pl;intro L s t q ht;simp only[Cd,dR,dT,BS,Cg,Ci,BX,Ch,DD,Bj,Bk,A5,BD,Pj,lG,Hw];have hd:=Qb q;have J:=q.ok.a0;rw[Jf q];have alt:(Ar L s).kind≠1->(C6 L (cP L s) s.nest λ_=>BK LO)/\∀y:TK×RS,y=Aq L s LO->Ah (An y.2.err 0) (Hh L (cP L y.2) y.2.nest (.pv [.int .i64 5,.bs y.1.text,.int .i64 0,.int .i64 y.1.line,.int .i64 y.1.Ao,.Ay,.Ay]) t) (Gg L (CQ L y.2) t.2):=λE=>
  ⟨I5 q (IQ rfl),λy hy=>by
   have ht:t=(nd 5 y.1.text 0 y.1 [],y.2):=by rw[ht,hy];unfold Eg;rw[Ad E]
   exact Aw (λe=>MN ht (C0.1 e)) λe=>Vp (by rw[ht];exact Du _) (Dy.1 e)⟩
 refine Aw (λc=>?_) λc=>?_
 ·rw[CE]at c;have C:s.at_<L.length:=by omega
  rw[RK q C];refine At (Cf.2 (by omega)) (Aw (λB=>?_) λB=>alt (Dy.1 B));rw[C0]at B;refine⟨I5 q C,λy hy=>?_⟩;exact MN (by rw[ht,hy];unfold Eg;rw[Am B]) (by rw[hy];exact q.e)
 ·rw[CF]at c;exact alt (by rw[RL (by omega)];decide)
theorem Ajj:∀(L:Ab) (s:RS) (t:PT×RS),R0 L s->t=Eg L s->(A4 (X0 L) 60).call 91 [.ptr 4 0] (Bx (CI++Cl [Bl L s] 4)) (4+1) (Hj L t):=Eq.mpr (by kernel_rfl) Ajk
theorem pf (x:PT):L0 4 (Bw x):=PI [] x
theorem Ib {g:FuncId} {L:Ab} {pre:RS->Prop} {F:Ab->PF} (q:∀s,R0 L s->pre s->∃(cx:Ctx) (fuel:Nat),cx.P=Tryz.prog/\cx.P.follows .mixedOrders=true/\EY cx.P cx.tb/\∀t,t=F L s->(A4 cx fuel).call g [.ptr 4 0] (Bx (CI++Cl [Bl L s] 4)) (4+1) (Hj L t)):Bo Tryz.prog g (mP L Unit LD (λs _=>pre s) (λs _=>oF L F s)):=V0 (ar:=λ_=>[]) (fz:=1) (λs a _ _=>⟨λ_=>⟨pf _,rfl,HG (OT L _)⟩,λ_=>⟨R9 L _,rfl,HG R8⟩⟩) (λs a _ _=>⟨⟨rfl,λ_=>rfl,HG λ_=>rfl⟩,⟨rfl,λ_=>rfl,HG λ_=>rfl⟩⟩) (λM a=>trivial) lu λs a B y=>by obtain⟨cx,fuel,K,J,E,C⟩:=q s B y;exact⟨cx,fuel,Hj L (F L s),K,J,E,λr h=>AgG h,C _ rfl⟩
theorem Af2 (L:Ab):Bo Tryz.prog 94 (mG L Eh):=Ib λs h _=>⟨X0 L,60,rfl,Bu,B5,λt ht=>Ajp L s t h ht⟩
theorem AfZ (L:Ab):Bo Tryz.prog 91 (mG L Eg):=Ib λs h _=>⟨X0 L,60,rfl,Bu,B5,λt ht=>Ajj L s t h ht⟩
def NW (L:Ab):DX:=(94,mG L Eh)::(91,mG L Eg)::j8 L
theorem OY (L:Ab):Gi Tryz.prog (NW L):=El (Af2 L) (El (AfZ L) (tc L))
structure FG (L:List TK) (n:Nat) (F:List TK->PF):Prop where
 g:GF n 1 2 F
 k:KF (F L)
def te (L:Ab) (n:Nat) (T B:Ab->PF):DX:=(123,mF L n T)::(88,mF L n B)::NW L
structure UO (L:List TK) (n:Nat) (T B:List TK->PF):Prop where
 t:Bo Tryz.prog 123 (mF L n T)
 b:Bo Tryz.prog 88 (mF L n B)
theorem Adn {L:Ab} {n:Nat} {T B:Ab->PF} (h:UO L n T B):Gi Tryz.prog (te L n T B):=El h.t (El h.b (OY L))
def pz (L:Ab) (n:Nat) (T B:Ab->PF) (h:UO L n T B):Ctx:=NL (te L n T B) (Adn h)
theorem Fs {L:Ab} {E C:Int} {s:RS} {r:PT×RS} (h:R0 L s) (q:CA L E C s r) (y:Kp s r.2) (e:r.2.err=0):R0 L r.2:=⟨q.ok,e,by rw[y.o e,h.w]⟩
theorem Jb {L:Ab} {s r:RS} (h:R0 L s) (q:PY L s r) (y:Kp s r) (e:r.err=0):R0 L r:=⟨q.ok,e,by rw[y.o e,h.w]⟩
theorem HN {L:Ab} {s:RS} (h:R0 L s) (q:s.at_<L.length):R0 L (Au s):=⟨JY h.ok q,h.e,h.w⟩
theorem D3 {L:Ab} {s:RS} {ws:List Ac} {G:RS->Prop} (h:R0 L s) (q:dB ws=true) (B:G s):(C6 L (cP L s) s.nest λ_=>BK ws)/\∀y,y=B8 L (cP L s) s.nest->G y:=⟨I5 h (IQ q),λy hy=>by rw[hy,Jf h];exact B⟩
theorem Fc {L:Ab} {s:RS} {G:TK×RS->Prop} (h:R0 L s) (q:s.at_<L.length) (B:G (Ar L s,Au s)):(C6 L (cP L s) s.nest λs=>s.at_<L.length)/\∀y,y=(Ar L (B8 L (cP L s) s.nest),Au (B8 L (cP L s) s.nest))->G y:=⟨I5 h q,λy hy=>by rw[hy,Jf h];exact B⟩
theorem Rr {L:Ab} {s r:RS} {e:Int} (h:R0 L s) (q:e≠0) (y:Kp (CK s e) r):(C6 L (cP L s) s.nest λ_=>e≠0)/\Gg L (CQ L (CK (B8 L (cP L s) s.nest) e)) r:=⟨I5 h q,by rw[Jf h];exact Vp y (WW s q).1⟩
theorem Ce {L:Ab} {s r:RS} {p:RS->Prop} {α:Type} {f:RS->α×RS} {K:α×RS->Prop} (h:R0 L s) (q:p s) (B:Kp (f s).2 r) (C:(f s).2.err=0->K (f s)):C6 L (cP L s) s.nest p/\∀y,y=f (B8 L (cP L s) s.nest)->Ah (An y.2.err 0) (K y) (Gg L (CQ L y.2) r):=⟨I5 h q,λy hy=>by rw[hy,Jf h];exact Aw (λe=>C (C0.1 e)) λe=>Vp B (Dy.1 e)⟩
def EF (s:RS):RS:={s with nest:=s.nest+1}
theorem Z2 {L:Ab} {s:RS} (h:R0 L s) (hn:s.nest<=900):R0 L (EF s):=⟨⟨h.ok.len,h.ok.a0,h.ok.a1,by have:=h.ok.n0;show 0<=s.nest+1;omega,by show s.nest+1<=1000;omega⟩,h.e,h.w⟩
theorem Agt {L:Ab} {s:RS} (h:R0 L s) (hn:1<=s.nest):R0 L (down s):=⟨Sb h.ok hn,h.e,h.w⟩
theorem uC {L:Ab} {s:RS} {w v:Ac} (h:¬(As L s w=true/\64<=s.nest)):As L (GA L s w) v=As L s v:=by unfold GA;rw[Ad h];rfl
theorem Zk {L:Ab} {s:RS} {w:Ac} (h:As L s w=true) (hn:s.nest<64):B7 L s w=(Ar L s,EF (Au s)):=by
 have hd:¬(As L s w=true/\64<=s.nest):=by rintro⟨_,e⟩;omega
 unfold B7 BE FI;rw[uC hd,Am h];unfold GA;rw[Ad hd];rfl
theorem Ad2 {L:Ab} {s:RS} {w:Ac} (q:R0 L s) (h:As L s w=false):Kp (CK s 4) (B7 L s w).2:=by
 have hd:¬(As L s w=true/\64<=s.nest):=by rw[h];rintro⟨e,_⟩;cases e
 unfold B7 BE FI;rw[uC hd,Ad (nb h)];unfold GA CK;rw[Ad hd,Am q.e,Am q.e];exact⟨λ_=>⟨rfl,rfl⟩,λ_=>rfl⟩
theorem YU {L:Ab} {s:RS} {w:Ac} (q:R0 L s) (h:As L s w=true) (hn:s.nest=64):Kp (CK s 5) (B7 L s w).2:=by refine Kp.tr ?_ (Dk L (GA L s w) w);unfold GA;rw[Am ⟨h,by omega⟩];exact⟨λ_=>⟨rfl,rfl⟩,λ_=>rfl⟩
theorem sign_one (L:Ab) (s:RS) (w:Ac):BE L s w=Aq L s [w]:=by unfold BE Aq;rw[Dc rfl]
theorem nR (x:PT):oV (Bw x):=⟨λq=>PI q x,pf x,λ_=>rfl⟩
theorem F8 (x:PT):D8 [Bw x]:=⟨λa q=>by rw[DE.1 q];exact nR x⟩
theorem bR (x y:PT):D8 [Bw x,Bw y]:=⟨Rl (nR x) (nR y)⟩
theorem NO {L:Ab} {k n:Int} {x:Ac} {tk:TK} {s:RS} {t:PT×RS} {y:PT} {g:Nat->Aj} (h:t=(nd k x n tk [y],s)) (he:s.err=0) (q:g 0=[Bw y]):D8 [Bw y]/\Hh L (cP L s) s.nest (.pv [.int .i64 k,.bs x,.int .i64 n,.int .i64 tk.line,.int .i64 tk.Ao,.Ay,.vec 1 1 g]) t:=by
 subst h;refine⟨F8 y,he,rfl,rfl,Uz λB=>jh rfl λi hi=>?_⟩;obtain rfl:i=0:=by simp at hi;omega
 exact q
theorem OW {L:Ab} {k n:Int} {x:Ac} {tk:TK} {s:RS} {t:PT×RS} {y z:PT} {g:Nat->Aj} (h:t=(nd k x n tk [y,z],s)) (he:s.err=0) (B:g 0=[Bw y]) (q:g 1=[Bw z]):D8 [Bw y,Bw z]/\Hh L (cP L s) s.nest (.pv [.int .i64 k,.bs x,.int .i64 n,.int .i64 tk.line,.int .i64 tk.Ao,.Ay,.vec 1 2 g]) t:=by
 subst h;refine⟨bR y z,he,rfl,rfl,Uz λC=>jh rfl λi hi=>?_⟩;rcases(show i=0\/i=1 by simp at hi;omega)with rfl|rfl
 ·exact B
 ·exact q
def Cy (a:PT):=AV.pv [AV.int .i64 (PT.kind a),AV.bs (PT.text a),AV.int .i64 (PT.num a),AV.int .i64 (PT.line a),AV.int .i64 (PT.Ao a),AV.Ay,AV.vec 1 (List.length (PT.ks a)) λ(q:Nat)=>getD (Bz (PT.ks a)) q []]
def LA (a:Ab) (b:RS) (c:RS):=((Bk a b λ(q:RS)=>(4:Int)≠(0:Int))/\Gg a (CQ a (CK (Bj a b) (4:Int))) c)
def Oi (a:RS) (b:Ab) (c:RS):=Ah (An (RS.nest a) (64:Int)) ((Bk b a λ(q:RS)=>(5:Int)≠(0:Int))/\Gg b (CQ b (CK (Bj b a) (5:Int))) c)
def ED (a:Ab) (b:RS) (c:Nat):=(Bk a b λ(q:RS)=>Bb a c q)
def DL (a:PT):=D8 [Cy a]
def Ii (a:Ab) (b:RS):=(Bk a b λ(q:RS)=>True)
def To:=((Af (AV.ptr 4 0)/\True/\True)/\True)
def QY (a:Ab) (b:RS) (c:Nat):=(C6 a (cP a b) (KT b) λ(q:RS)=>Bb a c q)
def C2 (a:Ab->PF) (b:Ab) (c:RS):=a b (Bj b c)
def Q5 (a:RS) (b:Ab) (c:PT) (d:PT×RS) (e:RS):=A5 a (Cg b a (Cy c) d/\True) (BD b a e)
def On (a:RS):=Al (BJ .i64 (KT a))
def Q8 (a:Ab) (b:RS):=Hh a (cP a b) (RS.nest b-1)
def lZ:=[[(110:UInt8),117,108,108]]
theorem AhT:∀(L:Ab) (n:Nat) (T B:Ab->PF),UO L n T B->∀(s:RS) (t:PT×RS),R0 L s->Bb L (n+1) s->FG L n T->FG L n B->t=firstM T B L s->Ah (An (Int.ofNat (D1 s L)) (0:Int)) (LA L s t.2) (HL s L (Ah (An (TK.kind (Ef s L)) (3:Int)) ((Cs L s)/\∀(y:TK×RS),y=(Cu L s)->Cg L y.2 (AV.pv [AV.int .i64 (26:Int),AV.bs [],AV.int .i64 (TK.num y.1),Ci y.1,Ch y.1,AV.Ay,AV.Ay]) t/\True) ((True/\Bk L s λ(s:RS)=>BK lZ)/\∀(y:RS),y=Bj L s->Ah (AW (List.any lZ (As L y))) ((Cs L y)/\∀(J:TK×RS),J=(Cu L y)->Cg L J.2 (AV.pv [AV.int .i64 (27:Int),AV.bs [],BX,Ci J.1,Ch J.1,AV.Ay,AV.Ay]) t/\True) ((True/\Bk L y λ(s:RS)=>BK [[(105:UInt8),116]])/\∀(J:RS),J=Bj L y->Ah (AW (List.any [[(105:UInt8),116]] (As L J))) ((Cs L J)/\∀(y:TK×RS),y=(Cu L J)->Cg L y.2 (AV.pv [AV.int .i64 (28:Int),AV.bs [],BX,Ci y.1,Ch y.1,AV.Ay,AV.Ay]) t/\True) ((True/\Bk L J λ(s:RS)=>BK [[(110:UInt8),101,119]])/\∀(y:RS),y=Bj L J->Ah (AW (List.any [[(110:UInt8),101,119]] (As L y))) ((Cs L y)/\∀(C:TK×RS),C=(Cu L y)->(Ii L C.2)/\∀(y:TK×RS),y=IE L C.2->A5 y.2 ((To/\BS/\BS/\BS/\True)/\Cg L y.2 (AV.pv [AV.int .i64 (33:Int),DD y.1,BX,Ci C.1,Ch C.1,AV.Ay,AV.Ay]) t/\True) ((To/\BS/\True)/\BD L y.2 t.2)) ((True/\Bk L y λ(s:RS)=>BK [Wg])/\∀(C:RS),C=Bj L y->Ah (AW (List.any [Wg] (As L C))) ((Cs L C)/\∀(y:TK×RS),y=(Cu L C)->(ED L y.2 n)/\∀(q:PT×RS),q=C2 B L y.2->A5 q.2 (DL q.1/\(BS/\BS/\((True/\Gq y.1/\True)/\True)/\True)/\Cg L q.2 (AV.pv [AV.int .i64 (36:Int),AV.bs [],BX,Ci y.1,Ch y.1,AV.Ay,AV.vec 1 1 λ(x:Nat)=>[Cy q.1]]) t/\True) ((BS/\True)/\BD L q.2 t.2)) ((True/\Bk L C λ(s:RS)=>BK [[(40:UInt8)]])/\∀(y:RS),y=Bj L C->Ah (AW (List.any [[(40:UInt8)]] (As L y))) ((True/\Bk L y λ(s:RS)=>BK [[(40:UInt8)]])/\∀(q:RS),q=Bj L y->Ah (!AW (List.any [[(40:UInt8)]] (As L q))) (LA L q t.2) (Oi q L t.2 ((Cs L q)/\∀(y:TK×RS),y=(Cu L q)->On y.2 ((QY L y.2 n)/\∀(K:PT×RS),K=T L (B8 L (cP L y.2) (KT y.2))->A5 K.2 ((True/\Bk L K.2 λ(s:RS)=>BK [[(41:UInt8)]])/\∀(y:TK×RS),y=Hw L K.2 [[(41:UInt8)]]->A5 y.2 (Ng y.2 (Q8 L y.2 (Cy K.1) t/\True)) (BD L y.2 t.2)) (BD L K.2 t.2))))) ((Ii L y)/\∀(q:PT×RS),q=Eh L (Bj L y)->Q5 q.2 L q.1 t t.2))))))))
:=by
 delta Cy Bj Bk IC Gq A5 Cs BS Cg Ci BX BD Cu Ch Ef D1 LA DD Oi ED DL Ii HL IE KT Ng To Hw QY Wg C2 Q5 On Q8 lZ;intro L n T B AA s t E hp hT hB ht;simp only[Cd];simp only[List.any_cons,List.any_nil,Bool.or_false];have hd:=Qb E;have AA:=E.ok;have h0:=AA.a0;have aa:=hp.ns;have ad:=hp.lf;have ab:=AA.n0;unfold firstM at ht;refine Aw (λc=>?_) λc=>?_
 ·rw[C0]at c;have ho:=RL (L:=L) (s:=s) (by omega);have hi:∀w,As L s w=false:=λw=>LQ.2 λe=>by have:=Dz e;omega
  rw[Ad (by rw[ho];decide),Ad (nb (hi _)),Ad (nb (hi _)),Ad (nb (hi _)),Ad (nb (hi _)),Ad (nb (hi _))]at ht;refine Rr E (by decide) ?_;rw[ht];obtain⟨h1,_⟩:=cQ (L:=L) (b:=decide ((Ar L s).kind=1)) E (by rw[ho];decide);show Kp (CK s 4) (A6 L s 1).2;rw[show(A6 L s 1).2=CK s 4 from h1];exact Du _
 rw[Dy]at c;have O:s.at_<L.length:=by have:=AA.a1;omega
 rw[RK E O];have W:=HN E O;refine At (Cf.2 (by omega)) (Aw (λM=>?_) λM=>D3 E rfl (Aw (λR=>?_) λR=>D3 E rfl (Aw (λV=>?_) λV=>D3 E rfl (Aw (λY=>?_) λY=>D3 E rfl (Aw (λc5=>?_) λc5=>D3 E rfl (Aw (λU=>?_) λU=>?_))))))
 ·rw[C0]at M;rw[Am M]at ht;exact Fc E O (MN ht E.e)
 ·rw[Ad (Dy.1 M),Am (show As L s Ko=true from R)]at ht;exact Fc E O (MN ht E.e)
 ·rw[Ad (Dy.1 M),Ad (nb (show As L s Ko=false from R)),Am (show As L s K8=true from V)]at ht;exact Fc E O (MN ht E.e)
 ·rw[Ad (Dy.1 M),Ad (nb (show As L s Ko=false from R)),Ad (nb (show As L s K8=false from V)),Am (show As L s LN=true from Y)]at ht;exact Fc E O (Ce (f:=λs=>A6 L s 1) W trivial (by rw[ht];exact Du _) λe=>MN ht e)
 ·rw[Ad (Dy.1 M),Ad (nb (show As L s Ko=false from R)),Ad (nb (show As L s K8=false from V)),Ad (nb (show As L s LN=false from Y)),Am (show As L s Iq=true from c5)]at ht;have S:Fk B L (Au s)=B L (Au s):=by unfold Fk;rw[Ad (λe=>e W.e)]
  rw[S]at ht;have pa:Bb L n (Au s):=⟨W.ok,aa,by show(L.length:Int)-(s.at_+1)<n;omega⟩;exact Fc E O (Ce (f:=B L) W pa (by rw[ht];exact Du _) λe=>NO ht e rfl)
 ·rw[Ad (Dy.1 M),Ad (nb (show As L s Ko=false from R)),Ad (nb (show As L s K8=false from V)),Ad (nb (show As L s LN=false from Y)),Ad (nb (show As L s Iq=false from c5)),Am (show As L s K9=true from U)]at ht;have rest:Kp (B7 L s K9).2 t.2:=by rw[ht];exact(Qw hT.k _).tr ((Dk L _ UE).tr (KJ _))
  refine D3 E rfl (Aw (λc7=>?_) λ_=>Aw (λc8=>?_) λc8=>?_)
  ·rw[show As L s [40]=true from U]at c7;cases c7
  ·rw[C0]at c8;exact Rr E (by decide) ((YU E U c8).tr rest)
  ·rw[Dy]at c8;have ho:=Zk (L:=L) (s:=s) (w:=K9) U (by omega);have Z:=Z2 W (show s.nest<=900 by omega);have pu:Bb L n (EF (Au s)):=⟨Z.ok,by show s.nest+1<=64;omega,by show(L.length:Int)-(s.at_+1)<n;omega⟩;have S:Fk T L (EF (Au s))=T L (EF (Au s)):=by unfold Fk;rw[Ad (λe=>e Z.e)]
   rw[ho]at ht;simp only at ht;rw[S]at ht;have g:=hT.g L _ pu;refine Fc E O (At (CJ.2 ⟨by show-9223372036854775808<=s.nest+1;omega,by show s.nest+1<=9223372036854775807;omega⟩) (Ce (s:=EF (Au s)) (f:=T L) Z pu (by rw[ht];exact(Dk L _ UE).tr (KJ _)) λe=>?_));have r4:=Fs Z g (hT.k _) e;have g5:(T L (EF (Au s))).2.nest=s.nest+1:=g.ns;refine Ce (f:=λs=>Aq L s [[41]]) r4 (IQ rfl) (by rw[ht,sign_one];exact KJ _) λe2=>?_;have f5:=(Kb (ws:=[[41]]) r4.ok).ns;exact At (CJ.2 (by omega)) (Lh (y:=((T L (EF (Au s))).1,down (Aq L (T L (EF (Au s))).2 [[41]]).2)) (by rw[ht,sign_one];rfl) e2)
 ·rw[Ad (Dy.1 M),Ad (nb (show As L s Ko=false from R)),Ad (nb (show As L s K8=false from V)),Ad (nb (show As L s LN=false from Y)),Ad (nb (show As L s Iq=false from c5)),Ad (nb (show As L s K9=false from U))]at ht;exact Ce (f:=Eh L) E trivial (by rw[ht];exact Du _) λe=>Lh ht e
theorem AhS:∀(L:Ab) (n:Nat) (T B:Ab->PF) (AA:UO L n T B) (s:RS) (t:PT×RS),R0 L s->Bb L (n+1) s->FG L n T->FG L n B->t=firstM T B L s->(A4 (pz L n T B AA) 60).call 136 [.ptr 4 0] (Bx (CI++Cl [Bl L s] 4)) (4+1) (Hj L t):=Eq.mpr (by kernel_rfl) AhT
theorem Afm {L:Ab} {n:Nat} {T B:Ab->PF} (h:UO L n T B) (hT:FG L n T) (q:FG L n B):Bo Tryz.prog 136 (mF L (n+1) (firstM T B)):=Ib λs C y=>⟨pz L n T B h,60,rfl,Bu,B5,λt ht=>AhS L n T B h s t C y hT q ht⟩
structure IW (L:List TK) (f:Nat->PT->RS->PT×RS) (t:PT×RS) (s0:RS) (x:PT×RS):Prop where
 k:∃k,De L x.2<k/\f k x.1 x.2=t
 p:CA L 1 2 s0 x
 r:R0 L x.2
def AkG (L:Ab) (f:Nat->PT->RS->PT×RS) (t:PT×RS) (s0:RS) (ks:List Nat) (q:Nat):CX:={X:=PT×RS,T:=λs _ x=>(q,Bw x.1)::MZ s ks,H:=λs n0 x=>(4,Bl L x.2)::YO s [4],nx:=λs _=>s.nx,I:=λs x=>IW L f t s0 x,m:=λx=>De L x.2}
def tf (L:Ab) (n:Nat) (T q:Ab->PF):DX:=(123,mF L n T)::(136,mF L (n+1) q)::NW L
structure UP (L:List TK) (n:Nat) (T Fi:List TK->PF):Prop where
 t:Bo Tryz.prog 123 (mF L n T)
 f:Bo Tryz.prog 136 (mF L (n+1) Fi)
theorem Ado {L:Ab} {n:Nat} {T q:Ab->PF} (h:UP L n T q):Gi Tryz.prog (tf L n T q):=El h.t (El h.f (OY L))
def q4 (L:Ab) (n:Nat) (T q:Ab->PF) (h:UP L n T q) (t:PT×RS) (s0:RS):Ctx:={P:=Tryz.prog,tb:=[],ht:=tf L n T q,AA:=Ado h,lp:=λf r=>cond (Nat.beq f 131) (cond (Nat.beq r 2) (some (AkG L (EW T L) t s0 [0,1] 3)) none) none,cut:=λ_ _=>none,fl:=λf r=>cond (Nat.beq f 131) (cond (Nat.beq r 2) [3] []) []}
theorem m5 {q:List (Nat×Nat)} {x y:PT} (h:x=y):x.kind=y.kind/\x.text=y.text/\x.num=y.num/\x.line=y.line/\x.Ao=y.Ao/\x.ks.length=y.ks.length/\AH λi=>i.succ<=x.ks.length->Ba q ((Bz y.ks).getD i []) ((Bz x.ks).getD i []):=by subst h;exact⟨rfl,rfl,rfl,rfl,rfl,rfl,⟨λi _=>Ny q _ i⟩⟩
theorem ui {y:List (Nat×Nat)} {k n:Int} {w:Ac} {tk:TK} {ks:Av} {x:PT} {m:Nat} {g:Nat->Aj} (h:x=nd k w n tk ks) (hm:m=ks.length) (B:∀i,(hi:i<ks.length)->g i=[Bw ks[i]]):k=x.kind/\w=x.text/\n=x.num/\tk.line=x.line/\tk.Ao=x.Ao/\m=x.ks.length/\AH λi=>i.succ<=m->Ba y ((Bz x.ks).getD i []) (g i):=by
 subst h;refine⟨rfl,rfl,rfl,rfl,rfl,hm,⟨λi hi=>?_⟩⟩;have q:i<ks.length:=by omega
 show Ba y ((Bz ks).getD i []) (g i);rw[HI ks i q,B i q];exact⟨PI y _,trivial⟩
theorem Aeh {q:List (Nat×Nat)} {k n:Int} {w:Ac} {tk:TK} {y:PT} {x:PT} {g:Nat->Aj} (h:x=nd k w n tk [y]) (B:g 0=[Bw y]):k=x.kind/\w=x.text/\n=x.num/\tk.line=x.line/\tk.Ao=x.Ao/\1=x.ks.length/\AH λi=>i.succ<=1->Ba q ((Bz x.ks).getD i []) (g i):=ui h rfl λi hi=>by
  obtain rfl:i=0:=by simp at hi;omega
  exact B
theorem js {B:List (Nat×Nat)} {k n:Int} {w:Ac} {tk:TK} {y z:PT} {x:PT} {g:Nat->Aj} (h:x=nd k w n tk [y,z]) (C:g 0=[Bw y]) (q:g 1=[Bw z]):k=x.kind/\w=x.text/\n=x.num/\tk.line=x.line/\tk.Ao=x.Ao/\2=x.ks.length/\AH λi=>i.succ<=2->Ba B ((Bz x.ks).getD i []) (g i):=ui h rfl λi hi=>by
  rcases(show i=0\/i=1 by simp at hi;omega)with rfl|rfl
  ·exact C
  ·exact q
@[reducible] def dU:Ab->TK×RS->PT×RS->Prop:=λ(L:Ab) (a:TK×RS) (q:PT×RS)=>True/\Aa/\D1 a.2 L=D1 q.2 L/\AH λ(i:Nat)=>Bh i (D1 a.2 L)->(Aa/\TK.kind (Dh a.2 L i)=TK.kind (Dh q.2 L i))/\TK.text (Dh a.2 L i)=TK.text (Dh q.2 L i)/\(Aa/\TK.num (Dh a.2 L i)=TK.num (Dh q.2 L i))/\(Aa/\TK.line (Dh a.2 L i)=TK.line (Dh q.2 L i))/\(Aa/\TK.Ao (Dh a.2 L i)=TK.Ao (Dh q.2 L i))/\True
def Lz (a:RS) (b:Ab) (c:RS):=(True/\Aa/\List.length (List.drop (Int.toNat (RS.at_ a)) b)=List.length (List.drop (Int.toNat (RS.at_ c)) b)/\AH λ(q:Nat)=>Nat.le (Nat.succ q) (List.length (List.drop (Int.toNat (RS.at_ a)) b))->(Aa/\TK.kind (getD (List.drop (Int.toNat (RS.at_ a)) b) q TK.zero)=TK.kind (getD (List.drop (Int.toNat (RS.at_ c)) b) q TK.zero))/\TK.text (getD (List.drop (Int.toNat (RS.at_ a)) b) q TK.zero)=TK.text (getD (List.drop (Int.toNat (RS.at_ c)) b) q TK.zero)/\(Aa/\TK.num (getD (List.drop (Int.toNat (RS.at_ a)) b) q TK.zero)=TK.num (getD (List.drop (Int.toNat (RS.at_ c)) b) q TK.zero))/\(Aa/\TK.line (getD (List.drop (Int.toNat (RS.at_ a)) b) q TK.zero)=TK.line (getD (List.drop (Int.toNat (RS.at_ c)) b) q TK.zero))/\(Aa/\TK.Ao (getD (List.drop (Int.toNat (RS.at_ a)) b) q TK.zero)=TK.Ao (getD (List.drop (Int.toNat (RS.at_ c)) b) q TK.zero))/\True)
def DJ (a:PT):=List.length (PT.ks a)
def Hc (a:Nat) (b:PT) (c:PT):=List.take 1 (List.drop (a*1) [Cy b,Cy c])
def Ih:=((True/\True/\True/\True)/\True)
def Hv (a:Ab) (b:RS) (c:Nat):=(Bk a b λ(q:RS)=>Bb a (c+1) q)
def Ie:=(Af (some 4)/\Aa)
def QW (a:RS) (b:Ab) (c:RS):=(Aa/\Aa/\Aa/\Aa/\(Lz a b c)/\Aa/\RS.nest a=RS.nest c)
def KU:=(Af (some 5)/\Aa)
def Tt:=(Aa/\Aa/\Aa/\Aa/\True/\Af (some 4)/\Aa)
def ZJ (a:PT) (b:Nat):=Ba [(5,5),(0,0),(1,1),(2,2),(3,3),(4,4)] (getD (Bz (PT.ks a)) b [])
def Mn (a:PT) (b:PT):=D8 [Cy a,Cy b]
theorem Ai6:∀(L:Ab) (n:Nat) (T M:Ab->PF),UP L n T M->∀(s:RS) (t:PT×RS),R0 L s->Bb L (n+1) s->FG L n T->FG L (n+1) M->t=Rh T M L s->(Hv L s n)/\∀(y:PT×RS),y=C2 M L s->A5 y.2 ((∃(K:PT×RS),IW L (EW T L) t s K/\Aa/\(((Aa/\PT.kind y.1=PT.kind K.1)/\PT.text y.1=PT.text K.1/\(Aa/\PT.num y.1=PT.num K.1)/\(Aa/\PT.line y.1=PT.line K.1)/\(Aa/\PT.Ao y.1=PT.Ao K.1)/\True/\(Aa/\DJ y.1=DJ K.1/\AH λ(i:Nat)=>Bh i (DJ y.1)->ZJ K.1 i (getD (Bz (PT.ks y.1)) i []))/\True)/\Ie/\KU/\True)/\(QW y.2 L K.2)/\FH/\Tt/\True)/\∀(x:PT×RS),IW L (EW T L) t s x->(True/\Bk L x.2 λ(s:RS)=>BK [[(46:UInt8)],[(91:UInt8)]])/\∀(y:RS),y=Bj L x.2->Ah (AW (List.any [[(46:UInt8)],[(91:UInt8)]] (As L y))) ((True/\Bk L y λ(s:RS)=>BK [[(46:UInt8)]])/\∀(J:RS),J=Bj L y->Ah (AW (List.any [[(46:UInt8)]] (As L J))) ((Cs L J)/\∀(y:TK×RS),y=(Cu L J)->DL x.1/\(Ii L y.2)/\∀(q:TK×RS),q=IE L y.2->A5 q.2 (DL x.1/\(To/\BS/\BS/\BS/\True)/\∃(C:PT×RS),IW L (EW T L) t s C/\GN L C.2 x.2/\Aa/\(((Aa/\(30:Int)=PT.kind C.1)/\TK.text q.1=PT.text C.1/\(Aa/\(0:Int)=PT.num C.1)/\(Aa/\TK.line y.1=PT.line C.1)/\(Aa/\TK.Ao y.1=PT.Ao C.1)/\True/\(Aa/\1=DJ C.1/\AH λ(i:Nat)=>Bh i 1->ZJ C.1 i [Cy x.1])/\True)/\Ie/\KU/\True)/\(Aa/\Aa/\Aa/\Aa/\dU L q C/\Aa/\RS.nest q.2=RS.nest C.2)/\FH/\Tt/\True) ((To/\BS/\True)/\BD L q.2 t.2)) ((True/\Bk L J λ(s:RS)=>BK [[(91:UInt8)]])/\∀(y:RS),y=Bj L J->Ah (!AW (List.any [[(91:UInt8)]] (As L y))) (LA L y t.2) (Oi y L t.2 ((Cs L y)/\∀(q:TK×RS),q=(Cu L y)->On q.2 ((QY L q.2 n)/\∀(y:PT×RS),y=T L (B8 L (cP L q.2) (KT q.2))->A5 y.2 (Mn x.1 y.1/\(Ih/\Ih/\((True/\Af (Bw x.1)/\Gq q.1/\True)/\True)/\True)/\(True/\Bk L y.2 λ(s:RS)=>BK [[(93:UInt8)]])/\∀(E:TK×RS),E=Hw L y.2 [[(93:UInt8)]]->A5 E.2 (Ng E.2 (∃(C:PT×RS),IW L (EW T L) t s C/\GN L C.2 x.2/\Aa/\(((Aa/\(31:Int)=PT.kind C.1)/\[]=PT.text C.1/\(Aa/\(0:Int)=PT.num C.1)/\(Aa/\TK.line q.1=PT.line C.1)/\(Aa/\TK.Ao q.1=PT.Ao C.1)/\True/\(Aa/\2=DJ C.1/\AH λ(i:Nat)=>Bh i 2->ZJ C.1 i (Hc i x.1 y.1))/\True)/\Ie/\KU/\True)/\(Aa/\Aa/\Aa/\Aa/\dU L E C/\Aa/\RS.nest E.2-1=RS.nest C.2)/\FH/\Tt/\True)) (BD L E.2 t.2)) ((Ih/\True)/\BD L y.2 t.2)))))) (Cg L y (Cy x.1) t/\True)) (BD L y.2 t.2)
:=by
 delta Cy Lz Bj Bk Gq A5 Cs BS Bh Cg BD Cu DJ Hc LA Ih Oi GN Hv Ie FH DL Ii QW KU Tt IE ZJ KT Ng To Hw QY C2 On Mn;intro L n T M AA s t hs Z hT hF ht;simp only[Cd,dU,IC,Bh,Dh,D1];simp only[List.any_cons,List.any_nil,Bool.or_false];have aa:=Z.ns;have ae:=Z.lf;have g0:=hF.g L s Z;have V:∀(k:Nat) (x:PT) (s:RS),Kp s (EW T L k x s).2:=YV hT.k;refine Ce (f:=M L) hs Z (by rw[ht];exact V _ _ _) λe0=>?_;have r0:=Fs hs g0 (hF.k _) e0;refine⟨⟨M L s,⟨⟨B3 L,QD g0.ok,ht.symm⟩,g0,r0⟩,m5 rfl,Fu rfl⟩,λx hx=>?_⟩;obtain⟨⟨k,hk,B⟩,px,rx⟩:=hx;have h0:=rx.ok.a0;have ad:=rx.ok.n0;have e5:=px.ns;have AA:=hs.ok;cases k with
 |zero=>omega
 |succ k=>
 unfold EW at B;refine D3 rx rfl (Aw (λS=>D3 rx rfl (Aw (λR=>?_) λR=>?_)) λS=>?_)
 ·rw[Am (show As L x.2 Ro=true from R)]at B;obtain⟨d1,d2⟩:=r7 px R;have W:=Dz R;have U:=HN rx W;refine Fc rx W ⟨F8 x.1,Ce (s:=Au x.2) (f:=λs=>A6 L s 1) U trivial (by rw[<-B];exact V _ _ _) λe=>⟨F8 x.1,MM L x.1 x.2,⟨⟨k,by omega,B⟩,d1,Jb U (I3 U.ok (by decide)) (Ia L _ 1) e⟩,d2,Aeh rfl rfl,Fu rfl⟩⟩
 ·have O:As L x.2 HU=true:=by rw[R,Bool.false_or]at S;exact S
  rw[Ad (nb (show As L x.2 Ro=false from R)),Am O]at B;obtain⟨d0,d1,d2⟩:=tt hT.g px aa (by omega) O;have W:=Dz O;have U:=HN rx W;have rest:Kp (B7 L x.2 HU).2 t.2:=by rw[<-B];exact(Qw hT.k _).tr ((Dk L _ Rp).tr ((KJ _).tr (V _ _ _)))
  refine D3 rx rfl (Aw (λc7=>?_) λ_=>Aw (λc8=>?_) λc8=>?_)
  ·rw[show As L x.2 [91]=true from O]at c7;cases c7
  ·rw[C0]at c8;exact Rr rx (by decide) ((YU rx O c8).tr rest)
  ·rw[Dy]at c8;have ho:=Zk (L:=L) (s:=x.2) (w:=HU) O (by omega);have Y:=Z2 U (show x.2.nest<=900 by omega);have pu:Bb L n (EF (Au x.2)):=by have:=d0.pe;rw[ho]at this;exact this Y.e
   have ab:Fk T L (EF (Au x.2))=T L (EF (Au x.2)):=by unfold Fk;rw[Ad (λe=>e Y.e)]
   have hM:Lj T L x.1 x.2=(nd 31 [] 0 (Ar L x.2) [x.1,(T L (EF (Au x.2))).1],down (Aq L (T L (EF (Au x.2))).2 [Rp]).2):=by unfold Lj;rw[ho];simp only;rw[ab,sign_one]
   rw[hM]at B d1 d2;have g:=hT.g L _ pu;refine Fc rx W (At (CJ.2 ⟨by show-9223372036854775808<=x.2.nest+1;omega,by show x.2.nest+1<=9223372036854775807;omega⟩) (Ce (s:=EF (Au x.2)) (f:=T L) Y pu (by rw[<-B];exact(G7 L _ [Rp]).tr ((KJ _).tr (V _ _ _))) λe=>⟨bR _ _,?_⟩));have r4:=Fs Y g (hT.k _) e;have g5:(T L (EF (Au x.2))).2.nest=x.2.nest+1:=g.ns;refine Ce (f:=λs=>Aq L s [[93]]) r4 (IQ rfl) (by rw[<-B];exact(KJ _).tr (V _ _ _)) λe2=>?_;have s5:=Kb (L:=L) (ws:=[[93]]) r4.ok;have f5:=s5.ns;have r5:=Jb r4 s5 (G7 L _ _) e2;exact At (CJ.2 (by omega)) ⟨_,⟨⟨k,by omega,B⟩,d1,Agt r5 (by show 1<=(Aq L (T L (EF (Au x.2))).2 [[93]]).2.nest;omega)⟩,d2,js rfl rfl rfl,Fu (s:=down (Aq L (T L (EF (Au x.2))).2 [[93]]).2) rfl⟩
 ·rw[Bool.or_eq_false_iff]at S;rw[Ad (nb (show As L x.2 Ro=false from S.1)),Ad (nb (show As L x.2 HU=false from S.2))]at B;exact Lh (y:=x) B.symm rx.e
theorem Ai5:∀(L:Ab) (n:Nat) (T q:Ab->PF) (AA:UP L n T q) (s:RS) (t:PT×RS),R0 L s->Bb L (n+1) s->FG L n T->FG L (n+1) q->t=Rh T q L s->(A4 (q4 L n T q AA t s) 60).call 131 [.ptr 4 0] (Bx (CI++Cl [Bl L s] 4)) (4+1) (Hj L t):=Eq.mpr (by kernel_rfl) Ai6
theorem AfV {L:Ab} {n:Nat} {T q:Ab->PF} (h:UP L n T q) (hT:FG L n T) (y:FG L (n+1) q):Bo Tryz.prog 131 (mF L (n+1) (Rh T q)):=Ib λs C B=>⟨q4 L n T q h (Rh T q L s) s,60,rfl,Bu,B5,λt ht=>by subst ht;exact Ai5 L n T q h s _ C B hT y rfl⟩
structure EI (g:FuncId) (L:List TK) (n:Nat) (F:List TK->PF):Prop where
 f:Bo Tryz.prog g (mF L n F)
def SI (g:FuncId) (L:Ab) (n:Nat) (F:Ab->PF):DX:=(g,mF L n F)::NW L
theorem VD {g:FuncId} {L:Ab} {n:Nat} {F:Ab->PF} (h:EI g L n F):Gi Tryz.prog (SI g L n F):=El h.f (OY L)
def X2 (g:FuncId) (L:Ab) (n:Nat) (F:Ab->PF) (h:EI g L n F):Ctx:=NL (SI g L n F) (VD h)
def AkE (L:Ab) (f:Nat->PT->RS->PT×RS) (t:PT×RS) (s0:RS) (ws:List Ac):CX:={X:=PT×RS,T:=λs _ x=>(7,Bw x.1)::MZ s [0,1,2],H:=λs n0 x=>(4,Bl L x.2)::(4+1,Jc ws)::YO s [4,4+1],nx:=λs _=>s.nx,I:=λs x=>IW L f t s0 x,m:=λx=>De L x.2}
def X3 (g:FuncId) (L:Ab) (n:Nat) (F:Ab->PF) (ws:List Ac) (h:EI g L n F) (t:PT×RS) (s0:RS):Ctx:={P:=Tryz.prog,tb:=[],ht:=SI g L n F,AA:=VD h,lp:=λf r=>cond (Nat.beq f 134) (cond (Nat.beq r 2) (some (AkE L (Ee F ws L) t s0 ws)) none) none,cut:=λ_ _=>none,fl:=λf r=>cond (Nat.beq f 134) (cond (Nat.beq r 2) [7] []) []}
theorem ke {L:Ab} {n:Nat} {F:Ab->PF} {s0:RS} {x t:PT×RS} {ws:List Ac} {G:TK×RS->PT×RS->Prop} (q:FG L n F) (K:Bb L n s0) (E:CA L 1 2 s0 x) (rx:R0 L x.2) (hd:ws.any (As L x.2)=true) (rest:Kp (Ht F L x.1 x.2).2 t.2) (M:R0 L (F L (Au x.2)).2->G (Ar L x.2,Au x.2) (F L (Au x.2))): (C6 L (cP L x.2) x.2.nest λs=>s.at_<L.length)/\∀y,y=(Ar L (B8 L (cP L x.2) x.2.nest),Au (B8 L (cP L x.2) x.2.nest))->(C6 L (cP L y.2) y.2.nest λs=>Bb L n s)/\∀z,z=F L (B8 L (cP L y.2) y.2.nest)->Ah (An z.2.err 0) (D8 [Bw x.1,Bw z.1]/\D8 [Bw x.1,Bw z.1]/\G y z) (Gg L (CQ L z.2) t.2):=by obtain⟨d0,d1,O⟩:=Zh q.g (x:=x.1) (s:=x.2) E K hd;obtain⟨w,_,J⟩:=List.any_eq_true.1 hd;have C:=Dz J;have B:=HN rx C;exact Fc rx C (Ce (f:=F L) B d0 rest λe=>⟨bR _ _,bR _ _,M (Fs B (q.g L _ d0) (q.k _) e)⟩)
theorem wR {L:Ab} {n:Nat} {F:Ab->PF} {s0:RS} {x t:PT×RS} {ws:List Ac} (y:FG L n F) (C:Bb L n s0) (h:IW L (Ee F ws L) t s0 x) (hd:ws.any (As L x.2)=true):Kp (Ht F L x.1 x.2).2 t.2/\(R0 L (F L (Au x.2)).2->IW L (Ee F ws L) t s0 (Ht F L x.1 x.2))/\De L (Ht F L x.1 x.2).2<De L x.2:=by
 obtain⟨⟨k,J,q⟩,B,rx⟩:=h;obtain⟨d0,d1,E⟩:=Zh y.g (x:=x.1) (s:=x.2) B C hd;cases k with
 |zero=>omega
 |succ k=>
 unfold Ee at q;rw[Am hd]at q;exact⟨by rw[<-q];exact VP y.k _ _ _,λr=>⟨⟨k,by omega,q⟩,d1,r⟩,E⟩
theorem wQ {L:Ab} {F:Ab->PF} {s0:RS} {x t:PT×RS} {ws:List Ac} (h:IW L (Ee F ws L) t s0 x) (hd:ws.any (As L x.2)=false):t=x:=by
 obtain⟨⟨k,B,q⟩,y,rx⟩:=h;cases k with
 |zero=>omega
 |succ k=>
 unfold Ee at q;rw[Ad (nb hd)]at q;exact q.symm
theorem Ad9 {F:Ab->PF} {L:Ab} (s:RS):Kp (F L s).2 (OA F L s).2:=EN (P:=λr:RS=>Kp (F L s).2 r) (λ_=>YW _ (by decide)) λ_=>Du _
theorem xL {L:Ab} {n:Nat} {F:Ab->PF} {s:RS} {t:PT×RS} {ws:List Ac} (q:FG L n F) (B:Bb L n s) (y:R0 L s) (ht:t=F6 F ws L s) (e:(F L s).2.err=0):IW L (Ee F ws L) t s (F L s):=by have g:=q.g L s B;exact⟨⟨B3 L,QD g.ok,ht.symm⟩,g,Fs y g (q.k _) e⟩
@[reducible] def RD:Ab->PT×RS->PT×RS->Prop:=λ(L:Ab) (a q:PT×RS)=>Aa/\Aa/\Aa/\Aa/\(Lz a.2 L q.2)/\Aa/\RS.nest a.2=RS.nest q.2
def Zz (a:PT) (b:PT):=((Aa/\PT.kind a=PT.kind b)/\PT.text a=PT.text b/\(Aa/\PT.num a=PT.num b)/\(Aa/\PT.line a=PT.line b)/\(Aa/\PT.Ao a=PT.Ao b)/\True/\(Aa/\DJ a=DJ b/\AH λ(q:Nat)=>Bh q (DJ a)->Ba [(0,0),(1,1),(2,2),(3,3),(4,4),(5,5),(6,6)] (getD (Bz (PT.ks b)) q []) (getD (Bz (PT.ks a)) q []))/\True)
def ZB (a:PT) (b:TK) (c:PT) (d:PT):=((Aa/\(32:Int)=PT.kind a)/\TK.text b=PT.text a/\(Aa/\(0:Int)=PT.num a)/\(Aa/\TK.line b=PT.line a)/\(Aa/\TK.Ao b=PT.Ao a)/\True/\(Aa/\2=DJ a/\AH λ(q:Nat)=>Bh q 2->Ba [(0,0),(1,1),(2,2),(3,3),(4,4),(5,5),(6,6)] (getD (Bz (PT.ks a)) q []) (Hc q c d))/\True)
def TA (a:TK):=(((Af (DD a)/\True/\True)/\True)/\BS/\BS/\((Af (DD a)/\Gq a/\True)/\True)/\True)
def Nn:=[[(42:UInt8)]]
def TI:=(Aa/\(Ie/\True)/\True)
theorem AiJ:∀(L:Ab) (n:Nat) (F:Ab->PF),EI (141:FuncId) L n F->∀(s:RS) (t:PT×RS),R0 L s->Bb L n s->FG L n F->t=F6 F Nn L s->(ED L s n)/\∀(y:PT×RS),y=F L (Bj L s)->A5 y.2 ((∃(K:PT×RS),IW L (Ee F Nn L) t s K/\Aa/\((Zz y.1 K.1)/\Ie/\TI/\(Af (some 5)/\0=0/\1=1/\1=1)/\True)/\RD L y K/\(Aa/\Aa/\Aa/\1=1/\True/\Af [(42:UInt8)])/\FH/\True)/\∀(x:PT×RS),IW L (Ee F Nn L) t s x->(True/\Bk L x.2 λ(s:RS)=>BK Nn)/\∀(y:RS),y=Bj L x.2->Ah (AW (List.any Nn (As L y))) ((Cs L y)/\∀(q:TK×RS),q=(Cu L y)->(ED L q.2 n)/\∀(y:PT×RS),y=C2 F L q.2->A5 y.2 (Mn x.1 y.1/\Mn x.1 y.1/\(TA q.1)/\∃(C:PT×RS),IW L (Ee F Nn L) t s C/\GN L C.2 x.2/\Aa/\((ZB C.1 q.1 x.1 y.1)/\Ie/\TI/\(Af (some 5)/\0=0/\1=1/\1=1)/\True)/\RD L y C/\(Aa/\Aa/\Aa/\Aa/\List.length Nn=1/\AH λ(i:Nat)=>C1 i (List.length Nn)->Af (getD Nn i [])/\True)/\FH/\True) ((BS/\True)/\BD L y.2 t.2)) (Cg L y (Cy x.1) t/\True)) (BD L y.2 t.2)
:=by delta Cy Bj Bk Gq A5 Cs BS Bh Cg BD Cu DJ C1 Hc DD GN Zz ED ZB Ie FH TA Nn TI C2 Mn;intro L n F AA s t M E J ht;simp only[Cd,RD,Lz];refine Ce (f:=F L) M E (by rw[ht];exact VP J.k _ _ _) λO=>?_;refine⟨⟨F L s,xL J E M ht O,m5 rfl,Fu rfl⟩,λx B=>D3 B.r rfl (Aw (λc=>?_) λc=>Lh (wQ B c) B.r.e)⟩;obtain⟨R,d2,d3⟩:=wR J E B c;exact ke J E B.p B.r c R λr=>⟨Ht F L x.1 x.2,d2 r,d3,js rfl rfl rfl,Fu (s:=(F L (Au x.2)).2) rfl,rfl⟩
theorem AiI:∀(L:Ab) (n:Nat) (F:Ab->PF) (AA:EI 141 L n F) (s:RS) (t:PT×RS),R0 L s->Bb L n s->FG L n F->t=F6 F [IL] L s->(A4 (X3 141 L n F [IL] AA t s) 60).call 135 [.ptr 4 0] (Bx (CI++Cl [Bl L s] 4)) (4+1) (Hj L t):=Eq.mpr (by kernel_rfl) AiJ
theorem AiX:∀(L:Ab) (n:Nat) (F:Ab->PF),EI (135:FuncId) L n F->∀(s:RS) (t:PT×RS),R0 L s->Bb L n s->FG L n F->t=F6 F Mg L s->(ED L s n)/\∀(y:PT×RS),y=F L (Bj L s)->A5 y.2 ((∃(K:PT×RS),IW L (Ee F Mg L) t s K/\Aa/\((Zz y.1 K.1)/\Ie/\TI/\(Af (some 5)/\0=0/\2=2/\2=2)/\True)/\RD L y K/\(Aa/\Aa/\Aa/\2=2/\(True/\Af [(43:UInt8)])/\Af [(45:UInt8)])/\FH/\True)/\∀(x:PT×RS),IW L (Ee F Mg L) t s x->(True/\Bk L x.2 λ(s:RS)=>BK Mg)/\∀(y:RS),y=Bj L x.2->Ah (AW (List.any Mg (As L y))) ((Cs L y)/\∀(q:TK×RS),q=(Cu L y)->(ED L q.2 n)/\∀(y:PT×RS),y=C2 F L q.2->A5 y.2 (Mn x.1 y.1/\Mn x.1 y.1/\(TA q.1)/\∃(C:PT×RS),IW L (Ee F Mg L) t s C/\GN L C.2 x.2/\Aa/\((ZB C.1 q.1 x.1 y.1)/\Ie/\TI/\(Af (some 5)/\0=0/\2=2/\2=2)/\True)/\RD L y C/\(Aa/\Aa/\Aa/\Aa/\List.length Mg=2/\AH λ(i:Nat)=>C1 i (List.length Mg)->Af (getD Mg i [])/\True)/\FH/\True) ((BS/\True)/\BD L y.2 t.2)) (Cg L y (Cy x.1) t/\True)) (BD L y.2 t.2)
:=by delta Cy Bj Bk Gq A5 Cs BS Bh Cg BD Cu DJ C1 Hc DD GN Zz ED ZB Ie Mg FH TA TI C2 Mn;intro L n F AA s t M E J ht;simp only[Cd,RD,Lz];refine Ce (f:=F L) M E (by rw[ht];exact VP J.k _ _ _) λO=>?_;refine⟨⟨F L s,xL J E M ht O,m5 rfl,Fu rfl⟩,λx B=>D3 B.r rfl (Aw (λc=>?_) λc=>Lh (wQ B c) B.r.e)⟩;obtain⟨R,d2,d3⟩:=wR J E B c;exact ke J E B.p B.r c R λr=>⟨Ht F L x.1 x.2,d2 r,d3,js rfl rfl rfl,Fu (s:=(F L (Au x.2)).2) rfl,rfl⟩
theorem AiW:∀(L:Ab) (n:Nat) (F:Ab->PF) (AA:EI 135 L n F) (s:RS) (t:PT×RS),R0 L s->Bb L n s->FG L n F->t=F6 F [Ip,Ir] L s->(A4 (X3 135 L n F [Ip,Ir] AA t s) 60).call 130 [.ptr 4 0] (Bx (CI++Cl [Bl L s] 4)) (4+1) (Hj L t):=Eq.mpr (by kernel_rfl) AiX
theorem Ai3:∀(L:Ab) (n:Nat) (F:Ab->PF),EI (130:FuncId) L n F->∀(s:RS) (t:PT×RS),R0 L s->Bb L n s->FG L n F->t=LJ F L s->(ED L s n)/\∀(y:PT×RS),y=F L (Bj L s)->A5 y.2 ((True/\Bk L y.2 λ(s:RS)=>BK [[(60:UInt8)],[(61:UInt8),61]])/\∀(C:RS),C=Bj L y.2->Ah (AW (List.any [[(60:UInt8)],[(61:UInt8),61]] (As L C))) ((Cs L C)/\∀(B:TK×RS),B=(Cu L C)->(ED L B.2 n)/\∀(q:PT×RS),q=C2 F L B.2->A5 q.2 (Mn y.1 q.1/\Mn y.1 q.1/\(TA B.1)/\Cg L q.2 (AV.pv [AV.int .i64 (32:Int),DD B.1,BX,Ci B.1,Ch B.1,AV.Ay,AV.vec 1 2 λ(i:Nat)=>Hc i y.1 q.1]) t/\True) ((BS/\True)/\BD L q.2 t.2)) (Cg L C (Cy y.1) t/\True)) (BD L y.2 t.2)
:=by
 delta Cy Bj Bk Gq A5 Cs BS Cg Ci BX BD Cu Ch Hc DD ED TA C2 Mn;intro L n F AA s t M K E ht;simp only[Cd];refine Ce (f:=F L) M K (by rw[ht];exact EN (P:=λr:PT×RS=>Kp (F L s).2 r.2) (λ_=>jn E.k _ _) λ_=>Du _) λO=>?_;have g:=E.g L s K;have J:=Fs M g (E.k _) O;have key:∀c,[nU,nT].any (As L (F L s).2)=c->t=if c=true then Ht F L (F L s).1 (F L s).2 else F L s:=λc hc=>by rw[ht];unfold LJ;rw[hc]
 refine D3 J rfl (Aw (λc=>?_) λc=>Lh (key false c) J.e);have k1:=key true c;rw[Am rfl]at k1;exact ke E K g J c (by rw[k1];exact Du _) λr=>(OW (t:=t) k1 r.e rfl rfl).2
theorem Ai2:∀(L:Ab) (n:Nat) (F:Ab->PF) (AA:EI 130 L n F) (s:RS) (t:PT×RS),R0 L s->Bb L n s->FG L n F->t=LJ F L s->(A4 (X2 130 L n F AA) 60).call 123 [.ptr 4 0] (Bx (CI++Cl [Bl L s] 4)) (4+1) (Hj L t):=Eq.mpr (by kernel_rfl) Ai3
@[reducible] def Xf:Ab->PT×RS->PT×RS->Prop:=λ(L:Ab) (t a:PT×RS)=>Cg L a.2 (Cy a.1) t/\True
theorem Ajs:∀(L:Ab) (n:Nat) (F:Ab->PF),EI (131:FuncId) L n F->∀(s:RS) (t:PT×RS),R0 L s->Bb L n s->FG L n F->t=OA F L s->(ED L s n)/\∀(y:PT×RS),y=F L (Bj L s)->A5 y.2 (Ah (An (PT.kind y.1) (29:Int)) (Xf L t y) (Ah (An (PT.kind y.1) (30:Int)) (Xf L t y) (Ah (An (PT.kind y.1) (31:Int)) (Xf L t y) (LA L y.2 t.2)))) (BD L y.2 t.2)
:=by
 delta Bj Bk A5 BD LA ED;intro L n F AA s t J K M ht;simp only[Cd,Xf,Cy,Cg];refine Ce (f:=F L) J K (by rw[ht];exact Ad9 _) λE=>?_;have g:=M.g L s K;have O:=Fs J g (M.k _) E;have ht:t=((F L s).1,if(F L s).2.err=0/\(F L s).1.kind≠29/\(F L s).1.kind≠30/\(F L s).1.kind≠31 then CK (F L s).2 4 else(F L s).2):=ht;refine Aw (λC=>?_) λC=>Aw (λB=>?_) λB=>Aw (λq=>?_) λq=>?_
 ·rw[C0]at C;rw[Ad (by rintro⟨_,h,_⟩;exact h C)]at ht;exact Lh ht E
 ·rw[C0]at B;rw[Ad (by rintro⟨_,_,h,_⟩;exact h B)]at ht;exact Lh ht E
 ·rw[C0]at q;rw[Ad (by rintro⟨_,_,_,h⟩;exact h q)]at ht;exact Lh ht E
 ·rw[Dy]at C B q;rw[Am ⟨E,C,B,q⟩]at ht;exact Rr O (by decide) (by rw[ht];exact Du _)
theorem Ajr:∀(L:Ab) (n:Nat) (F:Ab->PF) (AA:EI 131 L n F) (s:RS) (t:PT×RS),R0 L s->Bb L n s->FG L n F->t=OA F L s->(A4 (X2 131 L n F AA) 60).call 127 [.ptr 4 0] (Bx (CI++Cl [Bl L s] 4)) (4+1) (Hj L t):=Eq.mpr (by kernel_rfl) Ajs
theorem AfH {L:Ab} {n:Nat} {F:Ab->PF} (h:EI 141 L n F) (q:FG L n F):Bo Tryz.prog 135 (mF L n (F6 F [IL])):=Ib λs B y=>⟨X3 141 L n F [IL] h (F6 F [IL] L s) s,60,rfl,Bu,B5,λt ht=>by subst ht;exact AiI L n F h s _ B y q rfl⟩
theorem AfP {L:Ab} {n:Nat} {F:Ab->PF} (h:EI 135 L n F) (q:FG L n F):Bo Tryz.prog 130 (mF L n (F6 F [Ip,Ir])):=Ib λs B y=>⟨X3 135 L n F [Ip,Ir] h (F6 F [Ip,Ir] L s) s,60,rfl,Bu,B5,λt ht=>by subst ht;exact AiW L n F h s _ B y q rfl⟩
theorem AfR {L:Ab} {n:Nat} {F:Ab->PF} (h:EI 130 L n F) (q:FG L n F):Bo Tryz.prog 123 (mF L n (LJ F)):=Ib λs B y=>⟨X2 130 L n F h,60,rfl,Bu,B5,λt ht=>Ai2 L n F h s t B y q ht⟩
theorem Af3 {L:Ab} {n:Nat} {F:Ab->PF} (h:EI 131 L n F) (q:FG L n F):Bo Tryz.prog 127 (mF L n (OA F)):=Ib λs B y=>⟨X2 131 L n F h,60,rfl,Bu,B5,λt ht=>Ajr L n F h s t B y q ht⟩
end Go.Proofs.YtlmmbanfhjaioaaGreatDoor
end
end
