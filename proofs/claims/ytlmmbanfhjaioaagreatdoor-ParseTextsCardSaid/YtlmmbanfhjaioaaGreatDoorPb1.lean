/- Laid by program out of its parts: PbE, PbF, PbG, PbH, PbI. -/
import Derived.Test.YtlmmbanfhjaioaaGreatDoorPb0
noncomputable section
set_option linter.unusedVariables false
set_option linter.unusedSimpArgs false
section
set_option maxRecDepth 100000
set_option maxHeartbeats 2000000
open Go Go.Ev
namespace Go.Proofs.YtlmmbanfhjaioaaGreatDoor
def BV (k:Int) (s:List UInt8) (n l c:Int) (ks:AV):Ac:=.cells 100 .leaf (.CC [.int .i64 k,.bs s,.int .i64 n,.int .i64 l,.int .i64 c,.As,ks]) 7 false
def BH (l:List AV):Ac:=.cells 71 .leaf (.CC l) l.length false
structure uM (a:AV):Prop where
 vm:∀σ,AR σ a a
 cl:JS 4 a
 rn:∀τ,DD τ 4 a=a
structure D2 (l:List AV):Prop where
 h:∀a∈l,uM a
def yA (k:Int) (t:TK) (l:List AV) (ks:AV):Ea:={X:=Unit,gl:=[],G2:=λ_=>true,ng:=0,k:=1,args:=λ_=>[.int .i64 k,.agg t.row,ks],Dv:=λ_=>[BH l],pre:=λ_=>D2 l,out:=λ_=>.ret (.ptr 1 0) [BH l,BV k [] 0 t.line t.Ag ks] 1,fz:=0,find:=λ_ _=>none}
def yB (k:Int) (t:TK):Ea:={X:=Unit,gl:=[],G2:=λ_=>true,ng:=0,k:=0,args:=λ_=>[.int .i64 k,.agg t.row,.As],Dv:=λ_=>[],pre:=λ_=>True,out:=λ_=>.ret (.ptr 0 0) [BV k [] 0 t.line t.Ag .As] 1,fz:=0,find:=λ_ _=>none}
def yE (k:Int) (s0:List UInt8) (n a c:Int) (s:List UInt8) (l:List AV) (ks:AV):Ea:={X:=Unit,gl:=[],G2:=λ_=>true,ng:=0,k:=2,args:=λ_=>[.ptr 0 0,.bs s],Dv:=λ_=>[BV k s0 n a c ks,BH l],pre:=λ_=>D2 l,out:=λ_=>.ret (.ptr 0 0) [BV k s n a c ks,BH l] 0,fz:=0,find:=λ_ _=>none}
def yF (k:Int) (s0:List UInt8) (n a c:Int) (s:List UInt8):Ea:={X:=Unit,gl:=[],G2:=λ_=>true,ng:=0,k:=1,args:=λ_=>[.ptr 0 0,.bs s],Dv:=λ_=>[BV k s0 n a c .As],pre:=λ_=>True,out:=λ_=>.ret (.ptr 0 0) [BV k s n a c .As] 0,fz:=0,find:=λ_ _=>none}
def pvs (l:List AV):Option (List AV):=match l with
 | [.pv a]=>some [.pv a]
 | [.pv a,.pv b]=>some [.pv a,.pv b]
 |_=>none
def XE (H:Tr Ac) (r m q nx:Nat):Option (List AV):=ob (H.get r) λo=>match o with
 |.cells el c z N op=>cond (cond (Nat.beq el 71) (cond op false (cond (Nat.beq N m) (cond (Nat.beq m q) (Nat.blt r nx) false) false)) false) (ob (Kc c z N 0) pvs) none
 |_=>none
def lq:Da:=λH nx args=>match args with
 | [.int .i64 k,.agg [.int .i64 a,b,.int .i64 c,.int .i64 d,.int .i64 e],.As]=>ob (JK b) λ_=>some (.ret (.ptr nx 0) [(nx,BV k [] 0 d e .As)] (nx+1))
 | [.int .i64 k,.agg [.int .i64 a,b,.int .i64 c,.int .i64 d,.int .i64 e],.sl r 0 m q]=>ob (JK b) λ_=>ob (XE H r m q nx) λl=>some (.A6 (D2 l) (.ret (.ptr nx 0) [(r,BH l),(nx,BV k [] 0 d e (.sl r 0 m q))] (nx+1)))
 |_=>none
def cG (H:Tr Ac) (id nx:Nat):Option (((((Int×List UInt8)×Int)×Int)×Int)×AV):=ob (H.get id) λo=>match o with
 |.cells el c z N op=>cond (cond (Nat.beq el 100) (cond op false (cond (Nat.beq N 7) (Nat.blt id nx) false)) false) (ob (Kc c z 7 0) λl=>match l with
  | [.int .i64 k,.bs s,.int .i64 n,.int .i64 a,.int .i64 b,.As,w]=>some (((((k,s),n),a),b),w)
  |_=>none) none
 |_=>none
def mC:Da:=λH nx args=>match args with
 | [.ptr id 0,x]=>ob (JK x) λs=>ob (cG H id nx) λq=>match q.2 with
  |.As=>some (.ret (.ptr id 0) [(id,BV q.1.1.1.1.1 s q.1.1.1.2 q.1.1.2 q.1.2 .As)] nx)
  |.sl r 0 m y=>ob (XE H r m y nx) λl=>cond (Nat.beq id r) none (some (.A6 (D2 l) (.ret (.ptr id 0) [(id,BV q.1.1.1.1.1 s q.1.1.1.2 q.1.1.2 q.1.2 (.sl r 0 m y)),(r,BH l)] nx)))
  |_=>none
 |_=>none
def K6:Ctx:={P:=Tryz.prog,tb:=[],lp:=λ_ _=>none,cut:=λ_ _=>none}
def T7 (a:Int) (b:TK):=((((((True/\Aa/\a=a)/\([]:List UInt8)=[])/\Aa/\Ab (0:Int))/\Aa/\Ab (TK.line b))/\Aa/\Ab (TK.Ag b))/\True)
theorem Alw:∀(k:Int) (t:TK),Aa/\(GH/\True)/\(Aa/\Aa/\Aa/\Aa/\(T7 k t)/\True)/\True
:=by delta T7 GH;intro k t;simp only[A9]
theorem Alv:∀(k:Int) (t:TK),(AG K6 60).call 59 [.int .i64 k,.agg t.row,.As] .leaf 0 (Cz Tryz.prog 0 0 0 (.ret (.ptr 0 0) [BV k [] 0 t.line t.Ag .As] 1)):=Eq.mpr (by kernel_rfl) Alw
theorem Aly:∀(k:Int) (t:TK) (a:List AV),D2 [AV.pv a]->Aa/\(RL/\True)/\(Aa/\Aa/\Aa/\Aa/\True/\AH [(1,2),(0,0)] a a)/\(Aa/\Aa/\Aa/\Aa/\(T7 k t)/\Ab (some 0)/\0=0/\1=1/\1=1)/\True
:=by delta T7 RL;intro k t a h;simp only[A9];exact(h.h _ (List.mem_cons_self ..)).vm _
theorem Alx:∀(k:Int) (t:TK) (a:List AV),D2 [.pv a]->(AG K6 60).call 59 [.int .i64 k,.agg t.row,.sl 0 0 1 1] (AU (A0 [BH [.pv a]] 0)) 1 (Cz Tryz.prog 0 0 1 (.ret (.ptr 1 0) [BH [.pv a],BV k [] 0 t.line t.Ag (.sl 0 0 1 1)] 1)):=Eq.mpr (by kernel_rfl) Aly
theorem AlA:∀(k:Int) (t:TK) (a b:List AV),D2 [AV.pv a,AV.pv b]->Aa/\(RL/\True)/\(Aa/\Aa/\Aa/\Aa/\(True/\AH [(1,2),(0,0)] a a)/\AH [(1,2),(0,0)] b b)/\(Aa/\Aa/\Aa/\Aa/\(T7 k t)/\Ab (some 0)/\0=0/\2=2/\2=2)/\True
:=by delta T7 RL;intro k t a b h;simp only[A9];exact⟨(h.h _ (List.mem_cons_self ..)).vm _,(h.h _ (List.mem_cons_of_mem _ (List.mem_singleton.2 rfl))).vm _⟩
theorem Alz:∀(k:Int) (t:TK) (a b:List AV),D2 [.pv a,.pv b]->(AG K6 60).call 59 [.int .i64 k,.agg t.row,.sl 0 0 2 2] (AU (A0 [BH [.pv a,.pv b]] 0)) 1 (Cz Tryz.prog 0 0 1 (.ret (.ptr 1 0) [BH [.pv a,.pv b],BV k [] 0 t.line t.Ag (.sl 0 0 2 2)] 1)):=Eq.mpr (by kernel_rfl) AlA
def J6 (a:Int) (b:List UInt8) (c:Int) (d:Int) (e:Int):=((((((True/\Aa/\a=a)/\b=b)/\Aa/\c=c)/\Aa/\d=d)/\Aa/\e=e)/\True)
theorem AmV:∀(k:Int) (s0:List UInt8) (n a c:Int) (s:List UInt8),Aa/\(Ay/\True)/\(Aa/\Aa/\Aa/\Aa/\(J6 k s n a c)/\True)/\True
:=by delta Ay J6;intro k s0 n a c s;simp only[A9]
theorem AmU:∀(k:Int) (s0:List UInt8) (n a c:Int) (s:List UInt8),(AG K6 60).call 90 [.ptr 0 0,.bs s] (AU (A0 [BV k s0 n a c .As] 0)) 1 (Cz Tryz.prog 0 0 1 (.ret (.ptr 0 0) [BV k s n a c .As] 0)):=Eq.mpr (by kernel_rfl) AmV
theorem AmX:∀(k:Int) (s0:List UInt8) (n a c:Int) (s:List UInt8) (x:List AV),D2 [AV.pv x]->Aa/\(Ay/\True)/\(Aa/\Aa/\Aa/\Aa/\(J6 k s n a c)/\Ab (some 1)/\0=0/\1=1/\1=1)/\(Aa/\Aa/\Aa/\Aa/\True/\AH [(0,0),(1,1)] x x)/\True
:=by delta Ay J6;intro k s0 n a c s x h;simp only[A9];exact(h.h _ (List.mem_cons_self ..)).vm _
theorem AmW:∀(k:Int) (s0:List UInt8) (n a c:Int) (s:List UInt8) (x:List AV),D2 [.pv x]->(AG K6 60).call 90 [.ptr 0 0,.bs s] (AU (A0 [BV k s0 n a c (.sl 1 0 1 1),BH [.pv x]] 0)) 2 (Cz Tryz.prog 0 0 2 (.ret (.ptr 0 0) [BV k s n a c (.sl 1 0 1 1),BH [.pv x]] 0)):=Eq.mpr (by kernel_rfl) AmX
theorem AmZ:∀(k:Int) (s0:List UInt8) (n a c:Int) (s:List UInt8) (x y:List AV),D2 [AV.pv x,AV.pv y]->Aa/\(Ay/\True)/\(Aa/\Aa/\Aa/\Aa/\(J6 k s n a c)/\Ab (some 1)/\0=0/\2=2/\2=2)/\(Aa/\Aa/\Aa/\Aa/\(True/\AH [(0,0),(1,1)] x x)/\AH [(0,0),(1,1)] y y)/\True
:=by delta Ay J6;intro k s0 n a c s x y h;simp only[A9];exact⟨(h.h _ (List.mem_cons_self ..)).vm _,(h.h _ (List.mem_cons_of_mem _ (List.mem_singleton.2 rfl))).vm _⟩
theorem AmY:∀(k:Int) (s0:List UInt8) (n a c:Int) (s:List UInt8) (x y:List AV),D2 [.pv x,.pv y]->(AG K6 60).call 90 [.ptr 0 0,.bs s] (AU (A0 [BV k s0 n a c (.sl 1 0 2 2),BH [.pv x,.pv y]] 0)) 2 (Cz Tryz.prog 0 0 2 (.ret (.ptr 0 0) [BV k s n a c (.sl 1 0 2 2),BH [.pv x,.pv y]] 0)):=Eq.mpr (by kernel_rfl) AmZ
theorem rZ {H:Tr Ac} {r m E nx:Nat} {l:List AV} (h:XE H r m E nx=some l):E=m/\r<nx/\Kh H r (BH l)/\((∃a,l=[.pv a]/\m=1)\/∃a b,l=[.pv a,.pv b]/\m=2):=by
 obtain⟨o,O,h⟩:=Ae.1 h;split at h
 ·rename_i el c z N op;obtain⟨q,R⟩:=SZ h;clear h;obtain⟨W,K,B⟩:=Ae.1 R;clear R;obtain⟨V,q⟩:=A4 q;cases y:op with
  |true=>rw[y]at q;cases q
  |false=>
  rw[y]at q;obtain⟨U,q⟩:=A4 (show cond (Nat.beq N m) (cond (Nat.beq m E) (Nat.blt r nx) false) false=true from q);obtain⟨S,M⟩:=A4 q;rw[Nat.beq_eq]at V U S;rw[Nat.blt_eq]at M;subst V;subst U;subst S;subst y;have C:=(Oq c z N 0 W K).1;unfold pvs at B;split at B
  ·injection B with h;subst h;have L:N=1:=C.symm;subst L;exact⟨rfl,M,⟨⟨_,O,λρ b x J=>TW K J⟩,rfl⟩,.inl ⟨_,rfl,rfl⟩⟩
  ·injection B with h;subst h;have L:N=2:=C.symm;subst L;exact⟨rfl,M,⟨⟨_,O,λρ b x J=>TW K J⟩,rfl⟩,.inr ⟨_,_,rfl,rfl⟩⟩
  ·cases B
 ·cases h
theorem zN {H:Tr Ac} {id nx:Nat} {k:Int} {s:List UInt8} {n a b:Int} {w:AV} (h:cG H id nx=some (((((k,s),n),a),b),w)):id<nx/\Kh H id (BV k s n a b w):=by
 obtain⟨o,M,h⟩:=Ae.1 h;split at h
 ·rename_i el c z N op;obtain⟨y,C⟩:=SZ h;clear h;obtain⟨V,O,B⟩:=Ae.1 C;clear C;obtain⟨K,y⟩:=A4 y;cases q:op with
  |true=>rw[q]at y;cases y
  |false=>
  rw[q]at y;obtain⟨J,E⟩:=A4 (show cond (Nat.beq N 7) (Nat.blt id nx) false=true from y);rw[Nat.beq_eq]at K J;rw[Nat.blt_eq]at E;subst K;subst J;subst q;split at B
  ·injection B with h;injection h with h C;injection h with h B;injection h with h U;injection h with h S;injection h with h R;subst h;subst C;subst B;subst U;subst S;subst R;exact⟨E,⟨⟨_,M,λρ b x L=>TW O L⟩,rfl⟩⟩
  ·cases B
 ·cases h
theorem Tv {v:AV} {up:List (Nat×Ac)} {n:Nat} {p:Bool} {y:AV} {q:List (Nat×Ac)} {B:Nat} (h:hOut (.ret v up n)=some (p,y,q,B)):p=false/\y=v/\q=up/\B=n:=by injection h with h;injection h with K h;injection h with J h;injection h with E C;exact⟨K.symm,J.symm,E.symm,C.symm⟩
theorem V8 {l:List AV} (h:D2 l):HA (BH l):=λa q=>(h.h a q).cl
theorem rX {l:List AV} (h:D2 l) (q:Nat->Nat):Cy q (BH l)=BH l:=by
 have:l.map (DD q 4)=l:=by
  have:∀m:List AV,(∀a∈m,DD q 4 a=a)->m.map (DD q 4)=m:=λm=>by
   induction m with
   |nil=>intro _;rfl
   |cons a m y=>intro h;rw[List.map_cons,h a (List.mem_cons_self ..),y λb hb=>h b (List.mem_cons_of_mem _ hb)]
  exact this l λa B=>(h.h a B).rn q
 show Ac.cells _ _ (.CC (l.map (DD q 4))) _ _=_;rw[this];rfl
theorem SW (k:Int) (s:List UInt8) (n a c:Int) {w:AV} (y:JS 4 w):HA (BV k s n a c w):=λx q=>by
 simp only[List.mem_cons,List.not_mem_nil,or_false]at q;rcases q with rfl|rfl|rfl|rfl|rfl|rfl|rfl
 ·exact⟨rfl,rfl⟩
 ·exact rfl
 ·exact⟨rfl,rfl⟩
 ·exact⟨rfl,rfl⟩
 ·exact⟨rfl,rfl⟩
 ·exact trivial
 ·exact y
theorem pC (q:List (Nat×Nat)) {l:List AV} {m:Nat} (h:D2 l) (y:(∃a,l=[.pv a]/\m=1)\/∃a b,l=[.pv a,.pv b]/\m=2):Ed q (BH l) (BH l):=by
 rcases y with⟨a,rfl,_⟩|⟨a,b,rfl,_⟩
 ·exact⟨rfl,rfl,rfl,trivial,(h.h _ (List.mem_cons_self ..)).vm _⟩
 ·exact⟨rfl,rfl,rfl,⟨trivial,(h.h _ (List.mem_cons_self ..)).vm _⟩,(h.h _ (List.mem_cons_of_mem _ (List.mem_singleton.2 rfl))).vm _⟩
theorem R2 {α:Type} {p:α->Prop} {o q:α} (h:p o) (B:p q):∀x∈[o,q],p x:=λx y=>by
 rcases List.mem_cons.1 y with rfl|y
 ·exact h
 ·rw[List.mem_singleton.1 y];exact B
theorem ze {ρ:Af} {k a c d e:Int} {b:AV} {y:List UInt8} {w:AV} {vs:List Value} (hb:JK b=some y) (h:AF ρ [.int .i64 k,.agg [.int .i64 a,b,.int .i64 c,.int .i64 d,.int .i64 e],w] vs):AF ρ [.int .i64 k,.agg (TK.row ⟨a,y,c,d,e⟩),w] vs:=by
 cases h with
 |cons _ _ _ _ M q=>
  cases q with
  |cons _ _ _ _ q L=>
   cases q with
   |agg l O K=>
    cases K with
    |cons _ _ _ _ J E=>
     cases E with
     |cons _ _ _ _ C B=>exact .cons _ _ _ _ M (.cons _ _ _ _ (.agg _ _ (.cons _ _ _ _ J (.cons _ _ _ _ (RV hb ρ _ C) B))) L)
theorem Aij:AD Tryz.prog 59 lq:=by
 intro H nx args hc B;unfold lq at B;split at B
 ·rename_i k a b0 c d e;obtain⟨b,hb,B⟩:=Ae.1 B;injection B with B;subst B;intro p v up nx' y E F ρ Y r;obtain⟨rfl,rfl,rfl,rfl⟩:=Tv y;have V:AD Tryz.prog 59 ((yB k ⟨a,b,c,d,e⟩).at () []).AE:=JZ _ (λp J=>by cases J) (λH _ p J=>by cases J) (λx=>rfl) (λx o U=>by cases U) (λx J=>⟨trivial,rfl,HC (SW _ _ _ _ _ trivial)⟩) λx J=>⟨(AG K6 60).call,Is AW Bc 60,Alv k ⟨a,b,c,d,e⟩⟩;exact NO (S:=yB k ⟨a,b,c,d,e⟩) (x:=()) (ids:=[]) (os:=[]) (args':=[.int .i64 k,.agg (TK.row ⟨a,b,c,d,e⟩),.As]) V trivial rfl rfl rfl rfl rfl (λq R=>by cases R) ⟨⟨rfl,rfl⟩,⟨⟨rfl,rfl⟩,rfl,⟨rfl,rfl⟩,⟨rfl,rfl⟩,⟨rfl,rfl⟩,trivial⟩,trivial,trivial⟩ trivial (by show hOut (EY (nx+1) λn=>(λO=>Cv.ret (DD (BI 0 O) 4 (.ptr 0 0)) (O.zip ([BV k [] 0 d e .As].map (Cy (BI 0 O)))) n) ([]++List.range' nx 1))=_;rw[FL];rfl) (λi hi=>by cases hi) r λvs h=>ze hb h
 ·rename_i k a b0 c d e K m M;obtain⟨b,hb,B⟩:=Ae.1 B;obtain⟨l,Z,B⟩:=Ae.1 B;injection B with B;subst B;intro p v up nx' y E F ρ Y r;obtain⟨C,y⟩:=LY y;obtain⟨rfl,rfl,rfl,rfl⟩:=Tv y;obtain⟨rfl,W,hd,L⟩:=rZ Z;have V:AD Tryz.prog 59 ((yA k ⟨a,b,c,d,e⟩ l (.sl 0 0 M M)).at () [K]).AE:=JZ _ (λp J=>by cases J) (λH _ p J=>by cases J) (λx=>rfl) (λx o U=>by rw[List.mem_singleton.1 U];rfl) (λx J=>⟨trivial,rfl,Nr (V8 J) (SW _ _ _ _ _ trivial)⟩) λx J=>by
   refine⟨(AG K6 60).call,Is AW Bc 60,?_⟩;rcases L with⟨p,rfl,rfl⟩|⟨p,q,rfl,rfl⟩
   ·exact Alx k ⟨a,b,c,d,e⟩ p J
   ·exact Alz k ⟨a,b,c,d,e⟩ p q J
  refine NO (S:=yA k ⟨a,b,c,d,e⟩ l (.sl 0 0 M M)) (x:=()) (ids:=[K]) (os:=[BH l]) (args':=[.int .i64 k,.agg (TK.row ⟨a,b,c,d,e⟩),.sl K 0 M M]) V C rfl rfl rfl ?_ rfl (λq R=>by rw[List.mem_singleton.1 R];exact hd) ⟨⟨rfl,rfl⟩,⟨⟨rfl,rfl⟩,rfl,⟨rfl,rfl⟩,⟨rfl,rfl⟩,⟨rfl,rfl⟩,trivial⟩,⟨rfl,rfl,rfl,rfl⟩,trivial⟩ ⟨?_,trivial⟩ ?_ (λi hi=>⟨_,List.mem_cons_self ..,(List.mem_singleton.1 hi).symm⟩) r λvs h=>ze hb h
  ·show(List.all [K] λj=>Nat.blt j nx)=true;simp[Nat.blt_eq,W]
  ·show(match(H.set K (BH l)).get K with
    |none=>False
    |some o=>Ed [(0,K)] (BH l) o)
   rw[Tr.F7];exact pC _ C L
  ·show hOut (EY (nx+1) λn=>(λO=>Cv.ret (DD (BI 0 O) 4 (.ptr 1 0)) (O.zip ([BH l,BV k [] 0 d e (.sl 0 0 M M)].map (Cy (BI 0 O)))) n) ([K]++List.range' nx 1))=_;rw[FL];show some (false,AV.ptr nx 0,[(K,Cy (BI 0 [K,nx]) (BH l)),(nx,BV k [] 0 d e (.sl K 0 M M))],nx+1)=_;rw[rX C]
 ·cases B
theorem AiO:AD Tryz.prog 90 mC:=by
 intro H nx args hc y;unfold mC at y;split at y
 case h_2=>cases y
 rename_i id x;obtain⟨s,hs,y⟩:=Ae.1 y;obtain⟨⟨⟨⟨⟨⟨k,s0⟩,n⟩,a⟩,b⟩,w⟩,hq,y⟩:=Ae.1 y;obtain⟨V,hd⟩:=zN hq;have U:∀ρ vs,AF ρ [.ptr id 0,x] vs->AF ρ [.ptr id 0,.bs s] vs:=λρ vs h=>by
  cases h with
  |cons _ _ _ vs h1 h2=>cases h2 with
  |cons _ _ _ vs h2 h3=>exact .cons _ _ _ _ h1 (.cons _ _ _ _ (RV hs ρ _ h2) h3)
 simp only at y;split at y
 ·injection y with y;subst y;intro p v up nx' J E F ρ w0 r;obtain⟨rfl,rfl,rfl,rfl⟩:=Tv J;have hS:AD Tryz.prog 90 ((yF k s0 n a b s).at () [id]).AE:=JZ _ (λp L=>by cases L) (λH _ p L=>by cases L) (λx=>rfl) (λx o ho=>by rw[List.mem_singleton.1 ho];rfl) (λx L=>⟨trivial,rfl,HC (SW _ _ _ _ _ trivial)⟩) λx L=>⟨(AG K6 60).call,Is AW Bc 60,AmU k s0 n a b s⟩;refine NO (S:=yF k s0 n a b s) (x:=()) (ids:=[id]) (os:=[BV k s0 n a b .As]) (args':=[.ptr id 0,.bs s]) hS trivial rfl rfl rfl ?_ rfl (λq hq=>by rw[List.mem_singleton.1 hq];exact hd) ⟨⟨rfl,rfl⟩,rfl,trivial⟩ ⟨?_,trivial⟩ ?_ (λi hi=>⟨_,List.mem_cons_self ..,(List.mem_singleton.1 hi).symm⟩) r λvs h=>U ρ vs h
  ·show(List.all [id] λj=>Nat.blt j _)=true;simp[Nat.blt_eq,V]
  ·show(match(H.set id (BV k s0 n a b .As)).get id with
    |none=>False
    |some o=>Ed [(0,id)] (BV k s0 n a b .As) o)
   rw[Tr.F7];exact⟨rfl,rfl,rfl,⟨⟨⟨⟨⟨⟨trivial,rfl,rfl⟩,rfl⟩,rfl,rfl⟩,rfl,rfl⟩,rfl,rfl⟩,trivial⟩,trivial⟩
  ·show hOut (EY (_+0) λZ=>(λR=>Cv.ret (DD (BI 0 R) 4 (.ptr 0 0)) (R.zip ([BV k s n a b .As].map (Cy (BI 0 R)))) Z) ([id]++List.range' _ 0))=_;rw[FL];rfl
 ·rename_i B m C;obtain⟨l,hl,y⟩:=Ae.1 y;cases M:Nat.beq id B with
  |true=>rw[M]at y;cases y
  |false=>
  rw[M]at y;injection y with y;subst y;intro p v up nx' J E F ρ w0 r;obtain⟨K,J⟩:=LY J;obtain⟨rfl,rfl,rfl,rfl⟩:=Tv J;obtain⟨rfl,Y,aa,O⟩:=rZ hl;have W:id≠B:=λe=>by rw[e,Nat.beq_refl]at M;cases M
  have hS:AD Tryz.prog 90 ((yE k s0 n a b s l (.sl 1 0 C C)).at () [id,B]).AE:=JZ _ (λp L=>by cases L) (λH _ p L=>by cases L) (λx=>rfl) (λx=>R2 rfl rfl) (λx L=>⟨trivial,rfl,Nr (SW _ _ _ _ _ trivial) (V8 L)⟩) λx L=>by
   refine⟨(AG K6 60).call,Is AW Bc 60,?_⟩;rcases O with⟨p,rfl,rfl⟩|⟨p,q,rfl,rfl⟩
   ·exact AmW k s0 n a b s p L
   ·exact AmY k s0 n a b s p q L
  refine NO (S:=yE k s0 n a b s l (.sl 1 0 C C)) (x:=()) (ids:=[id,B]) (os:=[BV k s0 n a b (.sl B 0 C C),BH l]) (args':=[.ptr id 0,.bs s]) hS K rfl rfl ?_ ?_ rfl ?_ ⟨⟨rfl,rfl⟩,rfl,trivial⟩ ⟨?_,?_,trivial⟩ ?_ ?_ r λvs h=>U ρ vs h
  ·show cond (List.any [B] (Nat.beq id)) false true=true;simp only[List.any_cons,List.any_nil,M,Bool.or_false,cond_false]
  ·show(List.all [id,B] λj=>Nat.blt j _)=true;simp[Nat.blt_eq,V,Y]
  ·exact R2 (p:=λq:Nat×Ac=>Kh H q.1 q.2) hd aa
  ·show(match((H.set B (BH l)).set id (BV k s0 n a b (.sl B 0 C C))).get id with
    |none=>False
    |some o=>Ed [(0,id),(1,B)] (BV k s0 n a b (.sl 1 0 C C)) o)
   rw[Tr.F7];exact⟨rfl,rfl,rfl,⟨⟨⟨⟨⟨⟨trivial,rfl,rfl⟩,rfl⟩,rfl,rfl⟩,rfl,rfl⟩,rfl,rfl⟩,trivial⟩,⟨rfl,rfl,rfl,rfl⟩⟩
  ·show(match((H.set B (BH l)).set id (BV k s0 n a b (.sl B 0 C C))).get B with
    |none=>False
    |some o=>Ed [(0,id),(1,B)] (BH l) o)
   rw[Tr.Ks _ W,Tr.F7];exact pC _ K O
  ·show hOut (EY (_+0) λZ=>(λR=>Cv.ret (DD (BI 0 R) 4 (.ptr 0 0)) (R.zip ([BV k s n a b (.sl 1 0 C C),BH l].map (Cy (BI 0 R)))) Z) ([id,B]++List.range' _ 0))=_;rw[FL];show some (false,AV.ptr id 0,[(id,BV k s n a b (.sl B 0 C C)),(B,Cy (BI 0 [id,B]) (BH l))],_)=_;rw[rX K];rfl
  ·exact R2 (p:=λi:Nat=>∃q∈[(id,BV k s n a b (.sl B 0 C C)),(B,BH l)],q.1=i) ⟨_,List.mem_cons_self ..,rfl⟩ ⟨_,List.mem_cons_of_mem _ (List.mem_singleton.2 rfl),rfl⟩
 ·cases y
def oF (L:List TK) (F:List TK->PF) (s:RS):HO:=.gen (F L s) λy=>.br (Ak y.2.err 0) (.ret (Bv y.1) [Bl L y.2] 0) (.AA (CG L y.2) [FO] 0)
def mF (L:List TK) (n:Nat) (F:List TK->PF):Da:=mP L Unit Kb (λs _=>Av L n s) (λs _=>oF L F s)
def mG (L:List TK) (F:List TK->PF):Da:=mP L Unit Kb (λ_ _=>True) (λs _=>oF L F s)
structure JO (x:PT) (v:AV):Prop where
 h:∀σ,AR σ (Bv x) v
structure G9 (L:List TK) (c:AV) (m:Int) (v:AV) (t:PT×RS):Prop where
 e:t.2.err=0
 c:c=cP L t.2
 m:m=t.2.nest
 v:JO t.1 v
structure F4 (L:List TK) (v:AV) (t:RS):Prop where
 e:t.err≠0
 v:v=CG L t
def Hb (L:List TK) (t:PT×RS):KC:=λr=>match r with
 |.mk v H _=>A7 (LS H (.ptr 4 0)) λq=>A7 (Jr Tryz.prog H v) λf=>Ap f.1 (G9 L q.1.1 q.1.2 f.2.1 t/\Ap (f.2.2.2.all λi=>not (Nat.beq i 4)) True)
 |.AA v H _=>A7 (H.get 4) λo=>match o with
  |.cells ty c z n op=>Ap (cond (Nat.beq ty 68) (cond (Nat.beq n 2) (not op) false) false) (F4 L v t.2)
  |_=>False
 |_=>False
def na (L:List TK):Cq:=(59,lq)::(90,mC)::(89,z8 L)::n9 L
theorem yS (L:List TK):Db Tryz.prog (na L):=BN Aij (BN AiO (BN (Aim L) (yR L)))
def Zx (L:List TK):Ctx:=GM (na L) (yS L)
mutual
theorem Ac0 (q:List (Nat×Nat)):∀x:PT,AR q (L3 x) (L3 x)
 |.mk k s n l c ks=>by unfold L3;exact⟨⟨rfl,rfl⟩,rfl,⟨rfl,rfl⟩,⟨rfl,rfl⟩,⟨rfl,rfl⟩,trivial,⟨rfl,rfl,⟨λi _=>Ns q ks i⟩⟩,trivial⟩
theorem Ns (q:List (Nat×Nat)):∀(ks:List PT) (i:Nat),AH q ((BA ks).getD i []) ((BA ks).getD i [])
 | [],i=>by unfold BA;exact trivial
 |y::B,0=>by unfold BA;exact⟨Ac0 q y,trivial⟩
 |y::B,i+1=>by unfold BA;exact Ns q B i
end
theorem Qc (q:List (Nat×Nat)) (x:PT):AR q (Bv x) (Bv x):=by rw[<-dJ];exact Ac0 q x
theorem OA (x:PT):JO x (Bv x):=⟨λq=>Qc q x⟩
theorem HF:∀(ks:List PT) (i:Nat) (h:i<ks.length),(BA ks).getD i []=[Bv ks[i]]
 | [],i,h=>by simp at h
 |x::q,0,h=>by unfold BA;rw[dJ];rfl
 |x::q,i+1,h=>by unfold BA;have:=HF q i (by simpa using h);simpa using this
theorem Vj {k n:Int} {x:List UInt8} {tk:TK} {ks:List PT} {w:AV} (y:∀q,AR q (.vec 1 ks.length λi=>(BA ks).getD i []) w):JO (nd k x n tk ks) (.pv [.int .i64 k,.bs x,.int .i64 n,.int .i64 tk.line,.int .i64 tk.Ag,.As,w]):=⟨λq=>⟨⟨rfl,rfl⟩,rfl,⟨rfl,rfl⟩,⟨rfl,rfl⟩,⟨rfl,rfl⟩,trivial,y q,trivial⟩⟩
theorem yy (q:List (Nat×Nat)):AR q (.vec 1 ([]:List PT).length λi=>(BA []).getD i []) .As:=rfl
theorem oH {y:List (Nat×Nat)} {ks:List PT} {m:Nat} {g:Nat->List AV} (hm:m=ks.length) (B:∀i,(h:i<ks.length)->g i=[Bv ks[i]]):AR y (.vec 1 ks.length λi=>(BA ks).getD i []) (.vec 1 m g):=by
 refine⟨rfl,hm,⟨λi hi=>?_⟩⟩;have q:i<ks.length:=by omega
 show AH y ((BA ks).getD i []) (g i);rw[HF ks i q,B i q];exact⟨Qc y _,trivial⟩
def gG (ws:List (List UInt8)):Bool:=(ws.all λw=>Dm w==decide (I2 w=2))&&decide (ws.length<=1000)
theorem IQ {ws:List (List UInt8)} (h:gG ws=true):BK ws:=by unfold gG at h;rw[Bool.and_eq_true,List.all_eq_true,decide_eq_true_eq]at h;exact⟨λw q=>by have:=h.1 w q;simpa using this,h.2⟩
theorem Wf {L:List TK} {y t:RS} (h:Kp y t) (q:y.err≠0):F4 L (CG L y) t:=by obtain⟨B,C⟩:=h.e q;refine⟨by rw[B];exact q,?_⟩;unfold CG Ep El;rw[B,C]
theorem MI {L:List TK} {k n:Int} {x:List UInt8} {tk:TK} {s:RS} {t:PT×RS} (h:t=(nd k x n tk [],s)) (q:s.err=0):G9 L (cP L s) s.nest (.pv [.int .i64 k,.bs x,.int .i64 n,.int .i64 tk.line,.int .i64 tk.Ag,.As,.As]) t:=by subst h;exact⟨q,rfl,rfl,Vj yy⟩
theorem K9 {L:List TK} {y t:PT×RS} (h:t=y) (q:y.2.err=0):G9 L (cP L y.2) y.2.nest (Bv y.1) t:=by subst h;exact⟨q,rfl,rfl,OA _⟩
theorem Aoo {L:List TK} {t:RS} {c:Tr AV} {z:CB} {q:List (Nat×Nat)}:Oz .leaf (.CC [cP L t,.int .i64 t.nest]) c z 2 q=q:=by
 have step:∀(x:AV) (k:Nat) (q:List (Nat×Nat)),(∀b,P3 x b q=q)->(match cellOf c z k with
   |none=>q
   |some b=>P3 x b q)=q:=λx k q y=>by
  split
  ·rfl
  ·exact y _
 have s0:Oz .leaf (.CC [cP L t,.int .i64 t.nest]) c z 1 q=q:=step (cP L t) 0 _ λb=>rfl;exact(step (.int .i64 t.nest) 1 _ λb=>rfl).trans s0
theorem Aom {c:Tr AV} {z:CB} {q:List (Nat×Nat)}:Oz .leaf (.CC []) c z 2 q=q:=rfl
theorem Afs {H:Tr Ac} {c:AV} {m:Int} {id i:Nat} (h:LS H (.ptr id 0)=some ((c,m),i)):i=id/\∃cc z,H.get id=some (.cells 68 cc z 2 false)/\cellOf cc z 0=some c/\cellOf cc z 1=some (.int .i64 m):=by
 obtain⟨o,L,h⟩:=Ae.1 h;split at h
 ·rename_i ty cc z n op;obtain⟨y,q⟩:=SZ h;clear h;obtain⟨cs,B,h⟩:=Ae.1 q;clear q;split at h
  ·rename_i S R;injection h with h;injection h with h q;injection h with O M;subst q;subst O;subst M;obtain⟨K,y⟩:=A4 y;obtain⟨J,E⟩:=A4 y;rw[Nat.beq_eq]at K J;have E:op=false:=by cases op<;>simp_all
   subst K;subst J;subst E;have C:=(Oq cc z 2 0 _ B).2;exact⟨rfl,cc,z,L,C 0 _ rfl,C 1 _ rfl⟩
  ·cases h
 ·cases h
theorem AjH {L:List TK} {F:List TK->PF} {s:RS} {r:CR} (h:Hb L (F L s) r):Cz Tryz.prog 1 4 (4+1) (oF L F s) r:=by
 show Ad (Ak (F L s).2.err 0) (Cz Tryz.prog 1 4 (4+1) (.ret (Bv (F L s).1) [Bl L (F L s).2] 0) r) (Cz Tryz.prog 1 4 (4+1) (.AA (CG L (F L s).2) [FO] 0) r);generalize F L s=t at h;unfold Hb at h;split at h
 ·rename_i v H n;obtain⟨⟨⟨c,m⟩,i⟩,V,h⟩:=BG h;obtain⟨⟨f1,S,fz,ids⟩,Y,h⟩:=BG h;obtain⟨B,M,K⟩:=Eh.1 h;simp only at B M K;subst B;obtain⟨K,_⟩:=Eh.1 K;obtain⟨e,hc,hm,hv⟩:=M;obtain⟨rfl,cc,z,W,g0,Z⟩:=Afs V;refine Aj (λ_=>?_) λC=>by rw[BU]at C;exact absurd e C
  have E:(CW H ids).get 4=some (.cells 68 cc z 2 false):=by
   have:∀l:List Nat,(l.all λi=>not (Nat.beq i 4))=true->(CW H l).get 4=H.get 4:=λl=>by
    induction l with
    |nil=>intro _;rfl
    |cons a l U=>intro h;rw[List.all_cons,Bool.and_eq_true]at h;show((CW H l).del a).get 4=_;rw[Tr.H4,if_neg (λe=>by rw[e,Nat.beq_refl]at h;cases h.1)];exact U h.2
   rw[this ids K,W]
  show A7 (Jr Tryz.prog H v) _;rw[Y];refine An rfl ?_;have J:P4 (CW H ids) [(4,Bl L t.2)] (I1 (4+1))=I1 (4+1):=by show fL (Option.rec (motive:=λ_=>List (Nat×Nat)) (I1 (4+1)) (λo=>fV (Bl L t.2) o (I1 (4+1))) ((CW H ids).get 4)) (λq=>q)=_;rw[E,OY];exact Aoo
  show fL (P4 (CW H ids) [(4,Bl L t.2)] (I1 (4+1))) (λq=>cond (Nat.beq 1 1) (cond (Nat.ble (4+1) (4+1)) (XQ (4+1) (4+1) [4] q) false) false=true/\tP q (Tr.leaf.set 0 S) [(0,Bv t.1)]/\Go.Ev.hP (4+1) q (CW H ids) [(4,Bl L t.2)]);rw[J,OY];refine⟨rfl,⟨hv.h _,trivial⟩,⟨rfl,?_⟩,trivial⟩;show(match(CW H ids).get 4 with
   |none=>False
   |some o=>Ed (I1 (4+1)) (Bl L t.2) o)
  rw[E];have pp:∀(x y:AV) (k:Nat),cellOf cc z k=some y->AR (I1 (4+1)) x y->(match cellOf cc z k with
    |none=>False
    |some b=>AR (I1 (4+1)) x b):=λx y k B M=>by rw[B];exact M
  exact⟨rfl,rfl,rfl,⟨trivial,pp _ _ 0 g0 (by rw[hc];exact XY _ L t.2)⟩,pp _ _ 1 Z (by rw[hm];exact⟨rfl,rfl⟩)⟩
 ·rename_i v H n;obtain⟨o,O,h⟩:=BG h;split at h
  ·rename_i ty cc z m op;obtain⟨B,h⟩:=Eh.1 h;obtain⟨e,hv⟩:=h;obtain⟨J,B⟩:=A4 B;obtain⟨C,R⟩:=A4 B;rw[Nat.beq_eq]at J C;have R:op=false:=by cases op<;>simp_all
   subst J;subst C;subst R;subst hv;refine Aj (λC=>by rw[BL]at C;exact absurd C e) λ_=>?_;show WW Tryz.prog 1 (4+1) (CG L t.2) [FO] 0 4 (CG L t.2) H n;unfold WW;rw[show Z7 1 Tryz.prog H (CG L t.2)=some (true,CG L t.2,[],[])from rfl];refine An rfl ?_;have J:P4 H [(4,FO)] (I1 (4+1))=I1 (4+1):=by show fL (Option.rec (motive:=λ_=>List (Nat×Nat)) (I1 (4+1)) (λo=>fV FO o (I1 (4+1))) (H.get 4)) (λq=>q)=_;rw[O,OY];exact Aom (c:=cc) (z:=z)
   show fL (P4 H [(4,FO)] (I1 (4+1))) (λq=>cond (Nat.beq 1 1) (cond (Nat.ble (4+1) (4+1)) (XQ (4+1) (4+1) [4] q) false) false=true/\tP q (Tr.leaf.set 0 (CG L t.2)) [(0,CG L t.2)]/\Go.Ev.hP (4+1) q H [(4,FO)]);rw[J,OY];refine⟨rfl,⟨⟨rfl,⟨⟨rfl,rfl⟩,⟨rfl,rfl⟩,⟨rfl,rfl⟩,trivial⟩⟩,trivial⟩,⟨rfl,?_⟩,trivial⟩;show(match H.get 4 with
    |none=>False
    |some o=>Ed (I1 (4+1)) FO o)
   rw[O];exact⟨rfl,rfl,rfl,⟨trivial,trivial⟩,trivial⟩
  ·exact h.elim
 ·exact h.elim
def Ce (a:List TK) (b:RS):=G9 a (cP a b) (RS.nest b)
def BD (a:List TK) (b:RS):=F4 a (CG a b)
def BX:=AV.int .i64 (0:Int)
theorem Anf:∀(L:List TK) (s:RS) (t:PT×RS),R0 L s->t=BZ L s->(Bh L s λ(s:RS)=>(1:Int)≠(0:Int))/\∀(y:TK×RS),y=IE L s->AO y.2 ((((Ab (C7 y.1)/\True/\True)/\True)/\BF/\BF/\True)/\Ce L y.2 (AV.pv [AV.int .i64 (29:Int),C7 y.1,BX,B3 y.1,B4 y.1,AV.As,AV.As]) t/\True) (BD L y.2 t.2)
:=by
 delta Bg Bh AO BF Ce B3 B4 BD BX C7 IE;intro L s t q ht;simp only[A9];refine⟨I5 q (by decide),λy hy=>?_⟩;rw[Ji q]at hy;have ht:t=(nd 29 y.1.text 0 y.1 [],y.2):=by rw[ht,hy];rfl
 exact Aj (λe=>MI ht (BL.1 e)) λe=>Wf (by rw[ht];exact Dd _) (BU.1 e)
theorem Ane:∀(L:List TK) (s:RS) (t:PT×RS),R0 L s->t=BZ L s->(AG (Zx L) 60).call 94 [.ptr 4 0] (AU (Cm++A0 [Bl L s] 4)) (4+1) (Hb L t):=Eq.mpr (by kernel_rfl) Anf
@[reducible] def jF:List TK->PT×RS->TK×RS->Prop:=λ(L:List TK) (t:PT×RS) (a:TK×RS)=>(((Ab (C7 a.1)/\True/\True)/\True)/\BF/\BF/\True)/\Ce L a.2 (AV.pv [AV.int .i64 (5:Int),C7 a.1,BX,B3 a.1,B4 a.1,AV.As,AV.As]) t/\True
def Hm (a:List TK) (b:RS):=Al a (Bg a b)
@[reducible] def jG:List TK->RS->PT×RS->Prop:=λ(L:List TK) (s:RS) (t:PT×RS)=>(True/\Bh L s λ(s:RS)=>BK Pj)/\∀(y:TK×RS),y=Hm L s Pj->AO y.2 (jF L t y) (BD L y.2 t.2)
theorem Am2:∀(L:List TK) (s:RS) (t:PT×RS),R0 L s->t=B9 L s->PM s L (HK s L (Ad (Ak (TK.kind (D7 s L)) (1:Int)) ((Co L s)/\∀(y:TK×RS),y=(Cp L s)->jF L t y) (jG L s t))) (jG L s t)
:=by
 delta Bg Bh IB Co Cp D7 DO HK PM;intro L s t q ht;simp only[A9,jF,jG,BF,Ce,B3,B4,BX,C7,Bg,Bh,AO,Pj,BD,Hm];have hd:=Qw q;have J:=q.ok.a0;rw[Ji q];have alt:(Aq L s).kind≠1->(CU L (cP L s) s.nest λ_=>BK EL)/\∀y:TK×RS,y=Al L s EL->Ad (Ak y.2.err 0) (G9 L (cP L y.2) y.2.nest (.pv [.int .i64 5,.bs y.1.text,.int .i64 0,.int .i64 y.1.line,.int .i64 y.1.Ag,.As,.As]) t) (F4 L (CG L y.2) t.2):=λE=>
  ⟨I5 q (IQ rfl),λy hy=>by
   have ht:t=(nd 5 y.1.text 0 y.1 [],y.2):=by rw[ht,hy];unfold B9;rw[if_neg E]
   exact Aj (λe=>MI ht (BL.1 e)) λe=>Wf (by rw[ht];exact Dd _) (BU.1 e)⟩
 refine Aj (λc=>?_) λc=>?_
 ·rw[B1]at c;have C:s.at_<L.length:=by omega
  rw[SI q C];refine An (BJ.2 (by omega)) (Aj (λB=>?_) λB=>alt (BU.1 B));rw[BL]at B;refine⟨I5 q C,λy hy=>?_⟩;exact MI (by rw[ht,hy];unfold B9;rw[if_pos B]) (by rw[hy];exact q.e)
 ·rw[Cg]at c;exact alt (by rw[SJ (by omega)];decide)
theorem Am1:∀(L:List TK) (s:RS) (t:PT×RS),R0 L s->t=B9 L s->(AG (Zx L) 60).call 91 [.ptr 4 0] (AU (Cm++A0 [Bl L s] 4)) (4+1) (Hb L t):=Eq.mpr (by kernel_rfl) Am2
theorem vX (x:PT):JS 4 (Bv x):=Qc [] x
theorem H7 {g:FuncId} {L:List TK} {pre:RS->Prop} {F:List TK->PF} (q:∀s,R0 L s->pre s->∃(cx:Ctx) (fuel:Nat),cx.P=Tryz.prog/\cx.P.follows .mixedOrders=true/\DP cx.P cx.tb/\∀t,t=F L s->(AG cx fuel).call g [.ptr 4 0] (AU (Cm++A0 [Bl L s] 4)) (4+1) (Hb L t)):AD Tryz.prog g (mP L Unit Kb (λs _=>pre s) (λs _=>oF L F s)):=W1 (ar:=λ_=>[]) (fz:=1) (λs a _ _=>⟨λ_=>⟨vX _,rfl,HC (OS L _)⟩,λ_=>⟨SY L _,rfl,HC SX⟩⟩) (λs a _ _=>⟨⟨rfl,λ_=>rfl,HC λ_=>rfl⟩,⟨rfl,λ_=>rfl,HC λ_=>rfl⟩⟩) (λM a=>trivial) rT λs a B y=>by obtain⟨cx,fuel,K,J,E,C⟩:=q s B y;exact⟨cx,fuel,Hb L (F L s),K,J,E,λr h=>AjH h,C _ rfl⟩
theorem Ai5 (L:List TK):AD Tryz.prog 94 (mG L BZ):=H7 λs h _=>⟨Zx L,60,rfl,AW,Bc,λt ht=>Ane L s t h ht⟩
theorem AiZ (L:List TK):AD Tryz.prog 91 (mG L B9):=H7 λs h _=>⟨Zx L,60,rfl,AW,Bc,λt ht=>Am1 L s t h ht⟩
def NP (L:List TK):Cq:=(94,mG L BZ)::(91,mG L B9)::na L
theorem O0 (L:List TK):Db Tryz.prog (NP L):=BN (Ai5 L) (BN (AiZ L) (yS L))
structure FG (L:List TK) (n:Nat) (F:List TK->PF):Prop where
 g:GF n 1 2 F
 k:KF (F L)
def yT (L:List TK) (n:Nat) (T B:List TK->PF):Cq:=(123,mF L n T)::(88,mF L n B)::NP L
structure Vz (L:List TK) (n:Nat) (T B:List TK->PF):Prop where
 t:AD Tryz.prog 123 (mF L n T)
 b:AD Tryz.prog 88 (mF L n B)
theorem AfW {L:List TK} {n:Nat} {T B:List TK->PF} (h:Vz L n T B):Db Tryz.prog (yT L n T B):=BN h.t (BN h.b (O0 L))
def vo (L:List TK) (n:Nat) (T B:List TK->PF) (h:Vz L n T B):Ctx:=GM (yT L n T B) (AfW h)
theorem Fj {L:List TK} {E C:Int} {s:RS} {r:PT×RS} (h:R0 L s) (q:Cf L E C s r) (y:Kp s r.2) (e:r.2.err=0):R0 L r.2:=⟨q.ok,e,by rw[y.o e,h.w]⟩
theorem Jf {L:List TK} {s r:RS} (h:R0 L s) (q:Qk L s r) (y:Kp s r) (e:r.err=0):R0 L r:=⟨q.ok,e,by rw[y.o e,h.w]⟩
theorem HN {L:List TK} {s:RS} (h:R0 L s) (q:s.at_<L.length):R0 L (Ai s):=⟨FF h.ok q,h.e,h.w⟩
theorem DV {L:List TK} {s:RS} {ws:List (List UInt8)} {G:RS->Prop} (h:R0 L s) (q:gG ws=true) (B:G s):(CU L (cP L s) s.nest λ_=>BK ws)/\∀y,y=B5 L (cP L s) s.nest->G y:=⟨I5 h (IQ q),λy hy=>by rw[hy,Ji h];exact B⟩
theorem E6 {L:List TK} {s:RS} {G:TK×RS->Prop} (h:R0 L s) (q:s.at_<L.length) (B:G (Aq L s,Ai s)):(CU L (cP L s) s.nest λs=>s.at_<L.length)/\∀y,y=(Aq L (B5 L (cP L s) s.nest),Ai (B5 L (cP L s) s.nest))->G y:=⟨I5 h q,λy hy=>by rw[hy,Ji h];exact B⟩
theorem Sb {L:List TK} {s r:RS} {e:Int} (h:R0 L s) (q:e≠0) (y:Kp (Bj s e) r):(CU L (cP L s) s.nest λ_=>e≠0)/\F4 L (CG L (Bj (B5 L (cP L s) s.nest) e)) r:=⟨I5 h q,by rw[Ji h];exact Wf y (X7 s q).1⟩
theorem Ca {L:List TK} {s r:RS} {p:RS->Prop} {α:Type} {f:RS->α×RS} {K:α×RS->Prop} (h:R0 L s) (q:p s) (B:Kp (f s).2 r) (C:(f s).2.err=0->K (f s)):CU L (cP L s) s.nest p/\∀y,y=f (B5 L (cP L s) s.nest)->Ad (Ak y.2.err 0) (K y) (F4 L (CG L y.2) r):=⟨I5 h q,λy hy=>by rw[hy,Ji h];exact Aj (λe=>C (BL.1 e)) λe=>Wf B (BU.1 e)⟩
def EB (s:RS):RS:={s with nest:=s.nest+1}
theorem eZ {L:List TK} {s:RS} (h:R0 L s) (hn:s.nest<=900):R0 L (EB s):=⟨⟨h.ok.len,h.ok.a0,h.ok.a1,by have:=h.ok.n0;show 0<=s.nest+1;omega,by show s.nest+1<=1000;omega⟩,h.e,h.w⟩
theorem Ajv {L:List TK} {s:RS} (h:R0 L s) (hn:1<=s.nest):R0 L (down s):=⟨S1 h.ok hn,h.e,h.w⟩
theorem yo {L:List TK} {s:RS} {w v:List UInt8} (h:¬(Ah L s w=true/\64<=s.nest)):Ah L (EM L s w) v=Ah L s v:=by unfold EM;rw[if_neg h];rfl
theorem cz {L:List TK} {s:RS} {w:List UInt8} (h:Ah L s w=true) (hn:s.nest<64):AQ L s w=(Aq L s,EB (Ai s)):=by
 have hd:¬(Ah L s w=true/\64<=s.nest):=by rintro⟨_,e⟩;omega
 unfold AQ Aw Ei;rw[yo hd,if_pos h];unfold EM;rw[if_neg hd];rfl
theorem AgI {L:List TK} {s:RS} {w:List UInt8} (q:R0 L s) (h:Ah L s w=false):Kp (Bj s 4) (AQ L s w).2:=by
 have hd:¬(Ah L s w=true/\64<=s.nest):=by rw[h];rintro⟨e,_⟩;cases e
 unfold AQ Aw Ei;rw[yo hd,if_neg (nb h)];unfold EM Bj;rw[if_neg hd,if_pos q.e,if_pos q.e];exact⟨λ_=>⟨rfl,rfl⟩,λ_=>rfl⟩
theorem cD {L:List TK} {s:RS} {w:List UInt8} (q:R0 L s) (h:Ah L s w=true) (hn:s.nest=64):Kp (Bj s 5) (AQ L s w).2:=by refine Kp.tr ?_ (De L (EM L s w) w);unfold EM;rw[if_pos ⟨h,by omega⟩];exact⟨λ_=>⟨rfl,rfl⟩,λ_=>rfl⟩
theorem sign_one (L:List TK) (s:RS) (w:List UInt8):Aw L s w=Al L s [w]:=by unfold Aw Al;rw[CH rfl]
theorem tJ (x:PT):uM (Bv x):=⟨λq=>Qc q x,vX x,λ_=>rfl⟩
theorem FQ (x:PT):D2 [Bv x]:=⟨λa q=>by rw[List.mem_singleton.1 q];exact tJ x⟩
theorem fE (x y:PT):D2 [Bv x,Bv y]:=⟨R2 (tJ x) (tJ y)⟩
theorem NH {L:List TK} {k n:Int} {x:List UInt8} {tk:TK} {s:RS} {t:PT×RS} {y:PT} {g:Nat->List AV} (h:t=(nd k x n tk [y],s)) (he:s.err=0) (q:g 0=[Bv y]):D2 [Bv y]/\G9 L (cP L s) s.nest (.pv [.int .i64 k,.bs x,.int .i64 n,.int .i64 tk.line,.int .i64 tk.Ag,.As,.vec 1 1 g]) t:=by
 subst h;refine⟨FQ y,he,rfl,rfl,Vj λB=>oH rfl λi hi=>?_⟩;obtain rfl:i=0:=by simp at hi;omega
 exact q
theorem OV {L:List TK} {k n:Int} {x:List UInt8} {tk:TK} {s:RS} {t:PT×RS} {y z:PT} {g:Nat->List AV} (h:t=(nd k x n tk [y,z],s)) (he:s.err=0) (B:g 0=[Bv y]) (q:g 1=[Bv z]):D2 [Bv y,Bv z]/\G9 L (cP L s) s.nest (.pv [.int .i64 k,.bs x,.int .i64 n,.int .i64 tk.line,.int .i64 tk.Ag,.As,.vec 1 2 g]) t:=by
 subst h;refine⟨fE y z,he,rfl,rfl,Vj λC=>oH rfl λi hi=>?_⟩;rcases(show i=0\/i=1 by simp at hi;omega)with rfl|rfl
 ·exact B
 ·exact q
def Cs (a:PT):=AV.pv [AV.int .i64 (PT.kind a),AV.bs (PT.text a),AV.int .i64 (PT.num a),AV.int .i64 (PT.line a),AV.int .i64 (PT.Ag a),AV.As,AV.vec 1 (List.length (PT.ks a)) λ(q:Nat)=>List.getD (BA (PT.ks a)) q []]
def Lu (a:List TK) (b:RS) (c:RS):=((Bh a b λ(q:RS)=>(4:Int)≠(0:Int))/\F4 a (CG a (Bj (Bg a b) (4:Int))) c)
def N5 (a:RS) (b:List TK) (c:RS):=Ad (Ak (RS.nest a) (64:Int)) ((Bh b a λ(q:RS)=>(5:Int)≠(0:Int))/\F4 b (CG b (Bj (Bg b a) (5:Int))) c)
def Ey (a:List TK) (b:RS) (c:Nat):=(Bh a b λ(q:RS)=>Av a c q)
def Dx (a:PT):=D2 [Cs a]
def Ib (a:List TK) (b:RS):=(Bh a b λ(q:RS)=>True)
def Uu:=((Ab (AV.ptr 4 0)/\True/\True)/\True)
def RD (a:List TK) (b:RS) (c:Nat):=(CU a (cP a b) (JH b) λ(q:RS)=>Av a c q)
def CQ (a:List TK->PF) (b:List TK) (c:RS):=a b (Bg b c)
def RH (a:RS) (b:List TK) (c:PT) (d:PT×RS) (e:RS):=AO a (Ce b a (Cs c) d/\True) (BD b a e)
def RK (a:List TK) (b:RS):=G9 a (cP a b) (RS.nest b-1)
theorem AkY:∀(L:List TK) (n:Nat) (T B:List TK->PF),Vz L n T B->∀(s:RS) (t:PT×RS),R0 L s->Av L (n+1) s->FG L n T->FG L n B->t=firstM T B L s->Ad (Ak (Int.ofNat (DO s L)) (0:Int)) (Lu L s t.2) (HK s L (Ad (Ak (TK.kind (D7 s L)) (3:Int)) ((Co L s)/\∀(y:TK×RS),y=(Cp L s)->Ce L y.2 (AV.pv [AV.int .i64 (26:Int),AV.bs [],AV.int .i64 (TK.num y.1),B3 y.1,B4 y.1,AV.As,AV.As]) t/\True) ((True/\Bh L s λ(s:RS)=>BK [Rk])/\∀(y:RS),y=Bg L s->Ad (Ax (List.any [Rk] (Ah L y))) ((Co L y)/\∀(J:TK×RS),J=(Cp L y)->Ce L J.2 (AV.pv [AV.int .i64 (27:Int),AV.bs [],BX,B3 J.1,B4 J.1,AV.As,AV.As]) t/\True) ((True/\Bh L y λ(s:RS)=>BK [Rr])/\∀(J:RS),J=Bg L y->Ad (Ax (List.any [Rr] (Ah L J))) ((Co L J)/\∀(y:TK×RS),y=(Cp L J)->Ce L y.2 (AV.pv [AV.int .i64 (28:Int),AV.bs [],BX,B3 y.1,B4 y.1,AV.As,AV.As]) t/\True) ((True/\Bh L J λ(s:RS)=>BK [Rg])/\∀(y:RS),y=Bg L J->Ad (Ax (List.any [Rg] (Ah L y))) ((Co L y)/\∀(C:TK×RS),C=(Cp L y)->(Ib L C.2)/\∀(y:TK×RS),y=IE L C.2->AO y.2 ((Uu/\BF/\BF/\BF/\True)/\Ce L y.2 (AV.pv [AV.int .i64 (33:Int),C7 y.1,BX,B3 C.1,B4 C.1,AV.As,AV.As]) t/\True) ((Uu/\BF/\True)/\BD L y.2 t.2)) ((True/\Bh L y λ(s:RS)=>BK [ID])/\∀(C:RS),C=Bg L y->Ad (Ax (List.any [ID] (Ah L C))) ((Co L C)/\∀(y:TK×RS),y=(Cp L C)->(Ey L y.2 n)/\∀(q:PT×RS),q=CQ B L y.2->AO q.2 (Dx q.1/\(BF/\BF/\((True/\DG y.1/\True)/\True)/\True)/\Ce L q.2 (AV.pv [AV.int .i64 (36:Int),AV.bs [],BX,B3 y.1,B4 y.1,AV.As,AV.vec 1 1 λ(x:Nat)=>[Cs q.1]]) t/\True) ((BF/\True)/\BD L q.2 t.2)) ((True/\Bh L C λ(s:RS)=>BK [[(40:UInt8)]])/\∀(y:RS),y=Bg L C->Ad (Ax (List.any [[(40:UInt8)]] (Ah L y))) ((True/\Bh L y λ(s:RS)=>BK [[(40:UInt8)]])/\∀(q:RS),q=Bg L y->Ad (!Ax (List.any [[(40:UInt8)]] (Ah L q))) (Lu L q t.2) (N5 q L t.2 ((Co L q)/\∀(y:TK×RS),y=(Cp L q)->KK y.2 ((RD L y.2 n)/\∀(K:PT×RS),K=T L (B5 L (cP L y.2) (JH y.2))->AO K.2 ((True/\Bh L K.2 λ(s:RS)=>BK [[(41:UInt8)]])/\∀(y:TK×RS),y=Hm L K.2 [[(41:UInt8)]]->AO y.2 (HH y.2 (RK L y.2 (Cs K.1) t/\True)) (BD L y.2 t.2)) (BD L K.2 t.2))))) ((Ib L y)/\∀(q:PT×RS),q=BZ L (Bg L y)->RH q.2 L q.1 t t.2))))))))
:=by
 delta Cs Bg Bh DG IB AO Co BF Ce B3 B4 BD Cp BX D7 DO Lu N5 C7 Ey ID HH Dx Rk Ib HK JH Rg IE Uu KK Rr Hm RD CQ RH RK;intro L n T B Am s t E hp hT hB ht;simp only[A9];simp only[List.any_cons,List.any_nil,Bool.or_false];have hd:=Qw E;have Am:=E.ok;have h0:=Am.a0;have aa:=hp.ns;have ad:=hp.lf;have ab:=Am.n0;unfold firstM at ht;refine Aj (λc=>?_) λc=>?_
 ·rw[BL]at c;have ho:=SJ (L:=L) (s:=s) (by omega);have hi:∀w,Ah L s w=false:=λw=>Bool.eq_false_iff.2 λe=>by have:=Bb e;omega
  rw[if_neg (by rw[ho];decide),if_neg (nb (hi _)),if_neg (nb (hi _)),if_neg (nb (hi _)),if_neg (nb (hi _)),if_neg (nb (hi _))]at ht;refine Sb E (by decide) ?_;rw[ht];obtain⟨h1,_⟩:=fZ (L:=L) (b:=decide ((Aq L s).kind=1)) E (by rw[ho];decide);show Kp (Bj s 4) (AB L s 1).2;rw[show(AB L s 1).2=Bj s 4 from h1];exact Dd _
 rw[BU]at c;have O:s.at_<L.length:=by have:=Am.a1;omega
 rw[SI E O];have W:=HN E O;refine An (BJ.2 (by omega)) (Aj (λM=>?_) λM=>DV E rfl (Aj (λR=>?_) λR=>DV E rfl (Aj (λV=>?_) λV=>DV E rfl (Aj (λY=>?_) λY=>DV E rfl (Aj (λc5=>?_) λc5=>DV E rfl (Aj (λU=>?_) λU=>?_))))))
 ·rw[BL]at M;rw[if_pos M]at ht;exact E6 E O (MI ht E.e)
 ·rw[if_neg (BU.1 M),if_pos (show Ah L s K1=true from R)]at ht;exact E6 E O (MI ht E.e)
 ·rw[if_neg (BU.1 M),if_neg (nb (show Ah L s K1=false from R)),if_pos (show Ah L s Mw=true from V)]at ht;exact E6 E O (MI ht E.e)
 ·rw[if_neg (BU.1 M),if_neg (nb (show Ah L s K1=false from R)),if_neg (nb (show Ah L s Mw=false from V)),if_pos (show Ah L s OD=true from Y)]at ht;exact E6 E O (Ca (f:=λs=>AB L s 1) W trivial (by rw[ht];exact Dd _) λe=>MI ht e)
 ·rw[if_neg (BU.1 M),if_neg (nb (show Ah L s K1=false from R)),if_neg (nb (show Ah L s Mw=false from V)),if_neg (nb (show Ah L s OD=false from Y)),if_pos (show Ah L s K0=true from c5)]at ht;have S:A5 B L (Ai s)=B L (Ai s):=by unfold A5;rw[if_neg (λe=>e W.e)]
  rw[S]at ht;have pa:Av L n (Ai s):=⟨W.ok,aa,by show(L.length:Int)-(s.at_+1)<n;omega⟩;exact E6 E O (Ca (f:=B L) W pa (by rw[ht];exact Dd _) λe=>NH ht e rfl)
 ·rw[if_neg (BU.1 M),if_neg (nb (show Ah L s K1=false from R)),if_neg (nb (show Ah L s Mw=false from V)),if_neg (nb (show Ah L s OD=false from Y)),if_neg (nb (show Ah L s K0=false from c5)),if_pos (show Ah L s FD=true from U)]at ht;have rest:Kp (AQ L s FD).2 t.2:=by rw[ht];exact(QU hT.k _).tr ((De L _ My).tr (J1 _))
  refine DV E rfl (Aj (λc7=>?_) λ_=>Aj (λc8=>?_) λc8=>?_)
  ·rw[show Ah L s [40]=true from U]at c7;cases c7
  ·rw[BL]at c8;exact Sb E (by decide) ((cD E U c8).tr rest)
  ·rw[BU]at c8;have ho:=cz (L:=L) (s:=s) (w:=FD) U (by omega);have Z:=eZ W (show s.nest<=900 by omega);have pu:Av L n (EB (Ai s)):=⟨Z.ok,by show s.nest+1<=64;omega,by show(L.length:Int)-(s.at_+1)<n;omega⟩;have S:A5 T L (EB (Ai s))=T L (EB (Ai s)):=by unfold A5;rw[if_neg (λe=>e Z.e)]
   rw[ho]at ht;simp only at ht;rw[S]at ht;have g:=hT.g L _ pu;refine E6 E O (An (Be.2 ⟨by show-9223372036854775808<=s.nest+1;omega,by show s.nest+1<=9223372036854775807;omega⟩) (Ca (s:=EB (Ai s)) (f:=T L) Z pu (by rw[ht];exact(De L _ My).tr (J1 _)) λe=>?_));have r4:=Fj Z g (hT.k _) e;have g5:(T L (EB (Ai s))).2.nest=s.nest+1:=g.ns;refine Ca (f:=λs=>Al L s [[41]]) r4 (IQ rfl) (by rw[ht,sign_one];exact J1 _) λe2=>?_;have f5:=(Iz (ws:=[[41]]) r4.ok).ns;exact An (Be.2 (by omega)) (K9 (y:=((T L (EB (Ai s))).1,down (Al L (T L (EB (Ai s))).2 [[41]]).2)) (by rw[ht,sign_one];rfl) e2)
 ·rw[if_neg (BU.1 M),if_neg (nb (show Ah L s K1=false from R)),if_neg (nb (show Ah L s Mw=false from V)),if_neg (nb (show Ah L s OD=false from Y)),if_neg (nb (show Ah L s K0=false from c5)),if_neg (nb (show Ah L s FD=false from U))]at ht;exact Ca (f:=BZ L) E trivial (by rw[ht];exact Dd _) λe=>K9 ht e
theorem AkX:∀(L:List TK) (n:Nat) (T B:List TK->PF) (Am:Vz L n T B) (s:RS) (t:PT×RS),R0 L s->Av L (n+1) s->FG L n T->FG L n B->t=firstM T B L s->(AG (vo L n T B Am) 60).call 136 [.ptr 4 0] (AU (Cm++A0 [Bl L s] 4)) (4+1) (Hb L t):=Eq.mpr (by kernel_rfl) AkY
theorem Ah3 {L:List TK} {n:Nat} {T B:List TK->PF} (h:Vz L n T B) (hT:FG L n T) (q:FG L n B):AD Tryz.prog 136 (mF L (n+1) (firstM T B)):=H7 λs C y=>⟨vo L n T B h,60,rfl,AW,Bc,λt ht=>AkX L n T B h s t C y hT q ht⟩
structure IW (L:List TK) (f:Nat->PT->RS->PT×RS) (t:PT×RS) (s0:RS) (x:PT×RS):Prop where
 k:∃k,Cn L x.2<k/\f k x.1 x.2=t
 p:Cf L 1 2 s0 x
 r:R0 L x.2
def Aok (L:List TK) (f:Nat->PT->RS->PT×RS) (t:PT×RS) (s0:RS) (ks:List Nat) (q:Nat):CV:={X:=PT×RS,T:=λs _ x=>(q,Bv x.1)::MV s ks,H:=λs n0 x=>(4,Bl L x.2)::TC s [4],nx:=λs _=>s.nx,I:=λs x=>IW L f t s0 x,m:=λx=>Cn L x.2}
def yU (L:List TK) (n:Nat) (T Fi:List TK->PF):Cq:=(123,mF L n T)::(136,mF L (n+1) Fi)::NP L
structure VB (L:List TK) (n:Nat) (T Fi:List TK->PF):Prop where
 t:AD Tryz.prog 123 (mF L n T)
 f:AD Tryz.prog 136 (mF L (n+1) Fi)
theorem AfX {L:List TK} {n:Nat} {T Fi:List TK->PF} (h:VB L n T Fi):Db Tryz.prog (yU L n T Fi):=BN h.t (BN h.f (O0 L))
def vq (L:List TK) (n:Nat) (T Fi:List TK->PF) (h:VB L n T Fi) (t:PT×RS) (s0:RS):Ctx:={P:=Tryz.prog,tb:=[],ht:=yU L n T Fi,Am:=AfX h,lp:=λf r=>cond (Nat.beq f 131) (cond (Nat.beq r 2) (some (Aok L (ET T L) t s0 [0,1] 3)) none) none,cut:=λ_ _=>none,fl:=λf r=>cond (Nat.beq f 131) (cond (Nat.beq r 2) [3] []) []}
theorem sL {q:List (Nat×Nat)} {x y:PT} (h:x=y):x.kind=y.kind/\x.text=y.text/\x.num=y.num/\x.line=y.line/\x.Ag=y.Ag/\x.ks.length=y.ks.length/\Au λi=>i.succ<=x.ks.length->AH q ((BA y.ks).getD i []) ((BA x.ks).getD i []):=by subst h;exact⟨rfl,rfl,rfl,rfl,rfl,rfl,⟨λi _=>Ns q _ i⟩⟩
theorem zO {y:List (Nat×Nat)} {k n:Int} {w:List UInt8} {tk:TK} {ks:List PT} {x:PT} {m:Nat} {g:Nat->List AV} (h:x=nd k w n tk ks) (hm:m=ks.length) (B:∀i,(hi:i<ks.length)->g i=[Bv ks[i]]):k=x.kind/\w=x.text/\n=x.num/\tk.line=x.line/\tk.Ag=x.Ag/\m=x.ks.length/\Au λi=>i.succ<=m->AH y ((BA x.ks).getD i []) (g i):=by
 subst h;refine⟨rfl,rfl,rfl,rfl,rfl,hm,⟨λi hi=>?_⟩⟩;have q:i<ks.length:=by omega
 show AH y ((BA ks).getD i []) (g i);rw[HF ks i q,B i q];exact⟨Qc y _,trivial⟩
theorem AgU {q:List (Nat×Nat)} {k n:Int} {w:List UInt8} {tk:TK} {y:PT} {x:PT} {g:Nat->List AV} (h:x=nd k w n tk [y]) (B:g 0=[Bv y]):k=x.kind/\w=x.text/\n=x.num/\tk.line=x.line/\tk.Ag=x.Ag/\1=x.ks.length/\Au λi=>i.succ<=1->AH q ((BA x.ks).getD i []) (g i):=zO h rfl λi hi=>by
  obtain rfl:i=0:=by simp at hi;omega
  exact B
theorem oM {B:List (Nat×Nat)} {k n:Int} {w:List UInt8} {tk:TK} {y z:PT} {x:PT} {g:Nat->List AV} (h:x=nd k w n tk [y,z]) (C:g 0=[Bv y]) (q:g 1=[Bv z]):k=x.kind/\w=x.text/\n=x.num/\tk.line=x.line/\tk.Ag=x.Ag/\2=x.ks.length/\Au λi=>i.succ<=2->AH B ((BA x.ks).getD i []) (g i):=zO h rfl λi hi=>by
  rcases(show i=0\/i=1 by simp at hi;omega)with rfl|rfl
  ·exact C
  ·exact q
@[reducible] def jH:List TK->TK×RS->PT×RS->Prop:=λ(L:List TK) (a:TK×RS) (q:PT×RS)=>True/\Aa/\DO a.2 L=DO q.2 L/\Au λ(i:Nat)=>AM i (DO a.2 L)->(Aa/\TK.kind (C8 a.2 L i)=TK.kind (C8 q.2 L i))/\TK.text (C8 a.2 L i)=TK.text (C8 q.2 L i)/\(Aa/\TK.num (C8 a.2 L i)=TK.num (C8 q.2 L i))/\(Aa/\TK.line (C8 a.2 L i)=TK.line (C8 q.2 L i))/\(Aa/\TK.Ag (C8 a.2 L i)=TK.Ag (C8 q.2 L i))/\True
def Lq (a:RS) (b:List TK) (c:RS):=(True/\Aa/\List.length (List.drop (Int.toNat (RS.at_ a)) b)=List.length (List.drop (Int.toNat (RS.at_ c)) b)/\Au λ(q:Nat)=>Nat.le (Nat.succ q) (List.length (List.drop (Int.toNat (RS.at_ a)) b))->(Aa/\TK.kind (List.getD (List.drop (Int.toNat (RS.at_ a)) b) q TK.zero)=TK.kind (List.getD (List.drop (Int.toNat (RS.at_ c)) b) q TK.zero))/\TK.text (List.getD (List.drop (Int.toNat (RS.at_ a)) b) q TK.zero)=TK.text (List.getD (List.drop (Int.toNat (RS.at_ c)) b) q TK.zero)/\(Aa/\TK.num (List.getD (List.drop (Int.toNat (RS.at_ a)) b) q TK.zero)=TK.num (List.getD (List.drop (Int.toNat (RS.at_ c)) b) q TK.zero))/\(Aa/\TK.line (List.getD (List.drop (Int.toNat (RS.at_ a)) b) q TK.zero)=TK.line (List.getD (List.drop (Int.toNat (RS.at_ c)) b) q TK.zero))/\(Aa/\TK.Ag (List.getD (List.drop (Int.toNat (RS.at_ a)) b) q TK.zero)=TK.Ag (List.getD (List.drop (Int.toNat (RS.at_ c)) b) q TK.zero))/\True)
def Dw (a:PT):=List.length (PT.ks a)
def GW (a:Nat) (b:PT) (c:PT):=List.take 1 (List.drop (a*1) [Cs b,Cs c])
def Hj (a:List TK) (b:RS) (c:Nat):=(Bh a b λ(q:RS)=>Av a (c+1) q)
def HI:=(Ab (some 4)/\Aa)
def Jc:=(Ab (some 5)/\Aa)
def Rf (a:RS) (b:List TK) (c:RS):=(Aa/\Aa/\Aa/\Aa/\(Lq a b c)/\Aa/\RS.nest a=RS.nest c)
def Um:=(Aa/\Aa/\Aa/\Aa/\True/\Ab (some 4)/\Aa)
def du (a:PT) (b:Nat):=AH [(5,5),(0,0),(1,1),(2,2),(3,3),(4,4)] (List.getD (BA (PT.ks a)) b [])
def Mj (a:PT) (b:PT):=D2 [Cs a,Cs b]
theorem AmK:∀(L:List TK) (n:Nat) (T Fi:List TK->PF),VB L n T Fi->∀(s:RS) (t:PT×RS),R0 L s->Av L (n+1) s->FG L n T->FG L (n+1) Fi->t=KV T Fi L s->(Hj L s n)/\∀(y:PT×RS),y=CQ Fi L s->AO y.2 ((∃(K:PT×RS),IW L (ET T L) t s K/\Aa/\(((Aa/\PT.kind y.1=PT.kind K.1)/\PT.text y.1=PT.text K.1/\(Aa/\PT.num y.1=PT.num K.1)/\(Aa/\PT.line y.1=PT.line K.1)/\(Aa/\PT.Ag y.1=PT.Ag K.1)/\True/\(Aa/\Dw y.1=Dw K.1/\Au λ(i:Nat)=>AM i (Dw y.1)->du K.1 i (List.getD (BA (PT.ks y.1)) i []))/\True)/\HI/\Jc/\True)/\(Rf y.2 L K.2)/\Fy/\Um/\True)/\∀(x:PT×RS),IW L (ET T L) t s x->(True/\Bh L x.2 λ(s:RS)=>BK [[(46:UInt8)],[(91:UInt8)]])/\∀(y:RS),y=Bg L x.2->Ad (Ax (List.any [[(46:UInt8)],[(91:UInt8)]] (Ah L y))) ((True/\Bh L y λ(s:RS)=>BK [[(46:UInt8)]])/\∀(J:RS),J=Bg L y->Ad (Ax (List.any [[(46:UInt8)]] (Ah L J))) ((Co L J)/\∀(y:TK×RS),y=(Cp L J)->Dx x.1/\(Ib L y.2)/\∀(q:TK×RS),q=IE L y.2->AO q.2 (Dx x.1/\(Uu/\BF/\BF/\BF/\True)/\∃(C:PT×RS),IW L (ET T L) t s C/\DX L C.2 x.2/\Aa/\(((Aa/\(30:Int)=PT.kind C.1)/\TK.text q.1=PT.text C.1/\(Aa/\(0:Int)=PT.num C.1)/\(Aa/\TK.line y.1=PT.line C.1)/\(Aa/\TK.Ag y.1=PT.Ag C.1)/\True/\(Aa/\1=Dw C.1/\Au λ(i:Nat)=>AM i 1->du C.1 i [Cs x.1])/\True)/\HI/\Jc/\True)/\(Aa/\Aa/\Aa/\Aa/\jH L q C/\Aa/\RS.nest q.2=RS.nest C.2)/\Fy/\Um/\True) ((Uu/\BF/\True)/\BD L q.2 t.2)) ((True/\Bh L J λ(s:RS)=>BK [[(91:UInt8)]])/\∀(y:RS),y=Bg L J->Ad (!Ax (List.any [[(91:UInt8)]] (Ah L y))) (Lu L y t.2) (N5 y L t.2 ((Co L y)/\∀(q:TK×RS),q=(Cp L y)->KK q.2 ((RD L q.2 n)/\∀(y:PT×RS),y=T L (B5 L (cP L q.2) (JH q.2))->AO y.2 (Mj x.1 y.1/\(H9/\H9/\((True/\Ab (Bv x.1)/\DG q.1/\True)/\True)/\True)/\(True/\Bh L y.2 λ(s:RS)=>BK [[(93:UInt8)]])/\∀(E:TK×RS),E=Hm L y.2 [[(93:UInt8)]]->AO E.2 (HH E.2 (∃(C:PT×RS),IW L (ET T L) t s C/\DX L C.2 x.2/\Aa/\(((Aa/\(31:Int)=PT.kind C.1)/\[]=PT.text C.1/\(Aa/\(0:Int)=PT.num C.1)/\(Aa/\TK.line q.1=PT.line C.1)/\(Aa/\TK.Ag q.1=PT.Ag C.1)/\True/\(Aa/\2=Dw C.1/\Au λ(i:Nat)=>AM i 2->du C.1 i (GW i x.1 y.1))/\True)/\HI/\Jc/\True)/\(Aa/\Aa/\Aa/\Aa/\jH L E C/\Aa/\RS.nest E.2-1=RS.nest C.2)/\Fy/\Um/\True)) (BD L E.2 t.2)) ((H9/\True)/\BD L y.2 t.2)))))) (Ce L y (Cs x.1) t/\True)) (BD L y.2 t.2)
:=by
 delta Cs Lq Bg Bh DG AO Co BF Ce AM BD Cp Dw DX GW Lu H9 N5 Hj HH HI Fy Dx Ib JH Jc Rf Um IE du Uu KK Hm RD CQ Mj;intro L n T Fi Am s t hs Y hT hF ht;simp only[A9,jH,IB,AM,C8,DO];simp only[List.any_cons,List.any_nil,Bool.or_false];have aa:=Y.ns;have ae:=Y.lf;have g0:=hF.g L s Y;have U:∀(k:Nat) (x:PT) (s:RS),Kp s (ET T L k x s).2:=cE hT.k;refine Ca (f:=Fi L) hs Y (by rw[ht];exact U _ _ _) λe0=>?_;have r0:=Fj hs g0 (hF.k _) e0;refine⟨⟨Fi L s,⟨⟨B7 L,Kz g0.ok,ht.symm⟩,g0,r0⟩,sL rfl,Fk rfl⟩,λx hx=>?_⟩;obtain⟨⟨k,hk,B⟩,px,rx⟩:=hx;have h0:=rx.ok.a0;have ad:=rx.ok.n0;have e5:=px.ns;have Am:=hs.ok;cases k with
 |zero=>omega
 |succ k=>
 unfold ET at B;refine DV rx rfl (Aj (λR=>DV rx rfl (Aj (λO=>?_) λO=>?_)) λR=>?_)
 ·rw[if_pos (show Ah L x.2 OC=true from O)]at B;obtain⟨d1,d2⟩:=lQ px O;have V:=Bb O;have S:=HN rx V;refine E6 rx V ⟨FQ x.1,Ca (s:=Ai x.2) (f:=λs=>AB L s 1) S trivial (by rw[<-B];exact U _ _ _) λe=>⟨FQ x.1,LR L x.1 x.2,⟨⟨k,by omega,B⟩,d1,Jf S (Gu S.ok (by decide)) (H6 L _ 1) e⟩,d2,AgU rfl rfl,Fk rfl⟩⟩
 ·have M:Ah L x.2 Fq=true:=by rw[O,Bool.false_or]at R;exact R
  rw[if_neg (nb (show Ah L x.2 OC=false from O)),if_pos M]at B;obtain⟨d0,d1,d2⟩:=nh hT.g px aa (by omega) M;have V:=Bb M;have S:=HN rx V;have rest:Kp (AQ L x.2 Fq).2 t.2:=by rw[<-B];exact(QU hT.k _).tr ((De L _ LJ).tr ((J1 _).tr (U _ _ _)))
  refine DV rx rfl (Aj (λc7=>?_) λ_=>Aj (λZ=>?_) λZ=>?_)
  ·rw[show Ah L x.2 [91]=true from M]at c7;cases c7
  ·rw[BL]at Z;exact Sb rx (by decide) ((cD rx M Z).tr rest)
  ·rw[BU]at Z;have ho:=cz (L:=L) (s:=x.2) (w:=Fq) M (by omega);have W:=eZ S (show x.2.nest<=900 by omega);have pu:Av L n (EB (Ai x.2)):=by have:=d0.pe;rw[ho]at this;exact this W.e
   have ab:A5 T L (EB (Ai x.2))=T L (EB (Ai x.2)):=by unfold A5;rw[if_neg (λe=>e W.e)]
   have hM:Ku T L x.1 x.2=(nd 31 [] 0 (Aq L x.2) [x.1,(T L (EB (Ai x.2))).1],down (Al L (T L (EB (Ai x.2))).2 [LJ]).2):=by unfold Ku;rw[ho];simp only;rw[ab,sign_one]
   rw[hM]at B d1 d2;have g:=hT.g L _ pu;refine E6 rx V (An (Be.2 ⟨by show-9223372036854775808<=x.2.nest+1;omega,by show x.2.nest+1<=9223372036854775807;omega⟩) (Ca (s:=EB (Ai x.2)) (f:=T L) W pu (by rw[<-B];exact(GP L _ [LJ]).tr ((J1 _).tr (U _ _ _))) λe=>⟨fE _ _,?_⟩));have r4:=Fj W g (hT.k _) e;have g5:(T L (EB (Ai x.2))).2.nest=x.2.nest+1:=g.ns;refine Ca (f:=λs=>Al L s [[93]]) r4 (IQ rfl) (by rw[<-B];exact(J1 _).tr (U _ _ _)) λe2=>?_;have s5:=Iz (L:=L) (ws:=[[93]]) r4.ok;have f5:=s5.ns;have r5:=Jf r4 s5 (GP L _ _) e2;exact An (Be.2 (by omega)) ⟨_,⟨⟨k,by omega,B⟩,d1,Ajv r5 (by show 1<=(Al L (T L (EB (Ai x.2))).2 [[93]]).2.nest;omega)⟩,d2,oM rfl rfl rfl,Fk (s:=down (Al L (T L (EB (Ai x.2))).2 [[93]]).2) rfl⟩
 ·rw[Bool.or_eq_false_iff]at R;rw[if_neg (nb (show Ah L x.2 OC=false from R.1)),if_neg (nb (show Ah L x.2 Fq=false from R.2))]at B;exact K9 (y:=x) B.symm rx.e
theorem AmJ:∀(L:List TK) (n:Nat) (T Fi:List TK->PF) (Am:VB L n T Fi) (s:RS) (t:PT×RS),R0 L s->Av L (n+1) s->FG L n T->FG L (n+1) Fi->t=KV T Fi L s->(AG (vq L n T Fi Am t s) 60).call 131 [.ptr 4 0] (AU (Cm++A0 [Bl L s] 4)) (4+1) (Hb L t):=Eq.mpr (by kernel_rfl) AmK
theorem AiS {L:List TK} {n:Nat} {T Fi:List TK->PF} (h:VB L n T Fi) (hT:FG L n T) (q:FG L (n+1) Fi):AD Tryz.prog 131 (mF L (n+1) (KV T Fi)):=H7 λs B y=>⟨vq L n T Fi h (KV T Fi L s) s,60,rfl,AW,Bc,λt ht=>by subst ht;exact AmJ L n T Fi h s _ B y hT q rfl⟩
structure ED (g:FuncId) (L:List TK) (n:Nat) (F:List TK->PF):Prop where
 f:AD Tryz.prog g (mF L n F)
def Tx (g:FuncId) (L:List TK) (n:Nat) (F:List TK->PF):Cq:=(g,mF L n F)::NP L
theorem Wz {g:FuncId} {L:List TK} {n:Nat} {F:List TK->PF} (h:ED g L n F):Db Tryz.prog (Tx g L n F):=BN h.f (O0 L)
def ZA (g:FuncId) (L:List TK) (n:Nat) (F:List TK->PF) (h:ED g L n F):Ctx:=GM (Tx g L n F) (Wz h)
def Aoh (L:List TK) (f:Nat->PT->RS->PT×RS) (t:PT×RS) (s0:RS) (ws:List (List UInt8)):CV:={X:=PT×RS,T:=λs _ x=>(7,Bv x.1)::MV s [0,1,2],H:=λs n0 x=>(4,Bl L x.2)::(4+1,Jg ws)::TC s [4,4+1],nx:=λs _=>s.nx,I:=λs x=>IW L f t s0 x,m:=λx=>Cn L x.2}
def ZC (g:FuncId) (L:List TK) (n:Nat) (F:List TK->PF) (ws:List (List UInt8)) (h:ED g L n F) (t:PT×RS) (s0:RS):Ctx:={P:=Tryz.prog,tb:=[],ht:=Tx g L n F,Am:=Wz h,lp:=λf r=>cond (Nat.beq f 134) (cond (Nat.beq r 2) (some (Aoh L (Df F ws L) t s0 ws)) none) none,cut:=λ_ _=>none,fl:=λf r=>cond (Nat.beq f 134) (cond (Nat.beq r 2) [7] []) []}
theorem pF {L:List TK} {n:Nat} {F:List TK->PF} {s0:RS} {x t:PT×RS} {ws:List (List UInt8)} {G:TK×RS->PT×RS->Prop} (q:FG L n F) (K:Av L n s0) (E:Cf L 1 2 s0 x) (rx:R0 L x.2) (hd:ws.any (Ah L x.2)=true) (rest:Kp (Fw F L x.1 x.2).2 t.2) (M:R0 L (F L (Ai x.2)).2->G (Aq L x.2,Ai x.2) (F L (Ai x.2))): (CU L (cP L x.2) x.2.nest λs=>s.at_<L.length)/\∀y,y=(Aq L (B5 L (cP L x.2) x.2.nest),Ai (B5 L (cP L x.2) x.2.nest))->(CU L (cP L y.2) y.2.nest λs=>Av L n s)/\∀z,z=F L (B5 L (cP L y.2) y.2.nest)->Ad (Ak z.2.err 0) (D2 [Bv x.1,Bv z.1]/\D2 [Bv x.1,Bv z.1]/\G y z) (F4 L (CG L z.2) t.2):=by obtain⟨d0,d1,O⟩:=TU q.g (x:=x.1) (s:=x.2) E K hd;obtain⟨w,_,J⟩:=List.any_eq_true.1 hd;have C:=Bb J;have B:=HN rx C;exact E6 rx C (Ca (f:=F L) B d0 rest λe=>⟨fE _ _,fE _ _,M (Fj B (q.g L _ d0) (q.k _) e)⟩)
theorem AaT {L:List TK} {n:Nat} {F:List TK->PF} {s0:RS} {x t:PT×RS} {ws:List (List UInt8)} (y:FG L n F) (C:Av L n s0) (h:IW L (Df F ws L) t s0 x) (hd:ws.any (Ah L x.2)=true):Kp (Fw F L x.1 x.2).2 t.2/\(R0 L (F L (Ai x.2)).2->IW L (Df F ws L) t s0 (Fw F L x.1 x.2))/\Cn L (Fw F L x.1 x.2).2<Cn L x.2:=by
 obtain⟨⟨k,J,q⟩,B,rx⟩:=h;obtain⟨d0,d1,E⟩:=TU y.g (x:=x.1) (s:=x.2) B C hd;cases k with
 |zero=>omega
 |succ k=>
 unfold Df at q;rw[if_pos hd]at q;exact⟨by rw[<-q];exact WL y.k _ _ _,λr=>⟨⟨k,by omega,q⟩,d1,r⟩,E⟩
theorem AaS {L:List TK} {F:List TK->PF} {s0:RS} {x t:PT×RS} {ws:List (List UInt8)} (h:IW L (Df F ws L) t s0 x) (hd:ws.any (Ah L x.2)=false):t=x:=by
 obtain⟨⟨k,B,q⟩,y,rx⟩:=h;cases k with
 |zero=>omega
 |succ k=>
 unfold Df at q;rw[if_neg (nb hd)]at q;exact q.symm
theorem AgP {F:List TK->PF} {L:List TK} (s:RS):Kp (F L s).2 (KY F L s).2:=Eo (P:=λr:RS=>Kp (F L s).2 r) (λ_=>WS _ (by decide)) λ_=>Dd _
theorem Abo {L:List TK} {n:Nat} {F:List TK->PF} {s:RS} {t:PT×RS} {ws:List (List UInt8)} (q:FG L n F) (B:Av L n s) (y:R0 L s) (ht:t=DE F ws L s) (e:(F L s).2.err=0):IW L (Df F ws L) t s (F L s):=by have g:=q.g L s B;exact⟨⟨B7 L,Kz g.ok,ht.symm⟩,g,Fj y g (q.k _) e⟩
@[reducible] def Sy:List TK->PT×RS->PT×RS->Prop:=λ(L:List TK) (a q:PT×RS)=>Aa/\Aa/\Aa/\Aa/\(Lq a.2 L q.2)/\Aa/\RS.nest a.2=RS.nest q.2
def dV (a:PT) (b:PT):=((Aa/\PT.kind a=PT.kind b)/\PT.text a=PT.text b/\(Aa/\PT.num a=PT.num b)/\(Aa/\PT.line a=PT.line b)/\(Aa/\PT.Ag a=PT.Ag b)/\True/\(Aa/\Dw a=Dw b/\Au λ(q:Nat)=>AM q (Dw a)->AH [(0,0),(1,1),(2,2),(3,3),(4,4),(5,5),(6,6)] (List.getD (BA (PT.ks b)) q []) (List.getD (BA (PT.ks a)) q []))/\True)
def dW (a:PT) (b:TK) (c:PT) (d:PT):=((Aa/\(32:Int)=PT.kind a)/\TK.text b=PT.text a/\(Aa/\(0:Int)=PT.num a)/\(Aa/\TK.line b=PT.line a)/\(Aa/\TK.Ag b=PT.Ag a)/\True/\(Aa/\2=Dw a/\Au λ(q:Nat)=>AM q 2->AH [(0,0),(1,1),(2,2),(3,3),(4,4),(5,5),(6,6)] (List.getD (BA (PT.ks a)) q []) (GW q c d))/\True)
def Ua (a:TK):=(((Ab (C7 a)/\True/\True)/\True)/\BF/\BF/\((Ab (C7 a)/\DG a/\True)/\True)/\True)
def UD:=(Aa/\(HI/\True)/\True)
theorem Al5:∀(L:List TK) (n:Nat) (F:List TK->PF),ED (141:FuncId) L n F->∀(s:RS) (t:PT×RS),R0 L s->Av L n s->FG L n F->t=DE F JF L s->(Ey L s n)/\∀(y:PT×RS),y=F L (Bg L s)->AO y.2 ((∃(K:PT×RS),IW L (Df F JF L) t s K/\Aa/\((dV y.1 K.1)/\HI/\UD/\(Ab (some 5)/\0=0/\1=1/\1=1)/\True)/\Sy L y K/\(Aa/\Aa/\Aa/\1=1/\True/\Ab [(42:UInt8)])/\Fy/\True)/\∀(x:PT×RS),IW L (Df F JF L) t s x->(True/\Bh L x.2 λ(s:RS)=>BK JF)/\∀(y:RS),y=Bg L x.2->Ad (Ax (List.any JF (Ah L y))) ((Co L y)/\∀(q:TK×RS),q=(Cp L y)->(Ey L q.2 n)/\∀(y:PT×RS),y=CQ F L q.2->AO y.2 (Mj x.1 y.1/\Mj x.1 y.1/\(Ua q.1)/\∃(C:PT×RS),IW L (Df F JF L) t s C/\DX L C.2 x.2/\Aa/\((dW C.1 q.1 x.1 y.1)/\HI/\UD/\(Ab (some 5)/\0=0/\1=1/\1=1)/\True)/\Sy L y C/\(Aa/\Aa/\Aa/\Aa/\List.length JF=1/\Au λ(i:Nat)=>B8 i (List.length JF)->Ab (List.getD JF i [])/\True)/\Fy/\True) ((BF/\True)/\BD L y.2 t.2)) (Ce L y (Cs x.1) t/\True)) (BD L y.2 t.2)
:=by delta Cs Bg Bh DG AO Co BF Ce AM BD Cp B8 Dw DX GW C7 dV Ey dW HI Fy Ua JF UD CQ Mj;intro L n F Am s t M E J ht;simp only[A9,Sy,Lq];refine Ca (f:=F L) M E (by rw[ht];exact WL J.k _ _ _) λO=>?_;refine⟨⟨F L s,Abo J E M ht O,sL rfl,Fk rfl⟩,λx B=>DV B.r rfl (Aj (λc=>?_) λc=>K9 (AaS B c) B.r.e)⟩;obtain⟨R,d2,d3⟩:=AaT J E B c;exact pF J E B.p B.r c R λr=>⟨Fw F L x.1 x.2,d2 r,d3,oM rfl rfl rfl,Fk (s:=(F L (Ai x.2)).2) rfl,rfl⟩
theorem Al4:∀(L:List TK) (n:Nat) (F:List TK->PF) (Am:ED 141 L n F) (s:RS) (t:PT×RS),R0 L s->Av L n s->FG L n F->t=DE F [E7] L s->(AG (ZC 141 L n F [E7] Am t s) 60).call 135 [.ptr 4 0] (AU (Cm++A0 [Bl L s] 4)) (4+1) (Hb L t):=Eq.mpr (by kernel_rfl) Al5
theorem Amt:∀(L:List TK) (n:Nat) (F:List TK->PF),ED (135:FuncId) L n F->∀(s:RS) (t:PT×RS),R0 L s->Av L n s->FG L n F->t=DE F Jb L s->(Ey L s n)/\∀(y:PT×RS),y=F L (Bg L s)->AO y.2 ((∃(K:PT×RS),IW L (Df F Jb L) t s K/\Aa/\((dV y.1 K.1)/\HI/\UD/\(Ab (some 5)/\0=0/\2=2/\2=2)/\True)/\Sy L y K/\(Aa/\Aa/\Aa/\2=2/\(True/\Ab [(43:UInt8)])/\Ab [(45:UInt8)])/\Fy/\True)/\∀(x:PT×RS),IW L (Df F Jb L) t s x->(True/\Bh L x.2 λ(s:RS)=>BK Jb)/\∀(y:RS),y=Bg L x.2->Ad (Ax (List.any Jb (Ah L y))) ((Co L y)/\∀(q:TK×RS),q=(Cp L y)->(Ey L q.2 n)/\∀(y:PT×RS),y=CQ F L q.2->AO y.2 (Mj x.1 y.1/\Mj x.1 y.1/\(Ua q.1)/\∃(C:PT×RS),IW L (Df F Jb L) t s C/\DX L C.2 x.2/\Aa/\((dW C.1 q.1 x.1 y.1)/\HI/\UD/\(Ab (some 5)/\0=0/\2=2/\2=2)/\True)/\Sy L y C/\(Aa/\Aa/\Aa/\Aa/\List.length Jb=2/\Au λ(i:Nat)=>B8 i (List.length Jb)->Ab (List.getD Jb i [])/\True)/\Fy/\True) ((BF/\True)/\BD L y.2 t.2)) (Ce L y (Cs x.1) t/\True)) (BD L y.2 t.2)
:=by delta Cs Bg Bh DG AO Co BF Ce AM BD Cp B8 Dw DX GW C7 dV Ey Jb dW HI Fy Ua UD CQ Mj;intro L n F Am s t M E J ht;simp only[A9,Sy,Lq];refine Ca (f:=F L) M E (by rw[ht];exact WL J.k _ _ _) λO=>?_;refine⟨⟨F L s,Abo J E M ht O,sL rfl,Fk rfl⟩,λx B=>DV B.r rfl (Aj (λc=>?_) λc=>K9 (AaS B c) B.r.e)⟩;obtain⟨R,d2,d3⟩:=AaT J E B c;exact pF J E B.p B.r c R λr=>⟨Fw F L x.1 x.2,d2 r,d3,oM rfl rfl rfl,Fk (s:=(F L (Ai x.2)).2) rfl,rfl⟩
theorem Ams:∀(L:List TK) (n:Nat) (F:List TK->PF) (Am:ED 135 L n F) (s:RS) (t:PT×RS),R0 L s->Av L n s->FG L n F->t=DE F [Gi,Gj] L s->(AG (ZC 135 L n F [Gi,Gj] Am t s) 60).call 130 [.ptr 4 0] (AU (Cm++A0 [Bl L s] 4)) (4+1) (Hb L t):=Eq.mpr (by kernel_rfl) Amt
theorem AmD:∀(L:List TK) (n:Nat) (F:List TK->PF),ED (130:FuncId) L n F->∀(s:RS) (t:PT×RS),R0 L s->Av L n s->FG L n F->t=JM F L s->(Ey L s n)/\∀(y:PT×RS),y=F L (Bg L s)->AO y.2 ((True/\Bh L y.2 λ(s:RS)=>BK [[(60:UInt8)],RA])/\∀(C:RS),C=Bg L y.2->Ad (Ax (List.any [[(60:UInt8)],RA] (Ah L C))) ((Co L C)/\∀(B:TK×RS),B=(Cp L C)->(Ey L B.2 n)/\∀(q:PT×RS),q=CQ F L B.2->AO q.2 (Mj y.1 q.1/\Mj y.1 q.1/\(Ua B.1)/\Ce L q.2 (AV.pv [AV.int .i64 (32:Int),C7 B.1,BX,B3 B.1,B4 B.1,AV.As,AV.vec 1 2 λ(i:Nat)=>GW i y.1 q.1]) t/\True) ((BF/\True)/\BD L q.2 t.2)) (Ce L C (Cs y.1) t/\True)) (BD L y.2 t.2)
:=by
 delta Cs Bg Bh DG AO Co BF Ce B3 B4 BD Cp BX GW C7 Ey Ua RA CQ Mj;intro L n F Am s t M K E ht;simp only[A9];refine Ca (f:=F L) M K (by rw[ht];exact Eo (P:=λr:PT×RS=>Kp (F L s).2 r.2) (λ_=>oI E.k _ _) λ_=>Dd _) λO=>?_;have g:=E.g L s K;have J:=Fj M g (E.k _) O;have key:∀c,[Mx,Mu].any (Ah L (F L s).2)=c->t=if c=true then Fw F L (F L s).1 (F L s).2 else F L s:=λc hc=>by rw[ht];unfold JM;rw[hc]
 refine DV J rfl (Aj (λc=>?_) λc=>K9 (key false c) J.e);have k1:=key true c;rw[if_pos rfl]at k1;exact pF E K g J c (by rw[k1];exact Dd _) λr=>(OV (t:=t) k1 r.e rfl rfl).2
theorem AmC:∀(L:List TK) (n:Nat) (F:List TK->PF) (Am:ED 130 L n F) (s:RS) (t:PT×RS),R0 L s->Av L n s->FG L n F->t=JM F L s->(AG (ZA 130 L n F Am) 60).call 123 [.ptr 4 0] (AU (Cm++A0 [Bl L s] 4)) (4+1) (Hb L t):=Eq.mpr (by kernel_rfl) AmD
@[reducible] def YH:List TK->PT×RS->PT×RS->Prop:=λ(L:List TK) (t a:PT×RS)=>Ce L a.2 (Cs a.1) t/\True
theorem Anj:∀(L:List TK) (n:Nat) (F:List TK->PF),ED (131:FuncId) L n F->∀(s:RS) (t:PT×RS),R0 L s->Av L n s->FG L n F->t=KY F L s->(Ey L s n)/\∀(y:PT×RS),y=F L (Bg L s)->AO y.2 (Ad (Ak (PT.kind y.1) (29:Int)) (YH L t y) (Ad (Ak (PT.kind y.1) (30:Int)) (YH L t y) (Ad (Ak (PT.kind y.1) (31:Int)) (YH L t y) (Lu L y.2 t.2)))) (BD L y.2 t.2)
:=by
 delta Bg Bh AO BD Lu Ey;intro L n F Am s t J K M ht;simp only[A9,YH,Cs,Ce];refine Ca (f:=F L) J K (by rw[ht];exact AgP _) λE=>?_;have g:=M.g L s K;have O:=Fj J g (M.k _) E;have ht:t=((F L s).1,if(F L s).2.err=0/\(F L s).1.kind≠29/\(F L s).1.kind≠30/\(F L s).1.kind≠31 then Bj (F L s).2 4 else(F L s).2):=ht;refine Aj (λC=>?_) λC=>Aj (λB=>?_) λB=>Aj (λq=>?_) λq=>?_
 ·rw[BL]at C;rw[if_neg (by rintro⟨_,h,_⟩;exact h C)]at ht;exact K9 ht E
 ·rw[BL]at B;rw[if_neg (by rintro⟨_,_,h,_⟩;exact h B)]at ht;exact K9 ht E
 ·rw[BL]at q;rw[if_neg (by rintro⟨_,_,_,h⟩;exact h q)]at ht;exact K9 ht E
 ·rw[BU]at C B q;rw[if_pos ⟨E,C,B,q⟩]at ht;exact Sb O (by decide) (by rw[ht];exact Dd _)
theorem Ani:∀(L:List TK) (n:Nat) (F:List TK->PF) (Am:ED 131 L n F) (s:RS) (t:PT×RS),R0 L s->Av L n s->FG L n F->t=KY F L s->(AG (ZA 131 L n F Am) 60).call 127 [.ptr 4 0] (AU (Cm++A0 [Bl L s] 4)) (4+1) (Hb L t):=Eq.mpr (by kernel_rfl) Anj
theorem Aiv {L:List TK} {n:Nat} {F:List TK->PF} (h:ED 141 L n F) (q:FG L n F):AD Tryz.prog 135 (mF L n (DE F [E7])):=H7 λs B y=>⟨ZC 141 L n F [E7] h (DE F [E7] L s) s,60,rfl,AW,Bc,λt ht=>by subst ht;exact Al4 L n F h s _ B y q rfl⟩
theorem AiI {L:List TK} {n:Nat} {F:List TK->PF} (h:ED 135 L n F) (q:FG L n F):AD Tryz.prog 130 (mF L n (DE F [Gi,Gj])):=H7 λs B y=>⟨ZC 135 L n F [Gi,Gj] h (DE F [Gi,Gj] L s) s,60,rfl,AW,Bc,λt ht=>by subst ht;exact Ams L n F h s _ B y q rfl⟩
theorem AiM {L:List TK} {n:Nat} {F:List TK->PF} (h:ED 130 L n F) (q:FG L n F):AD Tryz.prog 123 (mF L n (JM F)):=H7 λs B y=>⟨ZA 130 L n F h,60,rfl,AW,Bc,λt ht=>AmC L n F h s t B y q ht⟩
theorem Ai7 {L:List TK} {n:Nat} {F:List TK->PF} (h:ED 131 L n F) (q:FG L n F):AD Tryz.prog 127 (mF L n (KY F)):=H7 λs B y=>⟨ZA 131 L n F h,60,rfl,AW,Bc,λt ht=>Ani L n F h s t B y q ht⟩
end Go.Proofs.YtlmmbanfhjaioaaGreatDoor
end
end
