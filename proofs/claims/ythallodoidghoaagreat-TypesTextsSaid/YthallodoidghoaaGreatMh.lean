/- Laid by program out of its parts: Sx2, Sx4, SxW, Sx5, Sx6. -/
import Derived.Test.YthallodoidghoaaGreatMj
import Derived.Test.YthallodoidghoaaGreatMe
import Derived.Test.YthallodoidghoaaGreatMf
noncomputable section
set_option linter.unusedVariables false
set_option linter.unusedSimpArgs false
section
namespace Go.Ev
open Go.RowKit Go.Sort Go.Proofs
def VA (a b:AV):Prop:=∀ρ v,VR ρ a v->VR ρ b v
def Rh (l m:Al):Prop:=∀ρ vs,AL ρ l vs->AL ρ m vs
theorem Ke (a:AV):VA a a:=λ_ _ h=>h
theorem ic:Rh [] []:=λ_ _ h=>h
theorem AqJ (l:Al):Rh l l:=λ_ _ h=>h
theorem I5 {a b:AV} {l m:Al} (h:VA a b) (r:Rh l m):Rh (a::l) (b::m):=λρ vs hv=>by
 cases hv with
 |cons _ _ _ _ y x=>exact .cons _ _ _ _ (h _ _ y) (r _ _ x)
theorem AqE {l m:Al} (h:Rh l m):VA (.agg l) (.agg m):=λρ v hv=>by
 cases hv with
 |agg _ _ r=>exact .agg _ _ (h _ _ r)
theorem AqH {e n:Nat} {f g:Nat->Al} (h:∀i,i<n->Rh (f i) (g i)):VA (.vec e n f) (.vec e n g):=λρ v hv=>by
 cases hv with
 |vec _ _ _ b o cap cs el fz J y z r x hc=>exact .vec _ _ _ b o cap cs el fz J y z r (λi hi=>h i hi _ _ (x i hi)) hc
 |GR _ _ _ B base cap=>exact .GR _ _ _ B base cap
theorem AqI {e n m:Nat} {f g:Nat->Al} (hn:n=m) (h:∀i,i<n->f i=g i):VA (.vec e n f) (.vec e m g):=by subst hn;exact AqH λi hi=>by rw[h i hi];exact AqJ _
theorem AqG (n m:Nat):VA (.str n m) (.bs (BO n m)):=λρ v hv=>by cases hv;exact .bs _
theorem zt {P:Program} {g:FuncId} {AN:Tr Ah->Al->Option Ct} {gl:List (Nat×Ah)} {ng:Nat} (R:∀p∈gl,Kw p.2=true) (h:∀H args ct,AN H args=some ct->(∀p∈gl,H.get p.1=some p.2)/\∃pre v,ct=.Bb pre (.ret v)/\(pre->∃x,Rh args x/\AZ [] x x/\ ∃(z:Ctx) (n:Nat),z.P=P/\P.follows .mixedOrders=true/\EU P z.tb/\(A3 z n).call g x (BU gl) ng (BS P false v))):BC P g AN:=by
 intro H args ct S p v B;obtain⟨h1,pre,J,rfl,h2⟩:=h H args ct S;obtain⟨U,rfl,rfl⟩:=oy B;obtain⟨x,h3,h4,z,n,h5,Z,Y,W⟩:=h2 U
 classical
 have key:BC P g (λH' L=>if H'=H/\L=x then some (.Bb True (.ret J))else none):=W6 R λH' L aa y=>by
  by_cases K:H'=H/\L=x
  ·rw[As K]at y;injection y with y;obtain⟨rfl,rfl⟩:=K;exact⟨h1,h4,True,J,y.symm,λ_=>⟨z,n,h5,Z,Y,W⟩⟩
  ·rw[An K]at y;cases y
 intro E F ρ w nx H' V r;have:=key H x _ (As ⟨rfl,rfl⟩) false J (by show(@ite _ True (Classical.propDecidable _) (some (false,J)) none)=_;exact As trivial) E F ρ w nx H' V r;exact⟨this.1,λvs Az=>this.2 vs (h3 _ _ Az)⟩
end Go.Ev
end
section
namespace Go.Ev
open Go.RowKit
def iB:AV->Bool
 |.bool _=>true
 |.int _ _=>true
 |.str _ _=>true
 |.bs _=>true
 |_=>false
def YQ:AV->Bool
 |.AM l=>l.all iB
 |a=>iB a
theorem Aep {ρ r:Ak} {a:AV} (h:iB a=true) {u:Value} (hv:VR ρ a u):VR r a u:=by
 cases a<;>first|(cases h;done)|skip
 all_goals cases hv
 ·exact .bool _
 ·exact .int _ _
 ·exact .str _ _ ‹_›
 ·exact .bs _
theorem Aeq {ρ y:Ak}:∀ {l:Al} {r:List Value},l.all iB=true->AL ρ l r->AL y l r
 | [],_,_,h=>by cases h;exact .nil
 |a::l,_,x,h=>by
  cases h with
  |cons _ u _ r B z=>simp only[List.all_cons,B4]at x;exact .cons _ _ _ _ (Aep x.1 B) (Aeq x.2 z)
theorem ApM {ρ r:Ak} {a:AV} (h:YQ a=true) {u:Value} (hv:VR ρ a u):VR r a u:=by
 cases a with
 |AM l=>cases hv with
  |AM _ y x=>exact .AM _ _ (Aeq h x)
 |_=>exact Aep (by simpa[YQ]using h) hv
def WV (nx:Nat) (ct:Ct):Eg:=Ct.rec (motive:=λ_=>Eg) (λv=>.Bb (YQ v=true) (.ret v [] (nx+1))) (λv=>.Bb False (.ret v [] (nx+1))) (λb _ _ r x=>.br b r x) (λp _ r=>.Bb p r) ct
def SZ (P:Program) (AN:Tr Ah->Al->Option Ct):Ft:=λH nx args=>
 ob (PQ P H args) λr=>ob (AN .leaf r.2.1) λct=>some (.Bb (r.1=true/\AZ [] r.2.1 r.2.1) (WV nx ct))
theorem Uz {pre:Prop} {t:Eg} {x:Bool×AV×List (Nat×Ah)×Nat} (h:hOut (.Bb pre t)=some x):pre/\hOut t=some x:=by
 have r:(open Classical in if pre then hOut t else none)=some x:=h;by_cases y:pre
 ·rw[As y]at r;exact⟨y,r⟩
 ·rw[An y]at r;cases r
theorem cW {nx:Nat}:∀ {ct:Ct} {p:Bool} {v:AV} {up:List (Nat×Ah)} {nx':Nat},hOut (WV nx ct)=some (p,v,up,nx')->G2 ct=some (false,v)/\p=false/\YQ v=true/\up=[]/\nx'=nx+1
 |.ret v0,p,v,up,nx',h=>by obtain⟨x,r⟩:=Uz (show hOut (.Bb (YQ v0=true) (.ret v0 [] (nx+1)))=_ from h);have r:some (false,v0,[],nx+1)=some (p,v,up,nx'):=r;injection r with r;injection r with L r;injection r with K r;injection r with J B;subst L;subst K;subst J;subst B;exact⟨rfl,rfl,x,rfl,rfl⟩
 |.AG v0,p,v,up,nx',h=>(Uz (show hOut (.Bb False (.ret v0 [] (nx+1)))=_ from h)).1.elim
 |.br b t e,p,v,up,nx',h=>by
  have h':cond b (hOut (WV nx t)) (hOut (WV nx e))=some (p,v,up,nx'):=h;show cond b (G2 t) (G2 e)=some (false,v)/\_;cases b with
  |true=>exact cW (ct:=t) h'
  |false=>exact cW (ct:=e) h'
 |.Bb q t,p,v,up,nx',h=>by obtain⟨x,r⟩:=Uz (show hOut (.Bb q (WV nx t))=_ from h);obtain⟨z,y⟩:=cW (ct:=t) r;exact⟨(As x).trans z,y⟩
theorem Aho {P:Program} {g:FuncId} {AN:Tr Ah->Al->Option Ct} (J:BC P g AN) {args:Al} {ct:Ct} {v:AV} (L:AN .leaf args=some ct) (B:G2 ct=some (false,v)) {W:World} {vs:List Value} (Az:AL (Q7 W) args vs): Calls P g vs.toArray W λe w'=>∃u x,e=.returned u/\VR x v u/\Below W.heap.size W w':=by
 have r:Rel ⟨W.tape,W.os,W.output,λb=>W.heap[b]?,λ_=>true⟩ (λb=>W.heap[b]?) 0 (Q7 W) (Tr.leaf:Tr Ah).get W:=⟨rfl,rfl,rfl,λb o hb=>hb,λi o b hi=>(by rw[Tr.Cy]at hi;cases hi),λi o b hi=>(by rw[Tr.Cy]at hi;cases hi),λi j o o' b Y hi=>(by rw[Tr.Cy]at hi;cases hi),λ_ _=>rfl,λi o hi=>(by rw[Tr.Cy]at hi;cases hi),λ_ _ h=>h,λ_ _ h=>h,λi o b hi=>(by rw[Tr.Cy]at hi;cases hi),λ_ _ _ _ _=>rfl⟩;have y:=J .leaf args ct L false v B ⟨W.tape,W.os,W.output,λb=>W.heap[b]?,λ_=>true⟩ _ _ W 0 .leaf (λg l h=>by rw[Tr.Cy]at h;cases h) r;have R:Calls P g vs.toArray W _:=callsIn_wide.1 (y.2 vs Az);refine R.mono λe w' U=>?_;obtain⟨u,x,he,_,z,hv⟩:=U;refine⟨u,x,he,hv,z.os,z.tape,z.output,?_,λk S=>?_⟩
 ·by_cases V:W.heap.size=0
  ·omega
  ·have K:W.heap.size-1<W.heap.size:=by omega
   have:=z.fr (W.heap.size-1) _ (Array.getElem?_eq_getElem K);have:=JV this;omega
 ·rw[Array.getElem?_eq_getElem S];exact z.fr k _ (Array.getElem?_eq_getElem S)
theorem AlM {E:Env} {F:Nat->Option Obj} {nx:Nat} {ρ:Ak} {h:Nat->Option Ah} {w w':World} (r:Rel E F nx ρ h w) (hb:RowKit.Below w.heap.size w w'):Rel E F (nx+1) ρ h w':=by
 have y:∀b o,w.heap[b]? =some o->w'.heap[b]? =some o:=λb o x=>by rw[hb.block b (JV x)];exact x
 exact⟨hb.tape.trans r.tape,hb.os.trans r.os,hb.output.trans r.output,λb o h=>y b o (r.fr b o h),λi o b hi h=>let ⟨c,B,z⟩:=r.ob i o b hi h;⟨c,y _ _ B,z⟩,r.dj,r.inj,λi hi=>r.new i (Nat.le_of_succ_le hi),r.gl,r.bs,λb o h=>y b o (r.st b o h),r.sd,r.sf⟩
theorem UA {P:Program} {g:FuncId} {AN:Tr Ah->Al->Option Ct} (z:BC P g AN):BH P g (SZ P AN):=by intro H nx args hc he p v up nx' V E F ρ w r;obtain⟨⟨s,x,fz,B⟩,Y,h1⟩:=Ai.1 he;obtain⟨ct,L,W⟩:=Ai.1 h1;injection W with W;subst W;obtain⟨⟨Z,K⟩,h3⟩:=Uz V;simp only at Z K;subst Z;obtain⟨ho,rfl,U,rfl,rfl⟩:=cW h3;obtain⟨y,_,S⟩:=sW r args x fz B Y;obtain⟨ab,J⟩:=Ku r y;refine⟨(z .leaf x ct L false v ho E F ρ w nx H (λg l h=>by rw[Tr.Cy]at h;cases h) r).1,λvs Az=>callsIn_wide.2 ?_⟩;have R:AL (Q7 w) x vs:=LM (ρ:=Cx ρ w B) (ρ2:=Q7 w) (Q6 λb o h=>J.st b o h) x x vs K (S B y (λ_ h=>h) vs Az);refine(Aho z L ho R).mono λe w' ⟨u,aa,he,hu,hb⟩=>?_;subst he;exact⟨u,ρ,rfl,⟨Ak.le_refl _,λ_ _=>rfl,Nat.le_succ _⟩,AlM r hb,ApM U hu⟩
def EK {α:Type} (kv:List (Int×α)) (n:Int):Option α:=match kv with
 | []=>none
 |p::kv=>if p.1=n then some p.2 else EK kv n
def JP (ik:IntKind) (kv:List (Int×AV)):Cn->Bool
 |.int n=>(EK kv n).isSome||decide (n=KV)||decide (n=N5 ik)
 |.str _=>false
def tJ (ik:IntKind):List Di->List (Int×AV)->Prop
 | [],l=>match l with
  | []=>True
  |_=>False
 |e::r,l=>match l with
  |p::kv=>e.key=.int ik p.1/\tJ ik r kv
  | []=>False
def xY (P:Program) (ik:IntKind) (kv:List (Int×AV)) (r:CR):Prop:=
 match r with
 |.mk (.map id) H _=>Bp (H.get id) λo=>match o with
  |.map es _=>tJ ik es kv/\Bp (Lc (Lb P H) (es.map Di.val)) λq=>Ap q.1 (AZ [] (kv.map Prod.snd) q.2.1)
  |_=>False
 |_=>False
theorem AaN {ρ ρ2:Ak} {ik:IntKind} {n:Int}:∀ {z:List Di} {l:List MapEntry} {kv:List (Int×AV)} (i:Nat),D3 ρ z l->tJ ik z kv->AL ρ2 (kv.map Prod.snd) (l.map MapEntry.val)->
  match EK kv n with
  |none=>Instr.findNow (.int ik) (.int ik n) l i=some none
  |some a=>∃j v,Instr.findNow (.int ik) (.int ik n) l i=some (some (j,v))/\VR ρ2 a v
 | [],_,[],i,.nil,_,_=>by simp[EK,Instr.findNow]
 | [],_,_::_,i,.nil,r,_=>r.elim
 |_::_,_,[],i,.cons _ _ _ _ _ _,r,_=>r.elim
 |e::z,_,p::kv,i,.cons _ m _ l W V,r,hv=>by
  obtain⟨S,R⟩:=r;have K:AL ρ2 (p.2::kv.map Prod.snd) (m.val::l.map MapEntry.val):=hv;cases K with
  |cons _ _ _ _ J B=>
  have y:m.key=.int ik p.1:=by have:=W.1;rw[S]at this;generalize m.key=x at this;cases this;rfl
  have U:=AaN (n:=n) (i+1) V R B;unfold EK;by_cases h:p.1=n
  ·rw[As h];exact⟨i,m.val,by simp[Instr.findNow,y,Instr.sameNow,h],J⟩
  ·rw[An h];have L:Instr.findNow (.int ik) (.int ik n) (m::l) i=Instr.findNow (.int ik) (.int ik n) l (i+1):=by
    have:(n==p.1)=false:=by simpa usingλe:n=p.1=>h e.symm
    simp only[Instr.findNow,y,Instr.sameNow,if_true,this]
   rw[L];exact U
theorem ApO {a b:IntKind} (h:N5 a=N5 b):a=b:=by cases a<;>cases b<;>first|rfl|(exact absurd h (by decide))
theorem ApP {a:IntKind}:N5 a≠KV:=by cases a<;>decide
theorem Aeu {a:IntKind}:KV<N5 a:=by cases a<;>decide
theorem Ahq {P:Program} {call:FuncId->Al->Tr Ah->Nat->KC->Prop} (Z:LQ P call) {g:FuncId} {ik:IntKind} {kv:List (Int×AV)} {val:Cn->AV} {z:AV} {gl:List (Nat×Ah)} {ng:Nat} (hz:∃zv,∀ρ,VR ρ z zv) (ar:∀n a,EK kv n=some a->val (.int n)=a) (V:∀n,EK kv n=none->Y6 z (val (.int n))) (ab:∀l,Y6 z (val (.str l))) (hs:∀n,KV<=n->EK kv n=none) (dc:∀k,Bi [] (val k) (val k)) {AN:Tr Ah->Al->Option Ct} (ai:∀H args ct,AN H args=some ct->args=[]/\(∀p∈gl,H.get p.1=some p.2)/\ct=.Bb True (.ret (.Fb (JP ik kv) val z))) (ag:call g [] (BU gl) ng (xY P ik kv)):BC P g AN:=by
 intro H args ct az p v ah E F ρ w nx H' hG r;obtain⟨rfl,hH,rfl⟩:=ai H args ct az;obtain⟨_,rfl,rfl⟩:=oy ah;have r0:Rel (FO E ρ) (λb=>w.heap[b]?) ng ⟨λ_=>none,ρ.st⟩ (BU gl).get w:=⟨r.tape,r.os,r.output,λ_ _ h=>h,λ_ _ _ _ h=>(by cases h),λ_ _ _ _ h=>(by cases h),λ_ _ _ _ _ _ _ _ h=>(by cases h),λ_ _=>rfl,λg l hg=>hG g l (hH _ (Nl hg)),λb o hb=>r.fr b o (r.bs b o hb),r.st,λ_ _ _ _ h=>(by cases h),λb o o' _ hs=>(by simp[FO];exactλe=>by rw[show ρ.st b=some o' from hs]at e;cases e)⟩;have AA:=Z g [] (BU gl) ng _ ag _ _ _ w r0;refine⟨AA.1,λvs Az=>CallsIn.mono (AA.2 vs (by cases Az;exact .nil)) λe w' he=>?_⟩;obtain⟨ao,K,aj⟩:=he;cases ao with
 |mk v' H1 n1=>
  obtain⟨u,J,rfl,hx,r1,hv⟩:=aj;cases v'<;>first|exact K.elim|skip
  rename_i id;obtain⟨o,ho,h1⟩:=BV (show Bp (H1.get id) _ from K);split at h1
  ·rename_i es ck;obtain⟨Y,h2⟩:=h1;obtain⟨⟨s,aA,fz,y⟩,R,h3⟩:=BV h2;obtain⟨ad,aa⟩:=EE.1 h3;simp only at ad aa;subst ad;obtain⟨ay,_,af⟩:=Ma (PR r1) _ _ _ _ R;have S:Fv H1 (id::y):=λi hi=>by
    rcases Dp.1 hi with rfl|hi
    ·exact⟨_,ho⟩
    ·exact ay i hi
   cases hv with
   |map _ b hb=>
   obtain⟨c,hc,aw⟩:=r1.ob _ _ b ho hb;cases aw with
   |map _ _ l hl=>
    have av:(Cx J w' (id::y)).st b.b=some (.map l.toArray ck):=(Ur (Dp.2 (.inl rfl)) hb).trans hc;obtain⟨zv,aq⟩:=hz;have ak:∀ {es:List Di} {l:List MapEntry},D3 J es l->AL J (es.map Di.val) (l.map MapEntry.val):=by
     intro es l h
     induction es generalizing l with
     |nil=>cases h;exact .nil
     |cons e es ih=>cases h with
      |cons _ m _ l h1 h2=>exact .cons _ _ _ _ h1.2.1 (ih h2)
    have W:AL (Cx J w' (id::y)) (kv.map Prod.snd) (l.map MapEntry.val):=LM (ρ:=Cx J w' (id::y)) (ρ2:=Cx J w' (id::y)) (Q6 λ_ _ h=>h) _ _ _ aa (af _ S (λi hi=>Dp.2 (.inr hi)) _ (ak hl));have key:=λn=>AaN (n:=n) 0 hl Y W;have au:VR (Cx J w' (id::y)) (.Fb (JP ik kv) val z) (.map (some b.b)):=by
     have ae:∀kd (k:Cn) u,KR kd k u->PY (JP ik kv) kd k->∃n,kd=.int ik/\k=.int n/\u=.int ik n/\n<KV:=λkd k u U L=>by
      cases U with
      |str l=>have:JP ik kv (.int KV)=false:=L;simp[JP]at this
      |int q n=>
       obtain⟨B,h6⟩:JP ik kv (.int (N5 q))=true/\n<KV:=L;have h7:N5 q=N5 ik:=by
        simp only[JP,Bool.or_eq_true,Bn]at B;rcases B with(B|B)|B
        ·rw[hs _ (Int.le_of_lt Aeu)]at B;cases B
        ·exact absurd B ApP
        ·exact B
       have:=ApO h7;subst this;exact⟨n,rfl,rfl,rfl,h6⟩
     refine .Fb _ val z b.b l.toArray ck (λk=>match k with
      |.int n=>(match EK kv n with
       |some _=>(match Instr.findNow (.int ik) (.int ik n) l 0 with
        |some (some (_,v))=>v
        |_=>zv)
       |none=>zv)
      |.str _=>zv) av (λkd k u U L R=>?_) (λkd k u U L R=>?_) (λk R=>?_) λk U=>?_
     ·obtain⟨n,rfl,rfl,rfl,hn⟩:=ae kd k u U L;have B:=key n;cases x:EK kv n with
      |none=>rw[x]at B;exact B
      |some a=>simp[JP,x]at R
     ·obtain⟨n,rfl,rfl,rfl,hn⟩:=ae kd k u U L;have B:=key n;cases x:EK kv n with
      |none=>have h6:=Aeu (a:=ik);simp only[JP,x,Option.isSome_none,Bool.false_or,Bool.or_eq_true,Bn]at R;omega
      |some a=>rw[x]at B;obtain⟨j,v,h6,_⟩:=B;refine⟨j,?_⟩;simp only[x,h6]
     ·cases k with
      |str l=>exact ab l
      |int n=>
       refine V n ?_;cases x:EK kv n with
       |none=>rfl
       |some a=>simp[JP,x]at R
     ·cases k with
      |str l=>cases U
      |int n=>
       have B:=key n;cases x:EK kv n with
       |none=>simp only[x];exact AfD (V n x) (aq _)
       |some a=>rw[x]at B;obtain⟨j,v,h6,h7⟩:=B;simp only[x,h6,ar n a x];exact h7
    obtain⟨an,g1,g2,g3⟩:=Aij r hx.le.st r1 S au (by rw[Bi];exact⟨λ_=>rfl,dc,λk R=>by
     cases k with
     |str l=>exact ab l
     |int n=>
      refine V n ?_;cases x:EK kv n with
      |none=>rfl
      |some a=>simp[JP,x]at R⟩)
    exact⟨_,an,rfl,g1,g2,g3⟩
  ·exact h1.elim
 |AG _ _ _=>exact K.elim
 |Cf _ _ _ _=>exact K.elim
end Go.Ev
end
section
namespace Go.Ev
open Go.RowKit
def I0 (r:Nat->Nat) (k:Nat):AV->AV:=Nat.rec (motive:=λ_=>AV->AV) (λa=>a) (λ_ x a=>match a with
  |.ptr i o=>.ptr (r i) o
  |.sl i a b c=>.sl (r i) a b c
  |.BK i a b c=>.BK (r i) a b c
  |.sle i=>.sle (r i)
  |.map i=>.map (r i)
  |.AR i n e=>.AR (r i) n e
  |.fn f l m=>.fn f (l.map x) (m.map x)
  |.iface t v=>.iface t (x v)
  |.agg l=>.agg (l.map x)
  |.AM l=>.AM (l.map x)
  |a=>a) k
def M1 (k:Nat):AV->Prop:=Nat.rec (motive:=λ_=>AV->Prop) (λ_=>False) (λ_ r a=>match a with
  |.ptr _ _=>True
  |.sl _ _ _ _=>True
  |.BK _ _ _ _=>True
  |.sle _=>True
  |.map _=>True
  |.AR _ _ _=>True
  |.fn _ l m=>(∀a∈l,r a)/\∀a∈m,r a
  |.iface _ v=>r v
  |.agg l=>∀a∈l,r a
  |.AM l=>∀a∈l,r a
  |a=>Bi [] a a) k
theorem YY {r ρ2:Ak} {f:AV->AV}:∀ {l:Al} {vs:List Value},(∀a∈l,∀v,VR r a v->VR ρ2 (f a) v)->AL r l vs->AL ρ2 (l.map f) vs
 | [],_,_,.nil=>.nil
 |a::l,_,h,.cons _ v _ vs y x=>.cons _ _ _ _ (h a (EG ..) v y) (YY (l:=l) (λb hb=>h b (EF _ hb)) x)
theorem ve {J ρ2:Ak} {S:Nat->Nat} (r:∀i b,J i=some b->ρ2 (S i)=some b) (L:∀b o,J.st b=some o->ρ2.st b=some o):∀(k:Nat) (a:AV) (v:Value),M1 k a->VR J a v->VR ρ2 (I0 S k a) v
 |0,a,v,h,_=>h.elim
 |k+1,a,v,hc,h=>by
  have K:=ve r L k;have R:Bi [] a a->I0 S (k+1) a=a->VR ρ2 (I0 S (k+1) a) v:=λW V=>by rw[V];exact Kf (Q6 L) _ _ _ W h
  cases a with
  |ptr i o=>cases h with|ptr _ _ b hb=>exact .ptr _ _ b (r _ _ hb)
  |sl i x y z=>cases h with|sl _ _ _ _ b hb=>exact .sl _ _ _ _ b (r _ _ hb)
  |BK i x y z=>cases h with|BK _ _ _ _ b hb U hl=>exact .BK _ _ _ _ b (r _ _ hb) U hl
  |sle i=>cases h with|sle _ b o c hb=>exact .sle _ b o c (r _ _ hb)
  |map i=>cases h with|map _ b hb=>exact .map _ b (r _ _ hb)
  |AR i n e=>
   cases h with
   |AR _ _ _ b hb U hl=>exact .AR _ _ _ b (r _ _ hb) U hl
   |GQ _ _ _ hn base=>exact .GQ _ _ _ hn base
  |fn f l m=>
   obtain⟨W,V⟩:=hc;cases h with
   |fn _ _ _ va Z B Y=>exact .fn f _ _ va Z (YY (λa B v hv=>K a v (W a B) hv) B) (YY (λa B v hv=>K a v (V a B) hv) Y)
  |iface t x=>cases h with|iface _ _ u hu=>exact .iface t _ u (K x u hc hu)
  |agg l=>cases h with|agg _ vs Az=>exact .agg _ vs (YY (λa B v hv=>K a v (hc a B) hv) Az)
  |AM l=>cases h with|AM _ vs Az=>exact .AM _ vs (YY (λa B v hv=>K a v (hc a B) hv) Az)
  |_=>exact R hc rfl
def Ge (r:Nat->Nat) (o:Ah):Ah:=match o with
 |.cells el .leaf (.Dv l) n op=>.cells el .leaf (.Dv (l.map (I0 r 4))) n op
 |o=>o
def M3 (o:Ah):Prop:=match o with
 |.cells _ .leaf (.Dv l) _ _=>∀a∈l,M1 4 a
 |.cells _ .leaf (.rows e f) n _=>∀i,i*e<n->AZ [] (f i) (f i)
 |.Ih _ _ _ _=>True
 |_=>False
theorem Al2 {B ρ2:Ak} {S:Nat->Nat} (Y:∀i b,B i=some b->ρ2 (S i)=some b) (R:∀b o,B.st b=some o->ρ2.st b=some o) {b:CD} {a:Ah} {o:Obj} (hg:Jg a=false) (hc:M3 a) (h:OR B b a o):OR ρ2 b (Ge S a) o:=by
 unfold M3 at hc;split at hc
 ·rename_i el l n op;cases h with
  |cells _ _ _ _ _ cs fz DT hn J K r=>refine .cells _ _ _ _ _ cs fz DT hn J K λk a U L=>?_;rw[G1]at L;have y:(l.map (I0 S 4))[k %(l.map (I0 S 4)).length]? =some a:=L;rw[HJ,I8,Option.map_eq_some_iff]at y;obtain⟨x,hx,rfl⟩:=y;obtain⟨v,W,V⟩:=r k x U (by rw[G1];exact hx);exact⟨v,W,ve Y R 4 x v (hc x (List.mem_of_getElem? hx)) V⟩
 ·rename_i el e f n op;cases h with
  |cells _ _ _ _ _ cs fz DT hn J K r=>refine .cells _ _ _ _ _ cs fz DT hn J K λk a U L=>?_;obtain⟨v,W,V⟩:=r k a U L;rw[G1]at L;have y:(f (k/e))[k %e]? =some a:=L;have Z:k/e*e<n:=Nat.lt_of_le_of_lt (Nat.div_mul_le_self k e) U;obtain⟨b',z,hm⟩:=we (hc _ Z) _ _ y;rw[y]at z;injection z with z;subst z;exact⟨v,W,Kf (Q6 R) _ _ _ hm V⟩
 ·cases hg
 ·exact hc.elim
def B2 (l:List Ah):Nat->List (Nat×Ah):=List.rec (motive:=λ_=>Nat->List (Nat×Ah)) (λ_=>[]) (λo _ r n=>(n,o)::fN (n+1) r) l
theorem tt (o:Ah) (l:List Ah) (n:Nat):B2 (o::l) n=(n,o)::B2 l (n+1):=by show(n,o)::fN (n+1) (B2 l)=_;rw[Bv]
theorem AcO:∀ {l:List Ah} {n i:Nat} {o:Ah},(i,o)∈B2 l n->∃j,i=n+j/\l[j]? =some o
 | [],n,i,o,h=>by cases h
 |x::l,n,i,o,h=>by
  rw[tt]at h;rcases Dp.1 h with h|h
  ·injection h with y r;exact⟨0,y,by rw[r];rfl⟩
  ·obtain⟨j,y,r⟩:=AcO h;exact⟨j+1,by omega,r⟩
theorem AcN:∀(l:List Ah) (n j:Nat),(BU (B2 l n)).get (n+j)=l[j]?
 | [],n,j=>by show(Tr.leaf:Tr Ah).get _=_;rw[Tr.Cy];rfl
 |o::l,n,j=>by
  rw[tt];show((BU (B2 l (n+1))).set n o).get (n+j)=_;rw[Tr.Gm];cases j with
  |zero=>rw[As (by omega)];rfl
  |succ j=>rw[An (by omega),show n+(j+1)=(n+1)+j by omega,AcN l (n+1) j];rfl
def RU (l:List (Nat×Ah)):List (Nat×Ah):=List.rec (motive:=λ_=>List (Nat×Ah)) [] (λp _ r=>cond (Jg p.2) r (p::r)) l
theorem RV:∀(l:List Ah) (n j:Nat) {o:Ah},l[j]? =some o->Jg o=false->(BU (RU (B2 l n))).get (n+j)=some o
 | [],n,j,o,h,_=>by cases h
 |x::l,n,j,o,h,y=>by
  rw[tt];show(BU (cond (Jg x) (RU (B2 l (n+1))) ((n,x)::RU (B2 l (n+1))))).get (n+j)=_;cases j with
  |zero=>injection h with h;subst h;rw[y,cond_false];exact Tr.PS _ _ _
  |succ j=>
   have r:=RV l (n+1) j (o:=o) h y;rw[show n+1+j=n+(j+1) by omega]at r;cases z:Jg x with
   |true=>rw[cond_true];exact r
   |false=>rw[cond_false];show((BU (RU (B2 l (n+1)))).set n x).get (n+(j+1))=_;rw[Tr.Uv _ (by omega)];exact r
def C3 (r:List Nat):Nat->List (Nat×Nat):=List.rec (motive:=λ_=>Nat->List (Nat×Nat)) (λ_=>[]) (λi _ x n=>(n,i)::fN (n+1) x) r
theorem AfF (i:Nat) (l:List Nat) (n:Nat):C3 (i::l) n=(n,i)::C3 l (n+1):=by show(n,i)::fN (n+1) (C3 l)=_;rw[Bv]
theorem Tk:∀(r:List Nat) (n c:Nat),sg (C3 r n) c=if n<=c then r[c-n]? else none
 | [],n,c=>by show none=_;split<;>simp
 |i::l,n,c=>by
  rw[AfF];show cond (Nat.beq n c) (some i) (sg (C3 l (n+1)) c)=_;cases hb:Nat.beq n c with
  |true=>have:=D4 hb;subst this;simp
  |false=>
   have y:n≠c:=λe=>by subst e;rw[Nat.beq_refl]at hb;cases hb
   rw[cond_false,Tk l (n+1) c];by_cases x:n<=c
   ·rw[As (by omega),As x,show c-n=(c-(n+1))+1 by omega];rfl
   ·rw[An (by omega),An x]
theorem QW {H:Tr Ah}:∀ {l:List (Nat×Ah)} {i:Nat} {o:Ah},(Fm l H).get i=some o->((i,o)∈l/\Jg o=false)\/((∀o',(i,o')∉l)/\H.get i=some o)
 | [],i,o,h=>.inr ⟨λ_ h=>(by cases h),h⟩
 |p::l,i,o,h=>by
  have h':(cond (Jg p.2) ((Fm l H).del p.1) ((Fm l H).set p.1 p.2)).get i=some o:=h;by_cases hi:p.1=i
  ·cases r:Jg p.2 with
   |true=>rw[r,cond_true,Tr.JN,As hi]at h';cases h'
   |false=>rw[r,cond_false,Tr.Gm,As hi]at h';injection h' with h';exact .inl ⟨by rw[<-hi,<-h'];exact EG ..,by rw[<-h'];exact r⟩
  ·have h':(Fm l H).get i=some o:=by
    cases r:Jg p.2 with
    |true=>rw[r,cond_true,Tr.JN,An hi]at h';exact h'
    |false=>rw[r,cond_false,Tr.Gm,An hi]at h';exact h'
   rcases QW h' with⟨y,B⟩|⟨y,z⟩
   ·exact .inl ⟨EF _ y,B⟩
   ·exact .inr ⟨λo' x=>by
     rcases Dp.1 x with e|x
     ·exact hi (by rw[<-e])
     ·exact y o' x,z⟩
def DP (ng:Nat) (r:List Nat) (c:Nat):Nat:=cond (Nat.ble ng c) (r.getD (c-ng) c) c
open Classical in
def Oy (ρ:Ak) (w:World) (x:List Nat):Nat->Option Obj:=λb=>if∃id∈x,∃r,ρ id=some r/\r.b=b then none else w.heap[b]?
theorem Aiq (r:Nat->Nat) (o:Ah):Jg (Ge r o)=Jg o:=by unfold Ge;split<;>rfl
theorem Ajf {E:Env} {F:Nat->Option Obj} {nx:Nat} {ρ:Ak} {H:Tr Ah} {w w':World} (r:Rel E F nx ρ H.get w) {y:List Nat} (ai:∀id∈y,∃o,H.get id=some o) (aO:∀id∈y,id<nx) {ng m:Nat} {os:List Ah} (aS:os.length=y.length+m) (aG:∀o∈os,M3 o) {S:Ak} (r3:Rel (FO E ρ) (Oy ρ w y) (ng+y.length+m) S (BU (RU (B2 os ng))).get w') (aL:∀b o,ρ.st b=some o->S.st b=some o) (aB:∀i,i<ng+y.length->S i=MH (C3 y ng) ρ i): ∃L,RX nx (nx+m) ρ L/\Rel E F (nx+m) L (Fm ((y++List.range' nx m).zip (os.map (Ge (DP ng (y++List.range' nx m))))) H).get w'/\ (∀i b,S i=some b->L (DP ng (y++List.range' nx m) i)=some b)/\∀b o,S.st b=some o->L.st b=some o:=by
 have aj:(y++List.range' nx m).length=y.length+m:=by simp
 have an:∀j,j<y.length->(y++List.range' nx m)[j]? =y[j]?:=λj hj=>by rw[List.getElem?_append_left hj]
 have ak:∀j,y.length<=j->j<y.length+m->(y++List.range' nx m)[j]? =some (nx+(j-y.length)):=λj K J=>by rw[List.getElem?_append_right K,List.getElem?_range' (by omega)];simp
 generalize hT:y++List.range' nx m=R at aj an ak;let L:Ak:=⟨λj=>if nx<=j/\j<nx+m then S (ng+y.length+(j-nx))else ρ j,S.st⟩;have aI:∀j,nx<=j->j<nx+m->L j=S (ng+y.length+(j-nx)):=λj K J=>As ⟨K,J⟩;have aa:∀j,¬(nx<=j/\j<nx+m)->L j=ρ j:=λj h=>An h;have aM:∀j,j<y.length->MH (C3 y ng) ρ (ng+j)=(y[j]?).bind ρ.nm:=λj hj=>by show(sg (C3 y ng) (ng+j)).bind ρ.nm=_;rw[Tk,As (by omega),Nat.add_sub_cancel_left]
 have z:∀j t,R[j]? =some t->L t=S (ng+j)/\(j<y.length->t∈y):=λj t ht=>by
  have hj:j<y.length+m:=by rw[<-aj];exact(Ix.1 ht).1
  by_cases K:j<y.length
  ·rw[an j K]at ht;have hm:=List.mem_of_getElem? ht;have:=aO t hm;refine⟨?_,λ_=>hm⟩;rw[aa t (by omega),aB (ng+j) (by omega),aM j K,ht];rfl
  ·rw[ak j (by omega) hj]at ht;injection ht with ht;subst ht;refine⟨?_,λh=>absurd h K⟩;rw[aI _ (by omega) (by omega)];congr 1;omega
 have aA:∀i b,S i=some b->L (DP ng R i)=some b:=λi b hb=>by
  have aT:i<ng+y.length+m:=by
   rcases D9 i (ng+y.length+m)with h|h
   ·exact h
   ·rw[r3.new i h]at hb;cases hb
  have ar:ng<=i:=by
   rcases D9 i ng with h|h
   ·rw[aB i (by omega)]at hb;have aH:(sg (C3 y ng) i).bind ρ.nm=some b:=hb;rw[Tk,An (by omega)]at aH;cases aH
   ·exact h
  obtain⟨j,rfl⟩:∃j,i=ng+j:=⟨i-ng,by omega⟩;have aP:j<R.length:=by rw[aj];omega
  have ht:R[j]? =some R[j]:=Ce aP;have:DP ng R (ng+j)=R[j]:=by unfold DP;rw[show Nat.ble ng (ng+j)=true from E5 (by omega),cond_true,Nat.add_sub_cancel_left,Bt,ht];rfl
  rw[this,(z j _ ht).1];exact hb
 have aC:ρ.le L:=⟨λi b hb=>by
  have:i<nx:=by
   rcases D9 i nx with h|h
   ·exact h
   ·rw[r.new i h]at hb;cases hb
  rw[aa i (by omega)];exact hb,aL⟩
 have ab:∀i o,(i,o)∈R.zip (os.map (Ge (DP ng R)))->Jg o=false->∃j o0,R[j]? =some i/\os[j]? =some o0/\o=Ge (DP ng R) o0/\Jg o0=false:=λi o hm aE=>by
  obtain⟨j,hj,he⟩:=List.getElem_of_mem hm;rw[List.getElem_zip]at he;injection he with K J;simp only[List.length_zip,HJ]at hj;have W:o=Ge (DP ng R) (os[j]'(by omega)):=by rw[<-J,List.getElem_map]
  exact⟨j,os[j]'(by omega),by rw[<-K];exact Ce _,Ce _,W,by rw[W,Aiq]at aE;exact aE⟩
 have aD:∀j t,R[j]? =some t->∃o,(t,o)∈R.zip (os.map (Ge (DP ng R))):=λj t ht=>by
  have hj:=(Ix.1 ht);obtain⟨K,J⟩:=hj;have Y:j<(R.zip (os.map (Ge (DP ng R)))).length:=by simp;omega
  refine⟨(os.map (Ge (DP ng R)))[j]'(by simp;omega),?_⟩;have:=List.getElem_mem Y;rw[List.getElem_zip,J]at this;exact this
 have ay:∀t,t∈y->∃j:Nat,R[j]? =some t:=λt ht=>by obtain⟨j,hj,he⟩:=List.getElem_of_mem ht;exact⟨j,by rw[an j hj,Ce hj,he]⟩
 have B:∀i o b,(∀o',(i,o')∉R.zip (os.map (Ge (DP ng R))))->H.get i=some o->L i=some b->ρ i=some b/\Oy ρ w y b.b=w.heap[b.b]?:=λi o b K J Y=>by
  have aN:¬(nx<=i/\i<nx+m):=λ⟨W,Z⟩=>by obtain⟨o',aq⟩:=aD (y.length+(i-nx)) i (by rw[ak _ (by omega) (by omega)];congr 1;omega);exact K o' aq
  rw[aa i aN]at Y;refine⟨Y,An ?_⟩;rintro⟨id,ag,aw,W,Z⟩;obtain⟨o2,ao⟩:=ai id ag;have:=r.inj id i o2 o aw b ao J W Y Z;subst this;obtain⟨j,hj⟩:=ay id ag;obtain⟨o',aq⟩:=aD j id hj;exact K o' aq
 have hF:∀b o,F b=some o->Oy ρ w y b=some o:=λb o hb=>by
  show(if _ then _ else _)=_;rw[An]
  ·exact r.fr b o hb
  ·rintro⟨id,ag,aw,W,Z⟩;obtain⟨o2,ao⟩:=ai id ag;have:=r.dj id o2 aw ao W;rw[Z,hb]at this;cases this
 have aF:∀b o o',Oy ρ w y b=some o->S.st b=some o'->∃ad,ρ.st b=some ad:=λb o o' K J=>by
  have:=r3.sf b o o' K J;simp only[FO,Bn,ne_eq]at this;cases hs:ρ.st b with
  |none=>exact absurd hs this
  |some ad=>exact⟨ad,rfl⟩
 refine⟨L,⟨aC,λi hi=>aa i (by omega),Nat.le_add_right _ _⟩,⟨r3.tape,r3.os,r3.output,λb o hb=>r3.fr b o (hF b o hb),λi o b hi hb=>?_,λi o b hi hb=>?_,λi i2 o o2 b b2 hi ar hb ae e=>?_,λi hi=>?_,λg l hg=>?_,r.bs,r3.st,λi o b hi hb=>?_,λb o o' K J=>?_⟩,aA,λ_ _ h=>h⟩
 ·rcases QW hi with⟨h,U⟩|⟨K,J⟩
  ·obtain⟨j,o0,Y,W,rfl,V⟩:=ab i o h U;obtain⟨c,Z,h6⟩:=r3.ob (ng+j) o0 b (RV os ng j W V) (by rw[<-(z j i Y).1];exact hb);exact⟨c,Z,Al2 aA (λ_ _ h=>h) V (aG o0 (List.mem_of_getElem? W)) h6⟩
  ·obtain⟨Y,W⟩:=B i o b K J hb;obtain⟨c,Z,h6⟩:=r.ob i o b J Y;exact⟨c,r3.fr _ _ (W.trans Z),h6.mono aC⟩
 ·rcases QW hi with⟨h,U⟩|⟨K,J⟩
  ·obtain⟨j,o0,Y,W,rfl,V⟩:=ab i o h U;have Z:=r3.dj (ng+j) o0 b (RV os ng j W V) (by rw[<-(z j i Y).1];exact hb);cases aQ:F b.b with
   |none=>rfl
   |some x=>rw[hF _ _ aQ]at Z;cases Z
  ·exact r.dj i o b J (B i o b K J hb).1
 ·have az:∀i i2 o o2 b b2,(i,o)∈R.zip (os.map (Ge (DP ng R)))->Jg o=false->(∀o',(i2,o')∉R.zip (os.map (Ge (DP ng R))))->H.get i2=some o2->L i=some b->L i2=some b2->b.b=b2.b->False:=λi i2 o o2 b b2 h U K J hb ae e=>by obtain⟨j,o0,Y,W,rfl,V⟩:=ab i o h U;have Z:=r3.dj (ng+j) o0 b (RV os ng j W V) (by rw[<-(z j i Y).1];exact hb);obtain⟨h6,h7⟩:=B i2 o2 b2 K J ae;obtain⟨c,h8,_⟩:=r.ob i2 o2 b2 J h6;rw[e,h7,h8]at Z;cases Z
  rcases QW hi with⟨h,U⟩|⟨K,J⟩
  ·rcases QW ar with⟨h',af⟩|⟨av,ah⟩
   ·obtain⟨j,o0,Y,W,_,V⟩:=ab i o h U;obtain⟨j',aK,au,aR,_,aJ⟩:=ab i2 o2 h' af;have:=r3.inj (ng+j) (ng+j') o0 aK b b2 (RV os ng j W V) (RV os ng j' aR aJ) (by rw[<-(z j i Y).1];exact hb) (by rw[<-(z j' i2 au).1];exact ae) e;have:j=j':=by omega
    subst this;rw[Y]at au;injection au
   ·exact(az i i2 o o2 b b2 h U av ah hb ae e).elim
  ·rcases QW ar with⟨h',af⟩|⟨av,ah⟩
   ·exact(az i2 i o2 o b2 b h' af K J ae hb e.symm).elim
   ·exact r.inj i i2 o o2 b b2 J ah (B i o b K J hb).1 (B i2 o2 b2 av ah ae).1 e
 ·rw[aa i (by omega)];exact r.new i (by omega)
 ·rcases QW hg with⟨h,U⟩|⟨K,J⟩
  ·obtain⟨j,o0,Y,W,Z,V⟩:=ab g _ h U;have hc:=aG o0 (List.mem_of_getElem? W);unfold M3 at hc;split at hc
   ·cases Z
   ·cases Z
   ·cases V
   ·exact hc.elim
  ·exact r.gl g l J
 ·rcases QW hi with⟨h,U⟩|⟨K,J⟩
  ·obtain⟨j,o0,Y,W,rfl,V⟩:=ab i o h U;exact r3.sd (ng+j) o0 b (RV os ng j W V) (by rw[<-(z j i Y).1];exact hb)
  ·obtain⟨Y,W⟩:=B i o b K J hb;obtain⟨c,Z,_⟩:=r.ob i o b J Y;cases hs:S.st b.b with
   |none=>rfl
   |some o'=>obtain⟨ad,h6⟩:=aF b.b c o' (W.trans Z) hs;rw[r.sd i o b J Y]at h6;cases h6
 ·obtain⟨ad,Y⟩:=aF b o o' (hF b o K) J;exact r.sf b o ad K Y
inductive HO:Type 1 where
 |ret (v:AV) (os:List Ah) (m:Nat)
 |AG (v:AV) (os:List Ah) (m:Nat)
 |br (b:Bool) (t e:HO)
 |gen {α:Type} (a:α) (f:α->HO)
structure GY where
 X:Type
 gl:List (Nat×Ah)
 N4:Tr Ah->Bool
 ng:Nat
 k:Nat
 args:X->List AV
 Ff:X->List Ah
 pre:X->Prop
 out:X->HO
 fz:Nat
 find:Tr Ah->List AV->Option (X×List Nat)
def Mh (r:List (Nat×Nat)) (H:Tr Ah) (l:List (Nat×Ah)):Prop:=List.rec (motive:=λ_=>Prop) True (λp _ x=>(match sg r p.1 with
  |none=>False
  |some j=>match H.get j with
   |none=>False
   |some o=>Kz r p.2 o)/\x) l
theorem Acd {r:List (Nat×Nat)} {H:Tr Ah}:∀ {l:List (Nat×Ah)},Mh r H l->∀p∈l,∃j o,sg r p.1=some j/\H.get j=some o/\Kz r p.2 o
 | [],_,p,x=>by cases x
 |q::l,h,p,x=>by
  have h':(match sg r q.1 with
   |none=>False
   |some j=>match H.get j with
    |none=>False
    |some o=>Kz r q.2 o)/\Mh r H l:=h
  rcases Dp.1 x with rfl|x
  ·have y:=h'.1;split at y
   ·exact y.elim
   ·rename_i j B;split at y
    ·exact y.elim
    ·rename_i o z;exact⟨j,o,B,z,y⟩
  ·exact Acd h'.2 p x
def Ol (nx:Nat) (r:List Nat):Bool:=r.all λi=>Nat.blt i nx
def K9.{u} {r:Type u} (n:Nat) (k:Nat->r):r:=Nat.rec (motive:=λ_=>r) (k 0) (λm _=>k (m+1)) n
theorem Ou.{u} {r:Type u} (n:Nat) (k:Nat->r):K9 n k=k n:=by cases n<;>rfl
def Nk (ng:Nat) (x:List Nat) (nx:Nat) (o:HO):Eg:=HO.rec (motive:=λ_=>Eg) (λv os m=>K9 (nx+m) λn=>(λr=>Eg.ret (I0 (DP ng r) 4 v) (r.zip (os.map (Ge (DP ng r)))) n) (x++List.range' nx m)) (λv os m=>K9 (nx+m) λn=>(λr=>Eg.AG (I0 (DP ng r) 4 v) (r.zip (os.map (Ge (DP ng r)))) n) (x++List.range' nx m)) (λb _ _ y B=>.br b y B) (λa _ z=>.gen a z) o
def GY.AN (S:GY):Ft:=λH nx args=>cond (S.N4 H) (ob (S.find H args) λp=>cond (Nat.beq p.2.length S.k) (some (.Bb (S.pre p.1/\Mj p.2=true/\Ol nx p.2=true/\AZ (C3 p.2 S.ng) (S.args p.1) args/\Mh (C3 p.2 S.ng) H (B2 (S.Ff p.1) S.ng)) (Nk S.ng p.2 nx (S.out p.1)))) none) none
theorem Al9 {E:Env} {F:Nat->Option Obj} {nx:Nat} {ρ:Ak} {w:World} {H:Tr Ah} (r:Rel E F nx ρ H.get w) {z:List Nat} (hi:Fv H z) {id el n Ax N:Nat} {f:Nat->Al} {op:Bool} {h':Al} (V:id∈z) (ho:H.get id=some (.cells el .leaf (.rows Ax f) N op)) (hN:n*Ax<=N) (L:B1 Ax n f=true) (hh:∀vs,AL ρ (f 0) vs->AL (Cx ρ w z) h' vs) {v:Value} (hv:VR ρ (.AR id n Ax) v): VR (Cx ρ w z) (.vec Ax n λi=>cond (Nat.beq i 0) h' (f i)) v:=by
 have U:=(Ku r hi).1.le;cases hv with
 |GQ _ _ _ hn _=>exact .GR _ _ _ hn _ _
 |AR _ _ _ b hb Y hl=>
  obtain⟨c,hc,S⟩:=r.ob _ _ b ho hb;cases S with
  |cells _ _ _ _ _ cs fz DT hn aa ad B=>
   have R:(Cx ρ w z).st b.b=some (.cells cs el fz):=(Ur V hb).trans hc;have K:n<=b.cap/Ax:=by rw[Nat.le_div_iff_mul_le Y];exact hl
   unfold B1 at L;simp only[Bn]at L;have y:∀i,∃vs,i<n->AL ρ (f i) vs/\∀j v,vs[j]? =some v->cs[b.ob+i*Ax+j]? =some v:=λi=>by
    by_cases x:i<n
    ·have Z:=L i x;unfold QP at Z;obtain⟨h2,_⟩:=BG Z;rw[A0]at h2;have hm:(i+1)*Ax<=n*Ax:=Nat.mul_le_mul_right _ x;rw[Nat.succ_mul]at hm;obtain⟨vs,h3,h4⟩:=AL.UX (ρ:=ρ) (l:=f i) (λj v=>cs[b.ob+i*Ax+j]? =some v) λj a W=>by have ab:=(Ix.1 W).1;obtain⟨v,hv,hr⟩:=B (i*Ax+j) a (by omega) (by rw[G1,QU (i:=i) (j:=j) (by omega) _ rfl];exact W);exact⟨v,by rw[Fu];exact hv,hr⟩
     exact⟨vs,λ_=>⟨h3,h4⟩⟩
    ·exact⟨[],λh=>absurd h x⟩
   refine .vec _ _ _ b.b b.ob _ cs el fz (λi=>Classical.choose (y i)) R Y K (λi x=>?_) (λi x=>(LU (y i) x).2);cases J:Nat.beq i 0 with
   |true=>rw[A0]at J;subst J;exact hh _ (LU (y 0) x).1
   |false=>exact(LU (y i) x).1.mono U
def sV (P:Program) (H:Tr Ah) (v:AV):FR:=match v with
 |.AR id n Ax=>ob (H.get id) λo=>match o with
  |.cells _ c z N _=>match c,z with
   |.leaf,.rows e f=>gd (Nat.beq e Ax) (ob (Lc (Lb P H) (f 0)) λr=>some (cond r.1 (cond (Nat.ble (n*Ax) N) (B1 Ax n f) false) false,.vec Ax n (λi=>cond (Nat.beq i 0) r.2.1 (f i)),[],id::r.2.2.2))
   |_,_=>none
  |_=>none
 |_=>Lb P H v
theorem Aig {P:Program} {E:Env} {F:Nat->Option Obj} {nx:Nat} {ρ:Ak} {w:World} {H:Tr Ah} (r:Rel E F nx ρ H.get w) {v R:AV} {z:List FZ} {y:List Nat} (h:sV P H v=some (true,R,z,y)) {u:Value} (hv:VR ρ v u): Fv H y/\VR (Cx ρ w y) R u:=by
 unfold sV at h;split at h
 ·rename_i id n Ax;obtain⟨o,S,J⟩:=Ai.1 h;split at J
  ·rename_i el c z0 N op;split at J
   ·rename_i e f;obtain⟨U,h2⟩:=AQ.1 J;rw[A0]at U;subst U;obtain⟨⟨b,h',fz,K⟩,Z,B⟩:=Ai.1 h2;injection B with B;injection B with Y B;injection B with W B;injection B with e3 V;simp only at Y W V;obtain⟨e5,e6⟩:=BG Y;obtain⟨e7,e8⟩:=BG e6;subst e5;subst W;subst V;obtain⟨g1,_,g3⟩:=Ma (PR r) _ _ _ _ Z;have x:Fv H (id::K):=λi hi=>by
     rcases Dp.1 hi with rfl|hi
     ·exact⟨_,S⟩
     ·exact g1 i hi
    exact⟨x,Al9 r x (EG ..) S (Nat.le_of_ble_eq_true e7) e8 (λvs Az=>g3 _ x (λi hi=>EF _ hi) vs Az) hv⟩
   ·cases J
  ·cases J
 ·obtain⟨x,_,L⟩:=PR r _ _ _ _ h;exact⟨x,L y x (λ_ h=>h) u hv⟩
def sZ (fz:Nat) (P:Program) (H:Tr Ah) (v:AV):FR:=match fz with
 |0=>some (true,v,[],[])
 |1=>Lb P H v
 |_=>sV P H v
def tQ (P:Program) (fz:Nat) (nk:Nat) (r:AV) (os:List Ah) (m ng:Nat) (v:AV) (H:Tr Ah) (n:Nat):Prop:=Bp (sZ fz P H v) λq=>Ap q.1 (fN (nk+m) λx=>S7 nk 1 x [(0,r)] (RU (B2 os ng)) ⟨1,Tr.leaf.set 0 q.2.1,Dz H q.2.2.2,n,none,[]⟩)
def E9 (P:Program) (fz:Nat) (ng nk:Nat) (o:HO):KC:=HO.rec (motive:=λ_=>KC) (λx os m r=>match r with
   |.mk v H n=>tQ P fz nk x os m ng v H n
   |_=>False)
  (λx os m r=>match r with
   |.AG v H n=>tQ P fz nk x os m ng v H n
   |_=>False)
  (λb _ _ y B r=>Ag b (y r) (B r)) (λa _ z r=>z a r) o
def PE (k:Nat):HO->Prop
 |.ret v os m=>M1 4 v/\os.length=k+m/\∀o∈os,M3 o
 |.AG v os m=>M1 4 v/\os.length=k+m/\∀o∈os,M3 o
 |.br b t e=>(b=true->PE k t)/\(b=false->PE k e)
 |.gen a f=>PE k (f a)
theorem dk {P:Program} {fz:Nat} {ng nk k nx:Nat} {x:List Nat}:∀ {o:HO} {p:Bool} {v:AV} {up:List (Nat×Ah)} {nx':Nat},hOut (Nk ng x nx o)=some (p,v,up,nx')->PE k o-> ∃y os m,v=I0 (DP ng (x++List.range' nx m)) 4 y/\up=(x++List.range' nx m).zip (os.map (Ge (DP ng (x++List.range' nx m))))/\nx'=nx+m/\(M1 4 y/\os.length=k+m/\∀o∈os,M3 o)/\ ∀r,E9 P fz ng nk o r->∃U V n1,r=Hy p U V n1/\tQ P fz nk y os m ng U V n1
 |.ret y os m,p,v,up,nx',h,hc=>by
  have h':(K9 (nx+m) λn=>hOut (Eg.ret (I0 (DP ng (x++List.range' nx m)) 4 y) ((x++List.range' nx m).zip (os.map (Ge (DP ng (x++List.range' nx m))))) n))=some (p,v,up,nx'):=by rw[Ou];have z:hOut (K9 (nx+m) λn=>(λR=>Eg.ret (I0 (DP ng R) 4 y) (R.zip (os.map (Ge (DP ng R)))) n) (x++List.range' nx m))=some (p,v,up,nx'):=h;rw[Ou]at z;exact z
  rw[Ou]at h';injection h' with h';injection h' with L h';injection h' with z h';injection h' with K J;subst L;refine⟨y,os,m,z.symm,K.symm,J.symm,hc,λr B=>?_⟩;cases r with
  |mk v H n=>exact⟨v,H,n,rfl,B⟩
  |AG _ _ _=>exact B.elim
  |Cf _ _ _ _=>exact B.elim
 |.AG y os m,p,v,up,nx',h,hc=>by
  have h':(K9 (nx+m) λn=>hOut (Eg.AG (I0 (DP ng (x++List.range' nx m)) 4 y) ((x++List.range' nx m).zip (os.map (Ge (DP ng (x++List.range' nx m))))) n))=some (p,v,up,nx'):=by rw[Ou];have z:hOut (K9 (nx+m) λn=>(λR=>Eg.AG (I0 (DP ng R) 4 y) (R.zip (os.map (Ge (DP ng R)))) n) (x++List.range' nx m))=some (p,v,up,nx'):=h;rw[Ou]at z;exact z
  rw[Ou]at h';injection h' with h';injection h' with L h';injection h' with z h';injection h' with K J;subst L;refine⟨y,os,m,z.symm,K.symm,J.symm,hc,λr B=>?_⟩;cases r with
  |AG v H n=>exact⟨v,H,n,rfl,B⟩
  |mk _ _ _=>exact B.elim
  |Cf _ _ _ _=>exact B.elim
 |.br b t e,p,v,up,nx',h,hc=>by
  have h':cond b (hOut (Nk ng x nx t)) (hOut (Nk ng x nx e))=some (p,v,up,nx'):=h;cases b with
  |true=>obtain⟨y,os,m,L,z,K,J,S⟩:=dk (P:=P) (fz:=fz) (nk:=nk) h' (hc.1 rfl);exact⟨y,os,m,L,z,K,J,λr B=>S r B⟩
  |false=>obtain⟨y,os,m,L,z,K,J,S⟩:=dk (P:=P) (fz:=fz) (nk:=nk) h' (hc.2 rfl);exact⟨y,os,m,L,z,K,J,λr B=>S r B⟩
 |.gen a f,p,v,up,nx',h,hc=>by have h':hOut (Nk ng x nx (f a))=some (p,v,up,nx'):=h;obtain⟨y,os,m,L,z,K,J,S⟩:=dk (P:=P) (fz:=fz) (nk:=nk) (o:=f a) h' hc;exact⟨y,os,m,L,z,K,J,λr B=>S r B⟩
theorem Ail {P:Program} {E:Env} {F:Nat->Option Obj} {nx:Nat} {ρ:Ak} {w:World} {H:Tr Ah} (r:Rel E F nx ρ H.get w) {fz:Nat} {v K:AV} {z:List FZ} {B:List Nat} (h:sZ fz P H v=some (true,K,z,B)) {u:Value} (hv:VR ρ v u): ∃J,RX nx nx ρ J/\Rel E F nx J (Dz H B).get w/\VR J K u:=by
 unfold sZ at h;split at h
 ·injection h with h;injection h with _ h;injection h with U h;injection h with V S;subst U;subst S;exact⟨ρ,RX.refl _ _,r,hv⟩
 ·obtain⟨x,_,y⟩:=PR r v K z B h;obtain⟨R,L⟩:=Ku r x;exact⟨_,R,L,y B x (λ_ h=>h) u hv⟩
 ·obtain⟨x,y⟩:=Aig r h hv;obtain⟨R,L⟩:=Ku r x;exact⟨_,R,L,y⟩
set_option maxHeartbeats 1000000 in
theorem dZ {P:Program} {g:FuncId} (S:GY) (aV:∀p∈S.gl,Kw p.2=true/\p.1<S.ng) (aC:∀H,S.N4 H=true->∀p∈S.gl,H.get p.1=some p.2) (hk:∀x,(S.Ff x).length=S.k) (aQ:∀x,∀o∈S.Ff x,Kw o=false) (aW:∀x,S.pre x->PE S.k (S.out x)) (aD:∀x,S.pre x->∃call:FuncId->Al->Tr Ah->Nat->KC->Prop,LQ P call/\call g (S.args x) (BU (S.gl++B2 (S.Ff x) S.ng)) (S.ng+S.k) (E9 P S.fz S.ng (S.ng+S.k) (S.out x))):BH P g S.AN:=by
 intro H nx args hc L p v up nx' aF E F ρ w r;unfold GY.AN at L;cases hs:S.N4 H with
 |false=>rw[hs]at L;cases L
 |true=>
 rw[hs,cond_true]at L;obtain⟨⟨x,y⟩,a8,R⟩:=Ai.1 L;cases hl:Nat.beq y.length S.k with
 |false=>rw[hl]at R;cases R
 |true=>
 rw[hl]at R;have Z:=D4 hl;injection R with R;subst R;have W:(@ite _ (S.pre x/\Mj y=true/\Ol nx y=true/\AZ (C3 y S.ng) (S.args x) args/\Mh (C3 y S.ng) H (B2 (S.Ff x) S.ng)) (Classical.propDecidable _) (hOut (Nk S.ng y nx (S.out x))) none)=some (p,v,up,nx'):=aF;split at W
 case isFalse=>cases W
 rename_i hp;obtain⟨ag,aG,aI,ar,aH⟩:=hp;obtain⟨v0,os,m,rfl,rfl,rfl,⟨aZ,aY,aX⟩,aE⟩:=dk (P:=P) (fz:=S.fz) (nk:=S.ng+S.k) W (aW x ag);have aS:∀id∈y,id<nx:=λid J=>by have:=List.all_eq_true.1 aI id J;rwa[CE]at this
 have ah:∀j o,(S.Ff x)[j]? =some o->∃id o',y[j]? =some id/\H.get id=some o'/\Kz (C3 y S.ng) o o':=λj o hj=>by
  have hm:(S.ng+j,o)∈B2 (S.Ff x) S.ng:=by have:=AcN (S.Ff x) S.ng j;rw[hj]at this;exact Nl this
  obtain⟨id,o',R,z,Y⟩:=Acd aH _ hm;have az:sg (C3 y S.ng) (S.ng+j)=some id:=R;rw[Tk,As (by omega),Nat.add_sub_cancel_left]at az;exact⟨id,o',az,z,Y⟩
 have ai:∀id∈y,∃o,H.get id=some o:=λid J=>by
  obtain⟨j,hj,rfl⟩:=List.getElem_of_mem J;have aT:j<(S.Ff x).length:=by rw[hk,<-Z];exact hj
  obtain⟨ak,o',R,z,_⟩:=ah j _ (Ce aT);rw[Ce hj]at R;injection R with R;exact⟨o',by rw[R];exact z⟩
 have aw:∀i o,(BU (S.gl++B2 (S.Ff x) S.ng)).get i=some o->(i,o)∈S.gl\/∃j,i=S.ng+j/\(S.Ff x)[j]? =some o:=λi o h=>by
  rcases List.mem_append.1 (Nl h)with h|h
  ·exact .inl h
  ·exact .inr (AcO h)
 have af:∀i b,MH (C3 y S.ng) ρ i=some b->∃j id,i=S.ng+j/\y[j]? =some id/\ρ id=some b:=λi b h=>by
  have h':(sg (C3 y S.ng) i).bind ρ.nm=some b:=h;rw[Tk]at h';split at h'
  ·rename_i hi;cases J:y[i-S.ng]? with
   |none=>rw[J]at h';cases h'
   |some id=>rw[J]at h';exact⟨i-S.ng,id,by omega,J,h'⟩
  ·cases h'
 have ab:∀i o b,(BU (S.gl++B2 (S.Ff x) S.ng)).get i=some o->MH (C3 y S.ng) ρ i=some b->∃j id o',i=S.ng+j/\y[j]? =some id/\ρ id=some b/\H.get id=some o'/\Kz (C3 y S.ng) o o':=λi o b hi hb=>by
  obtain⟨j,id,rfl,z,Y⟩:=af i b hb;rcases aw _ o hi with h|⟨j',h4,h5⟩
  ·exact absurd (aV _ h).2 (by show¬S.ng+j<S.ng;omega)
  ·have:j'=j:=by omega
   subst this;obtain⟨ak,o',h6,h7,h8⟩:=ah j' o h5;rw[z]at h6;injection h6 with h6;subst h6;exact⟨j',id,o',rfl,z,Y,h7,h8⟩
 have ae:∀j j' id:Nat,y[j]? =some id->y[j']? =some id->j=j':=λj j' id R z=>by
  have e1:sg (C3 y S.ng) (S.ng+j)=some id:=by rw[Tk,As (by omega),Nat.add_sub_cancel_left];exact R
  have e2:sg (C3 y S.ng) (S.ng+j')=some id:=by rw[Tk,As (by omega),Nat.add_sub_cancel_left];exact z
  have hz:∀(l:List Nat) (n:Nat),(C3 l n).map (·.2)=l:=by
   intro l
   induction l with
   |nil=>intro n;rfl
   |cons a l ih=>intro n;rw[AfF,List.map_cons,ih]
  have:=tn (l:=C3 y S.ng) (by rw[hz];exact aG) _ (VO e1) _ (VO e2) rfl;injection this with this;omega
 have a4:∀b o,F b=some o->Oy ρ w y b=some o:=λb o hb=>by
  show(if _ then _ else _)=_;rw[An]
  ·exact r.fr b o hb
  ·rintro⟨id,J,ad,h4,h5⟩;obtain⟨o2,aR⟩:=ai id J;have:=r.dj id o2 ad aR h4;rw[h5,hb]at this;cases this
 have r0:Rel (FO E ρ) (Oy ρ w y) (S.ng+S.k) (MH (C3 y S.ng) ρ) (BU (S.gl++B2 (S.Ff x) S.ng)).get w:=by
  refine⟨r.tape,r.os,r.output,λb o hb=>?_,λi o b hi hb=>?_,λi o b hi hb=>?_,λi i2 o o2 b b2 hi aU hb a2 e=>?_,λi hi=>?_,λg l hg=>?_,λb o hb=>a4 b o (r.bs b o hb),r.st,λi o b hi hb=>?_,λb o o' R z=>?_⟩
  ·have h':(if∃id∈y,∃ad,ρ id=some ad/\ad.b=b then none else w.heap[b]?)=some o:=hb;split at h'
   ·cases h'
   ·exact h'
  ·obtain⟨j,id,o',rfl,z,Y,h4,h5⟩:=ab i o b hi hb;obtain⟨c,h6,h7⟩:=r.ob id o' b h4 Y;exact⟨c,h6,Ac5 (v9 _ ρ) h5 h7⟩
  ·obtain⟨j,id,o',rfl,z,Y,h4,h5⟩:=ab i o b hi hb;exact As ⟨id,List.mem_of_getElem? z,b,Y,rfl⟩
  ·obtain⟨j,id,o',rfl,z,Y,h4,_⟩:=ab i o b hi hb;obtain⟨j',ak,aL,rfl,a7,a6,a5,_⟩:=ab i2 o2 b2 aU a2;have:=r.inj id ak o' aL b b2 h4 a5 Y a6 e;subst this;rw[ae j j' id z a7]
  ·cases hn:MH (C3 y S.ng) ρ i with
   |none=>rfl
   |some b=>obtain⟨j,id,rfl,z,_⟩:=af i b hn;have:=(Ix.1 z).1;omega
  ·rcases aw g _ hg with h|⟨j,_,h5⟩
   ·exact r.gl g l (aC H hs _ h)
   ·have:=aQ x _ (List.mem_of_getElem? h5);cases this
  ·obtain⟨j,id,o',rfl,z,Y,h4,h5⟩:=ab i o b hi hb;exact r.sd id o' b h4 Y
  ·simp only[FO,Bn,ne_eq];intro e;rw[show ρ.st b=some o' from z]at e;cases e
 obtain⟨call,aq,an⟩:=aD x ag;have AA:=aq g (S.args x) _ _ _ an _ _ _ w r0;refine⟨AA.1,λvs Az=>CallsIn.mono (AA.2 vs (LM (v9 (C3 y S.ng) ρ) _ _ _ ar Az)) λe w' he=>?_⟩;obtain⟨aK,aP,aj⟩:=he;obtain⟨v1,H1,n1,rfl,ao⟩:=aE aK aP;have aA:∀u K,RX (S.ng+S.k) n1 (MH (C3 y S.ng) ρ) K->Rel (FO E ρ) (Oy ρ w y) n1 K H1.get w'->VR K v1 u-> ∃B,RX nx (nx+m) ρ B/\Rel E F (nx+m) B (Fm ((y++List.range' nx m).zip (os.map (Ge (DP S.ng (y++List.range' nx m))))) H).get w'/\VR B (I0 (DP S.ng (y++List.range' nx m)) 4 v0) u:=by
  intro u K U r1 aa;obtain⟨⟨s1,qv,qz,qi⟩,hq,z⟩:=BV ao;obtain⟨Y,h4⟩:=EE.1 z;simp only at Y;subst Y;rw[Bv]at h4;obtain⟨ρ2,au,r2,aM⟩:=Ail r1 hq aa;have a3:SR (FO E ρ) (Oy ρ w y) ρ2 ⟨1,Tr.leaf.set 0 qv,Dz H1 qi,n1,none,[]⟩ ⟨#[u],[]⟩ w' none:=by
   refine⟨r2,λt a ht=>?_,rfl,.nil,.none⟩;have V:((Tr.leaf:Tr AV).set 0 qv).get t=some a:=ht;rw[Tr.Gm]at V;split at V
   ·rename_i e;injection V with V;subst V;subst e;exact⟨u,rfl,aM⟩
   ·rw[Tr.Cy]at V;cases V
  obtain⟨_,aJ,ay,av⟩:=iL h4 a3;obtain⟨u',aO,aN⟩:=av.tr 0 v0 (by show(UO [(0,v0)]).get 0=some v0;exact Tr.PS _ _ _);have aB:u=u':=by simpa using aO
  subst aB;have r3:Rel (FO E ρ) (Oy ρ w y) (S.ng+y.length+m) aJ (BU (RU (B2 os S.ng))).get w':=by rw[Z];exact av.rel
  obtain⟨B,g1,g2,g3,g4⟩:=Ajf r ai aS (ng:=S.ng) (m:=m) (os:=os) (by rw[Z];exact aY) aX r3 (λb o h=>ay.st b o (au.le.st b o (U.le.st b o h))) (λi hi=>by rw[Z]at hi;rw[ay.lo i hi,au.lo i (Nat.lt_of_lt_of_le hi U.nn),U.lo i hi]);exact⟨B,g1,g2,ve g3 g4 4 v0 u aZ aN⟩
 cases p with
 |false=>obtain⟨u,K,rfl,U,r1,aa⟩:=aj;obtain⟨B,g1,g2,g3⟩:=aA u K U r1 aa;exact⟨u,B,rfl,g1,g2,g3⟩
 |true=>obtain⟨u,K,rfl,U,r1,aa⟩:=aj;obtain⟨B,g1,g2,g3⟩:=aA u K U r1 aa;exact⟨u,B,rfl,g1,g2,g3⟩
end Go.Ev
end
section
namespace Go.Ev
open Go
end Go.Ev
end
section
namespace Go.Ev
theorem AgY {P:Program} {call:FuncId->Al->Tr Ah->Nat->KC->Prop} (h:LQ P call):LQ P λg args H nx K=>∃x:KC,(∀r,x r->K r)/\call g args H nx x:=by intro g args H nx K hc E F ρ w r;obtain⟨x,z,hc⟩:=hc;have ht:=h g args H nx x hc E F ρ w r;exact⟨ht.1,λvs Az=>CallsIn.mono (ht.2 vs Az) λe w' y=>by obtain⟨r,J,B⟩:=y;exact⟨r,z r J,B⟩⟩
def RM (r:List Nat) (nx:Nat) (o:HO):Eg:=HO.rec (motive:=λ_=>Eg) (λv os m=>K9 (nx+m) λn=>Eg.ret v ((r++List.range' nx m).zip os) n) (λv os m=>K9 (nx+m) λn=>Eg.AG v ((r++List.range' nx m).zip os) n) (λb _ _ x z=>.br b x z) (λa _ y=>.gen a y) o
def GY.Oq (S:GY):Ft:=λH nx args=>cond (S.N4 H) (ob (S.find H args) λp=>cond (Nat.beq p.2.length S.k) (some (.Bb (S.pre p.1/\Mj p.2=true/\Ol nx p.2=true/\AZ (C3 p.2 S.ng) (S.args p.1) args/\Mh (C3 p.2 S.ng) H (B2 (S.Ff p.1) S.ng)) (RM p.2 nx (S.out p.1)))) none) none
theorem Ahn {P:Program} {g:FuncId} (S:GY) (U:∀x K nx,S.pre x->hOut (RM K nx (S.out x))=hOut (Nk S.ng K nx (S.out x))) (h:BH P g S.AN):BH P g S.Oq:=by
 intro H nx args hc r;unfold GY.Oq at r;cases z:S.N4 H with
 |false=>rw[z]at r;cases r
 |true=>
 rw[z,cond_true]at r;obtain⟨q,B,J⟩:=Ai.1 r;cases hl:Nat.beq q.2.length S.k with
 |false=>rw[hl]at J;cases J
 |true=>
 rw[hl]at J;injection J with J;subst J;intro p v up nx' L;refine h H nx args _ (by unfold GY.AN;rw[z,cond_true,B];show cond (Nat.beq q.2.length S.k) _ _=_;rw[hl];rfl) p v up nx' ?_;have y:(@ite _ (S.pre q.1/\Mj q.2=true/\Ol nx q.2=true/\AZ (C3 q.2 S.ng) (S.args q.1) args/\Mh (C3 q.2 S.ng) H (B2 (S.Ff q.1) S.ng)) (Classical.propDecidable _) (hOut (RM q.2 nx (S.out q.1))) none)=some (p,v,up,nx'):=L;show(@ite _ (S.pre q.1/\Mj q.2=true/\Ol nx q.2=true/\AZ (C3 q.2 S.ng) (S.args q.1) args/\Mh (C3 q.2 S.ng) H (B2 (S.Ff q.1) S.ng)) (Classical.propDecidable _) (hOut (Nk S.ng q.2 nx (S.out q.1))) none)=_;split at y
 ·rename_i R;rw[As R,<-U _ _ _ R.1];exact y
 ·cases y
theorem Ait {P:Program} {g:FuncId} (S:GY) (R:∀p∈S.gl,Kw p.2=true/\p.1<S.ng) (B:∀H,S.N4 H=true->∀p∈S.gl,H.get p.1=some p.2) (Y:∀x,(S.Ff x).length=S.k) (L:∀x,∀o∈S.Ff x,Kw o=false) (U:∀x,S.pre x->PE S.k (S.out x)) (V:∀x z nx,S.pre x->hOut (RM z nx (S.out x))=hOut (Nk S.ng z nx (S.out x))) (J:∀x,S.pre x->∃(y:Ctx) (fuel:Nat) (K:KC),y.P=P/\y.P.follows .mixedOrders=true/\EU y.P y.tb/\(∀r,K r->E9 P S.fz S.ng (S.ng+S.k) (S.out x) r)/\(A3 y fuel).call g (S.args x) (BU (S.gl++B2 (S.Ff x) S.ng)) (S.ng+S.k) K):BH P g S.Oq:=by refine Ahn S V (dZ S R B Y L U λx W=>?_);obtain⟨y,fuel,K,e,h1,h2,h3,Z⟩:=J x W;exact⟨_,AgY (e▸PD h1 h2 fuel),K,h3,Z⟩
def GY.at (S:GY) (x:S.X) (r:List Nat):GY:={S with find:=λ_ _=>some (x,r)}
end Go.Ev
end
end
