/- Laid by program out of its parts: PbW, PbA, PbB, PbC, PbD. -/
import Derived.Test.YtlmmbanfhjaioaaGreatDoorPa3
import Derived.Test.YtlmmbanfhjaioaaGreatDoorTk3
import Derived.Test.YtlmmbanfhjaioaaGreatDoorMh
noncomputable section
open List(getD)
set_option linter.unusedVariables false
set_option linter.unusedSimpArgs false
section
set_option maxRecDepth 100000
set_option maxHeartbeats 2000000
open Go Go.Ev
namespace Go.Proofs.YtlmmbanfhjaioaaGreatDoor
def Vn:Tr Ae->Aj->Option Ct:=λH args=>match args with
 | [x]=>ob (Mx x) λw=>cond (Ec H) (some (.Be True (.ret (.bool (AW (DC w)))))) none
 |_=>none
theorem Ac6 {H:Tr Ae} (h:Ec H=true):H.get 0=some (.Jo XC):=by
 unfold Ec at h;split at h
 ·rename_i l q;rw[q,OM _ _ h]
 ·cases h
theorem Ah1:∀(w:Ac),True/\AW (G2 (CW.str w))=AW (DC w)
:=by intro w;simp only[Cd];rfl
theorem Ah0:∀(w:Ac),(A4 (Eb Uu) 60).call 120 [.bs w] (Bx CI) 4 (Cb Tryz.prog false (.bool (AW (DC w)))):=Eq.mpr (by kernel_rfl) Ah1
theorem Afs:Ck Tryz.prog 120 Vn:=by
 refine OV (gl:=CI) (ng:=4) Qn λH args ct q=>?_;unfold Vn at q;split at q
 ·rename_i x;obtain⟨w,hw,q⟩:=Ag.1 q;cases y:Ec H with
  |false=>rw[y]at q;cases q
  |true=>rw[y]at q;injection q with q;exact⟨SC y,_,_,q.symm,λ_=>⟨[.bs w],Kl (WJ hw) Rm,⟨rfl,trivial⟩,Eb Uu,60,rfl,Bu,my,Ah0 w⟩⟩
 ·cases q
def cP (L:Ab) (s:RS):AV:=vK (L.drop s.at_.toNat)
def vz (c:AV) (m:Int):Ae:=.cells 68 .leaf (.Dw [c,.int .i64 m]) 2 false
def Bl (L:Ab) (s:RS):Ae:=vz (cP L s) s.nest
def F4:Ae:=.cells 68 .leaf (.Dw []) 2 false
def zU (c:AV):Nat:=match c with
 |.vec _ n _=>n
 |_=>0
def B8 (L:Ab) (c:AV) (m:Int):RS:=⟨(L.length:Int)-(zU c:Int),m,0,0⟩
structure R0 (L:List TK) (s:RS):Prop where
 ok:CD L s
 e:s.err=0
 w:s.DM=0
def FD (L:Ab) (s:RS):Int:=if s.DM<L.length then(L.getD s.DM.toNat TK.zero).line else 0
def FC (L:Ab) (s:RS):Int:=if s.DM<L.length then(L.getD s.DM.toNat TK.zero).Ao else 0
def CQ (L:Ab) (s:RS):AV:=.iface 65 (.agg [.int .i64 (FD L s),.int .i64 (FC L s),.int .i64 s.err])
def Jc (ws:List Ac):Ae:=.cells 9 .leaf (.rows 1 λi=>[.bs (ws.getD i [])]) ws.length false
structure C6 (L:List TK) (c:AV) (m:Int) (p:RS->Prop):Prop where
 s:∃s,c=cP L s/\m=s.nest/\R0 L s/\p s
def L4 (H:Tr Ae) (p:AV):Option ((AV×Int)×Nat):=match p with
 |.ptr id 0=>ob (H.get id) λo=>match o with
  |.cells ty c z n op=>cond (cond (Nat.beq ty 68) (cond (Nat.beq n 2) (not op) false) false) (ob (Mp c z 2 0) λcs=>match cs with
   | [c,.int .i64 m]=>some ((c,m),id)
   |_=>none) none
  |_=>none
 |_=>none
def cY (l:Aj):Ac:=match l with
 | [.bs t]=>t
 |_=>[]
def OG (m:Nat) (f:Nat->Aj):List Ac:=AU ((List.range m).map λi=>cY (f i))
structure fH (m N:Nat) (f:Nat->List AV):Prop where
 f:∀i,i<m->f i=[.bs (cY (f i))]
 n:N=m
def nX (H:Tr Ae) (w:AV):Option ((List Ac×Nat)×Prop):=match w with
 |.sl r 0 m q=>ob (H.get r) λo=>match o with
  |.cells el c z N op=>cond (cond (Nat.beq el 9) (cond op false (cond (Nat.beq N q) (Nat.beq m q) false)) false) (ob (Mp c z m 0) λl=>ob (nK l) λws=>some ((ws,r),True)) none
  |_=>none
 |.AY r m 1=>ob (H.get r) λo=>match o with
  |.cells el c z N op=>match c,z with
   |.leaf,.rows e f=>cond (cond (Nat.beq el 9) (cond op false (Nat.beq e 1)) false) (some ((OG m f,r),fH m N f)) none
   |_,_=>none
  |_=>none
 |_=>none
def hP (L:Ab) (A:Type) (ar:A->Aj) (pre:RS->A->Prop) (out:RS->A->HO) (fz:Nat):HA:={X:=RS×A,gl:=CI,JI:=Ec,ng:=4,k:=1,args:=λx=>.ptr 4 0::ar x.2,FE:=λx=>[Bl L x.1],pre:=λx=>R0 L x.1/\pre x.1 x.2,out:=λx=>out x.1 x.2,fz:=fz,find:=λ_ _=>none}
def mP (L:Ab) (A:Type) (rd:Aj->Option A) (pre:RS->A->Prop) (out:RS->A->HO):Gx:=λH nx args=>cond (Ec H) (List.casesOn args none λp l=>ob (L4 H p) λq=>ob (rd l) λa=>cond (Nat.blt q.2 nx) (some (.Be (C6 L q.1.1 q.1.2 λs=>pre s a) (J5 [q.2] nx (out (B8 L q.1.1 q.1.2) a)))) none) none
def hW (L:Ab) (pre:RS->List Ac->Prop) (out:RS->List Ac->HO):HA:={X:=RS×List Ac,gl:=CI,JI:=Ec,ng:=4,k:=2,args:=λx=>[.ptr 4 0,.AY (4+1) x.2.length 1],FE:=λx=>[Bl L x.1,Jc x.2],pre:=λx=>R0 L x.1/\pre x.1 x.2,out:=λx=>out x.1 x.2,fz:=0,find:=λ_ _=>none}
def mW (L:Ab) (pre:RS->List Ac->Prop) (out:RS->List Ac->HO):Gx:=λH nx args=>cond (Ec H) (match args with
 | [p,w]=>ob (L4 H p) λq=>ob (nX H w) λv=>cond (cond (Nat.blt q.2 nx) (cond (Nat.blt v.1.2 nx) (not (Nat.beq q.2 v.1.2)) false) false) (some (.Be (v.2/\C6 L q.1.1 q.1.2 λs=>pre s v.1.1) (J5 [q.2,v.1.2] nx (out (B8 L q.1.1 q.1.2) v.1.1)))) none
 |_=>none) none
def X4:Ctx:={P:=Tryz.prog,tb:=[(120,Vn)],lp:=λ_ _=>none,cut:=λ_ _=>none}
theorem Jf {L:Ab} {s:RS} (h:R0 L s):B8 L (cP L s) s.nest=s:=by
 have C:=h.ok.a0;have B:=h.ok.a1;have y:=h.e;have q:=h.w;cases s with
 |mk a n e w=>
 simp only at C B y q;subst y;subst q;unfold B8;have:(L.length:Int)-((zU (cP L ⟨a,n,0,0⟩):Nat):Int)=a:=by show(L.length:Int)-(((L.drop a.toNat).length:Nat):Int)=a;rw[HC];omega
 rw[this]
theorem S4 {ρ:Ai} {b:C3} {el n:Nat} {c:Tr AV} {z:CB} {op:Bool} {l:Aj} {x:Obj} (E:Mp c z n 0=some l) (h:OR ρ b (.cells el c z n op) x):OR ρ b (.cells el .leaf (.Dw l) n op) x:=by
 obtain⟨L,K⟩:=Ui c z n 0 l E;cases h with
 |cells _ _ _ _ _ cs fz Dt hn B C q=>refine .cells _ _ _ _ _ cs fz Dt hn B C λk a J y=>q k a J ?_;rw[Gz]at y;have y:l[k %l.length]? =some a:=y;rw[Nat.mod_eq_of_lt (by omega)]at y;have:=K k a y;rwa[Nat.zero_add]at this
theorem Sa {α:Type} {b:Bool} {x:Option α} {y:α} (h:cond b x none=some y):b=true/\x=some y:=by
 cases b with
 |true=>exact⟨rfl,h⟩
 |false=>cases h
theorem gE.{u} {α:Type u} {b:Bool} {x:Option α} {y:α} (h:cond b x none=some y):b=true/\x=some y:=by
 cases b with
 |true=>exact⟨rfl,h⟩
 |false=>cases h
theorem OU {α:Type 1} {b:Bool} {x:Option α} {y:α} (h:cond b x none=some y):b=true/\x=some y:=by
 cases b with
 |true=>exact⟨rfl,h⟩
 |false=>cases h
theorem iz {H:Tr Ae} {p:AV} {c:AV} {m:Int} {id:Nat} (h:L4 H p=some ((c,m),id)):p=.ptr id 0/\Kr H id (vz c m)/\∃ty c z n op,H.get id=some (.cells ty c z n op):=by
 unfold L4 at h;split at h
 ·rename_i i;obtain⟨o,B,h⟩:=Ag.1 h;split at h
  ·rename_i ty cc z n op;obtain⟨q,h⟩:=Sa h;obtain⟨cs,y,h⟩:=Ag.1 h;split at h
   ·rename_i S R;injection h with h;injection h with h O;injection h with M L;subst O;subst M;subst L;obtain⟨J,q⟩:=Bf q;obtain⟨E,C⟩:=Bf q;rw[AN]at J E;have C:op=false:=by cases op<;>simp_all
    subst J;subst E;subst C;exact⟨rfl,⟨⟨_,B,λρ b x K=>S4 y K⟩,rfl⟩,_,_,_,_,_,B⟩
   ·cases h
  ·cases h
 ·cases h
theorem zI:∀ {l:Aj} {ws:List Ac},nK l=some ws->ws.length=l.length/\∀k a,l[k]? =some a->VA a (.bs (ws.getD k []))
 | [],ws,h=>by injection h with h;subst h;exact⟨rfl,λk a h=>by simp at h⟩
 |x::l,ws,h=>by
  obtain⟨w,hw,h⟩:=Ag.1 (show(ob (Mx x) λw=>ob (nK l) λws=>some (w::ws))=some ws from h);obtain⟨E,y,h⟩:=Ag.1 h;injection h with h;subst h;obtain⟨C,B⟩:=zI y;refine⟨by simp[C],λk a q=>?_⟩;cases k with
  |zero=>injection q with q;subst q;exact WJ hw
  |succ k=>exact B k a q
theorem AlC {H:Tr Ae} {w:AV} {ws:List Ac} {r:Nat} {q:Prop} (h:nX H w=some ((ws,r),q)) (hq:q):Kr H r (Jc ws)/\(∃ty c z n op,H.get r=some (.cells ty c z n op))/\∀E F nx ρ w',Rel E F nx ρ H.get w'->∀u,VR ρ w u->VR ρ (.AY r ws.length 1) u:=by
 unfold nX at h;split at h
 ·rename_i i m m';obtain⟨o,O,h⟩:=Ag.1 h;split at h
  ·rename_i ty cc z N op;obtain⟨C,h⟩:=gE h;obtain⟨l,hl,h⟩:=Ag.1 h;obtain⟨L,aa,h⟩:=Ag.1 h;injection h with h;injection h with h _;injection h with h R;subst h;subst R;obtain⟨U,C⟩:=Bf C;cases y:op with
   |true=>rw[y]at C;cases C
   |false=>
   rw[y]at C;obtain⟨S,e3⟩:=Bf (show cond (Nat.beq N m') (Nat.beq m m') false=true from C);rw[AN]at U S e3;subst U;subst S;subst y;subst e3;obtain⟨q1,q2⟩:=Ui cc z m 0 l hl;obtain⟨t1,t2⟩:=zI aa;refine⟨⟨⟨_,O,λρ b x W=>?_⟩,rfl⟩,⟨_,_,_,_,_,O⟩,λE F nx ρ w' r0 u Y=>?_⟩
   ·cases W with
    |cells _ _ _ _ _ cs fz Dt hn y M B=>
     refine .cells _ _ _ _ _ cs fz Dt (by omega) (λ_=>by have:=y rfl;omega) M λk a hk J=>?_;have K:k<l.length:=by omega
     have hc:=q2 k l[k] (CC K);rw[Nat.zero_add]at hc;obtain⟨v,C,R⟩:=B k l[k] (by omega) hc;rw[Gz]at J;have J:([AV.bs (L.getD (k/1) [])]:Aj)[k %1]? =some a:=J;rw[Nat.div_one,Nat.mod_one]at J;injection J with J;subst J;exact⟨v,C,t2 k l[k] (CC K) ρ v R⟩
   ·cases Y with
    |sl _ _ _ _ b hb=>
     obtain⟨x,ab,Z⟩:=r0.ob _ _ b O hb;cases Z with
     |cells _ _ _ _ _ cs fz Dt hn y M B=>
     have hN:=y rfl;have:=VR.AY (ρ:=ρ) i L.length 1 b hb (by decide) (by omega);rw[Nat.div_one,<-hN,show L.length=m by omega]at this;rw[show L.length=m by omega];exact this
  ·cases h
 ·rename_i i m;obtain⟨o,O,h⟩:=Ag.1 h;split at h
  ·rename_i ty cc z N op;split at h
   ·rename_i e f;obtain⟨C,h⟩:=gE h;injection h with h;injection h with h h3;injection h with h R;subst h;subst R;subst h3;obtain⟨U,C⟩:=Bf C;cases y:op with
    |true=>rw[y]at C;cases C
    |false=>
    rw[y]at C;have S:Nat.beq e 1=true:=C;rw[AN]at U S;subst U;subst S;subst y;have V:(OG m f).length=m:=by unfold OG;rw[Dr];simp
    have ad:=hq.n;refine⟨⟨⟨_,O,λρ b x W=>?_⟩,rfl⟩,⟨_,_,_,_,_,O⟩,λE F nx ρ w' r0 u Y=>by rw[V];exact Y⟩;cases W with
    |cells _ _ _ _ _ cs fz Dt hn y M B=>
     refine .cells _ _ _ _ _ cs fz Dt (by omega) (λ_=>by have:=y rfl;omega) M λk a hk J=>B k a (by omega) ?_;rw[Gz]at J⊢;have J:([AV.bs ((OG m f).getD (k/1) [])]:Aj)[k %1]? =some a:=J;show(f (k/1))[k %1]? =some a;rw[Nat.div_one,Nat.mod_one]at J⊢;have K:k<m:=by omega
     have hg:(OG m f).getD k []=cY (f k):=by unfold OG;rw[Dr,B2,HB,OI K];rfl
     rw[hg,<-hq.f k K]at J;exact J
   ·cases h
  ·cases h
 ·cases h
theorem AlG (ws:List Ac):fH ws.length ws.length (λi=>[.bs (ws.getD i [])])/\OG ws.length (λi=>[.bs (ws.getD i [])])=ws:=by
 refine⟨⟨λi _=>rfl,rfl⟩,?_⟩;unfold OG;rw[Dr];apply List.ext_getElem
 ·simp
 ·intro i y q;simp[cY,B2,CC q]
theorem cf (q:List (Nat×Nat)) (L:Ab) (s:RS):AZ q (cP L s) (cP L s):=⟨rfl,rfl,⟨λi _=>⟨⟨rfl,rfl⟩,rfl,⟨rfl,rfl⟩,⟨rfl,rfl⟩,⟨rfl,rfl⟩,trivial⟩⟩⟩
theorem k6 (q:List (Nat×Nat)) (L:Ab) (s:RS):EO q (Bl L s) (Bl L s):=⟨rfl,rfl,rfl,⟨trivial,cf q L s⟩,rfl,rfl⟩
theorem Af7 (q:List (Nat×Nat)) (ws:List Ac):EO q (Jc ws) (Jc ws):=⟨rfl,rfl,rfl,rfl,⟨λi _=>⟨rfl,trivial⟩⟩⟩
theorem jN {H:Tr Ae} {l:List (Nat×Ae)} (q:Ec H=true) (h:∀p∈l,∃ty c z n op,H.get p.1=some (.cells ty c z n op)):Ec (Cr l H)=true:=by
 unfold Ec at q⊢;have:(Cr l H).get 0=H.get 0:=WH λp B e=>by obtain⟨ty,c,z,n,op,y⟩:=h p B;rw[e]at y;rw[y]at q;cases q
 rw[this];exact q
theorem YD (H:Tr Ae) (h:Ec H=true):∀p∈CI,H.get p.1=some p.2:=λp q=>by rw[DE.1 q];exact Ac6 h
theorem jM:∀p∈CI,H8 p.2=true/\p.1<4:=λp q=>by rw[DE.1 q];exact⟨rfl,by decide⟩
theorem OT (L:Ab) (s:RS):IX (Bl L s):=by
 intro a q;rcases CS.1 q with rfl|q
 ·exact cf [] L s
 ·rw[DE.1 q];exact⟨rfl,rfl⟩
theorem R8:IX F4:=λa q=>by cases q
theorem gA (ws:List Ac):IX (Jc ws):=λi _=>⟨rfl,trivial⟩
def Ra:HO->Prop
 |.ret v os m=>m=0/\(∀q,D2 q 4 v=v)/\∀o∈os,∀q,CP q o=o
 |.AB v os m=>m=0/\(∀q,D2 q 4 v=v)/\∀o∈os,∀q,CP q o=o
 |.br _ t e=>Ra t/\Ra e
 |.gen a f=>Ra (f a)
theorem vS {os:List Ae} (h:∀o∈os,∀q,CP q o=o) (q:Nat->Nat):os.map (CP q)=os:=by
 induction os with
 |nil=>rfl
 |cons a l y=>rw[List.map_cons,h a (BN ..),y λo B=>h o (Ca _ B)]
theorem VH {ng nx:Nat} {ids:List Nat}:∀ {o:HO},Ra o->hOut (J5 ids nx o)=hOut (Hn ng ids nx o)
 |.ret v os m,h=>by obtain⟨rfl,B,y⟩:=h;show hOut (FV (nx+0) λn=>C4.ret v ((ids++List.range' nx 0).zip os) n)=hOut (FV (nx+0) λn=>(λq=>C4.ret (D2 (BP ng q) 4 v) (q.zip (os.map (CP (BP ng q)))) n) (ids++List.range' nx 0));rw[G5,G5];show some (false,v,(ids++List.range' nx 0).zip os,nx+0)=some (false,D2 (BP ng (ids++List.range' nx 0)) 4 v,(ids++List.range' nx 0).zip (os.map (CP (BP ng (ids++List.range' nx 0)))),nx+0);rw[B,vS y]
 |.AB v os m,h=>by obtain⟨rfl,B,y⟩:=h;show hOut (FV (nx+0) λn=>C4.AB v ((ids++List.range' nx 0).zip os) n)=hOut (FV (nx+0) λn=>(λq=>C4.AB (D2 (BP ng q) 4 v) (q.zip (os.map (CP (BP ng q)))) n) (ids++List.range' nx 0));rw[G5,G5];show some (true,v,(ids++List.range' nx 0).zip os,nx+0)=some (true,D2 (BP ng (ids++List.range' nx 0)) 4 v,(ids++List.range' nx 0).zip (os.map (CP (BP ng (ids++List.range' nx 0)))),nx+0);rw[B,vS y]
 |.br b t e,h=>by show cond b (hOut (J5 ids nx t)) (hOut (J5 ids nx e))=cond b (hOut (Hn ng ids nx t)) (hOut (Hn ng ids nx e));rw[VH h.1,VH h.2]
 |.gen a f,h=>VH (o:=f a) h
theorem VG {nx:Nat} {ids:List Nat}:∀ {o:HO} {p:Bool} {v:AV} {up:List (Nat×Ae)} {nx':Nat},Ra o->OS ids.length o->hOut (J5 ids nx o)=some (p,v,up,nx')->up.map (·.1)=ids
 |.ret v os m,p,B,up,nx',h,hc,y=>by obtain⟨rfl,_,_⟩:=h;have q:hOut (FV (nx+0) λn=>C4.ret v ((ids++List.range' nx 0).zip os) n)=some (p,B,up,nx'):=y;rw[G5]at q;injection q with q;injection q with _ q;injection q with _ q;injection q with q _;subst q;rw[List.range'_zero,HD];exact List.map_fst_zip (by have:=hc.2.1;omega)
 |.AB v os m,p,B,up,nx',h,hc,y=>by obtain⟨rfl,_,_⟩:=h;have q:hOut (FV (nx+0) λn=>C4.AB v ((ids++List.range' nx 0).zip os) n)=some (p,B,up,nx'):=y;rw[G5]at q;injection q with q;injection q with _ q;injection q with _ q;injection q with q _;subst q;rw[List.range'_zero,HD];exact List.map_fst_zip (by have:=hc.2.1;omega)
 |.br b t e,p,v,up,nx',h,hc,y=>by
  have y:cond b (hOut (J5 ids nx t)) (hOut (J5 ids nx e))=some (p,v,up,nx'):=y;cases b with
  |true=>exact VG h.1 (hc.1 rfl) y
  |false=>exact VG h.2 (hc.2 rfl) y
 |.gen a f,p,v,up,nx',h,hc,y=>VG (o:=f a) h hc y
theorem V0 {g:FuncId} {L:Ab} {A:Type} {ar:A->Aj} {rd:Aj->Option A} {pre:RS->A->Prop} {out:RS->A->HO} {fz:Nat} (V:∀s a,R0 L s->pre s a->OS 1 (out s a)) (hs:∀s a,R0 L s->pre s a->Ra (out s a)) (aa:∀σ a,Ba σ (ar a) (ar a)) (Z:∀l a,rd l=some a->NH l (ar a)) (Y:∀s a,R0 L s->pre s a->∃(cx:Ctx) (fuel:Nat) (K:KC),cx.P=Tryz.prog/\cx.P.follows .mixedOrders=true/\EY cx.P cx.tb/\(∀r,K r->Gk Tryz.prog fz 4 (4+1) (out s a) r)/\(A4 cx fuel).call g (.ptr 4 0::ar a) (Bx (CI++Cl [Bl L s] 4)) (4+1) K):Bo Tryz.prog g (mP L A rd pre out):=by
 intro H nx args hc C;obtain⟨hg,C⟩:=OU C;cases args with
 |nil=>cases C
 |cons p0 l=>
 obtain⟨⟨⟨c,m⟩,id⟩,O,C⟩:=Ag.1 (show(ob (L4 H p0) λq=>ob (rd l) λa=>cond (Nat.blt q.2 nx) (some (C4.Be (C6 L q.1.1 q.1.2 λs=>pre s a) (J5 [q.2] nx (out (B8 L q.1.1 q.1.2) a)))) none)=some hc from C);obtain⟨a,ha,C⟩:=Ag.1 C;obtain⟨hb,C⟩:=OU C;injection C with C;subst C;intro p v up nx' y E F ρ w r;obtain⟨⟨s,W,U,R,B⟩,y⟩:=NU y;simp only at W U hb y;subst W;subst U;rw[Jf R]at y;obtain⟨rfl,hd,J⟩:=iz O;have hS:Bo Tryz.prog g ((hP L A ar pre out fz).at (s,a) [id]).AJ:=MX _ jM YD (λx=>rfl) (λx o ho=>by rw[DE.1 ho];rfl) (λx M=>V x.1 x.2 M.1 M.2) λx M=>by obtain⟨cx,fuel,K,e1,e2,e3,e4,e5⟩:=Y x.1 x.2 M.1 M.2;exact⟨_,pV (e1▸JZ e2 e3 fuel),K,e4,e5⟩
 refine NV (S:=hP L A ar pre out fz) (x:=(s,a)) (ids:=[id]) (os:=[Bl L s]) (args':=.ptr id 0::ar a) hS ⟨R,B⟩ (jN hg λp M=>by rw[DE.1 M];exact J) rfl rfl ?_ rfl (λq O=>by rw[DE.1 O];exact hd) ⟨⟨rfl,rfl⟩,aa _ _⟩ ⟨?_,trivial⟩ ((VH (hs s a R B)).symm.trans y) (λi hi=>by have hu:=VG (ids:=[id]) (hs s a R B) (V s a R B) y;rw[<-hu]at hi;obtain⟨q,O,rfl⟩:=List.mem_map.1 hi;exact⟨q,O,rfl⟩) r λvs Ax=>?_
 ·show(List.all [id] λj=>Nat.blt j nx)=true;simp only[List.all_cons,List.all_nil,hb,Bool.and_true]
 ·show(match(H.set id (Bl L s)).get id with
   |none=>False
   |some o=>EO [(4,id)] (Bl L s) o)
  rw[Tr.GG];exact k6 _ L s
 ·cases Ax with
  |cons _ _ _ vs h1 h2=>exact .cons _ _ _ _ h1 (Z l a ha ρ vs h2)
theorem vO {g:FuncId} {L:Ab} {pre:RS->List Ac->Prop} {out:RS->List Ac->HO} (Y:∀s a,R0 L s->pre s a->OS 2 (out s a)) (hs:∀s a,R0 L s->pre s a->Ra (out s a)) (ab:∀s a,R0 L s->pre s a->∃(cx:Ctx) (fuel:Nat) (K:KC),cx.P=Tryz.prog/\cx.P.follows .mixedOrders=true/\EY cx.P cx.tb/\(∀r,K r->Gk Tryz.prog 0 4 (4+2) (out s a) r)/\(A4 cx fuel).call g [.ptr 4 0,.AY (4+1) a.length 1] (Bx (CI++Cl [Bl L s,Jc a] 4)) (4+2) K):Bo Tryz.prog g (mW L pre out):=by
 intro H nx args hc J;obtain⟨hg,J⟩:=OU J;split at J
 case h_2=>cases J
 rename_i p0 w;obtain⟨⟨⟨c,m⟩,id⟩,R,J⟩:=Ag.1 J;obtain⟨⟨⟨ws,B⟩,af⟩,hw,J⟩:=Ag.1 J;obtain⟨hb,J⟩:=OU J;injection J with J;subst J;intro p v up nx' y E F ρ w0 r;obtain⟨⟨V,s,Z,W,U,C⟩,y⟩:=NU y;simp only at V Z W hb y;subst Z;subst W;rw[Jf U]at y;obtain⟨rfl,hd,O⟩:=iz R;obtain⟨ae,M,aa⟩:=AlC hw V;obtain⟨b1,hb⟩:=Bf hb;obtain⟨b2,b3⟩:=Bf hb;have b3:Nat.beq id B=false:=by cases hx:Nat.beq id B<;>simp_all
 have ad:id≠B:=λe=>by rw[e,Nat.beq_refl]at b3;cases b3
 have hS:Bo Tryz.prog g ((hW L pre out).at (s,ws) [id,B]).AJ:=MX _ jM YD (λx=>rfl) (λx o ho=>by
   rcases CS.1 ho with rfl|ho
   ·rfl
   ·rw[DE.1 ho];rfl) (λx hp=>Y x.1 x.2 hp.1 hp.2) λx hp=>by
  obtain⟨cx,fuel,K,e1,e2,e3,e4,e5⟩:=ab x.1 x.2 hp.1 hp.2;exact⟨_,pV (e1▸JZ e2 e3 fuel),K,e4,e5⟩
 refine NV (S:=hW L pre out) (x:=(s,ws)) (ids:=[id,B]) (os:=[Bl L s,Jc ws]) (args':=[.ptr id 0,.AY B ws.length 1]) hS ⟨U,C⟩ (jN hg λp hp=>?_) rfl ?_ ?_ rfl (λq R=>?_) ⟨⟨rfl,rfl⟩,⟨rfl,rfl,rfl⟩,trivial⟩ ⟨?_,?_,trivial⟩ ((VH (hs s ws U C)).symm.trans y) (λi hi=>?_) r λvs Ax=>?_
 ·rcases CS.1 hp with rfl|hp
  ·exact O
  ·rw[DE.1 hp];exact M
 ·show cond (List.any [B] (Nat.beq id)) false true=true;simp only[List.any_cons,List.any_nil,b3,Bool.or_false,cond_false]
 ·show(List.all [id,B] λj=>Nat.blt j nx)=true;simp only[List.all_cons,List.all_nil,b1,b2,Bool.and_true]
 ·rcases CS.1 R with rfl|R
  ·exact hd
  ·rw[DE.1 R];exact ae
 ·show(match((H.set B (Jc ws)).set id (Bl L s)).get id with
   |none=>False
   |some o=>EO [(4,id),(4+1,B)] (Bl L s) o)
  rw[Tr.GG];exact k6 _ L s
 ·show(match((H.set B (Jc ws)).set id (Bl L s)).get B with
   |none=>False
   |some o=>EO [(4,id),(4+1,B)] (Jc ws) o)
  rw[Tr.KE _ ad,Tr.GG];exact Af7 _ ws
 ·have hu:=VG (ids:=[id,B]) (hs s ws U C) (Y s ws U C) y;rw[<-hu]at hi;obtain⟨q,R,rfl⟩:=List.mem_map.1 hi;exact⟨q,R,rfl⟩
 ·cases Ax with
  |cons _ _ _ vs h1 h2=>cases h2 with
  |cons _ _ _ vs h2 h3=>exact .cons _ _ _ _ h1 (.cons _ _ _ _ (aa E F nx ρ w0 r _ h2) h3)
theorem R9 (L:Ab) (s:RS):L0 4 (CQ L s):=λa q=>by simp only[CS,List.not_mem_nil,or_false]at q;rcases q with rfl|rfl|rfl<;>exact⟨rfl,rfl⟩
theorem HG {p:Ae->Prop} {o:Ae} (h:p o):∀x∈[o],p x:=λx q=>by rw[DE.1 q];exact h
theorem Nv {p:Ae->Prop} {o q:Ae} (h:p o) (B:p q):∀x∈[o,q],p x:=λx y=>by
 rcases CS.1 y with rfl|y
 ·exact h
 ·rw[DE.1 y];exact B
def vw (L:Ab) (s:RS) (e:Int):HO:=.AB (CQ L (CK s e)) [F4] 0
def vu (L:Ab) (s:RS) (_:Unit):HO:=.gen (Ar L s,Au s) λy=>.ret (.agg y.1.row) [Bl L y.2] 0
def vq (L:Ab) (s:RS) (ws:List Ac):HO:=.gen s λy=>.ret (.bool (AW (ws.any (As L y)))) [Bl L y,Jc ws] 0
structure BK (ws:List (List UInt8)):Prop where
 h:∀w∈ws,DC w=decide (Fl w=2)
 l:ws.length<=1000
def vQ (L:Ab):Gx:=mP L Int Z3 (λs e=>e≠0) (vw L)
def vN (L:Ab):Gx:=mP L Unit LD (λs _=>s.at_<L.length) (vu L)
def vJ (L:Ab):Gx:=mW L (λs ws=>BK ws) (vq L)
def sIx (t:Ac) (ws:List Ac):CX:=thin Nat [0,1,7] (λi=>[(8,.int .i64 i)]) (λs i=>i<=ws.length/\∀j,j<i->ws.getD j []≠t) λi=>ws.length-i
def qs (t:Ac) (ws:List Ac):Ctx:={P:=Tryz.prog,tb:=[(120,Vn)],lp:=λf r=>cond (Nat.beq f 112) (cond (Nat.beq r 2) (some (sIx t ws)) none) none,cut:=λ_ _=>none}
theorem r8 {L:Ab} {s:RS} (h:R0 L s) (q:s.at_<L.length) (i:Nat):(L.drop s.at_.toNat).getD i TK.zero=L.getD (s.at_.toNat+i) TK.zero:=by rw[B2,List.getElem?_drop,<-B2]
theorem RK {L:Ab} {s:RS} (h:R0 L s) (q:s.at_<L.length):(L.drop s.at_.toNat).getD 0 TK.zero=Ar L s:=by rw[r8 h q,Nat.add_zero];have:=h.e;unfold Ar;rw[Ad (by omega)]
theorem RL {L:Ab} {s:RS} (q:(L.length:Int)<=s.at_):Ar L s=TK.zero:=by unfold Ar;rw[Am (.inr q)]
theorem Qb {L:Ab} {s:RS} (h:R0 L s):((L.drop s.at_.toNat).length:Int)=L.length-s.at_:=by have:=h.ok.a0;have:=h.ok.a1;rw[HC];omega
theorem Abp:Tryz.prog.cellsOf 9=1:=by kernel_rfl
theorem XB {L:Ab} {s:RS} {ws:List Ac} (h:∀w∈ws,As L s w=false):false=ws.any (As L s):=by symm;rw[List.any_eq_false];intro w q;rw[h w q];decide
theorem VI {L:Ab} {s:RS} {w:Ac} (h:As L s w=true):(Ar L s).kind=Fl w/\(Ar L s).text=w:=by unfold As at h;rw[C5,BV,BV]at h;exact h
theorem YQ (w:Ac):Fl w=2\/Fl w=4:=by unfold Fl;split<;>simp
theorem oh {L:Ab} {s:RS} {ws:List Ac} (R:BK ws) (V:(Ar L s).kind=2\/(Ar L s).kind=4) (ht:DC (Ar L s).text=decide ((Ar L s).kind=2)) {b:Bool}: (∃E,(E<=ws.length/\∀(j:Nat),j.succ<=E->ws.getD j []=(Ar L s).text->False)/\(0:Int)=(E:Int))/\∀(x:Nat),(x<=ws.length/\∀(j:Nat),j.succ<=x->ws.getD j []=(Ar L s).text->False)-> Ah (AQ (x:Int) (ws.length:Int)) (Al (A9 (x:Int) ws.length) (Al (Nat.ble (x+0+Tryz.prog.cellsOf 9) ws.length) (Ah (decide ((Ar L s).text=ws.getD x [])) ((!AQ (x:Int) 0)=ws.any (As L s)) (Al (BJ .i64 ((x:Int)+1)) (∃C,(C<=ws.length/\∀(j:Nat),j.succ<=C->ws.getD j []=(Ar L s).text->False)/\(ws.length-C).succ<=ws.length-x/\(x:Int)+1=(C:Int)))))) (false=ws.any (As L s)):=by
 have Y:=R.l;refine⟨⟨0,⟨CL _,λj J=>by omega⟩,rfl⟩,λx O=>?_⟩;obtain⟨O,J⟩:=O;refine Aw (λc=>?_) λc=>?_
 ·rw[CE]at c;have B:x<ws.length:=by omega
  refine At (Cf.2 (by omega)) (At (by rw[Abp];exact Nat.ble_eq_true_of_le (by omega)) (Aw (λd=>?_) λd=>At (CJ.2 (by omega)) ⟨x+1,⟨B,λj Z y=>?_⟩,by omega,rfl⟩))
  ·rw[BV]at d;have q:ws.getD x []∈ws:=by rw[B2,CC B];exact List.getElem_mem _
   have W:As L s (ws.getD x [])=true:=by unfold As;rw[C5,BV,BV];refine⟨?_,d⟩;have y:=R.h _ q;rw[<-d,ht]at y;have S:=YQ (ws.getD x []);rw[<-d]at S⊢;rcases V with e|e<;>rcases S with U|U<;>rw[e,U]at y⊢ <;>first|rfl|(revert y;decide)
   have:ws.any (As L s)=true:=List.any_eq_true.2 ⟨_,q,W⟩;rw[this,EH,CF];omega
  ·rw[Kt]at d;by_cases e:j=x
   ·subst e;exact d y.symm
   ·exact J j (by omega) y
 ·rw[CF]at c;refine XB λw K=>LQ.2 λe=>?_;obtain⟨j,M,rfl⟩:=List.getElem_of_mem K;refine J j (by omega) ?_;rw[B2,CC M];exact(VI e).2.symm
def IC (a:RS) (b:Ab):=List.drop (Int.toNat (RS.at_ a)) b
def Ef (a:RS) (b:Ab):=getD (IC a b) 0 TK.zero
def D1 (a:RS) (b:Ab):=List.length (IC a b)
def I8:=((True/\True/\True/\True/\True)/\True)
def Mj:=(Aa/\Aa/\Aa/\Aa/\(True/\True)/\True)
def HL (a:RS) (b:Ab):=Al (A9 (0:Int) (D1 a b))
def Pl (a:RS) (b:Ab):=Ah (AQ (0:Int) (Int.ofNat (D1 a b)))
theorem Ajx:∀(L:Ab) (s:RS) (e:Int),R0 L s->(e=(0:Int)->False)->Pl s L (HL s L (HL s L ((I8/\I8/\((Af (AV.int .i64 (TK.Ao (Ef s L)))/\Af (cP L s)/\True/\True/\True)/\True)/\True)/\Aa/\((Aa/\(Aa/\TK.line (Ef s L)=FD L (CK s e))/\(Aa/\TK.Ao (Ef s L)=FC L (CK s e))/\(Aa/\e=RS.err (CK s e))/\True)/\True)/\Mj/\True))) (Aa/\((Aa/\(Aa/\(0:Int)=FD L (CK s e))/\(Aa/\(0:Int)=FC L (CK s e))/\(Aa/\e=RS.err (CK s e))/\True)/\True)/\Mj/\True)
:=by
 delta IC Ef D1 I8 Mj HL Pl;intro L s e q B;simp only[Cd];have hd:=Qb q;have C:=q.ok.a0;have y:CK s e={s with err:=e,DM:=s.at_}:=by unfold CK;rw[Am q.e]
 rw[y];refine Aw (λc=>?_) λc=>?_
 ·rw[CE]at c;refine At (Cf.2 (by omega)) (At (Cf.2 (by omega)) ?_);rw[r8 q (by omega),Nat.add_zero];unfold FD FC;rw[Am (show s.at_<L.length by omega),Am (show s.at_<L.length by omega)];exact⟨rfl,rfl,rfl⟩
 ·rw[CF]at c;unfold FD FC;rw[Ad (show¬s.at_<L.length by omega),Ad (show¬s.at_<L.length by omega)];exact⟨rfl,rfl,rfl⟩
theorem Ajw:∀(L:Ab) (s:RS) (e:Int),R0 L s->e≠0->(A4 X4 60).call 106 [.ptr 4 0,.int .i64 e] (Bx (CI++Cl [Bl L s] 4)) (4+1) (Gk Tryz.prog 0 4 (4+1) (vw L s e)):=Eq.mpr (by kernel_rfl) Ajx
def TB (a:RS) (b:Ab) (c:Nat):=getD (List.drop (Int.toNat (RS.at_ (Au a))) b) c TK.zero
def TP (a:RS) (b:Ab) (c:Nat):=getD (IC a b) (1+c) TK.zero
theorem Ai8:∀(L:Ab) (s:RS),R0 L s->Int.NonNeg ((↑L.length:Int)-(RS.at_ s+1))->HL s L (Al (J4 (1:Int) (D1 s L)) (Aa/\(((Aa/\TK.kind (Ef s L)=TK.kind (Ar L s))/\TK.text (Ef s L)=TK.text (Ar L s)/\(Aa/\TK.num (Ef s L)=TK.num (Ar L s))/\(Aa/\TK.line (Ef s L)=TK.line (Ar L s))/\(Aa/\TK.Ao (Ef s L)=TK.Ao (Ar L s))/\True)/\True)/\(Aa/\Aa/\Aa/\Aa/\(True/\Aa/\D1 s L-1=List.length (List.drop (Int.toNat (RS.at_ (Au s))) L)/\AH λ(i:Nat)=>Bh i (D1 s L-1)->(Aa/\TK.kind (TP s L i)=TK.kind (TB s L i))/\TK.text (TP s L i)=TK.text (TB s L i)/\(Aa/\TK.num (TP s L i)=TK.num (TB s L i))/\(Aa/\TK.line (TP s L i)=TK.line (TB s L i))/\(Aa/\TK.Ao (TP s L i)=TK.Ao (TB s L i))/\True)/\Aa/\RS.nest s=RS.nest (Au s))/\True))
:=by
 delta IC Bh Ef D1 TB HL TP;intro L s q y;simp only[Cd];have y:s.at_<L.length:=y;have hd:=Qb q;have C:=q.ok.a0;have B:((L.drop s.at_.toNat).length)-1=(L.drop (Au s).at_.toNat).length:=by show(L.drop s.at_.toNat).length-1=(L.drop (s.at_+1).toNat).length;rw[HC,HC];omega
 rw[RK q y];refine At (Cf.2 (by omega)) (At (SK.2 (by omega)) ⟨⟨rfl,rfl,rfl,rfl,rfl⟩,⟨B,⟨λi _=>?_⟩⟩,rfl⟩);have e:(L.drop s.at_.toNat).getD (1+i) TK.zero=(L.drop (Au s).at_.toNat).getD i TK.zero:=by show(L.drop s.at_.toNat).getD (1+i) TK.zero=(L.drop (s.at_+1).toNat).getD i TK.zero;rw[B2,B2,List.getElem?_drop,List.getElem?_drop];congr 2;omega
 rw[e];exact⟨rfl,rfl,rfl,rfl,rfl⟩
theorem Ai7:∀(L:Ab) (s:RS),R0 L s->s.at_<L.length->(A4 X4 60).call 107 [.ptr 4 0] (Bx (CI++Cl [Bl L s] 4)) (4+1) (Gk Tryz.prog 0 4 (4+1) (vu L s ())):=Eq.mpr (by kernel_rfl) Ai8
@[reducible] def dM:Ab->RS->List Ac->Prop:=λ(L:Ab) (s:RS) (ws:List Ac)=>(Af (some 5)/\Af ws.length/\Aa)/\Af (TK.text (Ef s L))/\(Aa/\Af (Int.ofNat ws.length))/\True
def Dh (a:RS) (b:Ab) (c:Nat):=getD (IC a b) c TK.zero
@[reducible] def Xe:Ab->RS->List Ac->Prop:=λ(L:Ab) (s:RS) (ws:List Ac)=>(Aa/\Aa/\Aa/\Aa/\(True/\Aa/\Af (D1 s L)/\AH λ(i:Nat)=>Bh i (D1 s L)->(Aa/\Af (TK.kind (Dh s L i)))/\Af (TK.text (Dh s L i))/\(Aa/\Af (TK.num (Dh s L i)))/\(Aa/\Af (TK.line (Dh s L i)))/\(Aa/\Af (TK.Ao (Dh s L i)))/\True)/\Aa/\Af (RS.nest s))/\(Aa/\Aa/\Aa/\Aa/\Af ws.length/\AH λ(i:Nat)=>C1 i ws.length->Af (getD ws i [])/\True)/\True
def FH:=(Aa/\Af XC)
@[reducible] def dN:Ab->RS->List Ac->Prop:=λ(L:Ab) (s:RS) (ws:List Ac)=>FH/\Xe L s ws
@[reducible] def UX:Ab->RS->List Ac->Prop:=λ(L:Ab) (s:RS) (ws:List Ac)=>Aa/\(false=AW (List.any ws (As L s))/\True)/\Xe L s ws
def EU (a:Nat):=Al (BJ .i64 ((↑a:Int)+1))
def Fq (a:Nat) (b:Nat):=(Aa/\(↑a:Int)+1=(↑b:Int))
def Gr (a:Nat):=(Aa/\(0:Int)=(↑a:Int))
def ZT (a:Nat) (b:List Ac) (c:Ab) (d:RS):=(Nat.le a b.length/\∀(q:Nat),Bh q a->getD b q []=TK.text (Ar c d)->False)
@[reducible] def dO:Ab->RS->List Ac->Prop:=λ(L:Ab) (s:RS) (ws:List Ac)=>True/\Ah (!bif An (TK.kind (Ef s L)) (2:Int)then AW (DC (TK.text (Ef s L)))else !AW (DC (TK.text (Ef s L)))) (UX L s ws) (HL s L ((∃(y:Nat),(ZT y ws L s)/\Aa/\((Gr y)/\dM L s ws)/\dN L s ws)/\∀(x:Nat),(ZT x ws L s)->Ah (AQ (↑x:Int) (Int.ofNat ws.length)) (Al (A9 (↑x:Int) ws.length) (Al (bif Nat.ble (ES x*1+0+Program.cellsOf Tryz.prog 9) ws.length then true else false) (Ah (decide (TK.text (getD (List.drop (Int.toNat (RS.at_ s)) L) 0 TK.zero)=getD ws (Int.toNat (↑x:Int)) [])) (Aa/\((!AQ (↑x:Int) (0:Int))=AW (List.any ws (As L s))/\True)/\Xe L s ws) (EU x (∃(q:Nat),(ZT q ws L s)/\Nat.le (Nat.succ (ws.length-q)) (ws.length-x)/\Aa/\((Fq x q)/\dM L s ws)/\dN L s ws))))) (UX L s ws)))
theorem Ah5:∀(L:Ab) (s:RS) (ws:List Ac),R0 L s->BK ws->Ah (An (Int.ofNat (D1 s L)) (0:Int)) (UX L s ws) (HL s L (Ah (!An (TK.kind (Ef s L)) (4:Int)) (Ah (!An (TK.kind (Ef s L)) (2:Int)) (UX L s ws) (HL s L (dO L s ws))) (HL s L (dO L s ws))))
:=by
 delta IC Ef D1 HL;intro L s ws O R;simp only[Cd,dM,Xe,dN,UX,dO,IC,Ef,Bh,Dh,C1,D1,FH,ES,EU,Fq,Gr,HL,ZT];have hd:=Qb O;have h0:=O.ok.a0;refine Aw (λc=>?_) λc=>?_
 ·rw[C0]at c;have W:=RL (L:=L) (s:=s) (by omega);refine XB λw _=>LQ.2 λe=>?_;have C:=(VI e).1;rw[W]at C;rcases YQ w with B|B<;>rw[B]at C<;>cases C
 rw[Dy]at c;have Y:s.at_<L.length:=by have:=O.ok.a1;omega
 rw[RK O Y];have K:A9 0 (L.drop s.at_.toNat).length=true:=Cf.2 (by omega);have M:(!bif An (Ar L s).kind 2 then DC (Ar L s).text else !DC (Ar L s).text)=true->(Ar L s).kind=2\/(Ar L s).kind=4->false=ws.any (As L s):=λh U=>XB λw S=>LQ.2 λe=>by obtain⟨C,B⟩:=VI e;have Z:=R.h w S;rw[B]at h;rw[Z,DU]at h;rw[C]at h;rcases YQ w with V|V<;>rw[V]at h<;>revert h<;>decide
 have q:(!bif An (Ar L s).kind 2 then DC (Ar L s).text else !DC (Ar L s).text)=false->(Ar L s).kind=2\/(Ar L s).kind=4->DC (Ar L s).text=decide ((Ar L s).kind=2):=λh U=>by rw[DU]at h;rcases U with e|e<;>rw[e]at h⊢ <;>revert h<;>cases DC (Ar L s).text<;>decide
 refine At K (Aw (λJ=>Aw (λE=>?_) λE=>?_) λJ=>?_)
 ·rw[EH,Dy]at J E;refine XB λw _=>LQ.2 λe=>?_;have C:=(VI e).1;rcases YQ w with B|B<;>omega
 ·rw[EG,C0]at E;exact At K (Aw (λy=>M y (.inl E)) λy=>At K (oh R (.inl E) (q y (.inl E)) (b:=true)))
 ·rw[EG,C0]at J;exact At K (Aw (λy=>M y (.inr J)) λy=>At K (oh R (.inr J) (q y (.inr J)) (b:=true)))
theorem Ah4:∀(L:Ab) (s:RS) (ws:List Ac),R0 L s->BK ws->(A4 (qs (Ar L s).text ws) 60).call 105 [.ptr 4 0,.AY (4+1) ws.length 1] (Bx (CI++Cl [Bl L s,Jc ws] 4)) (4+2) (Gk Tryz.prog 0 4 (4+2) (vq L s ws)):=Eq.mpr (by kernel_rfl) Ah5
theorem xD (l:Aj) (a:Int) (h:Z3 l=some a):NH l [.int .i64 a]:=by
 unfold Z3 at h;split at h
 ·injection h with h;subst h;exact nP _
 ·cases h
theorem lu (l:Aj) (a:Unit) (h:LD l=some a):NH l []:=by
 unfold LD at h;split at h
 ·exact nP _
 ·cases h
theorem nA:EY Tryz.prog [(120,Vn)]:=Cj Afs B5
theorem Af6 (L:Ab):Bo Tryz.prog 106 (vQ L):=V0 (ar:=λe=>[.int .i64 e]) (fz:=0) (λs a _ _=>⟨R9 L _,rfl,HG R8⟩) (λs a _ _=>⟨rfl,λ_=>rfl,HG λ_=>rfl⟩) (λB a=>⟨⟨rfl,rfl⟩,trivial⟩) xD λs a y q=>⟨X4,60,_,rfl,Bu,nA,λr h=>h,Ajw L s a y q⟩
theorem AfW (L:Ab):Bo Tryz.prog 107 (vN L):=V0 (ar:=λ_=>[]) (fz:=0) (λs a _ _=>⟨gC _,rfl,HG (OT L _)⟩) (λs a _ _=>⟨rfl,λ_=>rfl,HG λ_=>rfl⟩) (λB a=>trivial) lu λs a y q=>⟨X4,60,_,rfl,Bu,nA,λr h=>h,Ai7 L s y q⟩
theorem Afu (L:Ab):Bo Tryz.prog 105 (vJ L):=vO (λs a _ _=>⟨Abq _,rfl,Nv (OT L _) (gA _)⟩) (λs a _ _=>⟨rfl,λ_=>rfl,Nv (λ_=>rfl) λ_=>rfl⟩) λs a y q=>⟨qs (Ar L s).text a,60,_,rfl,Bu,nA,λr h=>h,Ah4 L s a y q⟩
def jZ (L:Ab):DX:=[(106,vQ L),(107,vN L),(105,vJ L)]
theorem tZ (L:Ab):Gi Tryz.prog (jZ L):=El (Af6 L) (El (AfW L) (El (Afu L) (YH _)))
def XZ (L:Ab):Ctx:=NL (jZ L) (tZ L)
def vv (L:Ab) (s:RS) (ws:List Ac):HO:=.gen (Aq L s ws) λy=>.br (An y.2.err 0) (.ret (.agg y.1.row) [Bl L y.2,Jc ws] 0) (.AB (CQ L y.2) [F4,Jc ws] 0)
def vr (L:Ab) (s:RS) (k:Int):HO:=.gen (A6 L s k) λy=>.br (An y.2.err 0) (.ret (.agg y.1.row) [Bl L y.2] 0) (.AB (CQ L y.2) [F4] 0)
def vt (L:Ab) (s:RS) (_:Unit):HO:=.gen (A6 L s 1) λy=>.br (An y.2.err 0) (.ret (.bs y.1.text) [Bl L y.2] 0) (.AB (CQ L y.2) [F4] 0)
def vP (L:Ab):Gx:=mW L (λs ws=>BK ws) (vv L)
def vL (L:Ab):Gx:=mP L Int Z3 (λs k=>k≠0) (vr L)
def vM (L:Ab):Gx:=mP L Unit LD (λs _=>True) (vt L)
theorem I5 {L:Ab} {s:RS} {p:RS->Prop} (h:R0 L s) (q:p s):C6 L (cP L s) s.nest p:=⟨s,rfl,rfl,h,q⟩
theorem xn {a b:TK} (h:a=b):a.kind=b.kind/\a.text=b.text/\a.num=b.num/\a.line=b.line/\a.Ao=b.Ao:=by subst h;exact⟨rfl,rfl,rfl,rfl,rfl⟩
theorem Fu {L:Ab} {s r:RS} (h:s=r):((L.drop s.at_.toNat).length=(L.drop r.at_.toNat).length/\AH λi=>i.succ<=(L.drop s.at_.toNat).length->((L.drop s.at_.toNat).getD i TK.zero).kind=((L.drop r.at_.toNat).getD i TK.zero).kind/\((L.drop s.at_.toNat).getD i TK.zero).text=((L.drop r.at_.toNat).getD i TK.zero).text/\((L.drop s.at_.toNat).getD i TK.zero).num=((L.drop r.at_.toNat).getD i TK.zero).num/\((L.drop s.at_.toNat).getD i TK.zero).line=((L.drop r.at_.toNat).getD i TK.zero).line/\((L.drop s.at_.toNat).getD i TK.zero).Ao=((L.drop r.at_.toNat).getD i TK.zero).Ao)/\s.nest=r.nest:=by subst h;exact⟨⟨rfl,⟨λi _=>⟨rfl,rfl,rfl,rfl,rfl⟩⟩⟩,rfl⟩
theorem m6 {L:Ab} {s r:RS} (h:s=r):FD L s=FD L r/\FC L s=FC L r/\s.err=r.err:=by subst h;exact⟨rfl,rfl,rfl⟩
theorem cQ {L:Ab} {s:RS} {b:Bool} (h:R0 L s) (q:b=false):(FI L s b).2=CK s 4/\(FI L s b).2.err=4:=by
 subst q;have:CK s 4={s with err:=4,DM:=s.at_}:=by unfold CK;rw[Am h.e]
 exact⟨rfl,by show(CK s 4).err=4;rw[this]⟩
theorem Ut {L:Ab} {s:RS} {b:Bool} (h:R0 L s) (q:b=true):FI L s b=(Ar L s,Au s)/\(FI L s b).2.err=0:=by subst q;exact⟨rfl,h.e⟩
def QX (a:List Ac):=(OG a.length λ(q:Nat)=>[AV.bs (getD a q [])])
@[reducible] def dQ:List Ac->Prop:=λ(ws:List Ac)=>(Aa/\Aa/\Aa/\Aa/\List.length (QX ws)=ws.length/\AH λ(i:Nat)=>C1 i (List.length (QX ws))->getD (QX ws) i []=getD ws i []/\True)/\True
def Bj (a:Ab) (b:RS):=B8 a (cP a b) (RS.nest b)
def Bk (a:Ab) (b:RS):=C6 a (cP a b) (RS.nest b)
def Cs (a:Ab) (b:RS):=(Bk a b λ(q:RS)=>RS.at_ q<(↑a.length:Int))
def Cu (a:Ab) (b:RS):=(Ar a (Bj a b),Au (Bj a b))
def Tw (a:Ab) (b:RS) (c:List Ac) (d:Nat):=getD (List.drop (Int.toNat (RS.at_ (Prod.snd (Aq a b c)))) a) d TK.zero
def Pm (a:Ab) (b:RS):=CK (Bj a b) (4:Int)
theorem Aju:∀(L:Ab) (s:RS) (ws:List Ac),R0 L s->BK ws->((fH ws.length ws.length λ(i:Nat)=>[AV.bs (getD ws i [])])/\Bk L s λ(s:RS)=>BK (QX ws))/\∀(y:RS),y=Bj L s->Ah (!AW (List.any (QX ws) (As L y))) ((Bk L y λ(s:RS)=>(4:Int)≠(0:Int))/\Ah (An (RS.err (Prod.snd (Aq L s ws))) (0:Int)) False (Aa/\((Aa/\(Aa/\FD L (Pm L y)=FD L (Prod.snd (Aq L s ws)))/\(Aa/\FC L (Pm L y)=FC L (Prod.snd (Aq L s ws)))/\(Aa/\RS.err (Pm L y)=RS.err (Prod.snd (Aq L s ws)))/\True)/\True)/\Mj/\dQ ws)) ((Cs L y)/\∀(q:TK×RS),q=(Cu L y)->Al (An (RS.err (Prod.snd (Aq L s ws))) (0:Int)) (Aa/\(((Aa/\TK.kind q.1=TK.kind (Prod.fst (Aq L s ws)))/\TK.text q.1=TK.text (Prod.fst (Aq L s ws))/\(Aa/\TK.num q.1=TK.num (Prod.fst (Aq L s ws)))/\(Aa/\TK.line q.1=TK.line (Prod.fst (Aq L s ws)))/\(Aa/\TK.Ao q.1=TK.Ao (Prod.fst (Aq L s ws)))/\True)/\True)/\(Aa/\Aa/\Aa/\Aa/\(True/\Aa/\D1 q.2 L=List.length (List.drop (Int.toNat (RS.at_ (Prod.snd (Aq L s ws)))) L)/\AH λ(i:Nat)=>Bh i (D1 q.2 L)->(Aa/\TK.kind (Dh q.2 L i)=TK.kind (Tw L s ws i))/\TK.text (Dh q.2 L i)=TK.text (Tw L s ws i)/\(Aa/\TK.num (Dh q.2 L i)=TK.num (Tw L s ws i))/\(Aa/\TK.line (Dh q.2 L i)=TK.line (Tw L s ws i))/\(Aa/\TK.Ao (Dh q.2 L i)=TK.Ao (Tw L s ws i))/\True)/\Aa/\RS.nest q.2=RS.nest (Prod.snd (Aq L s ws)))/\dQ ws))
:=by
 delta Bj Bk IC Cs Bh Cu Dh D1 Tw Mj QX Pm;intro L s ws B M;simp only[Cd,dQ,C1,QX];obtain⟨O,R⟩:=AlG ws;rw[R,Jf B];have K:ws.length=ws.length/\AH λi=>i.succ<=ws.length->ws.getD i []=ws.getD i []:=⟨rfl,⟨λ_ _=>rfl⟩⟩;refine⟨⟨O,I5 B M⟩,λy hy=>?_⟩;subst hy;rw[Jf B];refine Aw (λc=>?_) λc=>?_
 ·rw[EH]at c;obtain⟨C,E⟩:=cQ B c;exact⟨I5 B (by decide),Aw (λe=>by rw[C0]at e;rw[show(Aq L y ws).2.err=4 from E]at e;cases e) λ_=>⟨m6 C.symm,K⟩⟩
 ·rw[EG]at c;obtain⟨C,E⟩:=Ut B c;obtain⟨w,_,J⟩:=List.any_eq_true.1 c;refine⟨I5 B (Dz J),λy hy=>?_⟩;subst hy;exact At (C0.2 E) ⟨xn (congrArg Prod.fst C).symm,Fu (congrArg Prod.snd C).symm,K⟩
theorem Ajt:∀(L:Ab) (s:RS) (ws:List Ac),R0 L s->BK ws->(A4 (XZ L) 60).call 87 [.ptr 4 0,.AY (4+1) ws.length 1] (Bx (CI++Cl [Bl L s,Jc ws] 4)) (4+2) (Gk Tryz.prog 0 4 (4+2) (vv L s ws)):=Eq.mpr (by kernel_rfl) Aju
def Om (a:Ab) (b:RS) (c:Int):=Prod.snd (A6 a b c)
@[reducible] def dP:Ab->RS->Int->Prop:=λ(L:Ab) (s:RS) (k:Int)=>(Bk L s λ(s:RS)=>(4:Int)≠(0:Int))/\Ah (An (RS.err (Om L s k)) (0:Int)) False (Aa/\((Aa/\(Aa/\FD L (Pm L s)=FD L (Om L s k))/\(Aa/\FC L (Pm L s)=FC L (Om L s k))/\(Aa/\RS.err (Pm L s)=RS.err (Om L s k))/\True)/\True)/\Mj/\True)
def Td (a:Ab) (b:RS) (c:Int) (d:Nat):=getD (List.drop (Int.toNat (RS.at_ (Prod.snd (A6 a b c)))) a) d TK.zero
theorem Ah9:∀(L:Ab) (s:RS) (k:Int),R0 L s->(k=(0:Int)->False)->Ah (An (Int.ofNat (D1 s L)) (0:Int)) (dP L s k) (HL s L (Ah (!An (TK.kind (Ef s L)) k) (dP L s k) ((Cs L s)/\∀(y:TK×RS),y=(Cu L s)->Al (An (RS.err (Om L s k)) (0:Int)) (Aa/\(((Aa/\TK.kind y.1=TK.kind (Prod.fst (A6 L s k)))/\TK.text y.1=TK.text (Prod.fst (A6 L s k))/\(Aa/\TK.num y.1=TK.num (Prod.fst (A6 L s k)))/\(Aa/\TK.line y.1=TK.line (Prod.fst (A6 L s k)))/\(Aa/\TK.Ao y.1=TK.Ao (Prod.fst (A6 L s k)))/\True)/\True)/\(Aa/\Aa/\Aa/\Aa/\(True/\Aa/\D1 y.2 L=List.length (List.drop (Int.toNat (RS.at_ (Om L s k))) L)/\AH λ(i:Nat)=>Bh i (D1 y.2 L)->(Aa/\TK.kind (Dh y.2 L i)=TK.kind (Td L s k i))/\TK.text (Dh y.2 L i)=TK.text (Td L s k i)/\(Aa/\TK.num (Dh y.2 L i)=TK.num (Td L s k i))/\(Aa/\TK.line (Dh y.2 L i)=TK.line (Td L s k i))/\(Aa/\TK.Ao (Dh y.2 L i)=TK.Ao (Td L s k i))/\True)/\Aa/\RS.nest y.2=RS.nest (Om L s k))/\True))))
:=by
 delta Bj Bk IC Cs Bh Cu Dh Ef D1 Td HL Om;intro L s k q O;simp only[Cd,dP,Bj,Bk,Mj,Pm,Om];have hd:=Qb q;have R:=q.ok.a0;rw[Jf q];have J:decide ((Ar L s).kind=k)=false->(C6 L (cP L s) s.nest λ_=>(4:Int)≠0)/\Ah (An (A6 L s k).2.err 0) False (FD L (CK s 4)=FD L (A6 L s k).2/\FC L (CK s 4)=FC L (A6 L s k).2/\(CK s 4).err=(A6 L s k).2.err):=λh=>by obtain⟨C,E⟩:=cQ q h;exact⟨I5 q (by decide),Aw (λe=>by rw[C0]at e;rw[show(A6 L s k).2.err=4 from E]at e;cases e) λ_=>m6 C.symm⟩
 refine Aw (λc=>?_) λc=>?_
 ·rw[C0]at c;have M:=RL (L:=L) (s:=s) (by omega);exact J (by rw[M];exact Ej λe=>O e.symm)
 rw[Dy]at c;have K:s.at_<L.length:=by have:=q.ok.a1;omega
 rw[RK q K];refine At (Cf.2 (by omega)) (Aw (λB=>?_) λB=>?_)
 ·rw[EH,Dy]at B;exact J (Ej B)
 ·rw[EG,C0]at B;obtain⟨C,E⟩:=Ut q (Bi B);refine⟨I5 q K,λy hy=>?_⟩;subst hy;exact At (C0.2 E) ⟨xn (congrArg Prod.fst C).symm,Fu (congrArg Prod.snd C).symm⟩
theorem Ah8:∀(L:Ab) (s:RS) (k:Int),R0 L s->k≠0->(A4 (XZ L) 60).call 111 [.ptr 4 0,.int .i64 k] (Bx (CI++Cl [Bl L s] 4)) (4+1) (Gk Tryz.prog 0 4 (4+1) (vr L s k)):=Eq.mpr (by kernel_rfl) Ah9
theorem Af4 (L:Ab):Bo Tryz.prog 87 (vP L):=vO (λs a _ _=>⟨λ_=>⟨gC _,rfl,Nv (OT L _) (gA _)⟩,λ_=>⟨R9 L _,rfl,Nv R8 (gA _)⟩⟩) (λs a _ _=>⟨⟨rfl,λ_=>rfl,Nv (λ_=>rfl) λ_=>rfl⟩,⟨rfl,λ_=>rfl,Nv (λ_=>rfl) λ_=>rfl⟩⟩) λs a y q=>⟨XZ L,60,_,rfl,Bu,B5,λr h=>h,Ajt L s a y q⟩
theorem Afw (L:Ab):Bo Tryz.prog 111 (vL L):=V0 (ar:=λe=>[.int .i64 e]) (fz:=0) (λs a _ _=>⟨λ_=>⟨gC _,rfl,HG (OT L _)⟩,λ_=>⟨R9 L _,rfl,HG R8⟩⟩) (λs a _ _=>⟨⟨rfl,λ_=>rfl,HG λ_=>rfl⟩,⟨rfl,λ_=>rfl,HG λ_=>rfl⟩⟩) (λB a=>⟨⟨rfl,rfl⟩,trivial⟩) xD λs a y q=>⟨XZ L,60,_,rfl,Bu,B5,λr h=>h,Ah8 L s a y q⟩
def j7 (L:Ab):DX:=(87,vP L)::(111,vL L)::jZ L
theorem ta (L:Ab):Gi Tryz.prog (j7 L):=El (Af4 L) (El (Afw L) (tZ L))
def pt (L:Ab):Ctx:=NL (j7 L) (ta L)
def PT.text:PT->Ac
 |.mk _ s _ _ _ _=>s
def PT.num:PT->Int
 |.mk _ _ n _ _ _=>n
def PT.line:PT->Int
 |.mk _ _ _ l _ _=>l
def PT.Ao:PT->Int
 |.mk _ _ _ _ c _=>c
def PT.ks:PT->Av
 |.mk _ _ _ _ _ ks=>ks
mutual
def Md:PT->AV
 |.mk k s n l c ks=>.pv [.int .i64 k,.bs s,.int .i64 n,.int .i64 l,.int .i64 c,.Ay,.vec 1 ks.length λi=>(Bz ks).getD i []]
def Bz:Av->List Aj
 | []=>[]
 |x::q=>[Md x]::Bz q
end
def Bw (x:PT):AV:=.pv [.int .i64 x.kind,.bs x.text,.int .i64 x.num,.int .i64 x.line,.int .i64 x.Ao,.Ay,.vec 1 x.ks.length λi=>(Bz x.ks).getD i []]
def A5 (a:RS):=Ah (An (RS.err a) (0:Int))
def Th (a:Ab) (b:RS) (c:Nat):=getD (List.drop (Int.toNat (RS.at_ (Prod.snd (A6 a b (1:Int))))) a) c TK.zero
def IE (a:Ab) (b:RS):=A6 a (Bj a b) (1:Int)
def Pf (a:Ab) (b:RS):=Prod.snd (A6 a b (1:Int))
theorem Aix:∀(L:Ab) (s:RS),R0 L s->(Bk L s λ(s:RS)=>(1:Int)≠(0:Int))/\∀(y:TK×RS),y=IE L s->A5 y.2 (Al (An (RS.err (Pf L s)) (0:Int)) (Aa/\(TK.text y.1=TK.text (Prod.fst (A6 L s (1:Int)))/\True)/\(Aa/\Aa/\Aa/\Aa/\(True/\Aa/\D1 y.2 L=List.length (List.drop (Int.toNat (RS.at_ (Pf L s))) L)/\AH λ(i:Nat)=>Bh i (D1 y.2 L)->(Aa/\TK.kind (Dh y.2 L i)=TK.kind (Th L s i))/\TK.text (Dh y.2 L i)=TK.text (Th L s i)/\(Aa/\TK.num (Dh y.2 L i)=TK.num (Th L s i))/\(Aa/\TK.line (Dh y.2 L i)=TK.line (Th L s i))/\(Aa/\TK.Ao (Dh y.2 L i)=TK.Ao (Th L s i))/\True)/\Aa/\RS.nest y.2=RS.nest (Pf L s))/\True)) (Ah (An (RS.err (Pf L s)) (0:Int)) False (Aa/\((Aa/\(Aa/\FD L y.2=FD L (Pf L s))/\(Aa/\FC L y.2=FC L (Pf L s))/\(Aa/\RS.err y.2=RS.err (Pf L s))/\True)/\True)/\Mj/\True))
:=by delta Bj Bk IC A5 Bh Dh D1 Th Mj IE Pf;intro L s q;simp only[Cd];rw[Jf q];refine⟨I5 q (by decide),λy hy=>?_⟩;subst hy;exact Aw (λe=>At e ⟨rfl,Fu rfl⟩) λe=>Aw (λB=>by rw[e]at B;cases B) λ_=>m6 rfl
theorem Aiu:∀(L:Ab) (s:RS),R0 L s->(A4 (pt L) 60).call 89 [.ptr 4 0] (Bx (CI++Cl [Bl L s] 4)) (4+1) (Gk Tryz.prog 0 4 (4+1) (vt L s ())):=Eq.mpr (by kernel_rfl) Aix
theorem AfD (L:Ab):Bo Tryz.prog 89 (vM L):=V0 (ar:=λ_=>[]) (fz:=0) (λs a _ _=>⟨λ_=>⟨rfl,rfl,HG (OT L _)⟩,λ_=>⟨R9 L _,rfl,HG R8⟩⟩) (λs a _ _=>⟨⟨rfl,λ_=>rfl,HG λ_=>rfl⟩,⟨rfl,λ_=>rfl,HG λ_=>rfl⟩⟩) (λy a=>trivial) lu λs a q B=>⟨pt L,60,_,rfl,Bu,B5,λr h=>h,Aiu L s q⟩
theorem Zr (x:PT):Md x=Bw x:=by
 cases x
 conv=>lhs;unfold Md
 rfl
end Go.Proofs.YtlmmbanfhjaioaaGreatDoor
end
end
