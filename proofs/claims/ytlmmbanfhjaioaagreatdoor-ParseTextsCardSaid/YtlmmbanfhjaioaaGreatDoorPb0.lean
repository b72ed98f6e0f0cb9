/- Laid by program out of its parts: PbW, PbA, PbB, PbC, PbD. -/
import Derived.Test.YtlmmbanfhjaioaaGreatDoorPa3
import Derived.Test.YtlmmbanfhjaioaaGreatDoorTk3
import Derived.Test.YtlmmbanfhjaioaaGreatDoorMh
noncomputable section
set_option linter.unusedVariables false
set_option linter.unusedSimpArgs false
section
set_option maxRecDepth 100000
set_option maxHeartbeats 2000000
open Go Go.Ev
namespace Go.Proofs.YtlmmbanfhjaioaaGreatDoor
def We:Tr Ac->List AV->Option Ct:=λH args=>match args with
 | [x]=>ob (JK x) λw=>cond (DM H) (some (.A6 True (.ret (.bool (Ax (Dm w)))))) none
 |_=>none
theorem AfJ {H:Tr Ac} (h:DM H=true):H.get 0=some (.Js Y7):=by
 unfold DM at h;split at h
 ·rename_i l q;rw[q,OL _ _ h]
 ·cases h
theorem Ak7:∀(w:List UInt8),True/\Ax (GK (CN.str w))=Ax (Dm w)
:=by intro w;simp only[A9];rfl
theorem Ak6:∀(w:List UInt8),(AG (D4 Vc) 60).call 120 [.bs w] (AU Cm) 4 (Ch Tryz.prog false (.bool (Ax (Dm w)))):=Eq.mpr (by kernel_rfl) Ak7
theorem Ah9:Ci Tryz.prog 120 We:=by
 refine ZQ (gl:=Cm) (ng:=4) NN λH args ct q=>?_;unfold We at q;split at q
 ·rename_i x;obtain⟨w,hw,q⟩:=Ae.1 q;cases y:DM H with
  |false=>rw[y]at q;cases q
  |true=>rw[y]at q;injection q with q;exact⟨QJ y,_,_,q.symm,λ_=>⟨[.bs w],Ik (RV hw) Vi,⟨rfl,trivial⟩,D4 Vc,60,rfl,AW,s9,Ak6 w⟩⟩
 ·cases q
def cP (L:List TK) (s:RS):AV:=vK (L.drop s.at_.toNat)
def Aaz (c:AV) (m:Int):Ac:=.cells 68 .leaf (.CC [c,.int .i64 m]) 2 false
def Bl (L:List TK) (s:RS):Ac:=Aaz (cP L s) s.nest
def FO:Ac:=.cells 68 .leaf (.CC []) 2 false
def AcU (c:AV):Nat:=match c with
 |.vec _ n _=>n
 |_=>0
def B5 (L:List TK) (c:AV) (m:Int):RS:=⟨(L.length:Int)-(AcU c:Int),m,0,0⟩
structure R0 (L:List TK) (s:RS):Prop where
 ok:Az L s
 e:s.err=0
 w:s.Bp=0
def Ep (L:List TK) (s:RS):Int:=if s.Bp<L.length then(L.getD s.Bp.toNat TK.zero).line else 0
def El (L:List TK) (s:RS):Int:=if s.Bp<L.length then(L.getD s.Bp.toNat TK.zero).Ag else 0
def CG (L:List TK) (s:RS):AV:=.iface 65 (.agg [.int .i64 (Ep L s),.int .i64 (El L s),.int .i64 s.err])
def Jg (ws:List (List UInt8)):Ac:=.cells 9 .leaf (.rows 1 λi=>[.bs (ws.getD i [])]) ws.length false
structure CU (L:List TK) (c:AV) (m:Int) (p:RS->Prop):Prop where
 s:∃s,c=cP L s/\m=s.nest/\R0 L s/\p s
def LS (H:Tr Ac) (p:AV):Option ((AV×Int)×Nat):=match p with
 |.ptr id 0=>ob (H.get id) λo=>match o with
  |.cells ty c z n op=>cond (cond (Nat.beq ty 68) (cond (Nat.beq n 2) (not op) false) false) (ob (Kc c z 2 0) λcs=>match cs with
   | [c,.int .i64 m]=>some ((c,m),id)
   |_=>none) none
  |_=>none
 |_=>none
def fm (l:List AV):List UInt8:=match l with
 | [.bs t]=>t
 |_=>[]
def OE (m:Nat) (f:Nat->List AV):List (List UInt8):=AY ((List.range m).map λi=>fm (f i))
structure kV (m N:Nat) (f:Nat->List AV):Prop where
 f:∀i,i<m->f i=[.bs (fm (f i))]
 n:N=m
def tO (H:Tr Ac) (w:AV):Option ((List (List UInt8)×Nat)×Prop):=match w with
 |.sl r 0 m q=>ob (H.get r) λo=>match o with
  |.cells el c z N op=>cond (cond (Nat.beq el 9) (cond op false (cond (Nat.beq N q) (Nat.beq m q) false)) false) (ob (Kc c z m 0) λl=>ob (fk l) λws=>some ((ws,r),True)) none
  |_=>none
 |.AJ r m 1=>ob (H.get r) λo=>match o with
  |.cells el c z N op=>match c,z with
   |.leaf,.rows e f=>cond (cond (Nat.beq el 9) (cond op false (Nat.beq e 1)) false) (some ((OE m f,r),kV m N f)) none
   |_,_=>none
  |_=>none
 |_=>none
def hP (L:List TK) (A:Type) (ar:A->List AV) (pre:RS->A->Prop) (out:RS->A->HO) (fz:Nat):Ea:={X:=RS×A,gl:=Cm,G2:=DM,ng:=4,k:=1,args:=λx=>.ptr 4 0::ar x.2,Dv:=λx=>[Bl L x.1],pre:=λx=>R0 L x.1/\pre x.1 x.2,out:=λx=>out x.1 x.2,fz:=fz,find:=λ_ _=>none}
def mP (L:List TK) (A:Type) (rd:List AV->Option A) (pre:RS->A->Prop) (out:RS->A->HO):Da:=λH nx args=>cond (DM H) (List.casesOn args none λp l=>ob (LS H p) λq=>ob (rd l) λa=>cond (Nat.blt q.2 nx) (some (.A6 (CU L q.1.1 q.1.2 λs=>pre s a) (GO [q.2] nx (out (B5 L q.1.1 q.1.2) a)))) none) none
def hW (L:List TK) (pre:RS->List (List UInt8)->Prop) (out:RS->List (List UInt8)->HO):Ea:={X:=RS×List (List UInt8),gl:=Cm,G2:=DM,ng:=4,k:=2,args:=λx=>[.ptr 4 0,.AJ (4+1) x.2.length 1],Dv:=λx=>[Bl L x.1,Jg x.2],pre:=λx=>R0 L x.1/\pre x.1 x.2,out:=λx=>out x.1 x.2,fz:=0,find:=λ_ _=>none}
def mW (L:List TK) (pre:RS->List (List UInt8)->Prop) (out:RS->List (List UInt8)->HO):Da:=λH nx args=>cond (DM H) (match args with
 | [p,w]=>ob (LS H p) λq=>ob (tO H w) λv=>cond (cond (Nat.blt q.2 nx) (cond (Nat.blt v.1.2 nx) (not (Nat.beq q.2 v.1.2)) false) false) (some (.A6 (v.2/\CU L q.1.1 q.1.2 λs=>pre s v.1.1) (GO [q.2,v.1.2] nx (out (B5 L q.1.1 q.1.2) v.1.1)))) none
 |_=>none) none
def ZF:Ctx:={P:=Tryz.prog,tb:=[(120,We)],lp:=λ_ _=>none,cut:=λ_ _=>none}
theorem Ji {L:List TK} {s:RS} (h:R0 L s):B5 L (cP L s) s.nest=s:=by
 have C:=h.ok.a0;have B:=h.ok.a1;have y:=h.e;have q:=h.w;cases s with
 |mk a n e w=>
 simp only at C B y q;subst y;subst q;unfold B5;have:(L.length:Int)-((AcU (cP L ⟨a,n,0,0⟩):Nat):Int)=a:=by show(L.length:Int)-(((L.drop a.toNat).length:Nat):Int)=a;rw[List.length_drop];omega
 rw[this]
theorem TW {ρ:Af} {b:CM} {el n:Nat} {c:Tr AV} {z:CB} {op:Bool} {l:List AV} {x:Obj} (E:Kc c z n 0=some l) (h:OR ρ b (.cells el c z n op) x):OR ρ b (.cells el .leaf (.CC l) n op) x:=by
 obtain⟨L,K⟩:=Oq c z n 0 l E;cases h with
 |cells _ _ _ _ _ cs fz C0 hn B C q=>refine .cells _ _ _ _ _ cs fz C0 hn B C λk a J y=>q k a J ?_;rw[FJ]at y;have y:l[k %l.length]? =some a:=y;rw[Nat.mod_eq_of_lt (by omega)]at y;have:=K k a y;rwa[Nat.zero_add]at this
theorem SZ {α:Type} {b:Bool} {x:Option α} {y:α} (h:cond b x none=some y):b=true/\x=some y:=by
 cases b with
 |true=>exact⟨rfl,h⟩
 |false=>cases h
theorem lK.{u} {α:Type u} {b:Bool} {x:Option α} {y:α} (h:cond b x none=some y):b=true/\x=some y:=by
 cases b with
 |true=>exact⟨rfl,h⟩
 |false=>cases h
theorem OU {α:Type 1} {b:Bool} {x:Option α} {y:α} (h:cond b x none=some y):b=true/\x=some y:=by
 cases b with
 |true=>exact⟨rfl,h⟩
 |false=>cases h
theorem nC {H:Tr Ac} {p:AV} {c:AV} {m:Int} {id:Nat} (h:LS H p=some ((c,m),id)):p=.ptr id 0/\Kh H id (Aaz c m)/\∃ty c z n op,H.get id=some (.cells ty c z n op):=by
 unfold LS at h;split at h
 ·rename_i i;obtain⟨o,B,h⟩:=Ae.1 h;split at h
  ·rename_i ty cc z n op;obtain⟨q,h⟩:=SZ h;obtain⟨cs,y,h⟩:=Ae.1 h;split at h
   ·rename_i S R;injection h with h;injection h with h O;injection h with M L;subst O;subst M;subst L;obtain⟨J,q⟩:=A4 q;obtain⟨E,C⟩:=A4 q;rw[Nat.beq_eq]at J E;have C:op=false:=by cases op<;>simp_all
    subst J;subst E;subst C;exact⟨rfl,⟨⟨_,B,λρ b x K=>TW y K⟩,rfl⟩,_,_,_,_,_,B⟩
   ·cases h
  ·cases h
 ·cases h
theorem AcJ:∀ {l:List AV} {ws:List (List UInt8)},fk l=some ws->ws.length=l.length/\∀k a,l[k]? =some a->VA a (.bs (ws.getD k []))
 | [],ws,h=>by injection h with h;subst h;exact⟨rfl,λk a h=>by simp at h⟩
 |x::l,ws,h=>by
  obtain⟨w,hw,h⟩:=Ae.1 (show(ob (JK x) λw=>ob (fk l) λws=>some (w::ws))=some ws from h);obtain⟨E,y,h⟩:=Ae.1 h;injection h with h;subst h;obtain⟨C,B⟩:=AcJ y;refine⟨by simp[C],λk a q=>?_⟩;cases k with
  |zero=>injection q with q;subst q;exact RV hw
  |succ k=>exact B k a q
theorem Apo {H:Tr Ac} {w:AV} {ws:List (List UInt8)} {r:Nat} {q:Prop} (h:tO H w=some ((ws,r),q)) (hq:q):Kh H r (Jg ws)/\(∃ty c z n op,H.get r=some (.cells ty c z n op))/\∀E F nx ρ w',Rel E F nx ρ H.get w'->∀u,VR ρ w u->VR ρ (.AJ r ws.length 1) u:=by
 unfold tO at h;split at h
 ·rename_i i m m';obtain⟨o,O,h⟩:=Ae.1 h;split at h
  ·rename_i ty cc z N op;obtain⟨C,h⟩:=lK h;obtain⟨l,hl,h⟩:=Ae.1 h;obtain⟨L,Z,h⟩:=Ae.1 h;injection h with h;injection h with h _;injection h with h R;subst h;subst R;obtain⟨U,C⟩:=A4 C;cases y:op with
   |true=>rw[y]at C;cases C
   |false=>
   rw[y]at C;obtain⟨S,e3⟩:=A4 (show cond (Nat.beq N m') (Nat.beq m m') false=true from C);rw[Nat.beq_eq]at U S e3;subst U;subst S;subst y;subst e3;obtain⟨q1,q2⟩:=Oq cc z m 0 l hl;obtain⟨t1,t2⟩:=AcJ Z;refine⟨⟨⟨_,O,λρ b x W=>?_⟩,rfl⟩,⟨_,_,_,_,_,O⟩,λE F nx ρ w' r0 u hu=>?_⟩
   ·cases W with
    |cells _ _ _ _ _ cs fz C0 hn y M B=>
     refine .cells _ _ _ _ _ cs fz C0 (by omega) (λ_=>by have:=y rfl;omega) M λk a hk J=>?_;have K:k<l.length:=by omega
     have hc:=q2 k l[k] (List.getElem?_eq_getElem K);rw[Nat.zero_add]at hc;obtain⟨v,C,R⟩:=B k l[k] (by omega) hc;rw[FJ]at J;have J:([AV.bs (L.getD (k/1) [])]:List AV)[k %1]? =some a:=J;rw[Nat.div_one,Nat.mod_one]at J;injection J with J;subst J;exact⟨v,C,t2 k l[k] (List.getElem?_eq_getElem K) ρ v R⟩
   ·cases hu with
    |sl _ _ _ _ b hb=>
     obtain⟨x,aa,Y⟩:=r0.ob _ _ b O hb;cases Y with
     |cells _ _ _ _ _ cs fz C0 hn y M B=>
     have hN:=y rfl;have:=VR.AJ (ρ:=ρ) i L.length 1 b hb (by decide) (by omega);rw[Nat.div_one,<-hN,show L.length=m by omega]at this;rw[show L.length=m by omega];exact this
  ·cases h
 ·rename_i i m;obtain⟨o,O,h⟩:=Ae.1 h;split at h
  ·rename_i ty cc z N op;split at h
   ·rename_i e f;obtain⟨C,h⟩:=lK h;injection h with h;injection h with h h3;injection h with h R;subst h;subst R;subst h3;obtain⟨U,C⟩:=A4 C;cases y:op with
    |true=>rw[y]at C;cases C
    |false=>
    rw[y]at C;have S:Nat.beq e 1=true:=C;rw[Nat.beq_eq]at U S;subst U;subst S;subst y;have V:(OE m f).length=m:=by unfold OE;rw[Du];simp
    have ab:=hq.n;refine⟨⟨⟨_,O,λρ b x W=>?_⟩,rfl⟩,⟨_,_,_,_,_,O⟩,λE F nx ρ w' r0 u hu=>by rw[V];exact hu⟩;cases W with
    |cells _ _ _ _ _ cs fz C0 hn y M B=>
     refine .cells _ _ _ _ _ cs fz C0 (by omega) (λ_=>by have:=y rfl;omega) M λk a hk J=>B k a (by omega) ?_;rw[FJ]at J⊢;have J:([AV.bs ((OE m f).getD (k/1) [])]:List AV)[k %1]? =some a:=J;show(f (k/1))[k %1]? =some a;rw[Nat.div_one,Nat.mod_one]at J⊢;have K:k<m:=by omega
     have hg:(OE m f).getD k []=fm (f k):=by unfold OE;rw[Du,List.getD_eq_getElem?_getD,List.getElem?_map,List.getElem?_range K];rfl
     rw[hg,<-hq.f k K]at J;exact J
   ·cases h
  ·cases h
 ·cases h
theorem Apt (ws:List (List UInt8)):kV ws.length ws.length (λi=>[.bs (ws.getD i [])])/\OE ws.length (λi=>[.bs (ws.getD i [])])=ws:=by
 refine⟨⟨λi _=>rfl,rfl⟩,?_⟩;unfold OE;rw[Du];apply List.ext_getElem
 ·simp
 ·intro i y q;simp[fm,List.getD_eq_getElem?_getD,List.getElem?_eq_getElem q]
theorem XY (q:List (Nat×Nat)) (L:List TK) (s:RS):AR q (cP L s) (cP L s):=⟨rfl,rfl,⟨λi _=>⟨⟨rfl,rfl⟩,rfl,⟨rfl,rfl⟩,⟨rfl,rfl⟩,⟨rfl,rfl⟩,trivial⟩⟩⟩
theorem pA (q:List (Nat×Nat)) (L:List TK) (s:RS):Ed q (Bl L s) (Bl L s):=⟨rfl,rfl,rfl,⟨trivial,XY q L s⟩,rfl,rfl⟩
theorem Ajb (q:List (Nat×Nat)) (ws:List (List UInt8)):Ed q (Jg ws) (Jg ws):=⟨rfl,rfl,rfl,rfl,⟨λi _=>⟨rfl,trivial⟩⟩⟩
theorem nS {H:Tr Ac} {l:List (Nat×Ac)} (q:DM H=true) (h:∀p∈l,∃ty c z n op,H.get p.1=some (.cells ty c z n op)):DM (Ck l H)=true:=by
 unfold DM at q⊢;have:(Ck l H).get 0=H.get 0:=XP λp B e=>by obtain⟨ty,c,z,n,op,y⟩:=h p B;rw[e]at y;rw[y]at q;cases q
 rw[this];exact q
theorem Wt (H:Tr Ac) (h:DM H=true):∀p∈Cm,H.get p.1=some p.2:=λp q=>by rw[List.mem_singleton.1 q];exact AfJ h
theorem nR:∀p∈Cm,Hf p.2=true/\p.1<4:=λp q=>by rw[List.mem_singleton.1 q];exact⟨rfl,by decide⟩
theorem OS (L:List TK) (s:RS):HA (Bl L s):=by
 intro a q;rcases List.mem_cons.1 q with rfl|q
 ·exact XY [] L s
 ·rw[List.mem_singleton.1 q];exact⟨rfl,rfl⟩
theorem SX:HA FO:=λa q=>by cases q
theorem lJ (ws:List (List UInt8)):HA (Jg ws):=λi _=>⟨rfl,trivial⟩
def RM:HO->Prop
 |.ret v os m=>m=0/\(∀q,DD q 4 v=v)/\∀o∈os,∀q,Cy q o=o
 |.AA v os m=>m=0/\(∀q,DD q 4 v=v)/\∀o∈os,∀q,Cy q o=o
 |.br _ t e=>RM t/\RM e
 |.gen a f=>RM (f a)
theorem zf {os:List Ac} (h:∀o∈os,∀q,Cy q o=o) (q:Nat->Nat):os.map (Cy q)=os:=by
 induction os with
 |nil=>rfl
 |cons a l y=>rw[List.map_cons,h a (List.mem_cons_self ..),y λo B=>h o (List.mem_cons_of_mem _ B)]
theorem WD {ng nx:Nat} {ids:List Nat}:∀ {o:HO},RM o->hOut (GO ids nx o)=hOut (FM ng ids nx o)
 |.ret v os m,h=>by obtain⟨rfl,B,y⟩:=h;show hOut (EY (nx+0) λn=>Cv.ret v ((ids++List.range' nx 0).zip os) n)=hOut (EY (nx+0) λn=>(λq=>Cv.ret (DD (BI ng q) 4 v) (q.zip (os.map (Cy (BI ng q)))) n) (ids++List.range' nx 0));rw[FL,FL];show some (false,v,(ids++List.range' nx 0).zip os,nx+0)=some (false,DD (BI ng (ids++List.range' nx 0)) 4 v,(ids++List.range' nx 0).zip (os.map (Cy (BI ng (ids++List.range' nx 0)))),nx+0);rw[B,zf y]
 |.AA v os m,h=>by obtain⟨rfl,B,y⟩:=h;show hOut (EY (nx+0) λn=>Cv.AA v ((ids++List.range' nx 0).zip os) n)=hOut (EY (nx+0) λn=>(λq=>Cv.AA (DD (BI ng q) 4 v) (q.zip (os.map (Cy (BI ng q)))) n) (ids++List.range' nx 0));rw[FL,FL];show some (true,v,(ids++List.range' nx 0).zip os,nx+0)=some (true,DD (BI ng (ids++List.range' nx 0)) 4 v,(ids++List.range' nx 0).zip (os.map (Cy (BI ng (ids++List.range' nx 0)))),nx+0);rw[B,zf y]
 |.br b t e,h=>by show cond b (hOut (GO ids nx t)) (hOut (GO ids nx e))=cond b (hOut (FM ng ids nx t)) (hOut (FM ng ids nx e));rw[WD h.1,WD h.2]
 |.gen a f,h=>WD (o:=f a) h
theorem WC {nx:Nat} {ids:List Nat}:∀ {o:HO} {p:Bool} {v:AV} {up:List (Nat×Ac)} {nx':Nat},RM o->LQ ids.length o->hOut (GO ids nx o)=some (p,v,up,nx')->up.map (·.1)=ids
 |.ret v os m,p,B,up,nx',h,hc,y=>by obtain⟨rfl,_,_⟩:=h;have q:hOut (EY (nx+0) λn=>Cv.ret v ((ids++List.range' nx 0).zip os) n)=some (p,B,up,nx'):=y;rw[FL]at q;injection q with q;injection q with _ q;injection q with _ q;injection q with q _;subst q;rw[List.range'_zero,List.append_nil];exact List.map_fst_zip (by have:=hc.2.1;omega)
 |.AA v os m,p,B,up,nx',h,hc,y=>by obtain⟨rfl,_,_⟩:=h;have q:hOut (EY (nx+0) λn=>Cv.AA v ((ids++List.range' nx 0).zip os) n)=some (p,B,up,nx'):=y;rw[FL]at q;injection q with q;injection q with _ q;injection q with _ q;injection q with q _;subst q;rw[List.range'_zero,List.append_nil];exact List.map_fst_zip (by have:=hc.2.1;omega)
 |.br b t e,p,v,up,nx',h,hc,y=>by
  have y:cond b (hOut (GO ids nx t)) (hOut (GO ids nx e))=some (p,v,up,nx'):=y;cases b with
  |true=>exact WC h.1 (hc.1 rfl) y
  |false=>exact WC h.2 (hc.2 rfl) y
 |.gen a f,p,v,up,nx',h,hc,y=>WC (o:=f a) h hc y
theorem W1 {g:FuncId} {L:List TK} {A:Type} {ar:A->List AV} {rd:List AV->Option A} {pre:RS->A->Prop} {out:RS->A->HO} {fz:Nat} (V:∀s a,R0 L s->pre s a->LQ 1 (out s a)) (hs:∀s a,R0 L s->pre s a->RM (out s a)) (aa:∀σ a,AH σ (ar a) (ar a)) (Z:∀l a,rd l=some a->MC l (ar a)) (Y:∀s a,R0 L s->pre s a->∃(cx:Ctx) (fuel:Nat) (K:KC),cx.P=Tryz.prog/\cx.P.follows .mixedOrders=true/\DP cx.P cx.tb/\(∀r,K r->Cz Tryz.prog fz 4 (4+1) (out s a) r)/\(AG cx fuel).call g (.ptr 4 0::ar a) (AU (Cm++A0 [Bl L s] 4)) (4+1) K):AD Tryz.prog g (mP L A rd pre out):=by
 intro H nx args hc C;obtain⟨hg,C⟩:=OU C;cases args with
 |nil=>cases C
 |cons p0 l=>
 obtain⟨⟨⟨c,m⟩,id⟩,O,C⟩:=Ae.1 (show(ob (LS H p0) λq=>ob (rd l) λa=>cond (Nat.blt q.2 nx) (some (Cv.A6 (CU L q.1.1 q.1.2 λs=>pre s a) (GO [q.2] nx (out (B5 L q.1.1 q.1.2) a)))) none)=some hc from C);obtain⟨a,ha,C⟩:=Ae.1 C;obtain⟨hb,C⟩:=OU C;injection C with C;subst C;intro p v up nx' y E F ρ w r;obtain⟨⟨s,W,U,R,B⟩,y⟩:=LY y;simp only at W U hb y;subst W;subst U;rw[Ji R]at y;obtain⟨rfl,hd,J⟩:=nC O;have hS:AD Tryz.prog g ((hP L A ar pre out fz).at (s,a) [id]).AE:=JZ _ nR Wt (λx=>rfl) (λx o ho=>by rw[List.mem_singleton.1 ho];rfl) (λx M=>V x.1 x.2 M.1 M.2) λx M=>by obtain⟨cx,fuel,K,e1,e2,e3,e4,e5⟩:=Y x.1 x.2 M.1 M.2;exact⟨_,lH (e1▸Is e2 e3 fuel),K,e4,e5⟩
 refine NO (S:=hP L A ar pre out fz) (x:=(s,a)) (ids:=[id]) (os:=[Bl L s]) (args':=.ptr id 0::ar a) hS ⟨R,B⟩ (nS hg λp M=>by rw[List.mem_singleton.1 M];exact J) rfl rfl ?_ rfl (λq O=>by rw[List.mem_singleton.1 O];exact hd) ⟨⟨rfl,rfl⟩,aa _ _⟩ ⟨?_,trivial⟩ ((WD (hs s a R B)).symm.trans y) (λi hi=>by have hu:=WC (ids:=[id]) (hs s a R B) (V s a R B) y;rw[<-hu]at hi;obtain⟨q,O,rfl⟩:=List.mem_map.1 hi;exact⟨q,O,rfl⟩) r λvs At=>?_
 ·show(List.all [id] λj=>Nat.blt j nx)=true;simp only[List.all_cons,List.all_nil,hb,Bool.and_true]
 ·show(match(H.set id (Bl L s)).get id with
   |none=>False
   |some o=>Ed [(4,id)] (Bl L s) o)
  rw[Tr.F7];exact pA _ L s
 ·cases At with
  |cons _ _ _ vs h1 h2=>exact .cons _ _ _ _ h1 (Z l a ha ρ vs h2)
theorem zb {g:FuncId} {L:List TK} {pre:RS->List (List UInt8)->Prop} {out:RS->List (List UInt8)->HO} (Y:∀s a,R0 L s->pre s a->LQ 2 (out s a)) (hs:∀s a,R0 L s->pre s a->RM (out s a)) (ab:∀s a,R0 L s->pre s a->∃(cx:Ctx) (fuel:Nat) (K:KC),cx.P=Tryz.prog/\cx.P.follows .mixedOrders=true/\DP cx.P cx.tb/\(∀r,K r->Cz Tryz.prog 0 4 (4+2) (out s a) r)/\(AG cx fuel).call g [.ptr 4 0,.AJ (4+1) a.length 1] (AU (Cm++A0 [Bl L s,Jg a] 4)) (4+2) K):AD Tryz.prog g (mW L pre out):=by
 intro H nx args hc J;obtain⟨hg,J⟩:=OU J;split at J
 case h_2=>cases J
 rename_i p0 w;obtain⟨⟨⟨c,m⟩,id⟩,R,J⟩:=Ae.1 J;obtain⟨⟨⟨ws,B⟩,af⟩,hw,J⟩:=Ae.1 J;obtain⟨hb,J⟩:=OU J;injection J with J;subst J;intro p v up nx' y E F ρ w0 r;obtain⟨⟨V,s,Z,W,U,C⟩,y⟩:=LY y;simp only at V Z W hb y;subst Z;subst W;rw[Ji U]at y;obtain⟨rfl,hd,O⟩:=nC R;obtain⟨ae,M,aa⟩:=Apo hw V;obtain⟨b1,hb⟩:=A4 hb;obtain⟨b2,b3⟩:=A4 hb;have b3:Nat.beq id B=false:=by cases hx:Nat.beq id B<;>simp_all
 have ad:id≠B:=λe=>by rw[e,Nat.beq_refl]at b3;cases b3
 have hS:AD Tryz.prog g ((hW L pre out).at (s,ws) [id,B]).AE:=JZ _ nR Wt (λx=>rfl) (λx o ho=>by
   rcases List.mem_cons.1 ho with rfl|ho
   ·rfl
   ·rw[List.mem_singleton.1 ho];rfl) (λx hp=>Y x.1 x.2 hp.1 hp.2) λx hp=>by
  obtain⟨cx,fuel,K,e1,e2,e3,e4,e5⟩:=ab x.1 x.2 hp.1 hp.2;exact⟨_,lH (e1▸Is e2 e3 fuel),K,e4,e5⟩
 refine NO (S:=hW L pre out) (x:=(s,ws)) (ids:=[id,B]) (os:=[Bl L s,Jg ws]) (args':=[.ptr id 0,.AJ B ws.length 1]) hS ⟨U,C⟩ (nS hg λp hp=>?_) rfl ?_ ?_ rfl (λq R=>?_) ⟨⟨rfl,rfl⟩,⟨rfl,rfl,rfl⟩,trivial⟩ ⟨?_,?_,trivial⟩ ((WD (hs s ws U C)).symm.trans y) (λi hi=>?_) r λvs At=>?_
 ·rcases List.mem_cons.1 hp with rfl|hp
  ·exact O
  ·rw[List.mem_singleton.1 hp];exact M
 ·show cond (List.any [B] (Nat.beq id)) false true=true;simp only[List.any_cons,List.any_nil,b3,Bool.or_false,cond_false]
 ·show(List.all [id,B] λj=>Nat.blt j nx)=true;simp only[List.all_cons,List.all_nil,b1,b2,Bool.and_true]
 ·rcases List.mem_cons.1 R with rfl|R
  ·exact hd
  ·rw[List.mem_singleton.1 R];exact ae
 ·show(match((H.set B (Jg ws)).set id (Bl L s)).get id with
   |none=>False
   |some o=>Ed [(4,id),(4+1,B)] (Bl L s) o)
  rw[Tr.F7];exact pA _ L s
 ·show(match((H.set B (Jg ws)).set id (Bl L s)).get B with
   |none=>False
   |some o=>Ed [(4,id),(4+1,B)] (Jg ws) o)
  rw[Tr.Ks _ ad,Tr.F7];exact Ajb _ ws
 ·have hu:=WC (ids:=[id,B]) (hs s ws U C) (Y s ws U C) y;rw[<-hu]at hi;obtain⟨q,R,rfl⟩:=List.mem_map.1 hi;exact⟨q,R,rfl⟩
 ·cases At with
  |cons _ _ _ vs h1 h2=>cases h2 with
  |cons _ _ _ vs h2 h3=>exact .cons _ _ _ _ h1 (.cons _ _ _ _ (aa E F nx ρ w0 r _ h2) h3)
theorem SY (L:List TK) (s:RS):JS 4 (CG L s):=λa q=>by simp only[List.mem_cons,List.not_mem_nil,or_false]at q;rcases q with rfl|rfl|rfl<;>exact⟨rfl,rfl⟩
theorem HC {p:Ac->Prop} {o:Ac} (h:p o):∀x∈[o],p x:=λx q=>by rw[List.mem_singleton.1 q];exact h
theorem Nr {p:Ac->Prop} {o q:Ac} (h:p o) (B:p q):∀x∈[o,q],p x:=λx y=>by
 rcases List.mem_cons.1 y with rfl|y
 ·exact h
 ·rw[List.mem_singleton.1 y];exact B
def Aay (L:List TK) (s:RS) (e:Int):HO:=.AA (CG L (Bj s e)) [FO] 0
def Aaw (L:List TK) (s:RS) (_:Unit):HO:=.gen (Aq L s,Ai s) λy=>.ret (.agg y.1.row) [Bl L y.2] 0
def oIs (L:List TK) (s:RS) (ws:List (List UInt8)):HO:=.gen s λy=>.ret (.bool (Ax (ws.any (Ah L y)))) [Bl L y,Jg ws] 0
structure BK (ws:List (List UInt8)):Prop where
 h:∀w∈ws,Dm w=decide (I2 w=2)
 l:ws.length<=1000
def zd (L:List TK):Da:=mP L Int U1 (λs e=>e≠0) (Aay L)
def z9 (L:List TK):Da:=mP L Unit Kb (λs _=>s.at_<L.length) (Aaw L)
def z6 (L:List TK):Da:=mW L (λs ws=>BK ws) (oIs L)
def sIx (t:List UInt8) (ws:List (List UInt8)):CV:=thin Nat [0,1,7] (λi=>[(8,.int .i64 i)]) (λs i=>i<=ws.length/\∀j,j<i->ws.getD j []≠t) λi=>ws.length-i
def vr (t:List UInt8) (ws:List (List UInt8)):Ctx:={P:=Tryz.prog,tb:=[(120,We)],lp:=λf r=>cond (Nat.beq f 112) (cond (Nat.beq r 2) (some (sIx t ws)) none) none,cut:=λ_ _=>none}
theorem wW {L:List TK} {s:RS} (h:R0 L s) (q:s.at_<L.length) (i:Nat):(L.drop s.at_.toNat).getD i TK.zero=L.getD (s.at_.toNat+i) TK.zero:=by rw[List.getD_eq_getElem?_getD,List.getElem?_drop,<-List.getD_eq_getElem?_getD]
theorem SI {L:List TK} {s:RS} (h:R0 L s) (q:s.at_<L.length):(L.drop s.at_.toNat).getD 0 TK.zero=Aq L s:=by rw[wW h q,Nat.add_zero];have:=h.e;unfold Aq;rw[if_neg (by omega)]
theorem SJ {L:List TK} {s:RS} (q:(L.length:Int)<=s.at_):Aq L s=TK.zero:=by unfold Aq;rw[if_pos (.inr q)]
theorem Qw {L:List TK} {s:RS} (h:R0 L s):((L.drop s.at_.toNat).length:Int)=L.length-s.at_:=by have:=h.ok.a0;have:=h.ok.a1;rw[List.length_drop];omega
theorem Aed:Tryz.prog.cellsOf 9=1:=by kernel_rfl
theorem Y5 {L:List TK} {s:RS} {ws:List (List UInt8)} (h:∀w∈ws,Ah L s w=false):false=ws.any (Ah L s):=by symm;rw[List.any_eq_false];intro w q;rw[h w q];decide
theorem WG {L:List TK} {s:RS} {w:List UInt8} (h:Ah L s w=true):(Aq L s).kind=I2 w/\(Aq L s).text=w:=by unfold Ah at h;rw[Bool.and_eq_true,decide_eq_true_eq,decide_eq_true_eq]at h;exact h
theorem bZ (w:List UInt8):I2 w=2\/I2 w=4:=by unfold I2;split<;>simp
theorem u6 {L:List TK} {s:RS} {ws:List (List UInt8)} (R:BK ws) (V:(Aq L s).kind=2\/(Aq L s).kind=4) (ht:Dm (Aq L s).text=decide ((Aq L s).kind=2)) {b:Bool}: (∃E,(E<=ws.length/\∀(j:Nat),j.succ<=E->ws.getD j []=(Aq L s).text->False)/\(0:Int)=(E:Int))/\∀(x:Nat),(x<=ws.length/\∀(j:Nat),j.succ<=x->ws.getD j []=(Aq L s).text->False)-> Ad (AP (x:Int) (ws.length:Int)) (Ap (Bn (x:Int) ws.length) (Ap (Nat.ble (x+0+Tryz.prog.cellsOf 9) ws.length) (Ad (decide ((Aq L s).text=ws.getD x [])) ((!AP (x:Int) 0)=ws.any (Ah L s)) (Ap (Bo .i64 ((x:Int)+1)) (∃C,(C<=ws.length/\∀(j:Nat),j.succ<=C->ws.getD j []=(Aq L s).text->False)/\(ws.length-C).succ<=ws.length-x/\(x:Int)+1=(C:Int)))))) (false=ws.any (Ah L s)):=by
 have Y:=R.l;refine⟨⟨0,⟨Nat.zero_le _,λj J=>by omega⟩,rfl⟩,λx O=>?_⟩;obtain⟨O,J⟩:=O;refine Aj (λc=>?_) λc=>?_
 ·rw[B1]at c;have B:x<ws.length:=by omega
  refine An (BJ.2 (by omega)) (An (by rw[Aed];exact Nat.ble_eq_true_of_le (by omega)) (Aj (λd=>?_) λd=>An (Be.2 (by omega)) ⟨x+1,⟨B,λj Z y=>?_⟩,by omega,rfl⟩))
  ·rw[decide_eq_true_eq]at d;have q:ws.getD x []∈ws:=by rw[List.getD_eq_getElem?_getD,List.getElem?_eq_getElem B];exact List.getElem_mem _
   have W:Ah L s (ws.getD x [])=true:=by unfold Ah;rw[Bool.and_eq_true,decide_eq_true_eq,decide_eq_true_eq];refine⟨?_,d⟩;have y:=R.h _ q;rw[<-d,ht]at y;have S:=bZ (ws.getD x []);rw[<-d]at S⊢;rcases V with e|e<;>rcases S with U|U<;>rw[e,U]at y⊢ <;>first|rfl|(revert y;decide)
   have:ws.any (Ah L s)=true:=List.any_eq_true.2 ⟨_,q,W⟩;rw[this,Bool.not_eq_true',Cg];omega
  ·rw[decide_eq_false_iff_not]at d;by_cases e:j=x
   ·subst e;exact d y.symm
   ·exact J j (by omega) y
 ·rw[Cg]at c;refine Y5 λw K=>Bool.eq_false_iff.2 λe=>?_;obtain⟨j,M,rfl⟩:=List.getElem_of_mem K;refine J j (by omega) ?_;rw[List.getD_eq_getElem?_getD,List.getElem?_eq_getElem M];exact(WG e).2.symm
def IB (a:RS) (b:List TK):=List.drop (Int.toNat (RS.at_ a)) b
def D7 (a:RS) (b:List TK):=List.getD (IB a b) 0 TK.zero
def DO (a:RS) (b:List TK):=List.length (IB a b)
def Mc:=(Aa/\Aa/\Aa/\Aa/\(True/\True)/\True)
def HK (a:RS) (b:List TK):=Ap (Bn (0:Int) (DO a b))
def PM (a:RS) (b:List TK):=Ad (AP (0:Int) (Int.ofNat (DO a b)))
theorem Anp:∀(L:List TK) (s:RS) (e:Int),R0 L s->(e=(0:Int)->False)->PM s L (HK s L (HK s L ((Hi/\Hi/\((Ab (AV.int .i64 (TK.Ag (D7 s L)))/\Ab (cP L s)/\True/\True/\True)/\True)/\True)/\Aa/\((Aa/\(Aa/\TK.line (D7 s L)=Ep L (Bj s e))/\(Aa/\TK.Ag (D7 s L)=El L (Bj s e))/\(Aa/\e=RS.err (Bj s e))/\True)/\True)/\Mc/\True))) (Aa/\((Aa/\(Aa/\(0:Int)=Ep L (Bj s e))/\(Aa/\(0:Int)=El L (Bj s e))/\(Aa/\e=RS.err (Bj s e))/\True)/\True)/\Mc/\True)
:=by
 delta IB D7 Hi DO Mc HK PM;intro L s e q B;simp only[A9];have hd:=Qw q;have C:=q.ok.a0;have y:Bj s e={s with err:=e,Bp:=s.at_}:=by unfold Bj;rw[if_pos q.e]
 rw[y];refine Aj (λc=>?_) λc=>?_
 ·rw[B1]at c;refine An (BJ.2 (by omega)) (An (BJ.2 (by omega)) ?_);rw[wW q (by omega),Nat.add_zero];unfold Ep El;rw[if_pos (show s.at_<L.length by omega),if_pos (show s.at_<L.length by omega)];exact⟨rfl,rfl,rfl⟩
 ·rw[Cg]at c;unfold Ep El;rw[if_neg (show¬s.at_<L.length by omega),if_neg (show¬s.at_<L.length by omega)];exact⟨rfl,rfl,rfl⟩
theorem Ano:∀(L:List TK) (s:RS) (e:Int),R0 L s->e≠0->(AG ZF 60).call 106 [.ptr 4 0,.int .i64 e] (AU (Cm++A0 [Bl L s] 4)) (4+1) (Cz Tryz.prog 0 4 (4+1) (Aay L s e)):=Eq.mpr (by kernel_rfl) Anp
def Un (a:RS) (b:List TK) (c:Nat):=List.getD (List.drop (Int.toNat (RS.at_ (Ai a))) b) c TK.zero
def UA (a:RS) (b:List TK) (c:Nat):=List.getD (IB a b) (1+c) TK.zero
theorem AmN:∀(L:List TK) (s:RS),R0 L s->PB L s->HK s L (Ap (Iu (1:Int) (DO s L)) (Aa/\(((Aa/\TK.kind (D7 s L)=TK.kind (Aq L s))/\TK.text (D7 s L)=TK.text (Aq L s)/\(Aa/\TK.num (D7 s L)=TK.num (Aq L s))/\(Aa/\TK.line (D7 s L)=TK.line (Aq L s))/\(Aa/\TK.Ag (D7 s L)=TK.Ag (Aq L s))/\True)/\True)/\(Aa/\Aa/\Aa/\Aa/\(True/\Aa/\DO s L-1=List.length (List.drop (Int.toNat (RS.at_ (Ai s))) L)/\Au λ(i:Nat)=>AM i (DO s L-1)->(Aa/\TK.kind (UA s L i)=TK.kind (Un s L i))/\TK.text (UA s L i)=TK.text (Un s L i)/\(Aa/\TK.num (UA s L i)=TK.num (Un s L i))/\(Aa/\TK.line (UA s L i)=TK.line (Un s L i))/\(Aa/\TK.Ag (UA s L i)=TK.Ag (Un s L i))/\True)/\Aa/\RS.nest s=RS.nest (Ai s))/\True))
:=by
 delta IB AM D7 DO Un HK PB UA;intro L s q y;simp only[A9];have y:s.at_<L.length:=y;have hd:=Qw q;have C:=q.ok.a0;have B:((L.drop s.at_.toNat).length)-1=(L.drop (Ai s).at_.toNat).length:=by show(L.drop s.at_.toNat).length-1=(L.drop (s.at_+1).toNat).length;rw[List.length_drop,List.length_drop];omega
 rw[SI q y];refine An (BJ.2 (by omega)) (An (Jt.2 (by omega)) ⟨⟨rfl,rfl,rfl,rfl,rfl⟩,⟨B,⟨λi _=>?_⟩⟩,rfl⟩);have e:(L.drop s.at_.toNat).getD (1+i) TK.zero=(L.drop (Ai s).at_.toNat).getD i TK.zero:=by show(L.drop s.at_.toNat).getD (1+i) TK.zero=(L.drop (s.at_+1).toNat).getD i TK.zero;rw[List.getD_eq_getElem?_getD,List.getD_eq_getElem?_getD,List.getElem?_drop,List.getElem?_drop];congr 2;omega
 rw[e];exact⟨rfl,rfl,rfl,rfl,rfl⟩
theorem AmM:∀(L:List TK) (s:RS),R0 L s->s.at_<L.length->(AG ZF 60).call 107 [.ptr 4 0] (AU (Cm++A0 [Bl L s] 4)) (4+1) (Cz Tryz.prog 0 4 (4+1) (Aaw L s ())):=Eq.mpr (by kernel_rfl) AmN
@[reducible] def jA:List TK->RS->List (List UInt8)->Prop:=λ(L:List TK) (s:RS) (ws:List (List UInt8))=>(Ab (some 5)/\Ab ws.length/\Aa)/\Ab (TK.text (D7 s L))/\(Aa/\Ab (Int.ofNat ws.length))/\True
def C8 (a:RS) (b:List TK) (c:Nat):=List.getD (IB a b) c TK.zero
@[reducible] def YG:List TK->RS->List (List UInt8)->Prop:=λ(L:List TK) (s:RS) (ws:List (List UInt8))=>(Aa/\Aa/\Aa/\Aa/\(True/\Aa/\Ab (DO s L)/\Au λ(i:Nat)=>AM i (DO s L)->(Aa/\Ab (TK.kind (C8 s L i)))/\Ab (TK.text (C8 s L i))/\(Aa/\Ab (TK.num (C8 s L i)))/\(Aa/\Ab (TK.line (C8 s L i)))/\(Aa/\Ab (TK.Ag (C8 s L i)))/\True)/\Aa/\Ab (RS.nest s))/\(Aa/\Aa/\Aa/\Aa/\Ab ws.length/\Au λ(i:Nat)=>B8 i ws.length->Ab (List.getD ws i [])/\True)/\True
def Fy:=(Aa/\Ab Y7)
@[reducible] def jB:List TK->RS->List (List UInt8)->Prop:=λ(L:List TK) (s:RS) (ws:List (List UInt8))=>Fy/\YG L s ws
@[reducible] def VQ:List TK->RS->List (List UInt8)->Prop:=λ(L:List TK) (s:RS) (ws:List (List UInt8))=>Aa/\(false=Ax (List.any ws (Ah L s))/\True)/\YG L s ws
def eF (a:Nat) (b:List (List UInt8)) (c:List TK) (d:RS):=(Nat.le a b.length/\∀(q:Nat),AM q a->List.getD b q []=TK.text (Aq c d)->False)
@[reducible] def jC:List TK->RS->List (List UInt8)->Prop:=λ(L:List TK) (s:RS) (ws:List (List UInt8))=>True/\Ad (!bif Ak (TK.kind (D7 s L)) (2:Int)then Ax (Dm (TK.text (D7 s L)))else !Ax (Dm (TK.text (D7 s L)))) (VQ L s ws) (HK s L ((∃(y:Nat),(eF y ws L s)/\Aa/\((Fg y)/\jA L s ws)/\jB L s ws)/\∀(x:Nat),(eF x ws L s)->Ad (AP (↑x:Int) (Int.ofNat ws.length)) (Ap (Bn (↑x:Int) ws.length) (Ap (bif Nat.ble (CD x*1+0+N9 9) ws.length then true else false) (Ad (decide (TK.text (List.getD (List.drop (Int.toNat (RS.at_ s)) L) 0 TK.zero)=List.getD ws (Int.toNat (↑x:Int)) [])) (Aa/\((!AP (↑x:Int) (0:Int))=Ax (List.any ws (Ah L s))/\True)/\YG L s ws) (DH x (∃(q:Nat),(eF q ws L s)/\Nat.le (Nat.succ (ws.length-q)) (ws.length-x)/\Aa/\((D6 x q)/\jA L s ws)/\jB L s ws))))) (VQ L s ws)))
theorem Alc:∀(L:List TK) (s:RS) (ws:List (List UInt8)),R0 L s->BK ws->Ad (Ak (Int.ofNat (DO s L)) (0:Int)) (VQ L s ws) (HK s L (Ad (!Ak (TK.kind (D7 s L)) (4:Int)) (Ad (!Ak (TK.kind (D7 s L)) (2:Int)) (VQ L s ws) (HK s L (jC L s ws))) (HK s L (jC L s ws))))
:=by
 delta IB D7 DO HK;intro L s ws M O;simp only[A9,jA,YG,jB,VQ,jC,IB,D7,AM,B8,C8,DO,Fy,CD,DH,D6,Fg,N9,HK,eF];have hd:=Qw M;have Z:=M.ok.a0;refine Aj (λc=>?_) λc=>?_
 ·rw[BL]at c;have V:=SJ (L:=L) (s:=s) (by omega);refine Y5 λw _=>Bool.eq_false_iff.2 λe=>?_;have C:=(WG e).1;rw[V]at C;rcases bZ w with B|B<;>rw[B]at C<;>cases C
 rw[BU]at c;have W:s.at_<L.length:=by have:=M.ok.a1;omega
 rw[SI M W];have hb:Bn 0 (L.drop s.at_.toNat).length=true:=BJ.2 (by omega);have K:(!bif Ak (Aq L s).kind 2 then Dm (Aq L s).text else !Dm (Aq L s).text)=true->(Aq L s).kind=2\/(Aq L s).kind=4->false=ws.any (Ah L s):=λh S=>Y5 λw R=>Bool.eq_false_iff.2 λe=>by obtain⟨C,B⟩:=WG e;have Y:=O.h w R;rw[B]at h;rw[Y,Dt]at h;rw[C]at h;rcases bZ w with U|U<;>rw[U]at h<;>revert h<;>decide
 have q:(!bif Ak (Aq L s).kind 2 then Dm (Aq L s).text else !Dm (Aq L s).text)=false->(Aq L s).kind=2\/(Aq L s).kind=4->Dm (Aq L s).text=decide ((Aq L s).kind=2):=λh S=>by rw[Dt]at h;rcases S with e|e<;>rw[e]at h⊢ <;>revert h<;>cases Dm (Aq L s).text<;>decide
 refine An hb (Aj (λJ=>Aj (λE=>?_) λE=>?_) λJ=>?_)
 ·rw[Bool.not_eq_true',BU]at J E;refine Y5 λw _=>Bool.eq_false_iff.2 λe=>?_;have C:=(WG e).1;rcases bZ w with B|B<;>omega
 ·rw[Bool.not_eq_false',BL]at E;exact An hb (Aj (λy=>K y (.inl E)) λy=>An hb (u6 O (.inl E) (q y (.inl E)) (b:=true)))
 ·rw[Bool.not_eq_false',BL]at J;exact An hb (Aj (λy=>K y (.inr J)) λy=>An hb (u6 O (.inr J) (q y (.inr J)) (b:=true)))
theorem Alb:∀(L:List TK) (s:RS) (ws:List (List UInt8)),R0 L s->BK ws->(AG (vr (Aq L s).text ws) 60).call 105 [.ptr 4 0,.AJ (4+1) ws.length 1] (AU (Cm++A0 [Bl L s,Jg ws] 4)) (4+2) (Cz Tryz.prog 0 4 (4+2) (oIs L s ws)):=Eq.mpr (by kernel_rfl) Alc
theorem Abf (l:List AV) (a:Int) (h:U1 l=some a):MC l [.int .i64 a]:=by
 unfold U1 at h;split at h
 ·injection h with h;subst h;exact tF _
 ·cases h
theorem rT (l:List AV) (a:Unit) (h:Kb l=some a):MC l []:=by
 unfold Kb at h;split at h
 ·exact tF _
 ·cases h
theorem se:DP Tryz.prog [(120,We)]:=Cw Ah9 Bc
theorem Aja (L:List TK):AD Tryz.prog 106 (zd L):=W1 (ar:=λe=>[.int .i64 e]) (fz:=0) (λs a _ _=>⟨SY L _,rfl,HC SX⟩) (λs a _ _=>⟨rfl,λ_=>rfl,HC λ_=>rfl⟩) (λB a=>⟨⟨rfl,rfl⟩,trivial⟩) Abf λs a y q=>⟨ZF,60,_,rfl,AW,se,λr h=>h,Ano L s a y q⟩
theorem AiT (L:List TK):AD Tryz.prog 107 (z9 L):=W1 (ar:=λ_=>[]) (fz:=0) (λs a _ _=>⟨NB _,rfl,HC (OS L _)⟩) (λs a _ _=>⟨rfl,λ_=>rfl,HC λ_=>rfl⟩) (λB a=>trivial) rT λs a y q=>⟨ZF,60,_,rfl,AW,se,λr h=>h,AmM L s y q⟩
theorem Aic (L:List TK):AD Tryz.prog 105 (z6 L):=zb (λs a _ _=>⟨vS _,rfl,Nr (OS L _) (lJ _)⟩) (λs a _ _=>⟨rfl,λ_=>rfl,Nr (λ_=>rfl) λ_=>rfl⟩) λs a y q=>⟨vr (Aq L s).text a,60,_,rfl,AW,se,λr h=>h,Alb L s a y q⟩
def n8 (L:List TK):Cq:=[(106,zd L),(107,z9 L),(105,z6 L)]
theorem yQ (L:List TK):Db Tryz.prog (n8 L):=BN (Aja L) (BN (AiT L) (BN (Aic L) (Ty _)))
def Zw (L:List TK):Ctx:=GM (n8 L) (yQ L)
def Aax (L:List TK) (s:RS) (ws:List (List UInt8)):HO:=.gen (Al L s ws) λy=>.br (Ak y.2.err 0) (.ret (.agg y.1.row) [Bl L y.2,Jg ws] 0) (.AA (CG L y.2) [FO,Jg ws] 0)
def Aau (L:List TK) (s:RS) (k:Int):HO:=.gen (AB L s k) λy=>.br (Ak y.2.err 0) (.ret (.agg y.1.row) [Bl L y.2] 0) (.AA (CG L y.2) [FO] 0)
def Aav (L:List TK) (s:RS) (_:Unit):HO:=.gen (AB L s 1) λy=>.br (Ak y.2.err 0) (.ret (.bs y.1.text) [Bl L y.2] 0) (.AA (CG L y.2) [FO] 0)
def zc (L:List TK):Da:=mW L (λs ws=>BK ws) (Aax L)
def z7 (L:List TK):Da:=mP L Int U1 (λs k=>k≠0) (Aau L)
def z8 (L:List TK):Da:=mP L Unit Kb (λs _=>True) (Aav L)
theorem I5 {L:List TK} {s:RS} {p:RS->Prop} (h:R0 L s) (q:p s):CU L (cP L s) s.nest p:=⟨s,rfl,rfl,h,q⟩
theorem AbV {a b:TK} (h:a=b):a.kind=b.kind/\a.text=b.text/\a.num=b.num/\a.line=b.line/\a.Ag=b.Ag:=by subst h;exact⟨rfl,rfl,rfl,rfl,rfl⟩
theorem Fk {L:List TK} {s r:RS} (h:s=r):((L.drop s.at_.toNat).length=(L.drop r.at_.toNat).length/\Au λi=>i.succ<=(L.drop s.at_.toNat).length->((L.drop s.at_.toNat).getD i TK.zero).kind=((L.drop r.at_.toNat).getD i TK.zero).kind/\((L.drop s.at_.toNat).getD i TK.zero).text=((L.drop r.at_.toNat).getD i TK.zero).text/\((L.drop s.at_.toNat).getD i TK.zero).num=((L.drop r.at_.toNat).getD i TK.zero).num/\((L.drop s.at_.toNat).getD i TK.zero).line=((L.drop r.at_.toNat).getD i TK.zero).line/\((L.drop s.at_.toNat).getD i TK.zero).Ag=((L.drop r.at_.toNat).getD i TK.zero).Ag)/\s.nest=r.nest:=by subst h;exact⟨⟨rfl,⟨λi _=>⟨rfl,rfl,rfl,rfl,rfl⟩⟩⟩,rfl⟩
theorem sM {L:List TK} {s r:RS} (h:s=r):Ep L s=Ep L r/\El L s=El L r/\s.err=r.err:=by subst h;exact⟨rfl,rfl,rfl⟩
theorem fZ {L:List TK} {s:RS} {b:Bool} (h:R0 L s) (hb:b=false):(Ei L s b).2=Bj s 4/\(Ei L s b).2.err=4:=by
 subst hb;have:Bj s 4={s with err:=4,Bp:=s.at_}:=by unfold Bj;rw[if_pos h.e]
 exact⟨rfl,by show(Bj s 4).err=4;rw[this]⟩
theorem Vb {L:List TK} {s:RS} {b:Bool} (h:R0 L s) (hb:b=true):Ei L s b=(Aq L s,Ai s)/\(Ei L s b).2.err=0:=by subst hb;exact⟨rfl,h.e⟩
def Ro (a:List (List UInt8)):=(OE a.length λ(q:Nat)=>[AV.bs (List.getD a q [])])
@[reducible] def jE:List (List UInt8)->Prop:=λ(ws:List (List UInt8))=>(Aa/\Aa/\Aa/\Aa/\List.length (Ro ws)=ws.length/\Au λ(i:Nat)=>B8 i (List.length (Ro ws))->List.getD (Ro ws) i []=List.getD ws i []/\True)/\True
def Bg (a:List TK) (b:RS):=B5 a (cP a b) (RS.nest b)
def Bh (a:List TK) (b:RS):=CU a (cP a b) (RS.nest b)
def Co (a:List TK) (b:RS):=(Bh a b λ(q:RS)=>RS.at_ q<(↑a.length:Int))
def Cp (a:List TK) (b:RS):=(Aq a (Bg a b),Ai (Bg a b))
def Ug (a:List TK) (b:RS) (c:List (List UInt8)) (d:Nat):=List.getD (List.drop (Int.toNat (RS.at_ (Prod.snd (Al a b c)))) a) d TK.zero
def PO (a:List TK) (b:RS):=Bj (Bg a b) (4:Int)
theorem Anm:∀(L:List TK) (s:RS) (ws:List (List UInt8)),R0 L s->BK ws->((kV ws.length ws.length λ(i:Nat)=>[AV.bs (List.getD ws i [])])/\Bh L s λ(s:RS)=>BK (Ro ws))/\∀(y:RS),y=Bg L s->Ad (!Ax (List.any (Ro ws) (Ah L y))) ((Bh L y λ(s:RS)=>(4:Int)≠(0:Int))/\Ad (Ak (RS.err (Prod.snd (Al L s ws))) (0:Int)) False (Aa/\((Aa/\(Aa/\Ep L (PO L y)=Ep L (Prod.snd (Al L s ws)))/\(Aa/\El L (PO L y)=El L (Prod.snd (Al L s ws)))/\(Aa/\RS.err (PO L y)=RS.err (Prod.snd (Al L s ws)))/\True)/\True)/\Mc/\jE ws)) ((Co L y)/\∀(q:TK×RS),q=(Cp L y)->Ap (Ak (RS.err (Prod.snd (Al L s ws))) (0:Int)) (Aa/\(((Aa/\TK.kind q.1=TK.kind (Prod.fst (Al L s ws)))/\TK.text q.1=TK.text (Prod.fst (Al L s ws))/\(Aa/\TK.num q.1=TK.num (Prod.fst (Al L s ws)))/\(Aa/\TK.line q.1=TK.line (Prod.fst (Al L s ws)))/\(Aa/\TK.Ag q.1=TK.Ag (Prod.fst (Al L s ws)))/\True)/\True)/\(Aa/\Aa/\Aa/\Aa/\(True/\Aa/\DO q.2 L=List.length (List.drop (Int.toNat (RS.at_ (Prod.snd (Al L s ws)))) L)/\Au λ(i:Nat)=>AM i (DO q.2 L)->(Aa/\TK.kind (C8 q.2 L i)=TK.kind (Ug L s ws i))/\TK.text (C8 q.2 L i)=TK.text (Ug L s ws i)/\(Aa/\TK.num (C8 q.2 L i)=TK.num (Ug L s ws i))/\(Aa/\TK.line (C8 q.2 L i)=TK.line (Ug L s ws i))/\(Aa/\TK.Ag (C8 q.2 L i)=TK.Ag (Ug L s ws i))/\True)/\Aa/\RS.nest q.2=RS.nest (Prod.snd (Al L s ws)))/\jE ws))
:=by
 delta Bg Bh IB Co AM Cp C8 DO Ug Mc Ro PO;intro L s ws B M;simp only[A9,jE,B8,Ro];obtain⟨O,R⟩:=Apt ws;rw[R,Ji B];have K:ws.length=ws.length/\Au λi=>i.succ<=ws.length->ws.getD i []=ws.getD i []:=⟨rfl,⟨λ_ _=>rfl⟩⟩;refine⟨⟨O,I5 B M⟩,λy hy=>?_⟩;subst hy;rw[Ji B];refine Aj (λc=>?_) λc=>?_
 ·rw[Bool.not_eq_true']at c;obtain⟨C,E⟩:=fZ B c;exact⟨I5 B (by decide),Aj (λe=>by rw[BL]at e;rw[show(Al L y ws).2.err=4 from E]at e;cases e) λ_=>⟨sM C.symm,K⟩⟩
 ·rw[Bool.not_eq_false']at c;obtain⟨C,E⟩:=Vb B c;obtain⟨w,_,J⟩:=List.any_eq_true.1 c;refine⟨I5 B (Bb J),λy hy=>?_⟩;subst hy;exact An (BL.2 E) ⟨AbV (congrArg Prod.fst C).symm,Fk (congrArg Prod.snd C).symm,K⟩
theorem Anl:∀(L:List TK) (s:RS) (ws:List (List UInt8)),R0 L s->BK ws->(AG (Zw L) 60).call 87 [.ptr 4 0,.AJ (4+1) ws.length 1] (AU (Cm++A0 [Bl L s,Jg ws] 4)) (4+2) (Cz Tryz.prog 0 4 (4+2) (Aax L s ws)):=Eq.mpr (by kernel_rfl) Anm
@[reducible] def jD:List TK->RS->Int->Prop:=λ(L:List TK) (s:RS) (k:Int)=>(Bh L s λ(s:RS)=>(4:Int)≠(0:Int))/\Ad (Ak (RS.err (J8 L s k)) (0:Int)) False (Aa/\((Aa/\(Aa/\Ep L (PO L s)=Ep L (J8 L s k))/\(Aa/\El L (PO L s)=El L (J8 L s k))/\(Aa/\RS.err (PO L s)=RS.err (J8 L s k))/\True)/\True)/\Mc/\True)
def Ue (a:List TK) (b:RS) (c:Int) (d:Nat):=List.getD (List.drop (Int.toNat (RS.at_ (Prod.snd (AB a b c)))) a) d TK.zero
theorem Ali:∀(L:List TK) (s:RS) (k:Int),R0 L s->(k=(0:Int)->False)->Ad (Ak (Int.ofNat (DO s L)) (0:Int)) (jD L s k) (HK s L (Ad (!Ak (TK.kind (D7 s L)) k) (jD L s k) ((Co L s)/\∀(y:TK×RS),y=(Cp L s)->Ap (Ak (RS.err (J8 L s k)) (0:Int)) (Aa/\(dU y.1 L s k)/\(Aa/\Aa/\Aa/\Aa/\(True/\Aa/\DO y.2 L=List.length (List.drop (Int.toNat (RS.at_ (J8 L s k))) L)/\Au λ(i:Nat)=>AM i (DO y.2 L)->(Aa/\TK.kind (C8 y.2 L i)=TK.kind (Ue L s k i))/\TK.text (C8 y.2 L i)=TK.text (Ue L s k i)/\(Aa/\TK.num (C8 y.2 L i)=TK.num (Ue L s k i))/\(Aa/\TK.line (C8 y.2 L i)=TK.line (Ue L s k i))/\(Aa/\TK.Ag (C8 y.2 L i)=TK.Ag (Ue L s k i))/\True)/\Aa/\RS.nest y.2=RS.nest (J8 L s k))/\True))))
:=by
 delta Bg Bh IB Co AM Cp C8 D7 DO Ue dU HK J8;intro L s k q O;simp only[A9,jD,Bg,Bh,Mc,J8,PO];have hd:=Qw q;have R:=q.ok.a0;rw[Ji q];have J:decide ((Aq L s).kind=k)=false->(CU L (cP L s) s.nest λ_=>(4:Int)≠0)/\Ad (Ak (AB L s k).2.err 0) False (Ep L (Bj s 4)=Ep L (AB L s k).2/\El L (Bj s 4)=El L (AB L s k).2/\(Bj s 4).err=(AB L s k).2.err):=λh=>by obtain⟨C,E⟩:=fZ q h;exact⟨I5 q (by decide),Aj (λe=>by rw[BL]at e;rw[show(AB L s k).2.err=4 from E]at e;cases e) λ_=>sM C.symm⟩
 refine Aj (λc=>?_) λc=>?_
 ·rw[BL]at c;have M:=SJ (L:=L) (s:=s) (by omega);exact J (by rw[M];exact decide_eq_false λe=>O e.symm)
 rw[BU]at c;have K:s.at_<L.length:=by have:=q.ok.a1;omega
 rw[SI q K];refine An (BJ.2 (by omega)) (Aj (λB=>?_) λB=>?_)
 ·rw[Bool.not_eq_true',BU]at B;exact J (decide_eq_false B)
 ·rw[Bool.not_eq_false',BL]at B;obtain⟨C,E⟩:=Vb q (decide_eq_true B);refine⟨I5 q K,λy hy=>?_⟩;subst hy;exact An (BL.2 E) ⟨AbV (congrArg Prod.fst C).symm,Fk (congrArg Prod.snd C).symm⟩
theorem Alh:∀(L:List TK) (s:RS) (k:Int),R0 L s->k≠0->(AG (Zw L) 60).call 111 [.ptr 4 0,.int .i64 k] (AU (Cm++A0 [Bl L s] 4)) (4+1) (Cz Tryz.prog 0 4 (4+1) (Aau L s k)):=Eq.mpr (by kernel_rfl) Ali
theorem Ai8 (L:List TK):AD Tryz.prog 87 (zc L):=zb (λs a _ _=>⟨λ_=>⟨NB _,rfl,Nr (OS L _) (lJ _)⟩,λ_=>⟨SY L _,rfl,Nr SX (lJ _)⟩⟩) (λs a _ _=>⟨⟨rfl,λ_=>rfl,Nr (λ_=>rfl) λ_=>rfl⟩,⟨rfl,λ_=>rfl,Nr (λ_=>rfl) λ_=>rfl⟩⟩) λs a y q=>⟨Zw L,60,_,rfl,AW,Bc,λr h=>h,Anl L s a y q⟩
theorem Aif (L:List TK):AD Tryz.prog 111 (z7 L):=W1 (ar:=λe=>[.int .i64 e]) (fz:=0) (λs a _ _=>⟨λ_=>⟨NB _,rfl,HC (OS L _)⟩,λ_=>⟨SY L _,rfl,HC SX⟩⟩) (λs a _ _=>⟨⟨rfl,λ_=>rfl,HC λ_=>rfl⟩,⟨rfl,λ_=>rfl,HC λ_=>rfl⟩⟩) (λB a=>⟨⟨rfl,rfl⟩,trivial⟩) Abf λs a y q=>⟨Zw L,60,_,rfl,AW,Bc,λr h=>h,Alh L s a y q⟩
def n9 (L:List TK):Cq:=(87,zc L)::(111,z7 L)::n8 L
theorem yR (L:List TK):Db Tryz.prog (n9 L):=BN (Ai8 L) (BN (Aif L) (yQ L))
def vk (L:List TK):Ctx:=GM (n9 L) (yR L)
def PT.text:PT->List UInt8
 |.mk _ s _ _ _ _=>s
def PT.num:PT->Int
 |.mk _ _ n _ _ _=>n
def PT.line:PT->Int
 |.mk _ _ _ l _ _=>l
def PT.Ag:PT->Int
 |.mk _ _ _ _ c _=>c
def PT.ks:PT->List PT
 |.mk _ _ _ _ _ ks=>ks
mutual
def L3:PT->AV
 |.mk k s n l c ks=>.pv [.int .i64 k,.bs s,.int .i64 n,.int .i64 l,.int .i64 c,.As,.vec 1 ks.length λi=>(BA ks).getD i []]
def BA:List PT->List (List AV)
 | []=>[]
 |x::q=>[L3 x]::BA q
end
def Bv (x:PT):AV:=.pv [.int .i64 x.kind,.bs x.text,.int .i64 x.num,.int .i64 x.line,.int .i64 x.Ag,.As,.vec 1 x.ks.length λi=>(BA x.ks).getD i []]
def Ub (a:List TK) (b:RS) (c:Nat):=List.getD (List.drop (Int.toNat (RS.at_ (Prod.snd (AB a b (1:Int))))) a) c TK.zero
def IE (a:List TK) (b:RS):=AB a (Bg a b) (1:Int)
def PE (a:List TK) (b:RS):=Prod.snd (AB a b (1:Int))
theorem AlG:∀(L:List TK) (s:RS),R0 L s->(Bh L s λ(s:RS)=>(1:Int)≠(0:Int))/\∀(y:TK×RS),y=IE L s->AO y.2 (Ap (Ak (RS.err (PE L s)) (0:Int)) (Aa/\(TK.text y.1=TK.text (Prod.fst (AB L s (1:Int)))/\True)/\(Aa/\Aa/\Aa/\Aa/\(True/\Aa/\DO y.2 L=List.length (List.drop (Int.toNat (RS.at_ (PE L s))) L)/\Au λ(i:Nat)=>AM i (DO y.2 L)->(Aa/\TK.kind (C8 y.2 L i)=TK.kind (Ub L s i))/\TK.text (C8 y.2 L i)=TK.text (Ub L s i)/\(Aa/\TK.num (C8 y.2 L i)=TK.num (Ub L s i))/\(Aa/\TK.line (C8 y.2 L i)=TK.line (Ub L s i))/\(Aa/\TK.Ag (C8 y.2 L i)=TK.Ag (Ub L s i))/\True)/\Aa/\RS.nest y.2=RS.nest (PE L s))/\True)) (Ad (Ak (RS.err (PE L s)) (0:Int)) False (Aa/\((Aa/\(Aa/\Ep L y.2=Ep L (PE L s))/\(Aa/\El L y.2=El L (PE L s))/\(Aa/\RS.err y.2=RS.err (PE L s))/\True)/\True)/\Mc/\True))
:=by delta Bg Bh IB AO AM C8 DO Ub Mc IE PE;intro L s q;simp only[A9];rw[Ji q];refine⟨I5 q (by decide),λy hy=>?_⟩;subst hy;exact Aj (λe=>An e ⟨rfl,Fk rfl⟩) λe=>Aj (λB=>by rw[e]at B;cases B) λ_=>sM rfl
theorem AlD:∀(L:List TK) (s:RS),R0 L s->(AG (vk L) 60).call 89 [.ptr 4 0] (AU (Cm++A0 [Bl L s] 4)) (4+1) (Cz Tryz.prog 0 4 (4+1) (Aav L s ())):=Eq.mpr (by kernel_rfl) AlG
theorem Aim (L:List TK):AD Tryz.prog 89 (z8 L):=W1 (ar:=λ_=>[]) (fz:=0) (λs a _ _=>⟨λ_=>⟨rfl,rfl,HC (OS L _)⟩,λ_=>⟨SY L _,rfl,HC SX⟩⟩) (λs a _ _=>⟨⟨rfl,λ_=>rfl,HC λ_=>rfl⟩,⟨rfl,λ_=>rfl,HC λ_=>rfl⟩⟩) (λy a=>trivial) rT λs a q B=>⟨vk L,60,_,rfl,AW,Bc,λr h=>h,AlD L s q⟩
theorem dJ (x:PT):L3 x=Bv x:=by
 cases x
 conv=>lhs;unfold L3
 rfl
end Go.Proofs.YtlmmbanfhjaioaaGreatDoor
end
end
