/- Laid by program out of its parts: PaA, PaB, PaC, PaD, PaE, PaF, PaG, PaH, PaI, PaK. -/
import Derived.Test.YthallodoidghoaaGreatMj
import Derived.Test.YthallodoidghoaaGreatMh
import Derived.KernelRfl
import Derived.Test.YthallodoidghoaaGreatProg
noncomputable section
open List(getD)
set_option linter.unusedVariables false
set_option linter.unusedSimpArgs false
section
set_option maxRecDepth 100000
set_option maxHeartbeats 2000000
open Go Go.Ev
namespace Go.Proofs.YthallodoidghoaaGreat
theorem Dq:Tryz.prog.follows .mixedOrders=true:=by rfl
structure TK where
 kind:Int
 text:List UInt8
 num:Int
 line:Int
 Av:Int
abbrev Ad:=List TK
def TK.zero:TK:=⟨0,[],0,0,0⟩
def TK.row (t:TK):Al:=[.int .i64 t.kind,.bs t.text,.int .i64 t.num,.int .i64 t.line,.int .i64 t.Av]
def gn (L:Ad):Nat->Al:=λi=>(L.getD i TK.zero).row
def WX (l:Al):TK:=match l with
 | [.int _ k,.bs t,.int _ n,.int _ a,.int _ b]=>⟨k,t,n,a,b⟩
 |_=>TK.zero
def GO (n:Nat) (f:Nat->Al):Ad:=(List.range n).map λi=>WX (f i)
def vK (L:Ad):AV:=.vec 5 L.length (gn L)
def kL (c:AV):Ad:=match c with
 |.vec 5 n f=>GO n f
 |_=>[]
structure RS where
 at_:Int
 nest:Int
 err:Int
 BE:Int
def T5 (c:AV) (s:RS):Al:=[c,.int .i64 s.at_,.int .i64 s.nest,.int .i64 s.err,.int .i64 s.BE]
def Bw (c:AV) (s:RS):Ah:=.cells 118 .leaf (.Dv (T5 c s)) 5 false
structure AJ (L:List TK) (s:RS):Prop where
 len:L.length<=100000
 a0:0<=s.at_
 a1:s.at_<=L.length
 n0:0<=s.nest
 n1:s.nest<=1000
def AY (L:Ad) (s:RS):TK:=if s.err≠0\/(L.length:Int)<=s.at_ then TK.zero else L.getD s.at_.toNat TK.zero
def P0 (w:Aj):Int:=if 97<=((w.getD 0 0).toNat:Int)/\((w.getD 0 0).toNat:Int)<=122 then 2 else 4
def A5 (L:Ad) (s:RS) (w:Aj):Bool:=decide ((AY L s).kind=P0 w)&&decide ((AY L s).text=w)
def CM (s:RS) (e:Int):RS:=if s.err=0 then{s with err:=e,BE:=s.at_}else s
def AaO (H:Tr Ah) (a:AV):Option ((AV×RS)×Nat):=match a with
 |.ptr id 0=>ob (EV H id 0 5) λcs=>match cs with
  | [c,.int .i64 a,.int .i64 b,.int .i64 d,.int .i64 e]=>some ((c,⟨a,b,d,e⟩),id)
  |_=>none
 |_=>none
def K7 (ht:CZ) (AA:Es Tryz.prog ht):Ctx:={P:=Tryz.prog,tb:=[],ht:=ht,AA:=AA,lp:=λ_ _=>none,cut:=λ_ _=>none}
def T8:Ctx:={P:=Tryz.prog,tb:=[],lp:=λ_ _=>none,cut:=λ_ _=>none}
def QZ (a:AV):Option Aj:=match a with
 |.bs t=>some t
 |.str l n=>some (BO l n)
 |_=>none
def N6 (A:Type) (r:A->Al) (rd:Al->Option A) (pre:Ad->RS->A->Prop) (out:AV->RS->A->HO) (fz:Nat):GY:={X:=(AV×RS)×A,gl:=[],N4:=λ_=>true,ng:=0,k:=1,args:=λx=>.ptr 0 0::r x.2,Ff:=λx=>[Bw x.1.1 x.1.2],pre:=λx=>∃L,x.1.1=vK L/\pre L x.1.2 x.2,out:=λx=>out x.1.1 x.1.2 x.2,fz:=fz,find:=λH args=>List.casesOn args none λp l=>ob (AaO H p) λq=>ob (rd l) λa=>some ((q.1,a),[q.2])}
theorem yk (L:Ad) (s:RS):M3 (Bw (vK L) s):=by
 intro a r;rcases Dp.1 r with rfl|r
 ·exact⟨rfl,rfl,⟨λi _=>⟨⟨rfl,rfl⟩,rfl,⟨rfl,rfl⟩,⟨rfl,rfl⟩,⟨rfl,rfl⟩,trivial⟩⟩⟩
 ·simp only[Dp,List.not_mem_nil,or_false]at r;rcases r with rfl|rfl|rfl|rfl<;>exact⟨rfl,rfl⟩
theorem PG (L:Ad) (s:RS) {v:AV} (h:M1 4 v):PE 1 (.ret v [Bw (vK L) s] 0):=⟨h,rfl,λo r=>by rw[I7.1 r];exact yk L s⟩
theorem T7 (t:TK):M1 4 (.agg t.row):=by
 intro a r;unfold TK.row at r;simp only[Dp,List.not_mem_nil,or_false]at r;rcases r with rfl|rfl|rfl|rfl|rfl
 ·exact⟨rfl,rfl⟩
 ·exact rfl
 ·exact⟨rfl,rfl⟩
 ·exact⟨rfl,rfl⟩
 ·exact⟨rfl,rfl⟩
theorem Ag6 (b:Bool):M1 4 (.bool b):=(rfl:b=b)
theorem Ag7:M1 4 (.AM []):=λa h=>by cases h
theorem S6 {g:FuncId} {A:Type} {B:A->Al} {rd:Al->Option A} {pre:Ad->RS->A->Prop} {out:AV->RS->A->HO} {fz:Nat} (J:∀L s a,pre L s a->PE 1 (out (vK L) s a)) (z:∀L s a,pre L s a->∃y fuel args K,y.P=Tryz.prog/\y.P.follows .mixedOrders=true/\EU y.P y.tb/\.ptr 0 0::B a=args/\E9 Tryz.prog fz 0 1 (out (vK L) s a)=K/\(A3 y fuel).call g args (BU (B2 [Bw (vK L) s] 0)) 1 K):BH Tryz.prog g (N6 A B rd pre out fz).AN:=by
 refine dZ (N6 A B rd pre out fz) (λp r=>by cases r) (λH _ p r=>by cases r) (λx=>rfl) (λx o S=>?_) (λx r=>?_) λx r=>?_
 ·rw[I7.1 S];rfl
 ·obtain⟨⟨c,s⟩,a⟩:=x;obtain⟨L,rfl,h⟩:=r;exact J L s a h
 ·obtain⟨⟨c,s⟩,a⟩:=x;obtain⟨L,rfl,h⟩:=r;obtain⟨y,fuel,args,K,e,V,U,Y,W,R⟩:=z L s a h;rw[<-Y,<-W]at R;exact⟨(A3 y fuel).call,e▸PD V U fuel,R⟩
def rd0 (l:Al):Option Unit:=match l with
 | []=>some ()
 |_=>none
def rdI (l:Al):Option Int:=match l with
 | [.int .i64 z]=>some z
 |_=>none
def rdB (l:Al):Option Bool:=match l with
 | [.bool b]=>some b
 |_=>none
def v7 (l:Al):Option Aj:=match l with
 | [w]=>QZ w
 |_=>none
def wC:Ft:=(N6 Int (λe=>[.int .i64 e]) rdI (λL s _=>AJ L s) (λc s e=>.gen (CM s e) λy=>.ret (.AM []) [Bw c y] 0) 0).AN
def vi:Ft:=(N6 Unit (λ_=>[]) rd0 (λL s _=>AJ L s) (λc s _=>.gen (AY (kL c) s) λt=>.ret (.agg t.row) [Bw c s] 0) 0).AN
def sIs:Ft:=(N6 Aj (λw=>[.bs w]) v7 (λL s w=>AJ L s/\0<w.length) (λc s w=>.ret (.bool (Ay (A5 (kL c) s w))) [Bw c s] 0) 0).AN
theorem Al4 (L:Ad):GO L.length (gn L)=L:=by
 apply List.ext_getElem
 ·simp[GO]
 ·intro i x r;have:WX (gn L i)=L[i]:=by unfold gn;rw[Bt,Ce r];rfl
  simp[GO,this]
theorem Dt (L:Ad):kL (vK L)=L:=Al4 L
def R7 (a:Ad):=(True/\Aa/\Ae a.length/\Ar λ(r:Nat)=>Nat.le (Nat.succ r) a.length->(Aa/\Ae (TK.kind (getD a r TK.zero)))/\Ae (TK.text (getD a r TK.zero))/\(Aa/\Ae (TK.num (getD a r TK.zero)))/\(Aa/\Ae (TK.line (getD a r TK.zero)))/\(Aa/\Ae (TK.Av (getD a r TK.zero)))/\True)
@[reducible] def jI:Ad->RS->Int->Prop:=λ(L:Ad) (s:RS) (e:Int)=>((R7 L)/\Aa/\RS.at_ s=RS.at_ (CM s e))/\Aa/\RS.nest s=RS.nest (CM s e)
def KE (a:RS):=Ag (Au (RS.err a) (0:Int))
theorem Apk:∀(L:Ad) (s:RS) (e:Int),AJ L s->KE s (Aa/\(True/\True)/\(Aa/\Aa/\Aa/\Aa/\(jI L s e/\Aa/\e=RS.err (CM s e))/\Aa/\RS.at_ s=RS.BE (CM s e))/\True) (Aa/\(True/\True)/\(Aa/\Aa/\Aa/\Aa/\(jI L s e/\Aa/\RS.err s=RS.err (CM s e))/\Aa/\RS.BE s=RS.BE (CM s e))/\True)
:=by
 delta KE;intro L s e r;simp only[Bq,jI,R7];unfold CM;refine Ao (λh=>?_) λh=>?_
 ·rw[Ba]at h;rw[As h];exact⟨⟨⟨rfl,rfl⟩,rfl⟩,rfl⟩
 ·rw[BB]at h;rw[An h];exact⟨⟨⟨rfl,rfl⟩,rfl⟩,rfl⟩
theorem Apj:∀(L:Ad) (s:RS) (e:Int),AJ L s->(A3 T8 60).call 95 [.ptr 0 0,.int .i64 e] (BU (B2 [Bw (vK L) s] 0)) 1 (E9 Tryz.prog 0 0 1 (.ret (.AM []) [Bw (vK L) (CM s e)] 0)):=Eq.mpr (by kernel_rfl) Apk
def R9 (a:Ad) (b:RS):=((((R7 a)/\Aa/\Ae (RS.at_ b))/\Aa/\Ae (RS.nest b))/\Aa/\Ae (RS.err b))
def Hc (a:RS):=Ae (RS.BE a)
@[reducible] def jG:Ad->RS->Prop:=λ(L:Ad) (s:RS)=>(Aa/\Aa/\Aa/\Aa/\(R9 L s)/\Aa/\Hc s)/\True
@[reducible] def jH:Ad->RS->Prop:=λ(L:Ad) (s:RS)=>Aa/\(((Aa/\(0:Int)=TK.kind (AY L s))/\[]=TK.text (AY L s)/\(Aa/\(0:Int)=TK.num (AY L s))/\(Aa/\(0:Int)=TK.line (AY L s))/\(Aa/\(0:Int)=TK.Av (AY L s))/\True)/\True)/\jG L s
def DE:=((True/\True)/\True)
def U3 (a:Ad) (b:RS):=getD a (Int.toNat (RS.at_ b)) TK.zero
theorem Amq:∀(L:Ad) (s:RS),AJ L s->Ag (!Au (RS.err s) (0:Int)) ((DE/\True)/\jH L s) ((((True/\True/\True/\True/\True)/\True)/\True)/\Ag (!AP (RS.at_ s) (Int.ofNat L.length)) (jH L s) (Ap (AO (RS.at_ s) L.length) ((((True/\True/\True/\True)/\True)/\((True/\True/\True/\True)/\True)/\True)/\Aa/\(((Aa/\TK.kind (U3 L s)=TK.kind (AY L s))/\TK.text (U3 L s)=TK.text (AY L s)/\(Aa/\TK.num (U3 L s)=TK.num (AY L s))/\(Aa/\TK.line (U3 L s)=TK.line (AY L s))/\(Aa/\TK.Av (U3 L s)=TK.Av (AY L s))/\True)/\True)/\jG L s)))
:=by
 delta DE U3;intro L s r;have x:=r.a0;simp only[Bq,jG,jH,R7,R9,Hc];unfold AY;refine Ao (λh=>?_) λh=>Ao (λg=>?_) λg=>?_
 ·rw[BZ,BB]at h;rw[As (.inl h)];exact⟨rfl,rfl,rfl,rfl,rfl⟩
 ·rw[BZ,Bl]at g;rw[As (.inr g)];exact⟨rfl,rfl,rfl,rfl,rfl⟩
 ·rw[BI,Ba]at h;rw[BI,Bd]at g;rw[An (by rintro(q|q);exact q h;omega)];exact Am (AK.2 (by omega)) ⟨rfl,rfl,rfl,rfl,rfl⟩
theorem Amp:∀(L:Ad) (s:RS),AJ L s->(A3 T8 60).call 91 [.ptr 0 0] (BU (B2 [Bw (vK L) s] 0)) 1 (E9 Tryz.prog 0 0 1 (.ret (.agg (AY L s).row) [Bw (vK L) s] 0)):=Eq.mpr (by kernel_rfl) Amq
theorem Ac4:BH Tryz.prog 95 wC:=S6 (λL s a _=>PG L _ Ag7) λL s e r=>⟨T8,60,_,_,rfl,Dq,Bk,rfl,rfl,Apj L s e r⟩
theorem AcV:BH Tryz.prog 91 vi:=S6 (λL s a _=>PG L _ (T7 _)) λL s _ r=>⟨T8,60,_,_,rfl,Dq,Bk,rfl,by rw[Dt];rfl,Amp L s r⟩
def H6 (L:Ad) (s:RS) (b:Bool):TK×RS:=if b=true then(AY L s,{s with at_:=s.at_+1})else(TK.zero,CM s 4)
def Bm (L:Ad) (s:RS) (w:Aj):TK×RS:=H6 L s (A5 L s w)
def Bu (L:Ad) (s:RS) (k:Int):TK×RS:=H6 L s (decide ((AY L s).kind=k))
def Hu (L:Ad) (s:RS) (w:Aj):RS:={(if A5 L s w=true/\64<=s.nest then CM s 5 else s)with nest:=s.nest+1}
def B6 (L:Ad) (s:RS) (w:Aj):TK×RS:=Bm L (Hu L s w) w
def Aei:Ft:=(N6 Bool (λb=>[.bool b]) rdB (λL s b=>AJ L s/\(b=true->s.at_<L.length)) (λc s b=>.gen (H6 (kL c) s b) λy=>.ret (.agg y.1.row) [Bw c y.2] 0) 0).AN
def Aef:Ft:=(N6 Aj (λw=>[.bs w]) v7 (λL s w=>AJ L s/\0<w.length) (λc s w=>.gen (Bm (kL c) s w) λy=>.ret (.agg y.1.row) [Bw c y.2] 0) 0).AN
def Ad6:Ft:=(N6 Int (λk=>[.int .i64 k]) rdI (λL s k=>AJ L s/\k≠0) (λc s k=>.gen (Bu (kL c) s k) λy=>.ret (.agg y.1.row) [Bw c y.2] 0) 0).AN
def Aec:Ft:=(N6 Aj (λw=>[.bs w]) v7 (λL s w=>AJ L s/\0<w.length/\s.nest<=900) (λc s w=>.gen (B6 (kL c) s w) λy=>.ret (.agg y.1.row) [Bw c y.2] 0) 0).AN
def Abj:CZ:=[(91,vi),(95,wC)]
theorem Aiv:Es Tryz.prog Abj:=Dj AcV (Dj Ac4 (UC _))
def cY:Ctx:=K7 Abj Aiv
theorem L2 {L:Ad} {s:RS} (h:(AY L s).kind≠0):s.at_<L.length:=by
 unfold AY at h;split at h
 ·exact absurd rfl h
 ·rename_i g;omega
theorem Cg {L:Ad} {s:RS} {w:Aj} (h:A5 L s w=true):s.at_<L.length:=by unfold A5 at h;rw[B4,Bn]at h;refine L2 λe=>?_;rw[e]at h;have:=h.1;unfold P0 at this;split at this<;>omega
theorem xH {L:Ad} {s:RS} (h:AJ L s) (e:Int):AJ L (CM s e):=by
 unfold CM;split
 ·exact⟨h.len,h.a0,h.a1,h.n0,h.n1⟩
 ·exact h
theorem Ap6 {L:Ad} {s:RS} {b:Bool} (h:AJ L s) (hb:b=true->s.at_<L.length):AJ L (H6 L s b).2:=by
 unfold H6;split
 ·rename_i e;have:=hb e;exact⟨h.len,by have:=h.a0;show 0<=s.at_+1;omega,show s.at_+1<=L.length by omega,h.n0,h.n1⟩
 ·exact xH h 4
theorem ze {L:Ad} {s:RS} {w:Aj} (h:AJ L s) (hn:s.nest<=900):AJ L (Hu L s w):=by
 have x:=h.n0;have r:=xH h 5;unfold Hu;split
 ·exact⟨r.len,r.a0,r.a1,show 0<=s.nest+1 by omega,show s.nest+1<=1000 by omega⟩
 ·exact⟨h.len,h.a0,h.a1,show 0<=s.nest+1 by omega,show s.nest+1<=1000 by omega⟩
theorem AiP {w:Aj} (x:(!AP (↑(w.getD 0 0).toNat) 97)=true) (r:(!AP 122 ↑(w.getD 0 0).toNat)=true):P0 w=2:=by rw[BZ,Bl]at x r;unfold P0;rw[As (by omega)]
theorem AbM {w:Aj} (h:(!AP (↑(w.getD 0 0).toNat) 97)=false\/(!AP 122 ↑(w.getD 0 0).toNat)=false):P0 w=4:=by rw[BI,BI,Bd,Bd]at h;unfold P0;rw[An (by omega)]
@[reducible] def Tp:Ad->RS->Prop:=λ(L:Ad) (s:RS)=>Aa/\Aa/\Aa/\(R9 L s)/\Aa/\Hc s
@[reducible] def jJ:Ad->RS->Prop:=λ(L:Ad) (s:RS)=>(Aa/\Tp L s)/\True
@[reducible] def Zi:Ad->RS->Aj->Prop:=λ(L:Ad) (s:RS) (w:Aj)=>Aa/\(false=Ay (A5 L s w)/\True)/\jJ L s
@[reducible] def Zj:Ad->RS->Aj->TK->Prop:=λ(L:Ad) (s:RS) (w:Aj) (a:TK)=>Aa/\(decide (TK.text a=w)=Ay (A5 L s w)/\True)/\jJ L s
def qR:=(Ae (some 0)/\Aa)
def D6 (a:Ad) (b:RS):=(∃(r:Ad),vK a=vK r/\AJ r b)
def Ek (a:Ad):=AY (kL (vK a))
def Mt (a:Aj):=Nat.le 1 a.length
def Nz (a:TK):=Au (TK.kind a)
theorem Anf:∀(L:Ad) (s:RS) (w:Aj),AJ L s->Mt w->((D6 L s)/\Aa/\Aa/\(qR/\True)/\Tp L s/\True)/\∀(y:TK),y=Ek L s->Ap (AO (0:Int) w.length) (Ag (!AP (↑(UInt8.toNat (getD w 0 (0:UInt8))):Int) (97:Int)) (Ap (AO (0:Int) w.length) (Ag (!AP (122:Int) (↑(UInt8.toNat (getD w 0 (0:UInt8))):Int)) (Ag (Nz y (2:Int)) (Zj L s w y) (Zi L s w)) (Ag (Nz y (4:Int)) (Zj L s w y) (Zi L s w)))) (Ag (Nz y (4:Int)) (Zj L s w y) (Zi L s w)))
:=by
 delta qR D6 Ek Mt Nz;intro L s w J B;have B:0<w.length:=B;simp only[Bq,Tp,jJ,Zi,Zj,R7,R9,Hc];refine⟨⟨L,rfl,J⟩,λy hy=>?_⟩;rw[Dt]at hy;have hy:y=AY L s:=hy;subst hy;have r:∀k,P0 w=k->Ag (Au (AY L s).kind k) (decide ((AY L s).text=w)=A5 L s w) (false=A5 L s w):=λk K=>by
  unfold A5;rw[K];refine Ao (λh=>?_) λh=>?_
  ·rw[Ba]at h;rw[BF h,Bool.true_and]
  ·rw[BB]at h;rw[E7 h,Bool.false_and]
 refine Am (AK.2 (by omega)) (Ao (λz=>Am (AK.2 (by omega)) (Ao (λx=>r 2 (AiP z x)) λx=>r 4 (AbM (.inr x)))) λz=>r 4 (AbM (.inl z)))
theorem Anb:∀(L:Ad) (s:RS) (w:Aj),AJ L s->0<w.length->(A3 cY 60).call 78 [.ptr 0 0,.bs w] (BU (B2 [Bw (vK L) s] 0)) 1 (E9 Tryz.prog 0 0 1 (.ret (.bool (Ay (A5 L s w))) [Bw (vK L) s] 0)):=Eq.mpr (by kernel_rfl) Anf
def BQ (a:Nat):=Nat.le (Nat.succ a)
@[reducible] def D5:Ad->Prop:=λ(L:Ad)=>True/\Aa/\Ae L.length/\Ar λ(i:Nat)=>BQ i L.length->(Aa/\Ae (TK.kind (getD L i TK.zero)))/\Ae (TK.text (getD L i TK.zero))/\(Aa/\Ae (TK.num (getD L i TK.zero)))/\(Aa/\Ae (TK.line (getD L i TK.zero)))/\(Aa/\Ae (TK.Av (getD L i TK.zero)))/\True
def qP (a:Ad) (b:RS):=(Aa/\Aa/\Aa/\(((D5 a/\Aa/\Ae (RS.at_ b))/\Aa/\Ae (RS.nest b))/\Aa/\Ae (RS.err b))/\Aa/\Ae (RS.BE b))
@[reducible] def Kk:Ad->RS->Prop:=λ(L:Ad) (s:RS)=>(qP L s)/\True
def C5 (a:RS):=Ap (Bf .i64 (RS.at_ a+1))
def CP (a:Ad):=Kk a
def FQ (a:Ad):=D5 a
def Mu (a:Ad) (b:RS) (c:Bool):=Prod.fst (H6 a b c)
def OU (a:Ad) (b:RS) (c:Bool):=Prod.snd (H6 a b c)
def Ve (a:Ad) (b:RS):=Int.NonNeg ((↑a.length:Int)-(RS.at_ b+1))
theorem AoG:∀(L:Ad) (s:RS) (b:Bool),AJ L s->(b=true->Ve L s)->Ag (!b) (((D6 L s)/\Aa/\Aa/\(qR/\(Aa/\Ae (4:Int))/\True)/\CP L s)/\∀(y:RS),y=CM s (4:Int)->Aa/\(((Aa/\(0:Int)=TK.kind (Mu L s b))/\[]=TK.text (Mu L s b)/\(Aa/\(0:Int)=TK.num (Mu L s b))/\(Aa/\(0:Int)=TK.line (Mu L s b))/\(Aa/\(0:Int)=TK.Av (Mu L s b))/\True)/\True)/\(Aa/\Aa/\Aa/\Aa/\(((FQ L/\Aa/\RS.at_ y=RS.at_ (OU L s b))/\Aa/\RS.nest y=RS.nest (OU L s b))/\Aa/\RS.err y=RS.err (OU L s b))/\Aa/\RS.BE y=RS.BE (OU L s b))/\True) (((D6 L s)/\Aa/\Aa/\(qR/\True)/\CP L s)/\∀(y:TK),y=Ek L s->C5 s (Aa/\(((Aa/\TK.kind y=TK.kind (Mu L s b))/\TK.text y=TK.text (Mu L s b)/\(Aa/\TK.num y=TK.num (Mu L s b))/\(Aa/\TK.line y=TK.line (Mu L s b))/\(Aa/\TK.Av y=TK.Av (Mu L s b))/\True)/\True)/\(Aa/\Aa/\Aa/\Aa/\(((FQ L/\Aa/\RS.at_ s+1=RS.at_ (OU L s b))/\Aa/\RS.nest s=RS.nest (OU L s b))/\Aa/\RS.err s=RS.err (OU L s b))/\Aa/\RS.BE s=RS.BE (OU L s b))/\True))
:=by
 delta qR C5 D6 CP Ek FQ Mu OU Ve;intro L s b r hb;have hb:b=true->s.at_<L.length:=hb;have hl:=r.len;have x:=r.a0;simp only[Bq,D5,Kk,BQ,qP];cases b with
 |false=>refine⟨⟨L,rfl,r⟩,λy hy=>?_⟩;have hy:y=CM s 4:=hy;subst hy;exact⟨⟨rfl,rfl,rfl,rfl,rfl⟩,⟨⟨rfl,rfl⟩,rfl⟩,rfl⟩
 |true=>have:=hb rfl;refine⟨⟨L,rfl,r⟩,λy hy=>?_⟩;rw[Dt]at hy;have hy:y=AY L s:=hy;subst hy;exact Am (AU.2 (by omega)) ⟨⟨rfl,rfl,rfl,rfl,rfl⟩,⟨⟨rfl,rfl⟩,rfl⟩,rfl⟩
theorem AoF:∀(L:Ad) (s:RS) (b:Bool),AJ L s->(b=true->s.at_<L.length)->(A3 cY 60).call 87 [.ptr 0 0,.bool b] (BU (B2 [Bw (vK L) s] 0)) 1 (E9 Tryz.prog 0 0 1 (.ret (.agg (H6 L s b).1.row) [Bw (vK L) (H6 L s b).2] 0)):=Eq.mpr (by kernel_rfl) AoG
theorem Akv:BH Tryz.prog 78 sIs:=S6 (λL s a _=>PG L _ (Ag6 _)) λL s w h=>⟨cY,60,_,_,rfl,Dq,Bk,rfl,by rw[Dt],Anb L s w h.1 h.2⟩
theorem Ak3:BH Tryz.prog 87 Aei:=S6 (λL s a _=>PG L _ (T7 _)) λL s b h=>⟨cY,60,_,_,rfl,Dq,Bk,rfl,by rw[Dt];rfl,AoF L s b h.1 h.2⟩
def sr:CZ:=[(91,vi),(95,wC),(78,sIs),(87,Aei)]
theorem Abk:Es Tryz.prog sr:=Dj AcV (Dj Ac4 (Dj Akv (Dj Ak3 (UC _))))
def Oo:Ctx:=K7 sr Abk
def sv:CZ:=(76,Aef)::sr
theorem Agw (a b:Int):(a==b)=decide (a=b):=by by_cases h:a=b<;>simp[h]
def B3 (a:Ad):=A5 (kL (vK a))
def Hd (a:Ad):=H6 (kL (vK a))
theorem Aoy:∀(L:Ad) (s:RS) (w:Aj),AJ L s->Mt w->((∃(r:Ad),vK L=vK r/\AJ r s/\Mt w)/\Aa/\Aa/\(qR/\w=w/\True)/\CP L s)/\((∃(r:Ad),vK L=vK r/\AJ r s/\(Ay (B3 L s w)=true->Ve r s))/\Aa/\Aa/\(qR/\Ae (Ay (B3 L s w))/\True)/\CP L s)/\∀(y:TK×RS),y=Hd L s (Ay (B3 L s w))->Aa/\(((Aa/\TK.kind y.1=TK.kind (Prod.fst (Bm L s w)))/\TK.text y.1=TK.text (Prod.fst (Bm L s w))/\(Aa/\TK.num y.1=TK.num (Prod.fst (Bm L s w)))/\(Aa/\TK.line y.1=TK.line (Prod.fst (Bm L s w)))/\(Aa/\TK.Av y.1=TK.Av (Prod.fst (Bm L s w)))/\True)/\True)/\(Aa/\Aa/\Aa/\Aa/\(((FQ L/\Aa/\RS.at_ y.2=RS.at_ (Prod.snd (Bm L s w)))/\Aa/\RS.nest y.2=RS.nest (Prod.snd (Bm L s w)))/\Aa/\RS.err y.2=RS.err (Prod.snd (Bm L s w)))/\Aa/\RS.BE y.2=RS.BE (Prod.snd (Bm L s w)))/\True
:=by delta qR B3 CP FQ Hd Mt Ve;intro L s w x z;simp only[Bq,D5,Kk,BQ,qP];simp only[Dt];refine⟨⟨L,rfl,x,z⟩,⟨L,rfl,x,λh=>Cg h⟩,λy hy=>?_⟩;have hy:y=Bm L s w:=hy;subst hy;exact⟨⟨rfl,rfl,rfl,rfl,rfl⟩,⟨⟨rfl,rfl⟩,rfl⟩,rfl⟩
theorem Aox:∀(L:Ad) (s:RS) (w:Aj),AJ L s->0<w.length->(A3 Oo 60).call 76 [.ptr 0 0,.bs w] (BU (B2 [Bw (vK L) s] 0)) 1 (E9 Tryz.prog 0 0 1 (.ret (.agg (Bm L s w).1.row) [Bw (vK L) (Bm L s w).2] 0)):=Eq.mpr (by kernel_rfl) Aoy
theorem Anl:∀(L:Ad) (s:RS) (k:Int),AJ L s->(k=(0:Int)->False)->((D6 L s)/\Aa/\Aa/\(qR/\True)/\CP L s)/\∀(y:TK),y=Ek L s->((∃(x:Ad),vK L=vK x/\AJ x s/\(Nz y k=true->Ve x s))/\Aa/\Aa/\(qR/\Ae (Nz y k)/\True)/\CP L s)/\∀(r:TK×RS),r=Hd L s (Nz y k)->Aa/\(((Aa/\TK.kind r.1=TK.kind (Prod.fst (Bu L s k)))/\TK.text r.1=TK.text (Prod.fst (Bu L s k))/\(Aa/\TK.num r.1=TK.num (Prod.fst (Bu L s k)))/\(Aa/\TK.line r.1=TK.line (Prod.fst (Bu L s k)))/\(Aa/\TK.Av r.1=TK.Av (Prod.fst (Bu L s k)))/\True)/\True)/\(Aa/\Aa/\Aa/\Aa/\(((FQ L/\Aa/\RS.at_ r.2=RS.at_ (Prod.snd (Bu L s k)))/\Aa/\RS.nest r.2=RS.nest (Prod.snd (Bu L s k)))/\Aa/\RS.err r.2=RS.err (Prod.snd (Bu L s k)))/\Aa/\RS.BE r.2=RS.BE (Prod.snd (Bu L s k)))/\True
:=by
 delta qR D6 CP Ek FQ Hd Nz Ve;intro L s k B z;simp only[Bq,D5,Kk,BQ,qP];simp only[Dt];have z:k≠0:=z;refine⟨⟨L,rfl,B⟩,λt ht=>⟨⟨L,rfl,B,λh=>?_⟩,λy hy=>?_⟩⟩
 ·have ht:t=AY L s:=ht;rw[Ba,ht]at h;exact L2 (by rw[h];exact z)
 ·have ht:t=AY L s:=ht;rw[ht]at hy;have hy:y=Bu L s k:=by rw[hy];unfold Bu;rw[DD,Agw]
  subst hy;exact⟨⟨rfl,rfl,rfl,rfl,rfl⟩,⟨⟨rfl,rfl⟩,rfl⟩,rfl⟩
theorem Ank:∀(L:Ad) (s:RS) (k:Int),AJ L s->k≠0->(A3 Oo 60).call 75 [.ptr 0 0,.int .i64 k] (BU (B2 [Bw (vK L) s] 0)) 1 (E9 Tryz.prog 0 0 1 (.ret (.agg (Bu L s k).1.row) [Bw (vK L) (Bu L s k).2] 0)):=Eq.mpr (by kernel_rfl) Anl
theorem AkZ:BH Tryz.prog 76 Aef:=S6 (λL s a _=>PG L _ (T7 _)) λL s w h=>⟨Oo,60,_,_,rfl,Dq,Bk,rfl,by rw[Dt];rfl,Aox L s w h.1 h.2⟩
theorem Akz:BH Tryz.prog 75 Ad6:=S6 (λL s a _=>PG L _ (T7 _)) λL s k h=>⟨Oo,60,_,_,rfl,Dq,Bk,rfl,by rw[Dt];rfl,Ank L s k h.1 h.2⟩
theorem Abl:Es Tryz.prog sv:=Dj AkZ Abk
def yu:Ctx:=K7 sv Abl
structure LT where
 kind:Int
 text:List UInt8
 n:Int
 line:Int
 Av:Int
 kids:List Int
abbrev AB:=List LT
def LT.none:LT:=⟨0,[],0,0,0,[]⟩
def rI (L:Af):Nat->Al:=λi=>[.int .i64 (L.getD i 0)]
def LT.row (x:LT):Al:=[.int .i64 x.kind,.bs x.text,.int .i64 x.n,.int .i64 x.line,.int .i64 x.Av,.vec 1 x.kids.length (rI x.kids)]
def QQ (L:AB):Nat->Al:=λi=>(L.getD i LT.none).row
def vW (L:AB):AV:=.vec 6 L.length (QQ L)
theorem Aq1 (s:RS) (e:Int):(CM s e).nest=s.nest:=by unfold CM;split<;>rfl
@[reducible] def jK:Ad->RS->Prop:=λ(L:Ad) (s:RS)=>FQ L/\Aa/\Ae (RS.at_ s)
@[reducible] def jL:Ad->RS->Prop:=λ(L:Ad) (s:RS)=>(Aa/\Aa/\Aa/\((jK L s/\Aa/\Ae (RS.nest s))/\Aa/\Ae (RS.err s))/\Aa/\Hc s)/\True
@[reducible] def jM:Ad->RS->Aj->TK×RS->Prop:=λ(L:Ad) (s:RS) (w:Aj) (a:TK×RS)=>Aa/\(((Aa/\TK.kind a.1=TK.kind (Prod.fst (B6 L s w)))/\TK.text a.1=TK.text (Prod.fst (B6 L s w))/\(Aa/\TK.num a.1=TK.num (Prod.fst (B6 L s w)))/\(Aa/\TK.line a.1=TK.line (Prod.fst (B6 L s w)))/\(Aa/\TK.Av a.1=TK.Av (Prod.fst (B6 L s w)))/\True)/\True)/\(Aa/\Aa/\Aa/\Aa/\(((FQ L/\Aa/\RS.at_ a.2=RS.at_ (Prod.snd (B6 L s w)))/\Aa/\RS.nest a.2=RS.nest (Prod.snd (B6 L s w)))/\Aa/\RS.err a.2=RS.err (Prod.snd (B6 L s w)))/\Aa/\RS.BE a.2=RS.BE (Prod.snd (B6 L s w)))/\True
def GJ (a:Ad):=Bm (kL (vK a))
def U5 (a:RS):=RS.mk (RS.at_ a) (RS.nest a+1) (RS.err a) (RS.BE a)
@[reducible] def jN:Ad->RS->Aj->Prop:=λ(L:Ad) (s:RS) (w:Aj)=>((∃(r:Ad),vK L=vK r/\AJ r (U5 s)/\Mt w)/\Aa/\Aa/\(qR/\w=w/\True)/\(Aa/\Aa/\Aa/\((jK L s/\Aa/\Ae (RS.nest s+1))/\Aa/\Ae (RS.err s))/\Aa/\Hc s)/\True)/\∀(y:TK×RS),y=GJ L (U5 s) w->jM L s w y
def Nu (a:RS):=Int.NonNeg ((900:Int)-RS.nest a)
def gB (a:RS):=Ap (Bf .i64 (RS.nest a+1))
theorem An8:∀(L:Ad) (s:RS) (w:Aj),AJ L s->Mt w->Nu s->((∃(r:Ad),vK L=vK r/\AJ r s/\Mt w)/\Aa/\Aa/\(qR/\w=w/\True)/\jL L s)/\Ag (Ay (B3 L s w)) (Ag (!AP (RS.nest s) (64:Int)) (((D6 L s)/\Aa/\Aa/\(qR/\(Aa/\Ae (5:Int))/\True)/\jL L s)/\∀(y:RS),y=CM s (5:Int)->gB y (((∃(r:Ad),vK L=vK r/\AJ r (U5 y)/\Mt w)/\Aa/\Aa/\(qR/\w=w/\True)/\(Aa/\Aa/\Aa/\(((FQ L/\Aa/\Ae (RS.at_ y))/\Aa/\Ae (RS.nest y+1))/\Aa/\Ae (RS.err y))/\Aa/\Hc y)/\True)/\∀(J:TK×RS),J=GJ L (U5 y) w->jM L s w J)) (gB s (jN L s w))) (gB s (jN L s w))
:=by
 delta qR D6 B3 GJ U5 Nu FQ Hc Mt gB;intro L s w R K hn;simp only[Bq,D5,jK,jL,jM,jN,BQ,FQ,Hc,qR,GJ,U5,Mt];simp only[Dt];have hn:s.nest<=900:=hn;have Y:=R.n0;have B:∀y:TK×RS,y=B6 L s w->(y.1.kind=(B6 L s w).1.kind/\y.1.text=(B6 L s w).1.text/\y.1.num=(B6 L s w).1.num/\y.1.line=(B6 L s w).1.line/\y.1.Av=(B6 L s w).1.Av)/\((y.2.at_=(B6 L s w).2.at_/\y.2.nest=(B6 L s w).2.nest)/\y.2.err=(B6 L s w).2.err)/\y.2.BE=(B6 L s w).2.BE:=λy hy=>by subst hy;exact⟨⟨rfl,rfl,rfl,rfl,rfl⟩,⟨⟨rfl,rfl⟩,rfl⟩,rfl⟩
 have d0:¬(A5 L s w=true/\64<=s.nest)->Hu L s w={at_:=s.at_,nest:=s.nest+1,err:=s.err,BE:=s.BE}:=λh=>by unfold Hu;rw[An h]
 have W:(A5 L s w=true/\64<=s.nest)->Hu L s w={at_:=(CM s 5).at_,nest:=(CM s 5).nest+1,err:=(CM s 5).err,BE:=(CM s 5).BE}:=λh=>by unfold Hu;rw[As h,Aq1]
 have hd:=ze (w:=w) R hn;refine⟨⟨L,rfl,R,K⟩,Ao (λx=>Ao (λS=>⟨⟨L,rfl,R⟩,λy hy=>?_⟩) λS=>?_) λx=>?_⟩
 ·have x:A5 L s w=true:=x;rw[BZ,Bl]at S;have hy:y=CM s 5:=hy;subst hy;have e:=W ⟨x,by omega⟩;rw[e]at hd;have V:=hd.n1;have U:=hd.n0;exact Am (AU.2 ⟨by have:0<=(CM s 5).nest+1:=U;omega,by have:(CM s 5).nest+1<=1000:=V;omega⟩) ⟨⟨L,rfl,hd,K⟩,λz hz=>B z (by rw[hz,B6,e])⟩
 ·rw[BI,Bd]at S;have e:=d0 λh=>by omega
  rw[e]at hd;exact Am (AU.2 (by omega)) ⟨⟨L,rfl,hd,K⟩,λz hz=>B z (by rw[hz,B6,e])⟩
 ·have x:A5 L s w=false:=x;have e:=d0 λh=>by rw[x]at h;exact absurd h.1 (by decide)
  rw[e]at hd;exact Am (AU.2 (by omega)) ⟨⟨L,rfl,hd,K⟩,λz hz=>B z (by rw[hz,B6,e])⟩
theorem An7:∀(L:Ad) (s:RS) (w:Aj),AJ L s->0<w.length->s.nest<=900->(A3 yu 60).call 89 [.ptr 0 0,.bs w] (BU (B2 [Bw (vK L) s] 0)) 1 (E9 Tryz.prog 0 0 1 (.ret (.agg (B6 L s w).1.row) [Bw (vK L) (B6 L s w).2] 0)):=Eq.mpr (by kernel_rfl) An8
theorem AkN:BH Tryz.prog 89 Aec:=S6 (λL s a _=>PG L _ (T7 _)) λL s w h=>⟨yu,60,_,_,rfl,Dq,Bk,rfl,by rw[Dt];rfl,An7 L s w h.1 h.2.1 h.2.2⟩
def J7 (b:Int) (w:LT):LT:={w with kids:=w.kids.map (· +b)}
def Hl (a:Af×AB) (W:AB):Af×AB:=(a.1++[1+(a.2.length:Int)],a.2++W.map (J7 (1+(a.2.length:Int))))
def FV (r:List AB):Af×AB:=r.foldl Hl ([],[])
def VV (k:Int) (s:Aj) (n:Int) (t:TK) (r:List AB):AB:=⟨k,s,n,t.line,t.Av,(FV r).1⟩::(FV r).2
structure xp (W:List LT):Prop where
 pos:0<W.length
 len:W.length<=1000000
 kl:∀i,(W.getD i LT.none).kids.length<=1000000
 kv:∀i,∀c∈(W.getD i LT.none).kids,0<=c/\c<=1000000
def CJ (k:Int) (s:Aj) (n:Int) (t:TK) (K m:Nat) (R:AB):Nat->Al:=λi=>cond (Nat.beq i 0) [.int .i64 k,.bs s,.int .i64 n,.int .i64 t.line,.int .i64 t.Av,.AR K m 1] (QQ R (i-1))
def ez (f:Nat->Al) (n:Nat):Ah:=.cells 47 .leaf (.rows 6 f) (n*6) true
def tB (K:Af):Ah:=.cells 3 .leaf (.rows 1 (rI K)) K.length true
def iG (o:Option AV):Nat:=match o with
 |some (.AR r _ _)=>r
 |some (.sl r _ _ _)=>r
 |some (.BK r _ _ _)=>r
 |_=>0
def AbS (o:Option Al):Nat:=match o with
 |some [_,_,_,_,_,.AR k _ _]=>k
 |some [_,_,_,_,_,.sl k _ _ _]=>k
 |some [_,_,_,_,_,.BK k _ _ _]=>k
 |_=>0
def AbP (s:St) (p q:Nat):List (Nat×Ah):=List.rec (motive:=λ_=>List (Nat×Ah)) [] (λt _ r=>cond (cond (Nat.beq t p) true (Nat.beq t q)) r (Option.rec (motive:=λ_=>List (Nat×Ah)) r (λv=>(t,v)::r) (s.H.get t))) (List.range s.nx)
def tH (s:St) (l:List Nat):List (Nat×AV):=List.rec (motive:=λ_=>List (Nat×AV)) [] (λt _ r=>Option.rec (motive:=λ_=>List (Nat×AV)) r (λv=>(t,v)::r) (s.T.get t)) l
def Ada (l:Al):Int:=match l with
 | [.int _ z]=>z
 |_=>0
def YJ (n:Nat) (f:Nat->Al):Af:=(List.range n).map λi=>Ada (f i)
def RQ (o:Option Al):Af:=match o with
 |some [_,_,_,_,_,.vec _ n f]=>YJ n f
 |_=>[]
def Ads (o:Option AV):Nat:=match o with
 |some (.ptr i _)=>i
 |_=>1
theorem dO {α:Type} {d:α} {l m:List α} {i:Nat} (h:i<l.length):(l++m).getD i d=l.getD i d:=by simp[Bt,List.getElem?_append_left h]
theorem dP {α:Type} {d:α} {l:List α} {t:α}:(l++[t]).getD l.length d=t:=by simp[Bt]
theorem AaV {l:Af} {k:Nat} (h:k<l.length):l.getD k 0∈l:=by rw[Bt,Ce h];exact List.getElem_mem _
theorem im (r:List (Nat×Nat)) (S:Af) (i:Nat):AZ r (rI S i) (rI S i):=⟨⟨rfl,rfl⟩,trivial⟩
theorem Td (r:List (Nat×Nat)) (x:LT):AZ r x.row x.row:=⟨⟨rfl,rfl⟩,rfl,⟨rfl,rfl⟩,⟨rfl,rfl⟩,⟨rfl,rfl⟩,⟨rfl,rfl,⟨λi _=>im r _ i⟩⟩,trivial⟩
theorem AdJ (S:Af):YJ S.length (rI S)=S:=by
 apply List.ext_getElem
 ·simp[YJ]
 ·intro i x r;simp[YJ,rI,Ada,Bt,Ce r]
theorem AiX (w:LT):RQ (some [AV.int .i64 w.kind,AV.bs w.text,AV.int .i64 w.n,AV.int .i64 w.line,AV.int .i64 w.Av,AV.vec 1 w.kids.length (rI w.kids)])=w.kids:=AdJ w.kids
theorem WL {n i:Nat} {f g:Nat->Al} {r:Al} (y:i<n->f i=r) (x:¬i<n->g (i-n)=r):BA n f g i=r:=by
 unfold BA;by_cases h:i<n
 ·rw[show Nat.blt i n=true by simpa[CE]using h,cond_true,y h]
 ·rw[show Nat.blt i n=false by exact Bool.eq_false_iff.2 λhb=>h (by simpa[CE]using hb),cond_false,x h]
theorem take_one {S:Af} {z:Nat} (b:Int) (h:z<S.length):(S.take (z+1)).map (· +b)=(S.take z).map (· +b)++[S.getD z 0+b]:=by rw[List.take_succ_eq_append_getElem h,List.map_append,Bt,Ce h];rfl
theorem Ap7 {W:AB} {z:Nat} (b:Int) (h:z<W.length):(W.take (z+1)).map (J7 b)=(W.take z).map (J7 b)++[J7 b (W.getD z LT.none)]:=by rw[List.take_succ_eq_append_getElem h,List.map_append,Bt,Ce h];rfl
theorem oB {r:List (Nat×Nat)} {S:Af} {z:Nat} {b:Int} {g:Nat->Al} (h:z<S.length) (x:g 0=[AV.int .i64 (S.getD z 0+b)]):Ar λi=>i.succ<=z+1->AZ r (rI ((S.take (z+1)).map (· +b)) i) (BA z (rI ((S.take z).map (· +b))) g i):=⟨λi hi=>by
  have hl:((S.take z).map (· +b)).length=z:=by simp;omega
  have e:BA z (rI ((S.take z).map (· +b))) g i=rI ((S.take (z+1)).map (· +b)) i:=by
   rw[take_one b h];unfold rI;refine WL (λy=>?_) λy=>?_
   ·rw[dO (by omega)]
   ·have B:i+1<=z+1:=hi;obtain rfl:i=((S.take z).map (· +b)).length:=by omega
    rw[dP,hl,Of,x]
  rw[e];exact im r _ i⟩
theorem Afs {r:List (Nat×Nat)} {k:Int} {s:Aj} {n:Int} {t:TK} {K m N:Nat} {R:AB} {w:LT} {g:Nat->Al} (z:N=1+R.length) (x:g 0=w.row) (y:sg r K=some K) (i:Nat) (hi:i<N+1):AZ r (CJ k s n t K m (R++[w]) i) (BA N (CJ k s n t K m R) g i):=by
 cases i with
 |zero=>
  have e:BA N (CJ k s n t K m R) g 0=CJ k s n t K m R 0:=WL (λ_=>rfl) λh=>by omega
  rw[e];exact⟨⟨rfl,rfl⟩,rfl,⟨rfl,rfl⟩,⟨rfl,rfl⟩,⟨rfl,rfl⟩,⟨y,rfl,rfl⟩,trivial⟩
 |succ i=>
  have e:BA N (CJ k s n t K m R) g (i+1)=((R++[w]).getD i LT.none).row:=by
   refine WL (λh=>?_) λh=>?_
   ·rw[dO (by omega)];rfl
   ·obtain rfl:i=R.length:=by omega
    rw[dP,show R.length+1-N=0 by omega,x]
  rw[e];exact Td r _
def Si (a:Int) (b:Aj) (c:Int) (d:TK) (e:Nat):=getD (VV a b c d []) e LT.none
theorem AoZ:∀(k:Int) (s:Aj) (n:Int) (t:TK),Aa/\1=List.length (VV k s n t [])/\Ar λ(i:Nat)=>BQ i 1->(Aa/\k=LT.kind (Si k s n t i))/\s=LT.text (Si k s n t i)/\(Aa/\n=LT.n (Si k s n t i))/\(Aa/\TK.line t=LT.line (Si k s n t i))/\(Aa/\TK.Av t=LT.Av (Si k s n t i))/\List.length (LT.kids (Si k s n t i))=0/\True
:=by
 delta BQ Si;intro k s n t;simp only[Bq];refine⟨rfl,⟨λi hi=>?_⟩⟩;obtain rfl:i=0:=by have:i+1<=1:=hi;omega
 exact⟨rfl,rfl,rfl,rfl,rfl,rfl⟩
theorem AoY:∀(k:Int) (s:Aj) (n:Int) (t:TK),(A3 T8 60).call 59 [.int .i64 k,.bs s,.int .i64 n,.agg t.row,.AW] .leaf 0 (BS Tryz.prog false (vW (VV k s n t []))):=Eq.mpr (by kernel_rfl) AoZ
def U1 (a:TK):=((((True/\Aa/\Ae (TK.kind a))/\Ae (TK.text a))/\Aa/\Ae (TK.num a))/\Aa/\Ae (TK.line a))
@[reducible] def xK:TK->Prop:=λ(t:TK)=>Aa/\Aa/\Aa/\Aa/\(U1 t)/\Aa/\Ae (TK.Av t)
def Jn (a:AB):=getD a 0 LT.none
@[reducible] def Aq4:AB->Nat×Af->Prop:=λ(W:AB) (a:Nat×Af)=>a.2=RQ (some [AV.int .i64 (LT.kind (Jn W)),AV.bs (LT.text (Jn W)),AV.int .i64 (LT.n (Jn W)),AV.int .i64 (LT.line (Jn W)),AV.int .i64 (LT.Av (Jn W)),AV.vec 1 (List.length (LT.kids (Jn W))) (rI (LT.kids (Jn W)))])/\Nat.le a.1 a.2.length
def Jo (a:AB) (b:Nat):=getD a (Int.toNat (↑b:Int)) LT.none
@[reducible] def Aq5:AB->Nat->Nat×Af->Prop:=λ(W:AB) (a:Nat) (r:Nat×Af)=>r.2=RQ (some [AV.int .i64 (LT.kind (Jo W a)),AV.bs (LT.text (Jo W a)),AV.int .i64 (LT.n (Jo W a)),AV.int .i64 (LT.line (Jo W a)),AV.int .i64 (LT.Av (Jo W a)),AV.vec 1 (List.length (LT.kids (Jo W a))) (rI (LT.kids (Jo W a)))])/\Nat.le r.1 r.2.length
def Qr (a:AB) (b:Nat):=getD a b LT.none
@[reducible] def jO:AB->Prop:=λ(W:AB)=>Aa/\Aa/\Aa/\Aa/\True/\Aa/\Ae W.length/\Ar λ(i:Nat)=>BQ i W.length->(Aa/\Ae (LT.kind (Qr W i)))/\Ae (LT.text (Qr W i))/\(Aa/\Ae (LT.n (Qr W i)))/\(Aa/\Ae (LT.line (Qr W i)))/\(Aa/\Ae (LT.Av (Qr W i)))/\(Aa/\Ae (List.length (LT.kids (Qr W i)))/\Ar λ(r:Nat)=>BQ r (List.length (LT.kids (Qr W i)))->(Aa/\Ae (getD (LT.kids (Qr W i)) r (0:Int)))/\True)/\True
@[reducible] def Aq6:AB->Prop:=λ(W:AB)=>jO W/\True
def Ik:=(Ae (some 1)/\Aa)
def Qs (a:Nat):=(Aa/\Ae (↑a:Int))
def U9:=(Aa/\Ae (0:Int))
@[reducible] def Aq7:AB->Nat->Prop:=λ(W:AB) (a:Nat)=>(Ae (some 0)/\0=0/\1=1/\1=1)/\Ik/\(Ae (some 12)/\Ae (1+List.length ([]++List.map (J7 (1:Int)) (List.take a W)))/\Aa)/\U9/\(Aa/\Ae (1:Int))/\(Qs a)/\(Ae (some 14)/\Aa)/\(some 13=some (12+1)/\1=1/\Aa)/\True
def Jp (a:TK):=xK a
@[reducible] def Aq8:TK->AB->Prop:=λ(t:TK) (W:AB)=>jO W/\Jp t/\(Aa/\True)/\(Aa/\True)/\(Aa/\True)/\(Aa/\True)/\True
def Gs (a:Nat):=Nat.le (Nat.succ (a*1))
@[reducible] def Aq9:AB->Nat->Prop:=λ(W:AB) (a:Nat)=>(Aa/\Aa/\Aa/\Aa/\1=1/\Ar λ(i:Nat)=>Gs i 1->(Aa/\Ae (getD [(1:Int)] i (0:Int)))/\True)/\(Aa/\Aa/\Aa/\Aa/\(((((True/\Aa/\Ae (LT.kind (Jo W a)))/\Ae (LT.text (Jo W a)))/\Aa/\Ae (LT.n (Jo W a)))/\Aa/\Ae (LT.line (Jo W a)))/\Aa/\Ae (LT.Av (Jo W a)))/\Aa/\Ae (List.length (LT.kids (Jo W a)))/\Ar λ(i:Nat)=>BQ i (List.length (LT.kids (Jo W a)))->(Aa/\Ae (getD (LT.kids (Jo W a)) i (0:Int)))/\True)/\True
def XY (a:Int) (b:Aj) (c:Int) (d:TK):=(((((True/\Aa/\a=a)/\b=b)/\Aa/\c=c)/\Aa/\Ae (TK.line d))/\Aa/\Ae (TK.Av d))
def ua:=(Aa/\Aa/\Aa/\Aa/\True/\Aa/\Ae (1:Int))
@[reducible] def Ara:Int->Aj->Int->TK->AB->Prop:=λ(k:Int) (s:Aj) (n:Int) (t:TK) (W:AB)=>jO W/\Jp t/\(Aa/\Aa/\Aa/\Aa/\(XY k s n t)/\Ae (some 4)/\0=0/\1=1/\Aa)/\(Aa/\True)/\ua/\(Aa/\Aa/\Aa/\Aa/\(((((True/\Aa/\Ae (LT.kind (Jn W)))/\Ae (LT.text (Jn W)))/\Aa/\Ae (LT.n (Jn W)))/\Aa/\Ae (LT.line (Jn W)))/\Aa/\Ae (LT.Av (Jn W)))/\Aa/\Ae (List.length (LT.kids (Jn W)))/\Ar λ(i:Nat)=>BQ i (List.length (LT.kids (Jn W)))->(Aa/\Ae (getD (LT.kids (Jn W)) i (0:Int)))/\True)/\True
def kS (r:List AB) (i:Nat):Af:=AF (FV (r.take i)).1
def rS (r:List AB) (i:Nat):AB:=AF (FV (r.take i)).2
def wS (r:List AB) (i:Nat):AB:=r.getD i []
def ED (r:List AB) (i:Nat):Al:=[vW (wS r i)]
def Gf (r:List AB):Ah:=.cells 120 .leaf (.rows 1 (ED r)) r.length true
def rQ (r:List AB) (i q:Nat):AB:=rS r i++((wS r i).take q).map (J7 (1+((rS r i).length:Int)))
def JI (o:Option AV):Nat:=match o with
 |some (.int _ z)=>z.toNat
 |_=>0
def Abd (s:St) (id:Nat):Option Al:=match s.H.get id with
 |some (.cells _ _ (.rows _ f) _ _)=>some (f 0)
 |some (.cells _ _ (.Dv _) _ _)=>EV s.H id 0 6
 |_=>none
def Xq (o:Option AV):Bool:=match o with
 |some (.sl _ _ _ _)=>true
 |_=>false
structure TH (Ws:List (List LT)):Prop where
 all:∀i,i<Ws.length->xp (wS Ws i)
 len:(FV Ws).2.length<=1000000
 num:Ws.length<=1000000
def TO (k:Int) (s0:Aj) (n:Int) (t:TK) (r:List AB):B0:={X:=Nat,T:=λs _ i=>(11,.AR s.nx (1+(rS r i).length) 6)::(12,.int .i64 i)::(42,.AR (s.nx+1) (kS r i).length 1)::tH s [4,8],H:=λs n0 i=>(s.nx,ez (CJ k s0 n t (s.nx+1) (kS r i).length (rS r i)) (1+(rS r i).length))::(s.nx+1,tB (kS r i))::AbP s (iG (s.T.get 11)) (AbS (Abd s (iG (s.T.get 11)))),nx:=λs _=>s.nx+2,I:=λ_ i=>i<=r.length/\1<=i,m:=λi=>r.length-i}
def TQ (k:Int) (s0:Aj) (n:Int) (t:TK) (r:List AB):B0:={X:=Nat,T:=λs _ q=>(11,.AR s.nx (1+(rQ r (JI (s.T.get 12)) q).length) 6)::(14,.int .i64 q)::(42,.AR (s.nx+1) (kS r (JI (s.T.get 12)+1)).length 1)::tH s [4,8,12,13],H:=λs n0 q=>(s.nx,ez (CJ k s0 n t (s.nx+1) (kS r (JI (s.T.get 12)+1)).length (rQ r (JI (s.T.get 12)) q)) (1+(rQ r (JI (s.T.get 12)) q).length))::(s.nx+1,tB (kS r (JI (s.T.get 12)+1)))::AbP s (iG (s.T.get 11)) (AbS (Abd s (iG (s.T.get 11)))),nx:=λs _=>s.nx+2,I:=λs q=>q<=(wS r (JI (s.T.get 12))).length,m:=λq=>1000001-q}
def TZ (r:List AB):B0:={X:=Nat×Af,T:=λs _ z=>(16,.AR s.nx z.1 1)::(17,.int .i64 z.1)::tH s [4,8,11,12,13,14,15,42],H:=λs n0 z=>(s.nx,tB ((z.2.take z.1).map (· +(1+((rS r (JI (s.T.get 12))).length:Int)))))::dp s n0,nx:=λs _=>s.nx+1,I:=λs z=>z.2=RQ (EV s.H (Ads (s.T.get 15)) 0 6)/\z.1<=z.2.length,m:=λz=>1000001-z.1}
def z7 (k:Int) (s0:Aj) (n:Int) (t:TK) (x:List AB):Ctx:={P:=Tryz.prog,tb:=[],lp:=λf r=>cond (Nat.beq f 59) (cond (Nat.beq r 3) (some (TO k s0 n t x)) (cond (Nat.beq r 8) (some (TQ k s0 n t x)) (cond (Nat.beq r 13) (some (TZ x)) none))) none,cut:=λ_ _=>none,pl:=λ_ r s=>cond (Nat.beq r 3) true (cond (Nat.beq r 8) (Xq (s.T.get 11)) false),fr:=λ_ r=>cond (Nat.beq r 16) [16] []}
theorem tF (r:List AB):kS r 0=[]:=by unfold kS;rw[Et];rfl
theorem vV (r:List AB):rS r 0=[]:=by unfold rS;rw[Et];rfl
theorem Afb {r:List AB} {i:Nat} (h:i<r.length):FV (r.take (i+1))=Hl (FV (r.take i)) (wS r i):=by unfold FV wS;rw[List.take_succ_eq_append_getElem h,List.foldl_append,Bt,Ce h];rfl
theorem dm {r:List AB} {i:Nat} (h:i<r.length):kS r (i+1)=kS r i++[1+((rS r i).length:Int)]:=by unfold kS rS;rw[Et,Et,Et,Afb h];rfl
theorem AlG {r:List AB} {i:Nat} (h:i<r.length):rS r (i+1)=rS r i++(wS r i).map (J7 (1+((rS r i).length:Int))):=by unfold rS;rw[Et,Et,Afb h];rfl
theorem AbO {r:List AB}:∀ {i:Nat},i<=r.length->(kS r i).length=i
 |0,_=>by rw[tF];rfl
 |i+1,h=>by rw[dm h,E6,List.length_singleton,AbO (by omega)]
theorem gh (r:List AB) (i:Nat):rQ r i 0=rS r i:=by unfold rQ;simp
theorem vT {r:List AB} {i q:Nat} (h:q<(wS r i).length):rQ r i (q+1)=rQ r i q++[J7 (1+((rS r i).length:Int)) ((wS r i).getD q LT.none)]:=by unfold rQ;rw[Ap7 _ h,List.append_assoc]
theorem vS {r:List AB} {i:Nat} (h:i<r.length):rQ r i (wS r i).length=rS r (i+1):=by unfold rQ;rw[List.take_length,AlG h]
theorem Afa (a:Af×AB):∀l:List AB,a.2.length<=(l.foldl Hl a).2.length
 | []=>AH _
 |W::l=>Ho (by simp[Hl]) (Afa (Hl a W) l)
theorem Adx (r:List AB) (i:Nat):(rS r i).length<=(FV r).2.length:=by
 unfold rS;rw[Et];have h:=Afa (FV (r.take i)) (r.drop i);have e:(r.drop i).foldl Hl (FV (r.take i))=FV r:=by unfold FV;rw[<-List.foldl_append,List.take_append_drop]
 rw[e]at h;exact h
theorem gg (r:List AB) (i q:Nat) (x:q<=(wS r i).length):(rQ r i q).length=(rS r i).length+q:=by unfold rQ;rw[E6,HJ,List.length_take];omega
theorem AlF {r:List AB} {i:Nat} (h:i<r.length) (q:Nat) (x:q<=(wS r i).length):(rQ r i q).length<=(FV r).2.length:=by have y:=Adx r (i+1);rw[<-vS h,gg _ _ _ (AH _)]at y;rw[gg _ _ _ x];omega
theorem Aqu (k:Int) (s:Aj) (n:Int) (t:TK) (r:List AB):(⟨k,s,n,t.line,t.Av,kS r r.length⟩::rS r r.length)=VV k s n t r:=by unfold VV kS rS;rw[Et,Et,List.take_length]
theorem VZ {r:List (Nat×Nat)} {k:Int} {s:Aj} {n:Int} {t:TK} {K x m:Nat} {R:AB} (y:sg r K=some x) (i:Nat):AZ r (CJ k s n t K m R i) (CJ k s n t x m R i):=by
 cases i with
 |zero=>exact⟨⟨rfl,rfl⟩,rfl,⟨rfl,rfl⟩,⟨rfl,rfl⟩,⟨rfl,rfl⟩,⟨y,rfl,rfl⟩,trivial⟩
 |succ i=>exact Td r _
theorem AqQ {r:List (Nat×Nat)} {k:Int} {s:Aj} {n:Int} {t:TK} {K y L m x l:Nat} {R:AB} (z:sg r K=some y) (hm:x=m) (i:Nat):AZ r (CJ k s n t K m R i) (E4 (CJ k s n t L l R) 0 5 [.AR y x 1] i):=by
 cases i with
 |zero=>exact⟨⟨rfl,rfl⟩,rfl,⟨rfl,rfl⟩,⟨rfl,rfl⟩,⟨rfl,rfl⟩,⟨z,hm,rfl⟩,trivial⟩
 |succ i=>exact Td r _
theorem Agu:JI (some (AV.int .i64 0))=0:=rfl
theorem Agv (x:Nat):JI (some (AV.int .i64 (x:Int)))=x:=rfl
theorem Agt {r:List (Nat×Nat)} {K:Af} {c:Int} (i:Nat) (hi:i<K.length+1):AZ r (rI (K++[c]) i) (BA K.length (rI K) (λ_=>[AV.int .i64 c]) i):=by
 have e:BA K.length (rI K) (λ_=>[AV.int .i64 c]) i=rI (K++[c]) i:=by
  unfold rI;refine WL (λx=>?_) λx=>?_
  ·rw[dO (by omega)]
  ·obtain rfl:i=K.length:=by omega
   rw[dP]
 rw[e];exact im r _ i
theorem yc:Tryz.prog.cellsOf 120=1:=by kernel_rfl
theorem iC {n:Nat} {K:Prop} (h:0<n) (r:K):Ap (AO 0 n) (Ap (Nat.ble (Tryz.prog.cellsOf 120) n) K):=Am (AK.2 (by omega)) (Am (by rw[yc];exact E5 h) r)
theorem sdI {z n:Nat} {K:Prop} (h:z<n) (r:K):Ap (AO (z:Int) n) (Ap (Nat.ble (z+0+Tryz.prog.cellsOf 120) n) K):=Am (AK.2 (by omega)) (Am (by rw[yc];exact E5 (by omega)) r)
theorem Ag3:Tryz.prog.cellsOf 28=1:=by kernel_rfl
def qM (a:Nat):=JI (some (AV.int .i64 (↑a:Int)))
def Ej (a:List AB) (b:Nat):=List.length (kS a (qM b+1))
@[reducible] def jP:List AB->Nat->Prop:=λ(r:List AB) (a:Nat)=>some 12=some (11+1)/\Ae (Ej r a)/\Aa
@[reducible] def jW:List AB->Nat->Prop:=λ(r:List AB) (a:Nat)=>some 20=some (19+1)/\Ae (Ej r a)/\Aa
def qQ:=JI (some (AV.int .i64 (0:Int)))
def HT (a:List AB):=List.length (kS a (qQ+1))
@[reducible] def j4:List AB->Prop:=λ(r:List AB)=>some 13=some (12+1)/\Ae (HT r)/\Aa
def Lh (a:List AB):=(Ae (some 0)/\Ae a.length/\Aa)
@[reducible] def j5:List AB->Prop:=λ(r:List AB)=>(Lh r)/\Ik/\U9/\(Aa/\Ae (1:Int))/\True
def E3 (a:List AB) (b:Nat) (c:Nat):=List.length (rQ a (qM b) c)
@[reducible] def xN:List AB->Nat->Nat->Prop:=λ(x:List AB) (a r:Nat)=>1+E3 x a r+1<=9223372036854775807/\(1+E3 x a r+1)*72<=140737488355328
def Ey (a:List AB) (b:Nat):=(1+List.length (rS a b))
@[reducible] def Wl:List AB->Nat->Prop:=λ(r:List AB) (a:Nat)=>(Lh r)/\Ik/\(Qs a)/\(Aa/\Ae (Int.ofNat (Ey r a)))/\True
def CS (a:List AB) (b:Nat):=List.length (kS a b)
@[reducible] def j6:List AB->Nat->Nat->Prop:=λ(r:List AB) (a x:Nat)=>Aa/\Aa/\Aa/\Aa/\Ej r a=CS r x/\Ar λ(i:Nat)=>Gs i (Ej r a)->(Aa/\getD (kS r (qM a+1)) i (0:Int)=getD (kS r x) i (0:Int))/\True
def Gv (a:List AB):=getD (wS a 0) 0 LT.none
def Su (a:List AB):=List.length (LT.kids (Gv a))
@[reducible] def Zm:List AB->Nat×Af->Prop:=λ(r:List AB) (a:Nat×Af)=>a.2=RQ (some [AV.int .i64 (LT.kind (Gv r)),AV.bs (LT.text (Gv r)),AV.int .i64 (LT.n (Gv r)),AV.int .i64 (LT.line (Gv r)),AV.int .i64 (LT.Av (Gv r)),AV.vec 1 (Su r) (rI (LT.kids (Gv r)))])/\Nat.le a.1 a.2.length
def Gu (a:List AB) (b:Nat):=getD (wS a 0) (Int.toNat (↑b:Int)) LT.none
def Sj (a:List AB) (b:Nat):=List.length (LT.kids (Gu a b))
@[reducible] def Zn:List AB->Nat->Nat×Af->Prop:=λ(r:List AB) (a:Nat) (x:Nat×Af)=>x.2=RQ (some [AV.int .i64 (LT.kind (Gu r a)),AV.bs (LT.text (Gu r a)),AV.int .i64 (LT.n (Gu r a)),AV.int .i64 (LT.line (Gu r a)),AV.int .i64 (LT.Av (Gu r a)),AV.vec 1 (Sj r a) (rI (LT.kids (Gu r a)))])/\Nat.le x.1 x.2.length
def qS (a:List AB) (b:Nat) (c:Nat):=getD (wS a (Int.toNat (↑b:Int))) (Int.toNat (↑c:Int)) LT.none
def OW (a:List AB) (b:Nat) (c:Nat):=List.length (LT.kids (qS a b c))
@[reducible] def xL:List AB->Nat->Nat->Nat×Af->Prop:=λ(x:List AB) (a r:Nat) (y:Nat×Af)=>y.2=RQ (some [AV.int .i64 (LT.kind (qS x a r)),AV.bs (LT.text (qS x a r)),AV.int .i64 (LT.n (qS x a r)),AV.int .i64 (LT.line (qS x a r)),AV.int .i64 (LT.Av (qS x a r)),AV.vec 1 (OW x a r) (rI (LT.kids (qS x a r)))])/\Nat.le y.1 y.2.length
@[reducible] def Zk:List AB->Nat->Prop:=λ(r:List AB) (a:Nat)=>Aa/\Aa/\Aa/\Aa/\Ae (Ej r a)/\Ar λ(i:Nat)=>Gs i (Ej r a)->(Aa/\Ae (getD (kS r (qM a+1)) i (0:Int)))/\True
@[reducible] def jQ:List AB->Prop:=λ(r:List AB)=>Aa/\Aa/\Aa/\Aa/\Ae (HT r)/\Ar λ(i:Nat)=>Gs i (HT r)->(Aa/\Ae (getD (kS r (qQ+1)) i (0:Int)))/\True
@[reducible] def jR:List AB->Prop:=λ(r:List AB)=>(Lh r)/\Ik/\(Ae (some 2)/\0=0/\1=1/\1=1)/\U9/\(Aa/\Ae (1:Int))/\U9/\(Ae (some 6)/\Aa)/\(Ae (some 4)/\0=0/\1=1/\Aa)/\True
def OV (a:List AB) (b:Nat) (c:Nat):=getD (wS a b) c LT.none
@[reducible] def xM:List AB->Prop:=λ(x:List AB)=>Aa/\Aa/\Aa/\Aa/\Ae x.length/\Ar λ(i:Nat)=>Gs i x.length->(Aa/\Ae (List.length (wS x i))/\Ar λ(r:Nat)=>BQ r (List.length (wS x i))->(Aa/\Ae (LT.kind (OV x i r)))/\Ae (LT.text (OV x i r))/\(Aa/\Ae (LT.n (OV x i r)))/\(Aa/\Ae (LT.line (OV x i r)))/\(Aa/\Ae (LT.Av (OV x i r)))/\(Aa/\Ae (List.length (LT.kids (OV x i r)))/\Ar λ(y:Nat)=>BQ y (List.length (LT.kids (OV x i r)))->(Aa/\Ae (getD (LT.kids (OV x i r)) y (0:Int)))/\True)/\True)/\True
def J2 (a:List AB):=xM a
@[reducible] def Zl:List AB->Prop:=λ(r:List AB)=>J2 r/\True
def Hb (a:List AB) (b:Nat):=List.length (rQ a (qQ) b)
@[reducible] def jS:List AB->Nat->Prop:=λ(r:List AB) (a:Nat)=>(Lh r)/\Ik/\(Ae (some 12)/\Ae (1+Hb r a)/\Aa)/\U9/\(Aa/\Ae (1:Int))/\(Qs a)/\(Ae (some 14)/\Aa)/\j4 r/\True
@[reducible] def jT:List AB->Nat->Nat->Prop:=λ(x:List AB) (a r:Nat)=>(Lh x)/\Ik/\(Ae (some 19)/\Ae (1+E3 x a r)/\Aa)/\(Qs a)/\(Aa/\Ae (Int.ofNat (Ey x a)))/\(Qs r)/\(Ae (some 21)/\Aa)/\jW x a/\True
@[reducible] def jU:List AB->Nat->Nat->Prop:=λ(x:List AB) (a r:Nat)=>(Lh x)/\Ik/\(Ae (some 11)/\Ae (1+E3 x a r)/\Aa)/\(Qs a)/\(Aa/\Ae (Int.ofNat (Ey x a)))/\(Qs r)/\(Ae (some 13)/\Aa)/\jP x a/\True
@[reducible] def jV:TK->List AB->Prop:=λ(t:TK) (r:List AB)=>J2 r/\Jp t/\(Aa/\True)/\True
@[reducible] def jX:TK->List AB->Prop:=λ(t:TK) (r:List AB)=>J2 r/\Jp t/\(Aa/\True)/\(Aa/\True)/\True
@[reducible] def Wj:TK->List AB->Prop:=λ(t:TK) (r:List AB)=>J2 r/\Jp t/\(Aa/\True)/\(Aa/\True)/\(Aa/\True)/\(Aa/\True)/\True
@[reducible] def jY:TK->List AB->Prop:=λ(t:TK) (r:List AB)=>J2 r/\Jp t/\(Aa/\True)/\(Aa/\True)/\(Aa/\True)/\(Aa/\True)/\(Aa/\True)/\True
@[reducible] def Wk:List AB->Nat->Nat->Prop:=λ(x:List AB) (a r:Nat)=>Zk x a/\(Aa/\Aa/\Aa/\Aa/\(((((True/\Aa/\Ae (LT.kind (qS x a r)))/\Ae (LT.text (qS x a r)))/\Aa/\Ae (LT.n (qS x a r)))/\Aa/\Ae (LT.line (qS x a r)))/\Aa/\Ae (LT.Av (qS x a r)))/\Aa/\Ae (OW x a r)/\Ar λ(i:Nat)=>BQ i (OW x a r)->(Aa/\Ae (getD (LT.kids (qS x a r)) i (0:Int)))/\True)/\True
@[reducible] def jZ:List AB->Nat->Prop:=λ(r:List AB) (a:Nat)=>jQ r/\(Aa/\Aa/\Aa/\Aa/\(((((True/\Aa/\Ae (LT.kind (Gu r a)))/\Ae (LT.text (Gu r a)))/\Aa/\Ae (LT.n (Gu r a)))/\Aa/\Ae (LT.line (Gu r a)))/\Aa/\Ae (LT.Av (Gu r a)))/\Aa/\Ae (Sj r a)/\Ar λ(i:Nat)=>BQ i (Sj r a)->(Aa/\Ae (getD (LT.kids (Gu r a)) i (0:Int)))/\True)/\True
@[reducible] def j2:Int->Aj->Int->TK->List AB->Prop:=λ(k:Int) (s:Aj) (n:Int) (t:TK) (r:List AB)=>J2 r/\Jp t/\(Aa/\Aa/\Aa/\Aa/\(XY k s n t)/\Ae (some 4)/\0=0/\1=1/\Aa)/\(Aa/\True)/\ua/\(Aa/\Aa/\Aa/\Aa/\(((((True/\Aa/\Ae (LT.kind (Gv r)))/\Ae (LT.text (Gv r)))/\Aa/\Ae (LT.n (Gv r)))/\Aa/\Ae (LT.line (Gv r)))/\Aa/\Ae (LT.Av (Gv r)))/\Aa/\Ae (Su r)/\Ar λ(i:Nat)=>BQ i (Su r)->(Aa/\Ae (getD (LT.kids (Gv r)) i (0:Int)))/\True)/\True
def Gt (a:Int) (b:Aj) (c:Int) (d:TK) (e:List AB):=(LT.mk a b c (TK.line d) (TK.Av d) (kS e e.length)::rS e e.length)
def Sd:=AqL (λ(r:Al)=>Prop)
def Va:=Afr (λ(r:AV)=>Prop)
@[reducible] def j3:Int->Aj->Int->TK->List AB->Nat->AV->Al->Prop:=λ(k:Int) (s:Aj) (n:Int) (t:TK) (z:List AB) (a:Nat) (K:AV) (J:Al)=>(Va K (λ(B:IntKind) (r:Int)=>Nat.beq 3 (Md B)=true/\r=LT.kind (getD (Gt k s n t z) a LT.none)) λ(x:AV)=>False)/\Sd J (λ(y:AV) (m:Al)=>(AqM (λ(y:AV)=>Prop) y (λ(R:Aj)=>R=LT.text (getD (Gt k s n t z) a LT.none)) (λ(m r:Nat)=>BO m r=LT.text (getD (Gt k s n t z) a LT.none)) λ(x:AV)=>False)/\Sd m (λ(y:AV) (m:Al)=>(Va y (λ(B:IntKind) (r:Int)=>Nat.beq 3 (Md B)=true/\r=LT.n (getD (Gt k s n t z) a LT.none)) λ(x:AV)=>False)/\Sd m (λ(y:AV) (m:Al)=>(Va y (λ(B:IntKind) (r:Int)=>Nat.beq 3 (Md B)=true/\r=LT.line (getD (Gt k s n t z) a LT.none)) λ(x:AV)=>False)/\Sd m (λ(y:AV) (m:Al)=>(Va y (λ(B:IntKind) (r:Int)=>Nat.beq 3 (Md B)=true/\r=LT.Av (getD (Gt k s n t z) a LT.none)) λ(x:AV)=>False)/\Sd m (λ(y:AV) (m:Al)=>(AqN (λ(y:AV)=>Prop) y (λ(U L:Nat) (S:Nat->Al)=>Nat.beq 1 U=true/\L=List.length (LT.kids (getD (Gt k s n t z) a LT.none))/\Ar λ(i:Nat)=>i<L->Sd (S i) (λ(y:AV) (m:Al)=>(Va y (λ(B:IntKind) (r:Int)=>Nat.beq 3 (Md B)=true/\r=getD (LT.kids (getD (Gt k s n t z) a LT.none)) i (0:Int)) λ(x:AV)=>False)/\wg (λ(l:Al)=>Prop) m (λ(_:Unit)=>True) λ(x:Al)=>False) λ(_:Unit)=>False) (λ(l:Aj)=>Aa/\l.length=List.length (LT.kids (getD (Gt k s n t z) a LT.none))/\Ar λ(i:Nat)=>i<l.length->(false=true/\(↑(UInt8.toNat (getD l i (0:UInt8))):Int)=getD (LT.kids (getD (Gt k s n t z) a LT.none)) i (0:Int))/\True) (λ(_:Unit)=>List.length (LT.kids (getD (Gt k s n t z) a LT.none))=0) λ(x:AV)=>False)/\wg (λ(l:Al)=>Prop) m (λ(_:Unit)=>True) λ(x:Al)=>False) λ(_:Unit)=>False) λ(_:Unit)=>False) λ(_:Unit)=>False) λ(_:Unit)=>False) λ(_:Unit)=>False
def q9 (a:List AB) (b:Nat) (c:Nat) (d:Af):=List.map (λ(r:Int)=>r+((1:Int)+(↑(List.length (rS a (qM b))):Int))) (List.take c d)
def Lj (a:List AB) (b:Nat) (c:Af):=List.map (λ(r:Int)=>r+((1:Int)+(↑(List.length (rS a (qQ))):Int))) (List.take b c)
def XU (a:Nat):=Ap (bif bif bif bif Nat.beq a a then true else false then true else false then true else false then true else false)
def XV (a:Nat) (b:List AB):=Ap (bif Nat.ble (Int.toNat (↑a:Int)*1+0+Program.cellsOf Tryz.prog 120) b.length then true else false)
def Jl (a:Nat):=Nat.le (Nat.succ (a*6))
def XS (a:List AB):=Ap (bif Nat.ble (0+Program.cellsOf Tryz.prog 120) a.length then true else false)
def P9 (a:Nat) (b:Nat):=Nat.le (Nat.succ (1000001-a)) (1000001-b)
def Nq (a:Nat):=Ap (Bf .i64 ((↑a:Int)+1))
def Nx (a:Nat) (b:Nat):=(Aa/\(↑a:Int)+1=(↑b:Int))
def Ny (a:Nat):=Int.toNat (↑a:Int)
def uS (a:List AB) (b:Nat):=Ap (bif bif Nat.ble (CS a b*1) (CS a b)then true else false then decide (List.length (kS a b)+1<=9223372036854775807/\(List.length (kS a b)+1)*8<=140737488355328)else false)
def uT (a:List AB) (b:Nat) (c:Nat) (d:Nat) (e:Af):=(λ(r:Nat)=>[AV.int .i64 (LT.kind (qS a b c)),AV.bs (LT.text (qS a b c)),AV.int .i64 (LT.n (qS a b c)),AV.int .i64 (LT.line (qS a b c)),AV.int .i64 (LT.Av (qS a b c)),AV.vec 1 d (rI (q9 a b d e))])
def Qf (a:List AB) (b:Nat):=getD (rQ a (qQ) b) 0 LT.none
def uP (a:Nat) (b:List AB) (c:Af):=Ap (bif bif Nat.ble (a*1) (List.length (Lj b a c))then true else false then decide (a+1<=9223372036854775807/\(a+1)*8<=140737488355328)else false)
def X0 (a:List AB) (b:Nat) (c:Nat) (d:Nat):=(getD (LT.kids (qS a b c)) (Ny d) (0:Int)+Int.ofNat (Ey a b))
def uR (a:Nat) (b:List AB) (c:Nat) (d:Af):=Ap (bif bif Nat.ble (a*1) (List.length (q9 b c a d))then true else false then decide (a+1<=9223372036854775807/\(a+1)*8<=140737488355328)else false)
def KH (a:List AB) (b:Nat) (c:Nat):=((1+E3 a b c)*6)
def Sm (a:Nat) (b:List AB) (c:Nat):=Nat.le a (List.length (wS b (qM c)))
def So (a:Nat):=(Aa/\(0:Int)=(↑a:Int))
def uW (a:List AB) (b:Nat) (c:Nat):=Ap (bif bif Nat.ble (KH a b c) (KH a b c)then true else false then decide (xN a b c)else false)
def uY (a:Nat) (b:List AB) (c:Af):=Ap (bif Nat.ble (a*1) (List.length (Lj b a c))then B1 1 a (rI (Lj b a c))else false)
def uZ (a:Nat) (b:List AB) (c:Nat) (d:Af):=Ap (bif Nat.ble (a*1) (List.length (q9 b c a d))then B1 1 a (rI (q9 b c a d))else false)
def Qn (a:List AB) (b:Nat):=List.length (rS a b)
def uU (a:List AB) (b:Nat):=Ap (bif Nat.ble (5+Program.cellsOf Tryz.prog 28) ((Ey a b)*6)then true else false)
def uV:=AZ [(20,20),(21,21),(19,19),(1,1),(23,25),(0,0)]
def u6:=AZ [(13,13),(14,14),(12,12),(1,1),(16,18),(0,0)]
def u7:=AZ [(12,12),(13,13),(11,11),(1,1),(15,17),(0,0)]
def Sz (a:List AB):=xL a
def u9 (a:List AB) (b:Nat):=BA (CS a b) (rI (kS a b)) (λ(r:Nat)=>[AV.int .i64 (Int.ofNat (Ey a b))])
def Ya (a:List AB):=Ap (AO (0:Int) a.length)
def Yb (a:Nat) (b:List AB):=(Nat.le a b.length/\Nat.le 1 a)
def SA (a:Nat):=AO (↑a:Int)
def SB (a:Nat):=AP (↑a:Int)
theorem Ao1:∀(k:Int) (s:Aj) (n:Int) (t:TK) (r:List AB),TH r->Ag (AP (0:Int) (Int.ofNat r.length)) (Ya r (XS r (Ag (AP (0:Int) (Int.ofNat (List.length (wS r 0)))) (Ya r (XS r (Ap (AO (0:Int) (List.length (wS r 0))) ((∃(L:Nat×Af),Zm r L/\Aa/\(L.1=0/\(So L.1)/\jR r)/\(Aa/\True)/\j2 k s n t r)/\∀(x:Nat×Af),Zm r x->Ag (SB x.1 (Int.ofNat (Su r))) (Ap (SA x.1 (Su r)) (Ap (Bf .i64 (getD (LT.kids (Gv r)) (Ny x.1) (0:Int)+1)) (uP x.1 r x.2 (Nq x.1 (∃(K:Nat×Af),Zm r K/\P9 K.1 x.1/\Aa/\((Ae (some 10)/\x.1+1=K.1/\Aa)/\(Nx x.1 K.1)/\jR r)/\(Aa/\Aa/\Aa/\Aa/\(x.1+1)*1=List.length (Lj r K.1 K.2)/\Ar λ(i:Nat)=>Gs i ((x.1+1)*1)->AZ [(4,4),(6,6),(2,2),(1,1),(8,10),(0,0)] (rI (Lj r K.1 K.2) i) (BA x.1 (rI (Lj r x.1 x.2)) (λ(B:Nat)=>[AV.int .i64 (getD (LT.kids (Gv r)) (Ny x.1) (0:Int)+1)]) i))/\j2 k s n t r))))) (uY x.1 r x.2 (XU x.1 ((∃(L:Nat),Nat.le L (List.length (wS r (qQ)))/\Aa/\((Ae (some 11)/\Aa/\2=1+Hb r L/\Aa)/\(Aa/\(1:Int)=(↑L:Int))/\(Ae (some 4)/\Aa/\1=HT r/\Aa)/\j5 r)/\(Aa/\Aa/\Aa/\12=(1+Hb r L)*6/\(((((((XY k s n t)/\Ae (some 4)/\Aa/\1=HT r/\Aa)/\Aa/\LT.kind (Gv r)=LT.kind (Qf r L))/\LT.text (Gv r)=LT.text (Qf r L))/\Aa/\LT.n (Gv r)=LT.n (Qf r L))/\Aa/\LT.line (Gv r)=LT.line (Qf r L))/\Aa/\LT.Av (Gv r)=LT.Av (Qf r L))/\Aa/\x.1=List.length (LT.kids (Qf r L))/\Ar λ(i:Nat)=>BQ i x.1->(Aa/\getD (Lj r x.1 x.2) i (0:Int)=getD (LT.kids (Qf r L)) i (0:Int))/\True)/\(Aa/\Aa/\Aa/\1=HT r/\True/\Aa/\(1:Int)=getD (kS r (qQ+1)) 0 (0:Int))/\Wj t r)/\∀(x:Nat),Nat.le x (List.length (wS r (qQ)))->Ya r (XS r (Ag (AP (↑x:Int) (Int.ofNat (List.length (wS r 0)))) (Ya r (XS r (Ap (AO (↑x:Int) (List.length (wS r 0))) ((∃(L:Nat×Af),Zn r x L/\Aa/\(L.1=0/\(So L.1)/\jS r x)/\(Aa/\True)/\J2 r/\Jp t/\(Aa/\True)/\(Aa/\True)/\(Aa/\True)/\(Aa/\True)/\(Aa/\Aa/\Aa/\Aa/\Ae ((1+Hb r x)*6)/\Ar λ(i:Nat)=>Jl i ((1+Hb r x)*6)->AZ [(13,13),(14,14),(12,12),(1,1),(0,0)] (CJ k s n t (12+1) (HT r) (rQ r (qQ) x) i) (CJ k s n t (12+1) (HT r) (rQ r (qQ) x) i))/\jZ r x)/\∀(B:Nat×Af),Zn r x B->Ag (SB B.1 (Int.ofNat (Sj r x))) (Ap (SA B.1 (Sj r x)) (Ap (Bf .i64 (getD (LT.kids (Gu r x)) (Ny B.1) (0:Int)+1)) (uP B.1 r B.2 (Nq B.1 (∃(K:Nat×Af),Zn r x K/\P9 K.1 B.1/\Aa/\((Ae (some 18)/\B.1+1=K.1/\Aa)/\(Nx B.1 K.1)/\jS r x)/\(Aa/\Aa/\Aa/\Aa/\(B.1+1)*1=List.length (Lj r K.1 K.2)/\Ar λ(i:Nat)=>Gs i ((B.1+1)*1)->u6 (rI (Lj r K.1 K.2) i) (BA B.1 (rI (Lj r B.1 B.2)) (λ(J:Nat)=>[AV.int .i64 (getD (LT.kids (Gu r x)) (Ny B.1) (0:Int)+1)]) i))/\J2 r/\Jp t/\(Aa/\True)/\(Aa/\True)/\(Aa/\True)/\(Aa/\True)/\(Aa/\Aa/\Aa/\Aa/\Ae ((1+Hb r x)*6)/\Ar λ(i:Nat)=>Jl i ((1+Hb r x)*6)->u6 (CJ k s n t (12+1) (HT r) (rQ r (qQ) x) i) (CJ k s n t (12+1) (HT r) (rQ r (qQ) x) i))/\jZ r x))))) (uY B.1 r B.2 (XU B.1 (Ap (bif bif Nat.ble ((1+Hb r x)*6) ((1+Hb r x)*6)then true else false then decide (1+List.length (rQ r (JI (some (AV.int .i64 (0:Int)))) x)+1<=9223372036854775807/\(1+List.length (rQ r (JI (some (AV.int .i64 (0:Int)))) x)+1)*72<=140737488355328)else false) (Nq x (∃(K:Nat),Nat.le K (List.length (wS r (qQ)))/\P9 K x/\Aa/\((Ae (some 19)/\1+Hb r x+1=1+Hb r K/\Aa)/\(Nx x K)/\j4 r/\j5 r)/\(Aa/\Aa/\Aa/\Aa/\(1+Hb r x+1)*6=(1+Hb r K)*6/\Ar λ(i:Nat)=>Jl i ((1+Hb r x+1)*6)->AZ [(1,1),(13,13),(12,19),(0,0)] (CJ k s n t (12+1) (HT r) (rQ r (qQ) K) i) (BA (1+Hb r x) (CJ k s n t (12+1) (HT r) (rQ r (qQ) x)) (λ(J:Nat)=>[AV.int .i64 (LT.kind (Gu r x)),AV.bs (LT.text (Gu r x)),AV.int .i64 (LT.n (Gu r x)),AV.int .i64 (LT.line (Gu r x)),AV.int .i64 (LT.Av (Gu r x)),AV.vec 1 B.1 (rI (Lj r B.1 B.2))]) i))/\jQ r/\Wj t r))))))))) ((∃(L:Nat),(Yb L r)/\Aa/\((Ae (some 12)/\1+Hb r x=1+Qn r L/\Aa)/\(Aa/\(1:Int)=(↑L:Int))/\(some 13=some (12+1)/\HT r=CS r L/\Aa)/\(Lh r)/\Ik/\True)/\(Aa/\Aa/\Aa/\Aa/\(1+Hb r x)*6=(Ey r L)*6/\Ar λ(i:Nat)=>Jl i ((1+Hb r x)*6)->AZ [(1,1),(15,13),(14,12),(0,0)] (CJ k s n t (14+1) (CS r L) (rS r L) i) (CJ k s n t (12+1) (HT r) (rQ r (qQ) x) i))/\(Aa/\Aa/\Aa/\Aa/\HT r=CS r L/\Ar λ(i:Nat)=>Gs i (HT r)->(Aa/\getD (kS r (qQ+1)) i (0:Int)=getD (kS r L) i (0:Int))/\True)/\Wj t r)/\∀(x:Nat),Nat.le x r.length/\Nat.le 1 x->Ag (AP (↑x:Int) (Int.ofNat r.length)) (Ap (AO (0:Int) (Ey r x)) (uU r x (uS r x (Ap (AO (0:Int) (Ey r x)) (Ap (bif Nat.ble (5+List.length [AV.AR 17 (CS r x+1) 1]) (List.length (CJ k s n t (14+1) (CS r x) (rS r x) 0))then Nat.ble (5+List.length [AV.AR 17 (CS r x+1) 1]) ((Ey r x)*6)else false) ((∃(L:Nat),Sm L r x/\Aa/\((Ae (some 14)/\1+Qn r x=1+E3 r x L/\Aa)/\(So L)/\(Ae (some 17)/\CS r x+1=Ej r x/\Aa)/\Wl r x)/\(Aa/\Aa/\Aa/\Aa/\(Ey r x)*6=(1+E3 r x L)*6/\Ar λ(i:Nat)=>Jl i ((Ey r x)*6)->AZ [(1,1),(20,17),(19,14),(0,0)] (CJ k s n t (19+1) (Ej r x) (rQ r (qM x) L) i) (E4 (CJ k s n t (14+1) (CS r x) (rS r x)) 0 5 [AV.AR 17 (CS r x+1) 1] i))/\(Aa/\Aa/\Aa/\Aa/\(CS r x+1)*1=Ej r x/\Ar λ(i:Nat)=>Gs i ((CS r x+1)*1)->AZ [(1,1),(20,17),(19,14),(0,0)] (rI (kS r (qM x+1)) i) (u9 r x i))/\jY t r)/\∀(B:Nat),Sm B r x->Ap (AO (↑x:Int) r.length) (XV x r (Ag (SB B (Int.ofNat (List.length (wS r (Ny x))))) (Ap (AO (↑x:Int) r.length) (XV x r (Ap (SA B (List.length (wS r (Ny x)))) ((∃(L:Nat×Af),Sz r x B L/\Aa/\(L.1=0/\(So L.1)/\jT r x B)/\(Aa/\True)/\J2 r/\Jp t/\(Aa/\True)/\(Aa/\True)/\(Aa/\True)/\(Aa/\True)/\(Aa/\True)/\(Aa/\Aa/\Aa/\Aa/\Ae (KH r x B)/\Ar λ(i:Nat)=>Jl i (KH r x B)->AZ [(20,20),(21,21),(19,19),(1,1),(0,0)] (CJ k s n t (19+1) (Ej r x) (rQ r (qM x) B) i) (CJ k s n t (19+1) (Ej r x) (rQ r (qM x) B) i))/\Wk r x B)/\∀(J:Nat×Af),Sz r x B J->Ag (SB J.1 (Int.ofNat (OW r x B))) (Ap (SA J.1 (OW r x B)) (Ap (Bf .i64 (X0 r x B J.1)) (uR J.1 r x J.2 (Nq J.1 (∃(K:Nat×Af),Sz r x B K/\P9 K.1 J.1/\Aa/\((Ae (some 25)/\J.1+1=K.1/\Aa)/\(Nx J.1 K.1)/\jT r x B)/\(Aa/\Aa/\Aa/\Aa/\(J.1+1)*1=List.length (q9 r x K.1 K.2)/\Ar λ(i:Nat)=>Gs i ((J.1+1)*1)->uV (rI (q9 r x K.1 K.2) i) (BA J.1 (rI (q9 r x J.1 J.2)) (λ(aq:Nat)=>[AV.int .i64 (X0 r x B J.1)]) i))/\J2 r/\Jp t/\(Aa/\True)/\(Aa/\True)/\(Aa/\True)/\(Aa/\True)/\(Aa/\True)/\(Aa/\Aa/\Aa/\Aa/\Ae (KH r x B)/\Ar λ(i:Nat)=>Jl i (KH r x B)->uV (CJ k s n t (19+1) (Ej r x) (rQ r (qM x) B) i) (CJ k s n t (19+1) (Ej r x) (rQ r (qM x) B) i))/\Wk r x B))))) (uZ J.1 r x J.2 (XU J.1 (uW r x B (Nq B (∃(K:Nat),Sm K r x/\P9 K B/\Aa/\((Ae (some 26)/\1+E3 r x B+1=1+E3 r x K/\Aa)/\(Nx B K)/\jW r x/\Wl r x)/\(Aa/\Aa/\Aa/\Aa/\(1+E3 r x B+1)*6=(1+E3 r x K)*6/\Ar λ(i:Nat)=>Jl i ((1+E3 r x B+1)*6)->AZ [(1,1),(20,20),(19,26),(0,0)] (CJ k s n t (19+1) (Ej r x) (rQ r (qM x) K) i) (BA (1+E3 r x B) (CJ k s n t (19+1) (Ej r x) (rQ r (qM x) B)) (uT r x B J.1 J.2) i))/\Zk r x/\jY t r))))))))) (Nq x (∃(K:Nat),(Yb K r)/\Nat.le (Nat.succ (r.length-K)) (r.length-x)/\Aa/\((Ae (some 19)/\1+E3 r x B=1+Qn r K/\Aa)/\(Nx x K)/\(some 20=some (19+1)/\Ej r x=CS r K/\Aa)/\(Lh r)/\Ik/\True)/\(Aa/\Aa/\Aa/\Aa/\(1+E3 r x B)*6=(Ey r K)*6/\Ar λ(i:Nat)=>Jl i (KH r x B)->AZ [(1,1),(15,20),(14,19),(0,0)] (CJ k s n t (14+1) (CS r K) (rS r K) i) (CJ k s n t (19+1) (Ej r x) (rQ r (qM x) B) i))/\j6 r x K/\Wj t r)))))))))) (Ap (bif bif bif Nat.ble (CS r x*1) (CS r x)then B1 1 (CS r x) (rI (kS r x))else false then true else false then bif Nat.ble ((Ey r x)*6) ((Ey r x)*6)then B1 6 (Ey r x) (CJ k s n t (14+1) (CS r x) (rS r x))else false else false) (Aa/\((Aa/\1+Qn r x=List.length (Gt k s n t r)/\Ar λ(i:Nat)=>BQ i (Ey r x)->List.rec False (λ(head:AV) (ab:Al) (ad:Prop)=>j3 k s n t r i head ab) (bif Nat.beq i 0 then [AV.int .i64 k,AV.bs s,AV.int .i64 n,AV.int .i64 (TK.line t),AV.int .i64 (TK.Av t),AV.vec 1 (CS r x) (rI (kS r x))]else CJ k s n t (14+1) (CS r x) (rS r x) i))/\True)/\Zl r)))))))))))) ((∃(L:Nat),(Yb L r)/\Aa/\(False/\(Aa/\(1:Int)=(↑L:Int))/\(Ae (some 4)/\Aa/\1=CS r L/\Aa)/\(Lh r)/\Ik/\True)/\(Aa/\True)/\(Aa/\Aa/\Aa/\1=CS r L/\True/\Aa/\(1:Int)=getD (kS r L) 0 (0:Int))/\jV t r)/\∀(x:Nat),Nat.le x r.length/\Nat.le 1 x->Ag (AP (↑x:Int) (Int.ofNat r.length)) (Ap (AO (0:Int) (Ey r x)) (uU r x (uS r x (Ap (AO (0:Int) (Ey r x)) (Ap (bif Nat.ble (5+List.length [AV.AR 9 (CS r x+1) 1]) (List.length (CJ k s n t (6+1) (CS r x) (rS r x) 0))then Nat.ble (5+List.length [AV.AR 9 (CS r x+1) 1]) ((Ey r x)*6)else false) ((∃(L:Nat),Sm L r x/\Aa/\((Ae (some 6)/\1+Qn r x=1+E3 r x L/\Aa)/\(So L)/\(Ae (some 9)/\CS r x+1=Ej r x/\Aa)/\Wl r x)/\(Aa/\Aa/\Aa/\Aa/\(Ey r x)*6=(1+E3 r x L)*6/\Ar λ(i:Nat)=>Jl i ((Ey r x)*6)->AZ [(1,1),(12,9),(11,6),(0,0)] (CJ k s n t (11+1) (Ej r x) (rQ r (qM x) L) i) (E4 (CJ k s n t (6+1) (CS r x) (rS r x)) 0 5 [AV.AR 9 (CS r x+1) 1] i))/\(Aa/\Aa/\Aa/\Aa/\(CS r x+1)*1=Ej r x/\Ar λ(i:Nat)=>Gs i ((CS r x+1)*1)->AZ [(1,1),(12,9),(11,6),(0,0)] (rI (kS r (qM x+1)) i) (u9 r x i))/\jX t r)/\∀(B:Nat),Sm B r x->Ap (AO (↑x:Int) r.length) (XV x r (Ag (SB B (Int.ofNat (List.length (wS r (Ny x))))) (Ap (AO (↑x:Int) r.length) (XV x r (Ap (SA B (List.length (wS r (Ny x)))) ((∃(L:Nat×Af),Sz r x B L/\Aa/\(L.1=0/\(So L.1)/\jU r x B)/\(Aa/\True)/\J2 r/\Jp t/\(Aa/\True)/\(Aa/\True)/\(Aa/\Aa/\Aa/\Aa/\Ae (KH r x B)/\Ar λ(i:Nat)=>Jl i (KH r x B)->AZ [(12,12),(13,13),(11,11),(1,1),(0,0)] (CJ k s n t (11+1) (Ej r x) (rQ r (qM x) B) i) (CJ k s n t (11+1) (Ej r x) (rQ r (qM x) B) i))/\Wk r x B)/\∀(J:Nat×Af),Sz r x B J->Ag (SB J.1 (Int.ofNat (OW r x B))) (Ap (SA J.1 (OW r x B)) (Ap (Bf .i64 (X0 r x B J.1)) (uR J.1 r x J.2 (Nq J.1 (∃(K:Nat×Af),Sz r x B K/\P9 K.1 J.1/\Aa/\((Ae (some 17)/\J.1+1=K.1/\Aa)/\(Nx J.1 K.1)/\jU r x B)/\(Aa/\Aa/\Aa/\Aa/\(J.1+1)*1=List.length (q9 r x K.1 K.2)/\Ar λ(i:Nat)=>Gs i ((J.1+1)*1)->u7 (rI (q9 r x K.1 K.2) i) (BA J.1 (rI (q9 r x J.1 J.2)) (λ(aq:Nat)=>[AV.int .i64 (X0 r x B J.1)]) i))/\J2 r/\Jp t/\(Aa/\True)/\(Aa/\True)/\(Aa/\Aa/\Aa/\Aa/\Ae (KH r x B)/\Ar λ(i:Nat)=>Jl i (KH r x B)->u7 (CJ k s n t (11+1) (Ej r x) (rQ r (qM x) B) i) (CJ k s n t (11+1) (Ej r x) (rQ r (qM x) B) i))/\Wk r x B))))) (uZ J.1 r x J.2 (XU J.1 (uW r x B (Nq B (∃(K:Nat),Sm K r x/\P9 K B/\Aa/\((Ae (some 18)/\1+E3 r x B+1=1+E3 r x K/\Aa)/\(Nx B K)/\jP r x/\Wl r x)/\(Aa/\Aa/\Aa/\Aa/\(1+E3 r x B+1)*6=(1+E3 r x K)*6/\Ar λ(i:Nat)=>Jl i ((1+E3 r x B+1)*6)->AZ [(1,1),(12,12),(11,18),(0,0)] (CJ k s n t (11+1) (Ej r x) (rQ r (qM x) K) i) (BA (1+E3 r x B) (CJ k s n t (11+1) (Ej r x) (rQ r (qM x) B)) (uT r x B J.1 J.2) i))/\Zk r x/\jX t r))))))))) (Nq x (∃(K:Nat),(Yb K r)/\Nat.le (Nat.succ (r.length-K)) (r.length-x)/\Aa/\((Ae (some 11)/\1+E3 r x B=1+Qn r K/\Aa)/\(Nx x K)/\(some 12=some (11+1)/\Ej r x=CS r K/\Aa)/\(Lh r)/\Ik/\True)/\(Aa/\Aa/\Aa/\Aa/\(1+E3 r x B)*6=(Ey r K)*6/\Ar λ(i:Nat)=>Jl i (KH r x B)->AZ [(1,1),(7,12),(6,11),(0,0)] (CJ k s n t (6+1) (CS r K) (rS r K) i) (CJ k s n t (11+1) (Ej r x) (rQ r (qM x) B) i))/\j6 r x K/\jV t r)))))))))) (Ap (bif bif bif Nat.ble (CS r x*1) (CS r x)then B1 1 (CS r x) (rI (kS r x))else false then true else false then bif Nat.ble ((Ey r x)*6) ((Ey r x)*6)then B1 6 (Ey r x) (CJ k s n t (6+1) (CS r x) (rS r x))else false else false) (Aa/\((Aa/\1+Qn r x=List.length (Gt k s n t r)/\Ar λ(i:Nat)=>BQ i (Ey r x)->List.rec False (λ(head:AV) (ab:Al) (ad:Prop)=>j3 k s n t r i head ab) (bif Nat.beq i 0 then [AV.int .i64 k,AV.bs s,AV.int .i64 n,AV.int .i64 (TK.line t),AV.int .i64 (TK.Av t),AV.vec 1 (CS r x) (rI (kS r x))]else CJ k s n t (6+1) (CS r x) (rS r x) i))/\True)/\Zl r)))))) (Aa/\((Aa/\1=List.length (Gt k s n t r)/\Ar λ(i:Nat)=>BQ i 1->(Aa/\k=LT.kind (getD (Gt k s n t r) i LT.none))/\s=LT.text (getD (Gt k s n t r) i LT.none)/\(Aa/\n=LT.n (getD (Gt k s n t r) i LT.none))/\(Aa/\TK.line t=LT.line (getD (Gt k s n t r) i LT.none))/\(Aa/\TK.Av t=LT.Av (getD (Gt k s n t r) i LT.none))/\List.length (LT.kids (getD (Gt k s n t r) i LT.none))=0/\True)/\True)/\Zl r)
:=by
 delta qM qQ qS q9 Gt Lj Gu E3 Ej Gv CS Ey BQ XU HT Gs Hb XV Jl Lh XS P9 Nq Nx Ik Ny uS uT Jp Qf uP X0 J2 uR XY KH Sm OW So Su uW uY Sj uZ Qn uU uV u6 u7 Sz u9 Ya Yb SA SB;intro k s n t r hW;simp only[Bq,xK,jP,jW,j4,j5,xN,Wl,j6,Zm,Zn,xL,Zk,jQ,jR,xM,Zl,jS,jT,jU,jV,jX,Wj,jY,Wk,jZ,j2,j3,U1,qM,Ej,qQ,HT,Lh,Ik,U9,E3,Ey,Qs,CS,Gs,Gv,Su,Gu,Sj,qS,OW,BQ,OV,J2,Hb,Jp,XY,ua,Gt,Sd,Va];simp only[Agu,Agv,AiX,Nat.zero_add];have aw:=hW.num;have ay:=hW.len;refine Ao (λh0=>?_) λh0=>?_
 ·rw[Bd]at h0;have W:0<r.length:=by omega
  have W0:=hW.all 0 W;have ak:=W0.pos;have av:=W0.len;have Z:=W0.kl;have ae:=W0.kv;have kb:∀q z,z<((wS r 0).getD q LT.none).kids.length->0<=((wS r 0).getD q LT.none).kids.getD z 0/\((wS r 0).getD q LT.none).kids.getD z 0<=1000000:=λq z hz=>ae q _ (AaV hz);have b0:(rS r 0).length=0:=by rw[vV];rfl
  have af:1+((rS r 0).length:Int)=1:=by rw[b0];rfl
  have k1:kS r 1=[1]:=by rw[dm W,tF,b0];rfl
  have r1:rQ r 0 1=[J7 1 ((wS r 0).getD 0 LT.none)]:=by rw[vT ak,gh,af,vV];rfl
  simp only[af];refine iC W (Ao (λh1=>?_) λh1=>absurd (Bl.1 h1) (by omega));refine iC W (Am (AK.2 (by omega)) ⟨⟨(0,((wS r 0).getD 0 LT.none).kids),⟨rfl,BL _⟩,rfl,rfl⟩,λy hy=>?_⟩);obtain⟨z,S⟩:=y;simp only at hy⊢;obtain⟨hS,hz⟩:=hy;have tl:((S.take z).map (λx=>x+1)).length=z:=by simp;omega
  refine Ao (λh=>?_) λh=>?_
  ·rw[Bd]at h;have h':z<((wS r 0).getD 0 LT.none).kids.length:=by omega
   have hb:=kb 0 z h';have hk:=Z 0;refine Am (AK.2 (by omega)) (Am (AU.2 (by omega)) (Am ?_ (Am (AU.2 (by omega)) ⟨(z+1,S),⟨hS,by simp only;rw[hS];exact h'⟩,by simp only;omega,⟨rfl,rfl⟩,by simp only;rw[HJ,List.length_take];rw[hS];omega,?_⟩)))
   ·rw[B4];exact⟨E5 (by omega),BF (by omega)⟩
   ·rw[<-hS];exact oB (by rw[hS];exact h') rfl
  ·rw[Bl]at h;have an:z=S.length:=by rw[hS]at hz⊢;omega
   refine Am ?_ ⟨⟨1,ak,?_⟩,λq hq=>?_⟩
   ·rw[B4];exact⟨E5 (by omega),DL λ_ _=>rfl⟩
   ·rw[r1,k1]
    repeat' first
     |exact rfl
     |refine And.intro ?_ ?_
    ·show z=(((wS r 0).getD 0 LT.none).kids.map (λx=>x+1)).length;rw[HJ,<-hS];exact an
    ·rw[an,List.take_length,hS];exact⟨λ_ _=>rfl⟩
   ·have ao:=gg r 0 q hq;refine iC W (Ao (λh2=>?_) λh2=>?_)
    ·rw[Bd]at h2;have aa:q<(wS r 0).length:=by omega
     have hk:=Z q;refine iC W (Am (AK.2 (by omega)) ⟨⟨(0,((wS r 0).getD q LT.none).kids),⟨rfl,BL _⟩,⟨rfl,rfl⟩,⟨λi _=>VZ rfl i⟩⟩,λy hy=>?_⟩);obtain⟨U,S2⟩:=y;simp only at hy⊢;obtain⟨R,ai⟩:=hy;have ar:((S2.take U).map (λx=>x+1)).length=U:=by simp;omega
     refine Ao (λh3=>?_) λh3=>?_
     ·rw[Bd]at h3;have Y:U<((wS r 0).getD q LT.none).kids.length:=by omega
      have hb:=kb q U Y;refine Am (AK.2 (by omega)) (Am (AU.2 (by omega)) (Am ?_ (Am (AU.2 (by omega)) ⟨(U+1,S2),⟨R,by simp only;rw[R];exact Y⟩,by simp only;omega,⟨rfl,rfl⟩,⟨by simp only;rw[HJ,List.length_take];rw[R];omega,?_⟩,⟨λi _=>VZ rfl i⟩⟩)))
      ·rw[B4];exact⟨E5 (by omega),BF (by omega)⟩
      ·rw[<-R];exact oB (by rw[R];exact Y) rfl
     ·rw[Bl]at h3;have ah:U=S2.length:=by rw[R]at ai⊢;omega
      have e2:=vT aa;rw[af]at e2;refine Am ?_ (Am (BF (by omega)) (Am (AU.2 (by omega)) ⟨q+1,aa,by omega,⟨by rw[e2,E6,List.length_singleton];omega,rfl⟩,by rw[e2,E6,List.length_singleton];omega,⟨λi hi=>?_⟩⟩))
      ·rw[B4];exact⟨E5 (by omega),DL λ_ _=>rfl⟩
      ·rw[e2];refine Afs rfl ?_ rfl i (by have:i*6+1<=(1+(rQ r 0 q).length+1)*6:=hi;omega);show [AV.int .i64 ((wS r 0).getD q LT.none).kind,AV.bs ((wS r 0).getD q LT.none).text,AV.int .i64 ((wS r 0).getD q LT.none).n,AV.int .i64 ((wS r 0).getD q LT.none).line,AV.int .i64 ((wS r 0).getD q LT.none).Av,AV.vec 1 U (rI ((S2.take U).map (λx=>x+1)))]=_;rw[ah,List.take_length,R];unfold J7 LT.row;simp only[HJ]
    ·rw[Bl]at h2;have aj:q=(wS r 0).length:=by omega
     subst aj;have r2:rQ r 0 (wS r 0).length=rS r 1:=vS W;rw[r2];refine⟨⟨1,⟨W,AH _⟩,⟨rfl,rfl,rfl⟩,⟨rfl,⟨λi _=>VZ rfl i⟩⟩,rfl,⟨λ_ _=>rfl⟩⟩,λx hx=>?_⟩;obtain⟨hx,aB⟩:=hx;have hc:((1+(rS r x).length:Nat):Int)=1+((rS r x).length:Int):=by omega
     have az:=Adx r x;have aA:=AbO hx;simp only[hc];clear Z ae kb W0 ak av ao;refine Ao (λh4=>?_) λh4=>?_
     ·rw[Bd]at h4;have V:x<r.length:=by omega
      have Wx:=hW.all x V;have aC:=Wx.pos;have aD:=Wx.len;have Z:=Wx.kl;have ae:=Wx.kv;have kb:∀q z,z<((wS r x).getD q LT.none).kids.length->0<=((wS r x).getD q LT.none).kids.getD z 0/\((wS r x).getD q LT.none).kids.getD z 0<=1000000:=λq z hz=>ae q _ (AaV hz);have ag:(kS r x).length+1=(kS r (x+1)).length:=by rw[dm V,E6,List.length_singleton]
      refine Am (AK.2 (by omega)) (Am (by rw[Ag3];exact E5 (by omega)) (Am (BF (by omega)) (Am (AK.2 (by omega)) (Am ?_ ⟨⟨0,BL _,⟨by rw[gh],rfl,ag⟩,⟨by rw[gh],⟨λi _=>by rw[gh];exact AqQ rfl ag i⟩⟩,ag,⟨λi hi=>?_⟩⟩,λq hq=>?_⟩))))
      ·rw[B4];exact⟨rfl,E5 (by rw[List.length_singleton];omega)⟩
      ·rw[dm V];exact Agt i hi
      ·have ao:=gg r x q hq;have aE:=AlF V q hq;refine sdI V (Ao (λh2=>?_) λh2=>?_)
       ·rw[Bd]at h2;have aa:q<(wS r x).length:=by omega
        have hk:=Z q;refine sdI V (Am (AK.2 (by omega)) ⟨⟨(0,((wS r x).getD q LT.none).kids),⟨rfl,BL _⟩,⟨rfl,rfl⟩,⟨λi _=>VZ rfl i⟩⟩,λy hy=>?_⟩);obtain⟨U,S2⟩:=y;simp only at hy⊢;obtain⟨R,ai⟩:=hy;have ar:((S2.take U).map (λ(v:Int)=>v+(1+((rS r x).length:Int)))).length=U:=by simp;omega
        refine Ao (λh3=>?_) λh3=>?_
        ·rw[Bd]at h3;have Y:U<((wS r x).getD q LT.none).kids.length:=by omega
         have hb:=kb q U Y;refine Am (AK.2 (by omega)) (Am (AU.2 (by omega)) (Am ?_ (Am (AU.2 (by omega)) ⟨(U+1,S2),⟨R,by simp only;rw[R];exact Y⟩,by simp only;omega,⟨rfl,rfl⟩,⟨by simp only;rw[HJ,List.length_take];rw[R];omega,?_⟩,⟨λi _=>VZ rfl i⟩⟩)))
         ·rw[B4];exact⟨E5 (by omega),BF (by omega)⟩
         ·rw[<-R];exact oB (by rw[R];exact Y) rfl
        ·rw[Bl]at h3;have ah:U=S2.length:=by rw[R]at ai⊢;omega
         have e2:=vT aa
         skip
         refine Am ?_ (Am (BF (by omega)) (Am (AU.2 (by omega)) ⟨q+1,aa,by omega,⟨by rw[e2,E6,List.length_singleton];omega,rfl⟩,by rw[e2,E6,List.length_singleton];omega,⟨λi hi=>?_⟩⟩))
         ·rw[B4];exact⟨E5 (by omega),DL λ_ _=>rfl⟩
         ·rw[e2];refine Afs rfl ?_ rfl i (by have:i*6+1<=(1+(rQ r x q).length+1)*6:=hi;omega);show [AV.int .i64 ((wS r x).getD q LT.none).kind,AV.bs ((wS r x).getD q LT.none).text,AV.int .i64 ((wS r x).getD q LT.none).n,AV.int .i64 ((wS r x).getD q LT.none).line,AV.int .i64 ((wS r x).getD q LT.none).Av,AV.vec 1 U (rI ((S2.take U).map (λ(v:Int)=>v+(1+((rS r x).length:Int)))))]=_;rw[ah,List.take_length,R];unfold J7 LT.row;simp only[HJ]
       ·rw[Bl]at h2;have aj:q=(wS r x).length:=by omega
        subst aj;have r3:rQ r x (wS r x).length=rS r (x+1):=vS V;rw[r3];exact Am (AU.2 (by omega)) ⟨x+1,⟨V,by omega⟩,by omega,⟨rfl,rfl,rfl⟩,⟨rfl,⟨λi _=>VZ rfl i⟩⟩,rfl,⟨λ_ _=>rfl⟩⟩
     ·rw[Bl]at h4;have au:x=r.length:=by omega
      subst au;refine Am ?_ ⟨by simp;omega,⟨λi hi=>?_⟩⟩
      ·rw[B4];exact⟨DL λ_ _=>rfl,DL λi hi=>by cases i<;>rfl⟩
      ·cases i
       ·exact⟨⟨rfl,rfl⟩,rfl,⟨rfl,rfl⟩,⟨rfl,rfl⟩,⟨rfl,rfl⟩,⟨rfl,rfl,⟨λi _=>im [] _ i⟩⟩,trivial⟩
       ·exact Td [] _
 ·rw[Bl]at h0;have e0:r.length=0:=by omega
  rw[e0,tF,vV];refine⟨rfl,⟨λi hi=>?_⟩⟩;obtain rfl:i=0:=by have:i+1<=1:=hi;omega
  exact⟨rfl,rfl,rfl,rfl,rfl,rfl⟩
theorem Ao0:∀(k:Int) (s:Aj) (n:Int) (t:TK) (r:List AB),TH r->(A3 (z7 k s n t r) 60).call 59 [.int .i64 k,.bs s,.int .i64 n,.agg t.row,.AR 0 r.length 1] (BU (B2 [Gf r] 0)) 1 (E9 Tryz.prog 2 0 1 (.ret (vW (⟨k,s,n,t.line,t.Av,kS r r.length⟩::rS r r.length)) [Gf r] 0)):=Eq.mpr (by kernel_rfl) Ao1
def tW (l:Al):LT:=match l with
 | [.int _ k,.bs s,.int _ n,.int _ a,.int _ c,.vec _ m f]=>⟨k,s,n,a,c,YJ m f⟩
 |_=>LT.none
def rowOf (a:AV):AB:=match a with
 |.vec _ n f=>(List.range n).map λi=>tW (f i)
 |_=>[]
def Ca (m:Nat) (g:Nat->AV):List AB:=AF ((List.range m).map λi=>rowOf (g i))
structure BW (m:Nat) (g:Nat->AV):Prop where
 ok:TH (Ca m g)
 va:∀i,i<m->VA (g i) (vW (wS (Ca m g) i))
def Be (k:Int) (s:Aj) (n:Int) (t:TK) (r:List AB):AB:=⟨k,s,n,t.line,t.Av,kS r r.length⟩::rS r r.length
def F7 (l:Al):AV:=match l with
 |a::_=>a
 | []=>.AW
structure Ps (m:Nat) (f:Nat->List AV):Prop where
 l:∀i,i<m->f i=[F7 (f i)]
def cellsIn (H:Tr Ah) (w:AV):Option (((Nat×(Nat->AV))×Nat)×Prop):=match w with
 |.sl r 0 m x=>ob (H.get r) λo=>match o with
  |.cells el c z N op=>ob (VI c z m 0) λl=>some (((m,λi=>l.getD i .AW),r),(cond (Nat.beq el 120) (cond op false (cond (Nat.beq N x) (Nat.ble m x) false)) false)=true)
  |_=>none
 |.BK r 0 m 1=>ob (H.get r) λo=>match o with
  |.cells el c z N op=>match c,z with
   |.leaf,.rows e f=>some (((m,λi=>F7 (f i)),r),cond (Nat.beq el 120) (Nat.beq e 1) false=true/\m<=N/\Ps m f)
   |_,_=>ob (VI c z m 0) λl=>some (((m,λi=>l.getD i .AW),r),(cond (Nat.beq el 120) (Nat.ble m N) false)=true)
  |_=>none
 |.AR r m 1=>ob (H.get r) λo=>match o with
  |.cells el c z N op=>match c,z with
   |.leaf,.rows e f=>some (((m,λi=>F7 (f i)),r),cond (Nat.beq el 120) (Nat.beq e 1) false=true/\m<=N/\Ps m f)
   |_,_=>none
  |_=>none
 |_=>none
def zn:Tr Ah->Al->Option Ct:=λ_ args=>match args with
 | [.int .i64 k,x,.int .i64 n,.agg [.int .i64 a,.bs b,.int .i64 c,.int .i64 d,.int .i64 e],.AW]=>ob (QZ x) λs=>some (.Bb True (.ret (vW (Be k s n ⟨a,b,c,d,e⟩ []))))
 |_=>none
def cr:Ft:=λH nx args=>match args with
 | [.int .i64 k,x,.int .i64 n,.agg [.int .i64 a,.bs b,.int .i64 c,.int .i64 d,.int .i64 e],w]=>ob (QZ x) λs=>match w with
  |.AW=>some (.ret (vW (Be k s n ⟨a,b,c,d,e⟩ [])) [] (nx+1))
  |w=>ob (cellsIn H w) λq=>some (.Bb (Nat.blt q.1.2 nx=true/\q.2/\BW q.1.1.1 q.1.1.2) (.ret (vW (Be k s n ⟨a,b,c,d,e⟩ (Ca q.1.1.1 q.1.1.2))) [(q.1.2,Gf (Ca q.1.1.1 q.1.1.2))] nx))
 |_=>none
def Abq:CZ:=(59,cr)::(75,Ad6)::sv
def zZ (ht:CZ) (AA:Es Tryz.prog ht):Ctx:=K7 ht AA
def hTw (k:Int) (s:Aj) (n:Int) (t:TK) (x:List AB) (r:Nat):GY:={X:=Unit,gl:=[],N4:=λ_=>true,ng:=0,k:=1,args:=λ_=>[.int .i64 k,.bs s,.int .i64 n,.agg t.row,.AR 0 x.length 1],Ff:=λ_=>[Gf x],pre:=λ_=>TH x,out:=λ_=>.ret (vW (⟨k,s,n,t.line,t.Av,kS x x.length⟩::rS x x.length)) [Gf x] 0,fz:=2,find:=λ_ _=>some ((),[r])}
theorem Ajn (x:LT):tW x.row=x:=by unfold LT.row tW;simp only[AdJ]
theorem Al7 (W:AB):rowOf (vW W)=W:=by
 unfold rowOf vW;apply List.ext_getElem
 ·simp
 ·intro i x r;simp[QQ,Ajn,Bt,Ce r]
theorem Y5 {m:Nat} {g:Nat->AV} {r:List AB} (x:m=r.length) (y:∀i,i<m->g i=vW (wS r i)):Ca m g=r:=by
 unfold Ca;rw[Et];apply List.ext_getElem
 ·simp[x]
 ·intro i J B;have z:i<m:=by simpa using J
  simp only[List.getElem_map,List.getElem_range];rw[y i z,Al7];unfold wS;rw[Bt,Ce B];rfl
theorem iY {m:Nat} {g:Nat->AV} {r:List AB} (y:m=r.length) (x:∀i,i<m->g i=vW (wS r i)) (h:TH r):BW m g:=by have e:=Y5 y x;exact⟨by rw[e];exact h,λi hi=>by rw[e,x i hi];exact Ke _⟩
theorem xI (m:Nat) (g:Nat->AV):(Ca m g).length=m:=by unfold Ca;rw[Et];simp
theorem wR {x:AV} {s:Aj} (h:QZ x=some s):VA x (.bs s):=by
 unfold QZ at h;split at h
 ·injection h with h;subst h;exact Ke _
 ·injection h with h;subst h;exact AqG _ _
 ·cases h
theorem Afu (r:List (Nat×Nat)) (W:AB):Bi r (vW W) (vW W):=⟨rfl,rfl,⟨λi _=>Td r _⟩⟩
theorem Aqt (k:Int) (s:Aj) (n:Int) (t:TK) (r:List AB):Be k s n t r=VV k s n t r:=Aqu k s n t r
theorem Alb:BC Tryz.prog 59 zn:=by
 refine zt (gl:=[]) (ng:=0) (λp y=>by cases y) λH args ct r=>?_;unfold zn at r;split at r
 ·rename_i k x n a b c d e;obtain⟨s,z,r⟩:=Ai.1 r;injection r with r;subst r;refine⟨λp y=>(by cases y),_,_,rfl,λy=>⟨[.int .i64 k,.bs s,.int .i64 n,.agg (TK.row ⟨a,b,c,d,e⟩),.AW],?_,?_,T8,60,rfl,Dq,Bk,?_⟩⟩
  ·exact I5 (Ke _) (I5 (wR z) (I5 (Ke _) (I5 (Ke _) (I5 (Ke _) ic))))
  ·exact⟨⟨rfl,rfl⟩,rfl,⟨rfl,rfl⟩,⟨⟨rfl,rfl⟩,rfl,⟨rfl,rfl⟩,⟨rfl,rfl⟩,⟨rfl,rfl⟩,trivial⟩,trivial,trivial⟩
  ·rw[Aqt];exact AoY k s n ⟨a,b,c,d,e⟩
 ·cases r
theorem Ag9 (r:List AB):M3 (Gf r):=λi _=>⟨⟨rfl,rfl,⟨λq _=>Td [] _⟩⟩,trivial⟩
theorem yl (W:AB):M1 4 (vW W):=⟨rfl,rfl,⟨λi _=>⟨⟨rfl,rfl⟩,rfl,⟨rfl,rfl⟩,⟨rfl,rfl⟩,⟨rfl,rfl⟩,⟨rfl,rfl,⟨λj _=>⟨⟨rfl,rfl⟩,trivial⟩⟩⟩,trivial⟩⟩⟩
theorem Alc (k:Int) (s:Aj) (n:Int) (t:TK) (z:List AB) (r:Nat):BH Tryz.prog 59 (hTw k s n t z r).AN:=by
 refine dZ (hTw k s n t z r) (λp y=>by cases y) (λH _ p y=>by cases y) (λx=>rfl) (λx o B=>?_) (λx y=>?_) λx y=>?_
 ·rw[I7.1 B];rfl
 ·exact⟨yl _,rfl,λo B=>by rw[I7.1 B];exact Ag9 z⟩
 ·exact⟨(A3 (z7 k s n t z) 60).call,PD Dq Bk 60,Ao0 k s n t z y⟩
theorem AlN {E:Env} {F:Nat->Option Obj} {nx:Nat} {ρ:Ak} {H:Tr Ah} {w:World} (r:Rel E F nx ρ H.get w) {i:Nat} {o o':Ah} (S:H.get i=some o) (W:Kw o'=false) (h:∀b c,ρ i=some b->OR ρ b o c->OR ρ b o' c): Rel E F nx ρ (H.set i o').get w:=by
 have key:∀j x,(H.set i o').get j=some x->(j=i/\x=o')\/(j≠i/\H.get j=some x):=λj x z=>by
  rw[Tr.Gm]at z;split at z
  ·rename_i e;injection z with z;exact .inl ⟨e.symm,z.symm⟩
  ·rename_i e;exact .inr ⟨λh=>e h.symm,z⟩
 have B:∀j x,(H.set i o').get j=some x->∃y,H.get j=some y:=λj x z=>by
  rcases key j x z with⟨rfl,_⟩|⟨_,h⟩
  ·exact⟨o,S⟩
  ·exact⟨x,h⟩
 refine⟨r.tape,r.os,r.output,r.fr,λj x b z hb=>?_,λj x b z hb=>?_,λj k x y b Z z hy hb R e=>?_,r.new,λg l z=>?_,r.bs,r.st,λj x b z hb=>?_,r.sf⟩
 ·rcases key j x z with⟨rfl,rfl⟩|⟨_,J⟩
  ·obtain⟨c,J,Y⟩:=r.ob j o b S hb;exact⟨c,J,h b c hb Y⟩
  ·exact r.ob j x b J hb
 ·obtain⟨y,hy⟩:=B j x z;exact r.dj j y b hy hb
 ·obtain⟨V,L⟩:=B j x z;obtain⟨U,K⟩:=B k y hy;exact r.inj j k V U b Z L K hb R e
 ·rcases key g _ z with⟨_,rfl⟩|⟨_,J⟩
  ·cases W
  ·exact r.gl g l J
 ·obtain⟨y,hy⟩:=B j x z;exact r.sd j y b hy hb
theorem QU (r:List AB) (k:Nat):cellOf .leaf (.rows 1 (ED r)) k=some (vW (wS r k)):=by rw[G1];show(ED r (k/1))[k %1]? =_;rw[Nat.div_one,Nat.mod_one];rfl
theorem ew {ρ:Ak} {b:CD} {c:Tr AV} {z:CB} {N m:Nat} {op:Bool} {g:Nat->AV} {x:Obj} (S:m<=N) (hc:∀k,k<m->cellOf c z k=some (g k)) (hT:BW m g) (h:OR ρ b (.cells 120 c z N op) x):OR ρ b (Gf (Ca m g)) x:=by
 cases h with
 |cells _ _ _ _ _ cs fz DT hn R J r=>refine .cells _ _ _ _ _ cs fz DT (by rw[xI];omega) (λh=>by cases h) J λk a B y=>?_;rw[xI]at B;rw[QU]at y;injection y with y;subst y;obtain⟨v,L,K⟩:=r k (g k) (by omega) (hc k B);exact⟨v,L,hT.va k B ρ v K⟩
theorem Ag2 {H:Tr Ah} {w:AV} {m:Nat} {g:Nat->AV} {i:Nat} {p:Prop} (h:cellsIn H w=some (((m,g),i),p)) (S:p) (hT:BW m g):∃o,H.get i=some o/\ (∀ρ b c,OR ρ b o c->OR ρ b (Gf (Ca m g)) c)/\∀E F nx ρ w',Rel E F nx ρ H.get w'->∀u,VR ρ w u->VR ρ (.AR i m 1) u:=by
 unfold cellsIn at h;split at h
 ·rename_i r R m';obtain⟨o,V,h⟩:=Ai.1 h;split at h
  ·rename_i el c z N op;obtain⟨l,hl,h⟩:=Ai.1 h;injection h with h;injection h with h Y;injection h with h Z;injection h with h1 W;subst h1;subst Z;subst Y;subst W;obtain⟨B,y⟩:=BG S;cases J:op with
   |true=>rw[J]at y;cases y
   |false=>
   rw[J]at y;obtain⟨y,p3⟩:=BG (show cond (Nat.beq N m') (Nat.ble R m') false=true from y);rw[A0]at B y;rw[Nat.ble_eq]at p3;subst B;subst y;subst J;obtain⟨q1,q2⟩:=YG c z R 0 l hl;refine⟨_,V,λρ b x U=>ew p3 (λk hk=>?_) hT U,λE F nx ρ w' r0 u hu=>?_⟩
   ·have K:k<l.length:=by omega
    have:=q2 k l[k] (Ce K);rw[Nat.zero_add]at this;rw[this,Bt,Ce K];rfl
   ·cases hu with
    |sl _ _ _ _ b hb=>
     obtain⟨x,ad,aa⟩:=r0.ob _ _ b V hb;cases aa with
     |cells _ _ _ _ _ cs fz DT hn J ae ab=>
     have hN:=J rfl;have:=VR.AR (ρ:=ρ) r R 1 b hb (by decide) (by omega);rw[Nat.div_one,<-hN]at this;exact this
  ·cases h
 ·rename_i r R;obtain⟨o,V,h⟩:=Ai.1 h;split at h
  ·rename_i el c z N op;have conv:∀E F nx ρ w',Rel E F nx ρ H.get w'->∀u,VR ρ (.BK r 0 R 1) u->VR ρ (.AR r R 1) u:=λE F nx ρ w' r0 u hu=>by
    cases hu with
    |BK _ _ _ _ b hb he hl=>have:=VR.AR (ρ:=ρ) r R 1 b hb (by decide) (by omega);exact this
   split at h
   ·rename_i e f;injection h with h;injection h with h Y;injection h with h Z;injection h with h1 W;subst h1;subst Z;subst Y;subst W;obtain⟨S,hle,L⟩:=S;obtain⟨B,y⟩:=BG S;rw[A0]at B y;subst B;subst y;refine⟨_,V,λρ b x U=>?_,conv⟩;exact ew hle (λk hk=>by rw[G1];show(f (k/1))[k %1]? =_;rw[Nat.div_one,Nat.mod_one,L.l k hk];rfl) hT U
   ·obtain⟨l,hl,h⟩:=Ai.1 h;injection h with h;injection h with h Y;injection h with h Z;injection h with h1 W;subst h1;subst Z;subst Y;subst W;obtain⟨B,y⟩:=BG S;rw[A0]at B;rw[Nat.ble_eq]at y;subst B;obtain⟨q1,q2⟩:=YG c z R 0 l hl;refine⟨_,V,λρ b x U=>ew y (λk hk=>?_) hT U,conv⟩;have K:k<l.length:=by omega
    have:=q2 k l[k] (Ce K);rw[Nat.zero_add]at this;rw[this,Bt,Ce K];rfl
  ·cases h
 ·rename_i r R;obtain⟨o,V,h⟩:=Ai.1 h;split at h
  ·rename_i el c z N op;split at h
   ·rename_i e f;injection h with h;injection h with h Y;injection h with h Z;injection h with h1 W;subst h1;subst Z;subst Y;subst W;obtain⟨S,hle,L⟩:=S;obtain⟨B,y⟩:=BG S;rw[A0]at B y;subst B;subst y;refine⟨_,V,λρ b x U=>?_,λE F nx ρ w' r u hu=>hu⟩;exact ew hle (λk hk=>by rw[G1];show(f (k/1))[k %1]? =_;rw[Nat.div_one,Nat.mod_one,L.l k hk];rfl) hT U
   ·cases h
  ·cases h
 ·cases h
theorem Ac3:BH Tryz.prog 59 cr:=by
 intro H nx args hc z;unfold cr at z;split at z
 ·rename_i k x n a b c d e w;obtain⟨s,hs,z⟩:=Ai.1 z;split at z
  ·injection z with z;subst z;intro p v up nx' y E F ρ V r;injection y with y;injection y with R y;injection y with L y;injection y with K J;subst R;subst L;subst K;subst J;exact Alb .leaf _ (.Bb True (.ret (vW (Be k s n ⟨a,b,c,d,e⟩ [])))) (by show ob (QZ x) (λs=>some (Ct.Bb True (.ret (vW (Be k s n ⟨a,b,c,d,e⟩ [])))))=_;rw[hs];rfl) false _ (As trivial) E F ρ V nx H (λg l h=>by rw[Tr.Cy]at h;cases h) r
  ·obtain⟨⟨⟨⟨m,g⟩,i⟩,q⟩,hq,z⟩:=Ai.1 z;injection z with z;subst z;intro p v up nx' y E F ρ V r;obtain⟨⟨hi,S,hT⟩,y⟩:=Uz y;injection y with y;injection y with R y;injection y with L y;injection y with K J;subst R;subst L;subst K;subst J;simp only at hi S hT⊢;obtain⟨o,ho,af,U⟩:=Ag2 hq S hT;have r2:=AlN r (o':=Gf (Ca m g)) ho rfl λb c _ h=>af ρ b c h;have hm:(Ca m g).length=m:=xI m g;have g1:Ol nx [i]=true:=by show(List.all [i] λj=>Nat.blt j nx)=true;simp only[List.all_cons,List.all_nil,hi,Bool.and_true]
   have g2:AZ (C3 [i] 0) [.int .i64 k,.bs s,.int .i64 n,.agg (TK.row ⟨a,b,c,d,e⟩),.AR 0 (Ca m g).length 1] [.int .i64 k,.bs s,.int .i64 n,.agg (TK.row ⟨a,b,c,d,e⟩),.AR i m 1]:=⟨⟨rfl,rfl⟩,rfl,⟨rfl,rfl⟩,⟨⟨rfl,rfl⟩,rfl,⟨rfl,rfl⟩,⟨rfl,rfl⟩,⟨rfl,rfl⟩,trivial⟩,⟨rfl,hm.symm,rfl⟩,trivial⟩;have g3:Mh (C3 [i] 0) (H.set i (Gf (Ca m g))) (B2 [Gf (Ca m g)] 0):=by
    refine⟨?_,trivial⟩;show(match(H.set i (Gf (Ca m g))).get i with
     |none=>False
     |some o=>Kz [(0,i)] (Gf (Ca m g)) o)
    rw[Tr.PS];exact⟨rfl,rfl,rfl,rfl,⟨λq _=>⟨⟨rfl,rfl,⟨λ_ _=>Td _ _⟩⟩,trivial⟩⟩⟩
   have g4:hOut (Nk 0 [i] nx (.ret (vW (Be k s n ⟨a,b,c,d,e⟩ (Ca m g))) [Gf (Ca m g)] 0))=some (false,vW (Be k s n ⟨a,b,c,d,e⟩ (Ca m g)),[(i,Gf (Ca m g))],nx):=by show hOut (K9 (nx+0) λn'=>(λW=>Eg.ret (I0 (DP 0 W) 4 (vW (Be k s n ⟨a,b,c,d,e⟩ (Ca m g)))) (W.zip ([Gf (Ca m g)].map (Ge (DP 0 W)))) n') ([i]++List.range' nx 0))=_;rw[Ou];rfl
   have hh:=Alc k s n ⟨a,b,c,d,e⟩ (Ca m g) i (H.set i (Gf (Ca m g))) nx [.int .i64 k,.bs s,.int .i64 n,.agg (TK.row ⟨a,b,c,d,e⟩),.AR i m 1] _ rfl false (vW (Be k s n ⟨a,b,c,d,e⟩ (Ca m g))) [(i,Gf (Ca m g))] nx ((As ⟨hT.ok,rfl,g1,g2,g3⟩).trans g4) E F ρ V r2;refine⟨hh.1,λvs Az=>?_⟩;cases Az with
   |cons _ v1 _ vs ae Az=>cases Az with
   |cons _ v2 _ vs ad Az=>cases Az with
   |cons _ v3 _ vs ab Az=>cases Az with
   |cons _ v4 _ vs aa Az=>cases Az with
   |cons _ v5 _ vs Z Az=>cases Az with
   |nil=>
   refine CallsIn.mono (hh.2 _ (.cons _ _ _ _ ae (.cons _ _ _ _ (wR hs ρ _ ad) (.cons _ _ _ _ ab (.cons _ _ _ _ aa (.cons _ _ _ _ (U E F nx ρ V r _ Z) .nil)))))) λe w' z=>?_;obtain⟨u,Y,R,L,K,J⟩:=z;refine⟨u,Y,R,L,K.less λj o B=>?_,J⟩;have B:(H.set i (Gf (Ca m g))).get j=some o:=B;show((H.set i (Gf (Ca m g))).set i (Gf (Ca m g))).get j=some o;rw[Tr.Gm];split
   ·rename_i e;rw[Tr.Gm,As e]at B;exact B
   ·exact B
 ·cases z
theorem AiB:Es Tryz.prog Abq:=Dj Ac3 (Dj Akz Abl)
def Bs (L:Ad) (s:RS) (ws:List Aj):TK×RS:=H6 L s (ws.any (A5 L s))
def JZ (ws:List Aj):Ah:=.cells 9 .leaf (.Dv (ws.map .bs)) ws.length false
def Fp:List Aj:=[[105,110,116],[102,110],[116,111,107],[104,97,110,100],[97,114,114]]
def C2:List Aj:=[[108,111,111,112,101,114],[99,108,97,115,115],[118,97,114],[102,110],[99,111,109,112],[101,118,101,110,116],[109,97,105,110]]
def FY:List Aj:=[[111,110],[111,102,102]]
def Er:List Aj:=[[99,114,101,97,116,101],[115,116,97,114,116],[115,116,111,112],[100,101,115,116,114,111,121]]
structure Ri (ws:List (List UInt8)):Prop where
 h:ws=Fp\/ws=C2\/ws=FY\/ws=Er
def txW (l:Al):Option (List Aj):=List.rec (motive:=λ_=>Option (List Aj)) (some []) (λa _ r=>ob (QZ a) λw=>ob r λws=>some (w::ws)) l
def RJ:GY:={X:=(AV×RS)×List Aj,gl:=[],N4:=λ_=>true,ng:=0,k:=2,args:=λx=>[.ptr 0 0,.sl 1 0 x.2.length x.2.length],Ff:=λx=>[Bw x.1.1 x.1.2,JZ x.2],pre:=λx=>∃L,x.1.1=vK L/\AJ L x.1.2/\Ri x.2,out:=λx=>.gen (Bs (kL x.1.1) x.1.2 x.2) λy=>.ret (.agg y.1.row) [Bw x.1.1 y.2,JZ x.2] 0,fz:=0,find:=λH args=>match args with
   | [p,.sl r 0 m _]=>ob (AaO H p) λq=>ob (EV H r 0 m) λcs=>ob (txW cs) λws=>some ((q.1,ws),[q.2,r])
   |_=>none}
def Aeb:Ft:=RJ.AN
def sw:CZ:=(73,Aeb)::Abq
theorem Gq {L:Ad} {s:RS} {ws:List Aj} (b:Bool) (y:TK×RS) (hb:ws.any (A5 L s)=b) (hy:y=H6 L s b):(y.1.kind=(Bs L s ws).1.kind/\y.1.text=(Bs L s ws).1.text/\y.1.num=(Bs L s ws).1.num/\y.1.line=(Bs L s ws).1.line/\y.1.Av=(Bs L s ws).1.Av)/\((y.2.at_=(Bs L s ws).2.at_/\y.2.nest=(Bs L s ws).2.nest)/\y.2.err=(Bs L s ws).2.err)/\y.2.BE=(Bs L s ws).2.BE:=by
 have e:y=Bs L s ws:=by rw[hy];unfold Bs;rw[hb]
 subst e;exact⟨⟨rfl,rfl,rfl,rfl,rfl⟩,⟨⟨rfl,rfl⟩,rfl⟩,rfl⟩
def Ns:=[(97:UInt8),114,114]
def Sa:=[(104:UInt8),97,110,100]
def Sf:=[(116:UInt8),111,107]
def Sg:=[(105:UInt8),110,116]
def OX:=[(102:UInt8),110]
def fy:=((((True/\Ae Sg)/\Ae OX)/\Ae Sf)/\Ae Sa)
def Vi (a:Ad) (b:RS):=Prod.fst (Bs a b Fp)
@[reducible] def j7:Ad->RS->TK×RS->Prop:=λ(L:Ad) (s:RS) (a:TK×RS)=>Aa/\(((Aa/\TK.kind a.1=TK.kind (Vi L s))/\TK.text a.1=TK.text (Vi L s)/\(Aa/\TK.num a.1=TK.num (Vi L s))/\(Aa/\TK.line a.1=TK.line (Vi L s))/\(Aa/\TK.Av a.1=TK.Av (Vi L s))/\True)/\True)/\(Aa/\Aa/\Aa/\Aa/\(((FQ L/\Aa/\RS.at_ a.2=RS.at_ (Prod.snd (Bs L s Fp)))/\Aa/\RS.nest a.2=RS.nest (Prod.snd (Bs L s Fp)))/\Aa/\RS.err a.2=RS.err (Prod.snd (Bs L s Fp)))/\Aa/\RS.BE a.2=RS.BE (Prod.snd (Bs L s Fp)))/\(Aa/\Aa/\Aa/\Aa/\fy/\Ae Ns)/\True
def Qe (a:Ad) (b:RS):=((∃(r:Ad),vK a=vK r/\AJ r b/\(Aa->Int.NonNeg ((↑r.length:Int)-(RS.at_ b+1))))/\Aa/\Aa/\(qR/\Aa/\True)/\Kk a b)
@[reducible] def Tq:Ad->RS->Prop:=λ(L:Ad) (s:RS)=>(Qe L s)/\∀(y:TK×RS),y=Hd L s true->j7 L s y
def Qd (a:Ad) (b:RS):=((∃(r:Ad),vK a=vK r/\AJ r b/\(false=true->Int.NonNeg ((↑r.length:Int)-(RS.at_ b+1))))/\Aa/\Aa/\(qR/\Ae false/\True)/\Kk a b)
def U2 (a:Ad) (b:RS):=((∃(r:Ad),vK a=vK r/\AJ r b/\Nat.le 1 (List.length [(102:UInt8),110]))/\Aa/\Aa/\(qR/\Ae [(102:UInt8),110]/\True)/\CP a b)
def fq (a:Ad) (b:RS):=((∃(r:Ad),vK a=vK r/\AJ r b/\Nat.le 1 (List.length Ns))/\Aa/\Aa/\(qR/\Ae Ns/\True)/\CP a b)
theorem An0:∀(L:Ad) (s:RS),AJ L s->((∃(r:Ad),vK L=vK r/\AJ r s/\Nat.le 1 (List.length Sg))/\Aa/\Aa/\(qR/\Ae Sg/\True)/\CP L s)/\Ag (Ay (B3 L s Sg)) (Tq L s) ((U2 L s)/\Ag (Ay (B3 L s OX)) (Tq L s) (((∃(r:Ad),vK L=vK r/\AJ r s/\Nat.le 1 (List.length Sf))/\Aa/\Aa/\(qR/\Ae Sf/\True)/\CP L s)/\Ag (Ay (B3 L s Sf)) (Tq L s) (((∃(r:Ad),vK L=vK r/\AJ r s/\Nat.le 1 (List.length Sa))/\Aa/\Aa/\(qR/\Ae Sa/\True)/\CP L s)/\Ag (Ay (B3 L s Sa)) (Tq L s) ((fq L s)/\Ag (Ay (B3 L s Ns)) (Tq L s) ((Qd L s)/\∀(y:TK×RS),y=Hd L s false->j7 L s y)))))
:=by delta qR B3 Qd CP U2 Ns Sa Sf Sg fq OX Hd;intro L s x;simp only[Bq,D5,Kk,j7,Tq,BQ,qP,Ns,Sa,Sf,Sg,FQ,OX,fy,Vi,qR,Qe,Hd];simp only[Dt];refine⟨⟨L,rfl,x,by decide⟩,Ao (λz=>⟨⟨L,rfl,x,λ_=>Cg z⟩,λy hy=>Gq (ws:=Fp) true y (by unfold Fp;simp[z]) hy⟩) λz=>?_⟩;refine⟨⟨L,rfl,x,by decide⟩,Ao (λB=>⟨⟨L,rfl,x,λ_=>Cg B⟩,λy hy=>Gq (ws:=Fp) true y (by unfold Fp;simp[z,B]) hy⟩) λB=>?_⟩;refine⟨⟨L,rfl,x,by decide⟩,Ao (λJ=>⟨⟨L,rfl,x,λ_=>Cg J⟩,λy hy=>Gq (ws:=Fp) true y (by unfold Fp;simp[z,B,J]) hy⟩) λJ=>?_⟩;refine⟨⟨L,rfl,x,by decide⟩,Ao (λK=>⟨⟨L,rfl,x,λ_=>Cg K⟩,λy hy=>Gq (ws:=Fp) true y (by unfold Fp;simp[z,B,J,K]) hy⟩) λK=>?_⟩;refine⟨⟨L,rfl,x,by decide⟩,Ao (λR=>⟨⟨L,rfl,x,λ_=>Cg R⟩,λy hy=>Gq (ws:=Fp) true y (by unfold Fp;simp[z,B,J,K,R]) hy⟩) λR=>?_⟩;exact⟨⟨L,rfl,x,λh=>by cases h⟩,λy hy=>Gq (ws:=Fp) false y (by unfold Fp;simp[z,B,J,K,R]) hy⟩
theorem AnZ:∀(L:Ad) (s:RS),AJ L s->(A3 Oo 60).call 73 [.ptr 0 0,.sl 1 0 5 5] (BU (B2 [Bw (vK L) s,JZ Fp] 0)) 2 (E9 Tryz.prog 0 0 2 (.ret (.agg (Bs L s Fp).1.row) [Bw (vK L) (Bs L s Fp).2,JZ Fp] 0)):=Eq.mpr (by kernel_rfl) An0
def fJ:=((((((True/\Ae [(108:UInt8),111,111,112,101,114])/\Ae [(99:UInt8),108,97,115,115])/\Ae [(118:UInt8),97,114])/\Ae [(102:UInt8),110])/\Ae [(99:UInt8),111,109,112])/\Ae [(101:UInt8),118,101,110,116])
def Qb:=[(109:UInt8),97,105,110]
def Vh (a:Ad) (b:RS):=Prod.fst (Bs a b C2)
@[reducible] def j8:Ad->RS->TK×RS->Prop:=λ(L:Ad) (s:RS) (a:TK×RS)=>Aa/\(((Aa/\TK.kind a.1=TK.kind (Vh L s))/\TK.text a.1=TK.text (Vh L s)/\(Aa/\TK.num a.1=TK.num (Vh L s))/\(Aa/\TK.line a.1=TK.line (Vh L s))/\(Aa/\TK.Av a.1=TK.Av (Vh L s))/\True)/\True)/\(Aa/\Aa/\Aa/\Aa/\(((FQ L/\Aa/\RS.at_ a.2=RS.at_ (Prod.snd (Bs L s C2)))/\Aa/\RS.nest a.2=RS.nest (Prod.snd (Bs L s C2)))/\Aa/\RS.err a.2=RS.err (Prod.snd (Bs L s C2)))/\Aa/\RS.BE a.2=RS.BE (Prod.snd (Bs L s C2)))/\(Aa/\Aa/\Aa/\Aa/\fJ/\Ae Qb)/\True
@[reducible] def xO:Ad->RS->Prop:=λ(L:Ad) (s:RS)=>(Qe L s)/\∀(y:TK×RS),y=Hd L s true->j8 L s y
def fW:=[(108:UInt8),111,111,112,101,114]
def fR:=[(101:UInt8),118,101,110,116]
def fU:=[(99:UInt8),108,97,115,115]
def fo:=[(99:UInt8),111,109,112]
def fe:=[(118:UInt8),97,114]
def Qp (a:Ad):=xO a
theorem An2:∀(L:Ad) (s:RS),AJ L s->((∃(r:Ad),vK L=vK r/\AJ r s/\Nat.le 1 (List.length fW))/\Aa/\Aa/\(qR/\Ae fW/\True)/\CP L s)/\Ag (Ay (B3 L s fW)) (Qp L s) (((∃(r:Ad),vK L=vK r/\AJ r s/\Nat.le 1 (List.length fU))/\Aa/\Aa/\(qR/\Ae fU/\True)/\CP L s)/\Ag (Ay (B3 L s fU)) (Qp L s) (((∃(r:Ad),vK L=vK r/\AJ r s/\Nat.le 1 (List.length fe))/\Aa/\Aa/\(qR/\Ae fe/\True)/\CP L s)/\Ag (Ay (B3 L s fe)) (Qp L s) ((U2 L s)/\Ag (Ay (B3 L s OX)) (Qp L s) (((∃(r:Ad),vK L=vK r/\AJ r s/\Nat.le 1 (List.length fo))/\Aa/\Aa/\(qR/\Ae fo/\True)/\CP L s)/\Ag (Ay (B3 L s fo)) (Qp L s) (((∃(r:Ad),vK L=vK r/\AJ r s/\Nat.le 1 (List.length fR))/\Aa/\Aa/\(qR/\Ae fR/\True)/\CP L s)/\Ag (Ay (B3 L s fR)) (Qp L s) (((∃(r:Ad),vK L=vK r/\AJ r s/\Nat.le 1 (List.length Qb))/\Aa/\Aa/\(qR/\Ae Qb/\True)/\CP L s)/\Ag (Ay (B3 L s Qb)) (Qp L s) ((Qd L s)/\∀(y:TK×RS),y=Hd L s false->j8 L s y)))))))
:=by delta qR B3 Qd CP U2 Qb fW fR fU fo OX Hd fe Qp;intro L s x;simp only[Bq,D5,Kk,j8,xO,BQ,qP,fJ,Qb,FQ,Vh,qR,Qe,Hd];simp only[Dt];refine⟨⟨L,rfl,x,by decide⟩,Ao (λz=>⟨⟨L,rfl,x,λ_=>Cg z⟩,λy hy=>Gq (ws:=C2) true y (by unfold C2;simp[z]) hy⟩) λz=>?_⟩;refine⟨⟨L,rfl,x,by decide⟩,Ao (λB=>⟨⟨L,rfl,x,λ_=>Cg B⟩,λy hy=>Gq (ws:=C2) true y (by unfold C2;simp[z,B]) hy⟩) λB=>?_⟩;refine⟨⟨L,rfl,x,by decide⟩,Ao (λJ=>⟨⟨L,rfl,x,λ_=>Cg J⟩,λy hy=>Gq (ws:=C2) true y (by unfold C2;simp[z,B,J]) hy⟩) λJ=>?_⟩;refine⟨⟨L,rfl,x,by decide⟩,Ao (λK=>⟨⟨L,rfl,x,λ_=>Cg K⟩,λy hy=>Gq (ws:=C2) true y (by unfold C2;simp[z,B,J,K]) hy⟩) λK=>?_⟩;refine⟨⟨L,rfl,x,by decide⟩,Ao (λR=>⟨⟨L,rfl,x,λ_=>Cg R⟩,λy hy=>Gq (ws:=C2) true y (by unfold C2;simp[z,B,J,K,R]) hy⟩) λR=>?_⟩;refine⟨⟨L,rfl,x,by decide⟩,Ao (λS=>⟨⟨L,rfl,x,λ_=>Cg S⟩,λy hy=>Gq (ws:=C2) true y (by unfold C2;simp[z,B,J,K,R,S]) hy⟩) λS=>?_⟩;refine⟨⟨L,rfl,x,by decide⟩,Ao (λU=>⟨⟨L,rfl,x,λ_=>Cg U⟩,λy hy=>Gq (ws:=C2) true y (by unfold C2;simp[z,B,J,K,R,S,U]) hy⟩) λU=>?_⟩;exact⟨⟨L,rfl,x,λh=>by cases h⟩,λy hy=>Gq (ws:=C2) false y (by unfold C2;simp[z,B,J,K,R,S,U]) hy⟩
theorem An1:∀(L:Ad) (s:RS),AJ L s->(A3 Oo 60).call 73 [.ptr 0 0,.sl 1 0 7 7] (BU (B2 [Bw (vK L) s,JZ C2] 0)) 2 (E9 Tryz.prog 0 0 2 (.ret (.agg (Bs L s C2).1.row) [Bw (vK L) (Bs L s C2).2,JZ C2] 0)):=Eq.mpr (by kernel_rfl) An2
def Li:=[(111:UInt8),102,102]
def Jm:=[(111:UInt8),110]
def Vf (a:Ad) (b:RS):=Prod.fst (Bs a b FY)
@[reducible] def ja:Ad->RS->TK×RS->Prop:=λ(L:Ad) (s:RS) (a:TK×RS)=>Aa/\(((Aa/\TK.kind a.1=TK.kind (Vf L s))/\TK.text a.1=TK.text (Vf L s)/\(Aa/\TK.num a.1=TK.num (Vf L s))/\(Aa/\TK.line a.1=TK.line (Vf L s))/\(Aa/\TK.Av a.1=TK.Av (Vf L s))/\True)/\True)/\(Aa/\Aa/\Aa/\Aa/\(((FQ L/\Aa/\RS.at_ a.2=RS.at_ (Prod.snd (Bs L s FY)))/\Aa/\RS.nest a.2=RS.nest (Prod.snd (Bs L s FY)))/\Aa/\RS.err a.2=RS.err (Prod.snd (Bs L s FY)))/\Aa/\RS.BE a.2=RS.BE (Prod.snd (Bs L s FY)))/\(Aa/\Aa/\Aa/\Aa/\(True/\Ae Jm)/\Ae Li)/\True
@[reducible] def jb:Ad->RS->Prop:=λ(L:Ad) (s:RS)=>(Qe L s)/\∀(y:TK×RS),y=Hd L s true->ja L s y
theorem An6:∀(L:Ad) (s:RS),AJ L s->((∃(r:Ad),vK L=vK r/\AJ r s/\Nat.le 1 (List.length Jm))/\Aa/\Aa/\(qR/\Ae Jm/\True)/\CP L s)/\Ag (Ay (B3 L s Jm)) (jb L s) (((∃(r:Ad),vK L=vK r/\AJ r s/\Nat.le 1 (List.length Li))/\Aa/\Aa/\(qR/\Ae Li/\True)/\CP L s)/\Ag (Ay (B3 L s Li)) (jb L s) ((Qd L s)/\∀(y:TK×RS),y=Hd L s false->ja L s y))
:=by delta qR B3 Qd CP Li Jm Hd;intro L s x;simp only[Bq,D5,Kk,ja,jb,BQ,qP,Li,Jm,FQ,Vf,qR,Qe,Hd];simp only[Dt];refine⟨⟨L,rfl,x,by decide⟩,Ao (λz=>⟨⟨L,rfl,x,λ_=>Cg z⟩,λy hy=>Gq (ws:=FY) true y (by unfold FY;simp[z]) hy⟩) λz=>?_⟩;refine⟨⟨L,rfl,x,by decide⟩,Ao (λB=>⟨⟨L,rfl,x,λ_=>Cg B⟩,λy hy=>Gq (ws:=FY) true y (by unfold FY;simp[z,B]) hy⟩) λB=>?_⟩;exact⟨⟨L,rfl,x,λh=>by cases h⟩,λy hy=>Gq (ws:=FY) false y (by unfold FY;simp[z,B]) hy⟩
theorem An5:∀(L:Ad) (s:RS),AJ L s->(A3 Oo 60).call 73 [.ptr 0 0,.sl 1 0 2 2] (BU (B2 [Bw (vK L) s,JZ FY] 0)) 2 (E9 Tryz.prog 0 0 2 (.ret (.agg (Bs L s FY).1.row) [Bw (vK L) (Bs L s FY).2,JZ FY] 0)):=Eq.mpr (by kernel_rfl) An6
def XT:=(((True/\Ae [(99:UInt8),114,101,97,116,101])/\Ae [(115:UInt8),116,97,114,116])/\Ae [(115:UInt8),116,111,112])
def OK:=[(100:UInt8),101,115,116,114,111,121]
def Vg (a:Ad) (b:RS):=Prod.fst (Bs a b Er)
@[reducible] def j9:Ad->RS->TK×RS->Prop:=λ(L:Ad) (s:RS) (a:TK×RS)=>Aa/\(((Aa/\TK.kind a.1=TK.kind (Vg L s))/\TK.text a.1=TK.text (Vg L s)/\(Aa/\TK.num a.1=TK.num (Vg L s))/\(Aa/\TK.line a.1=TK.line (Vg L s))/\(Aa/\TK.Av a.1=TK.Av (Vg L s))/\True)/\True)/\(Aa/\Aa/\Aa/\Aa/\(((FQ L/\Aa/\RS.at_ a.2=RS.at_ (Prod.snd (Bs L s Er)))/\Aa/\RS.nest a.2=RS.nest (Prod.snd (Bs L s Er)))/\Aa/\RS.err a.2=RS.err (Prod.snd (Bs L s Er)))/\Aa/\RS.BE a.2=RS.BE (Prod.snd (Bs L s Er)))/\(Aa/\Aa/\Aa/\Aa/\XT/\Ae OK)/\True
@[reducible] def Wm:Ad->RS->Prop:=λ(L:Ad) (s:RS)=>(Qe L s)/\∀(y:TK×RS),y=Hd L s true->j9 L s y
def fX:=[(99:UInt8),114,101,97,116,101]
def fT:=[(115:UInt8),116,97,114,116]
def fP:=[(115:UInt8),116,111,112]
theorem An4:∀(L:Ad) (s:RS),AJ L s->((∃(r:Ad),vK L=vK r/\AJ r s/\Nat.le 1 (List.length fX))/\Aa/\Aa/\(qR/\Ae fX/\True)/\CP L s)/\Ag (Ay (B3 L s fX)) (Wm L s) (((∃(r:Ad),vK L=vK r/\AJ r s/\Nat.le 1 (List.length fT))/\Aa/\Aa/\(qR/\Ae fT/\True)/\CP L s)/\Ag (Ay (B3 L s fT)) (Wm L s) (((∃(r:Ad),vK L=vK r/\AJ r s/\Nat.le 1 (List.length fP))/\Aa/\Aa/\(qR/\Ae fP/\True)/\CP L s)/\Ag (Ay (B3 L s fP)) (Wm L s) (((∃(r:Ad),vK L=vK r/\AJ r s/\Nat.le 1 (List.length OK))/\Aa/\Aa/\(qR/\Ae OK/\True)/\CP L s)/\Ag (Ay (B3 L s OK)) (Wm L s) ((Qd L s)/\∀(y:TK×RS),y=Hd L s false->j9 L s y))))
:=by delta qR B3 Qd OK CP fX fT fP Hd;intro L s x;simp only[Bq,D5,Kk,j9,Wm,BQ,qP,XT,OK,FQ,Vg,qR,Qe,Hd];simp only[Dt];refine⟨⟨L,rfl,x,by decide⟩,Ao (λz=>⟨⟨L,rfl,x,λ_=>Cg z⟩,λy hy=>Gq (ws:=Er) true y (by unfold Er;simp[z]) hy⟩) λz=>?_⟩;refine⟨⟨L,rfl,x,by decide⟩,Ao (λB=>⟨⟨L,rfl,x,λ_=>Cg B⟩,λy hy=>Gq (ws:=Er) true y (by unfold Er;simp[z,B]) hy⟩) λB=>?_⟩;refine⟨⟨L,rfl,x,by decide⟩,Ao (λJ=>⟨⟨L,rfl,x,λ_=>Cg J⟩,λy hy=>Gq (ws:=Er) true y (by unfold Er;simp[z,B,J]) hy⟩) λJ=>?_⟩;refine⟨⟨L,rfl,x,by decide⟩,Ao (λK=>⟨⟨L,rfl,x,λ_=>Cg K⟩,λy hy=>Gq (ws:=Er) true y (by unfold Er;simp[z,B,J,K]) hy⟩) λK=>?_⟩;exact⟨⟨L,rfl,x,λh=>by cases h⟩,λy hy=>Gq (ws:=Er) false y (by unfold Er;simp[z,B,J,K]) hy⟩
theorem An3:∀(L:Ad) (s:RS),AJ L s->(A3 Oo 60).call 73 [.ptr 0 0,.sl 1 0 4 4] (BU (B2 [Bw (vK L) s,JZ Er] 0)) 2 (E9 Tryz.prog 0 0 2 (.ret (.agg (Bs L s Er).1.row) [Bw (vK L) (Bs L s Er).2,JZ Er] 0)):=Eq.mpr (by kernel_rfl) An4
theorem clW (ws:List Aj):M3 (JZ ws):=by intro a r;obtain⟨w,_,rfl⟩:=List.mem_map.1 r;exact(rfl:w=w)
theorem AkM:BH Tryz.prog 73 Aeb:=by
 refine dZ RJ (λp B=>by cases B) (λH _ p B=>by cases B) (λx=>rfl) (λx o z=>?_) (λx B=>?_) λx B=>?_
 ·have z:o∈[Bw x.1.1 x.1.2,JZ x.2]:=z;rcases Dp.1 z with rfl|z
  ·rfl
  ·rw[I7.1 z];rfl
 ·obtain⟨⟨c,s⟩,a⟩:=x;obtain⟨L,rfl,h,_⟩:=B;refine⟨T7 _,rfl,λo z=>?_⟩;rcases Dp.1 z with rfl|z
  ·exact yk L _
  ·rw[I7.1 z];exact clW _
 ·obtain⟨⟨c,s⟩,a⟩:=x;obtain⟨L,hc,h,⟨K⟩⟩:=B;have hc:c=vK L:=hc;subst hc;refine⟨(A3 Oo 60).call,PD Dq Bk 60,?_⟩;have J:∀ws:List Aj,E9 Tryz.prog 0 0 2 (.ret (.agg (Bs L s ws).1.row) [Bw (vK L) (Bs L s ws).2,JZ ws] 0)=E9 Tryz.prog RJ.fz RJ.ng (RJ.ng+RJ.k) (RJ.out ((vK L,s),ws)):=λws=>by show _=E9 Tryz.prog 0 0 2 (.gen (Bs (kL (vK L)) s ws) λy=>.ret (.agg y.1.row) [Bw (vK L) y.2,JZ ws] 0);rw[Dt];rfl
  have K:a=Fp\/a=C2\/a=FY\/a=Er:=K;rcases K with rfl|rfl|rfl|rfl
  ·have r:=AnZ L s h;rw[J]at r;exact r
  ·have r:=An1 L s h;rw[J]at r;exact r
  ·have r:=An5 L s h;rw[J]at r;exact r
  ·have r:=An3 L s h;rw[J]at r;exact r
theorem Abr:Es Tryz.prog sw:=Dj AkM AiB
def cd:Ctx:=zZ sw Abr
inductive PT where
 |mk (k:Int) (s:List UInt8) (n:Int) (l c:Int) (ks:List PT)
abbrev Bg:=List PT
mutual
def flat:PT->AB
 |.mk k s n l c ks=>Be k s n ⟨0,[],0,l,c⟩ (Bz ks)
def Bz:Bg->List AB
 | []=>[]
 |x::r=>flat x::Bz r
end
mutual
def sz:PT->Nat
 |.mk _ _ _ _ _ ks=>1+DH ks
def DH:Bg->Nat
 | []=>0
 |x::r=>sz x+DH r
end
def PT.kind:PT->Int
 |.mk k _ _ _ _ _=>k
def nd (k:Int) (s:Aj) (n:Int) (t:TK) (ks:Bg):PT:=.mk k s n t.line t.Av ks
def Ki:PT:=.mk 0 [] 0 0 0 []
abbrev PF:=RS->PT×RS
def A7 (s:RS):RS:={s with at_:=s.at_+1}
def down (s:RS):RS:={s with nest:=s.nest-1}
theorem Ox (k:Int) (s:Aj) (n:Int) (t:TK) (ks:Bg):flat (nd k s n t ks)=Be k s n t (Bz ks):=by unfold nd flat Be;rfl
theorem Ow:∀ks:Bg,Bz ks=ks.map flat
 | []=>by unfold Bz;rfl
 |x::r=>by unfold Bz;rw[Ow r];rfl
theorem L9 (ks:Bg):(Bz ks).length=ks.length:=by rw[Ow];simp
theorem I3:DH []=0:=by unfold DH;rfl
theorem Hj (x:PT) (r:Bg):DH (x::r)=sz x+DH r:=by conv=>lhs;unfold DH
theorem iP (k:Int) (s:Aj) (n l c:Int) (ks:Bg):sz (.mk k s n l c ks)=1+DH ks:=by conv=>lhs;unfold sz
theorem N8 (k:Int) (s:Aj) (n:Int) (t:TK) (ks:Bg):sz (nd k s n t ks)=1+DH ks:=iP _ _ _ _ _ _
theorem wU:∀a b:Bg,DH (a++b)=DH a+DH b
 | [],b=>by rw[I3,List.nil_append,Nat.zero_add]
 |x::a,b=>by rw[List.cons_append,Hj,Hj,wU a b,Fu]
theorem J9:∀x:PT,1<=sz x
 |.mk _ _ _ _ _ ks=>by rw[iP];omega
theorem RT:∀ks:Bg,ks.length<=DH ks
 | []=>BL _
 |x::r=>by have:=RT r;have:=J9 x;rw[Hj,Dn];omega
structure MV (N:Nat) (w:LT):Prop where
 l:w.kids.length<N
 v:∀c∈w.kids,0<=c/\c<N
theorem AaQ {N M:Nat} {w:LT} (h:MV N w) (r:N<=M):MV M w:=⟨by have:=h.l;omega,λc hc=>by have:=h.v c hc;omega⟩
theorem Aia {N b:Nat} {w:LT} (h:MV N w):MV (N+b) (J7 (b:Int) w):=by
 refine⟨?_,λc hc=>?_⟩
 ·show(w.kids.map (· +(b:Int))).length<_;rw[HJ];have:=h.l;omega
 ·obtain⟨d,hd,rfl⟩:=List.mem_map.1 (show c∈w.kids.map (· +(b:Int))from hc);have:=h.v d hd;constructor
  ·show 0<=d+(b:Int);omega
  ·show d+(b:Int)<_;omega
theorem sR:∀(r:List AB) (a:Af×AB),(∀W∈r,0<W.length/\∀w∈W,MV W.length w)->(∀w∈a.2,MV (1+a.2.length) w)->(∀c∈a.1,0<=c/\c<=a.2.length)-> (r.foldl Hl a).2.length=a.2.length+(r.map List.length).sum/\(r.foldl Hl a).1.length=a.1.length+r.length/\(∀w∈(r.foldl Hl a).2,MV (1+(r.foldl Hl a).2.length) w)/\∀c∈(r.foldl Hl a).1,0<=c/\c<=(r.foldl Hl a).2.length
 | [],a,_,y,x=>⟨by simp,by simp,y,x⟩
 |W::r,a,B,y,x=>by
  have hl:(Hl a W).2.length=a.2.length+W.length:=by simp[Hl]
  have S:(Hl a W).1.length=a.1.length+1:=by simp[Hl]
  have z:=B W (EG ..);have Y:=z.1;obtain⟨R,L,K,J⟩:=sR r (Hl a W) (λV U=>B V (EF _ U)) (λw hw=>by
   rw[hl];rcases List.mem_append.1 (show w∈a.2++W.map (J7 (1+(a.2.length:Int)))from hw)with hw|hw
   ·exact AaQ (y w hw) (by omega)
   ·obtain⟨v,hv,rfl⟩:=List.mem_map.1 hw;have:=Aia (b:=1+a.2.length) (z.2 v hv);rw[show((1+a.2.length:Nat):Int)=1+(a.2.length:Int) by omega]at this;exact AaQ this (by omega)) (λc hc=>by
   rw[hl];rcases List.mem_append.1 (show c∈a.1++[1+(a.2.length:Int)]from hc)with hc|hc
   ·have:=x c hc;omega
   ·rw[I7.1 hc];omega)
  exact⟨by rw[List.foldl_cons,R,hl,List.map_cons,List.sum_cons];omega,by rw[List.foldl_cons,L,S,Dn];omega,K,J⟩
theorem AbN (r:List AB):kS r r.length=(FV r).1:=by unfold kS;rw[Et,List.take_length]
theorem Adw (r:List AB):rS r r.length=(FV r).2:=by unfold rS;rw[Et,List.take_length]
mutual
theorem sO:∀x:PT,(flat x).length=sz x/\∀w∈flat x,MV (sz x) w
 |.mk k s n l c ks=>by
  obtain⟨K,J⟩:=sN ks;obtain⟨B,z,y,r⟩:=sR (Bz ks) ([],[]) J (λw hw=>by cases hw) (λc hc=>by cases hc);have e:flat (.mk k s n l c ks)=⟨k,s,n,l,c,(FV (Bz ks)).1⟩::(FV (Bz ks)).2:=by
   conv=>lhs;unfold flat
   unfold Be;rw[AbN,Adw]
  have hl:(FV (Bz ks)).2.length=DH ks:=by rw[show(FV (Bz ks)).2.length=_ from B,K];simp
  rw[e,iP];refine⟨by rw[Dn,hl];omega,λw hw=>?_⟩;rcases Dp.1 hw with rfl|hw
  ·refine⟨?_,λc hc=>?_⟩
   ·show(FV (Bz ks)).1.length<_;rw[show(FV (Bz ks)).1.length=_ from z,L9];have:=RT ks;simp only[List.length_nil];omega
   ·have h:=r c hc;rw[show(List.foldl Hl ([],[]) (Bz ks))=FV (Bz ks)from rfl,hl]at h;omega
  ·have h:=y w hw;rw[show(List.foldl Hl ([],[]) (Bz ks))=FV (Bz ks)from rfl,hl]at h;exact h
theorem sN:∀ks:Bg,((Bz ks).map List.length).sum=DH ks/\∀W∈Bz ks,0<W.length/\∀w∈W,MV W.length w
 | []=>by unfold Bz;exact⟨by rw[I3];rfl,λW r=>by cases r⟩
 |x::z=>by
  obtain⟨y,K⟩:=sO x;obtain⟨J,B⟩:=sN z;unfold Bz;refine⟨by rw[List.map_cons,List.sum_cons,y,J,Hj],λW r=>?_⟩;rcases Dp.1 r with rfl|r
  ·rw[y];exact⟨J9 x,K⟩
  ·exact B W r
end
theorem Aib {x:PT} (h:sz x<=1000000):xp (flat x):=by
 obtain⟨y,r⟩:=sO x;have key:∀i,MV (sz x) ((flat x).getD i LT.none):=λi=>by
  by_cases hi:i<(flat x).length
  ·rw[Bt,Ce hi];exact r _ (List.getElem_mem _)
  ·rw[Bt,Ja (by omega)];exact⟨J9 x,λc hc=>by cases hc⟩
 exact⟨by rw[y];exact J9 x,by omega,λi=>by have:=(key i).l;omega,λi c hc=>by have:=(key i).v c hc;omega⟩
theorem dI {ks:Bg} (h:DH ks<=1000000):TH (Bz ks):=by
 obtain⟨K,J⟩:=sN ks;obtain⟨r,U,S,R⟩:=sR (Bz ks) ([],[]) J (λw B=>by cases B) (λc hc=>by cases hc);refine⟨λi hi=>?_,?_,?_⟩
 ·have L:i<ks.length:=by rw[<-L9];exact hi
  have e:wS (Bz ks) i=flat ks[i]:=by unfold wS;rw[Bt,Ce hi];simp[Ow]
  rw[e];refine Aib ?_;have:∀(l:Bg) (y:PT),y∈l->sz y<=DH l:=λl=>by
   induction l with
   |nil=>intro y hy;cases hy
   |cons z l x=>
    intro y hy;rw[Hj];rcases Dp.1 hy with rfl|hy
    ·omega
    ·have:=x y hy;omega
  have:=this ks ks[i] (List.getElem_mem _);omega
 ·show(List.foldl Hl ([],[]) (Bz ks)).2.length<=_;rw[r,K];simpa using h
 ·rw[L9];have:=RT ks;omega
theorem Aic (x:PT):((flat x).getD 0 LT.none).kind=x.kind:=by cases x;unfold flat Be;rfl
theorem sP:flat Ki=[LT.none]:=by unfold Ki flat Be;rw[show Bz []=[] by unfold Bz;rfl,AbN,Adw];rfl
theorem tk1 {x:PT} {g:Nat->AV} (h:sz x<=1000000) (y:g 0=vW (flat x)):BW 1 g/\Ca 1 g=Bz [x]:=by
 have e:Bz [x]=[flat x]:=by rw[Ow];rfl
 have r:∀i,i<1->g i=vW (wS (Bz [x]) i):=λi hi=>by rw[show i=0 by omega,y,e];rfl
 exact⟨iY (by rw[e];rfl) r (dI (by rw[Hj,I3];exact h)),Y5 (by rw[e];rfl) r⟩
theorem tk2 {x y:PT} {g:Nat->AV} (h:sz x+sz y<=1000000) (B:g 0=vW (flat x)) (z:g 1=vW (flat y)):BW 2 g/\Ca 2 g=Bz [x,y]:=by
 have e:Bz [x,y]=[flat x,flat y]:=by rw[Ow];rfl
 have r:∀i,i<2->g i=vW (wS (Bz [x,y]) i):=λi hi=>by
  rcases(show i=0\/i=1 by omega)with rfl|rfl
  ·rw[B,e];rfl
  ·rw[z,e];rfl
 exact⟨iY (by rw[e];rfl) r (dI (by rw[Hj,Hj,I3];omega)),Y5 (by rw[e];rfl) r⟩
theorem tk3 {x y z:PT} {g:Nat->AV} (h:sz x+(sz y+sz z)<=1000000) (K:g 0=vW (flat x)) (J:g 1=vW (flat y)) (B:g 2=vW (flat z)):BW 3 g/\Ca 3 g=Bz [x,y,z]:=by
 have e:Bz [x,y,z]=[flat x,flat y,flat z]:=by rw[Ow];rfl
 have r:∀i,i<3->g i=vW (wS (Bz [x,y,z]) i):=λi hi=>by
  rcases(show i=0\/i=1\/i=2 by omega)with rfl|rfl|rfl
  ·rw[K,e];rfl
  ·rw[J,e];rfl
  ·rw[B,e];rfl
 exact⟨iY (by rw[e];rfl) r (dI (by rw[Hj,Hj,Hj,I3];omega)),Y5 (by rw[e];rfl) r⟩
theorem AaR:Bz []=[]:=by unfold Bz;rfl
end Go.Proofs.YthallodoidghoaaGreat
end
end
