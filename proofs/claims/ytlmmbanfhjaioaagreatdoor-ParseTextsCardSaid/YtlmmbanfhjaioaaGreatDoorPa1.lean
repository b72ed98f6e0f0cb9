/- Laid by program out of its parts: PaA, PaB, PaC, PaD, PaE, PaF, PaG, PaH, PaI, PaK. -/
import Derived.Test.YtlmmbanfhjaioaaGreatDoorMj
import Derived.Test.YtlmmbanfhjaioaaGreatDoorMh
import Derived.KernelRfl
import Derived.Test.YtlmmbanfhjaioaaGreatDoorProg
noncomputable section
set_option linter.unusedVariables false
set_option linter.unusedSimpArgs false
section
set_option maxRecDepth 100000
set_option maxHeartbeats 2000000
open Go Go.Ev
namespace Go.Proofs.YtlmmbanfhjaioaaGreatDoor
theorem AW:Tryz.prog.follows .mixedOrders=true:=by rfl
structure TK where
 kind:Int
 text:List UInt8
 num:Int
 line:Int
 Ag:Int
def TK.zero:TK:=⟨0,[],0,0,0⟩
def TK.row (t:TK):List AV:=[.int .i64 t.kind,.bs t.text,.int .i64 t.num,.int .i64 t.line,.int .i64 t.Ag]
def ef (L:List TK):Nat->List AV:=λi=>(L.getD i TK.zero).row
def Wb (l:List AV):TK:=match l with
 | [.int _ k,.bs t,.int _ n,.int _ a,.int _ b]=>⟨k,t,n,a,b⟩
 |_=>TK.zero
def CF (n:Nat) (f:Nat->List AV):List TK:=(List.range n).map λi=>Wb (f i)
def vK (L:List TK):AV:=.vec 5 L.length (ef L)
def kL (c:AV):List TK:=match c with
 |.vec 5 n f=>CF n f
 |_=>[]
structure RS where
 at_:Int
 nest:Int
 err:Int
 Bp:Int
def SU (c:AV) (s:RS):List AV:=[c,.int .i64 s.at_,.int .i64 s.nest,.int .i64 s.err,.int .i64 s.Bp]
def Bm (c:AV) (s:RS):Ac:=.cells 79 .leaf (.CC (SU c s)) 5 false
structure Az (L:List TK) (s:RS):Prop where
 len:L.length<=100000
 a0:0<=s.at_
 a1:s.at_<=L.length
 n0:0<=s.nest
 n1:s.nest<=1000
def Aq (L:List TK) (s:RS):TK:=if s.err≠0\/(L.length:Int)<=s.at_ then TK.zero else L.getD s.at_.toNat TK.zero
def I2 (w:List UInt8):Int:=if 97<=((w.getD 0 0).toNat:Int)/\((w.getD 0 0).toNat:Int)<=122 then 2 else 4
def Ah (L:List TK) (s:RS) (w:List UInt8):Bool:=decide ((Aq L s).kind=I2 w)&&decide ((Aq L s).text=w)
def Bj (s:RS) (e:Int):RS:=if s.err=0 then{s with err:=e,Bp:=s.at_}else s
def xQ (H:Tr Ac) (a:AV):Option ((AV×RS)×Nat):=match a with
 |.ptr id 0=>ob (Fa H id 0 5) λcs=>match cs with
  | [c,.int .i64 a,.int .i64 b,.int .i64 d,.int .i64 e]=>some ((c,⟨a,b,d,e⟩),id)
  |_=>none
 |_=>none
def GM (ht:Cq) (Am:Db Tryz.prog ht):Ctx:={P:=Tryz.prog,tb:=[],ht:=ht,Am:=Am,lp:=λ_ _=>none,cut:=λ_ _=>none}
def S0:Ctx:={P:=Tryz.prog,tb:=[],lp:=λ_ _=>none,cut:=λ_ _=>none}
def JK (a:AV):Option (List UInt8):=match a with
 |.bs t=>some t
 |.str l n=>some (BC l n)
 |_=>none
def Nm (A:Type) (ar:A->List AV) (rd:List AV->Option A) (pre:List TK->RS->A->Prop) (out:AV->RS->A->HO) (fz:Nat):Ea:={X:=(AV×RS)×A,gl:=[],G2:=λ_=>true,ng:=0,k:=1,args:=λx=>.ptr 0 0::ar x.2,Dv:=λx=>[Bm x.1.1 x.1.2],pre:=λx=>∃L,x.1.1=vK L/\pre L x.1.2 x.2,out:=λx=>out x.1.1 x.1.2 x.2,fz:=fz,find:=λH args=>List.casesOn args none λp l=>ob (xQ H p) λq=>ob (rd l) λa=>some ((q.1,a),[q.2])}
theorem vU (L:List TK) (s:RS):HA (Bm (vK L) s):=by
 intro a q;rcases List.mem_cons.1 q with rfl|q
 ·exact⟨rfl,rfl,⟨λi _=>⟨⟨rfl,rfl⟩,rfl,⟨rfl,rfl⟩,⟨rfl,rfl⟩,⟨rfl,rfl⟩,trivial⟩⟩⟩
 ·simp only[List.mem_cons,List.not_mem_nil,or_false]at q;rcases q with rfl|rfl|rfl|rfl<;>exact⟨rfl,rfl⟩
theorem OT (L:List TK) (s:RS) {v:AV} (h:JS 4 v):LQ 1 (.ret v [Bm (vK L) s] 0):=⟨h,rfl,λo q=>by rw[List.mem_singleton.1 q];exact vU L s⟩
theorem NB (t:TK):JS 4 (.agg t.row):=by
 intro a q;unfold TK.row at q;simp only[List.mem_cons,List.not_mem_nil,or_false]at q;rcases q with rfl|rfl|rfl|rfl|rfl
 ·exact⟨rfl,rfl⟩
 ·exact rfl
 ·exact⟨rfl,rfl⟩
 ·exact⟨rfl,rfl⟩
 ·exact⟨rfl,rfl⟩
theorem vS (b:Bool):JS 4 (.bool b):=(rfl:b=b)
theorem Aeg:JS 4 (.AL []):=λa h=>by cases h
theorem RU {g:FuncId} {A:Type} {ar:A->List AV} {rd:List AV->Option A} {pre:List TK->RS->A->Prop} {out:AV->RS->A->HO} {fz:Nat} (B:∀L s a,pre L s a->LQ 1 (out (vK L) s a)) (y:∀L s a,pre L s a->∃cx fuel args K,cx.P=Tryz.prog/\cx.P.follows .mixedOrders=true/\DP cx.P cx.tb/\.ptr 0 0::ar a=args/\Cz Tryz.prog fz 0 1 (out (vK L) s a)=K/\(AG cx fuel).call g args (AU (A0 [Bm (vK L) s] 0)) 1 K):AD Tryz.prog g (Nm A ar rd pre out fz).AE:=by
 refine JZ (Nm A ar rd pre out fz) (λp q=>by cases q) (λH _ p q=>by cases q) (λx=>rfl) (λx o E=>?_) (λx q=>?_) λx q=>?_
 ·rw[List.mem_singleton.1 E];rfl
 ·obtain⟨⟨c,s⟩,a⟩:=x;obtain⟨L,rfl,h⟩:=q;exact B L s a h
 ·obtain⟨⟨c,s⟩,a⟩:=x;obtain⟨L,rfl,h⟩:=q;obtain⟨cx,fuel,args,K,e,M,J,R,O,C⟩:=y L s a h;rw[<-R,<-O]at C;exact⟨(AG cx fuel).call,e▸Is M J fuel,C⟩
def Kb (l:List AV):Option Unit:=match l with
 | []=>some ()
 |_=>none
def U1 (l:List AV):Option Int:=match l with
 | [.int .i64 z]=>some z
 |_=>none
def rdB (l:List AV):Option Bool:=match l with
 | [.bool b]=>some b
 |_=>none
def rU (l:List AV):Option (List UInt8):=match l with
 | [w]=>JK w
 |_=>none
def sI:Da:=(Nm Int (λe=>[.int .i64 e]) U1 (λL s _=>Az L s) (λc s e=>.gen (Bj s e) λy=>.ret (.AL []) [Bm c y] 0) 0).AE
def r9:Da:=(Nm Unit (λ_=>[]) Kb (λL s _=>Az L s) (λc s _=>.gen (Aq (kL c) s) λt=>.ret (.agg t.row) [Bm c s] 0) 0).AE
def sIs:Da:=(Nm (List UInt8) (λw=>[.bs w]) rU (λL s w=>Az L s/\0<w.length) (λc s w=>.ret (.bool (Ax (Ah (kL c) s w))) [Bm c s] 0) 0).AE
theorem AjP (L:List TK):CF L.length (ef L)=L:=by
 apply List.ext_getElem
 ·simp[CF]
 ·intro i y q;have:Wb (ef L i)=L[i]:=by unfold ef;rw[List.getD_eq_getElem?_getD,List.getElem?_eq_getElem q];rfl
  simp[CF,this]
theorem Dz (L:List TK):kL (vK L)=L:=AjP L
def AM (a:Nat):=Nat.le (Nat.succ a)
def Q8 (a:List TK):=(True/\Aa/\Ab a.length/\Au λ(q:Nat)=>AM q a.length->(Aa/\Ab (TK.kind (List.getD a q TK.zero)))/\Ab (TK.text (List.getD a q TK.zero))/\(Aa/\Ab (TK.num (List.getD a q TK.zero)))/\(Aa/\Ab (TK.line (List.getD a q TK.zero)))/\(Aa/\Ab (TK.Ag (List.getD a q TK.zero)))/\True)
@[reducible] def gS:List TK->RS->Int->Prop:=λ(L:List TK) (s:RS) (e:Int)=>((Q8 L)/\Aa/\RS.at_ s=RS.at_ (Bj s e))/\Aa/\RS.nest s=RS.nest (Bj s e)
def AO (a:RS):=Ad (Ak (RS.err a) (0:Int))
theorem Anr:∀(L:List TK) (s:RS) (e:Int),Az L s->AO s (Aa/\(True/\True)/\(Aa/\Aa/\Aa/\Aa/\(gS L s e/\Aa/\e=RS.err (Bj s e))/\Aa/\RS.at_ s=RS.Bp (Bj s e))/\True) (Aa/\(True/\True)/\(Aa/\Aa/\Aa/\Aa/\(gS L s e/\Aa/\RS.err s=RS.err (Bj s e))/\Aa/\RS.Bp s=RS.Bp (Bj s e))/\True)
:=by
 delta AO;intro L s e q;simp only[A9,gS,AM,Q8];unfold Bj;refine Aj (λh=>?_) λh=>?_
 ·rw[BL]at h;rw[if_pos h];exact⟨⟨⟨rfl,rfl⟩,rfl⟩,rfl⟩
 ·rw[BU]at h;rw[if_neg h];exact⟨⟨⟨rfl,rfl⟩,rfl⟩,rfl⟩
theorem Anq:∀(L:List TK) (s:RS) (e:Int),Az L s->(AG S0 60).call 113 [.ptr 0 0,.int .i64 e] (AU (A0 [Bm (vK L) s] 0)) 1 (Cz Tryz.prog 0 0 1 (.ret (.AL []) [Bm (vK L) (Bj s e)] 0)):=Eq.mpr (by kernel_rfl) Anr
def Ru (a:List TK) (b:RS):=((((Q8 a)/\Aa/\Ab (RS.at_ b))/\Aa/\Ab (RS.nest b))/\Aa/\Ab (RS.err b))
def Ho (a:RS):=Ab (RS.Bp a)
@[reducible] def gQ:List TK->RS->Prop:=λ(L:List TK) (s:RS)=>(Aa/\Aa/\Aa/\Aa/\(Ru L s)/\Aa/\Ho s)/\True
@[reducible] def gR:List TK->RS->Prop:=λ(L:List TK) (s:RS)=>Aa/\(((Aa/\(0:Int)=TK.kind (Aq L s))/\[]=TK.text (Aq L s)/\(Aa/\(0:Int)=TK.num (Aq L s))/\(Aa/\(0:Int)=TK.line (Aq L s))/\(Aa/\(0:Int)=TK.Ag (Aq L s))/\True)/\True)/\gQ L s
def A8:=((True/\True)/\True)
def Hi:=((True/\True/\True/\True/\True)/\True)
def H9:=((True/\True/\True/\True)/\True)
def Uw (a:List TK) (b:RS):=List.getD a (Int.toNat (RS.at_ b)) TK.zero
theorem AkD:∀(L:List TK) (s:RS),Az L s->Ad (!Ak (RS.err s) (0:Int)) ((A8/\True)/\gR L s) ((Hi/\True)/\Ad (!AP (RS.at_ s) (Int.ofNat L.length)) (gR L s) (Ap (Bn (RS.at_ s) L.length) ((H9/\H9/\True)/\Aa/\(((Aa/\TK.kind (Uw L s)=TK.kind (Aq L s))/\TK.text (Uw L s)=TK.text (Aq L s)/\(Aa/\TK.num (Uw L s)=TK.num (Aq L s))/\(Aa/\TK.line (Uw L s)=TK.line (Aq L s))/\(Aa/\TK.Ag (Uw L s)=TK.Ag (Aq L s))/\True)/\True)/\gQ L s)))
:=by
 delta A8 Hi H9 Uw;intro L s y;have B:=y.a0;simp only[A9,gQ,gR,AM,Q8,Ru,Ho];unfold Aq;refine Aj (λh=>?_) λh=>Aj (λg=>?_) λg=>?_
 ·rw[Bool.not_eq_true',BU]at h;rw[if_pos (.inl h)];exact⟨rfl,rfl,rfl,rfl,rfl⟩
 ·rw[Bool.not_eq_true',Cg]at g;rw[if_pos (.inr g)];exact⟨rfl,rfl,rfl,rfl,rfl⟩
 ·rw[Bool.not_eq_false',BL]at h;rw[Bool.not_eq_false',B1]at g;rw[if_neg (by rintro(q|q);exact q h;omega)];exact An (BJ.2 (by omega)) ⟨rfl,rfl,rfl,rfl,rfl⟩
theorem AkC:∀(L:List TK) (s:RS),Az L s->(AG S0 60).call 99 [.ptr 0 0] (AU (A0 [Bm (vK L) s] 0)) 1 (Cz Tryz.prog 0 0 1 (.ret (.agg (Aq L s).row) [Bm (vK L) s] 0)):=Eq.mpr (by kernel_rfl) AkD
theorem AaK:AD Tryz.prog 113 sI:=RU (λL s a _=>OT L _ Aeg) λL s e q=>⟨S0,60,_,_,rfl,AW,Bc,rfl,rfl,Anq L s e q⟩
theorem AaE:AD Tryz.prog 99 r9:=RU (λL s a _=>OT L _ (NB _)) λL s _ q=>⟨S0,60,_,_,rfl,AW,Bc,rfl,by rw[Dz];rfl,AkC L s q⟩
def Ei (L:List TK) (s:RS) (b:Bool):TK×RS:=if b=true then(Aq L s,{s with at_:=s.at_+1})else(TK.zero,Bj s 4)
def Aw (L:List TK) (s:RS) (w:List UInt8):TK×RS:=Ei L s (Ah L s w)
def AB (L:List TK) (s:RS) (k:Int):TK×RS:=Ei L s (decide ((Aq L s).kind=k))
def EM (L:List TK) (s:RS) (w:List UInt8):RS:={(if Ah L s w=true/\64<=s.nest then Bj s 5 else s)with nest:=s.nest+1}
def AQ (L:List TK) (s:RS) (w:List UInt8):TK×RS:=Aw L (EM L s w) w
def AbR:Da:=(Nm Bool (λb=>[.bool b]) rdB (λL s b=>Az L s/\(b=true->s.at_<L.length)) (λc s b=>.gen (Ei (kL c) s b) λy=>.ret (.agg y.1.row) [Bm c y.2] 0) 0).AE
def AbO:Da:=(Nm (List UInt8) (λw=>[.bs w]) rU (λL s w=>Az L s/\0<w.length) (λc s w=>.gen (Aw (kL c) s w) λy=>.ret (.agg y.1.row) [Bm c y.2] 0) 0).AE
def AbF:Da:=(Nm Int (λk=>[.int .i64 k]) U1 (λL s k=>Az L s/\k≠0) (λc s k=>.gen (AB (kL c) s k) λy=>.ret (.agg y.1.row) [Bm c y.2] 0) 0).AE
def AbL:Da:=(Nm (List UInt8) (λw=>[.bs w]) rU (λL s w=>Az L s/\0<w.length/\s.nest<=900) (λc s w=>.gen (AQ (kL c) s w) λy=>.ret (.agg y.1.row) [Bm c y.2] 0) 0).AE
def yM:Cq:=[(99,r9),(113,sI)]
theorem AfS:Db Tryz.prog yM:=BN AaE (BN AaK (Ty _))
def Zv:Ctx:=GM yM AfS
theorem LL {L:List TK} {s:RS} (h:(Aq L s).kind≠0):s.at_<L.length:=by
 unfold Aq at h;split at h
 ·exact absurd rfl h
 ·rename_i g;omega
theorem Bb {L:List TK} {s:RS} {w:List UInt8} (h:Ah L s w=true):s.at_<L.length:=by unfold Ah at h;rw[Bool.and_eq_true,decide_eq_true_eq]at h;refine LL λe=>?_;rw[e]at h;have:=h.1;unfold I2 at this;split at this<;>omega
theorem tR {L:List TK} {s:RS} (h:Az L s) (e:Int):Az L (Bj s e):=by
 unfold Bj;split
 ·exact⟨h.len,h.a0,h.a1,h.n0,h.n1⟩
 ·exact h
theorem Aou {L:List TK} {s:RS} {b:Bool} (h:Az L s) (hb:b=true->s.at_<L.length):Az L (Ei L s b).2:=by
 unfold Ei;split
 ·rename_i e;have:=hb e;exact⟨h.len,by have:=h.a0;show 0<=s.at_+1;omega,show s.at_+1<=L.length by omega,h.n0,h.n1⟩
 ·exact tR h 4
theorem wV {L:List TK} {s:RS} {w:List UInt8} (h:Az L s) (hn:s.nest<=900):Az L (EM L s w):=by
 have y:=h.n0;have q:=tR h 5;unfold EM;split
 ·exact⟨q.len,q.a0,q.a1,show 0<=s.nest+1 by omega,show s.nest+1<=1000 by omega⟩
 ·exact⟨h.len,h.a0,h.a1,show 0<=s.nest+1 by omega,show s.nest+1<=1000 by omega⟩
theorem Agp {w:List UInt8} (y:(!AP (↑(w.getD 0 0).toNat) 97)=true) (q:(!AP 122 ↑(w.getD 0 0).toNat)=true):I2 w=2:=by rw[Bool.not_eq_true',Cg]at y q;unfold I2;rw[if_pos (by omega)]
theorem yq {w:List UInt8} (h:(!AP (↑(w.getD 0 0).toNat) 97)=false\/(!AP 122 ↑(w.getD 0 0).toNat)=false):I2 w=4:=by rw[Bool.not_eq_false',Bool.not_eq_false',B1,B1]at h;unfold I2;rw[if_neg (by omega)]
@[reducible] def So:List TK->RS->Prop:=λ(L:List TK) (s:RS)=>Aa/\Aa/\Aa/\(Ru L s)/\Aa/\Ho s
@[reducible] def gU:List TK->RS->Prop:=λ(L:List TK) (s:RS)=>(Aa/\So L s)/\True
@[reducible] def Yn:List TK->RS->List UInt8->Prop:=λ(L:List TK) (s:RS) (w:List UInt8)=>Aa/\(false=Ax (Ah L s w)/\True)/\gU L s
@[reducible] def Yo:List TK->RS->List UInt8->TK->Prop:=λ(L:List TK) (s:RS) (w:List UInt8) (a:TK)=>Aa/\(decide (TK.text a=w)=Ax (Ah L s w)/\True)/\gU L s
def Ay:=(Ab (some 0)/\Aa)
def D8 (a:List TK) (b:RS):=(∃(q:List TK),vK a=vK q/\Az q b)
def Ez (a:List TK):=Aq (kL (vK a))
def Ml (a:List UInt8):=Nat.le 1 a.length
def Nj (a:TK):=Ak (TK.kind a)
theorem Ald:∀(L:List TK) (s:RS) (w:List UInt8),Az L s->Ml w->((D8 L s)/\Aa/\Aa/\(Ay/\True)/\So L s/\True)/\∀(y:TK),y=Ez L s->Ap (Bn (0:Int) w.length) (Ad (!AP (↑(UInt8.toNat (List.getD w 0 (0:UInt8))):Int) (97:Int)) (Ap (Bn (0:Int) w.length) (Ad (!AP (122:Int) (↑(UInt8.toNat (List.getD w 0 (0:UInt8))):Int)) (Ad (Nj y (2:Int)) (Yo L s w y) (Yn L s w)) (Ad (Nj y (4:Int)) (Yo L s w y) (Yn L s w)))) (Ad (Nj y (4:Int)) (Yo L s w y) (Yn L s w)))
:=by
 delta Ay D8 Ez Ml Nj;intro L s w E C;have C:0<w.length:=C;simp only[A9,So,gU,Yn,Yo,AM,Q8,Ru,Ho];refine⟨⟨L,rfl,E⟩,λy hy=>?_⟩;rw[Dz]at hy;have hy:y=Aq L s:=hy;subst hy;have fin:∀k,I2 w=k->Ad (Ak (Aq L s).kind k) (decide ((Aq L s).text=w)=Ah L s w) (false=Ah L s w):=λk J=>by
  unfold Ah;rw[J];refine Aj (λh=>?_) λh=>?_
  ·rw[BL]at h;rw[decide_eq_true h,Bool.true_and]
  ·rw[BU]at h;rw[decide_eq_false h,Bool.false_and]
 refine An (BJ.2 (by omega)) (Aj (λB=>An (BJ.2 (by omega)) (Aj (λq=>fin 2 (Agp B q)) λq=>fin 4 (yq (.inr q)))) λB=>fin 4 (yq (.inl B)))
theorem Ak8:∀(L:List TK) (s:RS) (w:List UInt8),Az L s->0<w.length->(AG Zv 60).call 67 [.ptr 0 0,.bs w] (AU (A0 [Bm (vK L) s] 0)) 1 (Cz Tryz.prog 0 0 1 (.ret (.bool (Ax (Ah L s w))) [Bm (vK L) s] 0)):=Eq.mpr (by kernel_rfl) Ald
@[reducible] def D1:List TK->Prop:=λ(L:List TK)=>True/\Aa/\Ab L.length/\Au λ(i:Nat)=>AM i L.length->(Aa/\Ab (TK.kind (List.getD L i TK.zero)))/\Ab (TK.text (List.getD L i TK.zero))/\(Aa/\Ab (TK.num (List.getD L i TK.zero)))/\(Aa/\Ab (TK.line (List.getD L i TK.zero)))/\(Aa/\Ab (TK.Ag (List.getD L i TK.zero)))/\True
def CY (a:List TK) (b:RS):=(Aa/\Aa/\Aa/\(((D1 a/\Aa/\Ab (RS.at_ b))/\Aa/\Ab (RS.nest b))/\Aa/\Ab (RS.err b))/\Aa/\Ab (RS.Bp b))
@[reducible] def Kk:List TK->RS->Prop:=λ(L:List TK) (s:RS)=>(CY L s)/\True
def Dh (a:RS):=Ap (Bo .i64 (RS.at_ a+1))
def CP (a:List TK):=Kk a
def FP (a:List TK):=D1 a
def PB (a:List TK) (b:RS):=Int.NonNeg ((↑a.length:Int)-(RS.at_ b+1))
def Mh (a:List TK) (b:RS) (c:Bool):=Prod.fst (Ei a b c)
def Ok (a:List TK) (b:RS) (c:Bool):=Prod.snd (Ei a b c)
theorem Amy:∀(L:List TK) (s:RS) (b:Bool),Az L s->(b=true->PB L s)->Ad (!b) (((D8 L s)/\Aa/\Aa/\(Ay/\(Aa/\Ab (4:Int))/\True)/\CP L s)/\∀(y:RS),y=Bj s (4:Int)->Aa/\(((Aa/\(0:Int)=TK.kind (Mh L s b))/\[]=TK.text (Mh L s b)/\(Aa/\(0:Int)=TK.num (Mh L s b))/\(Aa/\(0:Int)=TK.line (Mh L s b))/\(Aa/\(0:Int)=TK.Ag (Mh L s b))/\True)/\True)/\(Aa/\Aa/\Aa/\Aa/\(((FP L/\Aa/\RS.at_ y=RS.at_ (Ok L s b))/\Aa/\RS.nest y=RS.nest (Ok L s b))/\Aa/\RS.err y=RS.err (Ok L s b))/\Aa/\RS.Bp y=RS.Bp (Ok L s b))/\True) (((D8 L s)/\Aa/\Aa/\(Ay/\True)/\CP L s)/\∀(y:TK),y=Ez L s->Dh s (Aa/\(((Aa/\TK.kind y=TK.kind (Mh L s b))/\TK.text y=TK.text (Mh L s b)/\(Aa/\TK.num y=TK.num (Mh L s b))/\(Aa/\TK.line y=TK.line (Mh L s b))/\(Aa/\TK.Ag y=TK.Ag (Mh L s b))/\True)/\True)/\(Aa/\Aa/\Aa/\Aa/\(((FP L/\Aa/\RS.at_ s+1=RS.at_ (Ok L s b))/\Aa/\RS.nest s=RS.nest (Ok L s b))/\Aa/\RS.err s=RS.err (Ok L s b))/\Aa/\RS.Bp s=RS.Bp (Ok L s b))/\True))
:=by
 delta Ay Dh D8 CP Ez FP PB Mh Ok;intro L s b q hb;have hb:b=true->s.at_<L.length:=hb;have B:=q.len;have C:=q.a0;simp only[A9,D1,Kk,AM,CY];cases b with
 |false=>refine⟨⟨L,rfl,q⟩,λy hy=>?_⟩;have hy:y=Bj s 4:=hy;subst hy;exact⟨⟨rfl,rfl,rfl,rfl,rfl⟩,⟨⟨rfl,rfl⟩,rfl⟩,rfl⟩
 |true=>have:=hb rfl;refine⟨⟨L,rfl,q⟩,λy hy=>?_⟩;rw[Dz]at hy;have hy:y=Aq L s:=hy;subst hy;exact An (Be.2 (by omega)) ⟨⟨rfl,rfl,rfl,rfl,rfl⟩,⟨⟨rfl,rfl⟩,rfl⟩,rfl⟩
theorem Amx:∀(L:List TK) (s:RS) (b:Bool),Az L s->(b=true->s.at_<L.length)->(AG Zv 60).call 95 [.ptr 0 0,.bool b] (AU (A0 [Bm (vK L) s] 0)) 1 (Cz Tryz.prog 0 0 1 (.ret (.agg (Ei L s b).1.row) [Bm (vK L) (Ei L s b).2] 0)):=Eq.mpr (by kernel_rfl) Amy
theorem Aia:AD Tryz.prog 67 sIs:=RU (λL s a _=>OT L _ (vS _)) λL s w h=>⟨Zv,60,_,_,rfl,AW,Bc,rfl,by rw[Dz],Ak8 L s w h.1 h.2⟩
theorem AiK:AD Tryz.prog 95 AbR:=RU (λL s a _=>OT L _ (NB _)) λL s b h=>⟨Zv,60,_,_,rfl,AW,Bc,rfl,by rw[Dz];rfl,Amx L s b h.1 h.2⟩
def n6:Cq:=[(99,r9),(113,sI),(67,sIs),(95,AbR)]
theorem yN:Db Tryz.prog n6:=BN AaE (BN AaK (BN Aia (BN AiK (Ty _))))
def NC:Ctx:=GM n6 yN
def n7:Cq:=(65,AbO)::n6
theorem AdH (a b:Int):(a==b)=decide (a=b):=by by_cases h:a=b<;>simp[h]
def BR (a:List TK):=Ah (kL (vK a))
def Hn (a:List TK):=Ei (kL (vK a))
theorem Ami:∀(L:List TK) (s:RS) (w:List UInt8),Az L s->Ml w->((∃(q:List TK),vK L=vK q/\Az q s/\Ml w)/\Aa/\Aa/\(Ay/\w=w/\True)/\CP L s)/\((∃(q:List TK),vK L=vK q/\Az q s/\(Ax (BR L s w)=true->PB q s))/\Aa/\Aa/\(Ay/\Ab (Ax (BR L s w))/\True)/\CP L s)/\∀(y:TK×RS),y=Hn L s (Ax (BR L s w))->Aa/\(((Aa/\TK.kind y.1=TK.kind (Prod.fst (Aw L s w)))/\TK.text y.1=TK.text (Prod.fst (Aw L s w))/\(Aa/\TK.num y.1=TK.num (Prod.fst (Aw L s w)))/\(Aa/\TK.line y.1=TK.line (Prod.fst (Aw L s w)))/\(Aa/\TK.Ag y.1=TK.Ag (Prod.fst (Aw L s w)))/\True)/\True)/\(Aa/\Aa/\Aa/\Aa/\(((FP L/\Aa/\RS.at_ y.2=RS.at_ (Prod.snd (Aw L s w)))/\Aa/\RS.nest y.2=RS.nest (Prod.snd (Aw L s w)))/\Aa/\RS.err y.2=RS.err (Prod.snd (Aw L s w)))/\Aa/\RS.Bp y.2=RS.Bp (Prod.snd (Aw L s w)))/\True
:=by delta Ay BR CP FP PB Hn Ml;intro L s w B C;simp only[A9,D1,Kk,AM,CY];simp only[Dz];refine⟨⟨L,rfl,B,C⟩,⟨L,rfl,B,λh=>Bb h⟩,λy hy=>?_⟩;have hy:y=Aw L s w:=hy;subst hy;exact⟨⟨rfl,rfl,rfl,rfl,rfl⟩,⟨⟨rfl,rfl⟩,rfl⟩,rfl⟩
theorem Amh:∀(L:List TK) (s:RS) (w:List UInt8),Az L s->0<w.length->(AG NC 60).call 65 [.ptr 0 0,.bs w] (AU (A0 [Bm (vK L) s] 0)) 1 (Cz Tryz.prog 0 0 1 (.ret (.agg (Aw L s w).1.row) [Bm (vK L) (Aw L s w).2] 0)):=Eq.mpr (by kernel_rfl) Ami
def dU (a:TK) (b:List TK) (c:RS) (d:Int):=(((Aa/\TK.kind a=TK.kind (Prod.fst (AB b c d)))/\TK.text a=TK.text (Prod.fst (AB b c d))/\(Aa/\TK.num a=TK.num (Prod.fst (AB b c d)))/\(Aa/\TK.line a=TK.line (Prod.fst (AB b c d)))/\(Aa/\TK.Ag a=TK.Ag (Prod.fst (AB b c d)))/\True)/\True)
def J8 (a:List TK) (b:RS) (c:Int):=Prod.snd (AB a b c)
theorem Alj:∀(L:List TK) (s:RS) (k:Int),Az L s->(k=(0:Int)->False)->((D8 L s)/\Aa/\Aa/\(Ay/\True)/\CP L s)/\∀(y:TK),y=Ez L s->((∃(B:List TK),vK L=vK B/\Az B s/\(Nj y k=true->PB B s))/\Aa/\Aa/\(Ay/\Ab (Nj y k)/\True)/\CP L s)/\∀(q:TK×RS),q=Hn L s (Nj y k)->Aa/\(dU q.1 L s k)/\(Aa/\Aa/\Aa/\Aa/\(((FP L/\Aa/\RS.at_ q.2=RS.at_ (J8 L s k))/\Aa/\RS.nest q.2=RS.nest (J8 L s k))/\Aa/\RS.err q.2=RS.err (J8 L s k))/\Aa/\RS.Bp q.2=RS.Bp (J8 L s k))/\True
:=by
 delta Ay D8 CP dU Ez J8 FP PB Hn Nj;intro L s k E C;simp only[A9,D1,Kk,AM,CY];simp only[Dz];have C:k≠0:=C;refine⟨⟨L,rfl,E⟩,λt ht=>⟨⟨L,rfl,E,λh=>?_⟩,λy hy=>?_⟩⟩
 ·have ht:t=Aq L s:=ht;rw[BL,ht]at h;exact LL (by rw[h];exact C)
 ·have ht:t=Aq L s:=ht;rw[ht]at hy;have hy:y=AB L s k:=by rw[hy];unfold AB;rw[Dt,AdH]
  subst hy;exact⟨⟨rfl,rfl,rfl,rfl,rfl⟩,⟨⟨rfl,rfl⟩,rfl⟩,rfl⟩
theorem Alg:∀(L:List TK) (s:RS) (k:Int),Az L s->k≠0->(AG NC 60).call 64 [.ptr 0 0,.int .i64 k] (AU (A0 [Bm (vK L) s] 0)) 1 (Cz Tryz.prog 0 0 1 (.ret (.agg (AB L s k).1.row) [Bm (vK L) (AB L s k).2] 0)):=Eq.mpr (by kernel_rfl) Alj
theorem AiC:AD Tryz.prog 65 AbO:=RU (λL s a _=>OT L _ (NB _)) λL s w h=>⟨NC,60,_,_,rfl,AW,Bc,rfl,by rw[Dz];rfl,Amh L s w h.1 h.2⟩
theorem Aie:AD Tryz.prog 64 AbF:=RU (λL s a _=>OT L _ (NB _)) λL s k h=>⟨NC,60,_,_,rfl,AW,Bc,rfl,by rw[Dz];rfl,Alg L s k h.1 h.2⟩
theorem yO:Db Tryz.prog n7:=BN AiC yN
def vg:Ctx:=GM n7 yO
structure LT where
 kind:Int
 text:List UInt8
 n:Int
 line:Int
 Ag:Int
 kids:List Int
def LT.none:LT:=⟨0,[],0,0,0,[]⟩
def rI (L:List Int):Nat->List AV:=λi=>[.int .i64 (L.getD i 0)]
def LT.row (x:LT):List AV:=[.int .i64 x.kind,.bs x.text,.int .i64 x.n,.int .i64 x.line,.int .i64 x.Ag,.vec 1 x.kids.length (rI x.kids)]
def Bs (L:List LT):Nat->List AV:=λi=>(L.getD i LT.none).row
def vW (L:List LT):AV:=.vec 6 L.length (Bs L)
theorem tQ (s:RS) (e:Int):(Bj s e).nest=s.nest:=by unfold Bj;split<;>rfl
@[reducible] def gW:List TK->RS->Prop:=λ(L:List TK) (s:RS)=>FP L/\Aa/\Ab (RS.at_ s)
@[reducible] def gX:List TK->RS->Prop:=λ(L:List TK) (s:RS)=>(Aa/\Aa/\Aa/\((gW L s/\Aa/\Ab (RS.nest s))/\Aa/\Ab (RS.err s))/\Aa/\Ho s)/\True
@[reducible] def gY:List TK->RS->List UInt8->TK×RS->Prop:=λ(L:List TK) (s:RS) (w:List UInt8) (a:TK×RS)=>Aa/\(((Aa/\TK.kind a.1=TK.kind (Prod.fst (AQ L s w)))/\TK.text a.1=TK.text (Prod.fst (AQ L s w))/\(Aa/\TK.num a.1=TK.num (Prod.fst (AQ L s w)))/\(Aa/\TK.line a.1=TK.line (Prod.fst (AQ L s w)))/\(Aa/\TK.Ag a.1=TK.Ag (Prod.fst (AQ L s w)))/\True)/\True)/\(Aa/\Aa/\Aa/\Aa/\(((FP L/\Aa/\RS.at_ a.2=RS.at_ (Prod.snd (AQ L s w)))/\Aa/\RS.nest a.2=RS.nest (Prod.snd (AQ L s w)))/\Aa/\RS.err a.2=RS.err (Prod.snd (AQ L s w)))/\Aa/\RS.Bp a.2=RS.Bp (Prod.snd (AQ L s w)))/\True
def GX (a:List TK):=Aw (kL (vK a))
def JH (a:RS):=(RS.nest a+1)
def Uy (a:RS):=RS.mk (RS.at_ a) (JH a) (RS.err a) (RS.Bp a)
@[reducible] def gZ:List TK->RS->List UInt8->Prop:=λ(L:List TK) (s:RS) (w:List UInt8)=>((∃(q:List TK),vK L=vK q/\Az q (Uy s)/\Ml w)/\Aa/\Aa/\(Ay/\w=w/\True)/\(Aa/\Aa/\Aa/\((gW L s/\Aa/\Ab (JH s))/\Aa/\Ab (RS.err s))/\Aa/\Ho s)/\True)/\∀(y:TK×RS),y=GX L (Uy s) w->gY L s w y
def KK (a:RS):=Ap (Bo .i64 (JH a))
def Nd (a:RS):=Int.NonNeg ((900:Int)-RS.nest a)
theorem AlS:∀(L:List TK) (s:RS) (w:List UInt8),Az L s->Ml w->Nd s->((∃(q:List TK),vK L=vK q/\Az q s/\Ml w)/\Aa/\Aa/\(Ay/\w=w/\True)/\gX L s)/\Ad (Ax (BR L s w)) (Ad (!AP (RS.nest s) (64:Int)) (((D8 L s)/\Aa/\Aa/\(Ay/\(Aa/\Ab (5:Int))/\True)/\gX L s)/\∀(y:RS),y=Bj s (5:Int)->KK y (((∃(q:List TK),vK L=vK q/\Az q (Uy y)/\Ml w)/\Aa/\Aa/\(Ay/\w=w/\True)/\(Aa/\Aa/\Aa/\(((FP L/\Aa/\Ab (RS.at_ y))/\Aa/\Ab (JH y))/\Aa/\Ab (RS.err y))/\Aa/\Ho y)/\True)/\∀(C:TK×RS),C=GX L (Uy y) w->gY L s w C)) (KK s (gZ L s w))) (KK s (gZ L s w))
:=by
 delta Ay D8 BR GX JH Uy KK Nd FP Ho Ml;intro L s w J E hn;simp only[A9,D1,gW,gX,gY,gZ,AM,FP,Ho,Ay,GX,JH,Uy,Ml];simp only[Dz];have hn:s.nest<=900:=hn;have S:=J.n0;have fin:∀y:TK×RS,y=AQ L s w->(y.1.kind=(AQ L s w).1.kind/\y.1.text=(AQ L s w).1.text/\y.1.num=(AQ L s w).1.num/\y.1.line=(AQ L s w).1.line/\y.1.Ag=(AQ L s w).1.Ag)/\((y.2.at_=(AQ L s w).2.at_/\y.2.nest=(AQ L s w).2.nest)/\y.2.err=(AQ L s w).2.err)/\y.2.Bp=(AQ L s w).2.Bp:=λy hy=>by subst hy;exact⟨⟨rfl,rfl,rfl,rfl,rfl⟩,⟨⟨rfl,rfl⟩,rfl⟩,rfl⟩
 have d0:¬(Ah L s w=true/\64<=s.nest)->EM L s w={at_:=s.at_,nest:=s.nest+1,err:=s.err,Bp:=s.Bp}:=λh=>by unfold EM;rw[if_neg h]
 have R:(Ah L s w=true/\64<=s.nest)->EM L s w={at_:=(Bj s 5).at_,nest:=(Bj s 5).nest+1,err:=(Bj s 5).err,Bp:=(Bj s 5).Bp}:=λh=>by unfold EM;rw[if_pos h,tQ]
 have hd:=wV (w:=w) J hn;refine⟨⟨L,rfl,J,E⟩,Aj (λB=>Aj (λK=>⟨⟨L,rfl,J⟩,λy hy=>?_⟩) λK=>?_) λB=>?_⟩
 ·have B:Ah L s w=true:=B;rw[Bool.not_eq_true',Cg]at K;have hy:y=Bj s 5:=hy;subst hy;have e:=R ⟨B,by omega⟩;rw[e]at hd;have O:=hd.n1;have M:=hd.n0;exact An (Be.2 ⟨by have:0<=(Bj s 5).nest+1:=M;omega,by have:(Bj s 5).nest+1<=1000:=O;omega⟩) ⟨⟨L,rfl,hd,E⟩,λz hz=>fin z (by rw[hz,AQ,e])⟩
 ·rw[Bool.not_eq_false',B1]at K;have e:=d0 λh=>by omega
  rw[e]at hd;exact An (Be.2 (by omega)) ⟨⟨L,rfl,hd,E⟩,λz hz=>fin z (by rw[hz,AQ,e])⟩
 ·have B:Ah L s w=false:=B;have e:=d0 λh=>by rw[B]at h;exact absurd h.1 (by decide)
  rw[e]at hd;exact An (Be.2 (by omega)) ⟨⟨L,rfl,hd,E⟩,λz hz=>fin z (by rw[hz,AQ,e])⟩
theorem AlR:∀(L:List TK) (s:RS) (w:List UInt8),Az L s->0<w.length->s.nest<=900->(AG vg 60).call 97 [.ptr 0 0,.bs w] (AU (A0 [Bm (vK L) s] 0)) 1 (Cz Tryz.prog 0 0 1 (.ret (.agg (AQ L s w).1.row) [Bm (vK L) (AQ L s w).2] 0)):=Eq.mpr (by kernel_rfl) AlS
theorem Aip:AD Tryz.prog 97 AbL:=RU (λL s a _=>OT L _ (NB _)) λL s w h=>⟨vg,60,_,_,rfl,AW,Bc,rfl,by rw[Dz];rfl,AlR L s w h.1 h.2.1 h.2.2⟩
def Cl (b:Int) (w:LT):LT:={w with kids:=w.kids.map (· +b)}
def Fo (a:List Int×List LT) (W:List LT):List Int×List LT:=(a.1++[1+(a.2.length:Int)],a.2++W.map (Cl (1+(a.2.length:Int))))
def FC (q:List (List LT)):List Int×List LT:=q.foldl Fo ([],[])
def Vg (k:Int) (s:List UInt8) (n:Int) (t:TK) (q:List (List LT)):List LT:=⟨k,s,n,t.line,t.Ag,(FC q).1⟩::(FC q).2
structure uP (W:List LT):Prop where
 pos:0<W.length
 len:W.length<=1000000
 kl:∀i,(W.getD i LT.none).kids.length<=1000000
 kv:∀i,∀c∈(W.getD i LT.none).kids,0<=c/\c<=1000000
def CI (k:Int) (s:List UInt8) (n:Int) (t:TK) (K m:Nat) (R:List LT):Nat->List AV:=λi=>cond (Nat.beq i 0) [.int .i64 k,.bs s,.int .i64 n,.int .i64 t.line,.int .i64 t.Ag,.AJ K m 1] (Bs R (i-1))
def HD (f:Nat->List AV) (n:Nat):Ac:=.cells 39 .leaf (.rows 6 f) (n*6) true
def bU (K:List Int):Ac:=.cells 3 .leaf (.rows 1 (rI K)) K.length true
def fM (o:Option AV):Nat:=match o with
 |some (.AJ r _ _)=>r
 |some (.sl r _ _ _)=>r
 |some (.Bw r _ _ _)=>r
 |_=>0
def yw (o:Option (List AV)):Nat:=match o with
 |some [_,_,_,_,_,.AJ k _ _]=>k
 |some [_,_,_,_,_,.sl k _ _ _]=>k
 |some [_,_,_,_,_,.Bw k _ _ _]=>k
 |_=>0
def yu (s:St) (p q:Nat):List (Nat×Ac):=List.rec (motive:=λ_=>List (Nat×Ac)) [] (λt _ y=>cond (cond (Nat.beq t p) true (Nat.beq t q)) y (Option.rec (motive:=λ_=>List (Nat×Ac)) y (λv=>(t,v)::y) (s.H.get t))) (List.range s.nx)
def oG (s:St) (l:List Nat):List (Nat×AV):=List.rec (motive:=λ_=>List (Nat×AV)) [] (λt _ q=>Option.rec (motive:=λ_=>List (Nat×AV)) q (λv=>(t,v)::q) (s.T.get t)) l
def Lk (l:List AV):Int:=match l with
 | [.int _ z]=>z
 |_=>0
def Nk (n:Nat) (f:Nat->List AV):List Int:=(List.range n).map λi=>Lk (f i)
def QT (o:Option (List AV)):List Int:=match o with
 |some [_,_,_,_,_,.vec _ n f]=>Nk n f
 |_=>[]
def Aa6 (o:Option AV):Nat:=match o with
 |some (.ptr i _)=>i
 |_=>1
theorem OZ {α:Type} {d:α} {l m:List α} {i:Nat} (h:i<l.length):(l++m).getD i d=l.getD i d:=by simp[List.getD_eq_getElem?_getD,List.getElem?_append_left h]
theorem Wp {α:Type} {d:α} {l:List α} {t:α}:(l++[t]).getD l.length d=t:=by simp[List.getD_eq_getElem?_getD]
theorem x6 {l:List Int} {k:Nat} (h:k<l.length):l.getD k 0∈l:=by rw[List.getD_eq_getElem?_getD,List.getElem?_eq_getElem h];exact List.getElem_mem _
theorem R4 (q:List (Nat×Nat)) (S:List Int) (i:Nat):AH q (rI S i) (rI S i):=⟨⟨rfl,rfl⟩,trivial⟩
theorem KZ (q:List (Nat×Nat)) (x:LT):AH q x.row x.row:=⟨⟨rfl,rfl⟩,rfl,⟨rfl,rfl⟩,⟨rfl,rfl⟩,⟨rfl,rfl⟩,⟨rfl,rfl,⟨λi _=>R4 q _ i⟩⟩,trivial⟩
theorem U4 (S:List Int):Nk S.length (rI S)=S:=by
 apply List.ext_getElem
 ·simp[Nk]
 ·intro i y q;simp[Nk,rI,Lk,List.getD_eq_getElem?_getD,List.getElem?_eq_getElem q]
theorem Agv (w:LT):QT (some [AV.int .i64 w.kind,AV.bs w.text,AV.int .i64 w.n,AV.int .i64 w.line,AV.int .i64 w.Ag,AV.vec 1 w.kids.length (rI w.kids)])=w.kids:=U4 w.kids
theorem LM {n i:Nat} {f g:Nat->List AV} {r:List AV} (y:i<n->f i=r) (q:¬i<n->g (i-n)=r):B0 n f g i=r:=by
 unfold B0;by_cases h:i<n
 ·rw[show Nat.blt i n=true by simpa[Nat.blt_eq]using h,cond_true,y h]
 ·rw[show Nat.blt i n=false by exact Bool.eq_false_iff.2 λhb=>h (by simpa[Nat.blt_eq]using hb),cond_false,q h]
theorem take_one {S:List Int} {z:Nat} (b:Int) (h:z<S.length):(S.take (z+1)).map (· +b)=(S.take z).map (· +b)++[S.getD z 0+b]:=by rw[List.take_succ_eq_append_getElem h,List.map_append,List.getD_eq_getElem?_getD,List.getElem?_eq_getElem h];rfl
theorem Aov {W:List LT} {z:Nat} (b:Int) (h:z<W.length):(W.take (z+1)).map (Cl b)=(W.take z).map (Cl b)++[Cl b (W.getD z LT.none)]:=by rw[List.take_succ_eq_append_getElem h,List.map_append,List.getD_eq_getElem?_getD,List.getElem?_eq_getElem h];rfl
theorem kZ {q:List (Nat×Nat)} {S:List Int} {z:Nat} {b:Int} {g:Nat->List AV} (h:z<S.length) (B:g 0=[AV.int .i64 (S.getD z 0+b)]):Au λi=>i.succ<=z+1->AH q (rI ((S.take (z+1)).map (· +b)) i) (B0 z (rI ((S.take z).map (· +b))) g i):=⟨λi hi=>by
  have y:((S.take z).map (· +b)).length=z:=by simp;omega
  have e:B0 z (rI ((S.take z).map (· +b))) g i=rI ((S.take (z+1)).map (· +b)) i:=by
   rw[take_one b h];unfold rI;refine LM (λC=>?_) λC=>?_
   ·rw[OZ (by omega)]
   ·have E:i+1<=z+1:=hi;obtain rfl:i=((S.take z).map (· +b)).length:=by omega
    rw[Wp,y,Nat.sub_self,B]
  rw[e];exact R4 q _ i⟩
theorem AcY {q:List (Nat×Nat)} {k:Int} {s:List UInt8} {n:Int} {t:TK} {K m N:Nat} {R:List LT} {w:LT} {g:Nat->List AV} (C:N=1+R.length) (y:g 0=w.row) (B:sg q K=some K) (i:Nat) (hi:i<N+1):AH q (CI k s n t K m (R++[w]) i) (B0 N (CI k s n t K m R) g i):=by
 cases i with
 |zero=>
  have e:B0 N (CI k s n t K m R) g 0=CI k s n t K m R 0:=LM (λ_=>rfl) λh=>by omega
  rw[e];exact⟨⟨rfl,rfl⟩,rfl,⟨rfl,rfl⟩,⟨rfl,rfl⟩,⟨rfl,rfl⟩,⟨B,rfl,rfl⟩,trivial⟩
 |succ i=>
  have e:B0 N (CI k s n t K m R) g (i+1)=((R++[w]).getD i LT.none).row:=by
   refine LM (λh=>?_) λh=>?_
   ·rw[OZ (by omega)];rfl
   ·obtain rfl:i=R.length:=by omega
    rw[Wp,show R.length+1-N=0 by omega,y]
  rw[e];exact KZ q _
def Ry (a:Int) (b:List UInt8) (c:Int) (d:TK) (e:Nat):=List.getD (Vg a b c d []) e LT.none
theorem AmR:∀(k:Int) (s:List UInt8) (n:Int) (t:TK),Aa/\1=List.length (Vg k s n t [])/\Au λ(i:Nat)=>AM i 1->(Aa/\k=LT.kind (Ry k s n t i))/\s=LT.text (Ry k s n t i)/\(Aa/\n=LT.n (Ry k s n t i))/\(Aa/\TK.line t=LT.line (Ry k s n t i))/\(Aa/\TK.Ag t=LT.Ag (Ry k s n t i))/\List.length (LT.kids (Ry k s n t i))=0/\True
:=by
 delta AM Ry;intro k s n t;simp only[A9];refine⟨rfl,⟨λi hi=>?_⟩⟩;obtain rfl:i=0:=by have:i+1<=1:=hi;omega
 exact⟨rfl,rfl,rfl,rfl,rfl,rfl⟩
theorem AmQ:∀(k:Int) (s:List UInt8) (n:Int) (t:TK),(AG S0 60).call 37 [.int .i64 k,.bs s,.int .i64 n,.agg t.row,.As] .leaf 0 (Ch Tryz.prog false (vW (Vg k s n t []))):=Eq.mpr (by kernel_rfl) AmR
def Pt (a:TK):=((((True/\Aa/\Ab (TK.kind a))/\Ab (TK.text a))/\Aa/\Ab (TK.num a))/\Aa/\Ab (TK.line a))
@[reducible] def tZ:TK->Prop:=λ(t:TK)=>Aa/\Aa/\Aa/\Aa/\(Pt t)/\Aa/\Ab (TK.Ag t)
def CD (a:Nat):=Int.toNat (↑a:Int)
def Ee (a:List LT) (b:Nat):=List.getD a (CD b) LT.none
def HJ (a:List LT) (b:Nat):=List.length (LT.kids (Ee a b))
def IF (a:List LT) (b:Nat):=LT.kind (Ee a b)
@[reducible] def Apz:List LT->Nat->Nat×List Int->Prop:=λ(W:List LT) (a:Nat) (q:Nat×List Int)=>q.2=QT (some [AV.int .i64 (IF W a),AV.bs (LT.text (Ee W a)),AV.int .i64 (LT.n (Ee W a)),AV.int .i64 (LT.line (Ee W a)),AV.int .i64 (LT.Ag (Ee W a)),AV.vec 1 (HJ W a) (rI (LT.kids (Ee W a)))])/\Nat.le q.1 q.2.length
def IC (a:List LT):=List.getD a 0 LT.none
@[reducible] def ApA:List LT->Nat×List Int->Prop:=λ(W:List LT) (a:Nat×List Int)=>a.2=QT (some [AV.int .i64 (LT.kind (IC W)),AV.bs (LT.text (IC W)),AV.int .i64 (LT.n (IC W)),AV.int .i64 (LT.line (IC W)),AV.int .i64 (LT.Ag (IC W)),AV.vec 1 (List.length (LT.kids (IC W))) (rI (LT.kids (IC W)))])/\Nat.le a.1 a.2.length
def Cx (a:List LT) (b:Nat):=List.getD a b LT.none
def Ui (a:List LT) (b:Nat):=(Aa/\Ab (List.length (LT.kids (Cx a b)))/\Au λ(q:Nat)=>AM q (List.length (LT.kids (Cx a b)))->(Aa/\Ab (List.getD (LT.kids (Cx a b)) q (0:Int)))/\True)
@[reducible] def ga:List LT->Prop:=λ(W:List LT)=>Aa/\Aa/\Aa/\Aa/\True/\Aa/\Ab W.length/\Au λ(i:Nat)=>AM i W.length->(Aa/\Ab (LT.kind (Cx W i)))/\Ab (LT.text (Cx W i))/\(Aa/\Ab (LT.n (Cx W i)))/\(Aa/\Ab (LT.line (Cx W i)))/\(Aa/\Ab (LT.Ag (Cx W i)))/\(Ui W i)/\True
@[reducible] def ApB:List LT->Prop:=λ(W:List LT)=>ga W/\True
def GH:=(Ab (some 1)/\Aa)
def J7 (a:Nat):=(Aa/\Ab (↑a:Int))
def Ol:=(Aa/\Ab (0:Int))
@[reducible] def ApC:List LT->Nat->Prop:=λ(W:List LT) (a:Nat)=>(Ab (some 0)/\0=0/\1=1/\1=1)/\GH/\(Ab (some 12)/\Ab (1+List.length ([]++List.map (Cl (1:Int)) (List.take a W)))/\Aa)/\Ol/\(Aa/\Ab (1:Int))/\(J7 a)/\(Ab (some 14)/\Aa)/\(some 13=some (12+1)/\1=1/\Aa)/\True
def JE (a:TK):=tZ a
@[reducible] def ApD:TK->List LT->Prop:=λ(t:TK) (W:List LT)=>ga W/\JE t/\(Aa/\True)/\(Aa/\True)/\(Aa/\True)/\(Aa/\True)/\True
def B8 (a:Nat):=Nat.le (Nat.succ (a*1))
def Xm (a:List LT) (b:Nat):=(((((True/\Aa/\Ab (LT.kind (Ee a b)))/\Ab (LT.text (Ee a b)))/\Aa/\Ab (LT.n (Ee a b)))/\Aa/\Ab (LT.line (Ee a b)))/\Aa/\Ab (LT.Ag (Ee a b)))
def Xw (a:List LT) (b:Nat) (c:Nat):=(Aa/\Ab (List.getD (LT.kids (Ee a b)) c (0:Int)))
@[reducible] def ApE:List LT->Nat->Prop:=λ(W:List LT) (a:Nat)=>(Aa/\Aa/\Aa/\Aa/\1=1/\Au λ(i:Nat)=>B8 i 1->(Aa/\Ab (List.getD [(1:Int)] i (0:Int)))/\True)/\(Aa/\Aa/\Aa/\Aa/\(Xm W a)/\Aa/\Ab (HJ W a)/\Au λ(i:Nat)=>AM i (HJ W a)->(Xw W a i)/\True)/\True
def Xq (a:Int) (b:List UInt8) (c:Int) (d:TK):=(((((True/\Aa/\a=a)/\b=b)/\Aa/\c=c)/\Aa/\Ab (TK.line d))/\Aa/\Ab (TK.Ag d))
def rK:=(Aa/\Aa/\Aa/\Aa/\True/\Aa/\Ab (1:Int))
@[reducible] def ApF:Int->List UInt8->Int->TK->List LT->Prop:=λ(k:Int) (s:List UInt8) (n:Int) (t:TK) (W:List LT)=>ga W/\JE t/\(Aa/\Aa/\Aa/\Aa/\(Xq k s n t)/\Ab (some 4)/\0=0/\1=1/\Aa)/\(Aa/\True)/\rK/\(Aa/\Aa/\Aa/\Aa/\(((((True/\Aa/\Ab (LT.kind (IC W)))/\Ab (LT.text (IC W)))/\Aa/\Ab (LT.n (IC W)))/\Aa/\Ab (LT.line (IC W)))/\Aa/\Ab (LT.Ag (IC W)))/\Aa/\Ab (List.length (LT.kids (IC W)))/\Au λ(i:Nat)=>AM i (List.length (LT.kids (IC W)))->(Aa/\Ab (List.getD (LT.kids (IC W)) i (0:Int)))/\True)/\True
def kS (q:List (List LT)) (i:Nat):List Int:=AY (FC (q.take i)).1
def rS (q:List (List LT)) (i:Nat):List LT:=AY (FC (q.take i)).2
def wS (q:List (List LT)) (i:Nat):List LT:=q.getD i []
def EJ (q:List (List LT)) (i:Nat):List AV:=[vW (wS q i)]
def Gg (q:List (List LT)):Ac:=.cells 81 .leaf (.rows 1 (EJ q)) q.length true
def rQ (y:List (List LT)) (i q:Nat):List LT:=rS y i++((wS y i).take q).map (Cl (1+((rS y i).length:Int)))
def JQ (o:Option AV):Nat:=match o with
 |some (.int _ z)=>z.toNat
 |_=>0
def yH (s:St) (id:Nat):Option (List AV):=match s.H.get id with
 |some (.cells _ _ (.rows _ f) _ _)=>some (f 0)
 |some (.cells _ _ (.CC _) _ _)=>Fa s.H id 0 6
 |_=>none
def WH (o:Option AV):Bool:=match o with
 |some (.sl _ _ _ _)=>true
 |_=>false
structure SH (Ws:List (List LT)):Prop where
 all:∀i,i<Ws.length->uP (wS Ws i)
 len:(FC Ws).2.length<=1000000
 num:Ws.length<=1000000
def TO (k:Int) (s0:List UInt8) (n:Int) (t:TK) (q:List (List LT)):CV:={X:=Nat,T:=λs _ i=>(11,.AJ s.nx (1+(rS q i).length) 6)::(12,.int .i64 i)::(42,.AJ (s.nx+1) (kS q i).length 1)::oG s [4,8],H:=λs n0 i=>(s.nx,HD (CI k s0 n t (s.nx+1) (kS q i).length (rS q i)) (1+(rS q i).length))::(s.nx+1,bU (kS q i))::yu s (fM (s.T.get 11)) (yw (yH s (fM (s.T.get 11)))),nx:=λs _=>s.nx+2,I:=λ_ i=>i<=q.length/\1<=i,m:=λi=>q.length-i}
def TQ (k:Int) (s0:List UInt8) (n:Int) (t:TK) (y:List (List LT)):CV:={X:=Nat,T:=λs _ q=>(11,.AJ s.nx (1+(rQ y (JQ (s.T.get 12)) q).length) 6)::(14,.int .i64 q)::(42,.AJ (s.nx+1) (kS y (JQ (s.T.get 12)+1)).length 1)::oG s [4,8,12,13],H:=λs n0 q=>(s.nx,HD (CI k s0 n t (s.nx+1) (kS y (JQ (s.T.get 12)+1)).length (rQ y (JQ (s.T.get 12)) q)) (1+(rQ y (JQ (s.T.get 12)) q).length))::(s.nx+1,bU (kS y (JQ (s.T.get 12)+1)))::yu s (fM (s.T.get 11)) (yw (yH s (fM (s.T.get 11)))),nx:=λs _=>s.nx+2,I:=λs q=>q<=(wS y (JQ (s.T.get 12))).length,m:=λq=>1000001-q}
def TZ (q:List (List LT)):CV:={X:=Nat×List Int,T:=λs _ z=>(16,.AJ s.nx z.1 1)::(17,.int .i64 z.1)::oG s [4,8,11,12,13,14,15,42],H:=λs n0 z=>(s.nx,bU ((z.2.take z.1).map (· +(1+((rS q (JQ (s.T.get 12))).length:Int)))))::oE s n0,nx:=λs _=>s.nx+1,I:=λs z=>z.2=QT (Fa s.H (Aa6 (s.T.get 15)) 0 6)/\z.1<=z.2.length,m:=λz=>1000001-z.1}
def wO (k:Int) (s0:List UInt8) (n:Int) (t:TK) (q:List (List LT)):Ctx:={P:=Tryz.prog,tb:=[],lp:=λf r=>cond (Nat.beq f 37) (cond (Nat.beq r 3) (some (TO k s0 n t q)) (cond (Nat.beq r 8) (some (TQ k s0 n t q)) (cond (Nat.beq r 13) (some (TZ q)) none))) none,cut:=λ_ _=>none,pl:=λ_ r s=>cond (Nat.beq r 3) true (cond (Nat.beq r 8) (WH (s.T.get 11)) false),fr:=λ_ r=>cond (Nat.beq r 16) [16] []}
theorem oC (q:List (List LT)):kS q 0=[]:=by unfold kS;rw[Du];rfl
theorem U0 (q:List (List LT)):rS q 0=[]:=by unfold rS;rw[Du];rfl
theorem AcH {q:List (List LT)} {i:Nat} (h:i<q.length):FC (q.take (i+1))=Fo (FC (q.take i)) (wS q i):=by unfold FC wS;rw[List.take_succ_eq_append_getElem h,List.foldl_append,List.getD_eq_getElem?_getD,List.getElem?_eq_getElem h];rfl
theorem WI {q:List (List LT)} {i:Nat} (h:i<q.length):kS q (i+1)=kS q i++[1+((rS q i).length:Int)]:=by unfold kS rS;rw[Du,Du,Du,AcH h];rfl
theorem Abe {q:List (List LT)} {i:Nat} (h:i<q.length):rS q (i+1)=rS q i++(wS q i).map (Cl (1+((rS q i).length:Int))):=by unfold rS;rw[Du,Du,AcH h];rfl
theorem bV {q:List (List LT)}:∀ {i:Nat},i<=q.length->(kS q i).length=i
 |0,_=>by rw[oC];rfl
 |i+1,h=>by rw[WI h,List.length_append,List.length_singleton,bV (by omega)]
theorem ea (q:List (List LT)) (i:Nat):rQ q i 0=rS q i:=by unfold rQ;simp
theorem rP {y:List (List LT)} {i q:Nat} (h:q<(wS y i).length):rQ y i (q+1)=rQ y i q++[Cl (1+((rS y i).length:Int)) ((wS y i).getD q LT.none)]:=by unfold rQ;rw[Aov _ h,List.append_assoc]
theorem rO {q:List (List LT)} {i:Nat} (h:i<q.length):rQ q i (wS q i).length=rS q (i+1):=by unfold rQ;rw[List.take_length,Abe h]
theorem AcG (a:List Int×List LT):∀l:List (List LT),a.2.length<=(l.foldl Fo a).2.length
 | []=>Nat.le_refl _
 |W::l=>Nat.le_trans (by simp[Fo]) (AcG (Fo a W) l)
theorem rR (q:List (List LT)) (i:Nat):(rS q i).length<=(FC q).2.length:=by
 unfold rS;rw[Du];have h:=AcG (FC (q.take i)) (q.drop i);have e:(q.drop i).foldl Fo (FC (q.take i))=FC q:=by unfold FC;rw[<-List.foldl_append,List.take_append_drop]
 rw[e]at h;exact h
theorem e8 (y:List (List LT)) (i q:Nat) (B:q<=(wS y i).length):(rQ y i q).length=(rS y i).length+q:=by unfold rQ;rw[List.length_append,List.length_map,List.length_take];omega
theorem Ajx {y:List (List LT)} {i:Nat} (h:i<y.length) (q:Nat) (B:q<=(wS y i).length):(rQ y i q).length<=(FC y).2.length:=by have C:=rR y (i+1);rw[<-rO h,e8 _ _ _ (Nat.le_refl _)]at C;rw[e8 _ _ _ B];omega
theorem AoO (k:Int) (s:List UInt8) (n:Int) (t:TK) (q:List (List LT)):(⟨k,s,n,t.line,t.Ag,kS q q.length⟩::rS q q.length)=Vg k s n t q:=by unfold Vg kS rS;rw[Du,Du,List.take_length]
theorem Vk {q:List (Nat×Nat)} {k:Int} {s:List UInt8} {n:Int} {t:TK} {K y m:Nat} {R:List LT} (B:sg q K=some y) (i:Nat):AH q (CI k s n t K m R i) (CI k s n t y m R i):=by
 cases i with
 |zero=>exact⟨⟨rfl,rfl⟩,rfl,⟨rfl,rfl⟩,⟨rfl,rfl⟩,⟨rfl,rfl⟩,⟨B,rfl,rfl⟩,trivial⟩
 |succ i=>exact KZ q _
theorem Ao2 {q:List (Nat×Nat)} {k:Int} {s:List UInt8} {n:Int} {t:TK} {K B L m y l:Nat} {R:List LT} (C:sg q K=some B) (hm:y=m) (i:Nat):AH q (CI k s n t K m R i) (LI (CI k s n t L l R) 0 5 [.AJ B y 1] i):=by
 cases i with
 |zero=>exact⟨⟨rfl,rfl⟩,rfl,⟨rfl,rfl⟩,⟨rfl,rfl⟩,⟨rfl,rfl⟩,⟨C,hm,rfl⟩,trivial⟩
 |succ i=>exact KZ q _
theorem AdF:JQ (some (AV.int .i64 0))=0:=rfl
theorem AdG (x:Nat):JQ (some (AV.int .i64 (x:Int)))=x:=rfl
theorem AdE {q:List (Nat×Nat)} {K:List Int} {c:Int} (i:Nat) (hi:i<K.length+1):AH q (rI (K++[c]) i) (B0 K.length (rI K) (λ_=>[AV.int .i64 c]) i):=by
 have e:B0 K.length (rI K) (λ_=>[AV.int .i64 c]) i=rI (K++[c]) i:=by
  unfold rI;refine LM (λy=>?_) λy=>?_
  ·rw[OZ (by omega)]
  ·obtain rfl:i=K.length:=by omega
   rw[Wp]
 rw[e];exact R4 q _ i
theorem vM:Tryz.prog.cellsOf 81=1:=by kernel_rfl
theorem fD {n:Nat} {K:Prop} (h:0<n) (q:K):Ap (Bn 0 n) (Ap (Nat.ble (Tryz.prog.cellsOf 81) n) K):=An (BJ.2 (by omega)) (An (by rw[vM];exact Nat.ble_eq_true_of_le h) q)
theorem sdI {z n:Nat} {K:Prop} (h:z<n) (q:K):Ap (Bn (z:Int) n) (Ap (Nat.ble (z+0+Tryz.prog.cellsOf 81) n) K):=An (BJ.2 (by omega)) (An (by rw[vM];exact Nat.ble_eq_true_of_le (by omega)) q)
theorem Aeb:Tryz.prog.cellsOf 37=1:=by kernel_rfl
def L5 (a:Nat):=JQ (some (AV.int .i64 (↑a:Int)))
def Ew (a:List (List LT)) (b:Nat):=List.length (kS a (L5 b+1))
@[reducible] def gb:List (List LT)->Nat->Prop:=λ(q:List (List LT)) (a:Nat)=>some 20=some (19+1)/\Ab (Ew q a)/\Aa
@[reducible] def gn:List (List LT)->Nat->Prop:=λ(q:List (List LT)) (a:Nat)=>some 12=some (11+1)/\Ab (Ew q a)/\Aa
def HG:=JQ (some (AV.int .i64 (0:Int)))
def Ia (a:List (List LT)):=List.length (kS a (HG+1))
@[reducible] def gx:List (List LT)->Prop:=λ(q:List (List LT))=>some 13=some (12+1)/\Ab (Ia q)/\Aa
def Ly (a:List (List LT)):=(Ab (some 0)/\Ab a.length/\Aa)
@[reducible] def gy:List (List LT)->Prop:=λ(q:List (List LT))=>(Ly q)/\GH/\Ol/\(Aa/\Ab (1:Int))/\True
def E3 (a:List (List LT)) (b:Nat) (c:Nat):=List.length (rQ a (L5 b) c)
@[reducible] def te:List (List LT)->Nat->Nat->Prop:=λ(y:List (List LT)) (a q:Nat)=>1+E3 y a q+1<=9223372036854775807/\(1+E3 y a q+1)*72<=140737488355328
def Ex (a:List (List LT)) (b:Nat):=(1+List.length (rS a b))
@[reducible] def VN:List (List LT)->Nat->Prop:=λ(q:List (List LT)) (a:Nat)=>(Ly q)/\GH/\(J7 a)/\(Aa/\Ab (Int.ofNat (Ex q a)))/\True
def CZ (a:List (List LT)) (b:Nat):=List.length (kS a b)
@[reducible] def gz:List (List LT)->Nat->Nat->Prop:=λ(q:List (List LT)) (a y:Nat)=>Aa/\Aa/\Aa/\Aa/\Ew q a=CZ q y/\Au λ(i:Nat)=>B8 i (Ew q a)->(Aa/\List.getD (kS q (L5 a+1)) i (0:Int)=List.getD (kS q y) i (0:Int))/\True
def GC (a:List (List LT)):=List.getD (wS a 0) 0 LT.none
def Rw (a:List (List LT)):=List.length (LT.kids (GC a))
@[reducible] def Yr:List (List LT)->Nat×List Int->Prop:=λ(q:List (List LT)) (a:Nat×List Int)=>a.2=QT (some [AV.int .i64 (LT.kind (GC q)),AV.bs (LT.text (GC q)),AV.int .i64 (LT.n (GC q)),AV.int .i64 (LT.line (GC q)),AV.int .i64 (LT.Ag (GC q)),AV.vec 1 (Rw q) (rI (LT.kids (GC q)))])/\Nat.le a.1 a.2.length
def GA (a:List (List LT)) (b:Nat):=List.getD (wS a 0) (CD b) LT.none
def Rv (a:List (List LT)) (b:Nat):=List.length (LT.kids (GA a b))
@[reducible] def Ys:List (List LT)->Nat->Nat×List Int->Prop:=λ(q:List (List LT)) (a:Nat) (y:Nat×List Int)=>y.2=QT (some [AV.int .i64 (LT.kind (GA q a)),AV.bs (LT.text (GA q a)),AV.int .i64 (LT.n (GA q a)),AV.int .i64 (LT.line (GA q a)),AV.int .i64 (LT.Ag (GA q a)),AV.vec 1 (Rv q a) (rI (LT.kids (GA q a)))])/\Nat.le y.1 y.2.length
def GU (a:List (List LT)) (b:Nat) (c:Nat):=List.getD (wS a (CD b)) (CD c) LT.none
def Oi (a:List (List LT)) (b:Nat) (c:Nat):=List.length (LT.kids (GU a b c))
@[reducible] def ta:List (List LT)->Nat->Nat->Nat×List Int->Prop:=λ(y:List (List LT)) (a q:Nat) (B:Nat×List Int)=>B.2=QT (some [AV.int .i64 (LT.kind (GU y a q)),AV.bs (LT.text (GU y a q)),AV.int .i64 (LT.n (GU y a q)),AV.int .i64 (LT.line (GU y a q)),AV.int .i64 (LT.Ag (GU y a q)),AV.vec 1 (Oi y a q) (rI (LT.kids (GU y a q)))])/\Nat.le B.1 B.2.length
@[reducible] def Yp:List (List LT)->Nat->Prop:=λ(q:List (List LT)) (a:Nat)=>Aa/\Aa/\Aa/\Aa/\Ab (Ew q a)/\Au λ(i:Nat)=>B8 i (Ew q a)->(Aa/\Ab (List.getD (kS q (L5 a+1)) i (0:Int)))/\True
@[reducible] def gf:List (List LT)->Prop:=λ(q:List (List LT))=>Aa/\Aa/\Aa/\Aa/\Ab (Ia q)/\Au λ(i:Nat)=>B8 i (Ia q)->(Aa/\Ab (List.getD (kS q (HG+1)) i (0:Int)))/\True
@[reducible] def gg:List (List LT)->Prop:=λ(q:List (List LT))=>(Ly q)/\GH/\(Ab (some 2)/\0=0/\1=1/\1=1)/\Ol/\(Aa/\Ab (1:Int))/\Ol/\(Ab (some 6)/\Aa)/\(Ab (some 4)/\0=0/\1=1/\Aa)/\True
def Oj (a:List (List LT)) (b:Nat) (c:Nat):=List.getD (wS a b) c LT.none
@[reducible] def tc:List (List LT)->Prop:=λ(y:List (List LT))=>Aa/\Aa/\Aa/\Aa/\Ab y.length/\Au λ(i:Nat)=>B8 i y.length->(Aa/\Ab (List.length (wS y i))/\Au λ(q:Nat)=>AM q (List.length (wS y i))->(Aa/\Ab (LT.kind (Oj y i q)))/\Ab (LT.text (Oj y i q))/\(Aa/\Ab (LT.n (Oj y i q)))/\(Aa/\Ab (LT.line (Oj y i q)))/\(Aa/\Ab (LT.Ag (Oj y i q)))/\(Aa/\Ab (List.length (LT.kids (Oj y i q)))/\Au λ(B:Nat)=>AM B (List.length (LT.kids (Oj y i q)))->(Aa/\Ab (List.getD (LT.kids (Oj y i q)) B (0:Int)))/\True)/\True)/\True
def J9 (a:List (List LT)):=tc a
@[reducible] def Yq:List (List LT)->Prop:=λ(q:List (List LT))=>J9 q/\True
def Hk (a:List (List LT)) (b:Nat):=List.length (rQ a (HG) b)
@[reducible] def gh:List (List LT)->Nat->Prop:=λ(q:List (List LT)) (a:Nat)=>(Ly q)/\GH/\(Ab (some 12)/\Ab (1+Hk q a)/\Aa)/\Ol/\(Aa/\Ab (1:Int))/\(J7 a)/\(Ab (some 14)/\Aa)/\gx q/\True
@[reducible] def gj:List (List LT)->Nat->Nat->Prop:=λ(y:List (List LT)) (a q:Nat)=>(Ly y)/\GH/\(Ab (some 19)/\Ab (1+E3 y a q)/\Aa)/\(J7 a)/\(Aa/\Ab (Int.ofNat (Ex y a)))/\(J7 q)/\(Ab (some 21)/\Aa)/\gb y a/\True
@[reducible] def gk:List (List LT)->Nat->Nat->Prop:=λ(y:List (List LT)) (a q:Nat)=>(Ly y)/\GH/\(Ab (some 11)/\Ab (1+E3 y a q)/\Aa)/\(J7 a)/\(Aa/\Ab (Int.ofNat (Ex y a)))/\(J7 q)/\(Ab (some 13)/\Aa)/\gn y a/\True
@[reducible] def gm:TK->List (List LT)->Prop:=λ(t:TK) (q:List (List LT))=>J9 q/\JE t/\(Aa/\True)/\True
@[reducible] def gq:TK->List (List LT)->Prop:=λ(t:TK) (q:List (List LT))=>J9 q/\JE t/\(Aa/\True)/\(Aa/\True)/\True
@[reducible] def VL:TK->List (List LT)->Prop:=λ(t:TK) (q:List (List LT))=>J9 q/\JE t/\(Aa/\True)/\(Aa/\True)/\(Aa/\True)/\(Aa/\True)/\True
@[reducible] def gr:TK->List (List LT)->Prop:=λ(t:TK) (q:List (List LT))=>J9 q/\JE t/\(Aa/\True)/\(Aa/\True)/\(Aa/\True)/\(Aa/\True)/\(Aa/\True)/\True
@[reducible] def VM:List (List LT)->Nat->Nat->Prop:=λ(y:List (List LT)) (a q:Nat)=>Yp y a/\(Aa/\Aa/\Aa/\Aa/\(((((True/\Aa/\Ab (LT.kind (GU y a q)))/\Ab (LT.text (GU y a q)))/\Aa/\Ab (LT.n (GU y a q)))/\Aa/\Ab (LT.line (GU y a q)))/\Aa/\Ab (LT.Ag (GU y a q)))/\Aa/\Ab (Oi y a q)/\Au λ(i:Nat)=>AM i (Oi y a q)->(Aa/\Ab (List.getD (LT.kids (GU y a q)) i (0:Int)))/\True)/\True
@[reducible] def gu:List (List LT)->Nat->Prop:=λ(q:List (List LT)) (a:Nat)=>gf q/\(Aa/\Aa/\Aa/\Aa/\(((((True/\Aa/\Ab (LT.kind (GA q a)))/\Ab (LT.text (GA q a)))/\Aa/\Ab (LT.n (GA q a)))/\Aa/\Ab (LT.line (GA q a)))/\Aa/\Ab (LT.Ag (GA q a)))/\Aa/\Ab (Rv q a)/\Au λ(i:Nat)=>AM i (Rv q a)->(Aa/\Ab (List.getD (LT.kids (GA q a)) i (0:Int)))/\True)/\True
@[reducible] def gv:Int->List UInt8->Int->TK->List (List LT)->Prop:=λ(k:Int) (s:List UInt8) (n:Int) (t:TK) (q:List (List LT))=>J9 q/\JE t/\(Aa/\Aa/\Aa/\Aa/\(Xq k s n t)/\Ab (some 4)/\0=0/\1=1/\Aa)/\(Aa/\True)/\rK/\(Aa/\Aa/\Aa/\Aa/\(((((True/\Aa/\Ab (LT.kind (GC q)))/\Ab (LT.text (GC q)))/\Aa/\Ab (LT.n (GC q)))/\Aa/\Ab (LT.line (GC q)))/\Aa/\Ab (LT.Ag (GC q)))/\Aa/\Ab (Rw q)/\Au λ(i:Nat)=>AM i (Rw q)->(Aa/\Ab (List.getD (LT.kids (GC q)) i (0:Int)))/\True)/\True
def Gy (a:Int) (b:List UInt8) (c:Int) (d:TK) (e:List (List LT)):=(LT.mk a b c (TK.line d) (TK.Ag d) (kS e e.length)::rS e e.length)
def Re:=AoY (λ(q:List AV)=>Prop)
def Ut:=AoZ (λ(q:AV)=>Prop)
@[reducible] def gw:Int->List UInt8->Int->TK->List (List LT)->Nat->AV->List AV->Prop:=λ(k:Int) (s:List UInt8) (n:Int) (t:TK) (B:List (List LT)) (a:Nat) (J:AV) (E:List AV)=>(Ut J (λ(C:IntKind) (q:Int)=>Nat.beq 3 (QM C)=true/\q=LT.kind (List.getD (Gy k s n t B) a LT.none)) λ(x:AV)=>False)/\Re E (λ(y:AV) (m:List AV)=>(Ao0 (λ(y:AV)=>Prop) y (λ(L:List UInt8)=>L=LT.text (List.getD (Gy k s n t B) a LT.none)) (λ(m q:Nat)=>BC m q=LT.text (List.getD (Gy k s n t B) a LT.none)) λ(x:AV)=>False)/\Re m (λ(y:AV) (m:List AV)=>(Ut y (λ(C:IntKind) (q:Int)=>Nat.beq 3 (QM C)=true/\q=LT.n (List.getD (Gy k s n t B) a LT.none)) λ(x:AV)=>False)/\Re m (λ(y:AV) (m:List AV)=>(Ut y (λ(C:IntKind) (q:Int)=>Nat.beq 3 (QM C)=true/\q=LT.line (List.getD (Gy k s n t B) a LT.none)) λ(x:AV)=>False)/\Re m (λ(y:AV) (m:List AV)=>(Ut y (λ(C:IntKind) (q:Int)=>Nat.beq 3 (QM C)=true/\q=LT.Ag (List.getD (Gy k s n t B) a LT.none)) λ(x:AV)=>False)/\Re m (λ(y:AV) (m:List AV)=>(Ao1 (λ(y:AV)=>Prop) y (λ(O K:Nat) (M:Nat->List AV)=>Nat.beq 1 O=true/\K=List.length (LT.kids (List.getD (Gy k s n t B) a LT.none))/\Au λ(i:Nat)=>i<K->Re (M i) (λ(y:AV) (m:List AV)=>(Ut y (λ(C:IntKind) (q:Int)=>Nat.beq 3 (QM C)=true/\q=List.getD (LT.kids (List.getD (Gy k s n t B) a LT.none)) i (0:Int)) λ(x:AV)=>False)/\AcW (λ(l:List AV)=>Prop) m (λ(_:Unit)=>True) λ(x:List AV)=>False) λ(_:Unit)=>False) (λ(l:List UInt8)=>Aa/\l.length=List.length (LT.kids (List.getD (Gy k s n t B) a LT.none))/\Au λ(i:Nat)=>i<l.length->(false=true/\(↑(UInt8.toNat (List.getD l i (0:UInt8))):Int)=List.getD (LT.kids (List.getD (Gy k s n t B) a LT.none)) i (0:Int))/\True) (λ(_:Unit)=>List.length (LT.kids (List.getD (Gy k s n t B) a LT.none))=0) λ(x:AV)=>False)/\AcW (λ(l:List AV)=>Prop) m (λ(_:Unit)=>True) λ(x:List AV)=>False) λ(_:Unit)=>False) λ(_:Unit)=>False) λ(_:Unit)=>False) λ(_:Unit)=>False) λ(_:Unit)=>False
def L4 (a:List (List LT)) (b:Nat) (c:Nat) (d:List Int):=List.map (λ(q:Int)=>q+((1:Int)+(↑(List.length (rS a (L5 b))):Int))) (List.take c d)
def Lp (a:List (List LT)) (b:Nat) (c:List Int):=List.map (λ(q:Int)=>q+((1:Int)+(↑(List.length (rS a (HG))):Int))) (List.take b c)
def B3 (a:TK):=AV.int .i64 (TK.line a)
def B4 (a:TK):=AV.int .i64 (TK.Ag a)
def DH (a:Nat):=Ap (Bo .i64 ((↑a:Int)+1))
def D6 (a:Nat) (b:Nat):=(Aa/\(↑a:Int)+1=(↑b:Int))
def Gz (a:Nat):=Nat.le (Nat.succ (a*6))
def Xl (a:Nat):=Ap (bif bif bif bif Nat.beq a a then true else false then true else false then true else false then true else false)
def Fg (a:Nat):=(Aa/\(0:Int)=(↑a:Int))
def N9:=Program.cellsOf Tryz.prog
def Na (a:Nat) (b:Nat):=Nat.le (Nat.succ (1000001-a)) (1000001-b)
def Xo (a:Nat) (b:List (List LT)):=Ap (bif Nat.ble (CD a*1+0+N9 81) b.length then true else false)
def pY (a:List (List LT)) (b:Nat):=Ap (bif bif Nat.ble (CZ a b*1) (CZ a b)then true else false then decide (List.length (kS a b)+1<=9223372036854775807/\(List.length (kS a b)+1)*8<=140737488355328)else false)
def pX (a:List (List LT)) (b:Nat) (c:Nat) (d:Nat) (e:List Int):=(λ(q:Nat)=>[AV.int .i64 (LT.kind (GU a b c)),AV.bs (LT.text (GU a b c)),AV.int .i64 (LT.n (GU a b c)),AV.int .i64 (LT.line (GU a b c)),AV.int .i64 (LT.Ag (GU a b c)),AV.vec 1 d (rI (L4 a b d e))])
def Xn (a:List (List LT)):=Ap (bif Nat.ble (0+N9 81) a.length then true else false)
def Pv (a:List (List LT)) (b:Nat):=List.getD (rQ a (HG) b) 0 LT.none
def GJ (a:Nat):=Bn (↑a:Int)
def Xr (a:List (List LT)) (b:Nat) (c:Nat) (d:Nat):=(List.getD (LT.kids (GU a b c)) (CD d) (0:Int)+Int.ofNat (Ex a b))
def p9 (a:Nat) (b:List (List LT)) (c:List Int):=Ap (bif bif Nat.ble (a*1) (List.length (Lp b a c))then true else false then decide (a+1<=9223372036854775807/\(a+1)*8<=140737488355328)else false)
def pg (a:Nat) (b:List (List LT)) (c:Nat) (d:List Int):=Ap (bif bif Nat.ble (a*1) (List.length (L4 b c a d))then true else false then decide (a+1<=9223372036854775807/\(a+1)*8<=140737488355328)else false)
def Rs (a:Nat) (b:List (List LT)) (c:Nat):=Nat.le a (List.length (wS b (L5 c)))
def KM (a:List (List LT)) (b:Nat) (c:Nat):=((1+E3 a b c)*6)
def HL (a:Nat):=AP (↑a:Int)
def pw (a:List (List LT)) (b:Nat) (c:Nat):=Ap (bif bif Nat.ble (KM a b c) (KM a b c)then true else false then decide (te a b c)else false)
def qs (a:Nat) (b:List (List LT)) (c:List Int):=Ap (bif Nat.ble (a*1) (List.length (Lp b a c))then Ds 1 a (rI (Lp b a c))else false)
def pj (a:Nat) (b:List (List LT)) (c:Nat) (d:List Int):=Ap (bif Nat.ble (a*1) (List.length (L4 b c a d))then Ds 1 a (rI (L4 b c a d))else false)
def PS (a:List (List LT)) (b:Nat):=List.length (rS a b)
def rF:=AH [(20,20),(21,21),(19,19),(1,1),(23,25),(0,0)]
def rG:=AH [(13,13),(14,14),(12,12),(1,1),(16,18),(0,0)]
def rH:=AH [(12,12),(13,13),(11,11),(1,1),(15,17),(0,0)]
def RF (a:List (List LT)):=ta a
def rJ (a:List (List LT)) (b:Nat):=B0 (CZ a b) (rI (kS a b)) (λ(q:Nat)=>[AV.int .i64 (Int.ofNat (Ex a b))])
def Xz (a:List (List LT)):=Ap (Bn (0:Int) a.length)
def IG (a:List (List LT)) (b:Nat) (c:Nat):=rQ a (L5 b) c
def XC (a:Nat) (b:List (List LT)):=(Nat.le a b.length/\Nat.le 1 a)
theorem AmT:∀(k:Int) (s:List UInt8) (n:Int) (t:TK) (B:List (List LT)),SH B->Ad (AP (0:Int) (Int.ofNat B.length)) (Xz B (Xn B (Ad (AP (0:Int) (Int.ofNat (List.length (wS B 0)))) (Xz B (Xn B (Ap (Bn (0:Int) (List.length (wS B 0))) ((∃(K:Nat×List Int),Yr B K/\Aa/\(K.1=0/\(Fg K.1)/\gg B)/\(Aa/\True)/\gv k s n t B)/\∀(x:Nat×List Int),Yr B x->Ad (HL x.1 (Int.ofNat (Rw B))) (Ap (GJ x.1 (Rw B)) (Ap (Bo .i64 (List.getD (LT.kids (GC B)) (CD x.1) (0:Int)+1)) (p9 x.1 B x.2 (DH x.1 (∃(J:Nat×List Int),Yr B J/\Na J.1 x.1/\Aa/\((Ab (some 10)/\x.1+1=J.1/\Aa)/\(D6 x.1 J.1)/\gg B)/\(Aa/\Aa/\Aa/\Aa/\(x.1+1)*1=List.length (Lp B J.1 J.2)/\Au λ(i:Nat)=>B8 i ((x.1+1)*1)->AH [(4,4),(6,6),(2,2),(1,1),(8,10),(0,0)] (rI (Lp B J.1 J.2) i) (B0 x.1 (rI (Lp B x.1 x.2)) (λ(C:Nat)=>[AV.int .i64 (List.getD (LT.kids (GC B)) (CD x.1) (0:Int)+1)]) i))/\gv k s n t B))))) (qs x.1 B x.2 (Xl x.1 ((∃(K:Nat),Nat.le K (List.length (wS B (HG)))/\Aa/\((Ab (some 11)/\Aa/\2=1+Hk B K/\Aa)/\(Aa/\(1:Int)=(↑K:Int))/\(Ab (some 4)/\Aa/\1=Ia B/\Aa)/\gy B)/\(Aa/\Aa/\Aa/\12=(1+Hk B K)*6/\(((((((Xq k s n t)/\Ab (some 4)/\Aa/\1=Ia B/\Aa)/\Aa/\LT.kind (GC B)=LT.kind (Pv B K))/\LT.text (GC B)=LT.text (Pv B K))/\Aa/\LT.n (GC B)=LT.n (Pv B K))/\Aa/\LT.line (GC B)=LT.line (Pv B K))/\Aa/\LT.Ag (GC B)=LT.Ag (Pv B K))/\Aa/\x.1=List.length (LT.kids (Pv B K))/\Au λ(i:Nat)=>AM i x.1->(Aa/\List.getD (Lp B x.1 x.2) i (0:Int)=List.getD (LT.kids (Pv B K)) i (0:Int))/\True)/\(Aa/\Aa/\Aa/\1=Ia B/\True/\Aa/\(1:Int)=List.getD (kS B (HG+1)) 0 (0:Int))/\VL t B)/\∀(x:Nat),Nat.le x (List.length (wS B (HG)))->Xz B (Xn B (Ad (AP (↑x:Int) (Int.ofNat (List.length (wS B 0)))) (Xz B (Xn B (Ap (Bn (↑x:Int) (List.length (wS B 0))) ((∃(K:Nat×List Int),Ys B x K/\Aa/\(K.1=0/\(Fg K.1)/\gh B x)/\(Aa/\True)/\J9 B/\JE t/\(Aa/\True)/\(Aa/\True)/\(Aa/\True)/\(Aa/\True)/\(Aa/\Aa/\Aa/\Aa/\Ab ((1+Hk B x)*6)/\Au λ(i:Nat)=>Gz i ((1+Hk B x)*6)->AH [(13,13),(14,14),(12,12),(1,1),(0,0)] (CI k s n t (12+1) (Ia B) (rQ B (HG) x) i) (CI k s n t (12+1) (Ia B) (rQ B (HG) x) i))/\gu B x)/\∀(C:Nat×List Int),Ys B x C->Ad (HL C.1 (Int.ofNat (Rv B x))) (Ap (GJ C.1 (Rv B x)) (Ap (Bo .i64 (List.getD (LT.kids (GA B x)) (CD C.1) (0:Int)+1)) (p9 C.1 B C.2 (DH C.1 (∃(J:Nat×List Int),Ys B x J/\Na J.1 C.1/\Aa/\((Ab (some 18)/\C.1+1=J.1/\Aa)/\(D6 C.1 J.1)/\gh B x)/\(Aa/\Aa/\Aa/\Aa/\(C.1+1)*1=List.length (Lp B J.1 J.2)/\Au λ(i:Nat)=>B8 i ((C.1+1)*1)->rG (rI (Lp B J.1 J.2) i) (B0 C.1 (rI (Lp B C.1 C.2)) (λ(E:Nat)=>[AV.int .i64 (List.getD (LT.kids (GA B x)) (CD C.1) (0:Int)+1)]) i))/\J9 B/\JE t/\(Aa/\True)/\(Aa/\True)/\(Aa/\True)/\(Aa/\True)/\(Aa/\Aa/\Aa/\Aa/\Ab ((1+Hk B x)*6)/\Au λ(i:Nat)=>Gz i ((1+Hk B x)*6)->rG (CI k s n t (12+1) (Ia B) (rQ B (HG) x) i) (CI k s n t (12+1) (Ia B) (rQ B (HG) x) i))/\gu B x))))) (qs C.1 B C.2 (Xl C.1 (Ap (bif bif Nat.ble ((1+Hk B x)*6) ((1+Hk B x)*6)then true else false then decide (1+List.length (rQ B (JQ (some (AV.int .i64 (0:Int)))) x)+1<=9223372036854775807/\(1+List.length (rQ B (JQ (some (AV.int .i64 (0:Int)))) x)+1)*72<=140737488355328)else false) (DH x (∃(J:Nat),Nat.le J (List.length (wS B (HG)))/\Na J x/\Aa/\((Ab (some 19)/\1+Hk B x+1=1+Hk B J/\Aa)/\(D6 x J)/\gx B/\gy B)/\(Aa/\Aa/\Aa/\Aa/\(1+Hk B x+1)*6=(1+Hk B J)*6/\Au λ(i:Nat)=>Gz i ((1+Hk B x+1)*6)->AH [(1,1),(13,13),(12,19),(0,0)] (CI k s n t (12+1) (Ia B) (rQ B (HG) J) i) (B0 (1+Hk B x) (CI k s n t (12+1) (Ia B) (rQ B (HG) x)) (λ(E:Nat)=>[AV.int .i64 (LT.kind (GA B x)),AV.bs (LT.text (GA B x)),AV.int .i64 (LT.n (GA B x)),AV.int .i64 (LT.line (GA B x)),AV.int .i64 (LT.Ag (GA B x)),AV.vec 1 C.1 (rI (Lp B C.1 C.2))]) i))/\gf B/\VL t B))))))))) ((∃(K:Nat),(XC K B)/\Aa/\((Ab (some 12)/\1+Hk B x=1+PS B K/\Aa)/\(Aa/\(1:Int)=(↑K:Int))/\(some 13=some (12+1)/\Ia B=CZ B K/\Aa)/\(Ly B)/\GH/\True)/\(Aa/\Aa/\Aa/\Aa/\(1+Hk B x)*6=(Ex B K)*6/\Au λ(i:Nat)=>Gz i ((1+Hk B x)*6)->AH [(1,1),(15,13),(14,12),(0,0)] (CI k s n t (14+1) (CZ B K) (rS B K) i) (CI k s n t (12+1) (Ia B) (rQ B (HG) x) i))/\(Aa/\Aa/\Aa/\Aa/\Ia B=CZ B K/\Au λ(i:Nat)=>B8 i (Ia B)->(Aa/\List.getD (kS B (HG+1)) i (0:Int)=List.getD (kS B K) i (0:Int))/\True)/\VL t B)/\∀(x:Nat),Nat.le x B.length/\Nat.le 1 x->Ad (AP (↑x:Int) (Int.ofNat B.length)) (Ap (Bn (0:Int) (Ex B x)) (Ap (bif Nat.ble (5+N9 37) ((Ex B x)*6)then true else false) (pY B x (Ap (Bn (0:Int) (Ex B x)) (Ap (bif Nat.ble (5+List.length [AV.AJ 17 (CZ B x+1) 1]) (List.length (CI k s n t (14+1) (CZ B x) (rS B x) 0))then Nat.ble (5+List.length [AV.AJ 17 (CZ B x+1) 1]) ((Ex B x)*6)else false) ((∃(K:Nat),Rs K B x/\Aa/\((Ab (some 14)/\1+PS B x=1+E3 B x K/\Aa)/\(Fg K)/\(Ab (some 17)/\CZ B x+1=Ew B x/\Aa)/\VN B x)/\(Aa/\Aa/\Aa/\Aa/\(Ex B x)*6=(1+E3 B x K)*6/\Au λ(i:Nat)=>Gz i ((Ex B x)*6)->AH [(1,1),(20,17),(19,14),(0,0)] (CI k s n t (19+1) (Ew B x) (IG B x K) i) (LI (CI k s n t (14+1) (CZ B x) (rS B x)) 0 5 [AV.AJ 17 (CZ B x+1) 1] i))/\(Aa/\Aa/\Aa/\Aa/\(CZ B x+1)*1=Ew B x/\Au λ(i:Nat)=>B8 i ((CZ B x+1)*1)->AH [(1,1),(20,17),(19,14),(0,0)] (rI (kS B (L5 x+1)) i) (rJ B x i))/\gr t B)/\∀(C:Nat),Rs C B x->Ap (Bn (↑x:Int) B.length) (Xo x B (Ad (HL C (Int.ofNat (List.length (wS B (CD x))))) (Ap (Bn (↑x:Int) B.length) (Xo x B (Ap (GJ C (List.length (wS B (CD x)))) ((∃(K:Nat×List Int),RF B x C K/\Aa/\(K.1=0/\(Fg K.1)/\gj B x C)/\(Aa/\True)/\J9 B/\JE t/\(Aa/\True)/\(Aa/\True)/\(Aa/\True)/\(Aa/\True)/\(Aa/\True)/\(Aa/\Aa/\Aa/\Aa/\Ab (KM B x C)/\Au λ(i:Nat)=>Gz i (KM B x C)->AH [(20,20),(21,21),(19,19),(1,1),(0,0)] (CI k s n t (19+1) (Ew B x) (IG B x C) i) (CI k s n t (19+1) (Ew B x) (IG B x C) i))/\VM B x C)/\∀(E:Nat×List Int),RF B x C E->Ad (HL E.1 (Int.ofNat (Oi B x C))) (Ap (GJ E.1 (Oi B x C)) (Ap (Bo .i64 (Xr B x C E.1)) (pg E.1 B x E.2 (DH E.1 (∃(J:Nat×List Int),RF B x C J/\Na J.1 E.1/\Aa/\((Ab (some 25)/\E.1+1=J.1/\Aa)/\(D6 E.1 J.1)/\gj B x C)/\(Aa/\Aa/\Aa/\Aa/\(E.1+1)*1=List.length (L4 B x J.1 J.2)/\Au λ(i:Nat)=>B8 i ((E.1+1)*1)->rF (rI (L4 B x J.1 J.2) i) (B0 E.1 (rI (L4 B x E.1 E.2)) (λ(al:Nat)=>[AV.int .i64 (Xr B x C E.1)]) i))/\J9 B/\JE t/\(Aa/\True)/\(Aa/\True)/\(Aa/\True)/\(Aa/\True)/\(Aa/\True)/\(Aa/\Aa/\Aa/\Aa/\Ab (KM B x C)/\Au λ(i:Nat)=>Gz i (KM B x C)->rF (CI k s n t (19+1) (Ew B x) (IG B x C) i) (CI k s n t (19+1) (Ew B x) (IG B x C) i))/\VM B x C))))) (pj E.1 B x E.2 (Xl E.1 (pw B x C (DH C (∃(J:Nat),Rs J B x/\Na J C/\Aa/\((Ab (some 26)/\1+E3 B x C+1=1+E3 B x J/\Aa)/\(D6 C J)/\gb B x/\VN B x)/\(Aa/\Aa/\Aa/\Aa/\(1+E3 B x C+1)*6=(1+E3 B x J)*6/\Au λ(i:Nat)=>Gz i ((1+E3 B x C+1)*6)->AH [(1,1),(20,20),(19,26),(0,0)] (CI k s n t (19+1) (Ew B x) (IG B x J) i) (B0 (1+E3 B x C) (CI k s n t (19+1) (Ew B x) (IG B x C)) (pX B x C E.1 E.2) i))/\Yp B x/\gr t B))))))))) (DH x (∃(J:Nat),(XC J B)/\Nat.le (Nat.succ (B.length-J)) (B.length-x)/\Aa/\((Ab (some 19)/\1+E3 B x C=1+PS B J/\Aa)/\(D6 x J)/\(some 20=some (19+1)/\Ew B x=CZ B J/\Aa)/\(Ly B)/\GH/\True)/\(Aa/\Aa/\Aa/\Aa/\(1+E3 B x C)*6=(Ex B J)*6/\Au λ(i:Nat)=>Gz i (KM B x C)->AH [(1,1),(15,20),(14,19),(0,0)] (CI k s n t (14+1) (CZ B J) (rS B J) i) (CI k s n t (19+1) (Ew B x) (IG B x C) i))/\gz B x J/\VL t B)))))))))) (Ap (bif bif bif Nat.ble (CZ B x*1) (CZ B x)then Ds 1 (CZ B x) (rI (kS B x))else false then true else false then bif Nat.ble ((Ex B x)*6) ((Ex B x)*6)then Ds 6 (Ex B x) (CI k s n t (14+1) (CZ B x) (rS B x))else false else false) (Aa/\((Aa/\1+PS B x=List.length (Gy k s n t B)/\Au λ(i:Nat)=>AM i (Ex B x)->List.rec False (λ(Z:AV) (Y:List AV) (aa:Prop)=>gw k s n t B i Z Y) (bif Nat.beq i 0 then [AV.int .i64 k,AV.bs s,AV.int .i64 n,B3 t,B4 t,AV.vec 1 (CZ B x) (rI (kS B x))]else CI k s n t (14+1) (CZ B x) (rS B x) i))/\True)/\Yq B)))))))))))) ((∃(K:Nat),(XC K B)/\Aa/\(False/\(Aa/\(1:Int)=(↑K:Int))/\(Ab (some 4)/\Aa/\1=CZ B K/\Aa)/\(Ly B)/\GH/\True)/\(Aa/\True)/\(Aa/\Aa/\Aa/\1=CZ B K/\True/\Aa/\(1:Int)=List.getD (kS B K) 0 (0:Int))/\gm t B)/\∀(x:Nat),Nat.le x B.length/\Nat.le 1 x->Ad (AP (↑x:Int) (Int.ofNat B.length)) (Ap (Bn (0:Int) (Ex B x)) (Ap (bif Nat.ble (5+N9 37) ((Ex B x)*6)then true else false) (pY B x (Ap (Bn (0:Int) (Ex B x)) (Ap (bif Nat.ble (5+List.length [AV.AJ 9 (CZ B x+1) 1]) (List.length (CI k s n t (6+1) (CZ B x) (rS B x) 0))then Nat.ble (5+List.length [AV.AJ 9 (CZ B x+1) 1]) ((Ex B x)*6)else false) ((∃(K:Nat),Rs K B x/\Aa/\((Ab (some 6)/\1+PS B x=1+E3 B x K/\Aa)/\(Fg K)/\(Ab (some 9)/\CZ B x+1=Ew B x/\Aa)/\VN B x)/\(Aa/\Aa/\Aa/\Aa/\(Ex B x)*6=(1+E3 B x K)*6/\Au λ(i:Nat)=>Gz i ((Ex B x)*6)->AH [(1,1),(12,9),(11,6),(0,0)] (CI k s n t (11+1) (Ew B x) (IG B x K) i) (LI (CI k s n t (6+1) (CZ B x) (rS B x)) 0 5 [AV.AJ 9 (CZ B x+1) 1] i))/\(Aa/\Aa/\Aa/\Aa/\(CZ B x+1)*1=Ew B x/\Au λ(i:Nat)=>B8 i ((CZ B x+1)*1)->AH [(1,1),(12,9),(11,6),(0,0)] (rI (kS B (L5 x+1)) i) (rJ B x i))/\gq t B)/\∀(C:Nat),Rs C B x->Ap (Bn (↑x:Int) B.length) (Xo x B (Ad (HL C (Int.ofNat (List.length (wS B (CD x))))) (Ap (Bn (↑x:Int) B.length) (Xo x B (Ap (GJ C (List.length (wS B (CD x)))) ((∃(K:Nat×List Int),RF B x C K/\Aa/\(K.1=0/\(Fg K.1)/\gk B x C)/\(Aa/\True)/\J9 B/\JE t/\(Aa/\True)/\(Aa/\True)/\(Aa/\Aa/\Aa/\Aa/\Ab (KM B x C)/\Au λ(i:Nat)=>Gz i (KM B x C)->AH [(12,12),(13,13),(11,11),(1,1),(0,0)] (CI k s n t (11+1) (Ew B x) (IG B x C) i) (CI k s n t (11+1) (Ew B x) (IG B x C) i))/\VM B x C)/\∀(E:Nat×List Int),RF B x C E->Ad (HL E.1 (Int.ofNat (Oi B x C))) (Ap (GJ E.1 (Oi B x C)) (Ap (Bo .i64 (Xr B x C E.1)) (pg E.1 B x E.2 (DH E.1 (∃(J:Nat×List Int),RF B x C J/\Na J.1 E.1/\Aa/\((Ab (some 17)/\E.1+1=J.1/\Aa)/\(D6 E.1 J.1)/\gk B x C)/\(Aa/\Aa/\Aa/\Aa/\(E.1+1)*1=List.length (L4 B x J.1 J.2)/\Au λ(i:Nat)=>B8 i ((E.1+1)*1)->rH (rI (L4 B x J.1 J.2) i) (B0 E.1 (rI (L4 B x E.1 E.2)) (λ(al:Nat)=>[AV.int .i64 (Xr B x C E.1)]) i))/\J9 B/\JE t/\(Aa/\True)/\(Aa/\True)/\(Aa/\Aa/\Aa/\Aa/\Ab (KM B x C)/\Au λ(i:Nat)=>Gz i (KM B x C)->rH (CI k s n t (11+1) (Ew B x) (IG B x C) i) (CI k s n t (11+1) (Ew B x) (IG B x C) i))/\VM B x C))))) (pj E.1 B x E.2 (Xl E.1 (pw B x C (DH C (∃(J:Nat),Rs J B x/\Na J C/\Aa/\((Ab (some 18)/\1+E3 B x C+1=1+E3 B x J/\Aa)/\(D6 C J)/\gn B x/\VN B x)/\(Aa/\Aa/\Aa/\Aa/\(1+E3 B x C+1)*6=(1+E3 B x J)*6/\Au λ(i:Nat)=>Gz i ((1+E3 B x C+1)*6)->AH [(1,1),(12,12),(11,18),(0,0)] (CI k s n t (11+1) (Ew B x) (IG B x J) i) (B0 (1+E3 B x C) (CI k s n t (11+1) (Ew B x) (IG B x C)) (pX B x C E.1 E.2) i))/\Yp B x/\gq t B))))))))) (DH x (∃(J:Nat),(XC J B)/\Nat.le (Nat.succ (B.length-J)) (B.length-x)/\Aa/\((Ab (some 11)/\1+E3 B x C=1+PS B J/\Aa)/\(D6 x J)/\(some 12=some (11+1)/\Ew B x=CZ B J/\Aa)/\(Ly B)/\GH/\True)/\(Aa/\Aa/\Aa/\Aa/\(1+E3 B x C)*6=(Ex B J)*6/\Au λ(i:Nat)=>Gz i (KM B x C)->AH [(1,1),(7,12),(6,11),(0,0)] (CI k s n t (6+1) (CZ B J) (rS B J) i) (CI k s n t (11+1) (Ew B x) (IG B x C) i))/\gz B x J/\gm t B)))))))))) (Ap (bif bif bif Nat.ble (CZ B x*1) (CZ B x)then Ds 1 (CZ B x) (rI (kS B x))else false then true else false then bif Nat.ble ((Ex B x)*6) ((Ex B x)*6)then Ds 6 (Ex B x) (CI k s n t (6+1) (CZ B x) (rS B x))else false else false) (Aa/\((Aa/\1+PS B x=List.length (Gy k s n t B)/\Au λ(i:Nat)=>AM i (Ex B x)->List.rec False (λ(Z:AV) (Y:List AV) (aa:Prop)=>gw k s n t B i Z Y) (bif Nat.beq i 0 then [AV.int .i64 k,AV.bs s,AV.int .i64 n,B3 t,B4 t,AV.vec 1 (CZ B x) (rI (kS B x))]else CI k s n t (6+1) (CZ B x) (rS B x) i))/\True)/\Yq B)))))) (Aa/\((Aa/\1=List.length (Gy k s n t B)/\Au λ(i:Nat)=>AM i 1->(Aa/\k=LT.kind (List.getD (Gy k s n t B) i LT.none))/\s=LT.text (List.getD (Gy k s n t B) i LT.none)/\(Aa/\n=LT.n (List.getD (Gy k s n t B) i LT.none))/\(Aa/\TK.line t=LT.line (List.getD (Gy k s n t B) i LT.none))/\(Aa/\TK.Ag t=LT.Ag (List.getD (Gy k s n t B) i LT.none))/\List.length (LT.kids (List.getD (Gy k s n t B) i LT.none))=0/\True)/\True)/\Yq B)
:=by
 delta CD L5 HG L4 Lp Gy GU B3 AM B4 B8 E3 DH GA Ew CZ GC Ex D6 Gz Xl Ia Hk Fg N9 Na Ly GH Xo pY pX Xn Pv JE GJ Xr p9 pg J9 Xq Rs Oi KM HL Rw pw qs Rv pj PS rF rG rH RF rJ Xz IG XC;intro k s n t B hW;simp only[A9,tZ,gb,gn,gx,gy,te,VN,gz,Yr,Ys,ta,Yp,gf,gg,tc,Yq,gh,gj,gk,gm,gq,VL,gr,VM,gu,gv,gw,Pt,L5,Ew,HG,Ia,Ly,GH,Ol,E3,Ex,J7,B8,CZ,GC,Rw,CD,GA,Rv,GU,Oi,AM,Oj,J9,Hk,JE,Xq,rK,Gy,Re,Ut];simp only[AdF,AdG,Agv,Nat.zero_add];have ar:=hW.num;have au:=hW.len;refine Aj (λh0=>?_) λh0=>?_
 ·rw[B1]at h0;have R:0<B.length:=by omega
  have W0:=hW.all 0 R;have ai:=W0.pos;have aq:=W0.len;have V:=W0.kl;have ab:=W0.kv;have kb:∀q z,z<((wS B 0).getD q LT.none).kids.length->0<=((wS B 0).getD q LT.none).kids.getD z 0/\((wS B 0).getD q LT.none).kids.getD z 0<=1000000:=λq z hz=>ab q _ (x6 hz);have b0:(rS B 0).length=0:=by rw[U0];rfl
  have ad:1+((rS B 0).length:Int)=1:=by rw[b0];rfl
  have k1:kS B 1=[1]:=by rw[WI R,oC,b0];rfl
  have r1:rQ B 0 1=[Cl 1 ((wS B 0).getD 0 LT.none)]:=by rw[rP ai,ea,ad,U0];rfl
  simp only[ad];refine fD R (Aj (λh1=>?_) λh1=>absurd (Cg.1 h1) (by omega));refine fD R (An (BJ.2 (by omega)) ⟨⟨(0,((wS B 0).getD 0 LT.none).kids),⟨rfl,Nat.zero_le _⟩,rfl,rfl⟩,λy hy=>?_⟩);obtain⟨z,S⟩:=y;simp only at hy⊢;obtain⟨hS,hz⟩:=hy;have tl:((S.take z).map (λx=>x+1)).length=z:=by simp;omega
  refine Aj (λh=>?_) λh=>?_
  ·rw[B1]at h;have h':z<((wS B 0).getD 0 LT.none).kids.length:=by omega
   have hb:=kb 0 z h';have hk:=V 0;refine An (BJ.2 (by omega)) (An (Be.2 (by omega)) (An ?_ (An (Be.2 (by omega)) ⟨(z+1,S),⟨hS,by simp only;rw[hS];exact h'⟩,by simp only;omega,⟨rfl,rfl⟩,by simp only;rw[List.length_map,List.length_take];rw[hS];omega,?_⟩)))
   ·rw[Bool.and_eq_true];exact⟨Nat.ble_eq_true_of_le (by omega),decide_eq_true (by omega)⟩
   ·rw[<-hS];exact kZ (by rw[hS];exact h') rfl
  ·rw[Cg]at h;have aj:z=S.length:=by rw[hS]at hz⊢;omega
   refine An ?_ ⟨⟨1,ai,?_⟩,λq hq=>?_⟩
   ·rw[Bool.and_eq_true];exact⟨Nat.ble_eq_true_of_le (by omega),Lc λ_ _=>rfl⟩
   ·rw[r1,k1]
    repeat' first
     |exact rfl
     |refine And.intro ?_ ?_
    ·show z=(((wS B 0).getD 0 LT.none).kids.map (λx=>x+1)).length;rw[List.length_map,<-hS];exact aj
    ·rw[aj,List.take_length,hS];exact⟨λ_ _=>rfl⟩
   ·have ak:=e8 B 0 q hq;refine fD R (Aj (λh2=>?_) λh2=>?_)
    ·rw[B1]at h2;have W:q<(wS B 0).length:=by omega
     have hk:=V q;refine fD R (An (BJ.2 (by omega)) ⟨⟨(0,((wS B 0).getD q LT.none).kids),⟨rfl,Nat.zero_le _⟩,⟨rfl,rfl⟩,⟨λi _=>Vk rfl i⟩⟩,λy hy=>?_⟩);obtain⟨M,S2⟩:=y;simp only at hy⊢;obtain⟨L,ag⟩:=hy;have an:((S2.take M).map (λx=>x+1)).length=M:=by simp;omega
     refine Aj (λh3=>?_) λh3=>?_
     ·rw[B1]at h3;have U:M<((wS B 0).getD q LT.none).kids.length:=by omega
      have hb:=kb q M U;refine An (BJ.2 (by omega)) (An (Be.2 (by omega)) (An ?_ (An (Be.2 (by omega)) ⟨(M+1,S2),⟨L,by simp only;rw[L];exact U⟩,by simp only;omega,⟨rfl,rfl⟩,⟨by simp only;rw[List.length_map,List.length_take];rw[L];omega,?_⟩,⟨λi _=>Vk rfl i⟩⟩)))
      ·rw[Bool.and_eq_true];exact⟨Nat.ble_eq_true_of_le (by omega),decide_eq_true (by omega)⟩
      ·rw[<-L];exact kZ (by rw[L];exact U) rfl
     ·rw[Cg]at h3;have af:M=S2.length:=by rw[L]at ag⊢;omega
      have e2:=rP W;rw[ad]at e2;refine An ?_ (An (decide_eq_true (by omega)) (An (Be.2 (by omega)) ⟨q+1,W,by omega,⟨by rw[e2,List.length_append,List.length_singleton];omega,rfl⟩,by rw[e2,List.length_append,List.length_singleton];omega,⟨λi hi=>?_⟩⟩))
      ·rw[Bool.and_eq_true];exact⟨Nat.ble_eq_true_of_le (by omega),Lc λ_ _=>rfl⟩
      ·rw[e2];refine AcY rfl ?_ rfl i (by have:i*6+1<=(1+(rQ B 0 q).length+1)*6:=hi;omega);show [AV.int .i64 ((wS B 0).getD q LT.none).kind,AV.bs ((wS B 0).getD q LT.none).text,AV.int .i64 ((wS B 0).getD q LT.none).n,AV.int .i64 ((wS B 0).getD q LT.none).line,AV.int .i64 ((wS B 0).getD q LT.none).Ag,AV.vec 1 M (rI ((S2.take M).map (λx=>x+1)))]=_;rw[af,List.take_length,L];unfold Cl LT.row;simp only[List.length_map]
    ·rw[Cg]at h2;have ah:q=(wS B 0).length:=by omega
     subst ah;have r2:rQ B 0 (wS B 0).length=rS B 1:=rO R;rw[r2];refine⟨⟨1,⟨R,Nat.le_refl _⟩,⟨rfl,rfl,rfl⟩,⟨rfl,⟨λi _=>Vk rfl i⟩⟩,rfl,⟨λ_ _=>rfl⟩⟩,λx hx=>?_⟩;obtain⟨hx,ay⟩:=hx;have hc:((1+(rS B x).length:Nat):Int)=1+((rS B x).length:Int):=by omega
     have av:=rR B x;have aw:=bV hx;simp only[hc];clear V ab kb W0 ai aq ak;refine Aj (λh4=>?_) λh4=>?_
     ·rw[B1]at h4;have O:x<B.length:=by omega
      have Wx:=hW.all x O;have az:=Wx.pos;have aA:=Wx.len;have V:=Wx.kl;have ab:=Wx.kv;have kb:∀q z,z<((wS B x).getD q LT.none).kids.length->0<=((wS B x).getD q LT.none).kids.getD z 0/\((wS B x).getD q LT.none).kids.getD z 0<=1000000:=λq z hz=>ab q _ (x6 hz);have ae:(kS B x).length+1=(kS B (x+1)).length:=by rw[WI O,List.length_append,List.length_singleton]
      refine An (BJ.2 (by omega)) (An (by rw[Aeb];exact Nat.ble_eq_true_of_le (by omega)) (An (decide_eq_true (by omega)) (An (BJ.2 (by omega)) (An ?_ ⟨⟨0,Nat.zero_le _,⟨by rw[ea],rfl,ae⟩,⟨by rw[ea],⟨λi _=>by rw[ea];exact Ao2 rfl ae i⟩⟩,ae,⟨λi hi=>?_⟩⟩,λq hq=>?_⟩))))
      ·rw[Bool.and_eq_true];exact⟨rfl,Nat.ble_eq_true_of_le (by rw[List.length_singleton];omega)⟩
      ·rw[WI O];exact AdE i hi
      ·have ak:=e8 B x q hq;have aB:=Ajx O q hq;refine sdI O (Aj (λh2=>?_) λh2=>?_)
       ·rw[B1]at h2;have W:q<(wS B x).length:=by omega
        have hk:=V q;refine sdI O (An (BJ.2 (by omega)) ⟨⟨(0,((wS B x).getD q LT.none).kids),⟨rfl,Nat.zero_le _⟩,⟨rfl,rfl⟩,⟨λi _=>Vk rfl i⟩⟩,λy hy=>?_⟩);obtain⟨M,S2⟩:=y;simp only at hy⊢;obtain⟨L,ag⟩:=hy;have an:((S2.take M).map (λ(v:Int)=>v+(1+((rS B x).length:Int)))).length=M:=by simp;omega
        refine Aj (λh3=>?_) λh3=>?_
        ·rw[B1]at h3;have U:M<((wS B x).getD q LT.none).kids.length:=by omega
         have hb:=kb q M U;refine An (BJ.2 (by omega)) (An (Be.2 (by omega)) (An ?_ (An (Be.2 (by omega)) ⟨(M+1,S2),⟨L,by simp only;rw[L];exact U⟩,by simp only;omega,⟨rfl,rfl⟩,⟨by simp only;rw[List.length_map,List.length_take];rw[L];omega,?_⟩,⟨λi _=>Vk rfl i⟩⟩)))
         ·rw[Bool.and_eq_true];exact⟨Nat.ble_eq_true_of_le (by omega),decide_eq_true (by omega)⟩
         ·rw[<-L];exact kZ (by rw[L];exact U) rfl
        ·rw[Cg]at h3;have af:M=S2.length:=by rw[L]at ag⊢;omega
         have e2:=rP W
         skip
         refine An ?_ (An (decide_eq_true (by omega)) (An (Be.2 (by omega)) ⟨q+1,W,by omega,⟨by rw[e2,List.length_append,List.length_singleton];omega,rfl⟩,by rw[e2,List.length_append,List.length_singleton];omega,⟨λi hi=>?_⟩⟩))
         ·rw[Bool.and_eq_true];exact⟨Nat.ble_eq_true_of_le (by omega),Lc λ_ _=>rfl⟩
         ·rw[e2];refine AcY rfl ?_ rfl i (by have:i*6+1<=(1+(rQ B x q).length+1)*6:=hi;omega);show [AV.int .i64 ((wS B x).getD q LT.none).kind,AV.bs ((wS B x).getD q LT.none).text,AV.int .i64 ((wS B x).getD q LT.none).n,AV.int .i64 ((wS B x).getD q LT.none).line,AV.int .i64 ((wS B x).getD q LT.none).Ag,AV.vec 1 M (rI ((S2.take M).map (λ(v:Int)=>v+(1+((rS B x).length:Int)))))]=_;rw[af,List.take_length,L];unfold Cl LT.row;simp only[List.length_map]
       ·rw[Cg]at h2;have ah:q=(wS B x).length:=by omega
        subst ah;have r3:rQ B x (wS B x).length=rS B (x+1):=rO O;rw[r3];exact An (Be.2 (by omega)) ⟨x+1,⟨O,by omega⟩,by omega,⟨rfl,rfl,rfl⟩,⟨rfl,⟨λi _=>Vk rfl i⟩⟩,rfl,⟨λ_ _=>rfl⟩⟩
     ·rw[Cg]at h4;have ao:x=B.length:=by omega
      subst ao;refine An ?_ ⟨by simp;omega,⟨λi hi=>?_⟩⟩
      ·rw[Bool.and_eq_true];exact⟨Lc λ_ _=>rfl,Lc λi hi=>by cases i<;>rfl⟩
      ·cases i
       ·exact⟨⟨rfl,rfl⟩,rfl,⟨rfl,rfl⟩,⟨rfl,rfl⟩,⟨rfl,rfl⟩,⟨rfl,rfl,⟨λi _=>R4 [] _ i⟩⟩,trivial⟩
       ·exact KZ [] _
 ·rw[Cg]at h0;have e0:B.length=0:=by omega
  rw[e0,oC,U0];refine⟨rfl,⟨λi hi=>?_⟩⟩;obtain rfl:i=0:=by have:i+1<=1:=hi;omega
  exact⟨rfl,rfl,rfl,rfl,rfl,rfl⟩
theorem AmS:∀(k:Int) (s:List UInt8) (n:Int) (t:TK) (q:List (List LT)),SH q->(AG (wO k s n t q) 60).call 37 [.int .i64 k,.bs s,.int .i64 n,.agg t.row,.AJ 0 q.length 1] (AU (A0 [Gg q] 0)) 1 (Cz Tryz.prog 2 0 1 (.ret (vW (⟨k,s,n,t.line,t.Ag,kS q q.length⟩::rS q q.length)) [Gg q] 0)):=Eq.mpr (by kernel_rfl) AmT
def oT (l:List AV):LT:=match l with
 | [.int _ k,.bs s,.int _ n,.int _ a,.int _ c,.vec _ m f]=>⟨k,s,n,a,c,Nk m f⟩
 |_=>LT.none
def rowOf (a:AV):List LT:=match a with
 |.vec _ n f=>(List.range n).map λi=>oT (f i)
 |_=>[]
def B6 (m:Nat) (g:Nat->AV):List (List LT):=AY ((List.range m).map λi=>rowOf (g i))
structure BM (m:Nat) (g:Nat->AV):Prop where
 ok:SH (B6 m g)
 va:∀i,i<m->VA (g i) (vW (wS (B6 m g) i))
def A3 (k:Int) (s:List UInt8) (n:Int) (t:TK) (q:List (List LT)):List LT:=⟨k,s,n,t.line,t.Ag,kS q q.length⟩::rS q q.length
def F9 (l:List AV):AV:=match l with
 |a::_=>a
 | []=>.As
structure OJ (m:Nat) (f:Nat->List AV):Prop where
 l:∀i,i<m->f i=[F9 (f i)]
def cellsIn (H:Tr Ac) (w:AV):Option (((Nat×(Nat->AV))×Nat)×Prop):=match w with
 |.sl r 0 m q=>ob (H.get r) λo=>match o with
  |.cells el c z N op=>ob (Kc c z m 0) λl=>some (((m,λi=>l.getD i .As),r),(cond (Nat.beq el 81) (cond op false (cond (Nat.beq N q) (Nat.ble m q) false)) false)=true)
  |_=>none
 |.Bw r 0 m 1=>ob (H.get r) λo=>match o with
  |.cells el c z N op=>match c,z with
   |.leaf,.rows e f=>some (((m,λi=>F9 (f i)),r),cond (Nat.beq el 81) (Nat.beq e 1) false=true/\m<=N/\OJ m f)
   |_,_=>ob (Kc c z m 0) λl=>some (((m,λi=>l.getD i .As),r),(cond (Nat.beq el 81) (Nat.ble m N) false)=true)
  |_=>none
 |.AJ r m 1=>ob (H.get r) λo=>match o with
  |.cells el c z N op=>match c,z with
   |.leaf,.rows e f=>some (((m,λi=>F9 (f i)),r),cond (Nat.beq el 81) (Nat.beq e 1) false=true/\m<=N/\OJ m f)
   |_,_=>none
  |_=>none
 |_=>none
def w6:Tr Ac->List AV->Option Ct:=λ_ args=>match args with
 | [.int .i64 k,x,.int .i64 n,.agg [.int .i64 a,.bs b,.int .i64 c,.int .i64 d,.int .i64 e],.As]=>ob (JK x) λs=>some (.A6 True (.ret (vW (A3 k s n ⟨a,b,c,d,e⟩ []))))
 |_=>none
def ZO:Da:=λH nx args=>match args with
 | [.int .i64 k,x,.int .i64 n,.agg [.int .i64 a,.bs b,.int .i64 c,.int .i64 d,.int .i64 e],w]=>ob (JK x) λs=>match w with
  |.As=>some (.ret (vW (A3 k s n ⟨a,b,c,d,e⟩ [])) [] (nx+1))
  |w=>ob (cellsIn H w) λq=>some (.A6 (Nat.blt q.1.2 nx=true/\q.2/\BM q.1.1.1 q.1.1.2) (.ret (vW (A3 k s n ⟨a,b,c,d,e⟩ (B6 q.1.1.1 q.1.1.2))) [(q.1.2,Gg (B6 q.1.1.1 q.1.1.2))] nx))
 |_=>none
def y5:Cq:=(37,ZO)::(64,AbF)::n7
def wM (ht:Cq) (Am:Db Tryz.prog ht):Ctx:=GM ht Am
def yD (k:Int) (s:List UInt8) (n:Int) (t:TK) (q:List (List LT)) (r:Nat):Ea:={X:=Unit,gl:=[],G2:=λ_=>true,ng:=0,k:=1,args:=λ_=>[.int .i64 k,.bs s,.int .i64 n,.agg t.row,.AJ 0 q.length 1],Dv:=λ_=>[Gg q],pre:=λ_=>SH q,out:=λ_=>.ret (vW (⟨k,s,n,t.line,t.Ag,kS q q.length⟩::rS q q.length)) [Gg q] 0,fz:=2,find:=λ_ _=>some ((),[r])}
theorem Ag7 (x:LT):oT x.row=x:=by unfold LT.row oT;simp only[U4]
theorem AjQ (W:List LT):rowOf (vW W)=W:=by
 unfold rowOf vW;apply List.ext_getElem
 ·simp
 ·intro i y q;simp[Bs,Ag7,List.getD_eq_getElem?_getD,List.getElem?_eq_getElem q]
theorem X8 {m:Nat} {g:Nat->AV} {q:List (List LT)} (y:m=q.length) (B:∀i,i<m->g i=vW (wS q i)):B6 m g=q:=by
 unfold B6;rw[Du];apply List.ext_getElem
 ·simp[y]
 ·intro i J E;have C:i<m:=by simpa using J
  simp only[List.getElem_map,List.getElem_range];rw[B i C,AjQ];unfold wS;rw[List.getD_eq_getElem?_getD,List.getElem?_eq_getElem E];rfl
theorem fj {m:Nat} {g:Nat->AV} {q:List (List LT)} (B:m=q.length) (y:∀i,i<m->g i=vW (wS q i)) (h:SH q):BM m g:=by have e:=X8 B y;exact⟨by rw[e];exact h,λi hi=>by rw[e,y i hi];exact Kf _⟩
theorem tT (m:Nat) (g:Nat->AV):(B6 m g).length=m:=by unfold B6;rw[Du];simp
theorem RV {x:AV} {s:List UInt8} (h:JK x=some s):VA x (.bs s):=by
 unfold JK at h;split at h
 ·injection h with h;subst h;exact Kf _
 ·injection h with h;subst h;exact AoT _ _
 ·cases h
theorem Ac1 (q:List (Nat×Nat)) (W:List LT):AR q (vW W) (vW W):=⟨rfl,rfl,⟨λi _=>KZ q _⟩⟩
theorem AoN (k:Int) (s:List UInt8) (n:Int) (t:TK) (q:List (List LT)):A3 k s n t q=Vg k s n t q:=AoO k s n t q
theorem AiV:Ci Tryz.prog 37 w6:=by
 refine ZQ (gl:=[]) (ng:=0) (λp y=>by cases y) λH args ct q=>?_;unfold w6 at q;split at q
 ·rename_i k x n a b c d e;obtain⟨s,B,q⟩:=Ae.1 q;injection q with q;subst q;refine⟨λp y=>(by cases y),_,_,rfl,λy=>⟨[.int .i64 k,.bs s,.int .i64 n,.agg (TK.row ⟨a,b,c,d,e⟩),.As],?_,?_,S0,60,rfl,AW,Bc,?_⟩⟩
  ·exact Ik (Kf _) (Ik (RV B) (Ik (Kf _) (Ik (Kf _) (Ik (Kf _) Vi))))
  ·exact⟨⟨rfl,rfl⟩,rfl,⟨rfl,rfl⟩,⟨⟨rfl,rfl⟩,rfl,⟨rfl,rfl⟩,⟨rfl,rfl⟩,⟨rfl,rfl⟩,trivial⟩,trivial,trivial⟩
  ·rw[AoN];exact AmQ k s n ⟨a,b,c,d,e⟩
 ·cases q
theorem Aei (y:List (List LT)):HA (Gg y):=λi _=>⟨⟨rfl,rfl,⟨λq _=>KZ [] _⟩⟩,trivial⟩
theorem vY (W:List LT):JS 4 (vW W):=⟨rfl,rfl,⟨λi _=>⟨⟨rfl,rfl⟩,rfl,⟨rfl,rfl⟩,⟨rfl,rfl⟩,⟨rfl,rfl⟩,⟨rfl,rfl,⟨λj _=>⟨⟨rfl,rfl⟩,trivial⟩⟩⟩,trivial⟩⟩⟩
theorem AiW (k:Int) (s:List UInt8) (n:Int) (t:TK) (y:List (List LT)) (r:Nat):AD Tryz.prog 37 (yD k s n t y r).AE:=by
 refine JZ (yD k s n t y r) (λp q=>by cases q) (λH _ p q=>by cases q) (λx=>rfl) (λx o B=>?_) (λx q=>?_) λx q=>?_
 ·rw[List.mem_singleton.1 B];rfl
 ·exact⟨vY _,rfl,λo B=>by rw[List.mem_singleton.1 B];exact Aei y⟩
 ·exact⟨(AG (wO k s n t y) 60).call,Is AW Bc 60,AmS k s n t y q⟩
theorem AjD {E:Env} {F:Nat->Option Obj} {nx:Nat} {ρ:Af} {H:Tr Ac} {w:World} (r:Rel E F nx ρ H.get w) {i:Nat} {o o':Ac} (M:H.get i=some o) (S:Hf o'=false) (h:∀b c,ρ i=some b->OR ρ b o c->OR ρ b o' c): Rel E F nx ρ (H.set i o').get w:=by
 have key:∀j x,(H.set i o').get j=some x->(j=i/\x=o')\/(j≠i/\H.get j=some x):=λj x q=>by
  rw[Tr.F6]at q;split at q
  ·rename_i e;injection q with q;exact .inl ⟨e.symm,q.symm⟩
  ·rename_i e;exact .inr ⟨λh=>e h.symm,q⟩
 have B:∀j x,(H.set i o').get j=some x->∃y,H.get j=some y:=λj x q=>by
  rcases key j x q with⟨rfl,_⟩|⟨_,h⟩
  ·exact⟨o,M⟩
  ·exact⟨x,h⟩
 refine⟨r.tape,r.os,r.output,r.fr,λj x b q hb=>?_,λj x b q hb=>?_,λj k x y b V q hy hb L e=>?_,r.new,λg l q=>?_,r.bs,r.st,λj x b q hb=>?_,r.sf⟩
 ·rcases key j x q with⟨rfl,rfl⟩|⟨_,C⟩
  ·obtain⟨c,C,U⟩:=r.ob j o b M hb;exact⟨c,C,h b c hb U⟩
  ·exact r.ob j x b C hb
 ·obtain⟨y,hy⟩:=B j x q;exact r.dj j y b hy hb
 ·obtain⟨R,K⟩:=B j x q;obtain⟨O,J⟩:=B k y hy;exact r.inj j k R O b V K J hb L e
 ·rcases key g _ q with⟨_,rfl⟩|⟨_,C⟩
  ·cases S
  ·exact r.gl g l C
 ·obtain⟨y,hy⟩:=B j x q;exact r.sd j y b hy hb
theorem PZ (q:List (List LT)) (k:Nat):cellOf .leaf (.rows 1 (EJ q)) k=some (vW (wS q k)):=by rw[FJ];show(EJ q (k/1))[k %1]? =_;rw[Nat.div_one,Nat.mod_one];rfl
theorem dC {ρ:Af} {b:CM} {c:Tr AV} {z:CB} {N m:Nat} {op:Bool} {g:Nat->AV} {x:Obj} (L:m<=N) (hc:∀k,k<m->cellOf c z k=some (g k)) (hT:BM m g) (h:OR ρ b (.cells 81 c z N op) x):OR ρ b (Gg (B6 m g)) x:=by
 cases h with
 |cells _ _ _ _ _ cs fz C0 hn K C q=>refine .cells _ _ _ _ _ cs fz C0 (by rw[tT];omega) (λh=>by cases h) C λk a B y=>?_;rw[tT]at B;rw[PZ]at y;injection y with y;subst y;obtain⟨v,J,E⟩:=q k (g k) (by omega) (hc k B);exact⟨v,J,hT.va k B ρ v E⟩
theorem Aea {H:Tr Ac} {w:AV} {m:Nat} {g:Nat->AV} {i:Nat} {p:Prop} (h:cellsIn H w=some (((m,g),i),p)) (L:p) (hT:BM m g):∃o,H.get i=some o/\ (∀ρ b c,OR ρ b o c->OR ρ b (Gg (B6 m g)) c)/\∀E F nx ρ w',Rel E F nx ρ H.get w'->∀u,VR ρ w u->VR ρ (.AJ i m 1) u:=by
 unfold cellsIn at h;split at h
 ·rename_i r K m';obtain⟨o,O,h⟩:=Ae.1 h;split at h
  ·rename_i el c z N op;obtain⟨l,Y,h⟩:=Ae.1 h;injection h with h;injection h with h S;injection h with h U;injection h with V R;subst V;subst U;subst S;subst R;obtain⟨y,q⟩:=A4 L;cases B:op with
   |true=>rw[B]at q;cases q
   |false=>
   rw[B]at q;obtain⟨q,p3⟩:=A4 (show cond (Nat.beq N m') (Nat.ble K m') false=true from q);rw[Nat.beq_eq]at y q;rw[Nat.ble_eq]at p3;subst y;subst q;subst B;obtain⟨q1,Z⟩:=Oq c z K 0 l Y;refine⟨_,O,λρ b x M=>dC p3 (λk W=>?_) hT M,λE F nx ρ w' r0 u hu=>?_⟩
   ·have C:k<l.length:=by omega
    have:=Z k l[k] (List.getElem?_eq_getElem C);rw[Nat.zero_add]at this;rw[this,List.getD_eq_getElem?_getD,List.getElem?_eq_getElem C];rfl
   ·cases hu with
    |sl _ _ _ _ b hb=>
     obtain⟨x,ad,aa⟩:=r0.ob _ _ b O hb;cases aa with
     |cells _ _ _ _ _ cs fz C0 hn B ae ab=>
     have hN:=B rfl;have:=VR.AJ (ρ:=ρ) r K 1 b hb (by decide) (by omega);rw[Nat.div_one,<-hN]at this;exact this
  ·cases h
 ·rename_i r K;obtain⟨o,O,h⟩:=Ae.1 h;split at h
  ·rename_i el c z N op;have conv:∀E F nx ρ w',Rel E F nx ρ H.get w'->∀u,VR ρ (.Bw r 0 K 1) u->VR ρ (.AJ r K 1) u:=λE F nx ρ w' r0 u hu=>by
    cases hu with
    |Bw _ _ _ _ b hb he Y=>have:=VR.AJ (ρ:=ρ) r K 1 b hb (by decide) (by omega);exact this
   split at h
   ·rename_i e f;injection h with h;injection h with h S;injection h with h U;injection h with V R;subst V;subst U;subst S;subst R;obtain⟨L,hle,J⟩:=L;obtain⟨y,q⟩:=A4 L;rw[Nat.beq_eq]at y q;subst y;subst q;refine⟨_,O,λρ b x M=>?_,conv⟩;exact dC hle (λk W=>by rw[FJ];show(f (k/1))[k %1]? =_;rw[Nat.div_one,Nat.mod_one,J.l k W];rfl) hT M
   ·obtain⟨l,Y,h⟩:=Ae.1 h;injection h with h;injection h with h S;injection h with h U;injection h with V R;subst V;subst U;subst S;subst R;obtain⟨y,q⟩:=A4 L;rw[Nat.beq_eq]at y;rw[Nat.ble_eq]at q;subst y;obtain⟨q1,Z⟩:=Oq c z K 0 l Y;refine⟨_,O,λρ b x M=>dC q (λk W=>?_) hT M,conv⟩;have C:k<l.length:=by omega
    have:=Z k l[k] (List.getElem?_eq_getElem C);rw[Nat.zero_add]at this;rw[this,List.getD_eq_getElem?_getD,List.getElem?_eq_getElem C];rfl
  ·cases h
 ·rename_i r K;obtain⟨o,O,h⟩:=Ae.1 h;split at h
  ·rename_i el c z N op;split at h
   ·rename_i e f;injection h with h;injection h with h S;injection h with h U;injection h with V R;subst V;subst U;subst S;subst R;obtain⟨L,hle,J⟩:=L;obtain⟨y,q⟩:=A4 L;rw[Nat.beq_eq]at y q;subst y;subst q;refine⟨_,O,λρ b x M=>?_,λE F nx ρ w' r u hu=>hu⟩;exact dC hle (λk W=>by rw[FJ];show(f (k/1))[k %1]? =_;rw[Nat.div_one,Nat.mod_one,J.l k W];rfl) hT M
   ·cases h
  ·cases h
 ·cases h
theorem AaJ:AD Tryz.prog 37 ZO:=by
 intro H nx args hc B;unfold ZO at B;split at B
 ·rename_i k x n a b c d e w;obtain⟨s,hs,B⟩:=Ae.1 B;split at B
  ·injection B with B;subst B;intro p v up nx' y E F ρ S r;injection y with y;injection y with M y;injection y with L y;injection y with K J;subst M;subst L;subst K;subst J;exact AiV .leaf _ (.A6 True (.ret (vW (A3 k s n ⟨a,b,c,d,e⟩ [])))) (by show ob (JK x) (λs=>some (Ct.A6 True (.ret (vW (A3 k s n ⟨a,b,c,d,e⟩ [])))))=_;rw[hs];rfl) false _ (if_pos trivial) E F ρ S nx H (λg l h=>by rw[Tr.Em]at h;cases h) r
  ·obtain⟨⟨⟨⟨m,g⟩,i⟩,q⟩,hq,B⟩:=Ae.1 B;injection B with B;subst B;intro p v up nx' y E F ρ S r;obtain⟨⟨hi,O,hT⟩,y⟩:=LY y;injection y with y;injection y with M y;injection y with L y;injection y with K J;subst M;subst L;subst K;subst J;simp only at hi O hT⊢;obtain⟨o,ho,ad,R⟩:=Aea hq O hT;have r2:=AjD r (o':=Gg (B6 m g)) ho rfl λb c _ h=>ad ρ b c h;have hm:(B6 m g).length=m:=tT m g;have g1:LO nx [i]=true:=by show(List.all [i] λj=>Nat.blt j nx)=true;simp only[List.all_cons,List.all_nil,hi,Bool.and_true]
   have g2:AH (CL [i] 0) [.int .i64 k,.bs s,.int .i64 n,.agg (TK.row ⟨a,b,c,d,e⟩),.AJ 0 (B6 m g).length 1] [.int .i64 k,.bs s,.int .i64 n,.agg (TK.row ⟨a,b,c,d,e⟩),.AJ i m 1]:=⟨⟨rfl,rfl⟩,rfl,⟨rfl,rfl⟩,⟨⟨rfl,rfl⟩,rfl,⟨rfl,rfl⟩,⟨rfl,rfl⟩,⟨rfl,rfl⟩,trivial⟩,⟨rfl,hm.symm,rfl⟩,trivial⟩;have g3:Ky (CL [i] 0) (H.set i (Gg (B6 m g))) (A0 [Gg (B6 m g)] 0):=by
    refine⟨?_,trivial⟩;show(match(H.set i (Gg (B6 m g))).get i with
     |none=>False
     |some o=>Ed [(0,i)] (Gg (B6 m g)) o)
    rw[Tr.F7];exact⟨rfl,rfl,rfl,rfl,⟨λq _=>⟨⟨rfl,rfl,⟨λ_ _=>KZ _ _⟩⟩,trivial⟩⟩⟩
   have g4:hOut (FM 0 [i] nx (.ret (vW (A3 k s n ⟨a,b,c,d,e⟩ (B6 m g))) [Gg (B6 m g)] 0))=some (false,vW (A3 k s n ⟨a,b,c,d,e⟩ (B6 m g)),[(i,Gg (B6 m g))],nx):=by show hOut (EY (nx+0) λn'=>(λU=>Cv.ret (DD (BI 0 U) 4 (vW (A3 k s n ⟨a,b,c,d,e⟩ (B6 m g)))) (U.zip ([Gg (B6 m g)].map (Cy (BI 0 U)))) n') ([i]++List.range' nx 0))=_;rw[FL];rfl
   have hh:=AiW k s n ⟨a,b,c,d,e⟩ (B6 m g) i (H.set i (Gg (B6 m g))) nx [.int .i64 k,.bs s,.int .i64 n,.agg (TK.row ⟨a,b,c,d,e⟩),.AJ i m 1] _ rfl false (vW (A3 k s n ⟨a,b,c,d,e⟩ (B6 m g))) [(i,Gg (B6 m g))] nx ((if_pos ⟨hT.ok,rfl,g1,g2,g3⟩).trans g4) E F ρ S r2;refine⟨hh.1,λvs At=>?_⟩;cases At with
   |cons _ v1 _ vs ab At=>cases At with
   |cons _ v2 _ vs aa At=>cases At with
   |cons _ v3 _ vs Z At=>cases At with
   |cons _ v4 _ vs Y At=>cases At with
   |cons _ v5 _ vs W At=>cases At with
   |nil=>
   refine CallsIn.mono (hh.2 _ (.cons _ _ _ _ ab (.cons _ _ _ _ (RV hs ρ _ aa) (.cons _ _ _ _ Z (.cons _ _ _ _ Y (.cons _ _ _ _ (R E F nx ρ S r _ W) .nil)))))) λe w' B=>?_;obtain⟨u,V,M,L,K,J⟩:=B;refine⟨u,V,M,L,K.less λj o C=>?_,J⟩;have C:(H.set i (Gg (B6 m g))).get j=some o:=C;show((H.set i (Gg (B6 m g))).set i (Gg (B6 m g))).get j=some o;rw[Tr.F6];split
   ·rename_i e;rw[Tr.F6,if_pos e]at C;exact C
   ·exact C
 ·cases B
theorem Af4:Db Tryz.prog y5:=BN AaJ (BN Aie yO)
def Al (L:List TK) (s:RS) (ws:List (List UInt8)):TK×RS:=Ei L s (ws.any (Ah L s))
def J4 (ws:List (List UInt8)):Ac:=.cells 9 .leaf (.CC (ws.map .bs)) ws.length false
def EL:List (List UInt8):=[[105,110,116],[102,110],[116,111,107],[104,97,110,100],[97,114,114]]
def Bt:List (List UInt8):=[[108,111,111,112,101,114],[99,108,97,115,115],[118,97,114],[102,110],[99,111,109,112],[101,118,101,110,116],[109,97,105,110]]
def D9:List (List UInt8):=[[111,110],[111,102,102]]
def Bf:List (List UInt8):=[[99,114,101,97,116,101],[115,116,97,114,116],[115,116,111,112],[100,101,115,116,114,111,121]]
structure Ql (ws:List (List UInt8)):Prop where
 h:ws=EL\/ws=Bt\/ws=D9\/ws=Bf
def fk (l:List AV):Option (List (List UInt8)):=List.rec (motive:=λ_=>Option (List (List UInt8))) (some []) (λa _ q=>ob (JK a) λw=>ob q λws=>some (w::ws)) l
def QK:Ea:={X:=(AV×RS)×List (List UInt8),gl:=[],G2:=λ_=>true,ng:=0,k:=2,args:=λx=>[.ptr 0 0,.sl 1 0 x.2.length x.2.length],Dv:=λx=>[Bm x.1.1 x.1.2,J4 x.2],pre:=λx=>∃L,x.1.1=vK L/\Az L x.1.2/\Ql x.2,out:=λx=>.gen (Al (kL x.1.1) x.1.2 x.2) λy=>.ret (.agg y.1.row) [Bm x.1.1 y.2,J4 x.2] 0,fz:=0,find:=λH args=>match args with
   | [p,.sl r 0 m _]=>ob (xQ H p) λq=>ob (Fa H r 0 m) λcs=>ob (fk cs) λws=>some ((q.1,ws),[q.2,r])
   |_=>none}
def AbK:Da:=QK.AE
def nc:Cq:=(62,AbK)::y5
theorem Gw {L:List TK} {s:RS} {ws:List (List UInt8)} (b:Bool) (y:TK×RS) (hb:ws.any (Ah L s)=b) (hy:y=Ei L s b):(y.1.kind=(Al L s ws).1.kind/\y.1.text=(Al L s ws).1.text/\y.1.num=(Al L s ws).1.num/\y.1.line=(Al L s ws).1.line/\y.1.Ag=(Al L s ws).1.Ag)/\((y.2.at_=(Al L s ws).2.at_/\y.2.nest=(Al L s ws).2.nest)/\y.2.err=(Al L s ws).2.err)/\y.2.Bp=(Al L s ws).2.Bp:=by
 have e:y=Al L s ws:=by rw[hy];unfold Al;rw[hb]
 subst e;exact⟨⟨rfl,rfl,rfl,rfl,rfl⟩,⟨⟨rfl,rfl⟩,rfl⟩,rfl⟩
def Jz:=[(97:UInt8),114,114]
def ID:=[(102:UInt8),110]
def Rm:=[(104:UInt8),97,110,100]
def Rh:=[(116:UInt8),111,107]
def Ri:=[(105:UInt8),110,116]
def eO:=((((True/\Ab Ri)/\Ab ID)/\Ab Rh)/\Ab Rm)
def UK (a:List TK) (b:RS):=Prod.fst (Al a b EL)
@[reducible] def hO:List TK->RS->TK×RS->Prop:=λ(L:List TK) (s:RS) (a:TK×RS)=>Aa/\(((Aa/\TK.kind a.1=TK.kind (UK L s))/\TK.text a.1=TK.text (UK L s)/\(Aa/\TK.num a.1=TK.num (UK L s))/\(Aa/\TK.line a.1=TK.line (UK L s))/\(Aa/\TK.Ag a.1=TK.Ag (UK L s))/\True)/\True)/\(Aa/\Aa/\Aa/\Aa/\(((FP L/\Aa/\RS.at_ a.2=RS.at_ (Prod.snd (Al L s EL)))/\Aa/\RS.nest a.2=RS.nest (Prod.snd (Al L s EL)))/\Aa/\RS.err a.2=RS.err (Prod.snd (Al L s EL)))/\Aa/\RS.Bp a.2=RS.Bp (Prod.snd (Al L s EL)))/\(Aa/\Aa/\Aa/\Aa/\eO/\Ab Jz)/\True
def Pp (a:List TK) (b:RS):=((∃(q:List TK),vK a=vK q/\Az q b/\(Aa->Int.NonNeg ((↑q.length:Int)-(RS.at_ b+1))))/\Aa/\Aa/\(Ay/\Aa/\True)/\Kk a b)
@[reducible] def Sp:List TK->RS->Prop:=λ(L:List TK) (s:RS)=>(Pp L s)/\∀(y:TK×RS),y=Hn L s true->hO L s y
def Pn (a:List TK) (b:RS):=((∃(q:List TK),vK a=vK q/\Az q b/\(false=true->Int.NonNeg ((↑q.length:Int)-(RS.at_ b+1))))/\Aa/\Aa/\(Ay/\Ab false/\True)/\Kk a b)
def T8 (a:List TK) (b:RS):=((∃(q:List TK),vK a=vK q/\Az q b/\Nat.le 1 (List.length ID))/\Aa/\Aa/\(Ay/\Ab ID/\True)/\CP a b)
def eE (a:List TK) (b:RS):=((∃(q:List TK),vK a=vK q/\Az q b/\Nat.le 1 (List.length Jz))/\Aa/\Aa/\(Ay/\Ab Jz/\True)/\CP a b)
theorem AlK:∀(L:List TK) (s:RS),Az L s->((∃(q:List TK),vK L=vK q/\Az q s/\Nat.le 1 (List.length Ri))/\Aa/\Aa/\(Ay/\Ab Ri/\True)/\CP L s)/\Ad (Ax (BR L s Ri)) (Sp L s) ((T8 L s)/\Ad (Ax (BR L s ID)) (Sp L s) (((∃(q:List TK),vK L=vK q/\Az q s/\Nat.le 1 (List.length Rh))/\Aa/\Aa/\(Ay/\Ab Rh/\True)/\CP L s)/\Ad (Ax (BR L s Rh)) (Sp L s) (((∃(q:List TK),vK L=vK q/\Az q s/\Nat.le 1 (List.length Rm))/\Aa/\Aa/\(Ay/\Ab Rm/\True)/\CP L s)/\Ad (Ax (BR L s Rm)) (Sp L s) ((eE L s)/\Ad (Ax (BR L s Jz)) (Sp L s) ((Pn L s)/\∀(y:TK×RS),y=Hn L s false->hO L s y)))))
:=by delta Ay BR Pn Jz CP ID T8 Rm Rh Ri eE Hn;intro L s B;simp only[A9,D1,Kk,hO,Sp,AM,CY,Jz,ID,Rm,Rh,Ri,FP,eO,UK,Ay,Pp,Hn];simp only[Dz];refine⟨⟨L,rfl,B,by decide⟩,Aj (λC=>⟨⟨L,rfl,B,λ_=>Bb C⟩,λy hy=>Gw (ws:=EL) true y (by unfold EL;simp[C]) hy⟩) λC=>?_⟩;refine⟨⟨L,rfl,B,by decide⟩,Aj (λE=>⟨⟨L,rfl,B,λ_=>Bb E⟩,λy hy=>Gw (ws:=EL) true y (by unfold EL;simp[C,E]) hy⟩) λE=>?_⟩;refine⟨⟨L,rfl,B,by decide⟩,Aj (λJ=>⟨⟨L,rfl,B,λ_=>Bb J⟩,λy hy=>Gw (ws:=EL) true y (by unfold EL;simp[C,E,J]) hy⟩) λJ=>?_⟩;refine⟨⟨L,rfl,B,by decide⟩,Aj (λK=>⟨⟨L,rfl,B,λ_=>Bb K⟩,λy hy=>Gw (ws:=EL) true y (by unfold EL;simp[C,E,J,K]) hy⟩) λK=>?_⟩;refine⟨⟨L,rfl,B,by decide⟩,Aj (λM=>⟨⟨L,rfl,B,λ_=>Bb M⟩,λy hy=>Gw (ws:=EL) true y (by unfold EL;simp[C,E,J,K,M]) hy⟩) λM=>?_⟩;exact⟨⟨L,rfl,B,λh=>by cases h⟩,λy hy=>Gw (ws:=EL) false y (by unfold EL;simp[C,E,J,K,M]) hy⟩
theorem AlJ:∀(L:List TK) (s:RS),Az L s->(AG NC 60).call 62 [.ptr 0 0,.sl 1 0 5 5] (AU (A0 [Bm (vK L) s,J4 EL] 0)) 2 (Cz Tryz.prog 0 0 2 (.ret (.agg (Al L s EL).1.row) [Bm (vK L) (Al L s EL).2,J4 EL] 0)):=Eq.mpr (by kernel_rfl) AlK
def Lw:=[(108:UInt8),111,111,112,101,114]
def dT:=((((((True/\Ab Lw)/\Ab [(99:UInt8),108,97,115,115])/\Ab [(118:UInt8),97,114])/\Ab ID)/\Ab [(99:UInt8),111,109,112])/\Ab [(101:UInt8),118,101,110,116])
def Px:=[(109:UInt8),97,105,110]
def UJ (a:List TK) (b:RS):=Prod.fst (Al a b Bt)
@[reducible] def hU:List TK->RS->TK×RS->Prop:=λ(L:List TK) (s:RS) (a:TK×RS)=>Aa/\(((Aa/\TK.kind a.1=TK.kind (UJ L s))/\TK.text a.1=TK.text (UJ L s)/\(Aa/\TK.num a.1=TK.num (UJ L s))/\(Aa/\TK.line a.1=TK.line (UJ L s))/\(Aa/\TK.Ag a.1=TK.Ag (UJ L s))/\True)/\True)/\(Aa/\Aa/\Aa/\Aa/\(((FP L/\Aa/\RS.at_ a.2=RS.at_ (Prod.snd (Al L s Bt)))/\Aa/\RS.nest a.2=RS.nest (Prod.snd (Al L s Bt)))/\Aa/\RS.err a.2=RS.err (Prod.snd (Al L s Bt)))/\Aa/\RS.Bp a.2=RS.Bp (Prod.snd (Al L s Bt)))/\(Aa/\Aa/\Aa/\Aa/\dT/\Ab Px)/\True
@[reducible] def tf:List TK->RS->Prop:=λ(L:List TK) (s:RS)=>(Pp L s)/\∀(y:TK×RS),y=Hn L s true->hU L s y
def Rj:=[(118:UInt8),97,114]
def dn:=[(101:UInt8),118,101,110,116]
def dq:=[(99:UInt8),108,97,115,115]
def dk:=[(99:UInt8),111,109,112]
def PY (a:List TK):=tf a
theorem AlM:∀(L:List TK) (s:RS),Az L s->((∃(q:List TK),vK L=vK q/\Az q s/\Nat.le 1 (List.length Lw))/\Aa/\Aa/\(Ay/\Ab Lw/\True)/\CP L s)/\Ad (Ax (BR L s Lw)) (PY L s) (((∃(q:List TK),vK L=vK q/\Az q s/\Nat.le 1 (List.length dq))/\Aa/\Aa/\(Ay/\Ab dq/\True)/\CP L s)/\Ad (Ax (BR L s dq)) (PY L s) (((∃(q:List TK),vK L=vK q/\Az q s/\Nat.le 1 (List.length Rj))/\Aa/\Aa/\(Ay/\Ab Rj/\True)/\CP L s)/\Ad (Ax (BR L s Rj)) (PY L s) ((T8 L s)/\Ad (Ax (BR L s ID)) (PY L s) (((∃(q:List TK),vK L=vK q/\Az q s/\Nat.le 1 (List.length dk))/\Aa/\Aa/\(Ay/\Ab dk/\True)/\CP L s)/\Ad (Ax (BR L s dk)) (PY L s) (((∃(q:List TK),vK L=vK q/\Az q s/\Nat.le 1 (List.length dn))/\Aa/\Aa/\(Ay/\Ab dn/\True)/\CP L s)/\Ad (Ax (BR L s dn)) (PY L s) (((∃(q:List TK),vK L=vK q/\Az q s/\Nat.le 1 (List.length Px))/\Aa/\Aa/\(Ay/\Ab Px/\True)/\CP L s)/\Ad (Ax (BR L s Px)) (PY L s) ((Pn L s)/\∀(y:TK×RS),y=Hn L s false->hU L s y)))))))
:=by delta Ay Lw BR Pn CP ID T8 Px Rj dn dq dk Hn PY;intro L s B;simp only[A9,D1,Kk,hU,tf,AM,CY,Lw,ID,dT,Px,FP,UJ,Ay,Pp,Hn];simp only[Dz];refine⟨⟨L,rfl,B,by decide⟩,Aj (λC=>⟨⟨L,rfl,B,λ_=>Bb C⟩,λy hy=>Gw (ws:=Bt) true y (by unfold Bt;simp[C]) hy⟩) λC=>?_⟩;refine⟨⟨L,rfl,B,by decide⟩,Aj (λE=>⟨⟨L,rfl,B,λ_=>Bb E⟩,λy hy=>Gw (ws:=Bt) true y (by unfold Bt;simp[C,E]) hy⟩) λE=>?_⟩;refine⟨⟨L,rfl,B,by decide⟩,Aj (λJ=>⟨⟨L,rfl,B,λ_=>Bb J⟩,λy hy=>Gw (ws:=Bt) true y (by unfold Bt;simp[C,E,J]) hy⟩) λJ=>?_⟩;refine⟨⟨L,rfl,B,by decide⟩,Aj (λK=>⟨⟨L,rfl,B,λ_=>Bb K⟩,λy hy=>Gw (ws:=Bt) true y (by unfold Bt;simp[C,E,J,K]) hy⟩) λK=>?_⟩;refine⟨⟨L,rfl,B,by decide⟩,Aj (λM=>⟨⟨L,rfl,B,λ_=>Bb M⟩,λy hy=>Gw (ws:=Bt) true y (by unfold Bt;simp[C,E,J,K,M]) hy⟩) λM=>?_⟩;refine⟨⟨L,rfl,B,by decide⟩,Aj (λO=>⟨⟨L,rfl,B,λ_=>Bb O⟩,λy hy=>Gw (ws:=Bt) true y (by unfold Bt;simp[C,E,J,K,M,O]) hy⟩) λO=>?_⟩;refine⟨⟨L,rfl,B,by decide⟩,Aj (λR=>⟨⟨L,rfl,B,λ_=>Bb R⟩,λy hy=>Gw (ws:=Bt) true y (by unfold Bt;simp[C,E,J,K,M,O,R]) hy⟩) λR=>?_⟩;exact⟨⟨L,rfl,B,λh=>by cases h⟩,λy hy=>Gw (ws:=Bt) false y (by unfold Bt;simp[C,E,J,K,M,O,R]) hy⟩
theorem AlL:∀(L:List TK) (s:RS),Az L s->(AG NC 60).call 62 [.ptr 0 0,.sl 1 0 7 7] (AU (A0 [Bm (vK L) s,J4 Bt] 0)) 2 (Cz Tryz.prog 0 0 2 (.ret (.agg (Al L s Bt).1.row) [Bm (vK L) (Al L s Bt).2,J4 Bt] 0)):=Eq.mpr (by kernel_rfl) AlM
def JD:=[(111:UInt8),102,102]
def Hl:=[(111:UInt8),110]
def UH (a:List TK) (b:RS):=Prod.fst (Al a b D9)
@[reducible] def hZ:List TK->RS->TK×RS->Prop:=λ(L:List TK) (s:RS) (a:TK×RS)=>Aa/\(((Aa/\TK.kind a.1=TK.kind (UH L s))/\TK.text a.1=TK.text (UH L s)/\(Aa/\TK.num a.1=TK.num (UH L s))/\(Aa/\TK.line a.1=TK.line (UH L s))/\(Aa/\TK.Ag a.1=TK.Ag (UH L s))/\True)/\True)/\(Aa/\Aa/\Aa/\Aa/\(((FP L/\Aa/\RS.at_ a.2=RS.at_ (Prod.snd (Al L s D9)))/\Aa/\RS.nest a.2=RS.nest (Prod.snd (Al L s D9)))/\Aa/\RS.err a.2=RS.err (Prod.snd (Al L s D9)))/\Aa/\RS.Bp a.2=RS.Bp (Prod.snd (Al L s D9)))/\(Aa/\Aa/\Aa/\Aa/\(True/\Ab Hl)/\Ab JD)/\True
@[reducible] def iA:List TK->RS->Prop:=λ(L:List TK) (s:RS)=>(Pp L s)/\∀(y:TK×RS),y=Hn L s true->hZ L s y
theorem AlQ:∀(L:List TK) (s:RS),Az L s->((∃(q:List TK),vK L=vK q/\Az q s/\Nat.le 1 (List.length Hl))/\Aa/\Aa/\(Ay/\Ab Hl/\True)/\CP L s)/\Ad (Ax (BR L s Hl)) (iA L s) (((∃(q:List TK),vK L=vK q/\Az q s/\Nat.le 1 (List.length JD))/\Aa/\Aa/\(Ay/\Ab JD/\True)/\CP L s)/\Ad (Ax (BR L s JD)) (iA L s) ((Pn L s)/\∀(y:TK×RS),y=Hn L s false->hZ L s y))
:=by delta Ay BR Pn CP JD Hl Hn;intro L s B;simp only[A9,D1,Kk,hZ,iA,AM,CY,JD,Hl,FP,UH,Ay,Pp,Hn];simp only[Dz];refine⟨⟨L,rfl,B,by decide⟩,Aj (λC=>⟨⟨L,rfl,B,λ_=>Bb C⟩,λy hy=>Gw (ws:=D9) true y (by unfold D9;simp[C]) hy⟩) λC=>?_⟩;refine⟨⟨L,rfl,B,by decide⟩,Aj (λE=>⟨⟨L,rfl,B,λ_=>Bb E⟩,λy hy=>Gw (ws:=D9) true y (by unfold D9;simp[C,E]) hy⟩) λE=>?_⟩;exact⟨⟨L,rfl,B,λh=>by cases h⟩,λy hy=>Gw (ws:=D9) false y (by unfold D9;simp[C,E]) hy⟩
theorem AlP:∀(L:List TK) (s:RS),Az L s->(AG NC 60).call 62 [.ptr 0 0,.sl 1 0 2 2] (AU (A0 [Bm (vK L) s,J4 D9] 0)) 2 (Cz Tryz.prog 0 0 2 (.ret (.agg (Al L s D9).1.row) [Bm (vK L) (Al L s D9).2,J4 D9] 0)):=Eq.mpr (by kernel_rfl) AlQ
def N4:=[(100:UInt8),101,115,116,114,111,121]
def Xi:=(((True/\Ab [(99:UInt8),114,101,97,116,101])/\Ab [(115:UInt8),116,97,114,116])/\Ab [(115:UInt8),116,111,112])
def UI (a:List TK) (b:RS):=Prod.fst (Al a b Bf)
@[reducible] def hY:List TK->RS->TK×RS->Prop:=λ(L:List TK) (s:RS) (a:TK×RS)=>Aa/\(((Aa/\TK.kind a.1=TK.kind (UI L s))/\TK.text a.1=TK.text (UI L s)/\(Aa/\TK.num a.1=TK.num (UI L s))/\(Aa/\TK.line a.1=TK.line (UI L s))/\(Aa/\TK.Ag a.1=TK.Ag (UI L s))/\True)/\True)/\(Aa/\Aa/\Aa/\Aa/\(((FP L/\Aa/\RS.at_ a.2=RS.at_ (Prod.snd (Al L s Bf)))/\Aa/\RS.nest a.2=RS.nest (Prod.snd (Al L s Bf)))/\Aa/\RS.err a.2=RS.err (Prod.snd (Al L s Bf)))/\Aa/\RS.Bp a.2=RS.Bp (Prod.snd (Al L s Bf)))/\(Aa/\Aa/\Aa/\Aa/\Xi/\Ab N4)/\True
@[reducible] def VO:List TK->RS->Prop:=λ(L:List TK) (s:RS)=>(Pp L s)/\∀(y:TK×RS),y=Hn L s true->hY L s y
def da:=[(99:UInt8),114,101,97,116,101]
def dp:=[(115:UInt8),116,97,114,116]
def di:=[(115:UInt8),116,111,112]
theorem AlO:∀(L:List TK) (s:RS),Az L s->((∃(q:List TK),vK L=vK q/\Az q s/\Nat.le 1 (List.length da))/\Aa/\Aa/\(Ay/\Ab da/\True)/\CP L s)/\Ad (Ax (BR L s da)) (VO L s) (((∃(q:List TK),vK L=vK q/\Az q s/\Nat.le 1 (List.length dp))/\Aa/\Aa/\(Ay/\Ab dp/\True)/\CP L s)/\Ad (Ax (BR L s dp)) (VO L s) (((∃(q:List TK),vK L=vK q/\Az q s/\Nat.le 1 (List.length di))/\Aa/\Aa/\(Ay/\Ab di/\True)/\CP L s)/\Ad (Ax (BR L s di)) (VO L s) (((∃(q:List TK),vK L=vK q/\Az q s/\Nat.le 1 (List.length N4))/\Aa/\Aa/\(Ay/\Ab N4/\True)/\CP L s)/\Ad (Ax (BR L s N4)) (VO L s) ((Pn L s)/\∀(y:TK×RS),y=Hn L s false->hY L s y))))
:=by delta Ay BR Pn N4 CP da dp di Hn;intro L s B;simp only[A9,D1,Kk,hY,VO,AM,CY,N4,Xi,FP,UI,Ay,Pp,Hn];simp only[Dz];refine⟨⟨L,rfl,B,by decide⟩,Aj (λC=>⟨⟨L,rfl,B,λ_=>Bb C⟩,λy hy=>Gw (ws:=Bf) true y (by unfold Bf;simp[C]) hy⟩) λC=>?_⟩;refine⟨⟨L,rfl,B,by decide⟩,Aj (λE=>⟨⟨L,rfl,B,λ_=>Bb E⟩,λy hy=>Gw (ws:=Bf) true y (by unfold Bf;simp[C,E]) hy⟩) λE=>?_⟩;refine⟨⟨L,rfl,B,by decide⟩,Aj (λJ=>⟨⟨L,rfl,B,λ_=>Bb J⟩,λy hy=>Gw (ws:=Bf) true y (by unfold Bf;simp[C,E,J]) hy⟩) λJ=>?_⟩;refine⟨⟨L,rfl,B,by decide⟩,Aj (λK=>⟨⟨L,rfl,B,λ_=>Bb K⟩,λy hy=>Gw (ws:=Bf) true y (by unfold Bf;simp[C,E,J,K]) hy⟩) λK=>?_⟩;exact⟨⟨L,rfl,B,λh=>by cases h⟩,λy hy=>Gw (ws:=Bf) false y (by unfold Bf;simp[C,E,J,K]) hy⟩
theorem AlN:∀(L:List TK) (s:RS),Az L s->(AG NC 60).call 62 [.ptr 0 0,.sl 1 0 4 4] (AU (A0 [Bm (vK L) s,J4 Bf] 0)) 2 (Cz Tryz.prog 0 0 2 (.ret (.agg (Al L s Bf).1.row) [Bm (vK L) (Al L s Bf).2,J4 Bf] 0)):=Eq.mpr (by kernel_rfl) AlO
theorem clW (ws:List (List UInt8)):HA (J4 ws):=by intro a q;obtain⟨w,_,rfl⟩:=List.mem_map.1 q;exact(rfl:w=w)
theorem Aio:AD Tryz.prog 62 AbK:=by
 refine JZ QK (λp C=>by cases C) (λH _ p C=>by cases C) (λx=>rfl) (λx o B=>?_) (λx C=>?_) λx C=>?_
 ·have B:o∈[Bm x.1.1 x.1.2,J4 x.2]:=B;rcases List.mem_cons.1 B with rfl|B
  ·rfl
  ·rw[List.mem_singleton.1 B];rfl
 ·obtain⟨⟨c,s⟩,a⟩:=x;obtain⟨L,rfl,h,_⟩:=C;refine⟨NB _,rfl,λo B=>?_⟩;rcases List.mem_cons.1 B with rfl|B
  ·exact vU L _
  ·rw[List.mem_singleton.1 B];exact clW _
 ·obtain⟨⟨c,s⟩,a⟩:=x;obtain⟨L,hc,h,⟨J⟩⟩:=C;have hc:c=vK L:=hc;subst hc;refine⟨(AG NC 60).call,Is AW Bc 60,?_⟩;have E:∀ws:List (List UInt8),Cz Tryz.prog 0 0 2 (.ret (.agg (Al L s ws).1.row) [Bm (vK L) (Al L s ws).2,J4 ws] 0)=Cz Tryz.prog QK.fz QK.ng (QK.ng+QK.k) (QK.out ((vK L,s),ws)):=λws=>by show _=Cz Tryz.prog 0 0 2 (.gen (Al (kL (vK L)) s ws) λy=>.ret (.agg y.1.row) [Bm (vK L) y.2,J4 ws] 0);rw[Dz];rfl
  have J:a=EL\/a=Bt\/a=D9\/a=Bf:=J;rcases J with rfl|rfl|rfl|rfl
  ·have q:=AlJ L s h;rw[E]at q;exact q
  ·have q:=AlL L s h;rw[E]at q;exact q
  ·have q:=AlP L s h;rw[E]at q;exact q
  ·have q:=AlN L s h;rw[E]at q;exact q
theorem y6:Db Tryz.prog nc:=BN Aio Af4
def ZE:Ctx:=wM nc y6
inductive PT where
 |mk (k:Int) (s:List UInt8) (n:Int) (l c:Int) (ks:List PT)
mutual
def flat:PT->List LT
 |.mk k s n l c ks=>A3 k s n ⟨0,[],0,l,c⟩ (Ba ks)
def Ba:List PT->List (List LT)
 | []=>[]
 |x::q=>flat x::Ba q
end
mutual
def sz:PT->Nat
 |.mk _ _ _ _ _ ks=>1+CS ks
def CS:List PT->Nat
 | []=>0
 |x::q=>sz x+CS q
end
def PT.kind:PT->Int
 |.mk k _ _ _ _ _=>k
def nd (k:Int) (s:List UInt8) (n:Int) (t:TK) (ks:List PT):PT:=.mk k s n t.line t.Ag ks
def EV:PT:=.mk 0 [] 0 0 0 []
abbrev PF:=RS->PT×RS
def Ai (s:RS):RS:={s with at_:=s.at_+1}
def down (s:RS):RS:={s with nest:=s.nest-1}
theorem NL (k:Int) (s:List UInt8) (n:Int) (t:TK) (ks:List PT):flat (nd k s n t ks)=A3 k s n t (Ba ks):=by unfold nd flat A3;rfl
theorem MN:∀ks:List PT,Ba ks=ks.map flat
 | []=>by unfold Ba;rfl
 |x::q=>by unfold Ba;rw[MN q];rfl
theorem Lb (ks:List PT):(Ba ks).length=ks.length:=by rw[MN];simp
theorem Ig:CS []=0:=by unfold CS;rfl
theorem Fl (x:PT) (q:List PT):CS (x::q)=sz x+CS q:=by conv=>lhs;unfold CS
theorem P5 (k:Int) (s:List UInt8) (n l c:Int) (ks:List PT):sz (.mk k s n l c ks)=1+CS ks:=by conv=>lhs;unfold sz
theorem Ms (k:Int) (s:List UInt8) (n:Int) (t:TK) (ks:List PT):sz (nd k s n t ks)=1+CS ks:=P5 _ _ _ _ _ _
theorem s7:∀a b:List PT,CS (a++b)=CS a+CS b
 | [],b=>by rw[Ig,List.nil_append,Nat.zero_add]
 |x::a,b=>by rw[List.cons_append,Fl,Fl,s7 a b,Nat.add_assoc]
theorem Ih:∀x:PT,1<=sz x
 |.mk _ _ _ _ _ ks=>by rw[P5];omega
theorem Kx:∀ks:List PT,ks.length<=CS ks
 | []=>Nat.zero_le _
 |x::q=>by have:=Kx q;have:=Ih x;rw[Fl,List.length_cons];omega
structure MA (N:Nat) (w:LT):Prop where
 l:w.kids.length<N
 v:∀c∈w.kids,0<=c/\c<N
theorem xS {N M:Nat} {w:LT} (h:MA N w) (q:N<=M):MA M w:=⟨by have:=h.l;omega,λc hc=>by have:=h.v c hc;omega⟩
theorem Afu {N b:Nat} {w:LT} (h:MA N w):MA (N+b) (Cl (b:Int) w):=by
 refine⟨?_,λc hc=>?_⟩
 ·show(w.kids.map (· +(b:Int))).length<_;rw[List.length_map];have:=h.l;omega
 ·obtain⟨d,hd,rfl⟩:=List.mem_map.1 (show c∈w.kids.map (· +(b:Int))from hc);have:=h.v d hd;constructor
  ·show 0<=d+(b:Int);omega
  ·show d+(b:Int)<_;omega
theorem nJ:∀(q:List (List LT)) (a:List Int×List LT),(∀W∈q,0<W.length/\∀w∈W,MA W.length w)->(∀w∈a.2,MA (1+a.2.length) w)->(∀c∈a.1,0<=c/\c<=a.2.length)-> (q.foldl Fo a).2.length=a.2.length+(q.map List.length).sum/\(q.foldl Fo a).1.length=a.1.length+q.length/\(∀w∈(q.foldl Fo a).2,MA (1+(q.foldl Fo a).2.length) w)/\∀c∈(q.foldl Fo a).1,0<=c/\c<=(q.foldl Fo a).2.length
 | [],a,_,C,B=>⟨by simp,by simp,C,B⟩
 |W::q,a,E,C,B=>by
  have y:(Fo a W).2.length=a.2.length+W.length:=by simp[Fo]
  have O:(Fo a W).1.length=a.1.length+1:=by simp[Fo]
  have hW:=E W (List.mem_cons_self ..);have S:=hW.1;obtain⟨M,L,K,J⟩:=nJ q (Fo a W) (λV R=>E V (List.mem_cons_of_mem _ R)) (λw hw=>by
   rw[y];rcases List.mem_append.1 (show w∈a.2++W.map (Cl (1+(a.2.length:Int)))from hw)with hw|hw
   ·exact xS (C w hw) (by omega)
   ·obtain⟨v,hv,rfl⟩:=List.mem_map.1 hw;have:=Afu (b:=1+a.2.length) (hW.2 v hv);rw[show((1+a.2.length:Nat):Int)=1+(a.2.length:Int) by omega]at this;exact xS this (by omega)) (λc hc=>by
   rw[y];rcases List.mem_append.1 (show c∈a.1++[1+(a.2.length:Int)]from hc)with hc|hc
   ·have:=B c hc;omega
   ·rw[List.mem_singleton.1 hc];omega)
  exact⟨by rw[List.foldl_cons,M,y,List.map_cons,List.sum_cons];omega,by rw[List.foldl_cons,L,O,List.length_cons];omega,K,J⟩
theorem oB (q:List (List LT)):kS q q.length=(FC q).1:=by unfold kS;rw[Du,List.take_length]
theorem eb (q:List (List LT)):rS q q.length=(FC q).2:=by unfold rS;rw[Du,List.take_length]
mutual
theorem NK:∀x:PT,(flat x).length=sz x/\∀w∈flat x,MA (sz x) w
 |.mk k s n l c ks=>by
  obtain⟨K,J⟩:=nE ks;obtain⟨E,C,B,y⟩:=nJ (Ba ks) ([],[]) J (λw hw=>by cases hw) (λc hc=>by cases hc);have e:flat (.mk k s n l c ks)=⟨k,s,n,l,c,(FC (Ba ks)).1⟩::(FC (Ba ks)).2:=by
   conv=>lhs;unfold flat
   unfold A3;rw[oB,eb]
  have q:(FC (Ba ks)).2.length=CS ks:=by rw[show(FC (Ba ks)).2.length=_ from E,K];simp
  rw[e,P5];refine⟨by rw[List.length_cons,q];omega,λw hw=>?_⟩;rcases List.mem_cons.1 hw with rfl|hw
  ·refine⟨?_,λc hc=>?_⟩
   ·show(FC (Ba ks)).1.length<_;rw[show(FC (Ba ks)).1.length=_ from C,Lb];have:=Kx ks;simp only[List.length_nil];omega
   ·have h:=y c hc;rw[show(List.foldl Fo ([],[]) (Ba ks))=FC (Ba ks)from rfl,q]at h;omega
  ·have h:=B w hw;rw[show(List.foldl Fo ([],[]) (Ba ks))=FC (Ba ks)from rfl,q]at h;exact h
theorem nE:∀ks:List PT,((Ba ks).map List.length).sum=CS ks/\∀W∈Ba ks,0<W.length/\∀w∈W,MA W.length w
 | []=>by unfold Ba;exact⟨by rw[Ig];rfl,λW hW=>by cases hW⟩
 |x::y=>by
  obtain⟨q,E⟩:=NK x;obtain⟨C,B⟩:=nE y;unfold Ba;refine⟨by rw[List.map_cons,List.sum_cons,q,C,Fl],λW hW=>?_⟩;rcases List.mem_cons.1 hW with rfl|hW
  ·rw[q];exact⟨Ih x,E⟩
  ·exact B W hW
end
theorem Afw {x:PT} (h:sz x<=1000000):uP (flat x):=by
 obtain⟨y,q⟩:=NK x;have key:∀i,MA (sz x) ((flat x).getD i LT.none):=λi=>by
  by_cases hi:i<(flat x).length
  ·rw[List.getD_eq_getElem?_getD,List.getElem?_eq_getElem hi];exact q _ (List.getElem_mem _)
  ·rw[List.getD_eq_getElem?_getD,List.getElem?_eq_none (by omega)];exact⟨Ih x,λc hc=>by cases hc⟩
 exact⟨by rw[y];exact Ih x,by omega,λi=>by have:=(key i).l;omega,λi c hc=>by have:=(key i).v c hc;omega⟩
theorem Z3 {ks:List PT} (h:CS ks<=1000000):SH (Ba ks):=by
 obtain⟨J,E⟩:=nE ks;obtain⟨q,O,M,L⟩:=nJ (Ba ks) ([],[]) E (λw C=>by cases C) (λc hc=>by cases hc);refine⟨λi hi=>?_,?_,?_⟩
 ·have K:i<ks.length:=by rw[<-Lb];exact hi
  have e:wS (Ba ks) i=flat ks[i]:=by unfold wS;rw[List.getD_eq_getElem?_getD,List.getElem?_eq_getElem hi];simp[MN]
  rw[e];refine Afw ?_;have:∀(l:List PT) (y:PT),y∈l->sz y<=CS l:=λl=>by
   induction l with
   |nil=>intro y hy;cases hy
   |cons z l B=>
    intro y hy;rw[Fl];rcases List.mem_cons.1 hy with rfl|hy
    ·omega
    ·have:=B y hy;omega
  have:=this ks ks[i] (List.getElem_mem _);omega
 ·show(List.foldl Fo ([],[]) (Ba ks)).2.length<=_;rw[q,J];simpa using h
 ·rw[Lb];have:=Kx ks;omega
theorem Afx (x:PT):((flat x).getD 0 LT.none).kind=x.kind:=by cases x;unfold flat A3;rfl
theorem nI:flat EV=[LT.none]:=by unfold EV flat A3;rw[show Ba []=[] by unfold Ba;rfl,oB,eb];rfl
theorem tk1 {x:PT} {g:Nat->AV} (h:sz x<=1000000) (y:g 0=vW (flat x)):BM 1 g/\B6 1 g=Ba [x]:=by
 have e:Ba [x]=[flat x]:=by rw[MN];rfl
 have q:∀i,i<1->g i=vW (wS (Ba [x]) i):=λi hi=>by rw[show i=0 by omega,y,e];rfl
 exact⟨fj (by rw[e];rfl) q (Z3 (by rw[Fl,Ig];exact h)),X8 (by rw[e];rfl) q⟩
theorem tk2 {x y:PT} {g:Nat->AV} (h:sz x+sz y<=1000000) (C:g 0=vW (flat x)) (B:g 1=vW (flat y)):BM 2 g/\B6 2 g=Ba [x,y]:=by
 have e:Ba [x,y]=[flat x,flat y]:=by rw[MN];rfl
 have q:∀i,i<2->g i=vW (wS (Ba [x,y]) i):=λi hi=>by
  rcases(show i=0\/i=1 by omega)with rfl|rfl
  ·rw[C,e];rfl
  ·rw[B,e];rfl
 exact⟨fj (by rw[e];rfl) q (Z3 (by rw[Fl,Fl,Ig];omega)),X8 (by rw[e];rfl) q⟩
theorem tk3 {x y z:PT} {g:Nat->AV} (h:sz x+(sz y+sz z)<=1000000) (E:g 0=vW (flat x)) (C:g 1=vW (flat y)) (B:g 2=vW (flat z)):BM 3 g/\B6 3 g=Ba [x,y,z]:=by
 have e:Ba [x,y,z]=[flat x,flat y,flat z]:=by rw[MN];rfl
 have q:∀i,i<3->g i=vW (wS (Ba [x,y,z]) i):=λi hi=>by
  rcases(show i=0\/i=1\/i=2 by omega)with rfl|rfl|rfl
  ·rw[E,e];rfl
  ·rw[C,e];rfl
  ·rw[B,e];rfl
 exact⟨fj (by rw[e];rfl) q (Z3 (by rw[Fl,Fl,Fl,Ig];omega)),X8 (by rw[e];rfl) q⟩
theorem nF:Ba []=[]:=by unfold Ba;rfl
end Go.Proofs.YtlmmbanfhjaioaaGreatDoor
end
end
