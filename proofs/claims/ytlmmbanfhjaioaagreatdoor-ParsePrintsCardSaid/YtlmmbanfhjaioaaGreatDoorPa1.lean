/- Laid by program out of its parts: PaA, PaB, PaC, PaD, PaE, PaF, PaG, PaH, PaI, PaK. -/
import Derived.Test.YtlmmbanfhjaioaaGreatDoorMj
import Derived.Test.YtlmmbanfhjaioaaGreatDoorMh
import Derived.KernelRfl
import Derived.Test.YtlmmbanfhjaioaaGreatDoorProg
noncomputable section
open List(getD)
set_option linter.unusedVariables false
set_option linter.unusedSimpArgs false
section
set_option maxRecDepth 100000
set_option maxHeartbeats 2000000
open Go Go.Ev
namespace Go.Proofs.YtlmmbanfhjaioaaGreatDoor
theorem Bu:Tryz.prog.follows .mixedOrders=true:=by rfl
structure TK where
 kind:Int
 text:List UInt8
 num:Int
 line:Int
 Ao:Int
abbrev Ab:=List TK
def TK.zero:TK:=⟨0,[],0,0,0⟩
def TK.row (t:TK):Aj:=[.int .i64 t.kind,.bs t.text,.int .i64 t.num,.int .i64 t.line,.int .i64 t.Ao]
def AgN (L:Ab):Nat->Aj:=λi=>(L.getD i TK.zero).row
def X5 (l:Aj):TK:=match l with
 | [.int _ k,.bs t,.int _ n,.int _ a,.int _ b]=>⟨k,t,n,a,b⟩
 |_=>TK.zero
def Ij (n:Nat) (f:Nat->Aj):Ab:=(List.range n).map λi=>X5 (f i)
def vK (L:Ab):AV:=.vec 5 L.length (AgN L)
def kL (c:AV):Ab:=match c with
 |.vec 5 n f=>Ij n f
 |_=>[]
structure RS where
 at_:Int
 nest:Int
 err:Int
 DM:Int
structure CD (L:List TK) (s:RS):Prop where
 len:L.length<=100000
 a0:0<=s.at_
 a1:s.at_<=L.length
 n0:0<=s.nest
 n1:s.nest<=1000
def Ar (L:Ab) (s:RS):TK:=if s.err≠0\/(L.length:Int)<=s.at_ then TK.zero else L.getD s.at_.toNat TK.zero
def Fl (w:Ac):Int:=if 97<=((w.getD 0 0).toNat:Int)/\((w.getD 0 0).toNat:Int)<=122 then 2 else 4
def As (L:Ab) (s:RS) (w:Ac):Bool:=decide ((Ar L s).kind=Fl w)&&decide ((Ar L s).text=w)
def CK (s:RS) (e:Int):RS:=if s.err=0 then{s with err:=e,DM:=s.at_}else s
def NL (ht:DX) (AA:Gi Tryz.prog ht):Ctx:={P:=Tryz.prog,tb:=[],ht:=ht,AA:=AA,lp:=λ_ _=>none,cut:=λ_ _=>none}
def Mx (a:AV):Option Ac:=match a with
 |.bs t=>some t
 |.str l n=>some (BB l n)
 |_=>none
theorem gC (t:TK):L0 4 (.agg t.row):=by
 intro a q;unfold TK.row at q;simp only[CS,List.not_mem_nil,or_false]at q;rcases q with rfl|rfl|rfl|rfl|rfl
 ·exact⟨rfl,rfl⟩
 ·exact rfl
 ·exact⟨rfl,rfl⟩
 ·exact⟨rfl,rfl⟩
 ·exact⟨rfl,rfl⟩
theorem Abq (b:Bool):L0 4 (.bool b):=(rfl:b=b)
def LD (l:Aj):Option Unit:=match l with
 | []=>some ()
 |_=>none
def Z3 (l:Aj):Option Int:=match l with
 | [.int .i64 z]=>some z
 |_=>none
def Bh (a:Nat):=Nat.le (Nat.succ a)
def wq (a:Ab):=(True/\Aa/\Af a.length/\AH λ(q:Nat)=>Bh q a.length->(Aa/\Af (TK.kind (getD a q TK.zero)))/\Af (TK.text (getD a q TK.zero))/\(Aa/\Af (TK.num (getD a q TK.zero)))/\(Aa/\Af (TK.line (getD a q TK.zero)))/\(Aa/\Af (TK.Ao (getD a q TK.zero)))/\True)
@[reducible] def AlN:Ab->RS->Int->Prop:=λ(L:Ab) (s:RS) (e:Int)=>((wq L)/\Aa/\RS.at_ s=RS.at_ (CK s e))/\Aa/\RS.nest s=RS.nest (CK s e)
def Q6 (a:RS):=Af (RS.DM a)
def wx (a:Ab) (b:RS):=((((wq a)/\Aa/\Af (RS.at_ b))/\Aa/\Af (RS.nest b))/\Aa/\Af (RS.err b))
@[reducible] def zl:Ab->RS->Prop:=λ(L:Ab) (s:RS)=>(Aa/\Aa/\Aa/\Aa/\(wx L s)/\Aa/\Q6 s)/\True
@[reducible] def AlM:Ab->RS->Prop:=λ(L:Ab) (s:RS)=>Aa/\(((Aa/\(0:Int)=TK.kind (Ar L s))/\[]=TK.text (Ar L s)/\(Aa/\(0:Int)=TK.num (Ar L s))/\(Aa/\(0:Int)=TK.line (Ar L s))/\(Aa/\(0:Int)=TK.Ao (Ar L s))/\True)/\True)/\zl L s
def FI (L:Ab) (s:RS) (b:Bool):TK×RS:=if b=true then(Ar L s,{s with at_:=s.at_+1})else(TK.zero,CK s 4)
def BE (L:Ab) (s:RS) (w:Ac):TK×RS:=FI L s (As L s w)
def A6 (L:Ab) (s:RS) (k:Int):TK×RS:=FI L s (decide ((Ar L s).kind=k))
def GA (L:Ab) (s:RS) (w:Ac):RS:={(if As L s w=true/\64<=s.nest then CK s 5 else s)with nest:=s.nest+1}
def B7 (L:Ab) (s:RS) (w:Ac):TK×RS:=BE L (GA L s w) w
theorem P1 {L:Ab} {s:RS} (h:(Ar L s).kind≠0):s.at_<L.length:=by
 unfold Ar at h;split at h
 ·exact absurd rfl h
 ·rename_i g;omega
theorem Dz {L:Ab} {s:RS} {w:Ac} (h:As L s w=true):s.at_<L.length:=by unfold As at h;rw[C5,BV]at h;refine P1 λe=>?_;rw[e]at h;have:=h.1;unfold Fl at this;split at this<;>omega
theorem nY {L:Ab} {s:RS} (h:CD L s) (e:Int):CD L (CK s e):=by
 unfold CK;split
 ·exact⟨h.len,h.a0,h.a1,h.n0,h.n1⟩
 ·exact h
theorem AkP {L:Ab} {s:RS} {b:Bool} (h:CD L s) (q:b=true->s.at_<L.length):CD L (FI L s b).2:=by
 unfold FI;split
 ·rename_i e;have:=q e;exact⟨h.len,by have:=h.a0;show 0<=s.at_+1;omega,show s.at_+1<=L.length by omega,h.n0,h.n1⟩
 ·exact nY h 4
theorem AbB {L:Ab} {s:RS} {w:Ac} (h:CD L s) (hn:s.nest<=900):CD L (GA L s w):=by
 have y:=h.n0;have q:=nY h 5;unfold GA;split
 ·exact⟨q.len,q.a0,q.a1,show 0<=s.nest+1 by omega,show s.nest+1<=1000 by omega⟩
 ·exact⟨h.len,h.a0,h.a1,show 0<=s.nest+1 by omega,show s.nest+1<=1000 by omega⟩
@[reducible] def zm:Ab->RS->Prop:=λ(L:Ab) (s:RS)=>Aa/\Aa/\Aa/\(wx L s)/\Aa/\Q6 s
@[reducible] def n7:Ab->RS->Prop:=λ(L:Ab) (s:RS)=>(Aa/\zm L s)/\True
@[reducible] def AlO:Ab->RS->Ac->Prop:=λ(L:Ab) (s:RS) (w:Ac)=>Aa/\(false=AW (As L s w)/\True)/\n7 L s
@[reducible] def AlP:Ab->RS->Ac->TK->Prop:=λ(L:Ab) (s:RS) (w:Ac) (a:TK)=>Aa/\(decide (TK.text a=w)=AW (As L s w)/\True)/\n7 L s
def Nh (a:Ab) (b:Nat):=getD a b TK.zero
@[reducible] def Xd:Ab->Prop:=λ(L:Ab)=>True/\Aa/\Af L.length/\AH λ(i:Nat)=>Bh i L.length->(Aa/\Af (TK.kind (Nh L i)))/\Af (TK.text (Nh L i))/\(Aa/\Af (TK.num (Nh L i)))/\(Aa/\Af (TK.line (Nh L i)))/\(Aa/\Af (TK.Ao (Nh L i)))/\True
def Zu (a:Ab) (b:RS):=(((Xd a/\Aa/\Af (RS.at_ b))/\Aa/\Af (RS.nest b))/\Aa/\Af (RS.err b))
def Wf (a:Ab) (b:RS):=(Aa/\Aa/\Aa/\(Zu a b)/\Aa/\Af (RS.DM b))
@[reducible] def RB:Ab->RS->Prop:=λ(L:Ab) (s:RS)=>(Wf L s)/\True
structure LT where
 kind:Int
 text:List UInt8
 n:Int
 line:Int
 Ao:Int
 kids:List Int
abbrev Ak:=List LT
def LT.none:LT:=⟨0,[],0,0,0,[]⟩
def rI (L:AP):Nat->Aj:=λi=>[.int .i64 (L.getD i 0)]
def LT.row (x:LT):Aj:=[.int .i64 x.kind,.bs x.text,.int .i64 x.n,.int .i64 x.line,.int .i64 x.Ao,.vec 1 x.kids.length (rI x.kids)]
def A8 (L:Ak):Nat->Aj:=λi=>(L.getD i LT.none).row
def vW (L:Ak):AV:=.vec 6 L.length (A8 L)
def Q4 (a:Ab):=Xd a
@[reducible] def n8:Ab->RS->Prop:=λ(L:Ab) (s:RS)=>Q4 L/\Aa/\Af (RS.at_ s)
@[reducible] def AlQ:Ab->RS->Prop:=λ(L:Ab) (s:RS)=>(Aa/\Aa/\Aa/\((n8 L s/\Aa/\Af (RS.nest s))/\Aa/\Af (RS.err s))/\Aa/\Q6 s)/\True
@[reducible] def zn:Ab->RS->Ac->TK×RS->Prop:=λ(L:Ab) (s:RS) (w:Ac) (a:TK×RS)=>Aa/\(((Aa/\TK.kind a.1=TK.kind (Prod.fst (B7 L s w)))/\TK.text a.1=TK.text (Prod.fst (B7 L s w))/\(Aa/\TK.num a.1=TK.num (Prod.fst (B7 L s w)))/\(Aa/\TK.line a.1=TK.line (Prod.fst (B7 L s w)))/\(Aa/\TK.Ao a.1=TK.Ao (Prod.fst (B7 L s w)))/\True)/\True)/\(Aa/\Aa/\Aa/\Aa/\(((Q4 L/\Aa/\RS.at_ a.2=RS.at_ (Prod.snd (B7 L s w)))/\Aa/\RS.nest a.2=RS.nest (Prod.snd (B7 L s w)))/\Aa/\RS.err a.2=RS.err (Prod.snd (B7 L s w)))/\Aa/\RS.DM a.2=RS.DM (Prod.snd (B7 L s w)))/\True
def Cx:=(Af (some 0)/\Aa)
def KT (a:RS):=(RS.nest a+1)
@[reducible] def AlR:Ab->RS->Ac->Prop:=λ(L:Ab) (s:RS) (w:Ac)=>((∃(q:Ab),vK L=vK q/\CD q (RS.mk (RS.at_ s) (KT s) (RS.err s) (RS.DM s))/\Nat.le 1 w.length)/\Aa/\Aa/\(Cx/\w=w/\True)/\(Aa/\Aa/\Aa/\((n8 L s/\Aa/\Af (KT s))/\Aa/\Af (RS.err s))/\Aa/\Q6 s)/\True)/\∀(y:TK×RS),y=BE (kL (vK L)) (RS.mk (RS.at_ s) (KT s) (RS.err s) (RS.DM s)) w->zn L s w y
def Cm (b:Int) (w:LT):LT:={w with kids:=w.kids.map (· +b)}
def FJ (a:AP×Ak) (W:Ak):AP×Ak:=(a.1++[1+(a.2.length:Int)],a.2++W.map (Cm (1+(a.2.length:Int))))
def GU (q:List Ak):AP×Ak:=q.foldl FJ ([],[])
structure WOK (W:List LT):Prop where
 pos:0<W.length
 len:W.length<=1000000
 kl:∀i,(W.getD i LT.none).kids.length<=1000000
 kv:∀i,∀c∈(W.getD i LT.none).kids,0<=c/\c<=1000000
def Adl (k:Int) (s:Ac) (n:Int) (t:TK) (K m:Nat) (R:Ak):Nat->Aj:=λi=>cond (Nat.beq i 0) [.int .i64 k,.bs s,.int .i64 n,.int .i64 t.line,.int .i64 t.Ao,.AY K m 1] (A8 R (i-1))
def Ic (f:Nat->Aj) (n:Nat):Ae:=.cells 39 .leaf (.rows 6 f) (n*6) true
def tw (K:AP):Ae:=.cells 3 .leaf (.rows 1 (rI K)) K.length true
def yU (o:Option AV):Nat:=match o with
 |some (.AY r _ _)=>r
 |some (.sl r _ _ _)=>r
 |some (.BF r _ _ _)=>r
 |_=>0
def AdR (o:Option Aj):Nat:=match o with
 |some [_,_,_,_,_,.AY k _ _]=>k
 |some [_,_,_,_,_,.sl k _ _ _]=>k
 |some [_,_,_,_,_,.BF k _ _ _]=>k
 |_=>0
def AdP (s:St) (p q:Nat):List (Nat×Ae):=List.rec (motive:=λ_=>List (Nat×Ae)) [] (λt _ y=>cond (cond (Nat.beq t p) true (Nat.beq t q)) y (Option.rec (motive:=λ_=>List (Nat×Ae)) y (λv=>(t,v)::y) (s.H.get t))) (List.range s.nx)
def AdQ (s:St) (l:List Nat):List (Nat×AV):=List.rec (motive:=λ_=>List (Nat×AV)) [] (λt _ q=>Option.rec (motive:=λ_=>List (Nat×AV)) q (λv=>(t,v)::q) (s.T.get t)) l
def KM (l:Aj):Int:=match l with
 | [.int _ z]=>z
 |_=>0
def Np (n:Nat) (f:Nat->Aj):AP:=(List.range n).map λi=>KM (f i)
def VK (o:Option Aj):AP:=match o with
 |some [_,_,_,_,_,.vec _ n f]=>Np n f
 |_=>[]
theorem YA {α:Type} {d:α} {l m:List α} {i:Nat} (h:i<l.length):(l++m).getD i d=l.getD i d:=by simp[B2,List.getElem?_append_left h]
theorem Ac4 {α:Type} {d:α} {l:List α} {t:α}:(l++[t]).getD l.length d=t:=by simp[B2]
theorem cg (q:List (Nat×Nat)) (S:AP) (i:Nat):Ba q (rI S i) (rI S i):=⟨⟨rfl,rfl⟩,trivial⟩
theorem OD (q:List (Nat×Nat)) (x:LT):Ba q x.row x.row:=⟨⟨rfl,rfl⟩,rfl,⟨rfl,rfl⟩,⟨rfl,rfl⟩,⟨rfl,rfl⟩,⟨rfl,rfl,⟨λi _=>cg q _ i⟩⟩,trivial⟩
theorem Z4 (S:AP):Np S.length (rI S)=S:=by
 apply List.ext_getElem
 ·simp[Np]
 ·intro i y q;simp[Np,rI,KM,B2,CC q]
theorem RM {n i:Nat} {f g:Nat->Aj} {r:Aj} (B:i<n->f i=r) (y:¬i<n->g (i-n)=r):DQ n f g i=r:=by
 unfold DQ;by_cases h:i<n
 ·rw[show Nat.blt i n=true by simpa[Co]using h,cond_true,B h]
 ·rw[show Nat.blt i n=false by exact LQ.2 λq=>h (by simpa[Co]using q),cond_false,y h]
def Wd (a:TK):=((((True/\Aa/\Af (TK.kind a))/\Af (TK.text a))/\Aa/\Af (TK.num a))/\Aa/\Af (TK.line a))
@[reducible] def zo:TK->Prop:=λ(t:TK)=>Aa/\Aa/\Aa/\Aa/\(Wd t)/\Aa/\Af (TK.Ao t)
def Di (a:Ak) (b:Nat):=getD a (Int.toNat (↑b:Int)) LT.none
def Nd (a:Ak) (b:Nat):=[AV.int .i64 (LT.kind (Di a b)),AV.bs (LT.text (Di a b)),AV.int .i64 (LT.n (Di a b)),AV.int .i64 (LT.line (Di a b)),AV.int .i64 (LT.Ao (Di a b)),AV.vec 1 (List.length (LT.kids (Di a b))) (rI (LT.kids (Di a b)))]
@[reducible] def AlS:Ak->Nat->Nat×AP->Prop:=λ(W:Ak) (a:Nat) (q:Nat×AP)=>q.2=VK (some (Nd W a))/\Nat.le q.1 q.2.length
def ID (a:Ak):=getD a 0 LT.none
@[reducible] def AlT:Ak->Nat×AP->Prop:=λ(W:Ak) (a:Nat×AP)=>a.2=VK (some [AV.int .i64 (LT.kind (ID W)),AV.bs (LT.text (ID W)),AV.int .i64 (LT.n (ID W)),AV.int .i64 (LT.line (ID W)),AV.int .i64 (LT.Ao (ID W)),AV.vec 1 (List.length (LT.kids (ID W))) (rI (LT.kids (ID W)))])/\Nat.le a.1 a.2.length
def CG (a:Ak) (b:Nat):=getD a b LT.none
def Me (a:Ak) (b:Nat):=(Aa/\Af (List.length (LT.kids (CG a b)))/\AH λ(q:Nat)=>Bh q (List.length (LT.kids (CG a b)))->(Aa/\Af (getD (LT.kids (CG a b)) q (0:Int)))/\True)
def HM (a:Ak) (b:Nat):=LT.kind (CG a b)
def Mo (a:Ak) (b:Nat):=(Aa/\Af (LT.line (CG a b)))
def Mm (a:Ak) (b:Nat):=(Aa/\Af (LT.Ao (CG a b)))
@[reducible] def dL:Ak->Prop:=λ(W:Ak)=>Aa/\Aa/\Aa/\Aa/\True/\Aa/\Af W.length/\AH λ(i:Nat)=>Bh i W.length->(Aa/\Af (HM W i))/\Af (LT.text (CG W i))/\(Aa/\Af (LT.n (CG W i)))/\(Mo W i)/\(Mm W i)/\(Me W i)/\True
@[reducible] def AlU:Ak->Prop:=λ(W:Ak)=>dL W/\True
def Hb:=(Af (some 1)/\Aa)
def HJ (a:Nat):=(Aa/\Af (↑a:Int))
def Ps:=(Aa/\Af (0:Int))
def TN:=(Aa/\Af (1:Int))
@[reducible] def AlV:Ak->Nat->Prop:=λ(W:Ak) (a:Nat)=>(Af (some 0)/\0=0/\1=1/\1=1)/\Hb/\(Af (some 12)/\Af (1+List.length ([]++List.map (Cm (1:Int)) (List.take a W)))/\Aa)/\Ps/\TN/\(HJ a)/\(Af (some 14)/\Aa)/\(some 13=some (12+1)/\1=1/\Aa)/\True
def QZ (a:TK):=zo a
@[reducible] def AlW:TK->Ak->Prop:=λ(t:TK) (W:Ak)=>dL W/\QZ t/\(Aa/\True)/\(Aa/\True)/\(Aa/\True)/\(Aa/\True)/\True
def Zs (a:Ak) (b:Nat):=(Aa/\Aa/\Aa/\Aa/\(((((True/\Aa/\Af (LT.kind (Di a b)))/\Af (LT.text (Di a b)))/\Aa/\Af (LT.n (Di a b)))/\Aa/\Af (LT.line (Di a b)))/\Aa/\Af (LT.Ao (Di a b)))/\Aa/\Af (List.length (LT.kids (Di a b)))/\AH λ(q:Nat)=>Bh q (List.length (LT.kids (Di a b)))->(Aa/\Af (getD (LT.kids (Di a b)) q (0:Int)))/\True)
def C1 (a:Nat):=Nat.le (Nat.succ (a*1))
@[reducible] def AlX:Ak->Nat->Prop:=λ(W:Ak) (a:Nat)=>(Aa/\Aa/\Aa/\Aa/\1=1/\AH λ(i:Nat)=>C1 i 1->(Aa/\Af (getD [(1:Int)] i (0:Int)))/\True)/\(Zs W a)/\True
def wv (a:Int) (b:Ac) (c:Int) (d:TK):=(Aa/\Aa/\Aa/\Aa/\(((((True/\Aa/\a=a)/\b=b)/\Aa/\c=c)/\Aa/\Af (TK.line d))/\Aa/\Af (TK.Ao d))/\Af (some 4)/\0=0/\1=1/\Aa)
def xA:=(Aa/\Aa/\Aa/\Aa/\True/\Aa/\Af (1:Int))
@[reducible] def AlY:Int->Ac->Int->TK->Ak->Prop:=λ(k:Int) (s:Ac) (n:Int) (t:TK) (W:Ak)=>dL W/\QZ t/\(wv k s n t)/\(Aa/\True)/\xA/\(Aa/\Aa/\Aa/\Aa/\(((((True/\Aa/\Af (LT.kind (ID W)))/\Af (LT.text (ID W)))/\Aa/\Af (LT.n (ID W)))/\Aa/\Af (LT.line (ID W)))/\Aa/\Af (LT.Ao (ID W)))/\Aa/\Af (List.length (LT.kids (ID W)))/\AH λ(i:Nat)=>Bh i (List.length (LT.kids (ID W)))->(Aa/\Af (getD (LT.kids (ID W)) i (0:Int)))/\True)/\True
def kS (q:List Ak) (i:Nat):AP:=AU (GU (q.take i)).1
def rS (q:List Ak) (i:Nat):Ak:=AU (GU (q.take i)).2
def wS (q:List Ak) (i:Nat):Ak:=q.getD i []
def Wt (q:List Ak) (i:Nat):Aj:=[vW (wS q i)]
def rQ (y:List Ak) (i q:Nat):Ak:=rS y i++((wS y i).take q).map (Cm (1+((rS y i).length:Int)))
def OL (o:Option AV):Nat:=match o with
 |some (.int _ z)=>z.toNat
 |_=>0
def Adk (s:St) (id:Nat):Option Aj:=match s.H.get id with
 |some (.cells _ _ (.rows _ f) _ _)=>some (f 0)
 |some (.cells _ _ (.Dw _) _ _)=>GB s.H id 0 6
 |_=>none
def jc (o:Option AV):Bool:=match o with
 |some (.sl _ _ _ _)=>true
 |_=>false
structure AaO (Ws:List (List LT)):Prop where
 all:∀i,i<Ws.length->WOK (wS Ws i)
 len:(GU Ws).2.length<=1000000
 num:Ws.length<=1000000
def TO (k:Int) (s0:Ac) (n:Int) (t:TK) (q:List Ak):CX:={X:=Nat,T:=λs _ i=>(11,.AY s.nx (1+(rS q i).length) 6)::(12,.int .i64 i)::(42,.AY (s.nx+1) (kS q i).length 1)::AdQ s [4,8],H:=λs n0 i=>(s.nx,Ic (Adl k s0 n t (s.nx+1) (kS q i).length (rS q i)) (1+(rS q i).length))::(s.nx+1,tw (kS q i))::AdP s (yU (s.T.get 11)) (AdR (Adk s (yU (s.T.get 11)))),nx:=λs _=>s.nx+2,I:=λ_ i=>i<=q.length/\1<=i,m:=λi=>q.length-i}
theorem AdI (q:List Ak):kS q 0=[]:=by unfold kS;rw[Dr];rfl
theorem lr (q:List Ak):rS q 0=[]:=by unfold rS;rw[Dr];rfl
theorem zH {q:List Ak} {i:Nat} (h:i<q.length):GU (q.take (i+1))=FJ (GU (q.take i)) (wS q i):=by unfold GU wS;rw[List.take_succ_eq_append_getElem h,List.foldl_append,B2,CC h];rfl
theorem uH {q:List Ak} {i:Nat} (h:i<q.length):kS q (i+1)=kS q i++[1+((rS q i).length:Int)]:=by unfold kS rS;rw[Dr,Dr,Dr,zH h];rfl
theorem Agx {q:List Ak} {i:Nat} (h:i<q.length):rS q (i+1)=rS q i++(wS q i).map (Cm (1+((rS q i).length:Int))):=by unfold rS;rw[Dr,Dr,zH h];rfl
theorem jf {q:List Ak}:∀ {i:Nat},i<=q.length->(kS q i).length=i
 |0,_=>by rw[AdI];rfl
 |i+1,h=>by rw[uH h,AK,List.length_singleton,jf (by omega)]
theorem zG (a:AP×Ak):∀l:List Ak,a.2.length<=(l.foldl FJ a).2.length
 | []=>AM _
 |W::l=>G3 (by simp[FJ]) (zG (FJ a W) l)
theorem Agw (q:List Ak) (i:Nat):(rS q i).length<=(GU q).2.length:=by
 unfold rS;rw[Dr];have h:=zG (GU (q.take i)) (q.drop i);have e:(q.drop i).foldl FJ (GU (q.take i))=GU q:=by unfold GU;rw[<-List.foldl_append,List.take_append_drop]
 rw[e]at h;exact h
def KS (a:Nat):=some (AV.int .i64 (↑a:Int))
def Tv (a:List Ak) (b:Nat):=List.length (kS a (OL (KS b)+1))
@[reducible] def zp:List Ak->Nat->Prop:=λ(q:List Ak) (a:Nat)=>some 20=some (19+1)/\Af (Tv q a)/\Aa
@[reducible] def zu:List Ak->Nat->Prop:=λ(q:List Ak) (a:Nat)=>some 12=some (11+1)/\Af (Tv q a)/\Aa
def BX:=AV.int .i64 (0:Int)
def Wp:=OL (some (BX))
@[reducible] def zw:List Ak->Prop:=λ(q:List Ak)=>some 13=some (12+1)/\Af (List.length (kS q (Wp+1)))/\Aa
def Tu (a:List Ak):=(Af (some 0)/\Af a.length/\Aa)
@[reducible] def Amd:List Ak->Prop:=λ(q:List Ak)=>(Tu q)/\Hb/\Ps/\TN/\True
@[reducible] def Ame:List Ak->Nat->Nat->Prop:=λ(y:List Ak) (a q:Nat)=>1+List.length (rQ y (OL (KS a)) q)+1<=9223372036854775807/\(1+List.length (rQ y (OL (KS a)) q)+1)*72<=140737488355328
def lg (a:List Ak) (b:Nat):=(Aa/\Af (Int.ofNat (1+List.length (rS a b))))
@[reducible] def Amf:List Ak->Nat->Prop:=λ(q:List Ak) (a:Nat)=>(Tu q)/\Hb/\(HJ a)/\(lg q a)/\True
@[reducible] def Amg:List Ak->Nat->Nat->Prop:=λ(q:List Ak) (a y:Nat)=>Aa/\Aa/\Aa/\Aa/\Tv q a=List.length (kS q y)/\AH λ(i:Nat)=>C1 i (Tv q a)->(Aa/\getD (kS q (OL (KS a)+1)) i (0:Int)=getD (kS q y) i (0:Int))/\True
def Jx (a:List Ak):=getD (wS a 0) 0 LT.none
@[reducible] def Amh:List Ak->Nat×AP->Prop:=λ(q:List Ak) (a:Nat×AP)=>a.2=VK (some [AV.int .i64 (LT.kind (Jx q)),AV.bs (LT.text (Jx q)),AV.int .i64 (LT.n (Jx q)),AV.int .i64 (LT.line (Jx q)),AV.int .i64 (LT.Ao (Jx q)),AV.vec 1 (List.length (LT.kids (Jx q))) (rI (LT.kids (Jx q)))])/\Nat.le a.1 a.2.length
def ES (a:Nat):=Int.toNat (↑a:Int)
def JC (a:List Ak) (b:Nat):=getD (wS a 0) (ES b) LT.none
@[reducible] def Ami:List Ak->Nat->Nat×AP->Prop:=λ(q:List Ak) (a:Nat) (y:Nat×AP)=>y.2=VK (some [AV.int .i64 (LT.kind (JC q a)),AV.bs (LT.text (JC q a)),AV.int .i64 (LT.n (JC q a)),AV.int .i64 (LT.line (JC q a)),AV.int .i64 (LT.Ao (JC q a)),AV.vec 1 (List.length (LT.kids (JC q a))) (rI (LT.kids (JC q a)))])/\Nat.le y.1 y.2.length
def JB (a:List Ak) (b:Nat) (c:Nat):=getD (wS a (ES b)) (ES c) LT.none
@[reducible] def AlZ:List Ak->Nat->Nat->Nat×AP->Prop:=λ(y:List Ak) (a q:Nat) (B:Nat×AP)=>B.2=VK (some [AV.int .i64 (LT.kind (JB y a q)),AV.bs (LT.text (JB y a q)),AV.int .i64 (LT.n (JB y a q)),AV.int .i64 (LT.line (JB y a q)),AV.int .i64 (LT.Ao (JB y a q)),AV.vec 1 (List.length (LT.kids (JB y a q))) (rI (LT.kids (JB y a q)))])/\Nat.le B.1 B.2.length
@[reducible] def zq:List Ak->Nat->Prop:=λ(q:List Ak) (a:Nat)=>Aa/\Aa/\Aa/\Aa/\Af (Tv q a)/\AH λ(i:Nat)=>C1 i (Tv q a)->(Aa/\Af (getD (kS q (OL (KS a)+1)) i (0:Int)))/\True
@[reducible] def zr:List Ak->Prop:=λ(q:List Ak)=>Aa/\Aa/\Aa/\Aa/\Af (List.length (kS q (Wp+1)))/\AH λ(i:Nat)=>C1 i (List.length (kS q (Wp+1)))->(Aa/\Af (getD (kS q (Wp+1)) i (0:Int)))/\True
@[reducible] def Al0:List Ak->Prop:=λ(q:List Ak)=>(Tu q)/\Hb/\(Af (some 2)/\0=0/\1=1/\1=1)/\Ps/\TN/\Ps/\(Af (some 6)/\Aa)/\(Af (some 4)/\0=0/\1=1/\Aa)/\True
def Pr (a:List Ak) (b:Nat) (c:Nat):=getD (wS a b) c LT.none
@[reducible] def zt:List Ak->Prop:=λ(y:List Ak)=>Aa/\Aa/\Aa/\Aa/\Af y.length/\AH λ(i:Nat)=>C1 i y.length->(Aa/\Af (List.length (wS y i))/\AH λ(q:Nat)=>Bh q (List.length (wS y i))->(Aa/\Af (LT.kind (Pr y i q)))/\Af (LT.text (Pr y i q))/\(Aa/\Af (LT.n (Pr y i q)))/\(Aa/\Af (LT.line (Pr y i q)))/\(Aa/\Af (LT.Ao (Pr y i q)))/\(Aa/\Af (List.length (LT.kids (Pr y i q)))/\AH λ(B:Nat)=>Bh B (List.length (LT.kids (Pr y i q)))->(Aa/\Af (getD (LT.kids (Pr y i q)) B (0:Int)))/\True)/\True)/\True
def Uf (a:List Ak):=zt a
@[reducible] def Al1:List Ak->Prop:=λ(q:List Ak)=>Uf q/\True
@[reducible] def Al2:List Ak->Nat->Prop:=λ(q:List Ak) (a:Nat)=>(Tu q)/\Hb/\(Af (some 12)/\Af (1+List.length (rQ q (Wp) a))/\Aa)/\Ps/\TN/\(HJ a)/\(Af (some 14)/\Aa)/\zw q/\True
@[reducible] def Al3:List Ak->Nat->Nat->Prop:=λ(y:List Ak) (a q:Nat)=>(Tu y)/\Hb/\(Af (some 19)/\Af (1+List.length (rQ y (OL (KS a)) q))/\Aa)/\(HJ a)/\(lg y a)/\(HJ q)/\(Af (some 21)/\Aa)/\zp y a/\True
@[reducible] def Al4:List Ak->Nat->Nat->Prop:=λ(y:List Ak) (a q:Nat)=>(Tu y)/\Hb/\(Af (some 11)/\Af (1+List.length (rQ y (OL (KS a)) q))/\Aa)/\(HJ a)/\(lg y a)/\(HJ q)/\(Af (some 13)/\Aa)/\zu y a/\True
@[reducible] def Al5:TK->List Ak->Prop:=λ(t:TK) (q:List Ak)=>Uf q/\QZ t/\(Aa/\True)/\True
@[reducible] def Al6:TK->List Ak->Prop:=λ(t:TK) (q:List Ak)=>Uf q/\QZ t/\(Aa/\True)/\(Aa/\True)/\True
@[reducible] def Al7:TK->List Ak->Prop:=λ(t:TK) (q:List Ak)=>Uf q/\QZ t/\(Aa/\True)/\(Aa/\True)/\(Aa/\True)/\(Aa/\True)/\True
@[reducible] def Al8:TK->List Ak->Prop:=λ(t:TK) (q:List Ak)=>Uf q/\QZ t/\(Aa/\True)/\(Aa/\True)/\(Aa/\True)/\(Aa/\True)/\(Aa/\True)/\True
@[reducible] def Al9:List Ak->Nat->Nat->Prop:=λ(y:List Ak) (a q:Nat)=>zq y a/\(Aa/\Aa/\Aa/\Aa/\(((((True/\Aa/\Af (LT.kind (JB y a q)))/\Af (LT.text (JB y a q)))/\Aa/\Af (LT.n (JB y a q)))/\Aa/\Af (LT.line (JB y a q)))/\Aa/\Af (LT.Ao (JB y a q)))/\Aa/\Af (List.length (LT.kids (JB y a q)))/\AH λ(i:Nat)=>Bh i (List.length (LT.kids (JB y a q)))->(Aa/\Af (getD (LT.kids (JB y a q)) i (0:Int)))/\True)/\True
@[reducible] def Ama:List Ak->Nat->Prop:=λ(q:List Ak) (a:Nat)=>zr q/\(Aa/\Aa/\Aa/\Aa/\(((((True/\Aa/\Af (LT.kind (JC q a)))/\Af (LT.text (JC q a)))/\Aa/\Af (LT.n (JC q a)))/\Aa/\Af (LT.line (JC q a)))/\Aa/\Af (LT.Ao (JC q a)))/\Aa/\Af (List.length (LT.kids (JC q a)))/\AH λ(i:Nat)=>Bh i (List.length (LT.kids (JC q a)))->(Aa/\Af (getD (LT.kids (JC q a)) i (0:Int)))/\True)/\True
@[reducible] def Amb:Int->Ac->Int->TK->List Ak->Prop:=λ(k:Int) (s:Ac) (n:Int) (t:TK) (q:List Ak)=>Uf q/\QZ t/\(wv k s n t)/\(Aa/\True)/\xA/\(Aa/\Aa/\Aa/\Aa/\(((((True/\Aa/\Af (LT.kind (Jx q)))/\Af (LT.text (Jx q)))/\Aa/\Af (LT.n (Jx q)))/\Aa/\Af (LT.line (Jx q)))/\Aa/\Af (LT.Ao (Jx q)))/\Aa/\Af (List.length (LT.kids (Jx q)))/\AH λ(i:Nat)=>Bh i (List.length (LT.kids (Jx q)))->(Aa/\Af (getD (LT.kids (Jx q)) i (0:Int)))/\True)/\True
def Mh (a:Int) (b:Ac) (c:Int) (d:TK) (e:List Ak):=(LT.mk a b c (TK.line d) (TK.Ao d) (kS e e.length)::rS e e.length)
def Tq:=Alm (λ(q:Aj)=>Prop)
def Wi:=Aln (λ(q:AV)=>Prop)
def Wj (a:IntKind):=Nat.beq 3 (j9 a)
@[reducible] def Amc:Int->Ac->Int->TK->List Ak->Nat->AV->Aj->Prop:=λ(k:Int) (s:Ac) (n:Int) (t:TK) (B:List Ak) (a:Nat) (J:AV) (E:Aj)=>(Wi J (λ(C:IntKind) (q:Int)=>Wj C=true/\q=LT.kind (getD (Mh k s n t B) a LT.none)) λ(x:AV)=>False)/\Tq E (λ(y:AV) (m:Aj)=>(Alo (λ(y:AV)=>Prop) y (λ(L:Ac)=>L=LT.text (getD (Mh k s n t B) a LT.none)) (λ(m q:Nat)=>BB m q=LT.text (getD (Mh k s n t B) a LT.none)) λ(x:AV)=>False)/\Tq m (λ(y:AV) (m:Aj)=>(Wi y (λ(C:IntKind) (q:Int)=>Wj C=true/\q=LT.n (getD (Mh k s n t B) a LT.none)) λ(x:AV)=>False)/\Tq m (λ(y:AV) (m:Aj)=>(Wi y (λ(C:IntKind) (q:Int)=>Wj C=true/\q=LT.line (getD (Mh k s n t B) a LT.none)) λ(x:AV)=>False)/\Tq m (λ(y:AV) (m:Aj)=>(Wi y (λ(C:IntKind) (q:Int)=>Wj C=true/\q=LT.Ao (getD (Mh k s n t B) a LT.none)) λ(x:AV)=>False)/\Tq m (λ(y:AV) (m:Aj)=>(Alp (λ(y:AV)=>Prop) y (λ(O K:Nat) (M:Nat->Aj)=>Nat.beq 1 O=true/\K=List.length (LT.kids (getD (Mh k s n t B) a LT.none))/\AH λ(i:Nat)=>i<K->Tq (M i) (λ(y:AV) (m:Aj)=>(Wi y (λ(C:IntKind) (q:Int)=>Wj C=true/\q=getD (LT.kids (getD (Mh k s n t B) a LT.none)) i (0:Int)) λ(x:AV)=>False)/\zW (λ(l:Aj)=>Prop) m (λ(_:Unit)=>True) λ(x:Aj)=>False) λ(_:Unit)=>False) (λ(l:Ac)=>Aa/\l.length=List.length (LT.kids (getD (Mh k s n t B) a LT.none))/\AH λ(i:Nat)=>i<l.length->(false=true/\(↑(UInt8.toNat (getD l i (0:UInt8))):Int)=getD (LT.kids (getD (Mh k s n t B) a LT.none)) i (0:Int))/\True) (λ(_:Unit)=>List.length (LT.kids (getD (Mh k s n t B) a LT.none))=0) λ(x:AV)=>False)/\zW (λ(l:Aj)=>Prop) m (λ(_:Unit)=>True) λ(x:Aj)=>False) λ(_:Unit)=>False) λ(_:Unit)=>False) λ(_:Unit)=>False) λ(_:Unit)=>False) λ(_:Unit)=>False
def Aex (l:Aj):LT:=match l with
 | [.int _ k,.bs s,.int _ n,.int _ a,.int _ c,.vec _ m f]=>⟨k,s,n,a,c,Np m f⟩
 |_=>LT.none
def rowOf (a:AV):Ak:=match a with
 |.vec _ n f=>(List.range n).map λi=>Aex (f i)
 |_=>[]
def WX (m:Nat) (g:Nat->AV):List Ak:=AU ((List.range m).map λi=>rowOf (g i))
structure TwK (m:Nat) (g:Nat->AV):Prop where
 ok:AaO (WX m g)
 va:∀i,i<m->VA (g i) (vW (wS (WX m g) i))
def Nu (k:Int) (s:Ac) (n:Int) (t:TK) (q:List Ak):Ak:=⟨k,s,n,t.line,t.Ao,kS q q.length⟩::rS q q.length
def jX (l:Aj):AV:=match l with
 |a::_=>a
 | []=>.Ay
structure Aar (m:Nat) (f:Nat->List AV):Prop where
 l:∀i,i<m->f i=[jX (f i)]
theorem WJ {x:AV} {s:Ac} (h:Mx x=some s):VA x (.bs s):=by
 unfold Mx at h;split at h
 ·injection h with h;subst h;exact PH _
 ·injection h with h;subst h;exact Alh _ _
 ·cases h
theorem Rb (q:List Ak) (k:Nat):cellOf .leaf (.rows 1 (Wt q)) k=some (vW (wS q k)):=by rw[Gz];show(Wt q (k/1))[k %1]? =_;rw[Nat.div_one,Nat.mod_one];rfl
def Aq (L:Ab) (s:RS) (ws:List Ac):TK×RS:=FI L s (ws.any (As L s))
def LO:List Ac:=[[105,110,116],[102,110],[116,111,107],[104,97,110,100],[97,114,114]]
def CV:List Ac:=[[108,111,111,112,101,114],[99,108,97,115,115],[118,97,114],[102,110],[99,111,109,112],[101,118,101,110,116],[109,97,105,110]]
def LP:List Ac:=[[111,110],[111,102,102]]
def B1:List Ac:=[[99,114,101,97,116,101],[115,116,97,114,116],[115,116,111,112],[100,101,115,116,114,111,121]]
def nK (l:Aj):Option (List Ac):=List.rec (motive:=λ_=>Option (List Ac)) (some []) (λa _ q=>ob (Mx a) λw=>ob q λws=>some (w::ws)) l
def Pj:=[(97:UInt8),114,114]
def Wg:=[(102:UInt8),110]
def Wn (a:Ab) (b:RS):=Prod.fst (Aq a b LO)
@[reducible] def zx:Ab->RS->TK×RS->Prop:=λ(L:Ab) (s:RS) (a:TK×RS)=>Aa/\(((Aa/\TK.kind a.1=TK.kind (Wn L s))/\TK.text a.1=TK.text (Wn L s)/\(Aa/\TK.num a.1=TK.num (Wn L s))/\(Aa/\TK.line a.1=TK.line (Wn L s))/\(Aa/\TK.Ao a.1=TK.Ao (Wn L s))/\True)/\True)/\(Aa/\Aa/\Aa/\Aa/\(((Q4 L/\Aa/\RS.at_ a.2=RS.at_ (Prod.snd (Aq L s LO)))/\Aa/\RS.nest a.2=RS.nest (Prod.snd (Aq L s LO)))/\Aa/\RS.err a.2=RS.err (Prod.snd (Aq L s LO)))/\Aa/\RS.DM a.2=RS.DM (Prod.snd (Aq L s LO)))/\(Aa/\Aa/\Aa/\Aa/\((((True/\Af [(105:UInt8),110,116])/\Af Wg)/\Af [(116:UInt8),111,107])/\Af [(104:UInt8),97,110,100])/\Af Pj)/\True
def ZC (a:Ab) (b:RS):=((∃(q:Ab),vK a=vK q/\CD q b/\(Aa->Int.NonNeg ((↑q.length:Int)-(RS.at_ b+1))))/\Aa/\Aa/\(Cx/\Aa/\True)/\RB a b)
@[reducible] def Amj:Ab->RS->Prop:=λ(L:Ab) (s:RS)=>(ZC L s)/\∀(y:TK×RS),y=FI (kL (vK L)) s true->zx L s y
def Tm:=[(108:UInt8),111,111,112,101,114]
def ZO:=[(118:UInt8),97,114]
def Wm (a:Ab) (b:RS):=Prod.fst (Aq a b CV)
@[reducible] def zy:Ab->RS->TK×RS->Prop:=λ(L:Ab) (s:RS) (a:TK×RS)=>Aa/\(((Aa/\TK.kind a.1=TK.kind (Wm L s))/\TK.text a.1=TK.text (Wm L s)/\(Aa/\TK.num a.1=TK.num (Wm L s))/\(Aa/\TK.line a.1=TK.line (Wm L s))/\(Aa/\TK.Ao a.1=TK.Ao (Wm L s))/\True)/\True)/\(Aa/\Aa/\Aa/\Aa/\(((Q4 L/\Aa/\RS.at_ a.2=RS.at_ (Prod.snd (Aq L s CV)))/\Aa/\RS.nest a.2=RS.nest (Prod.snd (Aq L s CV)))/\Aa/\RS.err a.2=RS.err (Prod.snd (Aq L s CV)))/\Aa/\RS.DM a.2=RS.DM (Prod.snd (Aq L s CV)))/\(Aa/\Aa/\Aa/\Aa/\((((((True/\Af Tm)/\Af [(99:UInt8),108,97,115,115])/\Af ZO)/\Af Wg)/\Af [(99:UInt8),111,109,112])/\Af [(101:UInt8),118,101,110,116])/\Af [(109:UInt8),97,105,110])/\True
@[reducible] def Amk:Ab->RS->Prop:=λ(L:Ab) (s:RS)=>(ZC L s)/\∀(y:TK×RS),y=FI (kL (vK L)) s true->zy L s y
def TT:=[(111:UInt8),110]
def ZN:=[(111:UInt8),102,102]
def Wk (a:Ab) (b:RS):=Prod.fst (Aq a b LP)
@[reducible] def Aaa:Ab->RS->TK×RS->Prop:=λ(L:Ab) (s:RS) (a:TK×RS)=>Aa/\(((Aa/\TK.kind a.1=TK.kind (Wk L s))/\TK.text a.1=TK.text (Wk L s)/\(Aa/\TK.num a.1=TK.num (Wk L s))/\(Aa/\TK.line a.1=TK.line (Wk L s))/\(Aa/\TK.Ao a.1=TK.Ao (Wk L s))/\True)/\True)/\(Aa/\Aa/\Aa/\Aa/\(((Q4 L/\Aa/\RS.at_ a.2=RS.at_ (Prod.snd (Aq L s LP)))/\Aa/\RS.nest a.2=RS.nest (Prod.snd (Aq L s LP)))/\Aa/\RS.err a.2=RS.err (Prod.snd (Aq L s LP)))/\Aa/\RS.DM a.2=RS.DM (Prod.snd (Aq L s LP)))/\(Aa/\Aa/\Aa/\Aa/\(True/\Af TT)/\Af ZN)/\True
@[reducible] def Amm:Ab->RS->Prop:=λ(L:Ab) (s:RS)=>(ZC L s)/\∀(y:TK×RS),y=FI (kL (vK L)) s true->Aaa L s y
def Wl (a:Ab) (b:RS):=Prod.fst (Aq a b B1)
@[reducible] def zz:Ab->RS->TK×RS->Prop:=λ(L:Ab) (s:RS) (a:TK×RS)=>Aa/\(((Aa/\TK.kind a.1=TK.kind (Wl L s))/\TK.text a.1=TK.text (Wl L s)/\(Aa/\TK.num a.1=TK.num (Wl L s))/\(Aa/\TK.line a.1=TK.line (Wl L s))/\(Aa/\TK.Ao a.1=TK.Ao (Wl L s))/\True)/\True)/\(Aa/\Aa/\Aa/\Aa/\(((Q4 L/\Aa/\RS.at_ a.2=RS.at_ (Prod.snd (Aq L s B1)))/\Aa/\RS.nest a.2=RS.nest (Prod.snd (Aq L s B1)))/\Aa/\RS.err a.2=RS.err (Prod.snd (Aq L s B1)))/\Aa/\RS.DM a.2=RS.DM (Prod.snd (Aq L s B1)))/\(Aa/\Aa/\Aa/\Aa/\(((True/\Af [(99:UInt8),114,101,97,116,101])/\Af [(115:UInt8),116,97,114,116])/\Af [(115:UInt8),116,111,112])/\Af [(100:UInt8),101,115,116,114,111,121])/\True
@[reducible] def Aml:Ab->RS->Prop:=λ(L:Ab) (s:RS)=>(ZC L s)/\∀(y:TK×RS),y=FI (kL (vK L)) s true->zz L s y
inductive PT where
 |mk (k:Int) (s:List UInt8) (n:Int) (l c:Int) (ks:List PT)
abbrev Av:=List PT
mutual
def flat:PT->Ak
 |.mk k s n l c ks=>Nu k s n ⟨0,[],0,l,c⟩ (DY ks)
def DY:Av->List Ak
 | []=>[]
 |x::q=>flat x::DY q
end
mutual
def sz:PT->Nat
 |.mk _ _ _ _ _ ks=>1+BG ks
def BG:Av->Nat
 | []=>0
 |x::q=>sz x+BG q
end
def PT.kind:PT->Int
 |.mk k _ _ _ _ _=>k
def nd (k:Int) (s:Ac) (n:Int) (t:TK) (ks:Av):PT:=.mk k s n t.line t.Ao ks
def Dm:PT:=.mk 0 [] 0 0 0 []
abbrev PF:=RS->PT×RS
def Au (s:RS):RS:={s with at_:=s.at_+1}
def down (s:RS):RS:={s with nest:=s.nest-1}
theorem jD:∀ks:Av,DY ks=ks.map flat
 | []=>by unfold DY;rfl
 |x::q=>by unfold DY;rw[jD q];rfl
theorem se (ks:Av):(DY ks).length=ks.length:=by rw[jD];simp
theorem Hf:BG []=0:=by unfold BG;rfl
theorem Cc (x:PT) (q:Av):BG (x::q)=sz x+BG q:=by conv=>lhs;unfold BG
theorem Im (k:Int) (s:Ac) (n l c:Int) (ks:Av):sz (.mk k s n l c ks)=1+BG ks:=by conv=>lhs;unfold sz
theorem My (k:Int) (s:Ac) (n:Int) (t:TK) (ks:Av):sz (nd k s n t ks)=1+BG ks:=Im _ _ _ _ _ _
theorem mo:∀a b:Av,BG (a++b)=BG a+BG b
 | [],b=>by rw[Hf,Ei,Nat.zero_add]
 |x::a,b=>by rw[List.cons_append,Cc,Cc,mo a b,Fy]
theorem F9:∀x:PT,1<=sz x
 |.mk _ _ _ _ _ ks=>by rw[Im];omega
theorem N7:∀ks:Av,ks.length<=BG ks
 | []=>CL _
 |x::q=>by have:=N7 q;have:=F9 x;rw[Cc,AE];omega
structure ND (N:Nat) (w:LT):Prop where
 l:w.kids.length<N
 v:∀c∈w.kids,0<=c/\c<N
theorem s9 {N M:Nat} {w:LT} (h:ND N w) (q:N<=M):ND M w:=⟨by have:=h.l;omega,λc hc=>by have:=h.v c hc;omega⟩
theorem AcR {N b:Nat} {w:LT} (h:ND N w):ND (N+b) (Cm (b:Int) w):=by
 refine⟨?_,λc hc=>?_⟩
 ·show(w.kids.map (· +(b:Int))).length<_;rw[FL];have:=h.l;omega
 ·obtain⟨d,hd,rfl⟩:=List.mem_map.1 (show c∈w.kids.map (· +(b:Int))from hc);have:=h.v d hd;constructor
  ·show 0<=d+(b:Int);omega
  ·show d+(b:Int)<_;omega
theorem sj:∀(q:List Ak) (a:AP×Ak),(∀W∈q,0<W.length/\∀w∈W,ND W.length w)->(∀w∈a.2,ND (1+a.2.length) w)->(∀c∈a.1,0<=c/\c<=a.2.length)-> (q.foldl FJ a).2.length=a.2.length+(q.map List.length).sum/\(q.foldl FJ a).1.length=a.1.length+q.length/\(∀w∈(q.foldl FJ a).2,ND (1+(q.foldl FJ a).2.length) w)/\∀c∈(q.foldl FJ a).1,0<=c/\c<=(q.foldl FJ a).2.length
 | [],a,_,C,B=>⟨by simp,by simp,C,B⟩
 |W::q,a,E,C,B=>by
  have y:(FJ a W).2.length=a.2.length+W.length:=by simp[FJ]
  have O:(FJ a W).1.length=a.1.length+1:=by simp[FJ]
  have hW:=E W (BN ..);have S:=hW.1;obtain⟨M,L,K,J⟩:=sj q (FJ a W) (λV R=>E V (Ca _ R)) (λw hw=>by
   rw[y];rcases List.mem_append.1 (show w∈a.2++W.map (Cm (1+(a.2.length:Int)))from hw)with hw|hw
   ·exact s9 (C w hw) (by omega)
   ·obtain⟨v,hv,rfl⟩:=List.mem_map.1 hw;have:=AcR (b:=1+a.2.length) (hW.2 v hv);rw[show((1+a.2.length:Nat):Int)=1+(a.2.length:Int) by omega]at this;exact s9 this (by omega)) (λc hc=>by
   rw[y];rcases List.mem_append.1 (show c∈a.1++[1+(a.2.length:Int)]from hc)with hc|hc
   ·have:=B c hc;omega
   ·rw[DE.1 hc];omega)
  exact⟨by rw[List.foldl_cons,M,y,List.map_cons,List.sum_cons];omega,by rw[List.foldl_cons,L,O,AE];omega,K,J⟩
theorem uG (q:List Ak):kS q q.length=(GU q).1:=by unfold kS;rw[Dr,List.take_length]
theorem lq (q:List Ak):rS q q.length=(GU q).2:=by unfold rS;rw[Dr,List.take_length]
mutual
theorem I0:∀x:PT,(flat x).length=sz x/\∀w∈flat x,ND (sz x) w
 |.mk k s n l c ks=>by
  obtain⟨K,J⟩:=sc ks;obtain⟨E,C,B,y⟩:=sj (DY ks) ([],[]) J (λw hw=>by cases hw) (λc hc=>by cases hc);have e:flat (.mk k s n l c ks)=⟨k,s,n,l,c,(GU (DY ks)).1⟩::(GU (DY ks)).2:=by
   conv=>lhs;unfold flat
   unfold Nu;rw[uG,lq]
  have q:(GU (DY ks)).2.length=BG ks:=by rw[show(GU (DY ks)).2.length=_ from E,K];simp
  rw[e,Im];refine⟨by rw[AE,q];omega,λw hw=>?_⟩;rcases CS.1 hw with rfl|hw
  ·refine⟨?_,λc hc=>?_⟩
   ·show(GU (DY ks)).1.length<_;rw[show(GU (DY ks)).1.length=_ from C,se];have:=N7 ks;simp only[List.length_nil];omega
   ·have h:=y c hc;rw[show(List.foldl FJ ([],[]) (DY ks))=GU (DY ks)from rfl,q]at h;omega
  ·have h:=B w hw;rw[show(List.foldl FJ ([],[]) (DY ks))=GU (DY ks)from rfl,q]at h;exact h
theorem sc:∀ks:Av,((DY ks).map List.length).sum=BG ks/\∀W∈DY ks,0<W.length/\∀w∈W,ND W.length w
 | []=>by unfold DY;exact⟨by rw[Hf];rfl,λW hW=>by cases hW⟩
 |x::y=>by
  obtain⟨q,E⟩:=I0 x;obtain⟨C,B⟩:=sc y;unfold DY;refine⟨by rw[List.map_cons,List.sum_cons,q,C,Cc],λW hW=>?_⟩;rcases CS.1 hW with rfl|hW
  ·rw[q];exact⟨F9 x,E⟩
  ·exact B W hW
end
theorem AcT:DY []=[]:=by unfold DY;rfl
end Go.Proofs.YtlmmbanfhjaioaaGreatDoor
end
end
