/- Laid by program out of its parts: PaA, PaB, PaC, PaD, PaE, PaF, PaG, PaH, PaI, PaK. -/
import Derived.Test.YtlmmbanfhjaioaaDoorMj
import Derived.Test.YtlmmbanfhjaioaaDoorMh
import Derived.KernelRfl
import Derived.Test.YtlmmbanfhjaioaaDoorProg
set_option linter.unusedVariables false
set_option linter.unusedSimpArgs false
section
set_option maxRecDepth 100000
set_option maxHeartbeats 2000000
open Go Go.Ev
namespace Go.Proofs.YtlmmbanfhjaioaaDoor
theorem fol:Tryd.prog.follows .mixedOrders=true:=by rfl
structure TK where
 kind:Int
 text:List UInt8
 num:Int
 line:Int
 col:Int
def TK.zero:TK:=⟨0,[],0,0,0⟩
def TK.row (t:TK):List AV:=[.int .i64 t.kind,.bs t.text,.int .i64 t.num,.int .i64 t.line,.int .i64 t.col]
def rowK (L:List TK):Nat→List AV:=fun i=>(L.getD i TK.zero).row
def dTK (l:List AV):TK:=match l with
 | [.int _ k,.bs t,.int _ n,.int _ a,.int _ b]=>⟨k,t,n,a,b⟩
 | _=>TK.zero
def rowKs (n:Nat) (f:Nat→List AV):List TK:=(List.range n).map fun i=>dTK (f i)
def vK (L:List TK):AV:=.vec 5 L.length (rowK L)
def kL (c:AV):List TK:=match c with
 | .vec 5 n f=>rowKs n f
 | _=>[]
structure RS where
 at_:Int
 nest:Int
 err:Int
 whr:Int
structure RSOK (L:List TK) (s:RS):Prop where
 len:L.length≤100000
 a0:0≤s.at_
 a1:s.at_≤L.length
 n0:0≤s.nest
 n1:s.nest≤1000
def ahd (L:List TK) (s:RS):TK:=if s.err≠0∨(L.length:Int)≤s.at_ then TK.zero else L.getD s.at_.toNat TK.zero
def kindS (w:List UInt8):Int:=if 97≤((w.getD 0 0).toNat:Int)∧((w.getD 0 0).toNat:Int)≤122 then 2 else 4
def isS (L:List TK) (s:RS) (w:List UInt8):Bool:=decide ((ahd L s).kind=kindS w) && decide ((ahd L s).text=w)
def wrongR (s:RS) (e:Int):RS:=if s.err=0 then { s with err:=e,whr:=s.at_ } else s
noncomputable def cxP (ht:HTbl) (hok:HtOK Tryd.prog ht):Ctx:={ P:=Tryd.prog,tb:=[],ht:=ht,hok:=hok,lp:=fun _ _=>none,cut:=fun _ _=>none }
noncomputable def strW (a:AV):Option (List UInt8):=match a with
 | .bs t=>some t
 | .str l n=>some (bytesL l n)
 | _=>none
theorem clTok (t:TK):clF 4 (.agg t.row):=by
 intro a ha
 unfold TK.row at ha
 simp only [List.mem_cons,List.not_mem_nil,or_false] at ha
 rcases ha with rfl | rfl | rfl | rfl | rfl
 ·exact ⟨rfl,rfl⟩
 ·exact rfl
 ·exact ⟨rfl,rfl⟩
 ·exact ⟨rfl,rfl⟩
 ·exact ⟨rfl,rfl⟩
theorem clBool (b:Bool):clF 4 (.bool b):=(rfl:b=b)
def rd0 (l:List AV):Option Unit:=match l with
 | []=>some ()
 | _=>none
def rdI (l:List AV):Option Int:=match l with
 | [.int .i64 z]=>some z
 | _=>none
end Go.Proofs.YtlmmbanfhjaioaaDoor
end
section
set_option maxRecDepth 100000
set_option maxHeartbeats 2000000
open Go Go.Ev
namespace Go.Proofs.YtlmmbanfhjaioaaDoor
def takeR (L:List TK) (s:RS) (b:Bool):TK×RS:=if b=true then (ahd L s,{ s with at_:=s.at_ + 1 }) else (TK.zero,wrongR s 4)
def signR (L:List TK) (s:RS) (w:List UInt8):TK×RS:=takeR L s (isS L s w)
def kindR (L:List TK) (s:RS) (k:Int):TK×RS:=takeR L s (decide ((ahd L s).kind=k))
def deepR (L:List TK) (s:RS) (w:List UInt8):RS:={ (if isS L s w=true∧64≤s.nest then wrongR s 5 else s) with nest:=s.nest + 1 }
def openR (L:List TK) (s:RS) (w:List UInt8):TK×RS:=signR L (deepR L s w) w
theorem JG {L:List TK} {s:RS} (h:(ahd L s).kind≠0):s.at_ < L.length:=by
 unfold ahd at h
 split at h
 ·exact absurd rfl h
 ·rename_i g;omega
theorem Zl {L:List TK} {s:RS} {w:List UInt8} (h:isS L s w=true):s.at_ < L.length:=by
 unfold isS at h
 rw [Bool.and_eq_true,decide_eq_true_eq] at h
 refine JG fun e=>?_
 rw [e] at h
 have:=h.1
 unfold kindS at this
 split at this <;> omega
theorem Zbn {L:List TK} {s:RS} (h:RSOK L s) (e:Int):RSOK L (wrongR s e):=by
 unfold wrongR
 split
 ·exact ⟨h.len,h.a0,h.a1,h.n0,h.n1⟩
 ·exact h
theorem take_ok {L:List TK} {s:RS} {b:Bool} (h:RSOK L s) (hb:b=true→s.at_ < L.length):RSOK L (takeR L s b).2:=by
 unfold takeR
 split
 ·rename_i e
  have:=hb e
  exact ⟨h.len,by have:=h.a0;show 0≤s.at_ + 1;omega,show s.at_ + 1≤L.length by omega,h.n0,h.n1⟩
 ·exact Zbn h 4
theorem deep_ok {L:List TK} {s:RS} {w:List UInt8} (h:RSOK L s) (hn:s.nest≤900):RSOK L (deepR L s w):=by
 have h0:=h.n0
 have hw:=Zbn h 5
 unfold deepR
 split
 ·exact ⟨hw.len,hw.a0,hw.a1,show 0≤s.nest + 1 by omega,show s.nest + 1≤1000 by omega⟩
 ·exact ⟨h.len,h.a0,h.a1,show 0≤s.nest + 1 by omega,show s.nest + 1≤1000 by omega⟩
end Go.Proofs.YtlmmbanfhjaioaaDoor
end
section
set_option maxRecDepth 100000
set_option maxHeartbeats 2000000
open Go Go.Ev
namespace Go.Proofs.YtlmmbanfhjaioaaDoor
structure LT where
 kind:Int
 text:List UInt8
 n:Int
 line:Int
 col:Int
 kids:List Int
def LT.none:LT:=⟨0,[],0,0,0,[]⟩
def rI (L:List Int):Nat→List AV:=fun i=>[.int .i64 (L.getD i 0)]
def LT.row (x:LT):List AV:=[.int .i64 x.kind,.bs x.text,.int .i64 x.n,.int .i64 x.line,.int .i64 x.col,.vec 1 x.kids.length (rI x.kids)]
def rowT (L:List LT):Nat→List AV:=fun i=>(L.getD i LT.none).row
def vW (L:List LT):AV:=.vec 6 L.length (rowT L)
end Go.Proofs.YtlmmbanfhjaioaaDoor
end
section
set_option maxRecDepth 100000
set_option maxHeartbeats 2000000
open Go Go.Ev
namespace Go.Proofs.YtlmmbanfhjaioaaDoor
def shiftT (b:Int) (w:LT):LT:={ w with kids:=w.kids.map (· + b) }
def twAcc (a:List Int×List LT) (W:List LT):List Int×List LT:=(a.1 ++ [1 + (a.2.length:Int)],a.2 ++ W.map (shiftT (1 + (a.2.length:Int))))
def twFold (Ws:List (List LT)):List Int×List LT:=Ws.foldl twAcc ([],[])
def headR (k:Int) (s:List UInt8) (n:Int) (t:TK) (K m:Nat) (R:List LT):Nat→List AV:=fun i=>cond (Nat.beq i 0) [.int .i64 k,.bs s,.int .i64 n,.int .i64 t.line,.int .i64 t.col,.slg K m 1] (rowT R (i - 1))
def outO (f:Nat→List AV) (n:Nat):AObj:=.cells 63 .leaf (.rows 6 f) (n * 6) true
def intO (K:List Int):AObj:=.cells 3 .leaf (.rows 1 (rI K)) K.length true
def slId (o:Option AV):Nat:=match o with
 | some (.slg r _ _)=>r
 | some (.sl r _ _ _)=>r
 | some (.slo r _ _ _)=>r
 | _=>0
def kidId (o:Option (List AV)):Nat:=match o with
 | some [_,_,_,_,_,.slg k _ _]=>k
 | some [_,_,_,_,_,.sl k _ _ _]=>k
 | some [_,_,_,_,_,.slo k _ _ _]=>k
 | _=>0
noncomputable def keepB2 (s:St) (p q:Nat):List (Nat×AObj):=List.rec (motive:=fun _=>List (Nat×AObj)) [] (fun t _ ih=>cond (cond (Nat.beq t p) true (Nat.beq t q)) ih (Option.rec (motive:=fun _=>List (Nat×AObj)) ih (fun v=>(t,v) :: ih) (s.H.get t))) (List.range s.nx)
noncomputable def keepS (s:St) (l:List Nat):List (Nat×AV):=List.rec (motive:=fun _=>List (Nat×AV)) [] (fun t _ ih=>Option.rec (motive:=fun _=>List (Nat×AV)) ih (fun v=>(t,v) :: ih) (s.T.get t)) l
def oneI (l:List AV):Int:=match l with
 | [.int _ z]=>z
 | _=>0
def rowL (n:Nat) (f:Nat→List AV):List Int:=(List.range n).map fun i=>oneI (f i)
theorem Uo {α:Type} {d:α} {l m:List α} {i:Nat} (h:i < l.length):(l ++ m).getD i d=l.getD i d:=by
 simp [List.getD_eq_getElem?_getD,List.getElem?_append_left h]
theorem getD_apr {α:Type} {d:α} {l:List α} {t:α}:(l ++ [t]).getD l.length d=t:=by
 simp [List.getD_eq_getElem?_getD]
theorem vm_rI (σ:List (Nat×Nat)) (S:List Int) (i:Nat):vmL σ (rI S i) (rI S i):=⟨⟨rfl,rfl⟩,trivial⟩
theorem Zgq (σ:List (Nat×Nat)) (x:LT):vmL σ x.row x.row:=⟨⟨rfl,rfl⟩,rfl,⟨rfl,rfl⟩,⟨rfl,rfl⟩,⟨rfl,rfl⟩,⟨rfl,rfl,⟨fun i _=>vm_rI σ _ i⟩⟩,trivial⟩
theorem rowL_rI (S:List Int):rowL S.length (rI S)=S:=by
 apply List.ext_getElem
 ·simp [rowL]
 ·intro i h1 h2
  simp [rowL,rI,oneI,List.getD_eq_getElem?_getD,List.getElem?_eq_getElem h2]
theorem Vh {n i:Nat} {f g:Nat→List AV} {r:List AV} (h1:i < n→f i=r) (h2:¬ i < n→g (i - n)=r):appF n f g i=r:=by
 unfold appF
 by_cases h:i < n
 ·rw [show Nat.blt i n=true by simpa [Nat.blt_eq] using h,cond_true,h1 h]
 ·rw [show Nat.blt i n=false by exact Bool.eq_false_iff.2 fun hb=>h (by simpa [Nat.blt_eq] using hb),cond_false,h2 h]
end Go.Proofs.YtlmmbanfhjaioaaDoor
end
section
set_option maxRecDepth 100000
set_option maxHeartbeats 2000000
open Go Go.Ev
namespace Go.Proofs.YtlmmbanfhjaioaaDoor
noncomputable def kS (Ws:List (List LT)) (i:Nat):List Int:=barr (twFold (Ws.take i)).1
noncomputable def rS (Ws:List (List LT)) (i:Nat):List LT:=barr (twFold (Ws.take i)).2
def wS (Ws:List (List LT)) (i:Nat):List LT:=Ws.getD i []
def rowW (Ws:List (List LT)) (i:Nat):List AV:=[vW (wS Ws i)]
noncomputable def headOf (s:St) (id:Nat):Option (List AV):=match s.H.get id with
 | some (.cells _ _ (.rows _ f) _ _)=>some (f 0)
 | some (.cells _ _ (.per _) _ _)=>evCells s.H id 0 6
 | _=>none
def isSl (o:Option AV):Bool:=match o with
 | some (.sl _ _ _ _)=>true
 | _=>false
noncomputable def TO (k:Int) (s0:List UInt8) (n:Int) (t:TK) (Ws:List (List LT)):Stn:={ X:=Nat,T:=fun s _ i=>(11,.slg s.nx (1 + (rS Ws i).length) 6) :: (12,.int .i64 i) :: (42,.slg (s.nx + 1) (kS Ws i).length 1) :: keepS s [4,8],H:=fun s n0 i=>(s.nx,outO (headR k s0 n t (s.nx + 1) (kS Ws i).length (rS Ws i)) (1 + (rS Ws i).length)) :: (s.nx + 1,intO (kS Ws i)) :: keepB2 s (slId (s.T.get 11)) (kidId (headOf s (slId (s.T.get 11)))),nx:=fun s _=>s.nx + 2,I:=fun _ i=>i≤Ws.length∧1≤i,m:=fun i=>Ws.length - i }
theorem kS_zero (Ws:List (List LT)):kS Ws 0=[]:=by
 unfold kS
 rw [Zi]
 rfl
theorem Zfy (Ws:List (List LT)):rS Ws 0=[]:=by
 unfold rS
 rw [Zi]
 rfl
theorem Zls {Ws:List (List LT)} {i:Nat} (h:i < Ws.length):twFold (Ws.take (i + 1))=twAcc (twFold (Ws.take i)) (wS Ws i):=by
 unfold twFold wS
 rw [List.take_succ_eq_append_getElem h,List.foldl_append,List.getD_eq_getElem?_getD,List.getElem?_eq_getElem h]
 rfl
theorem Zku {Ws:List (List LT)} {i:Nat} (h:i < Ws.length):kS Ws (i + 1)=kS Ws i ++ [1 + ((rS Ws i).length:Int)]:=by
 unfold kS rS
 rw [Zi,Zi,Zi,Zls h]
 rfl
theorem rS_succ {Ws:List (List LT)} {i:Nat} (h:i < Ws.length):rS Ws (i + 1)=rS Ws i ++ (wS Ws i).map (shiftT (1 + ((rS Ws i).length:Int))):=by
 unfold rS
 rw [Zi,Zi,Zls h]
 rfl
theorem Zi9 {Ws:List (List LT)}:∀ {i:Nat},i≤Ws.length→(kS Ws i).length=i
 | 0,_=>by rw [kS_zero];rfl
 | i + 1,h=>by rw [Zku h,List.length_append,List.length_singleton,Zi9 (by omega)]
theorem Zk4 (a:List Int×List LT):∀ l:List (List LT),a.2.length≤(l.foldl twAcc a).2.length
 | []=>Nat.le_refl _
 | W :: l=>Nat.le_trans (by simp [twAcc]) (Zk4 (twAcc a W) l)
theorem rS_le (Ws:List (List LT)) (i:Nat):(rS Ws i).length≤(twFold Ws).2.length:=by
 unfold rS
 rw [Zi]
 have h:=Zk4 (twFold (Ws.take i)) (Ws.drop i)
 have e:(Ws.drop i).foldl twAcc (twFold (Ws.take i))=twFold Ws:=by
  unfold twFold
  rw [← List.foldl_append,List.take_append_drop]
 rw [e] at h
 exact h
end Go.Proofs.YtlmmbanfhjaioaaDoor
end
section
set_option maxRecDepth 100000
set_option maxHeartbeats 2000000
open Go Go.Ev
namespace Go.Proofs.YtlmmbanfhjaioaaDoor
noncomputable def twigB (k:Int) (s:List UInt8) (n:Int) (t:TK) (Ws:List (List LT)):List LT:=⟨k,s,n,t.line,t.col,kS Ws Ws.length⟩ :: rS Ws Ws.length
theorem Zam {x:AV} {s:List UInt8} (h:strW x=some s):VA x (.bs s):=by
 unfold strW at h
 split at h
 ·injection h with h;subst h;exact va_refl _
 ·injection h with h;subst h;exact va_str _ _
 ·cases h
theorem Qi (Ws:List (List LT)) (k:Nat):cellOf .leaf (.rows 1 (rowW Ws)) k=some (vW (wS Ws k)):=by
 rw [Zx]
 show (rowW Ws (k / 1))[k % 1]? = _
 rw [Nat.div_one,Nat.mod_one];rfl
end Go.Proofs.YtlmmbanfhjaioaaDoor
end
section
set_option maxRecDepth 100000
set_option maxHeartbeats 2000000
open Go Go.Ev
namespace Go.Proofs.YtlmmbanfhjaioaaDoor
noncomputable def oneR (L:List TK) (s:RS) (ws:List (List UInt8)):TK×RS:=takeR L s (ws.any (isS L s))
def ws5:List (List UInt8):=[[105,110,116],[102,110],[116,111,107],[104,97,110,100],[97,114,114]]
def wsD:List (List UInt8):=[[108,111,111,112,101,114],[99,108,97,115,115],[118,97,114],[102,110],[99,111,109,112],[101,118,101,110,116],[109,97,105,110]]
def wsO:List (List UInt8):=[[111,110],[111,102,102]]
def wsL:List (List UInt8):=[[99,114,101,97,116,101],[115,116,97,114,116],[115,116,111,112],[100,101,115,116,114,111,121]]
noncomputable def txW (l:List AV):Option (List (List UInt8)):=List.rec (motive:=fun _=>Option (List (List UInt8))) (some []) (fun a _ ih=>ob (strW a) fun w=>ob ih fun ws=>some (w :: ws)) l
end Go.Proofs.YtlmmbanfhjaioaaDoor
end
section
set_option maxRecDepth 100000
set_option maxHeartbeats 2000000
open Go Go.Ev
namespace Go.Proofs.YtlmmbanfhjaioaaDoor
inductive PT where
 | mk (k:Int) (s:List UInt8) (n:Int) (l c:Int) (ks:List PT)
mutual
noncomputable def flat:PT→List LT
 | .mk k s n l c ks=>twigB k s n ⟨0,[],0,l,c⟩ (flatL ks)
noncomputable def flatL:List PT→List (List LT)
 | []=>[]
 | x :: xs=>flat x :: flatL xs
end
mutual
def sz:PT→Nat
 | .mk _ _ _ _ _ ks=>1 + szL ks
def szL:List PT→Nat
 | []=>0
 | x :: xs=>sz x + szL xs
end
def PT.kind:PT→Int
 | .mk k _ _ _ _ _=>k
def nd (k:Int) (s:List UInt8) (n:Int) (t:TK) (ks:List PT):PT:=.mk k s n t.line t.col ks
def zPT:PT:=.mk 0 [] 0 0 0 []
abbrev PF:=RS→PT×RS
def at1 (s:RS):RS:={ s with at_:=s.at_ + 1 }
def down (s:RS):RS:={ s with nest:=s.nest - 1 }
theorem Gj:∀ ks:List PT,flatL ks=ks.map flat
 | []=>by unfold flatL;rfl
 | x :: xs=>by unfold flatL;rw [Gj xs];rfl
theorem Zdx (ks:List PT):(flatL ks).length=ks.length:=by rw [Gj];simp
theorem Xl:szL []=0:=by unfold szL;rfl
theorem YE (x:PT) (xs:List PT):szL (x :: xs)=sz x + szL xs:=by conv=>lhs;unfold szL
theorem Zaz (k:Int) (s:List UInt8) (n l c:Int) (ks:List PT):sz (.mk k s n l c ks)=1 + szL ks:=by conv=>lhs;unfold sz
theorem QP (k:Int) (s:List UInt8) (n:Int) (t:TK) (ks:List PT):sz (nd k s n t ks)=1 + szL ks:=Zaz _ _ _ _ _ _
theorem Zen:∀ a b:List PT,szL (a ++ b)=szL a + szL b
 | [],b=>by rw [Xl,List.nil_append,Nat.zero_add]
 | x :: a,b=>by rw [List.cons_append,YE,YE,Zen a b,Nat.add_assoc]
theorem Wj:∀ x:PT,1≤sz x
 | .mk _ _ _ _ _ ks=>by rw [Zaz];omega
theorem Vw:∀ ks:List PT,ks.length≤szL ks
 | []=>Nat.zero_le _
 | x :: xs=>by have:=Vw xs;have:=Wj x;rw [YE,List.length_cons];omega
structure FlOK (N:Nat) (w:LT):Prop where
 l:w.kids.length < N
 v:∀ c∈w.kids,0≤c∧c < N
theorem Zd0 {N M:Nat} {w:LT} (h:FlOK N w) (hm:N≤M):FlOK M w:=⟨by have:=h.l;omega,fun c hc=>by have:=h.v c hc;omega⟩
theorem Zjz {N b:Nat} {w:LT} (h:FlOK N w):FlOK (N + b) (shiftT (b:Int) w):=by
 refine ⟨?_,fun c hc=>?_⟩
 ·show (w.kids.map (· + (b:Int))).length < _
  rw [List.length_map];have:=h.l;omega
 ·obtain ⟨d,hd,rfl⟩:=List.mem_map.1 (show c∈w.kids.map (· + (b:Int)) from hc)
  have:=h.v d hd
  constructor
  ·show 0≤d + (b:Int);omega
  ·show d + (b:Int) < _;omega
theorem Zl1:∀ (Ws:List (List LT)) (a:List Int×List LT),(∀ W∈Ws,0 < W.length∧∀ w∈W,FlOK W.length w)→(∀ w∈a.2,FlOK (1 + a.2.length) w)→(∀ c∈a.1,0≤c∧c≤a.2.length) →
  (Ws.foldl twAcc a).2.length=a.2.length + (Ws.map List.length).sum∧(Ws.foldl twAcc a).1.length=a.1.length + Ws.length∧(∀ w∈(Ws.foldl twAcc a).2,FlOK (1 + (Ws.foldl twAcc a).2.length) w)∧∀ c∈(Ws.foldl twAcc a).1,0≤c∧c≤(Ws.foldl twAcc a).2.length
 | [],a,_,h2,h3=>⟨by simp,by simp,h2,h3⟩
 | W :: Ws,a,h1,h2,h3=>by
  have hl:(twAcc a W).2.length=a.2.length + W.length:=by simp [twAcc]
  have hk:(twAcc a W).1.length=a.1.length + 1:=by simp [twAcc]
  have hW:=h1 W (List.mem_cons_self ..)
  have h0:=hW.1
  obtain ⟨r1,r2,r3,r4⟩:=Zl1 Ws (twAcc a W) (fun V hV=>h1 V (List.mem_cons_of_mem _ hV)) (fun w hw=>by
   rw [hl]
   rcases List.mem_append.1 (show w∈a.2 ++ W.map (shiftT (1 + (a.2.length:Int))) from hw) with hw | hw
   ·exact Zd0 (h2 w hw) (by omega)
   ·obtain ⟨v,hv,rfl⟩:=List.mem_map.1 hw
    have:=Zjz (b:=1 + a.2.length) (hW.2 v hv)
    rw [show ((1 + a.2.length:Nat):Int)=1 + (a.2.length:Int) by omega] at this
    exact Zd0 this (by omega)) (fun c hc=>by
   rw [hl]
   rcases List.mem_append.1 (show c∈a.1 ++ [1 + (a.2.length:Int)] from hc) with hc | hc
   ·have:=h3 c hc;omega
   ·rw [List.mem_singleton.1 hc];omega)
  exact ⟨by rw [List.foldl_cons,r1,hl,List.map_cons,List.sum_cons];omega,by rw [List.foldl_cons,r2,hk,List.length_cons];omega,r3,r4⟩
theorem kS_full (Ws:List (List LT)):kS Ws Ws.length=(twFold Ws).1:=by unfold kS;rw [Zi,List.take_length]
theorem Zle (Ws:List (List LT)):rS Ws Ws.length=(twFold Ws).2:=by unfold rS;rw [Zi,List.take_length]
mutual
theorem Zik:∀ x:PT,(flat x).length=sz x∧∀ w∈flat x,FlOK (sz x) w
 | .mk k s n l c ks=>by
  obtain ⟨h1,h2⟩:=Zd1 ks
  obtain ⟨r1,r2,r3,r4⟩:=Zl1 (flatL ks) ([],[]) h2 (fun w hw=>by cases hw) (fun c hc=>by cases hc)
  have e:flat (.mk k s n l c ks)=⟨k,s,n,l,c,(twFold (flatL ks)).1⟩ :: (twFold (flatL ks)).2:=by
   conv=>lhs;unfold flat
   unfold twigB
   rw [kS_full,Zle]
  have hl:(twFold (flatL ks)).2.length=szL ks:=by rw [show (twFold (flatL ks)).2.length=_ from r1,h1];simp
  rw [e,Zaz]
  refine ⟨by rw [List.length_cons,hl];omega,fun w hw=>?_⟩
  rcases List.mem_cons.1 hw with rfl | hw
  ·refine ⟨?_,fun c hc=>?_⟩
   ·show (twFold (flatL ks)).1.length < _
    rw [show (twFold (flatL ks)).1.length=_ from r2,Zdx]
    have:=Vw ks
    simp only [List.length_nil];omega
   ·have h:=r4 c hc
    rw [show (List.foldl twAcc ([],[]) (flatL ks))=twFold (flatL ks) from rfl,hl] at h
    omega
  ·have h:=r3 w hw
   rw [show (List.foldl twAcc ([],[]) (flatL ks))=twFold (flatL ks) from rfl,hl] at h
   exact h
theorem Zd1:∀ ks:List PT,((flatL ks).map List.length).sum=szL ks∧∀ W∈flatL ks,0 < W.length∧∀ w∈W,FlOK W.length w
 | []=>by
  unfold flatL
  exact ⟨by rw [Xl];rfl,fun W hW=>by cases hW⟩
 | x :: xs=>by
  obtain ⟨h1,h2⟩:=Zik x
  obtain ⟨h3,h4⟩:=Zd1 xs
  unfold flatL
  refine ⟨by rw [List.map_cons,List.sum_cons,h1,h3,YE],fun W hW=>?_⟩
  rcases List.mem_cons.1 hW with rfl | hW
  ·rw [h1];exact ⟨Wj x,h2⟩
  ·exact h4 W hW
end
end Go.Proofs.YtlmmbanfhjaioaaDoor
end
