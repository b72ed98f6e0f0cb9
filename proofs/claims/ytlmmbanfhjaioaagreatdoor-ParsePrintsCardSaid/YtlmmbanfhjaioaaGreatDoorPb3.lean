/- Laid by program out of its parts: PbQ, PbR, PbS. -/
import Derived.Test.YtlmmbanfhjaioaaGreatDoorPb2
noncomputable section
open List(getD)
set_option linter.unusedVariables false
set_option linter.unusedSimpArgs false
section
set_option maxRecDepth 100000
set_option maxHeartbeats 2000000
open Go Go.Ev
namespace Go.Proofs.YtlmmbanfhjaioaaGreatDoor
def K1 (a:Aj) (ks:Av):Ae:=.cells 71 .leaf (.rows 1 λi=>cond (Nat.beq i 0) [.pv a] ((Bz ks).getD (i-1) [])) (ks.length+1) true
def M1:Ae:=.cells 100 .leaf (.Dw []) 7 false
def GK (B:Ab->PF) (L:Ab) (s:RS):Av×RS:=CY (E0 B) L (B3 L) [] (Aq L s [[123]]).2
def Eo (B:Ab->PF) (L:Ab) (s:RS):Av×RS:=((GK B L s).1,(Aq L (GK B L s).2 [[125]]).2)
def kW (B:Ab->PF) (L:Ab) (s:RS) (k:Int) (x:Ac) (n a c:Int) (u:Aj):HO:=.gen (Eo B L s) λy=>.br (An y.2.err 0) (.br (Nat.beq y.1.length 0) (.ret (.ptr (4+1) 0) [Bl L y.2,BW k x n a c (.sl (4+2) 0 1 1),BI [.pv u]] 0) (.ret (.ptr (4+1) 0) [Bl L y.2,BW k x n a c (.AY (4+3) (y.1.length+1) 1),BI [.pv u],K1 u y.1] 1)) (.AB (CQ L y.2) [F4,M1,BI [.pv u]] 0)
def AdC (s:St) (id:Nat):Bool:=match s.H.get id with
 |some (.cells el c z N op)=>match cellOf c z 6 with
  |some (.sl _ _ _ _)=>true
  |_=>false
 |_=>false
structure dJ (L:List TK) (f:Nat->List PT->RS->List PT×RS) (t:List PT×RS) (s0:RS) (x:List PT×RS):Prop where
 k:∃k,De L x.2<k/\f k x.1 x.2=t
 p:Hi L 0 4 s0 x
 r:R0 L x.2
 n:1<=x.1.length
def AkF (L:Ab) (u:Aj) (f:Nat->Av->RS->Av×RS) (t:Av×RS) (s0:RS):CX:={X:=Av×RS,T:=λs _ x=>MZ s [0,1,5],H:=λs n0 x=>(s.nx,K1 u x.1)::(4,Bl L x.2)::(4+1,ur s (4+1) (.AY s.nx (x.1.length+1) 1))::YO s [4,4+1],nx:=λs _=>s.nx+1,I:=λs x=>dJ L f t s0 x,m:=λx=>De L x.2}
def rV (L:Ab) (n:Nat) (B:Ab->PF) (h:EI 88 L n B) (u:Aj) (s:RS):Ctx:={P:=Tryz.prog,tb:=[],ht:=SI 88 L n B,AA:=VD h,lp:=λf r=>cond (Nat.beq f 93) (cond (Nat.beq r 3) (some (AkF L u (CY (E0 B) L) (GK B L s) (Aq L s [[123]]).2)) none) none,cut:=λ_ _=>none,pl:=λf r s=>cond (Nat.beq r 3) (AdC s (4+1)) false,fr:=λf r=>cond (Nat.beq r 7) [7] []}
theorem Vv {L:Ab} {s:RS} {p:RS->Prop} {α:Type} {f:RS->α×RS} {K X:α×RS->Prop} (h:R0 L s) (q:p s) (C:(f s).2.err=0->K (f s)) (B:(f s).2.err≠0->X (f s)):C6 L (cP L s) s.nest p/\∀y,y=f (B8 L (cP L s) s.nest)->Ah (An y.2.err 0) (K y) (X y):=⟨I5 h q,λy hy=>by rw[hy,Jf h];exact Aw (λe=>C (C0.1 e)) λe=>B (Dy.1 e)⟩
theorem V4 {L:Ab} {y T:RS} {n:Nat} {P:Prop} (E:Kp y T) (q:y.err≠0) (hP:P):Ah (An T.err 0) (Al (Nat.beq n 0) False) ((FD L y=FD L T/\FC L y=FC L T/\y.err=T.err)/\P):=by
 obtain⟨C,B⟩:=E.e q;refine Aw (λe=>absurd (C0.1 e) (by rw[C];exact q)) λ_=>⟨⟨?_,?_,C.symm⟩,hP⟩
 ·unfold FD;rw[B]
 ·unfold FC;rw[B]
theorem vG {F:Ab->PF} {L:Ab} {k:Nat} {l:Av} {r:RS} {t:Av×RS} (C:De L r<k) (q:CY F L k l r=t) (B:r.err=0) (c:As L r Fw=false):∃y,k=y+1/\CY F L y (l++[(F L r).1]) (F L r).2=t:=by
 cases k with
 |zero=>omega
 |succ k=>unfold CY at q;rw[Am ⟨B,c⟩]at q;exact⟨k,rfl,q⟩
theorem kA {F:Ab->PF} {L:Ab} {k:Nat} {l:Av} {r:RS} {t:Av×RS} (y:De L r<k) (q:CY F L k l r=t) (c:As L r Fw=true):t=(l,r):=by
 cases k with
 |zero=>omega
 |succ k=>unfold CY at q;rw[Ad (by rw[c];rintro⟨_,h⟩;cases h)]at q;exact q.symm
theorem k8 {L:Ab} {s:RS} {ws:List Ac} (h:R0 L s) (e:(Aq L s ws).2.err=0):(Aq L s ws).1.text∈ws:=by
 cases q:ws.any (As L s)with
 |false=>rw[show(Aq L s ws).2.err=4 from(cQ h q).2]at e;cases e
 |true=>obtain⟨w,hw,y⟩:=List.any_eq_true.1 q;rw[show Aq L s ws=(Ar L s,Au s)from(Ut h q).1];show(Ar L s).text∈ws;rw[Ma y];exact hw
theorem Zm {x:PT} {v:AV} (q:List (Nat×Nat)) (h:JW x v):Option.rec (motive:=λ_=>Prop) True (λval=>AZ q val v) ((Bz [x]).getD 0 [])[0]?:=by have:(Bz [x]).getD 0 []=[Bw x]:=HI [x] 0 (by simp);rw[this];exact h.h q
theorem zV {k n:Int} {x:Ac} {tk:TK} {y:PT} {g:Nat->Aj} (q:g 0=[Bw y]):JW (nd k x n tk [y]) (.pv [.int .i64 k,.bs x,.int .i64 n,.int .i64 tk.line,.int .i64 tk.Ao,.Ay,.vec 1 1 g]):=Uz λB=>jh rfl λi hi=>by
 obtain rfl:i=0:=by simp at hi;omega
 exact q
theorem AgS {q:List (Nat×Nat)} {u:Aj} (y:∀q,AZ q (.pv u) (.pv u)) (l:Av):∀i,Ba q (cond (Nat.beq i 0) [.pv u] ((Bz l).getD (i-1) [])) (cond (Nat.beq i 0) [.pv u] ((Bz l).getD (i-1) []))
 |0=>⟨y q,trivial⟩
 |i+1=>Ny q l i
theorem Z5 {y:List (Nat×Nat)} {u:Aj} (C:∀y,AZ y (.pv u) (.pv u)) (l:Av) (x:PT) {v:AV} {g:Nat->Aj} (E:g 0=[v]) (hv:JW x v):l.length+1+1=(l++[x]).length+1/\AH λi=>i.succ<=l.length+1+1->Ba y (cond (Nat.beq i 0) [.pv u] ((Bz (l++[x])).getD (i-1) [])) (DQ (l.length+1) (λi=>cond (Nat.beq i 0) [.pv u] ((Bz l).getD (i-1) [])) g i):=by
 refine⟨by rw[AK,List.length_singleton],⟨λi hi=>?_⟩⟩;cases i with
 |zero=>have e:DQ (l.length+1) (λi=>cond (Nat.beq i 0) [.pv u] ((Bz l).getD (i-1) [])) g 0=[.pv u]:=RM (λ_=>rfl) λh=>absurd (Nat.succ_pos _) h;rw[e];exact⟨C y,trivial⟩
 |succ i=>
  have q:i<(l++[x]).length:=by rw[AK,List.length_singleton];omega
  show Ba y ((Bz (l++[x])).getD i []) _;by_cases h:i<l.length
  ·have e:DQ (l.length+1) (λi=>cond (Nat.beq i 0) [.pv u] ((Bz l).getD (i-1) [])) g (i+1)=[Bw l[i]]:=RM (λ_=>HI l i h) λh'=>absurd (by omega) h';rw[e,HI _ i q,List.getElem_append_left h];exact⟨PI y _,trivial⟩
  ·have B:i=l.length:=by omega
   subst B;have e:DQ (l.length+1) (λi=>cond (Nat.beq i 0) [.pv u] ((Bz l).getD (i-1) [])) g (l.length+1)=[v]:=RM (λh'=>absurd h' (by omega)) λ_=>by rw[Lc];exact E
   rw[e,HI _ _ q,List.getElem_append_right (AM _)];exact⟨by simpa using hv.h y,trivial⟩
def LB (a:Av×RS):=(a.1.length+1+1)
@[reducible] def oC:Av×RS->Prop:=λ(a:Av×RS)=>a.1.length+1+1<=9223372036854775807/\(LB a)*8<=140737488355328
@[reducible] def dZ:Aj->Prop:=λ(u:Aj)=>Aa/\Aa/\Aa/\Aa/\True/\Ba [(0,0),(1,1),(2,2),(3,3),(4,4),(5,5),(6,6)] u u
@[reducible] def Xg:Aj->Prop:=λ(u:Aj)=>dZ u/\True
def Pc:=[(27,25),(9,9),(0,0),(1,1),(2,2),(3,3),(4,4),(5,5),(6,6)]
@[reducible] def oH:Aj->Prop:=λ(u:Aj)=>True/\Ba Pc u u
@[reducible] def da:Aj->Prop:=λ(u:Aj)=>Mj/\(Aa/\Aa/\Aa/\Aa/\((((Bn/\True)/\True)/\True)/\True)/\True)/\Xg u
@[reducible] def dc:Ab->PT×RS->Av×RS->Prop:=λ(L:Ab) (a:PT×RS) (q:Av×RS)=>Aa/\Aa/\Aa/\Aa/\(Lz a.2 L q.2)/\Aa/\RS.nest a.2=RS.nest q.2
def Mf (a:Ab) (b:Ab->PF) (c:RS):=Prod.snd (Aq a (Prod.snd (GK b a c)) [[(125:UInt8)]])
def lT (a:Ab) (b:RS) (c:Ab->PF) (d:RS):=((Aa/\(Aa/\FD a b=FD a (Mf a c d))/\(Aa/\FC a b=FC a (Mf a c d))/\(Aa/\RS.err b=RS.err (Mf a c d))/\True)/\True)
@[reducible] def Xh:Ab->(Ab->PF)->RS->Aj->TK×RS->Prop:=λ(L:Ab) (B:Ab->PF) (s:RS) (u:Aj) (a:TK×RS)=>Aa/\(lT L a.2 B s)/\da u
def Te (a:Ab) (b:Ab->PF) (c:RS):=Ah (An (RS.err (Mf a b c)) (0:Int)) (Al (Nat.beq (List.length (Prod.fst (GK b a c))) 0) False)
@[reducible] def df:Ab->(Ab->PF)->RS->Aj->PT×RS->Prop:=λ(L:Ab) (B:Ab->PF) (s:RS) (u:Aj) (a:PT×RS)=>(Bn/\True)/\Te L B s (Aa/\(lT L a.2 B s)/\da u)
def TD (a:Ab) (b:Ab->PF) (c:RS) (d:Nat):=getD (List.drop (Int.toNat (RS.at_ (Mf a b c))) a) d TK.zero
@[reducible] def UY:Ab->(Ab->PF)->RS->TK×RS->Prop:=λ(L:Ab) (B:Ab->PF) (s:RS) (a:TK×RS)=>Aa/\Aa/\Aa/\Aa/\(True/\Aa/\D1 a.2 L=List.length (List.drop (Int.toNat (RS.at_ (Mf L B s))) L)/\AH λ(i:Nat)=>Bh i (D1 a.2 L)->(Aa/\TK.kind (Dh a.2 L i)=TK.kind (TD L B s i))/\TK.text (Dh a.2 L i)=TK.text (TD L B s i)/\(Aa/\TK.num (Dh a.2 L i)=TK.num (TD L B s i))/\(Aa/\TK.line (Dh a.2 L i)=TK.line (TD L B s i))/\(Aa/\TK.Ao (Dh a.2 L i)=TK.Ao (TD L B s i))/\True)/\Aa/\RS.nest a.2=RS.nest (Mf L B s)
def KQ:=[[(99:UInt8),114,101,97,116,101],[(115:UInt8),116,97,114,116],[(115:UInt8),116,111,112],[(100:UInt8),101,115,116,114,111,121]]
def Pv (a:Aj):=oH a
@[reducible] def oD:Ab->Int->Ac->Int->Int->Int->Aj->PT×RS->Av×RS->Prop:=λ(L:Ab) (k:Int) (x:Ac) (m a c:Int) (u:Aj) (y:PT×RS) (q:Av×RS)=>dc L y q/\(Aa/\Aa/\Aa/\Aa/\(Kc k x m a c)/\Af (some 25)/\Aa/\2=q.1.length+1/\Aa)/\FH/\(Aa/\Aa/\Aa/\Aa/\Pv u)/\(Aa/\True)/\(Aa/\Aa/\Aa/\Aa/\Af (List.length KQ)/\AH λ(i:Nat)=>C1 i (List.length KQ)->Af (getD KQ i [])/\True)/\(Aa/\True)/\(Aa/\True)/\(Aa/\True)/\(Aa/\True)/\True
def Tg:=[getD KQ 0 [],getD KQ 1 [],getD KQ 2 [],getD KQ 3 []]
@[reducible] def oE:Ab->Int->Ac->Int->Int->Int->Aj->Av×RS->PT×RS->Av×RS->Prop:=λ(L:Ab) (k:Int) (x:Ac) (m a c:Int) (u:Aj) (B:Av×RS) (y:PT×RS) (q:Av×RS)=>dc L y q/\(Aa/\Aa/\Aa/\Aa/\(Kc k x m a c)/\Af (some 43)/\B.1.length+1+1=q.1.length+1/\Aa)/\FH/\(Aa/\Aa/\Aa/\Aa/\True/\Ba [(27,43),(9,9),(0,0),(1,1),(2,2),(3,3),(4,4),(5,5),(6,6)] u u)/\(Aa/\True)/\(Aa/\Aa/\Aa/\Aa/\List.length Tg=List.length KQ/\AH λ(i:Nat)=>C1 i (List.length Tg)->getD Tg i []=getD KQ i []/\True)/\(Aa/\True)/\(Aa/\True)/\(Aa/\True)/\(Aa/\True)/\True
def IB (a:Ab) (b:Ab->PF) (c:RS):=dJ a (CY (E0 b) a) (GK b a c) (Prod.snd (Aq a c [[(123:UInt8)]]))
def Ly:=((Af (some 4)/\Aa)/\(Af (some 5)/\Aa)/\(Af (some 9)/\0=0/\4=4/\4=4)/\True)
def Tk (a:Av×RS):=Al (bif bif Nat.ble ((a.1.length+1)*1) (a.1.length+1)then true else false then decide (oC a)else false)
def Tl (a:Nat) (b:Aj) (c:Av):=Ba [(27,43),(9,9),(0,0),(1,1),(2,2),(3,3),(4,4),(5,5),(6,6)] (bif Nat.beq a 0 then [AV.pv b]else getD (Bz c) (a-1) [])
def Tf (a:Av×RS) (b:Aj) (c:Av):=DQ (a.1.length+1) (λ(q:Nat)=>bif Nat.beq q 0 then [AV.pv b]else getD (Bz c) (q-1) [])
def QV:=AV.int .i64 (9:Int)
def Ok:=AV.int .i64 (1:Int)
def ZM (a:TK) (b:PT):=AV.pv [QV,AV.bs [],AV.int .i64 (Int.negSucc 0),Ci a,Ch a,AV.Ay,AV.vec 1 1 λ(q:Nat)=>[Cy b]]
def ZP (a:TK) (b:PT):=AV.pv [QV,AV.bs [],AV.int .i64 (3:Int),Ci a,Ch a,AV.Ay,AV.vec 1 1 λ(q:Nat)=>[Cy b]]
def ZQ (a:TK) (b:PT):=AV.pv [QV,AV.bs [],AV.int .i64 (2:Int),Ci a,Ch a,AV.Ay,AV.vec 1 1 λ(q:Nat)=>[Cy b]]
def ld:=Ba [(7,27),(0,0),(1,1),(2,2),(3,3),(4,4),(5,5),(6,6)]
def ZU (a:TK) (b:PT):=AV.pv [QV,AV.bs [],Ok,Ci a,Ch a,AV.Ay,AV.vec 1 1 λ(q:Nat)=>[Cy b]]
def ZV (a:TK) (b:PT):=AV.pv [QV,AV.bs [],BX,Ci a,Ch a,AV.Ay,AV.vec 1 1 λ(q:Nat)=>[Cy b]]
def TX (a:Ab):=oE a
@[reducible] def oG:Ab->Nat->(Ab->PF)->RS->Int->Ac->Int->Int->Int->Aj->Av×RS->Prop:=λ(L:Ab) (n:Nat) (B:Ab->PF) (s:RS) (k:Int) (x:Ac) (m a c:Int) (u:Aj) (q:Av×RS)=>(Pn L q.2)/\∀(y:RS),y=Bj L q.2->Pt L y ((True/\Bk L y λ(s:RS)=>BK Tg)/\∀(C:TK×RS),C=Hw L y Tg->A5 C.2 ((ED L C.2 n)/\∀(y:PT×RS),y=C2 B L C.2->A5 y.2 (DL y.1/\RC C/\Ah (decide (TK.text C.1=getD [getD [[(99:UInt8),114,101,97,116,101],[(115:UInt8),116,97,114,116],[(115:UInt8),116,111,112],[(100:UInt8),101,115,116,114,111,121]] 0 [],getD [[(99:UInt8),114,101,97,116,101],[(115:UInt8),116,97,114,116],[(115:UInt8),116,111,112],[(100:UInt8),101,115,116,114,111,121]] 1 [],getD [[(99:UInt8),114,101,97,116,101],[(115:UInt8),116,97,114,116],[(115:UInt8),116,111,112],[(100:UInt8),101,115,116,114,111,121]] 2 [],getD [[(99:UInt8),114,101,97,116,101],[(115:UInt8),116,97,114,116],[(115:UInt8),116,111,112],[(100:UInt8),101,115,116,114,111,121]] 3 []] 0 [])) (Tk q (∃(E:Av×RS),IB L B s E/\GN L E.2 q.2/\Aa/\Ly/\(Aa/\Aa/\Aa/\Aa/\(LB q)*1=E.1.length+1/\AH λ(i:Nat)=>C1 i ((LB q)*1)->Tl i u E.1 (Tf q u q.1 (λ(x:Nat)=>[ZV C.1 y.1]) i))/\TX L k x m a c u q y E)) (Ah (decide (TK.text C.1=getD [getD [[(99:UInt8),114,101,97,116,101],[(115:UInt8),116,97,114,116],[(115:UInt8),116,111,112],[(100:UInt8),101,115,116,114,111,121]] 0 [],getD [[(99:UInt8),114,101,97,116,101],[(115:UInt8),116,97,114,116],[(115:UInt8),116,111,112],[(100:UInt8),101,115,116,114,111,121]] 1 [],getD [[(99:UInt8),114,101,97,116,101],[(115:UInt8),116,97,114,116],[(115:UInt8),116,111,112],[(100:UInt8),101,115,116,114,111,121]] 2 [],getD [[(99:UInt8),114,101,97,116,101],[(115:UInt8),116,97,114,116],[(115:UInt8),116,111,112],[(100:UInt8),101,115,116,114,111,121]] 3 []] 1 [])) (Tk q (∃(E:Av×RS),IB L B s E/\GN L E.2 q.2/\Aa/\Ly/\(Aa/\Aa/\Aa/\Aa/\(LB q)*1=E.1.length+1/\AH λ(i:Nat)=>C1 i ((LB q)*1)->Tl i u E.1 (Tf q u q.1 (λ(x:Nat)=>[ZU C.1 y.1]) i))/\TX L k x m a c u q y E)) (Ah (decide (TK.text C.1=getD [getD [[(99:UInt8),114,101,97,116,101],[(115:UInt8),116,97,114,116],[(115:UInt8),116,111,112],[(100:UInt8),101,115,116,114,111,121]] 0 [],getD [[(99:UInt8),114,101,97,116,101],[(115:UInt8),116,97,114,116],[(115:UInt8),116,111,112],[(100:UInt8),101,115,116,114,111,121]] 1 [],getD [[(99:UInt8),114,101,97,116,101],[(115:UInt8),116,97,114,116],[(115:UInt8),116,111,112],[(100:UInt8),101,115,116,114,111,121]] 2 [],getD [[(99:UInt8),114,101,97,116,101],[(115:UInt8),116,97,114,116],[(115:UInt8),116,111,112],[(100:UInt8),101,115,116,114,111,121]] 3 []] 2 [])) (Tk q (∃(E:Av×RS),IB L B s E/\GN L E.2 q.2/\Aa/\Ly/\(Aa/\Aa/\Aa/\Aa/\(LB q)*1=E.1.length+1/\AH λ(i:Nat)=>C1 i ((LB q)*1)->Tl i u E.1 (Tf q u q.1 (λ(x:Nat)=>[ZQ C.1 y.1]) i))/\TX L k x m a c u q y E)) (Ah (decide (TK.text C.1=getD [getD [[(99:UInt8),114,101,97,116,101],[(115:UInt8),116,97,114,116],[(115:UInt8),116,111,112],[(100:UInt8),101,115,116,114,111,121]] 0 [],getD [[(99:UInt8),114,101,97,116,101],[(115:UInt8),116,97,114,116],[(115:UInt8),116,111,112],[(100:UInt8),101,115,116,114,111,121]] 1 [],getD [[(99:UInt8),114,101,97,116,101],[(115:UInt8),116,97,114,116],[(115:UInt8),116,111,112],[(100:UInt8),101,115,116,114,111,121]] 2 [],getD [[(99:UInt8),114,101,97,116,101],[(115:UInt8),116,97,114,116],[(115:UInt8),116,111,112],[(100:UInt8),101,115,116,114,111,121]] 3 []] 3 [])) (Tk q (∃(E:Av×RS),IB L B s E/\GN L E.2 q.2/\Aa/\Ly/\(Aa/\Aa/\Aa/\Aa/\(LB q)*1=E.1.length+1/\AH λ(i:Nat)=>C1 i ((LB q)*1)->Tl i u E.1 (Tf q u q.1 (λ(x:Nat)=>[ZP C.1 y.1]) i))/\TX L k x m a c u q y E)) (Tk q (∃(E:Av×RS),IB L B s E/\GN L E.2 q.2/\Aa/\Ly/\(Aa/\Aa/\Aa/\Aa/\(LB q)*1=E.1.length+1/\AH λ(i:Nat)=>C1 i ((LB q)*1)->Tl i u E.1 (Tf q u q.1 (λ(x:Nat)=>[ZM C.1 y.1]) i))/\TX L k x m a c u q y E)))))) (df L B s u y)) (Te L B s (Xh L B s u C))) ((Cs L y)/\∀(C:TK×RS),C=(Cu L y)->Al (An (RS.err (Mf L B s)) (0:Int)) (Ah (Nat.beq (List.length (Prod.fst (GK B L s))) 0) (Aa/\(KU/\True)/\UY L B s C/\(Aa/\Aa/\Aa/\Aa/\(Kc k x m a c)/\False)/\Xg u) (Aa/\(KU/\True)/\UY L B s C/\(Aa/\Aa/\Aa/\Aa/\(Kc k x m a c)/\Af (some 27)/\q.1.length+1=List.length (Prod.fst (GK B L s))+1/\Aa)/\(Aa/\Aa/\Aa/\Aa/\True/\ld u u)/\(Aa/\Aa/\Aa/\Aa/\q.1.length+1=List.length (Prod.fst (GK B L s))+1/\AH λ(i:Nat)=>C1 i (JF q)->ld (bif Nat.beq i 0 then [AV.pv u]else getD (Bz (Prod.fst (GK B L s))) (i-1) []) (bif Nat.beq i 0 then [AV.pv u]else getD (Bz q.1) (i-1) []))/\True)))
def Ud (a:Av):=getD (Bz a) 0 []
def TW (a:Ab):=oG a
def TY (a:Ab):=oD a
theorem Aih:∀(L:Ab) (n:Nat) (B:Ab->PF),EI (88:FuncId) L n B->∀(s:RS) (k:Int) (x:Ac) (m a c:Int) (u:Aj),R0 L s->Bb L n s->FG L n B->D8 [AV.pv u]->(True/\Bk L s λ(s:RS)=>BK KV)/\∀(y:TK×RS),y=Hw L s KV->A5 y.2 ((Pn L y.2)/\∀(S:RS),S=Bj L y.2->Pt L S ((True/\Bk L S λ(s:RS)=>BK KQ)/\∀(y:TK×RS),y=Hw L S KQ->A5 y.2 ((ED L y.2 n)/\∀(E:PT×RS),E=C2 B L y.2->A5 E.2 (DL E.1/\RC y/\Ah (decide (TK.text y.1=getD [[(99:UInt8),114,101,97,116,101],[(115:UInt8),116,97,114,116],[(115:UInt8),116,111,112],[(100:UInt8),101,115,116,114,111,121]] 0 [])) ((∃(K:Av×RS),IB L B s K/\Aa/\Ly/\(Aa/\Aa/\Aa/\2=K.1.length+1/\Pv u/\Option.rec True (λ(val:AV)=>AZ Pc val (ZV y.1 E.1)) (Ud K.1)[0]?)/\TY L k x m a c u E K)/\∀(J:Av×RS),IB L B s J->TW L n B s k x m a c u J) (Ah (decide (TK.text y.1=getD [[(99:UInt8),114,101,97,116,101],[(115:UInt8),116,97,114,116],[(115:UInt8),116,111,112],[(100:UInt8),101,115,116,114,111,121]] 1 [])) ((∃(K:Av×RS),IB L B s K/\Aa/\Ly/\(Aa/\Aa/\Aa/\2=K.1.length+1/\Pv u/\Option.rec True (λ(val:AV)=>AZ Pc val (ZU y.1 E.1)) (Ud K.1)[0]?)/\TY L k x m a c u E K)/\∀(J:Av×RS),IB L B s J->TW L n B s k x m a c u J) (Ah (decide (TK.text y.1=getD [[(99:UInt8),114,101,97,116,101],[(115:UInt8),116,97,114,116],[(115:UInt8),116,111,112],[(100:UInt8),101,115,116,114,111,121]] 2 [])) ((∃(K:Av×RS),IB L B s K/\Aa/\Ly/\(Aa/\Aa/\Aa/\2=K.1.length+1/\Pv u/\Option.rec True (λ(val:AV)=>AZ Pc val (ZQ y.1 E.1)) (Ud K.1)[0]?)/\TY L k x m a c u E K)/\∀(J:Av×RS),IB L B s J->TW L n B s k x m a c u J) (Ah (decide (TK.text y.1=getD [[(99:UInt8),114,101,97,116,101],[(115:UInt8),116,97,114,116],[(115:UInt8),116,111,112],[(100:UInt8),101,115,116,114,111,121]] 3 [])) ((∃(K:Av×RS),IB L B s K/\Aa/\Ly/\(Aa/\Aa/\Aa/\2=K.1.length+1/\Pv u/\Option.rec True (λ(val:AV)=>AZ Pc val (ZP y.1 E.1)) (Ud K.1)[0]?)/\TY L k x m a c u E K)/\∀(J:Av×RS),IB L B s J->TW L n B s k x m a c u J) ((∃(K:Av×RS),IB L B s K/\Aa/\Ly/\(Aa/\Aa/\Aa/\2=K.1.length+1/\Pv u/\Option.rec True (λ(val:AV)=>AZ Pc val (ZM y.1 E.1)) (Ud K.1)[0]?)/\TY L k x m a c u E K)/\∀(J:Av×RS),IB L B s J->TW L n B s k x m a c u J))))) (df L B s u E)) (Te L B s (Xh L B s u y))) ((Cs L S)/\∀(y:TK×RS),y=(Cu L S)->Al (An (RS.err (Mf L B s)) (0:Int)) (Ah (Nat.beq (List.length (Prod.fst (GK B L s))) 0) (Aa/\(KU/\True)/\UY L B s y/\(Aa/\Aa/\Aa/\Aa/\(Kc k x m a c)/\Af (some 6)/\0=0/\1=1/\1=1)/\Xg u) (Aa/\(KU/\True)/\UY L B s y/\(Aa/\Aa/\Aa/\Aa/\(Kc k x m a c)/\False)/\dZ u/\(Aa/\True)/\True)))) (Te L B s (Xh L B s u y))
:=by
 delta Cy KQ Bj Bk A5 Cs IB Ci Mf BX Cu Ly Ch Kc ED Pc Te DL QV KU KV Pt Pn Ok Hw ZM ZP ZQ C2 Ud ZU ZV Pv TW TY;intro L n B AA s k x m a c u hs hp hB hu;simp only[Cd,oC,RC,dZ,Xg,oH,da,dc,Xh,df,UY,oD,oE,oG,LB,Gq,Bn,KW,Pc,Mj,Lz,Mf,lT,Te,IC,Bh,Dh,D1,TD,KQ,C1,Kc,FH,Pv,Tg,Cy,Bj,Bk,A5,Cs,IB,Ci,BX,Cu,Ly,Ch,Tk,Tl,GN,Tf,ED,DL,QV,KU,Pt,Pn,Ok,Hw,ZM,JF,ZP,ZQ,C2,ld,ZU,ZV,TX];have M:∀σ,AZ σ (.pv u) (.pv u):=λσ=>(hu.h _ (BN ..)).vm σ;have C:∀σ,Ba σ u u:=M;have kB:=VO (L:=L) hB.k;have kL:∀(k:Nat) (l:Av) (r:RS),Kp r (CY (E0 B) L k l r).2:=Ln kB;have kT:Kp (GK B L s).2 (Aq L (GK B L s).2 [[125]]).2:=G7 L _ _;have ae:=uw (n:=n) hB.g;refine Vv (f:=λs=>Aq L s [[123]]) hs (IQ rfl) (λe1=>?_) λe1=>V4 ((kL _ _ _).tr kT) e1 (C _);have s1:=Kb (L:=L) (ws:=[[123]]) hs.ok;have R:=Jb hs s1 (G7 L _ _) e1;have p1:=Lt hp s1;have V:∀(k:Nat) (l:Av) (r:RS),R0 L r->Hi L 0 4 (Aq L s [[123]]).2 (l,r)->De L r<k->CY (E0 B) L k l r=GK B L s->As L r Fw=false-> Kp (Aq L r B1).2 (Aq L (GK B L s).2 [[125]]).2/\((Aq L r B1).2.err=0->R0 L (Aq L r B1).2/\Bb L n (Aq L r B1).2/\Kp (B L (Aq L r B1).2).2 (Aq L (GK B L s).2 [[125]]).2/\((B L (Aq L r B1).2).2.err=0-> dJ L (CY (E0 B) L) (GK B L s) (Aq L s [[123]]).2 (l++[(E0 B L r).1],(B L (Aq L r B1).2).2)/\De L (B L (Aq L r B1).2).2<De L r)):=λk l r hr px hk af c=>by
  obtain⟨k',rfl,h2⟩:=vG hk af hr.e c;obtain⟨d0,d1,d2⟩:=RT (by decide) ae (l:=l) (s:=r) px (λ_=>p1) hr.e;have k2:Kp (B L (Aq L r B1).2).2 (Aq L (GK B L s).2 [[125]]).2:=by refine Kp.tr ?_ kT;rw[<-h2];exact kL _ _ _
  refine⟨(hB.k _).tr k2,λe=>?_⟩;have s2:=Kb (L:=L) (ws:=B1) hr.ok;have r2:=Jb hr s2 (G7 L _ _) e;have p2:=Lt d0 s2;refine⟨r2,p2,k2,λe'=>⟨⟨⟨k',by have:De L (B L (Aq L r B1).2).2<De L r:=d2;show De L (B L (Aq L r B1).2).2<k';omega,h2⟩,d1,Fs r2 (hB.g L _ p2) (hB.k _) e',by rw[AK,List.length_singleton];omega⟩,d2⟩⟩
 have ab:Hi L 0 4 (Aq L s [[123]]).2 ([],(Aq L s [[123]]).2):=QM R.ok (by decide);refine D3 R rfl (Aw (λc=>?_) λc=>?_)
 ·have c:As L (Aq L s [[123]]).2 Fw=false:=by rwa[EH,Dc rfl]at c
  obtain⟨k1,k2⟩:=V (B3 L) [] _ R ab (QD R.ok) rfl c;refine Vv (f:=λs=>Aq L s B1) R (IQ rfl) (λW=>?_) λW=>V4 k1 W (C _);obtain⟨r2,p2,k3,k4⟩:=k2 W;have ht:=k8 R W;refine Vv (f:=B L) r2 p2 (λe3=>⟨F8 _,?_⟩) λe3=>V4 k3 e3 (C _);obtain⟨k5,_⟩:=k4 e3;have O:∀(r:RS) (i:Int) (y:PT×RS),R0 L r->(Aq L r B1).2.err=0->y=B L (Aq L r B1).2->Y0 (Aq L r B1).1.text=i->∀g:Nat->Aj,g 0=[Bw y.1]->JW (E0 B L r).1 (.pv [.int .i64 9,.bs [],.int .i64 i,.int .i64 (Aq L r B1).1.line,.int .i64 (Aq L r B1).1.Ao,.Ay,.vec 1 1 g]):=λr i y _ _ hy hi g hg=>by subst hi;subst hy;exact zV hg
  have no:∀(r:RS),R0 L r->(Aq L r B1).2.err=0->(Aq L r B1).1.text≠cr->(Aq L r B1).1.text≠cw->(Aq L r B1).1.text≠cy->(Aq L r B1).1.text≠cu->False:=λr hr e n1 n2 n3 n4=>by
   have:=k8 hr e;simp only[B1,CS,List.not_mem_nil,or_false]at this;rcases this with h|h|h|h
   ·exact n1 h
   ·exact n2 h
   ·exact n3 h
   ·exact n4 h
  refine Aw (λw0=>⟨⟨([(E0 B L (Aq L s [[123]]).2).1],(B L (Aq L (Aq L s [[123]]).2 B1).2).2),k5,⟨rfl,C _,Zm _ (O (Aq L s [[123]]).2 0 _ R W rfl (by rw[show(Aq L (Aq L s [[123]]).2 B1).1.text=cr from Bt w0];rfl) _ rfl)⟩,Fu (s:=(B L (Aq L (Aq L s [[123]]).2 B1).2).2) rfl,rfl,C _⟩,λq hq=>?_⟩) λw0=>Aw (λw1=>⟨⟨([(E0 B L (Aq L s [[123]]).2).1],(B L (Aq L (Aq L s [[123]]).2 B1).2).2),k5,⟨rfl,C _,Zm _ (O (Aq L s [[123]]).2 1 _ R W rfl (by rw[show(Aq L (Aq L s [[123]]).2 B1).1.text=cw from Bt w1];rfl) _ rfl)⟩,Fu (s:=(B L (Aq L (Aq L s [[123]]).2 B1).2).2) rfl,rfl,C _⟩,λq hq=>?_⟩) λw1=>Aw (λw2=>⟨⟨([(E0 B L (Aq L s [[123]]).2).1],(B L (Aq L (Aq L s [[123]]).2 B1).2).2),k5,⟨rfl,C _,Zm _ (O (Aq L s [[123]]).2 2 _ R W rfl (by rw[show(Aq L (Aq L s [[123]]).2 B1).1.text=cy from Bt w2];rfl) _ rfl)⟩,Fu (s:=(B L (Aq L (Aq L s [[123]]).2 B1).2).2) rfl,rfl,C _⟩,λq hq=>?_⟩) λw2=>Aw (λw3=>⟨⟨([(E0 B L (Aq L s [[123]]).2).1],(B L (Aq L (Aq L s [[123]]).2 B1).2).2),k5,⟨rfl,C _,Zm _ (O (Aq L s [[123]]).2 3 _ R W rfl (by rw[show(Aq L (Aq L s [[123]]).2 B1).1.text=cu from Bt w3];rfl) _ rfl)⟩,Fu (s:=(B L (Aq L (Aq L s [[123]]).2 B1).2).2) rfl,rfl,C _⟩,λq hq=>?_⟩) λw3=>(no _ R W (Gj w0) (Gj w1) (Gj w2) (Gj w3)).elim
  all_goals
   obtain⟨⟨k',aa,Z⟩,pq,U,nq⟩:=hq;have b1:=pq.P4 s1.ok (by decide);have b2:=N7 q.1;refine D3 U rfl (Aw (λd=>?_) λd=>?_)
   ·have d:As L q.2 Fw=false:=by rwa[EH,Dc rfl]at d
    obtain⟨j1,j2⟩:=V k' q.1 q.2 U pq aa Z d;refine Vv (f:=λs=>Aq L s B1) U (IQ rfl) (λY=>?_) λY=>V4 j1 Y (C _);obtain⟨q2,ad,j3,j4⟩:=j2 Y;refine Vv (f:=B L) q2 ad (λf3=>⟨F8 _,?_⟩) λf3=>V4 j3 f3 (C _);obtain⟨j5,j6⟩:=j4 f3;exact Aw (λv0=>At (Bi (by omega)) ⟨(q.1++[(E0 B L q.2).1],(B L (Aq L q.2 B1).2).2),j5,j6,Z5 M q.1 (E0 B L q.2).1 rfl (O q.2 0 _ U Y rfl (by rw[show(Aq L q.2 B1).1.text=cr from Bt v0];rfl) _ rfl),Fu (s:=(B L (Aq L q.2 B1).2).2) rfl,by rw[AK,List.length_singleton],C _,rfl,⟨λ_ _=>rfl⟩⟩) λv0=>Aw (λv1=>At (Bi (by omega)) ⟨(q.1++[(E0 B L q.2).1],(B L (Aq L q.2 B1).2).2),j5,j6,Z5 M q.1 (E0 B L q.2).1 rfl (O q.2 1 _ U Y rfl (by rw[show(Aq L q.2 B1).1.text=cw from Bt v1];rfl) _ rfl),Fu (s:=(B L (Aq L q.2 B1).2).2) rfl,by rw[AK,List.length_singleton],C _,rfl,⟨λ_ _=>rfl⟩⟩) λv1=>Aw (λv2=>At (Bi (by omega)) ⟨(q.1++[(E0 B L q.2).1],(B L (Aq L q.2 B1).2).2),j5,j6,Z5 M q.1 (E0 B L q.2).1 rfl (O q.2 2 _ U Y rfl (by rw[show(Aq L q.2 B1).1.text=cy from Bt v2];rfl) _ rfl),Fu (s:=(B L (Aq L q.2 B1).2).2) rfl,by rw[AK,List.length_singleton],C _,rfl,⟨λ_ _=>rfl⟩⟩) λv2=>Aw (λv3=>At (Bi (by omega)) ⟨(q.1++[(E0 B L q.2).1],(B L (Aq L q.2 B1).2).2),j5,j6,Z5 M q.1 (E0 B L q.2).1 rfl (O q.2 3 _ U Y rfl (by rw[show(Aq L q.2 B1).1.text=cu from Bt v3];rfl) _ rfl),Fu (s:=(B L (Aq L q.2 B1).2).2) rfl,by rw[AK,List.length_singleton],C _,rfl,⟨λ_ _=>rfl⟩⟩) λv3=>(no _ U Y (Gj v0) (Gj v1) (Gj v2) (Gj v3)).elim
   ·have d:As L q.2 Fw=true:=by rwa[EG,Dc rfl]at d
    have hX:GK B L s=(q.1,q.2):=kA aa Z d;have hT:(Aq L (GK B L s).2 [[125]]).2=Au q.2:=by rw[hX];exact congrArg Prod.snd (Ut U (Dc (a:=[125]) d)).1
    refine Fc U (Dz d) ?_;rw[hT,hX];exact At (C0.2 U.e) (Aw (λh=>absurd (DP h) (by show q.1.length≠0;omega)) λ_=>⟨Fu (s:=Au q.2) rfl,rfl,C _,rfl,⟨λi _=>AgS M q.1 i⟩⟩)
 ·have c:As L (Aq L s [[123]]).2 Fw=true:=by rwa[EG,Dc rfl]at c
  have hX:GK B L s=([],(Aq L s [[123]]).2):=kA (QD R.ok) rfl c;have hT:(Aq L (GK B L s).2 [[125]]).2=Au (Aq L s [[123]]).2:=by rw[hX];exact congrArg Prod.snd (Ut R (Dc (a:=[125]) c)).1
  refine Fc R (Dz c) ?_;rw[hT,hX];exact At (C0.2 R.e) (Aw (λ_=>⟨Fu (s:=Au (Aq L s [[123]]).2) rfl,C _⟩) λh=>by cases h)
theorem Aig:∀(L:Ab) (n:Nat) (B:Ab->PF) (AA:EI 88 L n B) (s:RS) (k:Int) (x:Ac) (m a c:Int) (u:Aj),R0 L s->Bb L n s->FG L n B->D8 [.pv u]->(A4 (rV L n B AA u s) 60).call 93 [.ptr 4 0,.ptr (4+1) 0] (Bx (CI++Cl [Bl L s,BW k x m a c (.sl (4+2) 0 1 1),BI [.pv u]] 4)) (4+3) (Gk Tryz.prog 0 4 (4+3) (kW B L s k x m a c u)):=Eq.mpr (by kernel_rfl) Aih
def tN (L:Ab) (n:Nat) (B:Ab->PF) (k:Int) (x:Ac) (m a c:Int) (u:Aj):HA:={X:=RS,gl:=CI,JI:=Ec,ng:=4,k:=3,args:=λ_=>[.ptr 4 0,.ptr (4+1) 0],FE:=λs=>[Bl L s,BW k x m a c (.sl (4+2) 0 1 1),BI [.pv u]],pre:=λs=>R0 L s/\Bb L n s/\D8 [.pv u],out:=λs=>kW B L s k x m a c u,fz:=0,find:=λ_ _=>none}
def fo (B:Ab->PF) (L:Ab) (s:RS) (k:Int) (x:Ac) (n a c:Int) (u:Aj) (q id r nx:Nat):C4:=.gen (Eo B L s) λy=>.br (An y.2.err 0) (.br (Nat.beq y.1.length 0) (.ret (.ptr id 0) [(q,Bl L y.2),(id,BW k x n a c (.sl r 0 1 1)),(r,BI [.pv u])] nx) (.ret (.ptr id 0) [(q,Bl L y.2),(id,BW k x n a c (.AY nx (y.1.length+1) 1)),(r,BI [.pv u]),(nx,K1 u y.1)] (nx+1))) (.AB (CQ L y.2) [(q,F4),(id,M1),(r,BI [.pv u])] nx)
def Ye (L:Ab) (n:Nat) (B:Ab->PF):Gx:=λH nx args=>cond (Ec H) (match args with
 | [p,.ptr id 0]=>ob (L4 H p) λq=>ob (YX H id nx) λlf=>match lf.2 with
  |.sl r 0 1 y=>ob (Wr H r 1 y nx) λl=>match l with
   | [.pv u]=>cond (cond (Nat.blt q.2 nx) (cond (Ju q.2 id) (cond (Ju q.2 r) (Ju id r) false) false) false) (some (.Be (C6 L q.1.1 q.1.2 (λs=>Bb L n s)/\D8 [.pv u]) (fo B L (B8 L q.1.1 q.1.2) lf.1.1.1.1.1 lf.1.1.1.1.2 lf.1.1.1.2 lf.1.1.2 lf.1.2 u q.2 id r nx))) none
   |_=>none
  |_=>none
 |_=>none) none
theorem PD {α:Type} {p:α->Prop} {a b c:α} (C:p a) (B:p b) (y:p c):∀o∈[a,b,c],p o:=λo q=>by
 rcases CS.1 q with rfl|q
 ·exact C
 ·exact Rl B y o q
theorem AcV {α:Type} {p:α->Prop} {a b c d:α} (E:p a) (C:p b) (B:p c) (y:p d):∀o∈[a,b,c,d],p o:=λo q=>by
 rcases CS.1 q with rfl|q
 ·exact E
 ·exact PD C B y o q
theorem Abs {u:Aj} (h:D8 [.pv u]) (ks:Av):IX (K1 u ks):=λi hi=>by
 cases i with
 |zero=>exact⟨(h.h _ (BN ..)).cl,trivial⟩
 |succ i=>show Ba [] ((Bz ks).getD i []) ((Bz ks).getD i []);exact Ny [] ks i
theorem Abr:IX M1:=λa q=>by cases q
theorem Afz {L:Ab} {n:Nat} {B:Ab->PF} (h:EI 88 L n B) (K:FG L n B) (k:Int) (x:Ac) (m a c:Int) (u:Aj) (s:RS) (ids:List Nat):Bo Tryz.prog 93 ((tN L n B k x m a c u).at s ids).AJ:=by
 refine MX _ jM (λH J=>YD H J) (λx=>rfl) (λy o E=>?_) (λy q=>?_) λy q=>⟨(A4 (rV L n B h u y) 60).call,JZ Bu B5 60,Aig L n B h y k x m a c u q.1 q.2.1 K q.2.2⟩
 ·exact PD (p:=λo=>H8 o=false) rfl rfl rfl o E
 ·have C:=q.2.2;exact⟨λ_=>⟨λ_=>⟨trivial,rfl,PD (OT L _) (R7 _ _ _ _ _ trivial) (Vi C)⟩,λ_=>⟨trivial,rfl,AcV (OT L _) (R7 _ _ _ _ _ trivial) (Vi C) (Abs C _)⟩⟩,λ_=>⟨R9 L _,rfl,PD R8 Abr (Vi C)⟩⟩
theorem Aeg {H:Tr Ae} {id nx:Nat} {q:((((Int×Ac)×Int)×Int)×Int)×AV} (h:YX H id nx=some q):∃ty c z n op,H.get id=some (.cells ty c z n op):=by
 obtain⟨o,y,h⟩:=Ag.1 h;split at h
 ·exact⟨_,_,_,_,_,y⟩
 ·cases h
theorem AgM {H:Tr Ae} {r m q nx:Nat} {l:Aj} (h:Wr H r m q nx=some l):∃ty c z n op,H.get r=some (.cells ty c z n op):=by
 obtain⟨o,y,h⟩:=Ag.1 h;split at h
 ·exact⟨_,_,_,_,_,y⟩
 ·cases h
theorem AgK {u:Aj} (h:D8 [.pv u]) (ks:Av) (q:Nat->Nat):CP q (K1 u ks)=K1 u ks:=rfl
theorem Aet {L:Ab} {B:Ab->PF} {s:RS} {k:Int} {x:Ac} {m a c:Int} {u:Aj} (h:D8 [.pv u]) (q id r nx:Nat):hOut (Hn 4 [q,id,r] nx (kW B L s k x m a c u))=hOut (fo B L s k x m a c u q id r nx):=by
 have E:=lz h;show cond (An (Eo B L s).2.err 0) (cond (Nat.beq (Eo B L s).1.length 0) (hOut (Hn 4 [q,id,r] nx (.ret (.ptr (4+1) 0) [Bl L (Eo B L s).2,BW k x m a c (.sl (4+2) 0 1 1),BI [.pv u]] 0))) (hOut (Hn 4 [q,id,r] nx (.ret (.ptr (4+1) 0) [Bl L (Eo B L s).2,BW k x m a c (.AY (4+3) ((Eo B L s).1.length+1) 1),BI [.pv u],K1 u (Eo B L s).1] 1)))) (hOut (Hn 4 [q,id,r] nx (.AB (CQ L (Eo B L s).2) [F4,M1,BI [.pv u]] 0)))=cond (An (Eo B L s).2.err 0) (cond (Nat.beq (Eo B L s).1.length 0) (some (false,.ptr id 0,[(q,Bl L (Eo B L s).2),(id,BW k x m a c (.sl r 0 1 1)),(r,BI [.pv u])],nx)) (some (false,.ptr id 0,[(q,Bl L (Eo B L s).2),(id,BW k x m a c (.AY nx ((Eo B L s).1.length+1) 1)),(r,BI [.pv u]),(nx,K1 u (Eo B L s).1)],nx+1))) (some (true,CQ L (Eo B L s).2,[(q,F4),(id,M1),(r,BI [.pv u])],nx));generalize Eo B L s=y;have M:hOut (Hn 4 [q,id,r] nx (.ret (.ptr (4+1) 0) [Bl L y.2,BW k x m a c (.sl (4+2) 0 1 1),BI [.pv u]] 0))=some (false,.ptr id 0,[(q,Bl L y.2),(id,BW k x m a c (.sl r 0 1 1)),(r,BI [.pv u])],nx):=by show hOut (FV (nx+0) λn=>(λC=>C4.ret (D2 (BP 4 C) 4 (.ptr (4+1) 0)) (C.zip ([Bl L y.2,BW k x m a c (.sl (4+2) 0 1 1),BI [.pv u]].map (CP (BP 4 C)))) n) ([q,id,r]++List.range' nx 0))=_;rw[G5];show some (false,AV.ptr id 0,[(q,Bl L y.2),(id,BW k x m a c (.sl r 0 1 1)),(r,CP (BP 4 [q,id,r]) (BI [.pv u]))],nx)=_;rw[E]
 have K:hOut (Hn 4 [q,id,r] nx (.ret (.ptr (4+1) 0) [Bl L y.2,BW k x m a c (.AY (4+3) (y.1.length+1) 1),BI [.pv u],K1 u y.1] 1))=some (false,.ptr id 0,[(q,Bl L y.2),(id,BW k x m a c (.AY nx (y.1.length+1) 1)),(r,BI [.pv u]),(nx,K1 u y.1)],nx+1):=by show hOut (FV (nx+1) λn=>(λC=>C4.ret (D2 (BP 4 C) 4 (.ptr (4+1) 0)) (C.zip ([Bl L y.2,BW k x m a c (.AY (4+3) (y.1.length+1) 1),BI [.pv u],K1 u y.1].map (CP (BP 4 C)))) n) ([q,id,r]++List.range' nx 1))=_;rw[G5];show some (false,AV.ptr id 0,[(q,Bl L y.2),(id,BW k x m a c (.AY nx (y.1.length+1) 1)),(r,CP (BP 4 [q,id,r,nx]) (BI [.pv u])),(nx,CP (BP 4 [q,id,r,nx]) (K1 u y.1))],nx+1)=_;rw[E,AgK h]
 have J:hOut (Hn 4 [q,id,r] nx (.AB (CQ L y.2) [F4,M1,BI [.pv u]] 0))=some (true,CQ L y.2,[(q,F4),(id,M1),(r,BI [.pv u])],nx):=by show hOut (FV (nx+0) λn=>(λC=>C4.AB (D2 (BP 4 C) 4 (CQ L y.2)) (C.zip ([F4,M1,BI [.pv u]].map (CP (BP 4 C)))) n) ([q,id,r]++List.range' nx 0))=_;rw[G5];show some (true,CQ L y.2,[(q,F4),(id,M1),(r,CP (BP 4 [q,id,r]) (BI [.pv u]))],nx)=_;rw[E]
 rw[M,K,J]
theorem Aes {L:Ab} {B:Ab->PF} {s:RS} {k:Int} {x:Ac} {m a c:Int} {u:Aj} {y id r nx:Nat} {p:Bool} {v:AV} {up:List (Nat×Ae)} {nx':Nat} (h:hOut (fo B L s k x m a c u y id r nx)=some (p,v,up,nx')):∀i∈[y,id,r],∃q∈up,q.1=i:=by
 have h:cond (An (Eo B L s).2.err 0) (cond (Nat.beq (Eo B L s).1.length 0) (some (false,AV.ptr id 0,[(y,Bl L (Eo B L s).2),(id,BW k x m a c (.sl r 0 1 1)),(r,BI [.pv u])],nx)) (some (false,AV.ptr id 0,[(y,Bl L (Eo B L s).2),(id,BW k x m a c (.AY nx ((Eo B L s).1.length+1) 1)),(r,BI [.pv u]),(nx,K1 u (Eo B L s).1)],nx+1))) (some (true,CQ L (Eo B L s).2,[(y,F4),(id,M1),(r,BI [.pv u])],nx))=some (p,v,up,nx'):=h;have fin:∀ {O M K:Ae} {rest:List (Nat×Ae)} {C:Bool} {v0:AV} {n0:Nat},some (C,v0,(y,O)::(id,M)::(r,K)::rest,n0)=some (p,v,up,nx')->∀i∈[y,id,r],∃q∈up,q.1=i:=λ{O M K rest C v0 n0} e=>by injection e with e;injection e with _ e;injection e with _ e;injection e with e _;subst e;exact PD ⟨_,BN ..,rfl⟩ ⟨_,Ca _ (BN ..),rfl⟩ ⟨_,Ca _ (Ca _ (BN ..)),rfl⟩
 cases J:An (Eo B L s).2.err 0 with
 |false=>rw[J]at h;exact fin h
 |true=>
  rw[J,cond_true]at h;cases E:Nat.beq (Eo B L s).1.length 0 with
  |false=>rw[E]at h;exact fin h
  |true=>rw[E]at h;exact fin h
theorem wH {L:Ab} {n:Nat} {B:Ab->PF} (AA:EI 88 L n B) (hB:FG L n B):Bo Tryz.prog 93 (Ye L n B):=by
 intro H nx args hc J;unfold Ye at J;cases R:Ec H with
 |false=>rw[R]at J;cases J
 |true=>
 rw[R,cond_true]at J;split at J
 case h_2=>cases J
 rename_i p id;obtain⟨⟨⟨c0,m0⟩,y⟩,hq,J⟩:=Ag.1 J;obtain⟨⟨⟨⟨⟨⟨k,x⟩,m⟩,a⟩,b⟩,w⟩,hl,J⟩:=Ag.1 J;simp only at J;split at J
 case h_2=>cases J
 rename_i r m';obtain⟨l,hr,J⟩:=Ag.1 J;split at J
 case h_2=>cases J
 rename_i u;obtain⟨C,J⟩:=OU J;injection J with J;subst J;obtain⟨b1,C⟩:=Bf C;obtain⟨W,C⟩:=Bf C;obtain⟨V,U⟩:=Bf C;rw[Co]at b1;have n2:=M5 W;have n3:=M5 V;have n4:=M5 U;obtain⟨Z,ae,cp⟩:=iz hq;obtain⟨ab,af⟩:=uh hl;obtain⟨rfl,O,ad,_⟩:=mC hr;intro pb v up nx' K E F ρ w0 rel;obtain⟨⟨⟨s,ag,aa,hs,Y⟩,M⟩,K⟩:=NU K;subst ag;subst aa;rw[Jf hs]at K;refine NV (S:=tN L n B k x m a b u) (x:=s) (ids:=[y,id,r]) (os:=[Bl L s,BW k x m a b (.sl r 0 1 1),BI [.pv u]]) (args':=[.ptr y 0,.ptr id 0]) (Afz AA hB k x m a b u s [y,id,r]) ⟨hs,Y,M⟩ ?_ rfl ?_ ?_ rfl ?_ ?_ ?_ ?_ ?_ rel ?_
 ·exact jN R (PD (p:=λq:Nat×Ae=>∃ty c z n op,H.get q.1=some (.cells ty c z n op)) cp (Aeg hl) (AgM hr))
 ·have e2:Nat.beq y id=false:=by unfold Ju at W;simpa using W
  have e3:Nat.beq y r=false:=by unfold Ju at V;simpa using V
  have e4:Nat.beq id r=false:=by unfold Ju at U;simpa using U
  show cond (List.any [id,r] (Nat.beq y)) false (cond (List.any [r] (Nat.beq id)) false true)=true;simp only[List.any_cons,List.any_nil,e2,e3,e4,Bool.or_false,cond_false]
 ·show(List.all [y,id,r] λj=>Nat.blt j nx)=true;simp[Co,b1,ab,O]
 ·exact PD (p:=λq:Nat×Ae=>Kr H q.1 q.2) ae af ad
 ·exact⟨⟨rfl,rfl⟩,⟨rfl,rfl⟩,trivial⟩
 ·refine⟨?_,?_,?_,trivial⟩
  ·show(match(((H.set r (BI [.pv u])).set id (BW k x m a b (.sl r 0 1 1))).set y (Bl L s)).get y with
    |none=>False
    |some o=>EO [(4,y),(4+1,id),(4+2,r)] (Bl L s) o)
   rw[Tr.GG];exact k6 _ L s
  ·show(match(((H.set r (BI [.pv u])).set id (BW k x m a b (.sl r 0 1 1))).set y (Bl L s)).get id with
    |none=>False
    |some o=>EO [(4,y),(4+1,id),(4+2,r)] (BW k x m a b (.sl (4+2) 0 1 1)) o)
   rw[Tr.KE _ n2,Tr.GG];exact⟨rfl,rfl,rfl,⟨⟨⟨⟨⟨⟨trivial,rfl,rfl⟩,rfl⟩,rfl,rfl⟩,rfl,rfl⟩,rfl,rfl⟩,trivial⟩,⟨rfl,rfl,rfl,rfl⟩⟩
  ·show(match(((H.set r (BI [.pv u])).set id (BW k x m a b (.sl r 0 1 1))).set y (Bl L s)).get r with
    |none=>False
    |some o=>EO [(4,y),(4+1,id),(4+2,r)] (BI [.pv u]) o)
   rw[Tr.KE _ n3,Tr.KE _ n4,Tr.GG];exact k7 _ M (.inl ⟨_,rfl,rfl⟩)
 ·exact(Aet M y id r nx).trans K
 ·exact Aes K
 ·subst Z;exactλvs h=>h
structure W9 (L:List TK) (n:Nat) (B:List TK->PF):Prop where
 b:Bo Tryz.prog 88 (mF L n B)
 l:Bo Tryz.prog 93 (Ye L n B)
def tn (L:Ab) (n:Nat) (B:Ab->PF):DX:=(88,mF L n B)::(93,Ye L n B)::NW L
theorem Adt {L:Ab} {n:Nat} {B:Ab->PF} (h:W9 L n B):Gi Tryz.prog (tn L n B):=El h.b (El h.l (OY L))
def rM (L:Ab) (n:Nat) (B:Ab->PF) (h:W9 L n B) (s:RS):Ctx:={P:=Tryz.prog,tb:=[],ht:=tn L n B,AA:=Adt h,lp:=λf r=>cond (Nat.beq f 92) (cond (Nat.beq r 2) (some (ml L (CY F0 L) (CY F0 L (B3 L) [] (BE L (dS L s) D6).2) (BE L (dS L s) D6).2 [0,1] 1)) none) none,cut:=λ_ _=>none}
theorem uX {B:Ab->PF} {L:Ab} (q:KF (B L)) (t:TK) (x:Ac):KF (Kz B L t x):=λs=>by
 unfold Kz;exact CN (λ_=>Dk L _ _) λ_=>CN (λ_=>(N4 L _).tr (Dk L _ _)) λ_=>CN (λ_=>q _) λ_=>CN (λ_=>(Dk L _ _).tr ((Ln (YS L) _ _ _).tr (Dk L _ _))) λ_=>
   CN (λ_=>(Dk L _ _).tr ((N5 L _).tr ((G7 L _ _).tr (q _)))) λ_=>(Dk L _ _).tr ((N5 L _).tr ((Dk L _ _).tr ((Ln (VO q) _ _ _).tr (Dk L _ _))))
theorem ow {F:Ab->PF} {L:Ab} (u:PT):∀(k:Nat) (l:Av) (r:RS),CY F L k (u::l) r=(u::(CY F L k l r).1,(CY F L k l r).2)
 |0,l,r=>rfl
 |k+1,l,r=>by
  unfold CY;by_cases c:r.err=0/\As L r Fw=false
  ·rw[Am c,Am c];exact ow u k _ _
  ·rw[Ad c,Ad c]
theorem Agl {y:List (Nat×Nat)} (l:Av) (x:PT) {v:AV} {g:Nat->Aj} (C:g 0=[v]) (hv:JW x v):l.length+1=(l++[x]).length/\AH λi=>i.succ<=l.length+1->Ba y ((Bz (l++[x])).getD i []) (DQ l.length (λi=>(Bz l).getD i []) g i):=by
 refine⟨by rw[AK,List.length_singleton],⟨λi hi=>?_⟩⟩;have q:i<(l++[x]).length:=by rw[AK,List.length_singleton];omega
 by_cases h:i<l.length
 ·have e:DQ l.length (λi=>(Bz l).getD i []) g i=[Bw l[i]]:=RM (λ_=>HI l i h) λh'=>absurd h (by omega);rw[e,HI _ i q,List.getElem_append_left h];exact⟨PI y _,trivial⟩
 ·have B:i=l.length:=by omega
  subst B;have e:DQ l.length (λi=>(Bz l).getD i []) g l.length=[v]:=RM (λh'=>absurd h' (by omega)) λ_=>by rw[Lc];exact C
  rw[e,HI _ _ q,List.getElem_append_right (AM _)];exact⟨by simpa using hv.h y,trivial⟩
theorem AbX {L:Ab} {k n:Int} {x:Ac} {tk:TK} {s:RS} {t:PT×RS} {u:PT} {ks:Av} (h:t=(nd k x n tk (u::ks),s)) (q:s.err=0):Hh L (cP L s) s.nest (.pv [.int .i64 k,.bs x,.int .i64 n,.int .i64 tk.line,.int .i64 tk.Ao,.Ay,.vec 1 (ks.length+1) λi=>cond (Nat.beq i 0) [Bw u] ((Bz ks).getD (i-1) [])]) t:=Yk h q rfl λi hi=>by
  cases i with
  |zero=>exact⟨Bw u,rfl,OC _⟩
  |succ i=>exact⟨Bw (ks[i]'(by simpa using hi)),HI ks i (by simpa using hi),OC _⟩
theorem Adg (u:PT) (l:Av):Ed 1 (l.length+1) (λi=>cond (Nat.beq i 0) [Bw u] ((Bz l).getD (i-1) []))=true:=OX λi hi=>by
 cases i with
 |zero=>rfl
 |succ i=>show Oo 1 ((Bz l).getD i [])=true;rw[HI l i (by omega)];rfl
@[reducible] def dg:TK×RS->TK×RS->Prop:=λ(a q:TK×RS)=>(((((True/\Aa/\Af (3:Int))/\Af (TK.text q.1))/\Aa/\Af (0:Int))/\Aa/\Af (TK.line a.1))/\Aa/\Af (TK.Ao a.1))/\True
@[reducible] def RE:TK×RS->Prop:=λ(a:TK×RS)=>Bn/\RC a
@[reducible] def dh:TK×RS->Prop:=λ(a:TK×RS)=>Bn/\RE a
@[reducible] def di:Ab->TK×RS->Av×RS->Prop:=λ(L:Ab) (a:TK×RS) (q:Av×RS)=>Aa/\Aa/\Aa/\Aa/\(Lz a.2 L q.2)/\Aa/\RS.nest a.2=RS.nest q.2
def QP:=[[(108:UInt8),111,111,112,101,114],[(99:UInt8),108,97,115,115],[(118:UInt8),97,114],[(102:UInt8),110],[(99:UInt8),111,109,112],[(101:UInt8),118,101,110,116],[(109:UInt8),97,105,110]]
@[reducible] def dk:TK×RS->Prop:=λ(a:TK×RS)=>FH/\(Aa/\Aa/\Aa/\Aa/\Af (List.length QP)/\AH λ(i:Nat)=>C1 i (List.length QP)->Af (getD QP i [])/\True)/\(lX a.1)/\(Aa/\True)/\True
def Zx (a:Ab) (b:RS):=RA a (CY F0 a) (CY F0 a (B3 a) [] (Prod.snd (BE a (dS a b) [(123:UInt8)]))) (Prod.snd (BE a (dS a b) [(123:UInt8)]))
def lQ (a:TK) (b:PT):=AV.pv [AV.int .i64 (4:Int),DD a,BX,Ci a,Ch a,AV.Ay,AV.vec 1 1 λ(q:Nat)=>[Cy b]]
def l8:=(Bn/\Bn/\Bn/\((Af (AV.sl 15 0 1 1)/\True)/\True)/\True)
theorem AhN:∀(L:Ab) (n:Nat) (B:Ab->PF),W9 L n B->∀(s:RS) (t:PT×RS),R0 L s->Bb L n s->FG L n B->t=Gm B L s->(True/\Bk L s λ(s:RS)=>BK QP)/\∀(y:TK×RS),y=Hw L s QP->A5 y.2 (Ah (decide (TK.text y.1=[(109:UInt8),97,105,110])) ((ED L y.2 n)/\∀(J:PT×RS),J=C2 B L y.2->A5 J.2 (DL J.1/\RC y/\Cg L J.2 (AV.pv [AV.int .i64 (11:Int),AV.bs [],BX,Ci y.1,Ch y.1,AV.Ay,AV.vec 1 1 λ(x:Nat)=>[Cy J.1]]) t/\True) (Fb L J.2 t.2)) ((Ii L y.2)/\∀(J:TK×RS),J=IE L y.2->A5 J.2 (Ah (decide (TK.text y.1=[(108:UInt8),111,111,112,101,114])) ((JA L J.2)/\∀(C:TK×RS),C=Jy L J.2->A5 C.2 (Cg L C.2 (AV.pv [AV.int .i64 (2:Int),DD J.1,BX,Ci y.1,Ch y.1,AV.Ay,AV.Ay]) t/\True) (BD L C.2 t.2)) (Ah (decide (TK.text y.1=[(118:UInt8),97,114])) ((Ii L J.2)/\∀(C:PT×RS),C=Eg L (Bj L J.2)->A5 C.2 (DL C.1/\DL C.1/\RE y/\(JA L C.2)/\∀(E:TK×RS),E=Jy L C.2->A5 E.2 (Cg L E.2 (AV.pv [AV.int .i64 (6:Int),DD J.1,BX,Ci y.1,Ch y.1,AV.Ay,AV.vec 1 1 λ(x:Nat)=>[Cy C.1]]) t/\True) (BD L E.2 t.2)) (Fb L C.2 t.2)) (Ah (decide (TK.text y.1=[(102:UInt8),110])) ((ED L J.2 n)/\∀(C:PT×RS),C=C2 B L J.2->A5 C.2 (DL C.1/\DL C.1/\RE y/\Cg L C.2 (AV.pv [AV.int .i64 (7:Int),DD J.1,BX,Ci y.1,Ch y.1,AV.Ay,AV.vec 1 1 λ(x:Nat)=>[Cy C.1]]) t/\True) (Fb L C.2 t.2)) (Ah (decide (TK.text y.1=[(99:UInt8),108,97,115,115])) ((True/\Bk L J.2 λ(s:RS)=>BK KV)/\∀(C:TK×RS),C=Hw L J.2 KV->A5 C.2 ((∃(x0:Av×RS),Zx L s x0/\Aa/\(Ie/\(Af (some 11)/\Aa)/\True)/\(Aa/\True)/\di L C x0/\(Aa/\Aa/\Aa/\Aa/\dg y J/\x0.1.length=0)/\dk y)/\∀(x:Av×RS),Zx L s x->(Pn L x.2)/\∀(E:RS),E=Bj L x.2->Pt L E ((Bk L E λ(s:RS)=>(1:Int)≠(0:Int))/\∀(q:TK×RS),q=IE L E->A5 q.2 ((Ii L q.2)/\∀(K:PT×RS),K=Eg L (Bj L q.2)->A5 K.2 (DL K.1/\DL K.1/\Al (bif bif Nat.ble (x.1.length*1) x.1.length then Ed 1 1 λ(x:Nat)=>[lQ q.1 K.1]else false then decide (x.1.length+1<=9223372036854775807/\(x.1.length+1)*8<=140737488355328)else false) ((((Af (DD q.1)/\True/\True/\True)/\True)/\Ih/\Ih/\((True/\True/\Af (AV.AY 16 x.1.length 1)/\True)/\True)/\((True/\True/\Af (AV.AY 16 x.1.length 1)/\True)/\True)/\((Af (DD q.1)/\Gq q.1/\Af (AV.AY 16 x.1.length 1)/\True)/\True)/\True)/\(JA L K.2)/\∀(R:TK×RS),R=Jy L K.2->A5 R.2 (∃(U:Av×RS),Zx L s U/\GN L U.2 x.2/\Aa/\(Ie/\(Af (some 11)/\Aa)/\True)/\(Aa/\Aa/\Aa/\Aa/\(JF x)*1=U.1.length/\AH λ(i:Nat)=>C1 i ((JF x)*1)->Ba [(16,36),(0,0),(1,1),(2,2),(3,3),(4,4),(5,5),(6,6),(7,7),(8,8),(9,9),(10,10),(11,11),(12,12),(13,13)] (LC U.1 i) (DQ x.1.length (λ(i:Nat)=>LC x.1 i) (λ(x:Nat)=>[lQ q.1 K.1]) i))/\di L R U/\(Aa/\Aa/\Aa/\Aa/\dg y J/\Af (some 36)/\x.1.length+1=U.1.length/\Aa)/\dk y) (BD L R.2 t.2))) ((Ih/\True)/\BD L K.2 t.2)) (BD L q.2 t.2)) ((Cs L E)/\∀(q:TK×RS),q=(Cu L E)->Tc x x.1 (Cg L q.2 (AV.pv [AV.int .i64 (3:Int),DD J.1,BX,Ci y.1,Ch y.1,AV.Ay,AV.vec 1 x.1.length λ(i:Nat)=>LC x.1 i]) t/\True))) (BD L C.2 t.2)) ((True/\Bk L J.2 λ(s:RS)=>BK [TT])/\∀(C:TK×RS),C=Hw L J.2 [TT]->A5 C.2 (Ah (decide (TK.text y.1=[(99:UInt8),111,109,112])) ((Ii L C.2)/\∀(E:PT×RS),E=Eh L (Bj L C.2)->A5 E.2 (DL E.1/\DL E.1/\((ED L E.2 n)/\DL E.1)/\∀(q:Av×RS),q=Eo B L (Bj L E.2)->A5 q.2 (Ah (Nat.beq q.1.length 0) (dh y/\Cg L q.2 (AV.pv [AV.int .i64 (8:Int),DD J.1,BX,Ci y.1,Ch y.1,AV.Ay,AV.vec 1 1 λ(x:Nat)=>[Cy E.1]]) t/\True) (dh y/\Al (bif bif Nat.ble ((JF q)*1) (JF q)then Ed 1 (JF q) λ(i:Nat)=>bif Nat.beq i 0 then [Cy E.1]else getD (Bz q.1) (i-1) []else false then true else false) (Cg L q.2 (AV.pv [AV.int .i64 (8:Int),DD J.1,BX,Ci y.1,Ch y.1,AV.Ay,AV.vec 1 (JF q) λ(i:Nat)=>bif Nat.beq i 0 then [Cy E.1]else getD (Bz q.1) (i-1) []]) t/\True))) (RE y/\BD L q.2 t.2)) (Fb L E.2 t.2)) ((Ii L C.2)/\∀(E:PT×RS),E=Eh L (Bj L C.2)->A5 E.2 (DL E.1/\DL E.1/\RE y/\(True/\Bk L E.2 λ(s:RS)=>BK [TT,ZN])/\∀(q:TK×RS),q=Hw L E.2 [TT,ZN]->A5 q.2 (Ah (decide (TK.text q.1=[(111:UInt8),110])) ((ED L q.2 n)/\∀(K:PT×RS),K=C2 B L q.2->A5 K.2 (l8/\Cg L K.2 (AV.pv [AV.int .i64 (10:Int),DD J.1,Ok,Ci y.1,Ch y.1,AV.Ay,AV.vec 1 2 λ(i:Nat)=>Hc i E.1 K.1]) t/\True) (Fb L K.2 t.2)) ((ED L q.2 n)/\∀(K:PT×RS),K=C2 B L q.2->A5 K.2 (l8/\Cg L K.2 (AV.pv [AV.int .i64 (10:Int),DD J.1,BX,Ci y.1,Ch y.1,AV.Ay,AV.vec 1 2 λ(i:Nat)=>Hc i E.1 K.1]) t/\True) (Fb L K.2 t.2))) (BD L q.2 t.2)) (Fb L E.2 t.2))) (BD L C.2 t.2)))))) (BD L J.2 t.2))) (BD L y.2 t.2)
:=by
 delta Cy Bj Bk Gq A5 Bn QP Cs Cg Ci BX BD Cu Ch C1 JA Hc DD Ih GN ED Fb Jy Zx Tc Ie DL Ii IE KV LC TT Pt Pn Ok Hw lQ ZN JF l8 C2;intro L n B AA s t hs hp S ht;simp only[Cd,dg,RC,RE,dh,di,dk,Gq,Bn,KW,Lz,QP,C1,Wd,FH,lX];have s1:=Kb (L:=L) (ws:=CV) hs.ok;have kt:Kp (Aq L s CV).2 t.2:=by rw[ht];unfold Gm;exact EN (P:=λr:PT×RS=>Kp (Aq L s CV).2 r.2) (λ_=>S.k _) λ_=>(Ia L _ 1).tr (uX S.k _ _ _)
 refine Ce (f:=λs=>Aq L s CV) hs (IQ rfl) kt λe1=>?_;have r1:=Jb hs s1 (G7 L _ _) e1;have p1:=Lt hp s1;have hm:=k8 (ws:=CV) hs e1;unfold Gm at ht;refine Aw (λc=>?_) λc=>?_
 ·rw[Am (show(Aq L s CV).1.text=PJ from Bt c)]at ht;exact Ce (f:=B L) r1 p1 (by rw[ht];exact Du _) λe=>NO ht e rfl
 rw[Ad (show¬(Aq L s CV).1.text=PJ from Gj c)]at ht;have cM:¬(Aq L s CV).1.text=PJ:=Gj c;clear c;have s2:=I3 (L:=L) (k:=1) r1.ok (by decide);refine Ce (f:=λs=>A6 L s 1) r1 trivial (by rw[ht];exact uX S.k _ _ _) λe2=>?_;have O:=Jb r1 s2 (Ia L _ 1) e2;have p2:=Lt p1 s2;unfold Kz at ht;refine Aw (λc=>?_) λc=>?_
 ·rw[Am (show(Aq L s CV).1.text=UD from Bt c),sign_one]at ht;exact Ce (f:=λs=>Aq L s [[59]]) O (IQ rfl) (by rw[ht];exact Du _) λe=>MN ht e
 rw[Ad (show¬(Aq L s CV).1.text=UD from Gj c)]at ht;have cL:¬(Aq L s CV).1.text=UD:=Gj c;clear c;refine Aw (λc=>?_) λc=>?_
 ·rw[Am (show(Aq L s CV).1.text=EX from Bt c),sign_one]at ht;have tS:=Ux (L:=L) O.ok;refine Ce (f:=Eg L) O trivial (by rw[ht];exact G7 L _ _) λZ=>⟨F8 _,F8 _,?_⟩;have M:=Fs O tS (N4 L _) Z;exact Ce (f:=λs=>Aq L s [[59]]) M (IQ rfl) (by rw[ht];exact Du _) λe=>(NO ht e rfl).2
 rw[Ad (show¬(Aq L s CV).1.text=EX from Gj c)]at ht;have cV:¬(Aq L s CV).1.text=EX:=Gj c;clear c;refine Aw (λc=>?_) λc=>?_
 ·rw[Am (show(Aq L s CV).1.text=Iq from Bt c)]at ht;exact Ce (f:=B L) O p2 (by rw[ht];exact Du _) λe=>⟨F8 _,NO ht e rfl⟩
 rw[Ad (show¬(Aq L s CV).1.text=Iq from Gj c)]at ht;have cF:¬(Aq L s CV).1.text=Iq:=Gj c;clear c;refine Aw (λc=>?_) λc=>?_
 ·rw[Am (show(Aq L s CV).1.text=Rn from Bt c)]at ht;unfold XX at ht;have kL:∀(k:Nat) (l:Av) (r:RS),Kp r (CY F0 L k l r).2:=Ln (YS L);have kT:Kp (CY F0 L (B3 L) [] (Aq L (dS L s) [[123]]).2).2 t.2:=by rw[ht,<-sign_one];exact Dk L _ _
  have Y:=Kb (L:=L) (ws:=[[123]]) O.ok;refine Ce (f:=λs=>Aq L s [[123]]) O (IQ rfl) ((kL _ _ _).tr kT) λZ=>?_;have M:=Jb O Y (G7 L _ _) Z;have p3:=Lt p2 Y;rw[show BE L (dS L s) [123]=Aq L (dS L s) [[123]]from sign_one _ _ _];refine⟨⟨([],(Aq L (dS L s) [[123]]).2),⟨⟨B3 L,QD M.ok,rfl⟩,QM M.ok (by decide),M⟩,Fu (s:=(Aq L (dS L s) [[123]]).2) rfl,rfl⟩,λx hx=>?_⟩;obtain⟨⟨k,hk,aa⟩,px,rx⟩:=hx;have b1:=px.P4 M.ok (by decide);have b2:=N7 x.1;refine D3 rx rfl (Aw (λd=>?_) λd=>?_)
  ·have d:As L x.2 Fw=false:=by rwa[EH,Dc rfl]at d
   obtain⟨k',rfl,h2⟩:=vG hk aa rx.e d;obtain⟨d0,d1,d2⟩:=RT (by decide) (kG (n:=n)) (l:=x.1) (s:=x.2) px (λ_=>p3) rx.e;have k2:Kp (F0 L x.2).2 t.2:=by refine Kp.tr ?_ kT;rw[<-h2];exact kL _ _ _
   have q1:=I3 (L:=L) (k:=1) rx.ok (by decide);refine Ce (f:=λs=>A6 L s 1) rx (by decide) (((N4 L _).tr (Dk L _ _)).tr k2) λf1=>?_;have g1:=Jb rx q1 (Ia L _ 1) f1;have tS:=Ux (L:=L) g1.ok;refine Ce (f:=Eg L) g1 trivial ((Dk L _ _).tr k2) λf2=>⟨F8 _,F8 _,At ?_ ?_⟩
   ·rw[C5];exact⟨rfl,Bi (by omega)⟩
   have g2:=Fs g1 tS (N4 L _) f2;have e':Aq L (Eg L (A6 L x.2 1).2).2 [[59]]=BE L (Eg L (A6 L x.2 1).2).2 IM:=(sign_one _ _ _).symm;refine Ce (f:=λs=>Aq L s [[59]]) g2 (IQ rfl) (by rw[e'];exact k2) λf3=>?_;have ab:(F0 L x.2).2.err=0:=by show(BE L (Eg L (A6 L x.2 1).2).2 IM).2.err=0;rw[<-e'];exact f3
   exact⟨(x.1++[(F0 L x.2).1],(F0 L x.2).2),⟨⟨k',by have:De L (F0 L x.2).2<De L x.2:=d2;show De L (F0 L x.2).2<k';omega,h2⟩,d1,Fs rx (kG (n:=n) L _ d0) (YS L _) ab⟩,d2,Agl x.1 (F0 L x.2).1 rfl (zV rfl),Fu (by rw[e'];rfl),by rw[AK,List.length_singleton]⟩
  ·have d:As L x.2 Fw=true:=by rwa[EG,Dc rfl]at d
   have hX:=kA hk aa d;have hX:CY F0 L (B3 L) [] (BE L (dS L s) D6).2=(x.1,x.2):=by rw[sign_one];exact hX
   have ht:t=(nd 3 (A6 L (Aq L s CV).2 1).1.text 0 (Aq L s CV).1 x.1,Au x.2):=by rw[ht];show(nd 3 _ 0 _ (CY F0 L (B3 L) [] (BE L (dS L s) D6).2).1,(BE L (CY F0 L (B3 L) [] (BE L (dS L s) D6).2).2 Fw).2)=_;rw[hX];show(nd 3 _ 0 _ x.1,(BE L x.2 Fw).2)=_;rw[yS rx d]
   exact Fc rx (Dz d) (At (jU x.1) (iC (s:=Au x.2) ht rx.e))
 rw[Ad (show¬(Aq L s CV).1.text=Rn from Gj c)]at ht;have cC:¬(Aq L s CV).1.text=Rn:=Gj c;clear c;have Y:=Kb (L:=L) (ws:=[[111,110]]) O.ok;rw[sign_one,show([JS]:List Ac)=[[111,110]]from rfl]at ht;refine Ce (f:=λs=>Aq L s [[111,110]]) O (IQ rfl) (by rw[ht];exact CN (λ_=>(N5 L _).tr ((G7 L _ _).tr (S.k _))) λ_=>(N5 L _).tr ((Dk L _ _).tr ((Ln (VO S.k) _ _ _).tr (Dk L _ _)))) λZ=>?_;have M:=Jb O Y (G7 L _ _) Z;have p3:=Lt p2 Y;have uS:=cZ (L:=L) M.ok;refine Aw (λc=>?_) λc=>?_
 ·have cc:(Aq L s CV).1.text=cq:=Bt c;rw[Ad (by rw[cc];decide)]at ht;unfold XY at ht;refine Ce (f:=Eh L) M trivial (by rw[ht];exact(Dk L _ _).tr ((Ln (VO S.k) _ _ _).tr (Dk L _ _))) λe4=>⟨F8 _,F8 _,?_⟩;have V:=Fs M uS (N5 L _) e4;have p4:=O7 p3 uS;have ht:t=(nd 8 (A6 L (Aq L s CV).2 1).1.text 0 (Aq L s CV).1 ((Eh L (Aq L (dS L s) [[111,110]]).2).1::(Eo B L (Eh L (Aq L (dS L s) [[111,110]]).2).2).1),(Eo B L (Eh L (Aq L (dS L s) [[111,110]]).2).2).2):=by rw[ht,ow,sign_one,sign_one];rfl
  have hl:(Eo B L (Eh L (Aq L (dS L s) [[111,110]]).2).2).2=t.2:=by rw[ht]
  refine⟨⟨I5 V p4,F8 _⟩,λy hy=>?_⟩;rw[Jf V]at hy;subst hy;refine Aw (λW=>Aw (λc=>?_) λc=>?_) λW=>?_
  ·have:(Eo B L (Eh L (Aq L (dS L s) [[111,110]]).2).2).1=[]:=List.eq_nil_of_length_eq_zero (DP c);refine(NO (y:=(Eh L (Aq L (dS L s) [[111,110]]).2).1) ?_ (C0.1 W) rfl).2;rw[ht,this];rfl
  ·exact At (Adg _ _) (AbX ht (C0.1 W))
  ·exact Vp (hl▸Du _) (Dy.1 W)
 ·have cc:(Aq L s CV).1.text=WR:=by
   have c:=Gj c;simp only[CV,CS,List.not_mem_nil,or_false]at hm;rcases hm with h|h|h|h|h|h|h
   ·exact absurd h cL
   ·exact absurd h cC
   ·exact absurd h cV
   ·exact absurd h cF
   ·exact absurd h c
   ·exact h
   ·exact absurd h cM
  rw[Am cc]at ht;unfold Yr at ht;refine Ce (f:=Eh L) M trivial (by rw[ht];exact(G7 L _ _).tr (S.k _)) λe4=>⟨F8 _,F8 _,?_⟩;have V:=Fs M uS (N5 L _) e4;have p4:=O7 p3 uS;have s5:=Kb (L:=L) (ws:=LP) V.ok;refine Ce (f:=λs=>Aq L s LP) V (IQ rfl) (by rw[ht];exact S.k _) λW=>?_;have r5:=Jb V s5 (G7 L _ _) W;have p5:=Lt p4 s5;refine Aw (λc=>?_) λc=>?_
  ·rw[Am (show _=JS from Bt c)]at ht;exact Ce (f:=B L) r5 p5 (by rw[ht];exact Du _) λe=>(OW ht e rfl rfl).2
  ·rw[Ad (show¬_=JS from Gj c)]at ht;exact Ce (f:=B L) r5 p5 (by rw[ht];exact Du _) λe=>(OW ht e rfl rfl).2
theorem AhM:∀(L:Ab) (n:Nat) (B:Ab->PF) (AA:W9 L n B) (s:RS) (t:PT×RS),R0 L s->Bb L n s->FG L n B->t=Gm B L s->(A4 (rM L n B AA s) 60).call 60 [.ptr 4 0] (Bx (CI++Cl [Bl L s] 4)) (4+1) (Hj L t):=Eq.mpr (by kernel_rfl) AhN
theorem Afl {L:Ab} {n:Nat} {B:Ab->PF} (h:EI 88 L n B) (q:FG L n B):Bo Tryz.prog 60 (mF L n (Gm B)):=Ib λs C y=>⟨rM L n B ⟨h.f,wH h q⟩ s,60,rfl,Bu,B5,λt ht=>AhM L n B ⟨h.f,wH h q⟩ s t C y q ht⟩
end Go.Proofs.YtlmmbanfhjaioaaGreatDoor
end
end
