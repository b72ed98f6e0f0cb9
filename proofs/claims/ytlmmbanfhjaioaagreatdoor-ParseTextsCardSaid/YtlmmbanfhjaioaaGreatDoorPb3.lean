/- Laid by program out of its parts: PbQ, PbR, PbS. -/
import Derived.Test.YtlmmbanfhjaioaaGreatDoorPb2
noncomputable section
set_option linter.unusedVariables false
set_option linter.unusedSimpArgs false
section
set_option maxRecDepth 100000
set_option maxHeartbeats 2000000
open Go Go.Ev
namespace Go.Proofs.YtlmmbanfhjaioaaGreatDoor
def KQ (a:List AV) (ks:List PT):Ac:=.cells 71 .leaf (.rows 1 λi=>cond (Nat.beq i 0) [.pv a] ((BA ks).getD (i-1) [])) (ks.length+1) true
def MW:Ac:=.cells 100 .leaf (.CC []) 7 false
def Gv (B:List TK->PF) (L:List TK) (s:RS):List PT×RS:=Bz (Dn B) L (B7 L) [] (Al L s [[123]]).2
def Ec (B:List TK->PF) (L:List TK) (s:RS):List PT×RS:=((Gv B L s).1,(Al L (Gv B L s).2 [[125]]).2)
def ou (B:List TK->PF) (L:List TK) (s:RS) (k:Int) (x:List UInt8) (n a c:Int) (u:List AV):HO:=.gen (Ec B L s) λy=>.br (Ak y.2.err 0) (.br (Nat.beq y.1.length 0) (.ret (.ptr (4+1) 0) [Bl L y.2,BV k x n a c (.sl (4+2) 0 1 1),BH [.pv u]] 0) (.ret (.ptr (4+1) 0) [Bl L y.2,BV k x n a c (.AJ (4+3) (y.1.length+1) 1),BH [.pv u],KQ u y.1] 1)) (.AA (CG L y.2) [FO,MW,BH [.pv u]] 0)
def Agl (s:St) (id:Nat):Bool:=match s.H.get id with
 |some (.cells el c z N op)=>match cellOf c z 6 with
  |some (.sl _ _ _ _)=>true
  |_=>false
 |_=>false
structure gO (L:List TK) (f:Nat->List PT->RS->List PT×RS) (t:List PT×RS) (s0:RS) (x:List PT×RS):Prop where
 k:∃k,Cn L x.2<k/\f k x.1 x.2=t
 p:GL L 0 4 s0 x
 r:R0 L x.2
 n:1<=x.1.length
def Aoj (L:List TK) (u:List AV) (f:Nat->List PT->RS->List PT×RS) (t:List PT×RS) (s0:RS):CV:={X:=List PT×RS,T:=λs _ x=>MV s [0,1,5],H:=λs n0 x=>(s.nx,KQ u x.1)::(4,Bl L x.2)::(4+1,zR s (4+1) (.AJ s.nx (x.1.length+1) 1))::TC s [4,4+1],nx:=λs _=>s.nx+1,I:=λs x=>gO L f t s0 x,m:=λx=>Cn L x.2}
def wU (L:List TK) (n:Nat) (B:List TK->PF) (h:ED 88 L n B) (u:List AV) (s:RS):Ctx:={P:=Tryz.prog,tb:=[],ht:=Tx 88 L n B,Am:=Wz h,lp:=λf r=>cond (Nat.beq f 93) (cond (Nat.beq r 3) (some (Aoj L u (Bz (Dn B) L) (Gv B L s) (Al L s [[123]]).2)) none) none,cut:=λ_ _=>none,pl:=λf r s=>cond (Nat.beq r 3) (Agl s (4+1)) false,fr:=λf r=>cond (Nat.beq r 7) [7] []}
theorem Wm {L:List TK} {s:RS} {p:RS->Prop} {α:Type} {f:RS->α×RS} {K X:α×RS->Prop} (h:R0 L s) (q:p s) (C:(f s).2.err=0->K (f s)) (B:(f s).2.err≠0->X (f s)):CU L (cP L s) s.nest p/\∀y,y=f (B5 L (cP L s) s.nest)->Ad (Ak y.2.err 0) (K y) (X y):=⟨I5 h q,λy hy=>by rw[hy,Ji h];exact Aj (λe=>C (BL.1 e)) λe=>B (BU.1 e)⟩
theorem W9 {L:List TK} {y T:RS} {n:Nat} {P:Prop} (E:Kp y T) (q:y.err≠0) (hP:P):Ad (Ak T.err 0) (Ap (Nat.beq n 0) False) ((Ep L y=Ep L T/\El L y=El L T/\y.err=T.err)/\P):=by
 obtain⟨C,B⟩:=E.e q;refine Aj (λe=>absurd (BL.1 e) (by rw[C];exact q)) λ_=>⟨⟨?_,?_,C.symm⟩,hP⟩
 ·unfold Ep;rw[B]
 ·unfold El;rw[B]
theorem z4 {F:List TK->PF} {L:List TK} {k:Nat} {l:List PT} {r:RS} {t:List PT×RS} (C:Cn L r<k) (q:Bz F L k l r=t) (B:r.err=0) (c:Ah L r C5=false):∃y,k=y+1/\Bz F L y (l++[(F L r).1]) (F L r).2=t:=by
 cases k with
 |zero=>omega
 |succ k=>unfold Bz at q;rw[if_pos ⟨B,c⟩]at q;exact⟨k,rfl,q⟩
theorem oU {F:List TK->PF} {L:List TK} {k:Nat} {l:List PT} {r:RS} {t:List PT×RS} (y:Cn L r<k) (q:Bz F L k l r=t) (c:Ah L r C5=true):t=(l,r):=by
 cases k with
 |zero=>omega
 |succ k=>unfold Bz at q;rw[if_neg (by rw[c];rintro⟨_,h⟩;cases h)]at q;exact q.symm
theorem pD {L:List TK} {s:RS} {ws:List (List UInt8)} (h:R0 L s) (e:(Al L s ws).2.err=0):(Al L s ws).1.text∈ws:=by
 cases hb:ws.any (Ah L s)with
 |false=>rw[show(Al L s ws).2.err=4 from(fZ h hb).2]at e;cases e
 |true=>obtain⟨w,hw,q⟩:=List.any_eq_true.1 hb;rw[show Al L s ws=(Aq L s,Ai s)from(Vb h hb).1];show(Aq L s).text∈ws;rw[Lf q];exact hw
theorem dB {x:PT} {v:AV} (q:List (Nat×Nat)) (h:JO x v):Option.rec (motive:=λ_=>Prop) True (λval=>AR q val v) ((BA [x]).getD 0 [])[0]?:=by have:(BA [x]).getD 0 []=[Bv x]:=HF [x] 0 (by simp);rw[this];exact h.h q
theorem AcV {k n:Int} {x:List UInt8} {tk:TK} {y:PT} {g:Nat->List AV} (q:g 0=[Bv y]):JO (nd k x n tk [y]) (.pv [.int .i64 k,.bs x,.int .i64 n,.int .i64 tk.line,.int .i64 tk.Ag,.As,.vec 1 1 g]):=Vj λB=>oH rfl λi hi=>by
 obtain rfl:i=0:=by simp at hi;omega
 exact q
theorem AjS {q:List (Nat×Nat)} {u:List AV} (hu:∀q,AR q (.pv u) (.pv u)) (l:List PT):∀i,AH q (cond (Nat.beq i 0) [.pv u] ((BA l).getD (i-1) [])) (cond (Nat.beq i 0) [.pv u] ((BA l).getD (i-1) []))
 |0=>⟨hu q,trivial⟩
 |i+1=>Ns q l i
theorem eg {y:List (Nat×Nat)} {u:List AV} (hu:∀y,AR y (.pv u) (.pv u)) (l:List PT) (x:PT) {v:AV} {g:Nat->List AV} (C:g 0=[v]) (hv:JO x v):l.length+1+1=(l++[x]).length+1/\Au λi=>i.succ<=l.length+1+1->AH y (cond (Nat.beq i 0) [.pv u] ((BA (l++[x])).getD (i-1) [])) (B0 (l.length+1) (λi=>cond (Nat.beq i 0) [.pv u] ((BA l).getD (i-1) [])) g i):=by
 refine⟨by rw[List.length_append,List.length_singleton],⟨λi hi=>?_⟩⟩;cases i with
 |zero=>have e:B0 (l.length+1) (λi=>cond (Nat.beq i 0) [.pv u] ((BA l).getD (i-1) [])) g 0=[.pv u]:=LM (λ_=>rfl) λh=>absurd (Nat.succ_pos _) h;rw[e];exact⟨hu y,trivial⟩
 |succ i=>
  have q:i<(l++[x]).length:=by rw[List.length_append,List.length_singleton];omega
  show AH y ((BA (l++[x])).getD i []) _;by_cases h:i<l.length
  ·have e:B0 (l.length+1) (λi=>cond (Nat.beq i 0) [.pv u] ((BA l).getD (i-1) [])) g (i+1)=[Bv l[i]]:=LM (λ_=>HF l i h) λh'=>absurd (by omega) h';rw[e,HF _ i q,List.getElem_append_left h];exact⟨Qc y _,trivial⟩
  ·have B:i=l.length:=by omega
   subst B;have e:B0 (l.length+1) (λi=>cond (Nat.beq i 0) [.pv u] ((BA l).getD (i-1) [])) g (l.length+1)=[v]:=LM (λh'=>absurd h' (by omega)) λ_=>by rw[Nat.sub_self];exact C
   rw[e,HF _ _ q,List.getElem_append_right (Nat.le_refl _)];exact⟨by simpa using hv.h y,trivial⟩
def LB (a:List PT×RS):=(a.1.length+1+1)
@[reducible] def tt:List PT×RS->Prop:=λ(a:List PT×RS)=>a.1.length+1+1<=9223372036854775807/\(LB a)*8<=140737488355328
@[reducible] def jM:List AV->Prop:=λ(u:List AV)=>Aa/\Aa/\Aa/\Aa/\True/\AH [(0,0),(1,1),(2,2),(3,3),(4,4),(5,5),(6,6)] u u
@[reducible] def YI:List AV->Prop:=λ(u:List AV)=>jM u/\True
def Pu:=[(27,25),(9,9),(0,0),(1,1),(2,2),(3,3),(4,4),(5,5),(6,6)]
@[reducible] def tz:List AV->Prop:=λ(u:List AV)=>True/\AH Pu u u
@[reducible] def jN:List AV->Prop:=λ(u:List AV)=>Mc/\(Aa/\Aa/\Aa/\Aa/\((((A8/\True)/\True)/\True)/\True)/\True)/\YI u
@[reducible] def jO:List TK->PT×RS->List PT×RS->Prop:=λ(L:List TK) (a:PT×RS) (q:List PT×RS)=>Aa/\Aa/\Aa/\Aa/\(Lq a.2 L q.2)/\Aa/\RS.nest a.2=RS.nest q.2
def Ma (a:List TK) (b:List TK->PF) (c:RS):=Prod.snd (Al a (Prod.snd (Gv b a c)) [[(125:UInt8)]])
def q3 (a:List TK) (b:RS) (c:List TK->PF) (d:RS):=((Aa/\(Aa/\Ep a b=Ep a (Ma a c d))/\(Aa/\El a b=El a (Ma a c d))/\(Aa/\RS.err b=RS.err (Ma a c d))/\True)/\True)
@[reducible] def YJ:List TK->(List TK->PF)->RS->List AV->TK×RS->Prop:=λ(L:List TK) (B:List TK->PF) (s:RS) (u:List AV) (a:TK×RS)=>Aa/\(q3 L a.2 B s)/\jN u
def Uf (a:List TK) (b:List TK->PF) (c:RS):=Ad (Ak (RS.err (Ma a b c)) (0:Int)) (Ap (Nat.beq (List.length (Prod.fst (Gv b a c))) 0) False)
@[reducible] def jP:List TK->(List TK->PF)->RS->List AV->PT×RS->Prop:=λ(L:List TK) (B:List TK->PF) (s:RS) (u:List AV) (a:PT×RS)=>(A8/\True)/\Uf L B s (Aa/\(q3 L a.2 B s)/\jN u)
def Up (a:List TK) (b:List TK->PF) (c:RS) (d:Nat):=List.getD (List.drop (Int.toNat (RS.at_ (Ma a b c))) a) d TK.zero
@[reducible] def VS:List TK->(List TK->PF)->RS->TK×RS->Prop:=λ(L:List TK) (B:List TK->PF) (s:RS) (a:TK×RS)=>Aa/\Aa/\Aa/\Aa/\(True/\Aa/\DO a.2 L=List.length (List.drop (Int.toNat (RS.at_ (Ma L B s))) L)/\Au λ(i:Nat)=>AM i (DO a.2 L)->(Aa/\TK.kind (C8 a.2 L i)=TK.kind (Up L B s i))/\TK.text (C8 a.2 L i)=TK.text (Up L B s i)/\(Aa/\TK.num (C8 a.2 L i)=TK.num (Up L B s i))/\(Aa/\TK.line (C8 a.2 L i)=TK.line (Up L B s i))/\(Aa/\TK.Ag (C8 a.2 L i)=TK.Ag (Up L B s i))/\True)/\Aa/\RS.nest a.2=RS.nest (Ma L B s)
def PU (a:List AV):=tz a
@[reducible] def tu:List TK->Int->List UInt8->Int->Int->Int->List AV->PT×RS->List PT×RS->Prop:=λ(L:List TK) (k:Int) (x:List UInt8) (m a c:Int) (u:List AV) (y:PT×RS) (q:List PT×RS)=>jO L y q/\(Aa/\Aa/\Aa/\Aa/\(J6 k x m a c)/\Ab (some 25)/\Aa/\2=q.1.length+1/\Aa)/\Fy/\(Aa/\Aa/\Aa/\Aa/\PU u)/\(Aa/\True)/\(Aa/\Aa/\Aa/\Aa/\Ab (On)/\Au λ(i:Nat)=>B8 i (On)->Ab (List.getD I7 i [])/\True)/\(Aa/\True)/\(Aa/\True)/\(Aa/\True)/\(Aa/\True)/\True
def Uj:=[List.getD I7 0 [],List.getD I7 1 [],List.getD I7 2 [],List.getD I7 3 []]
@[reducible] def tv:List TK->Int->List UInt8->Int->Int->Int->List AV->List PT×RS->PT×RS->List PT×RS->Prop:=λ(L:List TK) (k:Int) (x:List UInt8) (m a c:Int) (u:List AV) (B:List PT×RS) (y:PT×RS) (q:List PT×RS)=>jO L y q/\(Aa/\Aa/\Aa/\Aa/\(J6 k x m a c)/\Ab (some 43)/\B.1.length+1+1=q.1.length+1/\Aa)/\Fy/\(Aa/\Aa/\Aa/\Aa/\True/\AH [(27,43),(9,9),(0,0),(1,1),(2,2),(3,3),(4,4),(5,5),(6,6)] u u)/\(Aa/\True)/\(Aa/\Aa/\Aa/\Aa/\List.length Uj=On/\Au λ(i:Nat)=>B8 i (List.length Uj)->List.getD Uj i []=List.getD I7 i []/\True)/\(Aa/\True)/\(Aa/\True)/\(Aa/\True)/\(Aa/\True)/\True
def IA (a:List TK) (b:List TK->PF) (c:RS):=gO a (Bz (Dn b) a) (Gv b a c) (Prod.snd (Al a c [[(123:UInt8)]]))
def Lv:=((Ab (some 4)/\Aa)/\(Ab (some 5)/\Aa)/\(Ab (some 9)/\0=0/\4=4/\4=4)/\True)
def T5 (a:List PT×RS):=Ap (bif bif Nat.ble ((a.1.length+1)*1) (a.1.length+1)then true else false then decide (tt a)else false)
def T6 (a:Nat) (b:List AV) (c:List PT):=AH [(27,43),(9,9),(0,0),(1,1),(2,2),(3,3),(4,4),(5,5),(6,6)] (bif Nat.beq a 0 then [AV.pv b]else List.getD (BA c) (a-1) [])
def Uh (a:List PT×RS) (b:List AV) (c:List PT):=B0 (a.1.length+1) (λ(q:Nat)=>bif Nat.beq q 0 then [AV.pv b]else List.getD (BA c) (q-1) [])
def Rd:=AV.int .i64 (9:Int)
def Om:=AV.int .i64 (1:Int)
def eK (a:TK) (b:PT):=AV.pv [Rd,AV.bs [],AV.int .i64 (Int.negSucc 0),B3 a,B4 a,AV.As,AV.vec 1 1 λ(q:Nat)=>[Cs b]]
def eB (a:TK) (b:PT):=AV.pv [Rd,AV.bs [],AV.int .i64 (3:Int),B3 a,B4 a,AV.As,AV.vec 1 1 λ(q:Nat)=>[Cs b]]
def eC (a:TK) (b:PT):=AV.pv [Rd,AV.bs [],AV.int .i64 (2:Int),B3 a,B4 a,AV.As,AV.vec 1 1 λ(q:Nat)=>[Cs b]]
def rM:=AH [(7,27),(0,0),(1,1),(2,2),(3,3),(4,4),(5,5),(6,6)]
def eM (a:TK) (b:PT):=AV.pv [Rd,AV.bs [],Om,B3 a,B4 a,AV.As,AV.vec 1 1 λ(q:Nat)=>[Cs b]]
def eN (a:TK) (b:PT):=AV.pv [Rd,AV.bs [],BX,B3 a,B4 a,AV.As,AV.vec 1 1 λ(q:Nat)=>[Cs b]]
def UN (a:List TK):=tv a
@[reducible] def tw:List TK->Nat->(List TK->PF)->RS->Int->List UInt8->Int->Int->Int->List AV->List PT×RS->Prop:=λ(L:List TK) (n:Nat) (B:List TK->PF) (s:RS) (k:Int) (x:List UInt8) (m a c:Int) (u:List AV) (q:List PT×RS)=>(PR L q.2)/\∀(y:RS),y=Bg L q.2->PA L y ((True/\Bh L y λ(s:RS)=>BK Uj)/\∀(C:TK×RS),C=Hm L y Uj->AO C.2 ((Ey L C.2 n)/\∀(y:PT×RS),y=CQ B L C.2->AO y.2 (Dx y.1/\Mm C/\Ad (decide (TK.text C.1=List.getD [List.getD [[(99:UInt8),114,101,97,116,101],[(115:UInt8),116,97,114,116],[(115:UInt8),116,111,112],[(100:UInt8),101,115,116,114,111,121]] 0 [],List.getD [[(99:UInt8),114,101,97,116,101],[(115:UInt8),116,97,114,116],[(115:UInt8),116,111,112],[(100:UInt8),101,115,116,114,111,121]] 1 [],List.getD [[(99:UInt8),114,101,97,116,101],[(115:UInt8),116,97,114,116],[(115:UInt8),116,111,112],[(100:UInt8),101,115,116,114,111,121]] 2 [],List.getD [[(99:UInt8),114,101,97,116,101],[(115:UInt8),116,97,114,116],[(115:UInt8),116,111,112],[(100:UInt8),101,115,116,114,111,121]] 3 []] 0 [])) (T5 q (∃(E:List PT×RS),IA L B s E/\DX L E.2 q.2/\Aa/\Lv/\(Aa/\Aa/\Aa/\Aa/\(LB q)*1=E.1.length+1/\Au λ(i:Nat)=>B8 i ((LB q)*1)->T6 i u E.1 (Uh q u q.1 (λ(x:Nat)=>[eN C.1 y.1]) i))/\UN L k x m a c u q y E)) (Ad (decide (TK.text C.1=List.getD [List.getD [[(99:UInt8),114,101,97,116,101],[(115:UInt8),116,97,114,116],[(115:UInt8),116,111,112],[(100:UInt8),101,115,116,114,111,121]] 0 [],List.getD [[(99:UInt8),114,101,97,116,101],[(115:UInt8),116,97,114,116],[(115:UInt8),116,111,112],[(100:UInt8),101,115,116,114,111,121]] 1 [],List.getD [[(99:UInt8),114,101,97,116,101],[(115:UInt8),116,97,114,116],[(115:UInt8),116,111,112],[(100:UInt8),101,115,116,114,111,121]] 2 [],List.getD [[(99:UInt8),114,101,97,116,101],[(115:UInt8),116,97,114,116],[(115:UInt8),116,111,112],[(100:UInt8),101,115,116,114,111,121]] 3 []] 1 [])) (T5 q (∃(E:List PT×RS),IA L B s E/\DX L E.2 q.2/\Aa/\Lv/\(Aa/\Aa/\Aa/\Aa/\(LB q)*1=E.1.length+1/\Au λ(i:Nat)=>B8 i ((LB q)*1)->T6 i u E.1 (Uh q u q.1 (λ(x:Nat)=>[eM C.1 y.1]) i))/\UN L k x m a c u q y E)) (Ad (decide (TK.text C.1=List.getD [List.getD [[(99:UInt8),114,101,97,116,101],[(115:UInt8),116,97,114,116],[(115:UInt8),116,111,112],[(100:UInt8),101,115,116,114,111,121]] 0 [],List.getD [[(99:UInt8),114,101,97,116,101],[(115:UInt8),116,97,114,116],[(115:UInt8),116,111,112],[(100:UInt8),101,115,116,114,111,121]] 1 [],List.getD [[(99:UInt8),114,101,97,116,101],[(115:UInt8),116,97,114,116],[(115:UInt8),116,111,112],[(100:UInt8),101,115,116,114,111,121]] 2 [],List.getD [[(99:UInt8),114,101,97,116,101],[(115:UInt8),116,97,114,116],[(115:UInt8),116,111,112],[(100:UInt8),101,115,116,114,111,121]] 3 []] 2 [])) (T5 q (∃(E:List PT×RS),IA L B s E/\DX L E.2 q.2/\Aa/\Lv/\(Aa/\Aa/\Aa/\Aa/\(LB q)*1=E.1.length+1/\Au λ(i:Nat)=>B8 i ((LB q)*1)->T6 i u E.1 (Uh q u q.1 (λ(x:Nat)=>[eC C.1 y.1]) i))/\UN L k x m a c u q y E)) (Ad (decide (TK.text C.1=List.getD [List.getD [[(99:UInt8),114,101,97,116,101],[(115:UInt8),116,97,114,116],[(115:UInt8),116,111,112],[(100:UInt8),101,115,116,114,111,121]] 0 [],List.getD [[(99:UInt8),114,101,97,116,101],[(115:UInt8),116,97,114,116],[(115:UInt8),116,111,112],[(100:UInt8),101,115,116,114,111,121]] 1 [],List.getD [[(99:UInt8),114,101,97,116,101],[(115:UInt8),116,97,114,116],[(115:UInt8),116,111,112],[(100:UInt8),101,115,116,114,111,121]] 2 [],List.getD [[(99:UInt8),114,101,97,116,101],[(115:UInt8),116,97,114,116],[(115:UInt8),116,111,112],[(100:UInt8),101,115,116,114,111,121]] 3 []] 3 [])) (T5 q (∃(E:List PT×RS),IA L B s E/\DX L E.2 q.2/\Aa/\Lv/\(Aa/\Aa/\Aa/\Aa/\(LB q)*1=E.1.length+1/\Au λ(i:Nat)=>B8 i ((LB q)*1)->T6 i u E.1 (Uh q u q.1 (λ(x:Nat)=>[eB C.1 y.1]) i))/\UN L k x m a c u q y E)) (T5 q (∃(E:List PT×RS),IA L B s E/\DX L E.2 q.2/\Aa/\Lv/\(Aa/\Aa/\Aa/\Aa/\(LB q)*1=E.1.length+1/\Au λ(i:Nat)=>B8 i ((LB q)*1)->T6 i u E.1 (Uh q u q.1 (λ(x:Nat)=>[eK C.1 y.1]) i))/\UN L k x m a c u q y E)))))) (jP L B s u y)) (Uf L B s (YJ L B s u C))) ((Co L y)/\∀(C:TK×RS),C=(Cp L y)->Ap (Ak (RS.err (Ma L B s)) (0:Int)) (Ad (Nat.beq (List.length (Prod.fst (Gv B L s))) 0) (Aa/\(Jc/\True)/\VS L B s C/\(Aa/\Aa/\Aa/\Aa/\(J6 k x m a c)/\False)/\YI u) (Aa/\(Jc/\True)/\VS L B s C/\(Aa/\Aa/\Aa/\Aa/\(J6 k x m a c)/\Ab (some 27)/\q.1.length+1=List.length (Prod.fst (Gv B L s))+1/\Aa)/\(Aa/\Aa/\Aa/\Aa/\True/\rM u u)/\(Aa/\Aa/\Aa/\Aa/\q.1.length+1=List.length (Prod.fst (Gv B L s))+1/\Au λ(i:Nat)=>B8 i (Fh q)->rM (bif Nat.beq i 0 then [AV.pv u]else List.getD (BA (Prod.fst (Gv B L s))) (i-1) []) (bif Nat.beq i 0 then [AV.pv u]else List.getD (BA q.1) (i-1) []))/\True)))
def US (a:List PT):=List.getD (BA a) 0 []
def UM (a:List TK):=tw a
def UW (a:List TK):=tu a
theorem Alr:∀(L:List TK) (n:Nat) (B:List TK->PF),ED (88:FuncId) L n B->∀(s:RS) (k:Int) (x:List UInt8) (m a c:Int) (u:List AV),R0 L s->Av L n s->FG L n B->D2 [AV.pv u]->(True/\Bh L s λ(s:RS)=>BK KL)/\∀(y:TK×RS),y=Hm L s KL->AO y.2 ((PR L y.2)/\∀(S:RS),S=Bg L y.2->PA L S ((True/\Bh L S λ(s:RS)=>BK I7)/\∀(y:TK×RS),y=Hm L S I7->AO y.2 ((Ey L y.2 n)/\∀(E:PT×RS),E=CQ B L y.2->AO E.2 (Dx E.1/\Mm y/\Ad (decide (TK.text y.1=List.getD [[(99:UInt8),114,101,97,116,101],[(115:UInt8),116,97,114,116],[(115:UInt8),116,111,112],[(100:UInt8),101,115,116,114,111,121]] 0 [])) ((∃(K:List PT×RS),IA L B s K/\Aa/\Lv/\(Aa/\Aa/\Aa/\2=K.1.length+1/\PU u/\Option.rec True (λ(val:AV)=>AR Pu val (eN y.1 E.1)) (US K.1)[0]?)/\UW L k x m a c u E K)/\∀(J:List PT×RS),IA L B s J->UM L n B s k x m a c u J) (Ad (decide (TK.text y.1=List.getD [[(99:UInt8),114,101,97,116,101],[(115:UInt8),116,97,114,116],[(115:UInt8),116,111,112],[(100:UInt8),101,115,116,114,111,121]] 1 [])) ((∃(K:List PT×RS),IA L B s K/\Aa/\Lv/\(Aa/\Aa/\Aa/\2=K.1.length+1/\PU u/\Option.rec True (λ(val:AV)=>AR Pu val (eM y.1 E.1)) (US K.1)[0]?)/\UW L k x m a c u E K)/\∀(J:List PT×RS),IA L B s J->UM L n B s k x m a c u J) (Ad (decide (TK.text y.1=List.getD [[(99:UInt8),114,101,97,116,101],[(115:UInt8),116,97,114,116],[(115:UInt8),116,111,112],[(100:UInt8),101,115,116,114,111,121]] 2 [])) ((∃(K:List PT×RS),IA L B s K/\Aa/\Lv/\(Aa/\Aa/\Aa/\2=K.1.length+1/\PU u/\Option.rec True (λ(val:AV)=>AR Pu val (eC y.1 E.1)) (US K.1)[0]?)/\UW L k x m a c u E K)/\∀(J:List PT×RS),IA L B s J->UM L n B s k x m a c u J) (Ad (decide (TK.text y.1=List.getD [[(99:UInt8),114,101,97,116,101],[(115:UInt8),116,97,114,116],[(115:UInt8),116,111,112],[(100:UInt8),101,115,116,114,111,121]] 3 [])) ((∃(K:List PT×RS),IA L B s K/\Aa/\Lv/\(Aa/\Aa/\Aa/\2=K.1.length+1/\PU u/\Option.rec True (λ(val:AV)=>AR Pu val (eB y.1 E.1)) (US K.1)[0]?)/\UW L k x m a c u E K)/\∀(J:List PT×RS),IA L B s J->UM L n B s k x m a c u J) ((∃(K:List PT×RS),IA L B s K/\Aa/\Lv/\(Aa/\Aa/\Aa/\2=K.1.length+1/\PU u/\Option.rec True (λ(val:AV)=>AR Pu val (eK y.1 E.1)) (US K.1)[0]?)/\UW L k x m a c u E K)/\∀(J:List PT×RS),IA L B s J->UM L n B s k x m a c u J))))) (jP L B s u E)) (Uf L B s (YJ L B s u y))) ((Co L S)/\∀(y:TK×RS),y=(Cp L S)->Ap (Ak (RS.err (Ma L B s)) (0:Int)) (Ad (Nat.beq (List.length (Prod.fst (Gv B L s))) 0) (Aa/\(Jc/\True)/\VS L B s y/\(Aa/\Aa/\Aa/\Aa/\(J6 k x m a c)/\Ab (some 6)/\0=0/\1=1/\1=1)/\YI u) (Aa/\(Jc/\True)/\VS L B s y/\(Aa/\Aa/\Aa/\Aa/\(J6 k x m a c)/\False)/\jM u/\(Aa/\True)/\True)))) (Uf L B s (YJ L B s u y))
:=by
 delta Cs I7 Bg Bh AO Co IA B3 B4 Ma Cp Lv BX J6 Ey Pu Uf Dx Rd Jc KL PA PR Om Hm eK eB eC CQ US eM eN PU UM UW Mm;intro L n B Am s k x m a c u hs hp hB hu;simp only[A9,tt,Yw,jM,YI,tz,jN,jO,YJ,jP,VS,tu,tv,tw,LB,DG,A8,GY,Pu,Mc,Lq,Ma,q3,Uf,IB,AM,C8,DO,Up,I7,B8,J6,Fy,On,PU,Uj,Cs,Bg,Bh,AO,Co,IA,B3,B4,Cp,Lv,BX,DX,T5,T6,Uh,Ey,Dx,Rd,Jc,Fh,PA,PR,Om,Hm,eK,eB,eC,CQ,rM,eM,eN,UN,Mm];have M:∀σ,AR σ (.pv u) (.pv u):=λσ=>(hu.h _ (List.mem_cons_self ..)).vm σ;have C:∀σ,AH σ u u:=M;have kB:=WK (L:=L) hB.k;have kL:∀(k:Nat) (l:List PT) (r:RS),Kp r (Bz (Dn B) L k l r).2:=Lh kB;have kT:Kp (Gv B L s).2 (Al L (Gv B L s).2 [[125]]).2:=GP L _ _;have ae:=cI (n:=n) hB.g;refine Wm (f:=λs=>Al L s [[123]]) hs (IQ rfl) (λe1=>?_) λe1=>W9 ((kL _ _ _).tr kT) e1 (C _);have s1:=Iz (L:=L) (ws:=[[123]]) hs.ok;have R:=Jf hs s1 (GP L _ _) e1;have p1:=Ll hp s1;have V:∀(k:Nat) (l:List PT) (r:RS),R0 L r->GL L 0 4 (Al L s [[123]]).2 (l,r)->Cn L r<k->Bz (Dn B) L k l r=Gv B L s->Ah L r C5=false-> Kp (Al L r Bf).2 (Al L (Gv B L s).2 [[125]]).2/\((Al L r Bf).2.err=0->R0 L (Al L r Bf).2/\Av L n (Al L r Bf).2/\Kp (B L (Al L r Bf).2).2 (Al L (Gv B L s).2 [[125]]).2/\((B L (Al L r Bf).2).2.err=0-> gO L (Bz (Dn B) L) (Gv B L s) (Al L s [[123]]).2 (l++[(Dn B L r).1],(B L (Al L r Bf).2).2)/\Cn L (B L (Al L r Bf).2).2<Cn L r)):=λk l r hr px hk af c=>by
  obtain⟨k',rfl,h2⟩:=z4 hk af hr.e c;obtain⟨d0,d1,d2⟩:=OM (by decide) ae (l:=l) (s:=r) px (λ_=>p1) hr.e;have k2:Kp (B L (Al L r Bf).2).2 (Al L (Gv B L s).2 [[125]]).2:=by refine Kp.tr ?_ kT;rw[<-h2];exact kL _ _ _
  refine⟨(hB.k _).tr k2,λe=>?_⟩;have s2:=Iz (L:=L) (ws:=Bf) hr.ok;have r2:=Jf hr s2 (GP L _ _) e;have p2:=Ll d0 s2;refine⟨r2,p2,k2,λe'=>⟨⟨⟨k',by have:Cn L (B L (Al L r Bf).2).2<Cn L r:=d2;show Cn L (B L (Al L r Bf).2).2<k';omega,h2⟩,d1,Fj r2 (hB.g L _ p2) (hB.k _) e',by rw[List.length_append,List.length_singleton];omega⟩,d2⟩⟩
 have ab:GL L 0 4 (Al L s [[123]]).2 ([],(Al L s [[123]]).2):=M3 R.ok (by decide);refine DV R rfl (Aj (λc=>?_) λc=>?_)
 ·have c:Ah L (Al L s [[123]]).2 C5=false:=by rwa[Bool.not_eq_true',CH rfl]at c
  obtain⟨k1,k2⟩:=V (B7 L) [] _ R ab (Kz R.ok) rfl c;refine Wm (f:=λs=>Al L s Bf) R (IQ rfl) (λW=>?_) λW=>W9 k1 W (C _);obtain⟨r2,p2,k3,k4⟩:=k2 W;have ht:=pD R W;refine Wm (f:=B L) r2 p2 (λe3=>⟨FQ _,?_⟩) λe3=>W9 k3 e3 (C _);obtain⟨k5,_⟩:=k4 e3;have O:∀(r:RS) (i:Int) (y:PT×RS),R0 L r->(Al L r Bf).2.err=0->y=B L (Al L r Bf).2->Iw (Al L r Bf).1.text=i->∀g:Nat->List AV,g 0=[Bv y.1]->JO (Dn B L r).1 (.pv [.int .i64 9,.bs [],.int .i64 i,.int .i64 (Al L r Bf).1.line,.int .i64 (Al L r Bf).1.Ag,.As,.vec 1 1 g]):=λr i y _ _ hy hi g hg=>by subst hi;subst hy;exact AcV hg
  have no:∀(r:RS),R0 L r->(Al L r Bf).2.err=0->(Al L r Bf).1.text≠fw->(Al L r Bf).1.text≠gC->(Al L r Bf).1.text≠gD->(Al L r Bf).1.text≠fx->False:=λr hr e n1 n2 n3 n4=>by
   have:=pD hr e;simp only[Bf,List.mem_cons,List.not_mem_nil,or_false]at this;rcases this with h|h|h|h
   ·exact n1 h
   ·exact n2 h
   ·exact n3 h
   ·exact n4 h
  refine Aj (λw0=>⟨⟨([(Dn B L (Al L s [[123]]).2).1],(B L (Al L (Al L s [[123]]).2 Bf).2).2),k5,⟨rfl,C _,dB _ (O (Al L s [[123]]).2 0 _ R W rfl (by rw[show(Al L (Al L s [[123]]).2 Bf).1.text=fw from of_decide_eq_true w0];rfl) _ rfl)⟩,Fk (s:=(B L (Al L (Al L s [[123]]).2 Bf).2).2) rfl,rfl,C _⟩,λq hq=>?_⟩) λw0=>Aj (λw1=>⟨⟨([(Dn B L (Al L s [[123]]).2).1],(B L (Al L (Al L s [[123]]).2 Bf).2).2),k5,⟨rfl,C _,dB _ (O (Al L s [[123]]).2 1 _ R W rfl (by rw[show(Al L (Al L s [[123]]).2 Bf).1.text=gC from of_decide_eq_true w1];rfl) _ rfl)⟩,Fk (s:=(B L (Al L (Al L s [[123]]).2 Bf).2).2) rfl,rfl,C _⟩,λq hq=>?_⟩) λw1=>Aj (λw2=>⟨⟨([(Dn B L (Al L s [[123]]).2).1],(B L (Al L (Al L s [[123]]).2 Bf).2).2),k5,⟨rfl,C _,dB _ (O (Al L s [[123]]).2 2 _ R W rfl (by rw[show(Al L (Al L s [[123]]).2 Bf).1.text=gD from of_decide_eq_true w2];rfl) _ rfl)⟩,Fk (s:=(B L (Al L (Al L s [[123]]).2 Bf).2).2) rfl,rfl,C _⟩,λq hq=>?_⟩) λw2=>Aj (λw3=>⟨⟨([(Dn B L (Al L s [[123]]).2).1],(B L (Al L (Al L s [[123]]).2 Bf).2).2),k5,⟨rfl,C _,dB _ (O (Al L s [[123]]).2 3 _ R W rfl (by rw[show(Al L (Al L s [[123]]).2 Bf).1.text=fx from of_decide_eq_true w3];rfl) _ rfl)⟩,Fk (s:=(B L (Al L (Al L s [[123]]).2 Bf).2).2) rfl,rfl,C _⟩,λq hq=>?_⟩) λw3=>(no _ R W (of_decide_eq_false w0) (of_decide_eq_false w1) (of_decide_eq_false w2) (of_decide_eq_false w3)).elim
  all_goals
   obtain⟨⟨k',aa,Z⟩,pq,U,nq⟩:=hq;have b1:=pq.DU s1.ok (by decide);have b2:=Kx q.1;refine DV U rfl (Aj (λd=>?_) λd=>?_)
   ·have d:Ah L q.2 C5=false:=by rwa[Bool.not_eq_true',CH rfl]at d
    obtain⟨j1,j2⟩:=V k' q.1 q.2 U pq aa Z d;refine Wm (f:=λs=>Al L s Bf) U (IQ rfl) (λY=>?_) λY=>W9 j1 Y (C _);obtain⟨q2,ad,j3,j4⟩:=j2 Y;refine Wm (f:=B L) q2 ad (λf3=>⟨FQ _,?_⟩) λf3=>W9 j3 f3 (C _);obtain⟨j5,j6⟩:=j4 f3;exact Aj (λv0=>An (decide_eq_true (by omega)) ⟨(q.1++[(Dn B L q.2).1],(B L (Al L q.2 Bf).2).2),j5,j6,eg M q.1 (Dn B L q.2).1 rfl (O q.2 0 _ U Y rfl (by rw[show(Al L q.2 Bf).1.text=fw from of_decide_eq_true v0];rfl) _ rfl),Fk (s:=(B L (Al L q.2 Bf).2).2) rfl,by rw[List.length_append,List.length_singleton],C _,rfl,⟨λ_ _=>rfl⟩⟩) λv0=>Aj (λv1=>An (decide_eq_true (by omega)) ⟨(q.1++[(Dn B L q.2).1],(B L (Al L q.2 Bf).2).2),j5,j6,eg M q.1 (Dn B L q.2).1 rfl (O q.2 1 _ U Y rfl (by rw[show(Al L q.2 Bf).1.text=gC from of_decide_eq_true v1];rfl) _ rfl),Fk (s:=(B L (Al L q.2 Bf).2).2) rfl,by rw[List.length_append,List.length_singleton],C _,rfl,⟨λ_ _=>rfl⟩⟩) λv1=>Aj (λv2=>An (decide_eq_true (by omega)) ⟨(q.1++[(Dn B L q.2).1],(B L (Al L q.2 Bf).2).2),j5,j6,eg M q.1 (Dn B L q.2).1 rfl (O q.2 2 _ U Y rfl (by rw[show(Al L q.2 Bf).1.text=gD from of_decide_eq_true v2];rfl) _ rfl),Fk (s:=(B L (Al L q.2 Bf).2).2) rfl,by rw[List.length_append,List.length_singleton],C _,rfl,⟨λ_ _=>rfl⟩⟩) λv2=>Aj (λv3=>An (decide_eq_true (by omega)) ⟨(q.1++[(Dn B L q.2).1],(B L (Al L q.2 Bf).2).2),j5,j6,eg M q.1 (Dn B L q.2).1 rfl (O q.2 3 _ U Y rfl (by rw[show(Al L q.2 Bf).1.text=fx from of_decide_eq_true v3];rfl) _ rfl),Fk (s:=(B L (Al L q.2 Bf).2).2) rfl,by rw[List.length_append,List.length_singleton],C _,rfl,⟨λ_ _=>rfl⟩⟩) λv3=>(no _ U Y (of_decide_eq_false v0) (of_decide_eq_false v1) (of_decide_eq_false v2) (of_decide_eq_false v3)).elim
   ·have d:Ah L q.2 C5=true:=by rwa[Bool.not_eq_false',CH rfl]at d
    have hX:Gv B L s=(q.1,q.2):=oU aa Z d;have hT:(Al L (Gv B L s).2 [[125]]).2=Ai q.2:=by rw[hX];exact congrArg Prod.snd (Vb U (CH (a:=[125]) d)).1
    refine E6 U (Bb d) ?_;rw[hT,hX];exact An (BL.2 U.e) (Aj (λh=>absurd (Nat.eq_of_beq_eq_true h) (by show q.1.length≠0;omega)) λ_=>⟨Fk (s:=Ai q.2) rfl,rfl,C _,rfl,⟨λi _=>AjS M q.1 i⟩⟩)
 ·have c:Ah L (Al L s [[123]]).2 C5=true:=by rwa[Bool.not_eq_false',CH rfl]at c
  have hX:Gv B L s=([],(Al L s [[123]]).2):=oU (Kz R.ok) rfl c;have hT:(Al L (Gv B L s).2 [[125]]).2=Ai (Al L s [[123]]).2:=by rw[hX];exact congrArg Prod.snd (Vb R (CH (a:=[125]) c)).1
  refine E6 R (Bb c) ?_;rw[hT,hX];exact An (BL.2 R.e) (Aj (λ_=>⟨Fk (s:=Ai (Al L s [[123]]).2) rfl,C _⟩) λh=>by cases h)
theorem Alq:∀(L:List TK) (n:Nat) (B:List TK->PF) (Am:ED 88 L n B) (s:RS) (k:Int) (x:List UInt8) (m a c:Int) (u:List AV),R0 L s->Av L n s->FG L n B->D2 [.pv u]->(AG (wU L n B Am u s) 60).call 93 [.ptr 4 0,.ptr (4+1) 0] (AU (Cm++A0 [Bl L s,BV k x m a c (.sl (4+2) 0 1 1),BH [.pv u]] 4)) (4+3) (Cz Tryz.prog 0 4 (4+3) (ou B L s k x m a c u)):=Eq.mpr (by kernel_rfl) Alr
def xz (L:List TK) (n:Nat) (B:List TK->PF) (k:Int) (x:List UInt8) (m a c:Int) (u:List AV):Ea:={X:=RS,gl:=Cm,G2:=DM,ng:=4,k:=3,args:=λ_=>[.ptr 4 0,.ptr (4+1) 0],Dv:=λs=>[Bl L s,BV k x m a c (.sl (4+2) 0 1 1),BH [.pv u]],pre:=λs=>R0 L s/\Av L n s/\D2 [.pv u],out:=λs=>ou B L s k x m a c u,fz:=0,find:=λ_ _=>none}
def lC (B:List TK->PF) (L:List TK) (s:RS) (k:Int) (x:List UInt8) (n a c:Int) (u:List AV) (q id r nx:Nat):Cv:=.gen (Ec B L s) λy=>.br (Ak y.2.err 0) (.br (Nat.beq y.1.length 0) (.ret (.ptr id 0) [(q,Bl L y.2),(id,BV k x n a c (.sl r 0 1 1)),(r,BH [.pv u])] nx) (.ret (.ptr id 0) [(q,Bl L y.2),(id,BV k x n a c (.AJ nx (y.1.length+1) 1)),(r,BH [.pv u]),(nx,KQ u y.1)] (nx+1))) (.AA (CG L y.2) [(q,FO),(id,MW),(r,BH [.pv u])] nx)
def ZM (L:List TK) (n:Nat) (B:List TK->PF):Da:=λH nx args=>cond (DM H) (match args with
 | [p,.ptr id 0]=>ob (LS H p) λq=>ob (cG H id nx) λlf=>match lf.2 with
  |.sl r 0 1 y=>ob (XE H r 1 y nx) λl=>match l with
   | [.pv u]=>cond (cond (Nat.blt q.2 nx) (cond (Jx q.2 id) (cond (Jx q.2 r) (Jx id r) false) false) false) (some (.A6 (CU L q.1.1 q.1.2 (λs=>Av L n s)/\D2 [.pv u]) (lC B L (B5 L q.1.1 q.1.2) lf.1.1.1.1.1 lf.1.1.1.1.2 lf.1.1.1.2 lf.1.1.2 lf.1.2 u q.2 id r nx))) none
   |_=>none
  |_=>none
 |_=>none) none
theorem P8 {α:Type} {p:α->Prop} {a b c:α} (C:p a) (B:p b) (y:p c):∀o∈[a,b,c],p o:=λo q=>by
 rcases List.mem_cons.1 q with rfl|q
 ·exact C
 ·exact R2 B y o q
theorem AfA {α:Type} {p:α->Prop} {a b c d:α} (E:p a) (C:p b) (B:p c) (y:p d):∀o∈[a,b,c,d],p o:=λo q=>by
 rcases List.mem_cons.1 q with rfl|q
 ·exact E
 ·exact P8 C B y o q
theorem Aef {u:List AV} (h:D2 [.pv u]) (ks:List PT):HA (KQ u ks):=λi hi=>by
 cases i with
 |zero=>exact⟨(h.h _ (List.mem_cons_self ..)).cl,trivial⟩
 |succ i=>show AH [] ((BA ks).getD i []) ((BA ks).getD i []);exact Ns [] ks i
theorem Aee:HA MW:=λa q=>by cases q
theorem Aii {L:List TK} {n:Nat} {B:List TK->PF} (h:ED 88 L n B) (J:FG L n B) (k:Int) (x:List UInt8) (m a c:Int) (u:List AV) (s:RS) (ids:List Nat):AD Tryz.prog 93 ((xz L n B k x m a c u).at s ids).AE:=by
 refine JZ _ nR (λH E=>Wt H E) (λx=>rfl) (λy o C=>?_) (λy q=>?_) λy q=>⟨(AG (wU L n B h u y) 60).call,Is AW Bc 60,Alq L n B h y k x m a c u q.1 q.2.1 J q.2.2⟩
 ·exact P8 (p:=λo=>Hf o=false) rfl rfl rfl o C
 ·have hu:=q.2.2;exact⟨λ_=>⟨λ_=>⟨trivial,rfl,P8 (OS L _) (SW _ _ _ _ _ trivial) (V8 hu)⟩,λ_=>⟨trivial,rfl,AfA (OS L _) (SW _ _ _ _ _ trivial) (V8 hu) (Aef hu _)⟩⟩,λ_=>⟨SY L _,rfl,P8 SX Aee (V8 hu)⟩⟩
theorem AgT {H:Tr Ac} {id nx:Nat} {q:((((Int×List UInt8)×Int)×Int)×Int)×AV} (h:cG H id nx=some q):∃ty c z n op,H.get id=some (.cells ty c z n op):=by
 obtain⟨o,y,h⟩:=Ae.1 h;split at h
 ·exact⟨_,_,_,_,_,y⟩
 ·cases h
theorem AjO {H:Tr Ac} {r m q nx:Nat} {l:List AV} (h:XE H r m q nx=some l):∃ty c z n op,H.get r=some (.cells ty c z n op):=by
 obtain⟨o,y,h⟩:=Ae.1 h;split at h
 ·exact⟨_,_,_,_,_,y⟩
 ·cases h
theorem AjL {u:List AV} (h:D2 [.pv u]) (ks:List PT) (q:Nat->Nat):Cy q (KQ u ks)=KQ u ks:=rfl
theorem Ag3 {L:List TK} {B:List TK->PF} {s:RS} {k:Int} {x:List UInt8} {m a c:Int} {u:List AV} (h:D2 [.pv u]) (q id r nx:Nat):hOut (FM 4 [q,id,r] nx (ou B L s k x m a c u))=hOut (lC B L s k x m a c u q id r nx):=by
 have E:=rX h;show cond (Ak (Ec B L s).2.err 0) (cond (Nat.beq (Ec B L s).1.length 0) (hOut (FM 4 [q,id,r] nx (.ret (.ptr (4+1) 0) [Bl L (Ec B L s).2,BV k x m a c (.sl (4+2) 0 1 1),BH [.pv u]] 0))) (hOut (FM 4 [q,id,r] nx (.ret (.ptr (4+1) 0) [Bl L (Ec B L s).2,BV k x m a c (.AJ (4+3) ((Ec B L s).1.length+1) 1),BH [.pv u],KQ u (Ec B L s).1] 1)))) (hOut (FM 4 [q,id,r] nx (.AA (CG L (Ec B L s).2) [FO,MW,BH [.pv u]] 0)))=cond (Ak (Ec B L s).2.err 0) (cond (Nat.beq (Ec B L s).1.length 0) (some (false,.ptr id 0,[(q,Bl L (Ec B L s).2),(id,BV k x m a c (.sl r 0 1 1)),(r,BH [.pv u])],nx)) (some (false,.ptr id 0,[(q,Bl L (Ec B L s).2),(id,BV k x m a c (.AJ nx ((Ec B L s).1.length+1) 1)),(r,BH [.pv u]),(nx,KQ u (Ec B L s).1)],nx+1))) (some (true,CG L (Ec B L s).2,[(q,FO),(id,MW),(r,BH [.pv u])],nx));generalize Ec B L s=y;have M:hOut (FM 4 [q,id,r] nx (.ret (.ptr (4+1) 0) [Bl L y.2,BV k x m a c (.sl (4+2) 0 1 1),BH [.pv u]] 0))=some (false,.ptr id 0,[(q,Bl L y.2),(id,BV k x m a c (.sl r 0 1 1)),(r,BH [.pv u])],nx):=by show hOut (EY (nx+0) λn=>(λC=>Cv.ret (DD (BI 4 C) 4 (.ptr (4+1) 0)) (C.zip ([Bl L y.2,BV k x m a c (.sl (4+2) 0 1 1),BH [.pv u]].map (Cy (BI 4 C)))) n) ([q,id,r]++List.range' nx 0))=_;rw[FL];show some (false,AV.ptr id 0,[(q,Bl L y.2),(id,BV k x m a c (.sl r 0 1 1)),(r,Cy (BI 4 [q,id,r]) (BH [.pv u]))],nx)=_;rw[E]
 have K:hOut (FM 4 [q,id,r] nx (.ret (.ptr (4+1) 0) [Bl L y.2,BV k x m a c (.AJ (4+3) (y.1.length+1) 1),BH [.pv u],KQ u y.1] 1))=some (false,.ptr id 0,[(q,Bl L y.2),(id,BV k x m a c (.AJ nx (y.1.length+1) 1)),(r,BH [.pv u]),(nx,KQ u y.1)],nx+1):=by show hOut (EY (nx+1) λn=>(λC=>Cv.ret (DD (BI 4 C) 4 (.ptr (4+1) 0)) (C.zip ([Bl L y.2,BV k x m a c (.AJ (4+3) (y.1.length+1) 1),BH [.pv u],KQ u y.1].map (Cy (BI 4 C)))) n) ([q,id,r]++List.range' nx 1))=_;rw[FL];show some (false,AV.ptr id 0,[(q,Bl L y.2),(id,BV k x m a c (.AJ nx (y.1.length+1) 1)),(r,Cy (BI 4 [q,id,r,nx]) (BH [.pv u])),(nx,Cy (BI 4 [q,id,r,nx]) (KQ u y.1))],nx+1)=_;rw[E,AjL h]
 have J:hOut (FM 4 [q,id,r] nx (.AA (CG L y.2) [FO,MW,BH [.pv u]] 0))=some (true,CG L y.2,[(q,FO),(id,MW),(r,BH [.pv u])],nx):=by show hOut (EY (nx+0) λn=>(λC=>Cv.AA (DD (BI 4 C) 4 (CG L y.2)) (C.zip ([FO,MW,BH [.pv u]].map (Cy (BI 4 C)))) n) ([q,id,r]++List.range' nx 0))=_;rw[FL];show some (true,CG L y.2,[(q,FO),(id,MW),(r,Cy (BI 4 [q,id,r]) (BH [.pv u]))],nx)=_;rw[E]
 rw[M,K,J]
theorem Ag2 {L:List TK} {B:List TK->PF} {s:RS} {k:Int} {x:List UInt8} {m a c:Int} {u:List AV} {y id r nx:Nat} {p:Bool} {v:AV} {up:List (Nat×Ac)} {nx':Nat} (h:hOut (lC B L s k x m a c u y id r nx)=some (p,v,up,nx')):∀i∈[y,id,r],∃q∈up,q.1=i:=by
 have h:cond (Ak (Ec B L s).2.err 0) (cond (Nat.beq (Ec B L s).1.length 0) (some (false,AV.ptr id 0,[(y,Bl L (Ec B L s).2),(id,BV k x m a c (.sl r 0 1 1)),(r,BH [.pv u])],nx)) (some (false,AV.ptr id 0,[(y,Bl L (Ec B L s).2),(id,BV k x m a c (.AJ nx ((Ec B L s).1.length+1) 1)),(r,BH [.pv u]),(nx,KQ u (Ec B L s).1)],nx+1))) (some (true,CG L (Ec B L s).2,[(y,FO),(id,MW),(r,BH [.pv u])],nx))=some (p,v,up,nx'):=h;have fin:∀ {O M K:Ac} {rest:List (Nat×Ac)} {C:Bool} {v0:AV} {n0:Nat},some (C,v0,(y,O)::(id,M)::(r,K)::rest,n0)=some (p,v,up,nx')->∀i∈[y,id,r],∃q∈up,q.1=i:=λ{O M K rest C v0 n0} e=>by injection e with e;injection e with _ e;injection e with _ e;injection e with e _;subst e;exact P8 ⟨_,List.mem_cons_self ..,rfl⟩ ⟨_,List.mem_cons_of_mem _ (List.mem_cons_self ..),rfl⟩ ⟨_,List.mem_cons_of_mem _ (List.mem_cons_of_mem _ (List.mem_cons_self ..)),rfl⟩
 cases J:Ak (Ec B L s).2.err 0 with
 |false=>rw[J]at h;exact fin h
 |true=>
  rw[J,cond_true]at h;cases E:Nat.beq (Ec B L s).1.length 0 with
  |false=>rw[E]at h;exact fin h
  |true=>rw[E]at h;exact fin h
theorem AaG {L:List TK} {n:Nat} {B:List TK->PF} (Am:ED 88 L n B) (hB:FG L n B):AD Tryz.prog 93 (ZM L n B):=by
 intro H nx args hc J;unfold ZM at J;cases R:DM H with
 |false=>rw[R]at J;cases J
 |true=>
 rw[R,cond_true]at J;split at J
 case h_2=>cases J
 rename_i p id;obtain⟨⟨⟨c0,m0⟩,y⟩,hq,J⟩:=Ae.1 J;obtain⟨⟨⟨⟨⟨⟨k,x⟩,m⟩,a⟩,b⟩,w⟩,hl,J⟩:=Ae.1 J;simp only at J;split at J
 case h_2=>cases J
 rename_i r m';obtain⟨l,hr,J⟩:=Ae.1 J;split at J
 case h_2=>cases J
 rename_i u;obtain⟨C,J⟩:=OU J;injection J with J;subst J;obtain⟨b1,C⟩:=A4 C;obtain⟨W,C⟩:=A4 C;obtain⟨V,U⟩:=A4 C;rw[Nat.blt_eq]at b1;have n2:=MZ W;have n3:=MZ V;have n4:=MZ U;obtain⟨Z,ae,cp⟩:=nC hq;obtain⟨ab,af⟩:=zN hl;obtain⟨rfl,O,ad,_⟩:=rZ hr;intro pb v up nx' K E F ρ w0 rel;obtain⟨⟨⟨s,ag,aa,hs,Y⟩,M⟩,K⟩:=LY K;subst ag;subst aa;rw[Ji hs]at K;refine NO (S:=xz L n B k x m a b u) (x:=s) (ids:=[y,id,r]) (os:=[Bl L s,BV k x m a b (.sl r 0 1 1),BH [.pv u]]) (args':=[.ptr y 0,.ptr id 0]) (Aii Am hB k x m a b u s [y,id,r]) ⟨hs,Y,M⟩ ?_ rfl ?_ ?_ rfl ?_ ?_ ?_ ?_ ?_ rel ?_
 ·exact nS R (P8 (p:=λq:Nat×Ac=>∃ty c z n op,H.get q.1=some (.cells ty c z n op)) cp (AgT hl) (AjO hr))
 ·have e2:Nat.beq y id=false:=by unfold Jx at W;simpa using W
  have e3:Nat.beq y r=false:=by unfold Jx at V;simpa using V
  have e4:Nat.beq id r=false:=by unfold Jx at U;simpa using U
  show cond (List.any [id,r] (Nat.beq y)) false (cond (List.any [r] (Nat.beq id)) false true)=true;simp only[List.any_cons,List.any_nil,e2,e3,e4,Bool.or_false,cond_false]
 ·show(List.all [y,id,r] λj=>Nat.blt j nx)=true;simp[Nat.blt_eq,b1,ab,O]
 ·exact P8 (p:=λq:Nat×Ac=>Kh H q.1 q.2) ae af ad
 ·exact⟨⟨rfl,rfl⟩,⟨rfl,rfl⟩,trivial⟩
 ·refine⟨?_,?_,?_,trivial⟩
  ·show(match(((H.set r (BH [.pv u])).set id (BV k x m a b (.sl r 0 1 1))).set y (Bl L s)).get y with
    |none=>False
    |some o=>Ed [(4,y),(4+1,id),(4+2,r)] (Bl L s) o)
   rw[Tr.F7];exact pA _ L s
  ·show(match(((H.set r (BH [.pv u])).set id (BV k x m a b (.sl r 0 1 1))).set y (Bl L s)).get id with
    |none=>False
    |some o=>Ed [(4,y),(4+1,id),(4+2,r)] (BV k x m a b (.sl (4+2) 0 1 1)) o)
   rw[Tr.Ks _ n2,Tr.F7];exact⟨rfl,rfl,rfl,⟨⟨⟨⟨⟨⟨trivial,rfl,rfl⟩,rfl⟩,rfl,rfl⟩,rfl,rfl⟩,rfl,rfl⟩,trivial⟩,⟨rfl,rfl,rfl,rfl⟩⟩
  ·show(match(((H.set r (BH [.pv u])).set id (BV k x m a b (.sl r 0 1 1))).set y (Bl L s)).get r with
    |none=>False
    |some o=>Ed [(4,y),(4+1,id),(4+2,r)] (BH [.pv u]) o)
   rw[Tr.Ks _ n3,Tr.Ks _ n4,Tr.F7];exact pC _ M (.inl ⟨_,rfl,rfl⟩)
 ·exact(Ag3 M y id r nx).trans K
 ·exact Ag2 K
 ·subst Z;exactλvs h=>h
structure Yj (L:List TK) (n:Nat) (B:List TK->PF):Prop where
 b:AD Tryz.prog 88 (mF L n B)
 l:AD Tryz.prog 93 (ZM L n B)
def y8 (L:List TK) (n:Nat) (B:List TK->PF):Cq:=(88,mF L n B)::(93,ZM L n B)::NP L
theorem Af6 {L:List TK} {n:Nat} {B:List TK->PF} (h:Yj L n B):Db Tryz.prog (y8 L n B):=BN h.b (BN h.l (O0 L))
def wI (L:List TK) (n:Nat) (B:List TK->PF) (h:Yj L n B) (s:RS):Ctx:={P:=Tryz.prog,tb:=[],ht:=y8 L n B,Am:=Af6 h,lp:=λf r=>cond (Nat.beq f 92) (cond (Nat.beq r 2) (some (sY L (Bz EI L) (Bz EI L (B7 L) [] (Aw L (dS L s) BP).2) (Aw L (dS L s) BP).2 [0,1] 1)) none) none,cut:=λ_ _=>none}
theorem zD {B:List TK->PF} {L:List TK} (q:KF (B L)) (t:TK) (x:List UInt8):KF (K7 B L t x):=λs=>by
 unfold K7;exact CE (λ_=>De L _ _) λ_=>CE (λ_=>(NV L _).tr (De L _ _)) λ_=>CE (λ_=>q _) λ_=>CE (λ_=>(De L _ _).tr ((Lh (cA L) _ _ _).tr (De L _ _))) λ_=>
   CE (λ_=>(De L _ _).tr ((NW L _).tr ((GP L _ _).tr (q _)))) λ_=>(De L _ _).tr ((NW L _).tr ((De L _ _).tr ((Lh (WK q) _ _ _).tr (De L _ _))))
theorem uc {F:List TK->PF} {L:List TK} (u:PT):∀(k:Nat) (l:List PT) (r:RS),Bz F L k (u::l) r=(u::(Bz F L k l r).1,(Bz F L k l r).2)
 |0,l,r=>rfl
 |k+1,l,r=>by
  unfold Bz;by_cases c:r.err=0/\Ah L r C5=false
  ·rw[if_pos c,if_pos c];exact uc u k _ _
  ·rw[if_neg c,if_neg c]
theorem Aju {y:List (Nat×Nat)} (l:List PT) (x:PT) {v:AV} {g:Nat->List AV} (C:g 0=[v]) (hv:JO x v):l.length+1=(l++[x]).length/\Au λi=>i.succ<=l.length+1->AH y ((BA (l++[x])).getD i []) (B0 l.length (λi=>(BA l).getD i []) g i):=by
 refine⟨by rw[List.length_append,List.length_singleton],⟨λi hi=>?_⟩⟩;have q:i<(l++[x]).length:=by rw[List.length_append,List.length_singleton];omega
 by_cases h:i<l.length
 ·have e:B0 l.length (λi=>(BA l).getD i []) g i=[Bv l[i]]:=LM (λ_=>HF l i h) λh'=>absurd h (by omega);rw[e,HF _ i q,List.getElem_append_left h];exact⟨Qc y _,trivial⟩
 ·have B:i=l.length:=by omega
  subst B;have e:B0 l.length (λi=>(BA l).getD i []) g l.length=[v]:=LM (λh'=>absurd h' (by omega)) λ_=>by rw[Nat.sub_self];exact C
  rw[e,HF _ _ q,List.getElem_append_right (Nat.le_refl _)];exact⟨by simpa using hv.h y,trivial⟩
theorem AeD {L:List TK} {k n:Int} {x:List UInt8} {tk:TK} {s:RS} {t:PT×RS} {u:PT} {ks:List PT} (h:t=(nd k x n tk (u::ks),s)) (q:s.err=0):G9 L (cP L s) s.nest (.pv [.int .i64 k,.bs x,.int .i64 n,.int .i64 tk.line,.int .i64 tk.Ag,.As,.vec 1 (ks.length+1) λi=>cond (Nat.beq i 0) [Bv u] ((BA ks).getD (i-1) [])]) t:=ZR h q rfl λi hi=>by
  cases i with
  |zero=>exact⟨Bv u,rfl,OA _⟩
  |succ i=>exact⟨Bv (ks[i]'(by simpa using hi)),HF ks i (by simpa using hi),OA _⟩
theorem AfP (u:PT) (l:List PT):Ds 1 (l.length+1) (λi=>cond (Nat.beq i 0) [Bv u] ((BA l).getD (i-1) []))=true:=Lc λi hi=>by
 cases i with
 |zero=>rfl
 |succ i=>show Ot 1 ((BA l).getD i [])=true;rw[HF l i (by omega)];rfl
@[reducible] def jQ:TK×RS->TK×RS->Prop:=λ(a q:TK×RS)=>(((((True/\Aa/\Ab (3:Int))/\Ab (DC q.1))/\Aa/\Ab (0:Int))/\Aa/\Ab (TK.line a.1))/\Aa/\Ab (TK.Ag a.1))/\True
@[reducible] def Sz:TK×RS->Prop:=λ(a:TK×RS)=>A8/\Mm a
@[reducible] def jR:TK×RS->Prop:=λ(a:TK×RS)=>A8/\Sz a
@[reducible] def jS:List TK->TK×RS->List PT×RS->Prop:=λ(L:List TK) (a:TK×RS) (q:List PT×RS)=>Aa/\Aa/\Aa/\Aa/\(Lq a.2 L q.2)/\Aa/\RS.nest a.2=RS.nest q.2
@[reducible] def jT:TK×RS->Prop:=λ(a:TK×RS)=>Fy/\(Aa/\Aa/\Aa/\Aa/\Ab (List.length Lr)/\Au λ(i:Nat)=>B8 i (List.length Lr)->Ab (List.getD Lr i [])/\True)/\(eY a.1)/\(Aa/\True)/\True
def dh (a:List TK) (b:RS):=Sk a (Bz EI a) (Bz EI a (B7 a) [] (T4 a b)) (T4 a b)
def rC (a:TK) (b:PT):=AV.pv [AV.int .i64 (4:Int),C7 a,BX,B3 a,B4 a,AV.As,AV.vec 1 1 λ(q:Nat)=>[Cs b]]
def ph:=(A8/\A8/\A8/\((Ab (AV.sl 15 0 1 1)/\True)/\True)/\True)
theorem AkS:∀(L:List TK) (n:Nat) (B:List TK->PF),Yj L n B->∀(s:RS) (t:PT×RS),R0 L s->Av L n s->FG L n B->t=Gp B L s->(True/\Bh L s λ(s:RS)=>BK Lr)/\∀(y:TK×RS),y=Hm L s Lr->AO y.2 (eS y.1 ((Ey L y.2 n)/\∀(J:PT×RS),J=CQ B L y.2->AO J.2 (Dx J.1/\Mm y/\Ce L J.2 (AV.pv [AV.int .i64 (11:Int),AV.bs [],BX,B3 y.1,B4 y.1,AV.As,AV.vec 1 1 λ(x:Nat)=>[Cs J.1]]) t/\True) (E4 L J.2 t.2)) ((Ib L y.2)/\∀(J:TK×RS),J=IE L y.2->AO J.2 (eG y.1 ((JB L J.2)/\∀(C:TK×RS),C=JC L J.2->AO C.2 (Ce L C.2 (AV.pv [AV.int .i64 (2:Int),C7 J.1,BX,B3 y.1,B4 y.1,AV.As,AV.As]) t/\True) (BD L C.2 t.2)) (Uv y.1 ((Ib L J.2)/\∀(C:PT×RS),C=B9 L (Bg L J.2)->AO C.2 (Dx C.1/\Dx C.1/\Sz y/\(JB L C.2)/\∀(E:TK×RS),E=JC L C.2->AO E.2 (Ce L E.2 (AV.pv [AV.int .i64 (6:Int),C7 J.1,BX,B3 y.1,B4 y.1,AV.As,AV.vec 1 1 λ(x:Nat)=>[Cs C.1]]) t/\True) (BD L E.2 t.2)) (E4 L C.2 t.2)) (Ad (decide (TK.text y.1=[(102:UInt8),110])) ((Ey L J.2 n)/\∀(C:PT×RS),C=CQ B L J.2->AO C.2 (Dx C.1/\Dx C.1/\Sz y/\Ce L C.2 (AV.pv [AV.int .i64 (7:Int),C7 J.1,BX,B3 y.1,B4 y.1,AV.As,AV.vec 1 1 λ(x:Nat)=>[Cs C.1]]) t/\True) (E4 L C.2 t.2)) (dz y.1 ((True/\Bh L J.2 λ(s:RS)=>BK KL)/\∀(C:TK×RS),C=Hm L J.2 KL->AO C.2 ((∃(x0:List PT×RS),dh L s x0/\Aa/\(HI/\(Ab (some 11)/\Aa)/\True)/\(Aa/\True)/\jS L C x0/\(Aa/\Aa/\Aa/\Aa/\jQ y J/\x0.1.length=0)/\jT y)/\∀(x:List PT×RS),dh L s x->(PR L x.2)/\∀(E:RS),E=Bg L x.2->PA L E ((Bh L E λ(s:RS)=>(1:Int)≠(0:Int))/\∀(q:TK×RS),q=IE L E->AO q.2 ((Ib L q.2)/\∀(K:PT×RS),K=B9 L (Bg L q.2)->AO K.2 (Dx K.1/\Dx K.1/\Ap (bif bif Nat.ble (x.1.length*1) x.1.length then Ds 1 1 λ(x:Nat)=>[rC q.1 K.1]else false then decide (x.1.length+1<=9223372036854775807/\(x.1.length+1)*8<=140737488355328)else false) ((((Ab (C7 q.1)/\True/\True/\True)/\True)/\H9/\H9/\((True/\True/\Ab (AV.AJ 16 x.1.length 1)/\True)/\True)/\((True/\True/\Ab (AV.AJ 16 x.1.length 1)/\True)/\True)/\((Ab (C7 q.1)/\DG q.1/\Ab (AV.AJ 16 x.1.length 1)/\True)/\True)/\True)/\(JB L K.2)/\∀(R:TK×RS),R=JC L K.2->AO R.2 (∃(U:List PT×RS),dh L s U/\DX L U.2 x.2/\Aa/\(HI/\(Ab (some 11)/\Aa)/\True)/\(Aa/\Aa/\Aa/\Aa/\(Fh x)*1=U.1.length/\Au λ(i:Nat)=>B8 i ((Fh x)*1)->AH [(16,36),(0,0),(1,1),(2,2),(3,3),(4,4),(5,5),(6,6),(7,7),(8,8),(9,9),(10,10),(11,11),(12,12),(13,13)] (LA U.1 i) (B0 x.1.length (λ(i:Nat)=>LA x.1 i) (λ(x:Nat)=>[rC q.1 K.1]) i))/\jS L R U/\(Aa/\Aa/\Aa/\Aa/\jQ y J/\Ab (some 36)/\x.1.length+1=U.1.length/\Aa)/\jT y) (BD L R.2 t.2))) ((H9/\True)/\BD L K.2 t.2)) (BD L q.2 t.2)) ((Co L E)/\∀(q:TK×RS),q=(Cp L E)->Ud x x.1 (Ce L q.2 (AV.pv [AV.int .i64 (3:Int),C7 J.1,BX,B3 y.1,B4 y.1,AV.As,AV.vec 1 x.1.length λ(i:Nat)=>LA x.1 i]) t/\True))) (BD L C.2 t.2)) ((True/\Bh L J.2 λ(s:RS)=>BK [Hl])/\∀(C:TK×RS),C=Hm L J.2 [Hl]->AO C.2 (Ad (decide (TK.text y.1=[(99:UInt8),111,109,112])) ((Ib L C.2)/\∀(E:PT×RS),E=BZ L (Bg L C.2)->AO E.2 (Dx E.1/\Dx E.1/\((Ey L E.2 n)/\Dx E.1)/\∀(q:List PT×RS),q=Ec B L (Bg L E.2)->AO q.2 (Ad (Nat.beq q.1.length 0) (jR y/\Ce L q.2 (AV.pv [AV.int .i64 (8:Int),C7 J.1,BX,B3 y.1,B4 y.1,AV.As,AV.vec 1 1 λ(x:Nat)=>[Cs E.1]]) t/\True) (jR y/\Ap (bif bif Nat.ble ((Fh q)*1) (Fh q)then Ds 1 (Fh q) λ(i:Nat)=>bif Nat.beq i 0 then [Cs E.1]else List.getD (BA q.1) (i-1) []else false then true else false) (Ce L q.2 (AV.pv [AV.int .i64 (8:Int),C7 J.1,BX,B3 y.1,B4 y.1,AV.As,AV.vec 1 (Fh q) λ(i:Nat)=>bif Nat.beq i 0 then [Cs E.1]else List.getD (BA q.1) (i-1) []]) t/\True))) (Sz y/\BD L q.2 t.2)) (E4 L E.2 t.2)) ((Ib L C.2)/\∀(E:PT×RS),E=BZ L (Bg L C.2)->AO E.2 (Dx E.1/\Dx E.1/\Sz y/\(True/\Bh L E.2 λ(s:RS)=>BK [Hl,JD])/\∀(q:TK×RS),q=Hm L E.2 [Hl,JD]->AO q.2 (Ad (decide (TK.text q.1=[(111:UInt8),110])) ((Ey L q.2 n)/\∀(K:PT×RS),K=CQ B L q.2->AO K.2 (ph/\Ce L K.2 (AV.pv [AV.int .i64 (10:Int),C7 J.1,Om,B3 y.1,B4 y.1,AV.As,AV.vec 1 2 λ(i:Nat)=>GW i E.1 K.1]) t/\True) (E4 L K.2 t.2)) ((Ey L q.2 n)/\∀(K:PT×RS),K=CQ B L q.2->AO K.2 (ph/\Ce L K.2 (AV.pv [AV.int .i64 (10:Int),C7 J.1,BX,B3 y.1,B4 y.1,AV.As,AV.vec 1 2 λ(i:Nat)=>GW i E.1 K.1]) t/\True) (E4 L K.2 t.2))) (BD L q.2 t.2)) (E4 L E.2 t.2))) (BD L C.2 t.2)))))) (BD L J.2 t.2))) (BD L y.2 t.2)
:=by
 delta Cs Bg Bh DG Lr AO A8 Co Ce B3 B4 BD Cp BX B8 DX JB GW H9 C7 T4 JD Ey Hl E4 JC Ud HI Dx Ib Fh IE dh Uv KL LA PA PR eG Om Hm rC dz ph CQ eS Mm;intro L n B Am s t hs hp S ht;simp only[A9,jQ,Yw,Sz,jR,jS,jT,DC,DG,A8,GY,Mm,Lq,Lr,B8,Pt,Fy,eY];have s1:=Iz (L:=L) (ws:=Bt) hs.ok;have kt:Kp (Al L s Bt).2 t.2:=by rw[ht];unfold Gp;exact Eo (P:=λr:PT×RS=>Kp (Al L s Bt).2 r.2) (λ_=>S.k _) λ_=>(H6 L _ 1).tr (zD S.k _ _ _)
 refine Ca (f:=λs=>Al L s Bt) hs (IQ rfl) kt λe1=>?_;have r1:=Jf hs s1 (GP L _ _) e1;have p1:=Ll hp s1;have hm:=pD (ws:=Bt) hs e1;unfold Gp at ht;refine Aj (λc=>?_) λc=>?_
 ·rw[if_pos (show(Al L s Bt).1.text=R8 from of_decide_eq_true c)]at ht;exact Ca (f:=B L) r1 p1 (by rw[ht];exact Dd _) λe=>NH ht e rfl
 rw[if_neg (show¬(Al L s Bt).1.text=R8 from of_decide_eq_false c)]at ht;have cM:¬(Al L s Bt).1.text=R8:=of_decide_eq_false c;clear c;have s2:=Gu (L:=L) (k:=1) r1.ok (by decide);refine Ca (f:=λs=>AB L s 1) r1 trivial (by rw[ht];exact zD S.k _ _ _) λe2=>?_;have O:=Jf r1 s2 (H6 L _ 1) e2;have p2:=Ll p1 s2;unfold K7 at ht;refine Aj (λc=>?_) λc=>?_
 ·rw[if_pos (show(Al L s Bt).1.text=Vp from of_decide_eq_true c),sign_one]at ht;exact Ca (f:=λs=>Al L s [[59]]) O (IQ rfl) (by rw[ht];exact Dd _) λe=>MI ht e
 rw[if_neg (show¬(Al L s Bt).1.text=Vp from of_decide_eq_false c)]at ht;have cL:¬(Al L s Bt).1.text=Vp:=of_decide_eq_false c;clear c;refine Aj (λc=>?_) λc=>?_
 ·rw[if_pos (show(Al L s Bt).1.text=FY from of_decide_eq_true c),sign_one]at ht;have tS:=Qb (L:=L) O.ok;refine Ca (f:=B9 L) O trivial (by rw[ht];exact GP L _ _) λZ=>⟨FQ _,FQ _,?_⟩;have M:=Fj O tS (NV L _) Z;exact Ca (f:=λs=>Al L s [[59]]) M (IQ rfl) (by rw[ht];exact Dd _) λe=>(NH ht e rfl).2
 rw[if_neg (show¬(Al L s Bt).1.text=FY from of_decide_eq_false c)]at ht;have cV:¬(Al L s Bt).1.text=FY:=of_decide_eq_false c;clear c;refine Aj (λc=>?_) λc=>?_
 ·rw[if_pos (show(Al L s Bt).1.text=K0 from of_decide_eq_true c)]at ht;exact Ca (f:=B L) O p2 (by rw[ht];exact Dd _) λe=>⟨FQ _,NH ht e rfl⟩
 rw[if_neg (show¬(Al L s Bt).1.text=K0 from of_decide_eq_false c)]at ht;have cF:¬(Al L s Bt).1.text=K0:=of_decide_eq_false c;clear c;refine Aj (λc=>?_) λc=>?_
 ·rw[if_pos (show(Al L s Bt).1.text=Vm from of_decide_eq_true c)]at ht;unfold Zr at ht;have kL:∀(k:Nat) (l:List PT) (r:RS),Kp r (Bz EI L k l r).2:=Lh (cA L);have kT:Kp (Bz EI L (B7 L) [] (Al L (dS L s) [[123]]).2).2 t.2:=by rw[ht,<-sign_one];exact De L _ _
  have Y:=Iz (L:=L) (ws:=[[123]]) O.ok;refine Ca (f:=λs=>Al L s [[123]]) O (IQ rfl) ((kL _ _ _).tr kT) λZ=>?_;have M:=Jf O Y (GP L _ _) Z;have p3:=Ll p2 Y;rw[show Aw L (dS L s) [123]=Al L (dS L s) [[123]]from sign_one _ _ _];refine⟨⟨([],(Al L (dS L s) [[123]]).2),⟨⟨B7 L,Kz M.ok,rfl⟩,M3 M.ok (by decide),M⟩,Fk (s:=(Al L (dS L s) [[123]]).2) rfl,rfl⟩,λx hx=>?_⟩;obtain⟨⟨k,hk,aa⟩,px,rx⟩:=hx;have b1:=px.DU M.ok (by decide);have b2:=Kx x.1;refine DV rx rfl (Aj (λd=>?_) λd=>?_)
  ·have d:Ah L x.2 C5=false:=by rwa[Bool.not_eq_true',CH rfl]at d
   obtain⟨k',rfl,h2⟩:=z4 hk aa rx.e d;obtain⟨d0,d1,d2⟩:=OM (by decide) (cU (n:=n)) (l:=x.1) (s:=x.2) px (λ_=>p3) rx.e;have k2:Kp (EI L x.2).2 t.2:=by refine Kp.tr ?_ kT;rw[<-h2];exact kL _ _ _
   have q1:=Gu (L:=L) (k:=1) rx.ok (by decide);refine Ca (f:=λs=>AB L s 1) rx (by decide) (((NV L _).tr (De L _ _)).tr k2) λf1=>?_;have g1:=Jf rx q1 (H6 L _ 1) f1;have tS:=Qb (L:=L) g1.ok;refine Ca (f:=B9 L) g1 trivial ((De L _ _).tr k2) λf2=>⟨FQ _,FQ _,An ?_ ?_⟩
   ·rw[Bool.and_eq_true];exact⟨rfl,decide_eq_true (by omega)⟩
   have g2:=Fj g1 tS (NV L _) f2;have e':Al L (B9 L (AB L x.2 1).2).2 [[59]]=Aw L (B9 L (AB L x.2 1).2).2 Fp:=(sign_one _ _ _).symm;refine Ca (f:=λs=>Al L s [[59]]) g2 (IQ rfl) (by rw[e'];exact k2) λf3=>?_;have ab:(EI L x.2).2.err=0:=by show(Aw L (B9 L (AB L x.2 1).2).2 Fp).2.err=0;rw[<-e'];exact f3
   exact⟨(x.1++[(EI L x.2).1],(EI L x.2).2),⟨⟨k',by have:Cn L (EI L x.2).2<Cn L x.2:=d2;show Cn L (EI L x.2).2<k';omega,h2⟩,d1,Fj rx (cU (n:=n) L _ d0) (cA L _) ab⟩,d2,Aju x.1 (EI L x.2).1 rfl (AcV rfl),Fk (by rw[e'];rfl),by rw[List.length_append,List.length_singleton]⟩
  ·have d:Ah L x.2 C5=true:=by rwa[Bool.not_eq_false',CH rfl]at d
   have hX:=oU hk aa d;have hX:Bz EI L (B7 L) [] (Aw L (dS L s) BP).2=(x.1,x.2):=by rw[sign_one];exact hX
   have ht:t=(nd 3 (AB L (Al L s Bt).2 1).1.text 0 (Al L s Bt).1 x.1,Ai x.2):=by rw[ht];show(nd 3 _ 0 _ (Bz EI L (B7 L) [] (Aw L (dS L s) BP).2).1,(Aw L (Bz EI L (B7 L) [] (Aw L (dS L s) BP).2).2 C5).2)=_;rw[hX];show(nd 3 _ 0 _ x.1,(Aw L x.2 C5).2)=_;rw[Ab8 rx d]
   exact E6 rx (Bb d) (An (nX x.1) (mL (s:=Ai x.2) ht rx.e))
 rw[if_neg (show¬(Al L s Bt).1.text=Vm from of_decide_eq_false c)]at ht;have cC:¬(Al L s Bt).1.text=Vm:=of_decide_eq_false c;clear c;have Y:=Iz (L:=L) (ws:=[[111,110]]) O.ok;rw[sign_one,show([CT]:List (List UInt8))=[[111,110]]from rfl]at ht;refine Ca (f:=λs=>Al L s [[111,110]]) O (IQ rfl) (by rw[ht];exact CE (λ_=>(NW L _).tr ((GP L _ _).tr (S.k _))) λ_=>(NW L _).tr ((De L _ _).tr ((Lh (WK S.k) _ _ _).tr (De L _ _)))) λZ=>?_;have M:=Jf O Y (GP L _ _) Z;have p3:=Ll p2 Y;have uS:=XW (L:=L) M.ok;refine Aj (λc=>?_) λc=>?_
 ·have cc:(Al L s Bt).1.text=Ao7:=of_decide_eq_true c;rw[if_neg (by rw[cc];decide)]at ht;unfold Zs at ht;refine Ca (f:=BZ L) M trivial (by rw[ht];exact(De L _ _).tr ((Lh (WK S.k) _ _ _).tr (De L _ _))) λe4=>⟨FQ _,FQ _,?_⟩;have V:=Fj M uS (NW L _) e4;have p4:=Pg p3 uS;have ht:t=(nd 8 (AB L (Al L s Bt).2 1).1.text 0 (Al L s Bt).1 ((BZ L (Al L (dS L s) [[111,110]]).2).1::(Ec B L (BZ L (Al L (dS L s) [[111,110]]).2).2).1),(Ec B L (BZ L (Al L (dS L s) [[111,110]]).2).2).2):=by rw[ht,uc,sign_one,sign_one];rfl
  have hl:(Ec B L (BZ L (Al L (dS L s) [[111,110]]).2).2).2=t.2:=by rw[ht]
  refine⟨⟨I5 V p4,FQ _⟩,λy hy=>?_⟩;rw[Ji V]at hy;subst hy;refine Aj (λW=>Aj (λc=>?_) λc=>?_) λW=>?_
  ·have:(Ec B L (BZ L (Al L (dS L s) [[111,110]]).2).2).1=[]:=List.eq_nil_of_length_eq_zero (Nat.eq_of_beq_eq_true c);refine(NH (y:=(BZ L (Al L (dS L s) [[111,110]]).2).1) ?_ (BL.1 W) rfl).2;rw[ht,this];rfl
  ·exact An (AfP _ _) (AeD ht (BL.1 W))
  ·exact Wf (hl▸Dd _) (BU.1 W)
 ·have cc:(Al L s Bt).1.text=fy:=by
   have c:=of_decide_eq_false c;simp only[Bt,List.mem_cons,List.not_mem_nil,or_false]at hm;rcases hm with h|h|h|h|h|h|h
   ·exact absurd h cL
   ·exact absurd h cC
   ·exact absurd h cV
   ·exact absurd h cF
   ·exact absurd h c
   ·exact h
   ·exact absurd h cM
  rw[if_pos cc]at ht;unfold ZY at ht;refine Ca (f:=BZ L) M trivial (by rw[ht];exact(GP L _ _).tr (S.k _)) λe4=>⟨FQ _,FQ _,?_⟩;have V:=Fj M uS (NW L _) e4;have p4:=Pg p3 uS;have s5:=Iz (L:=L) (ws:=D9) V.ok;refine Ca (f:=λs=>Al L s D9) V (IQ rfl) (by rw[ht];exact S.k _) λW=>?_;have r5:=Jf V s5 (GP L _ _) W;have p5:=Ll p4 s5;refine Aj (λc=>?_) λc=>?_
  ·rw[if_pos (show _=CT from of_decide_eq_true c)]at ht;exact Ca (f:=B L) r5 p5 (by rw[ht];exact Dd _) λe=>(OV ht e rfl rfl).2
  ·rw[if_neg (show¬_=CT from of_decide_eq_false c)]at ht;exact Ca (f:=B L) r5 p5 (by rw[ht];exact Dd _) λe=>(OV ht e rfl rfl).2
theorem AkR:∀(L:List TK) (n:Nat) (B:List TK->PF) (Am:Yj L n B) (s:RS) (t:PT×RS),R0 L s->Av L n s->FG L n B->t=Gp B L s->(AG (wI L n B Am s) 60).call 60 [.ptr 4 0] (AU (Cm++A0 [Bl L s] 4)) (4+1) (Hb L t):=Eq.mpr (by kernel_rfl) AkS
theorem Ah0 {L:List TK} {n:Nat} {B:List TK->PF} (h:ED 88 L n B) (q:FG L n B):AD Tryz.prog 60 (mF L n (Gp B)):=H7 λs C y=>⟨wI L n B ⟨h.f,AaG h q⟩ s,60,rfl,AW,Bc,λt ht=>AkR L n B ⟨h.f,AaG h q⟩ s t C y q ht⟩
end Go.Proofs.YtlmmbanfhjaioaaGreatDoor
end
end
