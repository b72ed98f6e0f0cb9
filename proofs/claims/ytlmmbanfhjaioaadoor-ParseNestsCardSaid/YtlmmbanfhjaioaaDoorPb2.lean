/- Laid by program out of its parts: PbJ, PbK, PbL, PbM, PbN, PbO, PbP. -/
import Derived.Test.YtlmmbanfhjaioaaDoorPb1
set_option linter.unusedVariables false
set_option linter.unusedSimpArgs false
section
set_option maxRecDepth 100000
set_option maxHeartbeats 2000000
open Go Go.Ev
namespace Go.Proofs.YtlmmbanfhjaioaaDoor
structure OkJ (L:List TK) (n:Nat) (U Ti:List TK→PF):Prop where
 u:HEntOK Tryd.prog 86 (mF L n U)
 t:HEntOK Tryd.prog 79 (mF L (n + 1) Ti)
noncomputable def htJ (L:List TK) (n:Nat) (U Ti:List TK→PF):HTbl:=(86,mF L n U) :: (79,mF L (n + 1) Ti) :: htF' L
theorem htJ_ok {L:List TK} {n:Nat} {U Ti:List TK→PF} (h:OkJ L n U Ti):HtOK Tryd.prog (htJ L n U Ti):=ZD h.u (ZD h.t (htF'_ok L))
noncomputable def cxJ (L:List TK) (n:Nat) (U Ti:List TK→PF) (h:OkJ L n U Ti):Ctx:=cxP (htJ L n U Ti) (htJ_ok h)
theorem un_goP {L:List TK} {n:Nat} {U:List TK→PF} {s:RS} {t:PT×RS} {k:Int} {w:List UInt8} (hs:R0 L s) (hp:Pre L (n + 1) s) (hU:FG L n U) (c:isS L s w=true) (hw:wsB [w]=true) (ht:t=unM k U L s) :
  (PreC L (cP L s) s.nest fun _=>WsP [w])∧∀ y,y=stP L (cP L s) s.nest→brP (![w].any (isS L y)) ((PreC L (cP L y) y.nest fun _=>(4:Int)≠0)∧EqN L (stopV L (wrongR (stP L (cP L y) y.nest) 4)) t.2)
   (brP (ieq y.nest 64) ((PreC L (cP L y) y.nest fun _=>(5:Int)≠0)∧EqN L (stopV L (wrongR (stP L (cP L y) y.nest) 5)) t.2)
    ((PreC L (cP L y) y.nest fun s=>s.at_ < L.length)∧∀ y1:TK×RS,y1=(ahd L (stP L (cP L y) y.nest),at1 (stP L (cP L y) y.nest))→sdA (inR .i64 (y1.2.nest + 1)) ((PreC L (cP L y1.2) (y1.2.nest + 1) fun s=>Pre L n s) ∧
     ∀ z,z=U L (stP L (cP L y1.2) (y1.2.nest + 1))→brP (ieq z.2.err 0) (SelfL [pvX z.1]∧sdA (inR .i64 (z.2.nest - 1)) (EqR L (cP L z.2) (z.2.nest - 1) (.pv [.int .i64 k,.bs [],.int .i64 0,.int .i64 y1.1.line,.int .i64 y1.1.col,.sl0,.vec 1 1 fun _=>[pvX z.1]]) t)) (EqN L (stopV L z.2) t.2)))):=by
 have hns:=hp.ns
 have hlf:=hp.lf
 have hn0:=hs.ok.n0
 have hl:=ZE c
 have ra:=YQ hs hl
 have hx:=Xe c
 unfold unM at ht
 rw [hx] at ht
 have rest:Kp (openR L s w).2 t.2:=by rw [ht];exact (Jq hU.k _).tr (Xk _)
 refine Ya hs hw (Zd (fun c7=>?_) fun _=>Zd (fun c8=>?_) fun c8=>?_)
 ·rw [any1 c] at c7;cases c7
 ·rw [ZC] at c8
  exact Zbn hs (by decide) ((JM hs c c8).tr rest)
 ·rw [Zy] at c8
  have ho:=JF (L:=L) (s:=s) (w:=w) c (by omega)
  have ru:=Zjv ra (show s.nest≤900 by omega)
  have pu:Pre L n (up1 (at1 s)):=⟨ru.ok,by show s.nest + 1≤64;omega,by show (L.length:Int) - (s.at_ + 1) < n;omega⟩
  have hif:ifE U L (up1 (at1 s))=U L (up1 (at1 s)):=by unfold ifE;rw [if_neg (fun e=>e ru.e)]
  rw [ho] at ht
  simp only at ht
  rw [hif] at ht
  have g:=hU.g L _ pu
  refine YK hs hl (Zf (ZI.2 ⟨by show -9223372036854775808≤s.nest + 1;omega,by show s.nest + 1≤9223372036854775807;omega⟩) (ZA (s:=up1 (at1 s)) (f:=U L) ru pu (by rw [ht];exact Xk _) fun e=>?_))
  have g5:(U L (up1 (at1 s))).2.nest=s.nest + 1:=g.ns
  exact ⟨self1 _,Zf (ZI.2 (by omega)) (Vz (s:=down (U L (up1 (at1 s))).2) ht e rfl).2⟩
theorem isS_not {L:List TK} {s:RS} {v w:List UInt8} (h:isS L s v=true) (hne:v≠w):isS L s w=false:=Bool.eq_false_iff.2 fun e=>hne ((Xe h).symm.trans (Xe e))
theorem Zfv:∀ (L:List TK) (n:Nat) (U Ti:List TK→PF),OkJ L n U Ti→∀ (s:RS) (t:PT×RS),R0 L s→Pre L (n + 1) s→FG L n U→FG L (n + 1) Ti→t=unaryM U Ti L s→(True∧PreC L (cP L s) (RS.nest s) fun (s:RS)=>WsP [[(97:UInt8),(114:UInt8),(114:UInt8)]])∧∀ (y:RS),y=stP L (cP L s) (RS.nest s)→brP (bar (List.any [[(97:UInt8),(114:UInt8),(114:UInt8)]] (isS L y))) ((True∧PreC L (cP L y) (RS.nest y) fun (s:RS)=>WsP [[(97:UInt8),(114:UInt8),(114:UInt8)]])∧∀ (y_1:RS),y_1=stP L (cP L y) (RS.nest y)→brP (!bar (List.any [[(97:UInt8),(114:UInt8),(114:UInt8)]] (isS L y_1))) ((PreC L (cP L y_1) (RS.nest y_1) fun (s:RS)=>(4:Int)≠(0:Int))∧EqN L (stopV L (wrongR (stP L (cP L y_1) (RS.nest y_1)) (4:Int))) t.2) (brP (ieq (RS.nest y_1) (64:Int)) ((PreC L (cP L y_1) (RS.nest y_1) fun (s:RS)=>(5:Int)≠(0:Int))∧EqN L (stopV L (wrongR (stP L (cP L y_1) (RS.nest y_1)) (5:Int))) t.2) ((PreC L (cP L y_1) (RS.nest y_1) fun (s:RS)=>RS.at_ s < (↑L.length:Int))∧∀ (y:TK×RS),y=(ahd L (stP L (cP L y_1) (RS.nest y_1)),at1 (stP L (cP L y_1) (RS.nest y_1)))→sdA (inR .i64 (RS.nest y.2 + 1)) ((PreC L (cP L y.2) (RS.nest y.2 + 1) fun (s:RS)=>Pre L n s)∧∀ (y_2:PT×RS),y_2=U L (stP L (cP L y.2) (RS.nest y.2 + 1))→brP (ieq (RS.err y_2.2) (0:Int)) (SelfL [AV.pv [AV.int .i64 (PT.kind y_2.1),AV.bs (PT.text y_2.1),AV.int .i64 (PT.num y_2.1),AV.int .i64 (PT.line y_2.1),AV.int .i64 (PT.col y_2.1),AV.sl0,AV.vec 1 (List.length (PT.ks y_2.1)) fun (i:Nat)=>List.getD (pvL (PT.ks y_2.1)) i []]]∧((((True∧True∧True∧True)∧True)∧((True∧True∧True∧True)∧True)∧((True∧AV.agg [AV.int .i64 (TK.kind y.1),AV.bs (TK.text y.1),AV.int .i64 (TK.num y.1),AV.int .i64 (TK.line y.1),AV.int .i64 (TK.col y.1)]=AV.agg [AV.int .i64 (TK.kind y.1),AV.bs (TK.text y.1),AV.int .i64 (TK.num y.1),AV.int .i64 (TK.line y.1),AV.int .i64 (TK.col y.1)]∧AV.str 3 7500385=AV.str 3 7500385∧True)∧True)∧True)∧True)∧sdA (inR .i64 (RS.nest y_2.2 - 1)) (EqR L (cP L y_2.2) (RS.nest y_2.2 - 1) (AV.pv [AV.int .i64 (34:Int),AV.bs [],AV.int .i64 (0:Int),AV.int .i64 (TK.line y.1),AV.int .i64 (TK.col y.1),AV.sl0,AV.vec 1 1 fun (x:Nat)=>[AV.pv [AV.int .i64 (PT.kind y_2.1),AV.bs (PT.text y_2.1),AV.int .i64 (PT.num y_2.1),AV.int .i64 (PT.line y_2.1),AV.int .i64 (PT.col y_2.1),AV.sl0,AV.vec 1 (List.length (PT.ks y_2.1)) fun (i:Nat)=>List.getD (pvL (PT.ks y_2.1)) i []]]]) t∧True)) (((((True∧True∧True∧True)∧True)∧True)∧True)∧EqN L (stopV L y_2.2) t.2))))) ((True∧PreC L (cP L y) (RS.nest y) fun (s:RS)=>WsP [[(108:UInt8),(101:UInt8),(110:UInt8)]])∧∀ (y_1:RS),y_1=stP L (cP L y) (RS.nest y)→brP (bar (List.any [[(108:UInt8),(101:UInt8),(110:UInt8)]] (isS L y_1))) ((True∧PreC L (cP L y_1) (RS.nest y_1) fun (s:RS)=>WsP [[(108:UInt8),(101:UInt8),(110:UInt8)]])∧∀ (y:RS),y=stP L (cP L y_1) (RS.nest y_1)→brP (!bar (List.any [[(108:UInt8),(101:UInt8),(110:UInt8)]] (isS L y))) ((PreC L (cP L y) (RS.nest y) fun (s:RS)=>(4:Int)≠(0:Int))∧EqN L (stopV L (wrongR (stP L (cP L y) (RS.nest y)) (4:Int))) t.2) (brP (ieq (RS.nest y) (64:Int)) ((PreC L (cP L y) (RS.nest y) fun (s:RS)=>(5:Int)≠(0:Int))∧EqN L (stopV L (wrongR (stP L (cP L y) (RS.nest y)) (5:Int))) t.2) ((PreC L (cP L y) (RS.nest y) fun (s:RS)=>RS.at_ s < (↑L.length:Int))∧∀ (y_2:TK×RS),y_2=(ahd L (stP L (cP L y) (RS.nest y)),at1 (stP L (cP L y) (RS.nest y)))→sdA (inR .i64 (RS.nest y_2.2 + 1)) ((PreC L (cP L y_2.2) (RS.nest y_2.2 + 1) fun (s:RS)=>Pre L n s)∧∀ (y:PT×RS),y=U L (stP L (cP L y_2.2) (RS.nest y_2.2 + 1))→brP (ieq (RS.err y.2) (0:Int)) (SelfL [AV.pv [AV.int .i64 (PT.kind y.1),AV.bs (PT.text y.1),AV.int .i64 (PT.num y.1),AV.int .i64 (PT.line y.1),AV.int .i64 (PT.col y.1),AV.sl0,AV.vec 1 (List.length (PT.ks y.1)) fun (i:Nat)=>List.getD (pvL (PT.ks y.1)) i []]]∧((((True∧True∧True∧True)∧True)∧((True∧True∧True∧True)∧True)∧((True∧AV.agg [AV.int .i64 (TK.kind y_2.1),AV.bs (TK.text y_2.1),AV.int .i64 (TK.num y_2.1),AV.int .i64 (TK.line y_2.1),AV.int .i64 (TK.col y_2.1)]=AV.agg [AV.int .i64 (TK.kind y_2.1),AV.bs (TK.text y_2.1),AV.int .i64 (TK.num y_2.1),AV.int .i64 (TK.line y_2.1),AV.int .i64 (TK.col y_2.1)]∧AV.str 3 7234924=AV.str 3 7234924∧True)∧True)∧True)∧True)∧sdA (inR .i64 (RS.nest y.2 - 1)) (EqR L (cP L y.2) (RS.nest y.2 - 1) (AV.pv [AV.int .i64 (35:Int),AV.bs [],AV.int .i64 (0:Int),AV.int .i64 (TK.line y_2.1),AV.int .i64 (TK.col y_2.1),AV.sl0,AV.vec 1 1 fun (x:Nat)=>[AV.pv [AV.int .i64 (PT.kind y.1),AV.bs (PT.text y.1),AV.int .i64 (PT.num y.1),AV.int .i64 (PT.line y.1),AV.int .i64 (PT.col y.1),AV.sl0,AV.vec 1 (List.length (PT.ks y.1)) fun (i:Nat)=>List.getD (pvL (PT.ks y.1)) i []]]]) t∧True)) (((((True∧True∧True∧True)∧True)∧True)∧True)∧EqN L (stopV L y.2) t.2))))) ((PreC L (cP L y_1) (RS.nest y_1) fun (s:RS)=>Pre L (n + 1) s)∧∀ (y:PT×RS),y=Ti L (stP L (cP L y_1) (RS.nest y_1))→brP (ieq (RS.err y.2) (0:Int)) (EqR L (cP L y.2) (RS.nest y.2) (AV.pv [AV.int .i64 (PT.kind y.1),AV.bs (PT.text y.1),AV.int .i64 (PT.num y.1),AV.int .i64 (PT.line y.1),AV.int .i64 (PT.col y.1),AV.sl0,AV.vec 1 (List.length (PT.ks y.1)) fun (i:Nat)=>List.getD (pvL (PT.ks y.1)) i []]) t∧True) (EqN L (stopV L y.2) t.2)))
:= by
 intro L n U Ti hok s t hs hp hU hT ht
 simp only [Zh,Zq,true_and,and_true,eq_self,implies_true,Nat.le_eq,Zw,Zx,ZF,Int.toNat_natCast,Int.ofNat_eq_natCast,Nat.ble_eq,Nat.ble_self_eq_true,Bool.true_and,Bool.and_true,Bool.and_self,Option.some.injEq,AV.int.injEq,Zl,Zi,Nat.mul_one,Nat.beq_refl,Zm,cond_true,cond_false,Zn,Bool.not_true,Bool.not_false,decide_true,ZR,ZT,ZS,Ze,List.nil_append]
 refine Ya hs rfl (Zd (fun c=>?_) fun c=>Ya hs rfl (Zd (fun c2=>?_) fun c2=>?_))
 ·have c:isS L s wArr=true:=by rwa [any1 rfl] at c
  refine un_goP (k:=34) hs hp hU c rfl ?_
  rw [ht];unfold unaryM
  rw [if_neg (nb (isS_not c (by decide))),if_pos c]
 ·have c2:isS L s wLen=true:=by rwa [any1 rfl] at c2
  refine un_goP (k:=35) hs hp hU c2 rfl ?_
  rw [ht];unfold unaryM
  rw [if_pos c2]
 ·have c:isS L s wArr=false:=by rwa [any1 rfl] at c
  have c2:isS L s wLen=false:=by rwa [any1 rfl] at c2
  have h1:t=Ti L s:=by rw [ht];unfold unaryM;rw [if_neg (nb c2),if_neg (nb c)]
  exact ZA (f:=Ti L) hs hp (by rw [h1];exact Zv _) fun e=>Xs h1 e
theorem runUnaryP:∀ (L:List TK) (n:Nat) (U Ti:List TK→PF) (hok:OkJ L n U Ti) (s:RS) (t:PT×RS),R0 L s→Pre L (n + 1) s→FG L n U→FG L (n + 1) Ti→t=unaryM U Ti L s→(cRun (cxJ L n U Ti hok) 60).call 86 [.ptr 4 0] (mkH (glT ++ numL [objP L s] 4)) (4 + 1) (ResP L t) :=
 Eq.mpr (by kernel_rfl) Zfv
theorem okUnaryP {L:List TK} {n:Nat} {U Ti:List TK→PF} (h:OkJ L n U Ti) (hU:FG L n U) (hT:FG L (n + 1) Ti):HEntOK Tryd.prog 86 (mF L (n + 1) (unaryM U Ti)) :=
 YY fun s h1 h2=>⟨cxJ L n U Ti h,60,rfl,fol,ZK,fun t ht=>runUnaryP L n U Ti h s t h1 h2 hU hT ht⟩
end Go.Proofs.YtlmmbanfhjaioaaDoor
end
section
set_option maxRecDepth 100000
set_option maxHeartbeats 2000000
open Go Go.Ev
namespace Go.Proofs.YtlmmbanfhjaioaaDoor
structure OkK (L:List TK) (n:Nat) (T B:List TK→PF):Prop where
 t:HEntOK Tryd.prog 70 (mF L (n + 1) T)
 b:HEntOK Tryd.prog 31 (mF L n B)
noncomputable def htK (L:List TK) (n:Nat) (T B:List TK→PF):HTbl:=(70,mF L (n + 1) T) :: (31,mF L n B) :: htF' L
theorem htK_ok {L:List TK} {n:Nat} {T B:List TK→PF} (h:OkK L n T B):HtOK Tryd.prog (htK L n T B):=ZD h.t (ZD h.b (htF'_ok L))
noncomputable def cxK (L:List TK) (n:Nat) (T B:List TK→PF) (h:OkK L n T B):Ctx:=cxP (htK L n T B) (htK_ok h)
theorem vmE_leaf {k n:Int} {x:List UInt8} {tk:TK}:VmE (nd k x n tk []) (.pv [.int .i64 k,.bs x,.int .i64 n,.int .i64 tk.line,.int .i64 tk.col,.sl0,.sl0]):=KO kids0
theorem Zfb {L:List TK} {k n:Int} {x:List UInt8} {tk:TK} {s:RS} {t:PT×RS} {ks:List PT} {m:Nat} {g:Nat→List AV} (h:t=(nd k x n tk ks,s)) (he:s.err=0) (hm:m=ks.length) (hg:∀ i,(hi:i < ks.length)→∃ v,g i=[v]∧VmE ks[i] v) :
  EqR L (cP L s) s.nest (.pv [.int .i64 k,.bs x,.int .i64 n,.int .i64 tk.line,.int .i64 tk.col,.sl0,.vec 1 m g]) t:=by
 subst h
 refine ⟨he,rfl,rfl,KO fun σ=>⟨rfl,hm,⟨fun i hi=>?_⟩⟩⟩
 have hi':i < ks.length:=by omega
 obtain ⟨v,h1,h2⟩:=hg i hi'
 show vmL σ ((pvL ks).getD i []) (g i)
 rw [Yc ks i hi',h1]
 exact ⟨h2.h σ,trivial⟩
theorem kids3 {a b c:PT} {va vb vc:AV} {g:Nat→List AV} (h0:g 0=[va]) (h1:g 1=[vb]) (h2:g 2=[vc]) (e0:VmE a va) (e1:VmE b vb) (e2:VmE c vc):∀ i,(hi:i < [a,b,c].length)→∃ v,g i=[v]∧VmE [a,b,c][i] v:=fun i hi=>by
 rcases (show i=0∨i=1∨i=2 by simp at hi;omega) with rfl | rfl | rfl
 ·exact ⟨va,h0,e0⟩
 ·exact ⟨vb,h1,e1⟩
 ·exact ⟨vc,h2,e2⟩
theorem Xw {L:List TK} {n:Nat} {s:RS} (h:Pre L n s):Pre L (n + 1) s:=⟨h.ok,h.ns,by have:=h.lf;omega⟩
theorem Va {L:List TK} {n:Nat} {s:RS} (h:Pre L (n + 1) s) (hl:s.at_ < L.length):Pre L n (at1 s):=⟨XK h.ok hl,h.ns,by have:=h.lf;show (L.length:Int) - (s.at_ + 1) < n;omega⟩
theorem Vf {L:List TK} {n:Nat} {E C:Int} {s:RS} {r:PT×RS} (h:Pre L n s) (hp:Post L E C s r):Pre L n r.2:=⟨hp.ok,by have:=hp.ns;have:=h.ns;omega,by have:=hp.am;have:=h.lf;omega⟩
theorem Xu {L:List TK} {n:Nat} {s r:RS} (h:Pre L n s) (hp:Stp L s r):Pre L n r:=⟨hp.ok,by have:=hp.ns;have:=h.ns;omega,by have:=hp.am;have:=h.lf;omega⟩
theorem Zkh {L:List TK} {s:RS} (h:RSOK L s) (hk:(ahd L s).kind≠0):s.at_ < L.length:=Classical.byContradiction fun hl=>hk (by rw [QY (by omega)];rfl)
theorem Zem:∀ (L:List TK) (n:Nat) (T B:List TK→PF),OkK L n T B→∀ (s:RS) (t:PT×RS),R0 L s→PreB L n s→FG L (n + 1) T→FG L n B→t=branchM T B L s→(PreC L (cP L s) (RS.nest s) fun (s:RS)=>RS.at_ s < (↑L.length:Int))∧∀ (y:TK×RS),y=(ahd L (stP L (cP L s) (RS.nest s)),at1 (stP L (cP L s) (RS.nest s)))→(PreC L (cP L y.2) (RS.nest y.2) fun (s:RS)=>Pre L (n + 1) s)∧∀ (y_1:PT×RS),y_1=T L (stP L (cP L y.2) (RS.nest y.2))→brP (ieq (RS.err y_1.2) (0:Int)) (SelfL [AV.pv [AV.int .i64 (PT.kind y_1.1),AV.bs (PT.text y_1.1),AV.int .i64 (PT.num y_1.1),AV.int .i64 (PT.line y_1.1),AV.int .i64 (PT.col y_1.1),AV.sl0,AV.vec 1 (List.length (PT.ks y_1.1)) fun (i:Nat)=>List.getD (pvL (PT.ks y_1.1)) i []]]∧(((True∧True)∧True)∧((True∧True)∧True)∧((AV.agg [AV.int .i64 (TK.kind y.1),AV.bs (TK.text y.1),AV.int .i64 (TK.num y.1),AV.int .i64 (TK.line y.1),AV.int .i64 (TK.col y.1)]=AV.agg [AV.int .i64 (TK.kind y.1),AV.bs (TK.text y.1),AV.int .i64 (TK.num y.1),AV.int .i64 (TK.line y.1),AV.int .i64 (TK.col y.1)]∧True)∧True)∧True)∧(PreC L (cP L y_1.2) (RS.nest y_1.2) fun (s:RS)=>Pre L n s)∧∀ (y_2:PT×RS),y_2=B L (stP L (cP L y_1.2) (RS.nest y_1.2))→brP (ieq (RS.err y_2.2) (0:Int)) ((((True∧True)∧True)∧((True∧True)∧True)∧((True∧True)∧True)∧((AV.sl 11 0 1 1=AV.sl 11 0 1 1∧True)∧True)∧True)∧brP (decide (TK.text y.1=[(119:UInt8),(104:UInt8),(105:UInt8),(108:UInt8),(101:UInt8)])) (EqR L (cP L y_2.2) (RS.nest y_2.2) (AV.pv [AV.int .i64 (24:Int),AV.bs [],AV.int .i64 (0:Int),AV.int .i64 (TK.line y.1),AV.int .i64 (TK.col y.1),AV.sl0,AV.vec 1 2 fun (i:Nat)=>List.take 1 (List.drop (i * 1) [AV.pv [AV.int .i64 (PT.kind y_1.1),AV.bs (PT.text y_1.1),AV.int .i64 (PT.num y_1.1),AV.int .i64 (PT.line y_1.1),AV.int .i64 (PT.col y_1.1),AV.sl0,AV.vec 1 (List.length (PT.ks y_1.1)) fun (i:Nat)=>List.getD (pvL (PT.ks y_1.1)) i []],AV.pv [AV.int .i64 (PT.kind y_2.1),AV.bs (PT.text y_2.1),AV.int .i64 (PT.num y_2.1),AV.int .i64 (PT.line y_2.1),AV.int .i64 (PT.col y_2.1),AV.sl0,AV.vec 1 (List.length (PT.ks y_2.1)) fun (i:Nat)=>List.getD (pvL (PT.ks y_2.1)) i []]])]) t∧True) ((True∧PreC L (cP L y_2.2) (RS.nest y_2.2) fun (s:RS)=>WsP [[(101:UInt8),(108:UInt8),(115:UInt8),(101:UInt8)]])∧∀ (y_3:RS),y_3=stP L (cP L y_2.2) (RS.nest y_2.2)→brP (bar (List.any [[(101:UInt8),(108:UInt8),(115:UInt8),(101:UInt8)]] (isS L y_3))) ((PreC L (cP L y_3) (RS.nest y_3) fun (s:RS)=>RS.at_ s < (↑L.length:Int))∧∀ (y_4:TK×RS),y_4=(ahd L (stP L (cP L y_3) (RS.nest y_3)),at1 (stP L (cP L y_3) (RS.nest y_3)))→(PreC L (cP L y_4.2) (RS.nest y_4.2) fun (s:RS)=>Pre L n s)∧∀ (y_5:PT×RS),y_5=B L (stP L (cP L y_4.2) (RS.nest y_4.2))→brP (ieq (RS.err y_5.2) (0:Int)) ((((True∧True)∧True)∧((True∧True)∧True)∧((True∧True)∧True)∧((AV.slo 23 0 2 1=AV.slo 23 0 2 1∧True)∧True)∧True)∧EqR L (cP L y_5.2) (RS.nest y_5.2) (AV.pv [AV.int .i64 (23:Int),AV.bs [],AV.int .i64 (0:Int),AV.int .i64 (TK.line y.1),AV.int .i64 (TK.col y.1),AV.sl0,AV.vec 1 3 fun (i:Nat)=>List.take 1 (List.drop (i * 1) [AV.pv [AV.int .i64 (PT.kind y_1.1),AV.bs (PT.text y_1.1),AV.int .i64 (PT.num y_1.1),AV.int .i64 (PT.line y_1.1),AV.int .i64 (PT.col y_1.1),AV.sl0,AV.vec 1 (List.length (PT.ks y_1.1)) fun (i:Nat)=>List.getD (pvL (PT.ks y_1.1)) i []],AV.pv [AV.int .i64 (PT.kind y_2.1),AV.bs (PT.text y_2.1),AV.int .i64 (PT.num y_2.1),AV.int .i64 (PT.line y_2.1),AV.int .i64 (PT.col y_2.1),AV.sl0,AV.vec 1 (List.length (PT.ks y_2.1)) fun (i:Nat)=>List.getD (pvL (PT.ks y_2.1)) i []],AV.pv [AV.int .i64 (PT.kind y_5.1),AV.bs (PT.text y_5.1),AV.int .i64 (PT.num y_5.1),AV.int .i64 (PT.line y_5.1),AV.int .i64 (PT.col y_5.1),AV.sl0,AV.vec 1 (List.length (PT.ks y_5.1)) fun (i:Nat)=>List.getD (pvL (PT.ks y_5.1)) i []]])]) t∧True) ((((True∧True)∧True)∧True)∧EqN L (stopV L y_5.2) t.2)) ((((True∧True∧True)∧True)∧((True∧True∧True)∧True)∧((True∧True∧True)∧True)∧((True∧AV.slo 23 0 2 1=AV.slo 23 0 2 1∧True)∧True)∧True)∧EqR L (cP L y_3) (RS.nest y_3) (AV.pv [AV.int .i64 (23:Int),AV.bs [],AV.int .i64 (0:Int),AV.int .i64 (TK.line y.1),AV.int .i64 (TK.col y.1),AV.sl0,AV.vec 1 3 fun (i:Nat)=>List.take 1 (List.drop (i * 1) [AV.pv [AV.int .i64 (PT.kind y_1.1),AV.bs (PT.text y_1.1),AV.int .i64 (PT.num y_1.1),AV.int .i64 (PT.line y_1.1),AV.int .i64 (PT.col y_1.1),AV.sl0,AV.vec 1 (List.length (PT.ks y_1.1)) fun (i:Nat)=>List.getD (pvL (PT.ks y_1.1)) i []],AV.pv [AV.int .i64 (PT.kind y_2.1),AV.bs (PT.text y_2.1),AV.int .i64 (PT.num y_2.1),AV.int .i64 (PT.line y_2.1),AV.int .i64 (PT.col y_2.1),AV.sl0,AV.vec 1 (List.length (PT.ks y_2.1)) fun (i:Nat)=>List.getD (pvL (PT.ks y_2.1)) i []],AV.pv [AV.int .i64 (12:Int),AV.bs [],AV.int .i64 (0:Int),AV.int .i64 (TK.line y.1),AV.int .i64 (TK.col y.1),AV.sl0,AV.sl0]])]) t∧True))) ((((True∧True)∧True)∧True)∧EqN L (stopV L y_2.2) t.2)) ((((True∧True)∧True)∧True)∧EqN L (stopV L y_1.2) t.2)
:= by
 intro L n T B hok s t hs hp hT hB ht
 simp only [Zh,Zq,true_and,and_true,eq_self,implies_true,Nat.le_eq,Zw,Zx,ZF,Int.toNat_natCast,Int.ofNat_eq_natCast,Nat.ble_eq,Nat.ble_self_eq_true,Bool.true_and,Bool.and_true,Bool.and_self,Option.some.injEq,AV.int.injEq,Zl,Zi,Nat.mul_one,Nat.beq_refl,Zm,cond_true,cond_false,Zn,Bool.not_true,Bool.not_false,decide_true,ZR,ZT,ZS,Ze,List.nil_append]
 have hl:=Zkh hs.ok (by rw [hp.k];decide)
 have ra:=YQ hs hl
 have pa:=Va hp.p hl
 have gT:=hT.g L _ (Xw pa)
 have pb:=Vf pa gT
 have gB:=hB.g L _ pb
 have ht:t=ifM T B L (ahd L s) (at1 s):=ht
 have kB:Kp (B L (T L (at1 s)).2).2 t.2:=by
  rw [ht]
  exact Yx (P:=fun r:PT×RS=>Kp (B L (T L (at1 s)).2).2 r.2) (fun _=>Zv _) fun _=>Yx (P:=fun r:PT×RS=>Kp (B L (T L (at1 s)).2).2 r.2) (fun _=>(Yo _).tr (hB.k _)) fun _=>Zv _
 unfold ifM at ht
 refine YK hs hl (ZA (f:=T L) ra (Xw pa) ((hB.k _).tr kB) fun e1=>⟨self1 _,?_⟩)
 have r1:=ZL ra gT (hT.k _) e1
 refine ZA (f:=B L) r1 pb kB fun e2=>Zd (fun c=>?_) fun c=>?_
 ·have c:(ahd L s).text=wWhile:=of_decide_eq_true c
  rw [if_pos c] at ht
  exact (VV ht e2 rfl rfl).2
 ·have c:¬ (ahd L s).text=wWhile:=of_decide_eq_false c
  rw [if_neg c] at ht
  have r2:=ZL r1 gB (hB.k _) e2
  refine Ya r2 rfl (Zd (fun c2=>?_) fun c2=>?_)
  ·have c2:isS L (B L (T L (at1 s)).2).2 wElse=true:=by rwa [any1 rfl] at c2
   rw [if_pos c2] at ht
   have hl2:=ZE c2
   have pc:=Va (Xw (Vf pb gB)) hl2
   exact YK r2 hl2 (ZA (f:=B L) (YQ r2 hl2) pc (by rw [ht];exact Zv _) fun e3=>Zfb ht e3 rfl (kids3 rfl rfl rfl (JD _) (JD _) (JD _)))
  ·have c2:isS L (B L (T L (at1 s)).2).2 wElse=false:=by rwa [any1 rfl] at c2
   rw [if_neg (nb c2)] at ht
   exact Zfb ht e2 rfl (kids3 rfl rfl rfl (JD _) (JD _) vmE_leaf)
theorem runBranchP:∀ (L:List TK) (n:Nat) (T B:List TK→PF) (hok:OkK L n T B) (s:RS) (t:PT×RS),R0 L s→PreB L n s→FG L (n + 1) T→FG L n B→t=branchM T B L s→(cRun (cxK L n T B hok) 60).call 69 [.ptr 4 0] (mkH (glT ++ numL [objP L s] 4)) (4 + 1) (ResP L t) :=
 Eq.mpr (by kernel_rfl) Zem
noncomputable def mB (L:List TK) (n:Nat) (F:List TK→PF):HEnt:=mP L Unit rd0 (fun s _=>PreB L n s) (fun s _=>oF L F s)
theorem okBranchP {L:List TK} {n:Nat} {T B:List TK→PF} (h:OkK L n T B) (hT:FG L (n + 1) T) (hB:FG L n B):HEntOK Tryd.prog 69 (mB L n (branchM T B)) :=
 YY fun s h1 h2=>⟨cxK L n T B h,60,rfl,fol,ZK,fun t ht=>runBranchP L n T B h s t h1 h2 hT hB ht⟩
end Go.Proofs.YtlmmbanfhjaioaaDoor
end
section
set_option maxRecDepth 100000
set_option maxHeartbeats 2000000
open Go Go.Ev
namespace Go.Proofs.YtlmmbanfhjaioaaDoor
structure OkL (L:List TK) (n:Nat) (T V:List TK→PF):Prop where
 t:HEntOK Tryd.prog 70 (mF L n T)
 v:HEntOK Tryd.prog 74 (mF L n V)
noncomputable def htL (L:List TK) (n:Nat) (T V:List TK→PF):HTbl:=(70,mF L n T) :: (74,mF L n V) :: htF' L
theorem htL_ok {L:List TK} {n:Nat} {T V:List TK→PF} (h:OkL L n T V):HtOK Tryd.prog (htL L n T V):=ZD h.t (ZD h.v (htF'_ok L))
noncomputable def cxL (L:List TK) (n:Nat) (T V:List TK→PF) (h:OkL L n T V):Ctx:=cxP (htL L n T V) (htL_ok h)
noncomputable def pstM (T V:List TK→PF) (L:List TK):PF:=fun s=>postX T V L (ahd L s) (kindR L (at1 s) 1).1 (kindR L (at1 s) 1).2
theorem Zh6 {L:List TK} {n:Nat} {V:List TK→PF} {s:RS} {t:PT×RS} {k m:Int} {x:List UInt8} {tk:TK} {y:PT} (hs:R0 L s) (hp:Pre L n s) (hV:FG L n V) (ht:t=toM V L k x m tk y s) :
  (PreC L (cP L s) s.nest fun _=>WsP [[116,111]])∧∀ u,u=stP L (cP L s) s.nest→brP ([[116,111]].any (isS L u)) ((PreC L (cP L u) u.nest fun s=>s.at_ < L.length)∧∀ v:TK×RS,v=(ahd L (stP L (cP L u) u.nest),at1 (stP L (cP L u) u.nest))→(PreC L (cP L v.2) v.2.nest fun s=>Pre L n s) ∧
   ∀ z,z=V L (stP L (cP L v.2) v.2.nest)→brP (ieq z.2.err 0) (EqR L (cP L z.2) z.2.nest (.pv [.int .i64 k,.bs x,.int .i64 m,.int .i64 tk.line,.int .i64 tk.col,.sl0,.vec 1 2 fun i=>List.take 1 (List.drop i [pvX y,pvX z.1])]) t) (EqN L (stopV L z.2) t.2))
   (EqR L (cP L u) u.nest (.pv [.int .i64 k,.bs x,.int .i64 m,.int .i64 tk.line,.int .i64 tk.col,.sl0,.vec 1 1 fun _=>[pvX y]]) t):=by
 unfold toM at ht
 refine Ya hs rfl (Zd (fun c=>?_) fun c=>?_)
 ·have c:isS L s wTo=true:=by rwa [any1 rfl] at c
  rw [if_pos c] at ht
  have hl:=ZE c
  exact YK hs hl (ZA (f:=V L) (YQ hs hl) (Xw (Va (Xw hp) hl) |> fun h=>⟨h.ok,h.ns,by have:=hp.lf;show (L.length:Int) - (s.at_ + 1) < n;omega⟩) (by rw [ht];exact Zv _) fun e=>(VV ht e rfl rfl).2)
 ·have c:isS L s wTo=false:=by rwa [any1 rfl] at c
  rw [if_neg (nb c)] at ht
  exact (Vz ht hs.e rfl).2
theorem Zb6 {V:List TK→PF} {L:List TK} (hV:KF (V L)) {k:Int} {x:List UInt8} {m:Int} {tk:TK} {y:PT} {s:RS}:Kp s (toM V L k x m tk y s).2:=Zha hV k x m tk y s
theorem Zim:∀ (L:List TK) (n:Nat) (T V:List TK→PF),OkL L (n + 1) T V→∀ (s:RS) (t:PT×RS),R0 L s→PreB L n s→FG L (n + 1) T→FG L (n + 1) V→t=pstM T V L s→(PreC L (cP L s) (RS.nest s) fun (s:RS)=>RS.at_ s < (↑L.length:Int))∧∀ (y:TK×RS),y=(ahd L (stP L (cP L s) (RS.nest s)),at1 (stP L (cP L s) (RS.nest s)))→(PreC L (cP L y.2) (RS.nest y.2) fun (s:RS)=>True)∧∀ (y_1:TK×RS),y_1=kindR L (stP L (cP L y.2) (RS.nest y.2)) (1:Int)→brP (ieq (RS.err y_1.2) (0:Int)) ((PreC L (cP L y_1.2) (RS.nest y_1.2) fun (s:RS)=>Pre L (n + 1) s)∧∀ (y_2:PT×RS),y_2=T L (stP L (cP L y_1.2) (RS.nest y_1.2))→brP (ieq (RS.err y_2.2) (0:Int)) (SelfL [AV.pv [AV.int .i64 (PT.kind y_2.1),AV.bs (PT.text y_2.1),AV.int .i64 (PT.num y_2.1),AV.int .i64 (PT.line y_2.1),AV.int .i64 (PT.col y_2.1),AV.sl0,AV.vec 1 (List.length (PT.ks y_2.1)) fun (i:Nat)=>List.getD (pvL (PT.ks y_2.1)) i []]]∧SelfL [AV.pv [AV.int .i64 (PT.kind y_2.1),AV.bs (PT.text y_2.1),AV.int .i64 (PT.num y_2.1),AV.int .i64 (PT.line y_2.1),AV.int .i64 (PT.col y_2.1),AV.sl0,AV.vec 1 (List.length (PT.ks y_2.1)) fun (i:Nat)=>List.getD (pvL (PT.ks y_2.1)) i []]]∧(((True∧True)∧True)∧((True∧True)∧True)∧((True∧True)∧True)∧((AV.agg [AV.int .i64 (TK.kind y.1),AV.bs (TK.text y.1),AV.int .i64 (TK.num y.1),AV.int .i64 (TK.line y.1),AV.int .i64 (TK.col y.1)]=AV.agg [AV.int .i64 (TK.kind y.1),AV.bs (TK.text y.1),AV.int .i64 (TK.num y.1),AV.int .i64 (TK.line y.1),AV.int .i64 (TK.col y.1)]∧True)∧True)∧True)∧(True∧PreC L (cP L y_2.2) (RS.nest y_2.2) fun (s:RS)=>WsP [[(97:UInt8),(102:UInt8),(116:UInt8),(101:UInt8),(114:UInt8)]])∧∀ (y_3:RS),y_3=stP L (cP L y_2.2) (RS.nest y_2.2)→brP (bar (List.any [[(97:UInt8),(102:UInt8),(116:UInt8),(101:UInt8),(114:UInt8)]] (isS L y_3))) ((PreC L (cP L y_3) (RS.nest y_3) fun (s:RS)=>RS.at_ s < (↑L.length:Int))∧∀ (y_4:TK×RS),y_4=(ahd L (stP L (cP L y_3) (RS.nest y_3)),at1 (stP L (cP L y_3) (RS.nest y_3)))→(PreC L (cP L y_4.2) (RS.nest y_4.2) fun (s:RS)=>(3:Int)≠(0:Int))∧∀ (y_5:TK×RS),y_5=kindR L (stP L (cP L y_4.2) (RS.nest y_4.2)) (3:Int)→brP (ieq (RS.err y_5.2) (0:Int)) ((True∧PreC L (cP L y_5.2) (RS.nest y_5.2) fun (s:RS)=>WsP [[(116:UInt8),(111:UInt8)]])∧∀ (y_6:RS),y_6=stP L (cP L y_5.2) (RS.nest y_5.2)→brP (bar (List.any [[(116:UInt8),(111:UInt8)]] (isS L y_6))) ((PreC L (cP L y_6) (RS.nest y_6) fun (s:RS)=>RS.at_ s < (↑L.length:Int))∧∀ (y_7:TK×RS),y_7=(ahd L (stP L (cP L y_6) (RS.nest y_6)),at1 (stP L (cP L y_6) (RS.nest y_6)))→(PreC L (cP L y_7.2) (RS.nest y_7.2) fun (s:RS)=>Pre L (n + 1) s)∧∀ (y_8:PT×RS),y_8=V L (stP L (cP L y_7.2) (RS.nest y_7.2))→brP (ieq (RS.err y_8.2) (0:Int)) ((((True∧True)∧True)∧((True∧True)∧True)∧((True∧True)∧True)∧((AV.sl 12 0 1 1=AV.sl 12 0 1 1∧True)∧True)∧True)∧EqR L (cP L y_8.2) (RS.nest y_8.2) (AV.pv [AV.int .i64 (19:Int),AV.bs (TK.text y_1.1),AV.int .i64 (TK.num y_5.1),AV.int .i64 (TK.line y.1),AV.int .i64 (TK.col y.1),AV.sl0,AV.vec 1 2 fun (i:Nat)=>List.take 1 (List.drop (i * 1) [AV.pv [AV.int .i64 (PT.kind y_2.1),AV.bs (PT.text y_2.1),AV.int .i64 (PT.num y_2.1),AV.int .i64 (PT.line y_2.1),AV.int .i64 (PT.col y_2.1),AV.sl0,AV.vec 1 (List.length (PT.ks y_2.1)) fun (i:Nat)=>List.getD (pvL (PT.ks y_2.1)) i []],AV.pv [AV.int .i64 (PT.kind y_8.1),AV.bs (PT.text y_8.1),AV.int .i64 (PT.num y_8.1),AV.int .i64 (PT.line y_8.1),AV.int .i64 (PT.col y_8.1),AV.sl0,AV.vec 1 (List.length (PT.ks y_8.1)) fun (i:Nat)=>List.getD (pvL (PT.ks y_8.1)) i []]])]) t∧True) ((((True∧True)∧True)∧True)∧EqN L (stopV L y_8.2) t.2)) (EqR L (cP L y_6) (RS.nest y_6) (AV.pv [AV.int .i64 (19:Int),AV.bs (TK.text y_1.1),AV.int .i64 (TK.num y_5.1),AV.int .i64 (TK.line y.1),AV.int .i64 (TK.col y.1),AV.sl0,AV.vec 1 1 fun (x:Nat)=>[AV.pv [AV.int .i64 (PT.kind y_2.1),AV.bs (PT.text y_2.1),AV.int .i64 (PT.num y_2.1),AV.int .i64 (PT.line y_2.1),AV.int .i64 (PT.col y_2.1),AV.sl0,AV.vec 1 (List.length (PT.ks y_2.1)) fun (i:Nat)=>List.getD (pvL (PT.ks y_2.1)) i []]]]) t∧True)) (EqN L (stopV L y_5.2) t.2)) ((True∧PreC L (cP L y_3) (RS.nest y_3) fun (s:RS)=>WsP [[(102:UInt8),(114:UInt8),(111:UInt8),(110:UInt8),(116:UInt8)]])∧∀ (y_4:RS),y_4=stP L (cP L y_3) (RS.nest y_3)→brP (bar (List.any [[(102:UInt8),(114:UInt8),(111:UInt8),(110:UInt8),(116:UInt8)]] (isS L y_4))) ((PreC L (cP L y_4) (RS.nest y_4) fun (s:RS)=>RS.at_ s < (↑L.length:Int))∧∀ (y_5:TK×RS),y_5=(ahd L (stP L (cP L y_4) (RS.nest y_4)),at1 (stP L (cP L y_4) (RS.nest y_4)))→(True∧PreC L (cP L y_5.2) (RS.nest y_5.2) fun (s:RS)=>WsP [[(116:UInt8),(111:UInt8)]])∧∀ (y_6:RS),y_6=stP L (cP L y_5.2) (RS.nest y_5.2)→brP (bar (List.any [[(116:UInt8),(111:UInt8)]] (isS L y_6))) ((PreC L (cP L y_6) (RS.nest y_6) fun (s:RS)=>RS.at_ s < (↑L.length:Int))∧∀ (y_7:TK×RS),y_7=(ahd L (stP L (cP L y_6) (RS.nest y_6)),at1 (stP L (cP L y_6) (RS.nest y_6)))→(PreC L (cP L y_7.2) (RS.nest y_7.2) fun (s:RS)=>Pre L (n + 1) s)∧∀ (y_8:PT×RS),y_8=V L (stP L (cP L y_7.2) (RS.nest y_7.2))→brP (ieq (RS.err y_8.2) (0:Int)) ((((True∧True)∧True)∧((True∧True)∧True)∧((True∧True)∧True)∧((AV.sl 12 0 1 1=AV.sl 12 0 1 1∧True)∧True)∧True)∧EqR L (cP L y_8.2) (RS.nest y_8.2) (AV.pv [AV.int .i64 (19:Int),AV.bs (TK.text y_1.1),AV.int .i64 (Int.negSucc 0),AV.int .i64 (TK.line y.1),AV.int .i64 (TK.col y.1),AV.sl0,AV.vec 1 2 fun (i:Nat)=>List.take 1 (List.drop (i * 1) [AV.pv [AV.int .i64 (PT.kind y_2.1),AV.bs (PT.text y_2.1),AV.int .i64 (PT.num y_2.1),AV.int .i64 (PT.line y_2.1),AV.int .i64 (PT.col y_2.1),AV.sl0,AV.vec 1 (List.length (PT.ks y_2.1)) fun (i:Nat)=>List.getD (pvL (PT.ks y_2.1)) i []],AV.pv [AV.int .i64 (PT.kind y_8.1),AV.bs (PT.text y_8.1),AV.int .i64 (PT.num y_8.1),AV.int .i64 (PT.line y_8.1),AV.int .i64 (PT.col y_8.1),AV.sl0,AV.vec 1 (List.length (PT.ks y_8.1)) fun (i:Nat)=>List.getD (pvL (PT.ks y_8.1)) i []]])]) t∧True) ((((True∧True)∧True)∧True)∧EqN L (stopV L y_8.2) t.2)) (EqR L (cP L y_6) (RS.nest y_6) (AV.pv [AV.int .i64 (19:Int),AV.bs (TK.text y_1.1),AV.int .i64 (Int.negSucc 0),AV.int .i64 (TK.line y.1),AV.int .i64 (TK.col y.1),AV.sl0,AV.vec 1 1 fun (x:Nat)=>[AV.pv [AV.int .i64 (PT.kind y_2.1),AV.bs (PT.text y_2.1),AV.int .i64 (PT.num y_2.1),AV.int .i64 (PT.line y_2.1),AV.int .i64 (PT.col y_2.1),AV.sl0,AV.vec 1 (List.length (PT.ks y_2.1)) fun (i:Nat)=>List.getD (pvL (PT.ks y_2.1)) i []]]]) t∧True)) ((True∧PreC L (cP L y_4) (RS.nest y_4) fun (s:RS)=>WsP [[(116:UInt8),(111:UInt8)]])∧∀ (y_5:RS),y_5=stP L (cP L y_4) (RS.nest y_4)→brP (bar (List.any [[(116:UInt8),(111:UInt8)]] (isS L y_5))) ((PreC L (cP L y_5) (RS.nest y_5) fun (s:RS)=>RS.at_ s < (↑L.length:Int))∧∀ (y_6:TK×RS),y_6=(ahd L (stP L (cP L y_5) (RS.nest y_5)),at1 (stP L (cP L y_5) (RS.nest y_5)))→(PreC L (cP L y_6.2) (RS.nest y_6.2) fun (s:RS)=>Pre L (n + 1) s)∧∀ (y_7:PT×RS),y_7=V L (stP L (cP L y_6.2) (RS.nest y_6.2))→brP (ieq (RS.err y_7.2) (0:Int)) ((((True∧True)∧True)∧((True∧True)∧True)∧((True∧True)∧True)∧((AV.sl 12 0 1 1=AV.sl 12 0 1 1∧True)∧True)∧True)∧EqR L (cP L y_7.2) (RS.nest y_7.2) (AV.pv [AV.int .i64 (19:Int),AV.bs (TK.text y_1.1),AV.int .i64 (0:Int),AV.int .i64 (TK.line y.1),AV.int .i64 (TK.col y.1),AV.sl0,AV.vec 1 2 fun (i:Nat)=>List.take 1 (List.drop (i * 1) [AV.pv [AV.int .i64 (PT.kind y_2.1),AV.bs (PT.text y_2.1),AV.int .i64 (PT.num y_2.1),AV.int .i64 (PT.line y_2.1),AV.int .i64 (PT.col y_2.1),AV.sl0,AV.vec 1 (List.length (PT.ks y_2.1)) fun (i:Nat)=>List.getD (pvL (PT.ks y_2.1)) i []],AV.pv [AV.int .i64 (PT.kind y_7.1),AV.bs (PT.text y_7.1),AV.int .i64 (PT.num y_7.1),AV.int .i64 (PT.line y_7.1),AV.int .i64 (PT.col y_7.1),AV.sl0,AV.vec 1 (List.length (PT.ks y_7.1)) fun (i:Nat)=>List.getD (pvL (PT.ks y_7.1)) i []]])]) t∧True) ((((True∧True)∧True)∧True)∧EqN L (stopV L y_7.2) t.2)) (EqR L (cP L y_5) (RS.nest y_5) (AV.pv [AV.int .i64 (19:Int),AV.bs (TK.text y_1.1),AV.int .i64 (0:Int),AV.int .i64 (TK.line y.1),AV.int .i64 (TK.col y.1),AV.sl0,AV.vec 1 1 fun (x:Nat)=>[AV.pv [AV.int .i64 (PT.kind y_2.1),AV.bs (PT.text y_2.1),AV.int .i64 (PT.num y_2.1),AV.int .i64 (PT.line y_2.1),AV.int .i64 (PT.col y_2.1),AV.sl0,AV.vec 1 (List.length (PT.ks y_2.1)) fun (i:Nat)=>List.getD (pvL (PT.ks y_2.1)) i []]]]) t∧True)))) ((((True∧True)∧True)∧True)∧EqN L (stopV L y_2.2) t.2)) (EqN L (stopV L y_1.2) t.2)
:= by
 intro L n T V hok s t hs hp hT hV ht
 simp only [Zh,Zq,true_and,and_true,eq_self,implies_true,Nat.le_eq,Zw,Zx,ZF,Int.toNat_natCast,Int.ofNat_eq_natCast,Nat.ble_eq,Nat.ble_self_eq_true,Bool.true_and,Bool.and_true,Bool.and_self,Option.some.injEq,AV.int.injEq,Zl,Zi,Nat.mul_one,Nat.beq_refl,Zm,cond_true,cond_false,Zn,Bool.not_true,Bool.not_false,decide_true,ZR,ZT,ZS,Ze,List.nil_append]
 have hl:=Zkh hs.ok (by rw [hp.k];decide)
 have ra:=YQ hs hl
 have pa:=Va hp.p hl
 have ht:t=postX T V L (ahd L s) (kindR L (at1 s) 1).1 (kindR L (at1 s) 1).2:=ht
 have kS:=ZZ (L:=L) (k:=1) ra.ok (by decide)
 refine YK hs hl (ZA (f:=fun s=>kindR L s 1) ra trivial (by rw [ht];exact Zfu hT.k hV.k _ _ _) fun e1=>?_)
 have r1:=Xo ra kS (Yn L _ 1) e1
 have p1:=Xw (Xu pa kS)
 have gT:=hT.g L _ p1
 have p2:=Vf p1 gT
 unfold postX at ht
 have rest:Kp (T L (kindR L (at1 s) 1).2).2 t.2:=by
  rw [ht]
  exact Yx (P:=fun r:PT×RS=>Kp (T L (kindR L (at1 s) 1).2).2 r.2) (fun _=>(Yo _).tr ((Yn L _ 3).tr (Zb6 hV.k))) fun _=>Yx (P:=fun r:PT×RS=>Kp (T L (kindR L (at1 s) 1).2).2 r.2) (fun _=>(Yo _).tr (Zb6 hV.k)) fun _=>Zb6 hV.k
 refine ZA (f:=T L) r1 p1 rest fun e2=>⟨self1 _,self1 _,?_⟩
 have r2:=ZL r1 gT (hT.k _) e2
 refine Ya r2 rfl (Zd (fun c=>?_) fun c=>Ya r2 rfl (Zd (fun c2=>?_) fun c2=>?_))
 ·have c:isS L (T L (kindR L (at1 s) 1).2).2 wAfter=true:=by rwa [any1 rfl] at c
  rw [if_pos c] at ht
  have hl2:=ZE c
  have ra2:=YQ r2 hl2
  have kS2:=ZZ (L:=L) (k:=3) ra2.ok (by decide)
  refine YK r2 hl2 (ZA (f:=fun s=>kindR L s 3) ra2 (by decide) (by rw [ht];exact Zb6 hV.k) fun e3=>?_)
  exact Zh6 (Xo ra2 kS2 (Yn L _ 3) e3) (Xw (Xu (Va p2 hl2) kS2)) hV ht
 ·have c:isS L (T L (kindR L (at1 s) 1).2).2 wAfter=false:=by rwa [any1 rfl] at c
  have c2:isS L (T L (kindR L (at1 s) 1).2).2 wFront=true:=by rwa [any1 rfl] at c2
  rw [if_neg (nb c),if_pos c2] at ht
  have hl2:=ZE c2
  exact YK r2 hl2 (Zh6 (YQ r2 hl2) (Xw (Va p2 hl2)) hV ht)
 ·have c:isS L (T L (kindR L (at1 s) 1).2).2 wAfter=false:=by rwa [any1 rfl] at c
  have c2:isS L (T L (kindR L (at1 s) 1).2).2 wFront=false:=by rwa [any1 rfl] at c2
  rw [if_neg (nb c),if_neg (nb c2)] at ht
  exact Zh6 r2 p2 hV ht
theorem runPostP:∀ (L:List TK) (n:Nat) (T V:List TK→PF) (hok:OkL L (n + 1) T V) (s:RS) (t:PT×RS),R0 L s→PreB L n s→FG L (n + 1) T→FG L (n + 1) V→t=pstM T V L s→(cRun (cxL L (n + 1) T V hok) 60).call 72 [.ptr 4 0] (mkH (glT ++ numL [objP L s] 4)) (4 + 1) (ResP L t) :=
 Eq.mpr (by kernel_rfl) Zim
theorem okPostP {L:List TK} {n:Nat} {T V:List TK→PF} (h:OkL L (n + 1) T V) (hT:FG L (n + 1) T) (hV:FG L (n + 1) V):HEntOK Tryd.prog 72 (mB L n (pstM T V)) :=
 YY fun s h1 h2=>⟨cxL L (n + 1) T V h,60,rfl,fol,ZK,fun t ht=>runPostP L n T V h s t h1 h2 hT hV ht⟩
end Go.Proofs.YtlmmbanfhjaioaaDoor
end
section
set_option maxRecDepth 100000
set_option maxHeartbeats 2000000
open Go Go.Ev
namespace Go.Proofs.YtlmmbanfhjaioaaDoor
def sngV (s:List UInt8):Int:=if s=wCall then 15 else if s=wCancel then 16 else if s=wJoin then 17 else if s=wLog then 18 else 0
noncomputable def hSng:HSpec :=
 { X:=List UInt8,gl:=[],sel:=fun _=>true,ng:=0,k:=0,args:=fun s=>[.bs s],objs:=fun _=>[],pre:=fun _=>True,out:=fun s=>.ret (.int .i64 (sngV s)) [] 0,fz:=0,find:=fun _ args=>match args with
  | [x]=>ob (strW x) fun s=>some (s,[])
  | _=>none }
structure OkM (L:List TK) (n:Nat) (Br T V:List TK→PF):Prop where
 t:HEntOK Tryd.prog 70 (mF L (n + 1) T)
 v:HEntOK Tryd.prog 74 (mF L (n + 1) V)
 b:HEntOK Tryd.prog 69 (mB L n Br)
 p:HEntOK Tryd.prog 72 (mB L n (pstM T V))
theorem runSng_r:∀ (s:List UInt8),true=true∧((true=true∧(bif decide (s=[(99:UInt8),(97:UInt8),(108:UInt8),(108:UInt8)]) then (15:Int) else bif decide (s=[(99:UInt8),(97:UInt8),(110:UInt8),(99:UInt8),(101:UInt8),(108:UInt8)]) then (16:Int) else bif decide (s=[(106:UInt8),(111:UInt8),(105:UInt8),(110:UInt8)]) then (17:Int) else bif decide (s=[(108:UInt8),(111:UInt8),(103:UInt8)]) then (18:Int) else (0:Int))=sngV s)∧True)∧True
:= by
 intro s
 simp only [Zh,Zq,true_and,and_true,eq_self,implies_true,Nat.le_eq,Zw,Zx,ZF,Int.toNat_natCast,Int.ofNat_eq_natCast,Nat.ble_eq,Nat.ble_self_eq_true,Bool.true_and,Bool.and_true,Bool.and_self,Option.some.injEq,AV.int.injEq,Zl,Zi,Nat.mul_one,Nat.beq_refl,Zm,cond_true,cond_false,Zn,Bool.not_true,Bool.not_false,decide_true,ZR,ZT,ZS,Ze,List.nil_append]
 unfold sngV
 simp only [Bool.cond_decide]
 rfl
theorem runSng:∀ (s:List UInt8),(cRun cxM 60).call 71 [.bs s] .leaf 0 (ResO Tryd.prog 0 0 0 (.ret (.int .i64 (sngV s)) [] 0)) :=
 Eq.mpr (by kernel_rfl) runSng_r
theorem okSng:HEntOK Tryd.prog 71 hSng.ent:=Xr _ (fun p hp=>by cases hp) (fun H _ p hp=>by cases hp) (fun x=>rfl) (fun x o ho=>by cases ho) (fun x hp=>⟨⟨rfl,rfl⟩,rfl,fun o ho=>by cases ho⟩) fun x hp=>⟨(cRun cxM 60).call,Xl fol ZK 60,runSng x⟩
noncomputable def htM (L:List TK) (n:Nat) (Br T V:List TK→PF):HTbl:=(71,hSng.ent) :: (70,mF L (n + 1) T) :: (74,mF L (n + 1) V) :: (69,mB L n Br) :: (72,mB L n (pstM T V)) :: htF' L
theorem htM_ok {L:List TK} {n:Nat} {Br T V:List TK→PF} (h:OkM L n Br T V):HtOK Tryd.prog (htM L n Br T V):=ZD okSng (ZD h.t (ZD h.v (ZD h.b (ZD h.p (htF'_ok L)))))
noncomputable def cxMs (L:List TK) (n:Nat) (Br T V:List TK→PF) (h:OkM L n Br T V):Ctx:=cxP (htM L n Br T V) (htM_ok h)
structure GBr (L:List TK) (n:Nat) (Br:List TK→PF):Prop where
 b:∀ s,PreB L n s→Post L 1 2 s (Br L s)
 k:KF (Br L)
end Go.Proofs.YtlmmbanfhjaioaaDoor
end
section
set_option maxRecDepth 100000
set_option maxHeartbeats 2000000
open Go Go.Ev
namespace Go.Proofs.YtlmmbanfhjaioaaDoor
theorem Yl {L:List TK} {s:RS} {w:List UInt8} (h:isS L s w=true) (hw:kindS w=2):(ahd L s).kind=2∧(ahd L s).text=w:=by
 obtain ⟨_,h2⟩:=QF h
 refine ⟨?_,Xe h⟩
 unfold isS at h
 rw [Bool.and_eq_true,decide_eq_true_eq,decide_eq_true_eq] at h
 omega
theorem YV {L:List TK} {s:RS} {w:List UInt8} (h:isS L s w=false) (hw:kindS w=2) (hk:(ahd L s).kind=2):(ahd L s).text≠w:=fun e=>by
 unfold isS at h
 rw [hw,hk,e] at h
 simp at h
section
variable {Se:List TK→TK→PF} {Br Po T:List TK→PF} {L:List TK} {s:RS}
theorem st_if (c:isS L s wIf=true):stmtM Se Br Po T L s=Br L s:=by
 obtain ⟨h1,h2⟩:=Yl c rfl
 unfold stmtM
 rw [if_neg (fun e=>e h1)]
 simp only [h2]
 rw [if_pos trivial]
theorem st_while (c:isS L s wWhile=true):stmtM Se Br Po T L s=Br L s:=by
 obtain ⟨h1,h2⟩:=Yl c rfl
 unfold stmtM
 rw [if_neg (fun e=>e h1)]
 simp only [h2]
 rw [if_neg (show ¬ wWhile=wIf by decide),if_pos trivial]
theorem st_var (c:isS L s wVar=true):stmtM Se Br Po T L s=semi L (varS T L (ahd L s) (kindR L (at1 s) 1)):=by
 obtain ⟨h1,h2⟩:=Yl c rfl
 unfold stmtM
 rw [if_neg (fun e=>e h1)]
 simp only [h2]
 rw [if_neg (show ¬ wVar=wIf by decide),if_neg (show ¬ wVar=wWhile by decide),if_pos trivial]
theorem st_call (c:isS L s wCall=true):stmtM Se Br Po T L s=semi L (oneS T L 15 (ahd L s) (at1 s)):=by
 obtain ⟨h1,h2⟩:=Yl c rfl
 unfold stmtM
 rw [if_neg (fun e=>e h1)]
 simp only [h2]
 rw [if_neg (show ¬ wCall=wIf by decide),if_neg (show ¬ wCall=wWhile by decide),if_neg (show ¬ wCall=wVar by decide),if_pos trivial]
theorem Zl0 (c:isS L s wCancel=true):stmtM Se Br Po T L s=semi L (oneS T L 16 (ahd L s) (at1 s)):=by
 obtain ⟨h1,h2⟩:=Yl c rfl
 unfold stmtM
 rw [if_neg (fun e=>e h1)]
 simp only [h2]
 rw [if_neg (show ¬ wCancel=wIf by decide),if_neg (show ¬ wCancel=wWhile by decide),if_neg (show ¬ wCancel=wVar by decide),if_neg (show ¬ wCancel=wCall by decide),if_pos trivial]
theorem st_join (c:isS L s wJoin=true):stmtM Se Br Po T L s=semi L (oneS T L 17 (ahd L s) (at1 s)):=by
 obtain ⟨h1,h2⟩:=Yl c rfl
 unfold stmtM
 rw [if_neg (fun e=>e h1)]
 simp only [h2]
 rw [if_neg (show ¬ wJoin=wIf by decide),if_neg (show ¬ wJoin=wWhile by decide),if_neg (show ¬ wJoin=wVar by decide),if_neg (show ¬ wJoin=wCall by decide),if_neg (show ¬ wJoin=wCancel by decide),if_pos trivial]
theorem st_log (c:isS L s wLog=true):stmtM Se Br Po T L s=semi L (oneS T L 18 (ahd L s) (at1 s)):=by
 obtain ⟨h1,h2⟩:=Yl c rfl
 unfold stmtM
 rw [if_neg (fun e=>e h1)]
 simp only [h2]
 rw [if_neg (show ¬ wLog=wIf by decide),if_neg (show ¬ wLog=wWhile by decide),if_neg (show ¬ wLog=wVar by decide),if_neg (show ¬ wLog=wCall by decide),if_neg (show ¬ wLog=wCancel by decide),if_neg (show ¬ wLog=wJoin by decide),if_pos trivial]
theorem st_post (c:isS L s wPost=true):stmtM Se Br Po T L s=semi L (Po L s):=by
 obtain ⟨h1,h2⟩:=Yl c rfl
 unfold stmtM
 rw [if_neg (fun e=>e h1)]
 simp only [h2]
 rw [if_neg (show ¬ wPost=wIf by decide),if_neg (show ¬ wPost=wWhile by decide),if_neg (show ¬ wPost=wVar by decide),if_neg (show ¬ wPost=wCall by decide),if_neg (show ¬ wPost=wCancel by decide),if_neg (show ¬ wPost=wJoin by decide),if_neg (show ¬ wPost=wLog by decide),if_pos trivial]
theorem st_spawn (c:isS L s wSpawn=true):stmtM Se Br Po T L s=semi L (Po L s):=by
 obtain ⟨h1,h2⟩:=Yl c rfl
 unfold stmtM
 rw [if_neg (fun e=>e h1)]
 simp only [h2]
 rw [if_neg (show ¬ wSpawn=wIf by decide),if_neg (show ¬ wSpawn=wWhile by decide),if_neg (show ¬ wSpawn=wVar by decide),if_neg (show ¬ wSpawn=wCall by decide),if_neg (show ¬ wSpawn=wCancel by decide),if_neg (show ¬ wSpawn=wJoin by decide),if_neg (show ¬ wSpawn=wLog by decide),if_neg (show ¬ wSpawn=wPost by decide),if_pos trivial]
theorem Zlz (c:isS L s wEnable=true):stmtM Se Br Po T L s=semi L (nmS L 21 (ahd L s) (at1 s)):=by
 obtain ⟨h1,h2⟩:=Yl c rfl
 unfold stmtM
 rw [if_neg (fun e=>e h1)]
 simp only [h2]
 rw [if_neg (show ¬ wEnable=wIf by decide),if_neg (show ¬ wEnable=wWhile by decide),if_neg (show ¬ wEnable=wVar by decide),if_neg (show ¬ wEnable=wCall by decide),if_neg (show ¬ wEnable=wCancel by decide),if_neg (show ¬ wEnable=wJoin by decide),if_neg (show ¬ wEnable=wLog by decide),if_neg (show ¬ wEnable=wPost by decide),if_neg (show ¬ wEnable=wSpawn by decide),if_pos trivial]
theorem Zjp (c:isS L s wDisable=true):stmtM Se Br Po T L s=semi L (nmS L 22 (ahd L s) (at1 s)):=by
 obtain ⟨h1,h2⟩:=Yl c rfl
 unfold stmtM
 rw [if_neg (fun e=>e h1)]
 simp only [h2]
 rw [if_neg (show ¬ wDisable=wIf by decide),if_neg (show ¬ wDisable=wWhile by decide),if_neg (show ¬ wDisable=wVar by decide),if_neg (show ¬ wDisable=wCall by decide),if_neg (show ¬ wDisable=wCancel by decide),if_neg (show ¬ wDisable=wJoin by decide),if_neg (show ¬ wDisable=wLog by decide),if_neg (show ¬ wDisable=wPost by decide),if_neg (show ¬ wDisable=wSpawn by decide),if_neg (show ¬ wDisable=wEnable by decide),if_pos trivial]
theorem Zlk (c:isS L s wReturn=true):stmtM Se Br Po T L s=semi L (nd 25 [] 0 (ahd L s) [],at1 s):=by
 obtain ⟨h1,h2⟩:=Yl c rfl
 unfold stmtM
 rw [if_neg (fun e=>e h1)]
 simp only [h2]
 rw [if_neg (show ¬ wReturn=wIf by decide),if_neg (show ¬ wReturn=wWhile by decide),if_neg (show ¬ wReturn=wVar by decide),if_neg (show ¬ wReturn=wCall by decide),if_neg (show ¬ wReturn=wCancel by decide),if_neg (show ¬ wReturn=wJoin by decide),if_neg (show ¬ wReturn=wLog by decide),if_neg (show ¬ wReturn=wPost by decide),if_neg (show ¬ wReturn=wSpawn by decide),if_neg (show ¬ wReturn=wEnable by decide),if_neg (show ¬ wReturn=wDisable by decide),if_pos trivial]
theorem st_def (c0:isS L s wIf=false) (c1:isS L s wWhile=false) (c2:isS L s wVar=false) (c3:isS L s wCall=false) (c4:isS L s wCancel=false) (c5:isS L s wJoin=false) (c6:isS L s wLog=false) (c7:isS L s wPost=false) (c8:isS L s wSpawn=false) (c9:isS L s wEnable=false) (c10:isS L s wDisable=false) (c11:isS L s wReturn=false):stmtM Se Br Po T L s=Se L (ahd L s) s:=by
 unfold stmtM
 by_cases hk:(ahd L s).kind=2
 ·rw [if_neg (fun e=>e hk),if_neg (YV c0 rfl hk),if_neg (YV c1 rfl hk),if_neg (YV c2 rfl hk),if_neg (YV c3 rfl hk),if_neg (YV c4 rfl hk),if_neg (YV c5 rfl hk),if_neg (YV c6 rfl hk),if_neg (YV c7 rfl hk),if_neg (YV c8 rfl hk),if_neg (YV c9 rfl hk),if_neg (YV c10 rfl hk),if_neg (YV c11 rfl hk)]
 ·rw [if_pos hk]
end
theorem Ue {L:List TK} {x:PT} {r:RS} {t:PT×RS} {v:AV} (hr:R0 L r) (ht:t=semi L (x,r)) (hv:∀ s',s'.err=0→t=(x,s')→EqR L (cP L s') s'.nest v t) :
  (PreC L (cP L r) r.nest fun _=>WsP [[59]])∧∀ y,y=oneR L (stP L (cP L r) r.nest) [[59]]→brP (ieq y.2.err 0) (EqR L (cP L y.2) y.2.nest v t) (EqN L (stopV L y.2) t.2):=by
 have h:t=(x,(oneR L r [[59]]).2):=by rw [ht];unfold semi;rw [Yk];rfl
 exact ZA (f:=fun s=>oneR L s [[59]]) hr (Xh rfl) (by rw [h];exact Zv _) fun e=>hv _ e h
theorem Zdr {L:List TK} {x:PT} {r:RS} {t:PT×RS} (ht:t=semi L (x,r)):Kp r t.2:=by rw [ht];exact Zu L r _
theorem toS_go {L:List TK} {n:Nat} {V:List TK→PF} {s:RS} {t:PT×RS} {k m:Int} {x:List UInt8} {tk:TK} {y:PT} (hs:R0 L s) (hp:Pre L (n + 1) s) (hV:FG L (n + 1) V) (ht:t=semi L (toM V L k x m tk y s)) :
  (PreC L (cP L s) s.nest fun _=>WsP [[116,111]])∧∀ u,u=stP L (cP L s) s.nest→brP ([[116,111]].any (isS L u)) ((PreC L (cP L u) u.nest fun s=>s.at_ < L.length)∧∀ v:TK×RS,v=(ahd L (stP L (cP L u) u.nest),at1 (stP L (cP L u) u.nest))→(PreC L (cP L v.2) v.2.nest fun s=>Pre L (n + 1) s) ∧
   ∀ z,z=V L (stP L (cP L v.2) v.2.nest)→brP (ieq z.2.err 0) ((PreC L (cP L z.2) z.2.nest fun _=>WsP [[59]])∧∀ w,w=oneR L (stP L (cP L z.2) z.2.nest) [[59]]→brP (ieq w.2.err 0) (EqR L (cP L w.2) w.2.nest (.pv [.int .i64 k,.bs x,.int .i64 m,.int .i64 tk.line,.int .i64 tk.col,.sl0,.vec 1 2 fun i=>List.take 1 (List.drop i [pvX y,pvX z.1])]) t) (EqN L (stopV L w.2) t.2)) (EqN L (stopV L z.2) t.2))
   ((PreC L (cP L u) u.nest fun _=>WsP [[59]])∧∀ w,w=oneR L (stP L (cP L u) u.nest) [[59]]→brP (ieq w.2.err 0) (EqR L (cP L w.2) w.2.nest (.pv [.int .i64 k,.bs x,.int .i64 m,.int .i64 tk.line,.int .i64 tk.col,.sl0,.vec 1 1 fun _=>[pvX y]]) t) (EqN L (stopV L w.2) t.2)):=by
 unfold toM at ht
 refine Ya hs rfl (Zd (fun c=>?_) fun c=>?_)
 ·have c:isS L s wTo=true:=by rwa [any1 rfl] at c
  rw [if_pos c] at ht
  have hl:=ZE c
  have pa:=Xw (Va hp hl)
  refine YK hs hl (ZA (f:=V L) (YQ hs hl) pa (Zdr ht) fun e=>?_)
  exact Ue (ZL (YQ hs hl) (hV.g L _ pa) (hV.k _) e) ht fun s' e' h=>(VV h e' rfl rfl).2
 ·have c:isS L s wTo=false:=by rwa [any1 rfl] at c
  rw [if_neg (nb c)] at ht
  exact Ue hs ht fun s' e' h=>(Vz h e' rfl).2
theorem Zku {f:List UInt8→Bool} {a b:List UInt8}:[a,b].any f=(f a || f b):=by simp
theorem Zg5 {f:List UInt8→Bool} {a b c d:List UInt8}:[a,b,c,d].any f=(f a || (f b || (f c || f d))):=by simp
theorem st_sng {Se:List TK→TK→PF} {Br Po T:List TK→PF} {L:List TK} {s:RS} (c:[wCall,wCancel,wJoin,wLog].any (isS L s)=true):stmtM Se Br Po T L s=semi L (oneS T L (sngV (ahd L s).text) (ahd L s) (at1 s)):=by
 rw [Zg5,Bool.or_eq_true,Bool.or_eq_true,Bool.or_eq_true] at c
 rcases c with c | c | c | c
 ·rw [st_call c,Xe c];rfl
 ·rw [Zl0 c,Xe c];rfl
 ·rw [st_join c,Xe c];rfl
 ·rw [st_log c,Xe c];rfl
@[reducible] def Vk:TK×RS→Prop:=fun (a:TK×RS)=>(AV.agg [AV.int .i64 (TK.kind a.1),AV.bs (TK.text a.1),AV.int .i64 (TK.num a.1),AV.int .i64 (TK.line a.1),AV.int .i64 (TK.col a.1)]=AV.agg [AV.int .i64 (TK.kind a.1),AV.bs (TK.text a.1),AV.int .i64 (TK.num a.1),AV.int .i64 (TK.line a.1),AV.int .i64 (TK.col a.1)]∧True∧True)∧True
@[reducible] def Vn:TK×RS→Prop:=fun (a:TK×RS)=>Vk a∧((True∧True∧True)∧True)∧True
theorem Ziu:∀ (L:List TK) (n:Nat) (Br T V:List TK→PF),OkM L n Br T V→∀ (s:RS) (t:PT×RS),R0 L s→Pre L (n + 1) s→FG L (n + 1) T→FG L (n + 1) V→GBr L n Br→t=stmtM (fun (L:List TK) (t:TK)=>setM V T L t) Br (postM T V) T L s→(True∧PreC L (cP L s) (RS.nest s) fun (s:RS)=>WsP [[(105:UInt8),(102:UInt8)],[(119:UInt8),(104:UInt8),(105:UInt8),(108:UInt8),(101:UInt8)]])∧∀ (y:RS),y=stP L (cP L s) (RS.nest s)→brP (bar (List.any [[(105:UInt8),(102:UInt8)],[(119:UInt8),(104:UInt8),(105:UInt8),(108:UInt8),(101:UInt8)]] (isS L y))) ((PreC L (cP L y) (RS.nest y) fun (s:RS)=>PreB L n s)∧∀ (y_1:PT×RS),y_1=Br L (stP L (cP L y) (RS.nest y))→brP (ieq (RS.err y_1.2) (0:Int)) (EqR L (cP L y_1.2) (RS.nest y_1.2) (AV.pv [AV.int .i64 (PT.kind y_1.1),AV.bs (PT.text y_1.1),AV.int .i64 (PT.num y_1.1),AV.int .i64 (PT.line y_1.1),AV.int .i64 (PT.col y_1.1),AV.sl0,AV.vec 1 (List.length (PT.ks y_1.1)) fun (i:Nat)=>List.getD (pvL (PT.ks y_1.1)) i []]) t∧True) (EqN L (stopV L y_1.2) t.2)) ((True∧PreC L (cP L y) (RS.nest y) fun (s:RS)=>WsP [[(118:UInt8),(97:UInt8),(114:UInt8)]])∧∀ (y_1:RS),y_1=stP L (cP L y) (RS.nest y)→brP (bar (List.any [[(118:UInt8),(97:UInt8),(114:UInt8)]] (isS L y_1))) ((PreC L (cP L y_1) (RS.nest y_1) fun (s:RS)=>RS.at_ s < (↑L.length:Int))∧∀ (y:TK×RS),y=(ahd L (stP L (cP L y_1) (RS.nest y_1)),at1 (stP L (cP L y_1) (RS.nest y_1)))→(PreC L (cP L y.2) (RS.nest y.2) fun (s:RS)=>True)∧∀ (y_2:TK×RS),y_2=kindR L (stP L (cP L y.2) (RS.nest y.2)) (1:Int)→brP (ieq (RS.err y_2.2) (0:Int)) ((PreC L (cP L y_2.2) (RS.nest y_2.2) fun (s:RS)=>True)∧∀ (y_3:PT×RS),y_3=typM L (stP L (cP L y_2.2) (RS.nest y_2.2))→brP (ieq (RS.err y_3.2) (0:Int)) (SelfL [AV.pv [AV.int .i64 (PT.kind y_3.1),AV.bs (PT.text y_3.1),AV.int .i64 (PT.num y_3.1),AV.int .i64 (PT.line y_3.1),AV.int .i64 (PT.col y_3.1),AV.sl0,AV.vec 1 (List.length (PT.ks y_3.1)) fun (i:Nat)=>List.getD (pvL (PT.ks y_3.1)) i []]]∧SelfL [AV.pv [AV.int .i64 (PT.kind y_3.1),AV.bs (PT.text y_3.1),AV.int .i64 (PT.num y_3.1),AV.int .i64 (PT.line y_3.1),AV.int .i64 (PT.col y_3.1),AV.sl0,AV.vec 1 (List.length (PT.ks y_3.1)) fun (i:Nat)=>List.getD (pvL (PT.ks y_3.1)) i []]]∧(((True∧True)∧True)∧((True∧True)∧True)∧((True∧True)∧True)∧((AV.agg [AV.int .i64 (TK.kind y.1),AV.bs (TK.text y.1),AV.int .i64 (TK.num y.1),AV.int .i64 (TK.line y.1),AV.int .i64 (TK.col y.1)]=AV.agg [AV.int .i64 (TK.kind y.1),AV.bs (TK.text y.1),AV.int .i64 (TK.num y.1),AV.int .i64 (TK.line y.1),AV.int .i64 (TK.col y.1)]∧True)∧True)∧True)∧(True∧PreC L (cP L y_3.2) (RS.nest y_3.2) fun (s:RS)=>WsP [[(61:UInt8)]])∧∀ (y_4:TK×RS),y_4=oneR L (stP L (cP L y_3.2) (RS.nest y_3.2)) [[(61:UInt8)]]→brP (ieq (RS.err y_4.2) (0:Int)) ((PreC L (cP L y_4.2) (RS.nest y_4.2) fun (s:RS)=>Pre L (n + 1) s)∧∀ (y_5:PT×RS),y_5=T L (stP L (cP L y_4.2) (RS.nest y_4.2))→brP (ieq (RS.err y_5.2) (0:Int)) ((((True∧True)∧True)∧((True∧True)∧True)∧((True∧True)∧True)∧((AV.sl 16 0 1 1=AV.sl 16 0 1 1∧True)∧True)∧True)∧(True∧PreC L (cP L y_5.2) (RS.nest y_5.2) fun (s:RS)=>WsP [[(59:UInt8)]])∧∀ (y_6:TK×RS),y_6=oneR L (stP L (cP L y_5.2) (RS.nest y_5.2)) [[(59:UInt8)]]→brP (ieq (RS.err y_6.2) (0:Int)) (EqR L (cP L y_6.2) (RS.nest y_6.2) (AV.pv [AV.int .i64 (13:Int),AV.bs (TK.text y_2.1),AV.int .i64 (0:Int),AV.int .i64 (TK.line y.1),AV.int .i64 (TK.col y.1),AV.sl0,AV.vec 1 2 fun (i:Nat)=>List.take 1 (List.drop (i * 1) [AV.pv [AV.int .i64 (PT.kind y_3.1),AV.bs (PT.text y_3.1),AV.int .i64 (PT.num y_3.1),AV.int .i64 (PT.line y_3.1),AV.int .i64 (PT.col y_3.1),AV.sl0,AV.vec 1 (List.length (PT.ks y_3.1)) fun (i:Nat)=>List.getD (pvL (PT.ks y_3.1)) i []],AV.pv [AV.int .i64 (PT.kind y_5.1),AV.bs (PT.text y_5.1),AV.int .i64 (PT.num y_5.1),AV.int .i64 (PT.line y_5.1),AV.int .i64 (PT.col y_5.1),AV.sl0,AV.vec 1 (List.length (PT.ks y_5.1)) fun (i:Nat)=>List.getD (pvL (PT.ks y_5.1)) i []]])]) t∧True) (EqN L (stopV L y_6.2) t.2)) ((((True∧True)∧True)∧True)∧EqN L (stopV L y_5.2) t.2)) (EqN L (stopV L y_4.2) t.2)) ((((True∧True)∧True)∧True)∧EqN L (stopV L y_3.2) t.2)) (EqN L (stopV L y_2.2) t.2)) ((True∧PreC L (cP L y_1) (RS.nest y_1) fun (s:RS)=>WsP [[(99:UInt8),(97:UInt8),(108:UInt8),(108:UInt8)],[(99:UInt8),(97:UInt8),(110:UInt8),(99:UInt8),(101:UInt8),(108:UInt8)],[(106:UInt8),(111:UInt8),(105:UInt8),(110:UInt8)],[(108:UInt8),(111:UInt8),(103:UInt8)]])∧∀ (y:RS),y=stP L (cP L y_1) (RS.nest y_1)→brP (bar (List.any [[(99:UInt8),(97:UInt8),(108:UInt8),(108:UInt8)],[(99:UInt8),(97:UInt8),(110:UInt8),(99:UInt8),(101:UInt8),(108:UInt8)],[(106:UInt8),(111:UInt8),(105:UInt8),(110:UInt8)],[(108:UInt8),(111:UInt8),(103:UInt8)]] (isS L y))) ((PreC L (cP L y) (RS.nest y) fun (s:RS)=>RS.at_ s < (↑L.length:Int))∧∀ (y_2:TK×RS),y_2=(ahd L (stP L (cP L y) (RS.nest y)),at1 (stP L (cP L y) (RS.nest y)))→(True∧true=true∧true=true∧(TK.text y_2.1=TK.text y_2.1∧True)∧True)∧(PreC L (cP L y_2.2) (RS.nest y_2.2) fun (s:RS)=>Pre L (n + 1) s)∧∀ (y:PT×RS),y=T L (stP L (cP L y_2.2) (RS.nest y_2.2))→brP (ieq (RS.err y.2) (0:Int)) (SelfL [AV.pv [AV.int .i64 (PT.kind y.1),AV.bs (PT.text y.1),AV.int .i64 (PT.num y.1),AV.int .i64 (PT.line y.1),AV.int .i64 (PT.col y.1),AV.sl0,AV.vec 1 (List.length (PT.ks y.1)) fun (i:Nat)=>List.getD (pvL (PT.ks y.1)) i []]]∧(Vk y_2∧((True∧True∧True)∧True)∧Vn y_2)∧(True∧PreC L (cP L y.2) (RS.nest y.2) fun (s:RS)=>WsP [[(59:UInt8)]])∧∀ (y_3:TK×RS),y_3=oneR L (stP L (cP L y.2) (RS.nest y.2)) [[(59:UInt8)]]→brP (ieq (RS.err y_3.2) (0:Int)) (EqR L (cP L y_3.2) (RS.nest y_3.2) (AV.pv [AV.int .i64 (sngV (TK.text y_2.1)),AV.bs [],AV.int .i64 (0:Int),AV.int .i64 (TK.line y_2.1),AV.int .i64 (TK.col y_2.1),AV.sl0,AV.vec 1 1 fun (x:Nat)=>[AV.pv [AV.int .i64 (PT.kind y.1),AV.bs (PT.text y.1),AV.int .i64 (PT.num y.1),AV.int .i64 (PT.line y.1),AV.int .i64 (PT.col y.1),AV.sl0,AV.vec 1 (List.length (PT.ks y.1)) fun (i:Nat)=>List.getD (pvL (PT.ks y.1)) i []]]]) t∧True) (EqN L (stopV L y_3.2) t.2)) (Vn y_2∧EqN L (stopV L y.2) t.2)) ((True∧PreC L (cP L y) (RS.nest y) fun (s:RS)=>WsP [[(112:UInt8),(111:UInt8),(115:UInt8),(116:UInt8)]])∧∀ (y_2:RS),y_2=stP L (cP L y) (RS.nest y)→brP (bar (List.any [[(112:UInt8),(111:UInt8),(115:UInt8),(116:UInt8)]] (isS L y_2))) ((PreC L (cP L y_2) (RS.nest y_2) fun (s:RS)=>PreB L n s)∧∀ (y:PT×RS),y=pstM T V L (stP L (cP L y_2) (RS.nest y_2))→brP (ieq (RS.err y.2) (0:Int)) ((True∧PreC L (cP L y.2) (RS.nest y.2) fun (s:RS)=>WsP [[(59:UInt8)]])∧∀ (y_3:TK×RS),y_3=oneR L (stP L (cP L y.2) (RS.nest y.2)) [[(59:UInt8)]]→brP (ieq (RS.err y_3.2) (0:Int)) (EqR L (cP L y_3.2) (RS.nest y_3.2) (AV.pv [AV.int .i64 (PT.kind y.1),AV.bs (PT.text y.1),AV.int .i64 (PT.num y.1),AV.int .i64 (PT.line y.1),AV.int .i64 (PT.col y.1),AV.sl0,AV.vec 1 (List.length (PT.ks y.1)) fun (i:Nat)=>List.getD (pvL (PT.ks y.1)) i []]) t∧True) (EqN L (stopV L y_3.2) t.2)) (EqN L (stopV L y.2) t.2)) ((True∧PreC L (cP L y_2) (RS.nest y_2) fun (s:RS)=>WsP [[(115:UInt8),(112:UInt8),(97:UInt8),(119:UInt8),(110:UInt8)]])∧∀ (y:RS),y=stP L (cP L y_2) (RS.nest y_2)→brP (bar (List.any [[(115:UInt8),(112:UInt8),(97:UInt8),(119:UInt8),(110:UInt8)]] (isS L y))) ((PreC L (cP L y) (RS.nest y) fun (s:RS)=>RS.at_ s < (↑L.length:Int))∧∀ (y_3:TK×RS),y_3=(ahd L (stP L (cP L y) (RS.nest y)),at1 (stP L (cP L y) (RS.nest y)))→(PreC L (cP L y_3.2) (RS.nest y_3.2) fun (s:RS)=>Pre L (n + 1) s)∧∀ (y:PT×RS),y=T L (stP L (cP L y_3.2) (RS.nest y_3.2))→brP (ieq (RS.err y.2) (0:Int)) (SelfL [AV.pv [AV.int .i64 (PT.kind y.1),AV.bs (PT.text y.1),AV.int .i64 (PT.num y.1),AV.int .i64 (PT.line y.1),AV.int .i64 (PT.col y.1),AV.sl0,AV.vec 1 (List.length (PT.ks y.1)) fun (i:Nat)=>List.getD (pvL (PT.ks y.1)) i []]]∧(True∧PreC L (cP L y.2) (RS.nest y.2) fun (s:RS)=>WsP [[(116:UInt8),(111:UInt8)]])∧∀ (y_4:RS),y_4=stP L (cP L y.2) (RS.nest y.2)→brP (bar (List.any [[(116:UInt8),(111:UInt8)]] (isS L y_4))) ((PreC L (cP L y_4) (RS.nest y_4) fun (s:RS)=>RS.at_ s < (↑L.length:Int))∧∀ (y_5:TK×RS),y_5=(ahd L (stP L (cP L y_4) (RS.nest y_4)),at1 (stP L (cP L y_4) (RS.nest y_4)))→(PreC L (cP L y_5.2) (RS.nest y_5.2) fun (s:RS)=>Pre L (n + 1) s)∧∀ (y_6:PT×RS),y_6=V L (stP L (cP L y_5.2) (RS.nest y_5.2))→brP (ieq (RS.err y_6.2) (0:Int)) ((((True∧True)∧True)∧((True∧True)∧True)∧((True∧True)∧True)∧((AV.sl 17 0 1 1=AV.sl 17 0 1 1∧True)∧True)∧True)∧(True∧PreC L (cP L y_6.2) (RS.nest y_6.2) fun (s:RS)=>WsP [[(59:UInt8)]])∧∀ (y_7:TK×RS),y_7=oneR L (stP L (cP L y_6.2) (RS.nest y_6.2)) [[(59:UInt8)]]→brP (ieq (RS.err y_7.2) (0:Int)) (EqR L (cP L y_7.2) (RS.nest y_7.2) (AV.pv [AV.int .i64 (20:Int),AV.bs [],AV.int .i64 (0:Int),AV.int .i64 (TK.line y_3.1),AV.int .i64 (TK.col y_3.1),AV.sl0,AV.vec 1 2 fun (i:Nat)=>List.take 1 (List.drop (i * 1) [AV.pv [AV.int .i64 (PT.kind y.1),AV.bs (PT.text y.1),AV.int .i64 (PT.num y.1),AV.int .i64 (PT.line y.1),AV.int .i64 (PT.col y.1),AV.sl0,AV.vec 1 (List.length (PT.ks y.1)) fun (i:Nat)=>List.getD (pvL (PT.ks y.1)) i []],AV.pv [AV.int .i64 (PT.kind y_6.1),AV.bs (PT.text y_6.1),AV.int .i64 (PT.num y_6.1),AV.int .i64 (PT.line y_6.1),AV.int .i64 (PT.col y_6.1),AV.sl0,AV.vec 1 (List.length (PT.ks y_6.1)) fun (i:Nat)=>List.getD (pvL (PT.ks y_6.1)) i []]])]) t∧True) (EqN L (stopV L y_7.2) t.2)) ((((True∧True)∧True)∧True)∧EqN L (stopV L y_6.2) t.2)) ((True∧PreC L (cP L y_4) (RS.nest y_4) fun (s:RS)=>WsP [[(59:UInt8)]])∧∀ (y_5:TK×RS),y_5=oneR L (stP L (cP L y_4) (RS.nest y_4)) [[(59:UInt8)]]→brP (ieq (RS.err y_5.2) (0:Int)) (EqR L (cP L y_5.2) (RS.nest y_5.2) (AV.pv [AV.int .i64 (20:Int),AV.bs [],AV.int .i64 (0:Int),AV.int .i64 (TK.line y_3.1),AV.int .i64 (TK.col y_3.1),AV.sl0,AV.vec 1 1 fun (x:Nat)=>[AV.pv [AV.int .i64 (PT.kind y.1),AV.bs (PT.text y.1),AV.int .i64 (PT.num y.1),AV.int .i64 (PT.line y.1),AV.int .i64 (PT.col y.1),AV.sl0,AV.vec 1 (List.length (PT.ks y.1)) fun (i:Nat)=>List.getD (pvL (PT.ks y.1)) i []]]]) t∧True) (EqN L (stopV L y_5.2) t.2))) (EqN L (stopV L y.2) t.2)) ((True∧PreC L (cP L y) (RS.nest y) fun (s:RS)=>WsP [[(101:UInt8),(110:UInt8),(97:UInt8),(98:UInt8),(108:UInt8),(101:UInt8)]])∧∀ (y_3:RS),y_3=stP L (cP L y) (RS.nest y)→brP (bar (List.any [[(101:UInt8),(110:UInt8),(97:UInt8),(98:UInt8),(108:UInt8),(101:UInt8)]] (isS L y_3))) ((PreC L (cP L y_3) (RS.nest y_3) fun (s:RS)=>RS.at_ s < (↑L.length:Int))∧∀ (y:TK×RS),y=(ahd L (stP L (cP L y_3) (RS.nest y_3)),at1 (stP L (cP L y_3) (RS.nest y_3)))→(PreC L (cP L y.2) (RS.nest y.2) fun (s:RS)=>True)∧∀ (y_4:TK×RS),y_4=kindR L (stP L (cP L y.2) (RS.nest y.2)) (1:Int)→brP (ieq (RS.err y_4.2) (0:Int)) ((True∧PreC L (cP L y_4.2) (RS.nest y_4.2) fun (s:RS)=>WsP [[(59:UInt8)]])∧∀ (y_5:TK×RS),y_5=oneR L (stP L (cP L y_4.2) (RS.nest y_4.2)) [[(59:UInt8)]]→brP (ieq (RS.err y_5.2) (0:Int)) (EqR L (cP L y_5.2) (RS.nest y_5.2) (AV.pv [AV.int .i64 (21:Int),AV.bs (TK.text y_4.1),AV.int .i64 (0:Int),AV.int .i64 (TK.line y.1),AV.int .i64 (TK.col y.1),AV.sl0,AV.sl0]) t∧True) (EqN L (stopV L y_5.2) t.2)) (EqN L (stopV L y_4.2) t.2)) ((True∧PreC L (cP L y_3) (RS.nest y_3) fun (s:RS)=>WsP [[(100:UInt8),(105:UInt8),(115:UInt8),(97:UInt8),(98:UInt8),(108:UInt8),(101:UInt8)]])∧∀ (y:RS),y=stP L (cP L y_3) (RS.nest y_3)→brP (bar (List.any [[(100:UInt8),(105:UInt8),(115:UInt8),(97:UInt8),(98:UInt8),(108:UInt8),(101:UInt8)]] (isS L y))) ((PreC L (cP L y) (RS.nest y) fun (s:RS)=>RS.at_ s < (↑L.length:Int))∧∀ (y_4:TK×RS),y_4=(ahd L (stP L (cP L y) (RS.nest y)),at1 (stP L (cP L y) (RS.nest y)))→(PreC L (cP L y_4.2) (RS.nest y_4.2) fun (s:RS)=>True)∧∀ (y:TK×RS),y=kindR L (stP L (cP L y_4.2) (RS.nest y_4.2)) (1:Int)→brP (ieq (RS.err y.2) (0:Int)) ((True∧PreC L (cP L y.2) (RS.nest y.2) fun (s:RS)=>WsP [[(59:UInt8)]])∧∀ (y_5:TK×RS),y_5=oneR L (stP L (cP L y.2) (RS.nest y.2)) [[(59:UInt8)]]→brP (ieq (RS.err y_5.2) (0:Int)) (EqR L (cP L y_5.2) (RS.nest y_5.2) (AV.pv [AV.int .i64 (22:Int),AV.bs (TK.text y.1),AV.int .i64 (0:Int),AV.int .i64 (TK.line y_4.1),AV.int .i64 (TK.col y_4.1),AV.sl0,AV.sl0]) t∧True) (EqN L (stopV L y_5.2) t.2)) (EqN L (stopV L y.2) t.2)) ((True∧PreC L (cP L y) (RS.nest y) fun (s:RS)=>WsP [[(114:UInt8),(101:UInt8),(116:UInt8),(117:UInt8),(114:UInt8),(110:UInt8)]])∧∀ (y_4:RS),y_4=stP L (cP L y) (RS.nest y)→brP (bar (List.any [[(114:UInt8),(101:UInt8),(116:UInt8),(117:UInt8),(114:UInt8),(110:UInt8)]] (isS L y_4))) ((PreC L (cP L y_4) (RS.nest y_4) fun (s:RS)=>RS.at_ s < (↑L.length:Int))∧∀ (y:TK×RS),y=(ahd L (stP L (cP L y_4) (RS.nest y_4)),at1 (stP L (cP L y_4) (RS.nest y_4)))→(True∧PreC L (cP L y.2) (RS.nest y.2) fun (s:RS)=>WsP [[(59:UInt8)]])∧∀ (y_5:TK×RS),y_5=oneR L (stP L (cP L y.2) (RS.nest y.2)) [[(59:UInt8)]]→brP (ieq (RS.err y_5.2) (0:Int)) (EqR L (cP L y_5.2) (RS.nest y_5.2) (AV.pv [AV.int .i64 (25:Int),AV.bs [],AV.int .i64 (0:Int),AV.int .i64 (TK.line y.1),AV.int .i64 (TK.col y.1),AV.sl0,AV.sl0]) t∧True) (EqN L (stopV L y_5.2) t.2)) (brP (ilt (0:Int) (Int.ofNat (List.length (List.drop (Int.toNat (RS.at_ y_4)) L)))) (sdA (inB (0:Int) (List.length (List.drop (Int.toNat (RS.at_ y_4)) L))) ((PreC L (cP L y_4) (RS.nest y_4) fun (s:RS)=>Pre L (n + 1) s)∧∀ (y:PT×RS),y=V L (stP L (cP L y_4) (RS.nest y_4))→brP (ieq (RS.err y.2) (0:Int)) (SelfL [AV.pv [AV.int .i64 (PT.kind y.1),AV.bs (PT.text y.1),AV.int .i64 (PT.num y.1),AV.int .i64 (PT.line y.1),AV.int .i64 (PT.col y.1),AV.sl0,AV.vec 1 (List.length (PT.ks y.1)) fun (i:Nat)=>List.getD (pvL (PT.ks y.1)) i []]]∧(((True∧True)∧True)∧((True∧True)∧True)∧((AV.agg [AV.int .i64 (TK.kind (List.getD (List.drop (Int.toNat (RS.at_ y_4)) L) 0 TK.zero)),AV.bs (TK.text (List.getD (List.drop (Int.toNat (RS.at_ y_4)) L) 0 TK.zero)),AV.int .i64 (TK.num (List.getD (List.drop (Int.toNat (RS.at_ y_4)) L) 0 TK.zero)),AV.int .i64 (TK.line (List.getD (List.drop (Int.toNat (RS.at_ y_4)) L) 0 TK.zero)),AV.int .i64 (TK.col (List.getD (List.drop (Int.toNat (RS.at_ y_4)) L) 0 TK.zero))]=AV.agg [AV.int .i64 (TK.kind (List.getD (List.drop (Int.toNat (RS.at_ y_4)) L) 0 TK.zero)),AV.bs (TK.text (List.getD (List.drop (Int.toNat (RS.at_ y_4)) L) 0 TK.zero)),AV.int .i64 (TK.num (List.getD (List.drop (Int.toNat (RS.at_ y_4)) L) 0 TK.zero)),AV.int .i64 (TK.line (List.getD (List.drop (Int.toNat (RS.at_ y_4)) L) 0 TK.zero)),AV.int .i64 (TK.col (List.getD (List.drop (Int.toNat (RS.at_ y_4)) L) 0 TK.zero))]∧True)∧True)∧True)∧(True∧PreC L (cP L y.2) (RS.nest y.2) fun (s:RS)=>WsP [[(61:UInt8)]])∧∀ (y_5:TK×RS),y_5=oneR L (stP L (cP L y.2) (RS.nest y.2)) [[(61:UInt8)]]→brP (ieq (RS.err y_5.2) (0:Int)) ((PreC L (cP L y_5.2) (RS.nest y_5.2) fun (s:RS)=>Pre L (n + 1) s)∧∀ (y_6:PT×RS),y_6=T L (stP L (cP L y_5.2) (RS.nest y_5.2))→brP (ieq (RS.err y_6.2) (0:Int)) ((((True∧True)∧True)∧((True∧True)∧True)∧((True∧True)∧True)∧((AV.sl 26 0 1 1=AV.sl 26 0 1 1∧True)∧True)∧True)∧(True∧PreC L (cP L y_6.2) (RS.nest y_6.2) fun (s:RS)=>WsP [[(59:UInt8)]])∧∀ (y_7:TK×RS),y_7=oneR L (stP L (cP L y_6.2) (RS.nest y_6.2)) [[(59:UInt8)]]→brP (ieq (RS.err y_7.2) (0:Int)) (EqR L (cP L y_7.2) (RS.nest y_7.2) (AV.pv [AV.int .i64 (14:Int),AV.bs [],AV.int .i64 (0:Int),AV.int .i64 (TK.line (List.getD (List.drop (Int.toNat (RS.at_ y_4)) L) 0 TK.zero)),AV.int .i64 (TK.col (List.getD (List.drop (Int.toNat (RS.at_ y_4)) L) 0 TK.zero)),AV.sl0,AV.vec 1 2 fun (i:Nat)=>List.take 1 (List.drop (i * 1) [AV.pv [AV.int .i64 (PT.kind y.1),AV.bs (PT.text y.1),AV.int .i64 (PT.num y.1),AV.int .i64 (PT.line y.1),AV.int .i64 (PT.col y.1),AV.sl0,AV.vec 1 (List.length (PT.ks y.1)) fun (i:Nat)=>List.getD (pvL (PT.ks y.1)) i []],AV.pv [AV.int .i64 (PT.kind y_6.1),AV.bs (PT.text y_6.1),AV.int .i64 (PT.num y_6.1),AV.int .i64 (PT.line y_6.1),AV.int .i64 (PT.col y_6.1),AV.sl0,AV.vec 1 (List.length (PT.ks y_6.1)) fun (i:Nat)=>List.getD (pvL (PT.ks y_6.1)) i []]])]) t∧True) (EqN L (stopV L y_7.2) t.2)) ((((True∧True)∧True)∧True)∧EqN L (stopV L y_6.2) t.2)) (EqN L (stopV L y_5.2) t.2)) ((((True∧True)∧True)∧True)∧EqN L (stopV L y.2) t.2))) ((PreC L (cP L y_4) (RS.nest y_4) fun (s:RS)=>Pre L (n + 1) s)∧∀ (y:PT×RS),y=V L (stP L (cP L y_4) (RS.nest y_4))→brP (ieq (RS.err y.2) (0:Int)) (SelfL [AV.pv [AV.int .i64 (PT.kind y.1),AV.bs (PT.text y.1),AV.int .i64 (PT.num y.1),AV.int .i64 (PT.line y.1),AV.int .i64 (PT.col y.1),AV.sl0,AV.vec 1 (List.length (PT.ks y.1)) fun (i:Nat)=>List.getD (pvL (PT.ks y.1)) i []]]∧(((True∧True)∧True)∧((True∧True)∧True)∧((AV.agg [AV.int .i64 (0:Int),AV.str 0 0,AV.int .i64 (0:Int),AV.int .i64 (0:Int),AV.int .i64 (0:Int)]=AV.agg [AV.int .i64 (0:Int),AV.str 0 0,AV.int .i64 (0:Int),AV.int .i64 (0:Int),AV.int .i64 (0:Int)]∧True)∧True)∧True)∧(True∧PreC L (cP L y.2) (RS.nest y.2) fun (s:RS)=>WsP [[(61:UInt8)]])∧∀ (y_5:TK×RS),y_5=oneR L (stP L (cP L y.2) (RS.nest y.2)) [[(61:UInt8)]]→brP (ieq (RS.err y_5.2) (0:Int)) ((PreC L (cP L y_5.2) (RS.nest y_5.2) fun (s:RS)=>Pre L (n + 1) s)∧∀ (y_6:PT×RS),y_6=T L (stP L (cP L y_5.2) (RS.nest y_5.2))→brP (ieq (RS.err y_6.2) (0:Int)) ((((True∧True)∧True)∧((True∧True)∧True)∧((True∧True)∧True)∧((AV.sl 25 0 1 1=AV.sl 25 0 1 1∧True)∧True)∧True)∧(True∧PreC L (cP L y_6.2) (RS.nest y_6.2) fun (s:RS)=>WsP [[(59:UInt8)]])∧∀ (y_7:TK×RS),y_7=oneR L (stP L (cP L y_6.2) (RS.nest y_6.2)) [[(59:UInt8)]]→brP (ieq (RS.err y_7.2) (0:Int)) (EqR L (cP L y_7.2) (RS.nest y_7.2) (AV.pv [AV.int .i64 (14:Int),AV.bs [],AV.int .i64 (0:Int),AV.int .i64 (0:Int),AV.int .i64 (0:Int),AV.sl0,AV.vec 1 2 fun (i:Nat)=>List.take 1 (List.drop (i * 1) [AV.pv [AV.int .i64 (PT.kind y.1),AV.bs (PT.text y.1),AV.int .i64 (PT.num y.1),AV.int .i64 (PT.line y.1),AV.int .i64 (PT.col y.1),AV.sl0,AV.vec 1 (List.length (PT.ks y.1)) fun (i:Nat)=>List.getD (pvL (PT.ks y.1)) i []],AV.pv [AV.int .i64 (PT.kind y_6.1),AV.bs (PT.text y_6.1),AV.int .i64 (PT.num y_6.1),AV.int .i64 (PT.line y_6.1),AV.int .i64 (PT.col y_6.1),AV.sl0,AV.vec 1 (List.length (PT.ks y_6.1)) fun (i:Nat)=>List.getD (pvL (PT.ks y_6.1)) i []]])]) t∧True) (EqN L (stopV L y_7.2) t.2)) ((((True∧True)∧True)∧True)∧EqN L (stopV L y_6.2) t.2)) (EqN L (stopV L y_5.2) t.2)) ((((True∧True)∧True)∧True)∧EqN L (stopV L y.2) t.2))))))))))
:= by
 intro L n Br T V hok s t hs hp hT hV hB ht
 simp only [Zh,Zq,true_and,and_true,eq_self,implies_true,Nat.le_eq,Zw,Zx,ZF,Int.toNat_natCast,Int.ofNat_eq_natCast,Nat.ble_eq,Nat.ble_self_eq_true,Bool.true_and,Bool.and_true,Bool.and_self,Option.some.injEq,AV.int.injEq,Zl,Zi,Nat.mul_one,Nat.beq_refl,Zm,cond_true,cond_false,Zn,Bool.not_true,Bool.not_false,decide_true,ZR,ZT,ZS,Ze,List.nil_append,Vk,Vn]
 have hok:=hs.ok
 refine Ya hs rfl (Zd (fun c=>?_) fun c=>?_)
 ·have c:[wIf,wWhile].any (isS L s)=true:=c
  rw [Zku,Bool.or_eq_true] at c
  have hk:(ahd L s).kind=2∧t=Br L s:=by
   rcases c with c | c
   ·exact ⟨(Yl c rfl).1,by rw [ht,st_if c]⟩
   ·exact ⟨(Yl c rfl).1,by rw [ht,st_while c]⟩
  exact ZA (f:=Br L) hs ⟨hp,hk.1⟩ (by rw [hk.2];exact Zv _) fun e=>Xs hk.2 e
 have c0:[wIf,wWhile].any (isS L s)=false:=c
 rw [Zku,Bool.or_eq_false_iff] at c0
 clear c
 refine Ya hs rfl (Zd (fun c=>?_) fun c=>?_)
 ·have c:isS L s wVar=true:=by rwa [any1 rfl] at c
  rw [st_var c] at ht
  have hl:=ZE c
  have ra:=YQ hs hl
  have pa:=Va hp hl
  have kS:=ZZ (L:=L) (k:=1) ra.ok (by decide)
  unfold varS at ht
  have k3:=Zdr ht
  refine YK hs hl (ZA (f:=fun s=>kindR L s 1) ra trivial ((UW L _).tr ((Zu L _ _).tr ((hT.k _).tr k3))) fun e1=>?_)
  have r1:=Xo ra kS (Yn L _ 1) e1
  have p1:=Xu pa kS
  have tS:=Uv (L:=L) r1.ok
  refine ZA (f:=typM L) r1 trivial ((Zu L _ _).tr ((hT.k _).tr k3)) fun e2=>⟨self1 _,self1 _,?_⟩
  have r2:=ZL r1 tS (UW L _) e2
  have p2:=Vf p1 tS
  rw [Yk] at k3 ht
  refine ZA (f:=fun s=>oneR L s [[61]]) r2 (Xh rfl) ((hT.k _).tr k3) fun e3=>?_
  have s3:=YZ (L:=L) (ws:=[[61]]) r2.ok
  have r3:=Xo r2 s3 (YF L _ _) e3
  have p3:=Xw (Xu p2 s3)
  refine ZA (f:=T L) r3 p3 k3 fun e4=>?_
  exact Ue (ZL r3 (hT.g L _ p3) (hT.k _) e4) ht fun s' e' h=>(VV h e' rfl rfl).2
 have c1:isS L s wVar=false:=by rwa [any1 rfl] at c
 clear c
 refine Ya hs rfl (Zd (fun c=>?_) fun c=>?_)
 ·have c:[wCall,wCancel,wJoin,wLog].any (isS L s)=true:=c
  rw [st_sng c] at ht
  obtain ⟨w,_,hw⟩:=List.any_eq_true.1 c
  have hl:=ZE hw
  have ra:=YQ hs hl
  have pa:=Xw (Va hp hl)
  unfold oneS at ht
  refine YK hs hl (ZA (f:=T L) ra pa (Zdr ht) fun e1=>⟨self1 _,?_⟩)
  exact Ue (ZL ra (hT.g L _ pa) (hT.k _) e1) ht fun s' e' h=>(Vz h e' rfl).2
 have c2:[wCall,wCancel,wJoin,wLog].any (isS L s)=false:=c
 rw [Zg5,Bool.or_eq_false_iff,Bool.or_eq_false_iff,Bool.or_eq_false_iff] at c2
 clear c
 refine Ya hs rfl (Zd (fun c=>?_) fun c=>?_)
 ·have c:isS L s wPost=true:=by rwa [any1 rfl] at c
  rw [st_post c] at ht
  have hk:=(Yl c rfl).1
  have hpo:postM T V L s=pstM T V L s:=by
   unfold postM
   rw [if_pos (Xe c)];rfl
  rw [hpo] at ht
  have pB:PreB L n s:=⟨hp,hk⟩
  refine ZA (f:=pstM T V L) hs pB (Zdr (x:=(pstM T V L s).1) ht) fun e1=>?_
  exact Ue (x:=(pstM T V L s).1) (ZL hs (by rw [← hpo];exact KQ hT.g hV.g pB) (by rw [← hpo];exact Zkm hT.k hV.k _) e1) ht fun s' e' h=>Xs h e'
 have c3:isS L s wPost=false:=by rwa [any1 rfl] at c
 clear c
 refine Ya hs rfl (Zd (fun c=>?_) fun c=>?_)
 ·have c:isS L s wSpawn=true:=by rwa [any1 rfl] at c
  rw [st_spawn c] at ht
  have hl:=ZE c
  have ra:=YQ hs hl
  have pa:=Xw (Va hp hl)
  have hpo:postM T V L s=toM V L 20 [] 0 (ahd L s) (T L (at1 s)).1 (T L (at1 s)).2:=by
   unfold postM
   rw [if_neg (by rw [Xe c];decide)]
  rw [hpo] at ht
  have kT:Kp (T L (at1 s)).2 t.2:=by rw [ht];exact Qb (Zb6 hV.k)
  refine YK hs hl (ZA (f:=T L) ra pa kT fun e1=>⟨self1 _,?_⟩)
  exact toS_go (ZL ra (hT.g L _ pa) (hT.k _) e1) (Vf pa (hT.g L _ pa)) hV ht
 have c4:isS L s wSpawn=false:=by rwa [any1 rfl] at c
 clear c
 have nm:∀ k:Int,s.at_ < L.length→t=semi L (nmS L k (ahd L s) (at1 s))→(PreC L (cP L s) s.nest fun s=>s.at_ < L.length)∧∀ y:TK×RS,y=(ahd L (stP L (cP L s) s.nest),at1 (stP L (cP L s) s.nest))→(PreC L (cP L y.2) y.2.nest fun _=>True)∧∀ z,z=kindR L (stP L (cP L y.2) y.2.nest) 1→brP (ieq z.2.err 0)
   ((PreC L (cP L z.2) z.2.nest fun _=>WsP [[59]])∧∀ w,w=oneR L (stP L (cP L z.2) z.2.nest) [[59]]→brP (ieq w.2.err 0) (EqR L (cP L w.2) w.2.nest (.pv [.int .i64 k,.bs z.1.text,.int .i64 0,.int .i64 y.1.line,.int .i64 y.1.col,.sl0,.sl0]) t) (EqN L (stopV L w.2) t.2)) (EqN L (stopV L z.2) t.2):=fun k hl ht=>by
  have ra:=YQ hs hl
  have kS:=ZZ (L:=L) (k:=1) ra.ok (by decide)
  unfold nmS at ht
  refine YK hs hl (ZA (f:=fun s=>kindR L s 1) ra trivial (Zdr ht) fun e1=>?_)
  exact Ue (Xo ra kS (Yn L _ 1) e1) ht fun s' e' h=>Xq h e'
 refine Ya hs rfl (Zd (fun c=>?_) fun c=>?_)
 ·have c:isS L s wEnable=true:=by rwa [any1 rfl] at c
  rw [Zlz c] at ht
  exact nm 21 (ZE c) ht
 have c5:isS L s wEnable=false:=by rwa [any1 rfl] at c
 clear c
 refine Ya hs rfl (Zd (fun c=>?_) fun c=>?_)
 ·have c:isS L s wDisable=true:=by rwa [any1 rfl] at c
  rw [Zjp c] at ht
  exact nm 22 (ZE c) ht
 have c6:isS L s wDisable=false:=by rwa [any1 rfl] at c
 clear c
 refine Ya hs rfl (Zd (fun c=>?_) fun c=>?_)
 ·have c:isS L s wReturn=true:=by rwa [any1 rfl] at c
  rw [Zlk c] at ht
  have hl:=ZE c
  exact YK hs hl (Ue (YQ hs hl) ht fun s' e' h=>Xq h e')
 have c7:isS L s wReturn=false:=by rwa [any1 rfl] at c
 clear c
 rw [st_def c0.1 c0.2 c1 c2.1 c2.2.1 c2.2.2.1 c2.2.2.2 c3 c4 c5 c6 c7] at ht
 have ht:t=semi L (nd 14 [] 0 (ahd L s) [(V L s).1,(T L (signR L (V L s).2 wSet).2).1],(T L (signR L (V L s).2 wSet).2).2):=ht
 rw [Yk] at ht
 have rest:=Zdr ht
 have key:∀ ln cl:Int,ln=(ahd L s).line→cl=(ahd L s).col→(PreC L (cP L s) s.nest fun s=>Pre L (n + 1) s)∧∀ y,y=V L (stP L (cP L s) s.nest)→brP (ieq y.2.err 0) (SelfL [pvX y.1]∧(PreC L (cP L y.2) y.2.nest fun _=>WsP [[61]])∧∀ z:TK×RS,z=oneR L (stP L (cP L y.2) y.2.nest) [[61]]→brP (ieq z.2.err 0) ((PreC L (cP L z.2) z.2.nest fun s=>Pre L (n + 1) s)∧∀ u,u=T L (stP L (cP L z.2) z.2.nest)→brP (ieq u.2.err 0)
   ((PreC L (cP L u.2) u.2.nest fun _=>WsP [[59]])∧∀ w:TK×RS,w=oneR L (stP L (cP L u.2) u.2.nest) [[59]]→brP (ieq w.2.err 0) (EqR L (cP L w.2) w.2.nest (.pv [.int .i64 14,.bs [],.int .i64 0,.int .i64 ln,.int .i64 cl,.sl0,.vec 1 2 fun i=>List.take 1 (List.drop i [pvX y.1,pvX u.1])]) t) (EqN L (stopV L w.2) t.2)) (EqN L (stopV L u.2) t.2)) (EqN L (stopV L z.2) t.2)) (EqN L (stopV L y.2) t.2):=fun ln cl h1 h2=>by
  subst h1;subst h2
  refine ZA (f:=V L) hs hp ((YF L _ _).tr ((hT.k _).tr rest)) fun e1=>⟨self1 _,?_⟩
  have gV:=hV.g L s hp
  have r1:=ZL hs gV (hV.k _) e1
  have p1:=Vf hp gV
  refine ZA (f:=fun s=>oneR L s [[61]]) r1 (Xh rfl) ((hT.k _).tr rest) fun e2=>?_
  have s3:=YZ (L:=L) (ws:=[[61]]) r1.ok
  have r2:=Xo r1 s3 (YF L _ _) e2
  have p2:=Xu p1 s3
  refine ZA (f:=T L) r2 p2 rest fun e3=>?_
  exact Ue (ZL r2 (hT.g L _ p2) (hT.k _) e3) ht fun s' e' h=>(VV h e' rfl rfl).2
 have hd:=dropL hs
 refine Zd (fun c=>?_) fun c=>?_
 ·rw [ZW] at c
  have hl:s.at_ < L.length:=by omega
  rw [KI hs hl]
  exact Zf (ZM.2 (by omega)) (key _ _ rfl rfl)
 ·rw [ZG] at c
  have ho:=QY (L:=L) (s:=s) (by omega)
  exact key _ _ (by rw [ho];rfl) (by rw [ho];rfl)
theorem runStmtP:∀ (L:List TK) (n:Nat) (Br T V:List TK→PF) (hok:OkM L n Br T V) (s:RS) (t:PT×RS),R0 L s→Pre L (n + 1) s→FG L (n + 1) T→FG L (n + 1) V→GBr L n Br→t=stmtM (fun L t=>setM V T L t) Br (postM T V) T L s→(cRun (cxMs L n Br T V hok) 60).call 54 [.ptr 4 0] (mkH (glT ++ numL [objP L s] 4)) (4 + 1) (ResP L t) :=
 Eq.mpr (by kernel_rfl) Ziu
theorem okStmtP {L:List TK} {n:Nat} {Br T V:List TK→PF} (h:OkM L n Br T V) (hT:FG L (n + 1) T) (hV:FG L (n + 1) V) (hB:GBr L n Br):HEntOK Tryd.prog 54 (mF L (n + 1) (stmtM (fun L t=>setM V T L t) Br (postM T V) T)) :=
 YY fun s h1 h2=>⟨cxMs L n Br T V h,60,rfl,fol,ZK,fun t ht=>runStmtP L n Br T V h s t h1 h2 hT hV hB ht⟩
end Go.Proofs.YtlmmbanfhjaioaaDoor
end
section
set_option maxRecDepth 100000
set_option maxHeartbeats 2000000
open Go Go.Ev
namespace Go.Proofs.YtlmmbanfhjaioaaDoor
noncomputable def lfId (s:St) (slot:Nat):Nat:=match s.T.get slot with
 | some (.ptr id 0)=>id
 | _=>0
noncomputable def lfK (s:St) (id:Nat) (w:AV):AObj:=match s.H.get id with
 | some (.cells el c z N op)=>match readL c z 7 0 with
  | some [a,b,c,d,e,f,_]=>.cells el .leaf (.per [a,b,c,d,e,f,w]) N op
  | _=>objN
 | _=>objN
noncomputable def rowsT (ks:List PT):AObj:=.cells 58 .leaf (.rows 1 fun i=>(pvL ks).getD i []) ks.length true
structure LpB (L:List TK) (f:Nat→List PT→RS→List PT×RS) (t:List PT×RS) (s0:RS) (x:List PT×RS):Prop where
 k:∃ k,meas L x.2 < k∧f k x.1 x.2=t
 p:PostL L 0 4 s0 x
 r:R0 L x.2
noncomputable def stnB (L:List TK) (f:Nat→List PT→RS→List PT×RS) (t:List PT×RS) (s0:RS) (ks:List Nat) (slot:Nat):Stn :=
 { X:=List PT×RS,T:=fun s _ x=>keepT s ks,H:=fun s n0 x=>(s.nx,rowsT x.1) :: (4,objP L x.2) :: (lfId s slot,lfK s (lfId s slot) (.slg s.nx x.1.length 1)) :: keepX s [4,lfId s slot],nx:=fun s _=>s.nx + 1,I:=fun s x=>LpB L f t s0 x,m:=fun x=>meas L x.2 }
noncomputable def cxOb (L:List TK) (n:Nat) (St:List TK→PF) (h:OkI 54 L n St) (s0:RS):Ctx :=
 { P:=Tryd.prog,tb:=[],ht:=htI 54 L n St,hok:=Za1 h,lp:=fun f r=>cond (Nat.beq f 53) (cond (Nat.beq r 2) (some (stnB L (blockL St L) (blockX St L s0) s0 [1,2,4] 4)) none) none,cut:=fun _ _=>none }
structure FG34 (L:List TK) (n:Nat) (F:List TK→PF):Prop where
 g:GF n 3 4 F
 k:KF (F L)
theorem Zkx {σ:List (Nat×Nat)} (l:List PT) (x:PT) {g:Nat→List AV} (hg:g 0=[pvX x]):l.length + 1=(l ++ [x]).length∧AllI fun i=>i.succ≤l.length + 1→vmL σ ((pvL (l ++ [x])).getD i []) (appF l.length (fun i=>(pvL l).getD i []) g i):=by
 refine ⟨by rw [List.length_append,List.length_singleton],⟨fun i hi=>?_⟩⟩
 have hlen:i < (l ++ [x]).length:=by rw [List.length_append,List.length_singleton];omega
 have e:appF l.length (fun i=>(pvL l).getD i []) g i=(pvL (l ++ [x])).getD i []:=by
  refine VG (fun h1=>?_) fun h1=>?_
  ·rw [Yc _ i hlen,Yc l i h1,List.getElem_append_left h1]
  ·have:i=l.length:=by omega
   subst this
   rw [Nat.sub_self,hg,Yc _ _ hlen,List.getElem_append_right (Nat.le_refl _)]
   simp
 rw [e]
 exact Un σ _ i
theorem Zam (l:List PT):goodR 1 l.length (fun i=>(pvL l).getD i [])=true:=Uw fun i hi=>by
 rw [Yc l i hi];rfl
theorem Zd7 {L:List TK} {k n:Int} {x:List UInt8} {tk:TK} {s:RS} {t:PT×RS} {ks:List PT} (h:t=(nd k x n tk ks,s)) (he:s.err=0):EqR L (cP L s) s.nest (.pv [.int .i64 k,.bs x,.int .i64 n,.int .i64 tk.line,.int .i64 tk.col,.sl0,.vec 1 ks.length fun i=>(pvL ks).getD i []]) t :=
 Zfb h he rfl fun i hi=>⟨pvX ks[i],Yc ks i hi,JD _⟩
theorem Zhd {L:List TK} {s:RS} {w:List UInt8} (h:R0 L s) (c:isS L s w=true):signR L s w=(ahd L s,at1 s):=(Us h c).1
@[reducible] def WN:TK×RS→Prop:=fun (a:TK×RS)=>(((((True∧true=true∧(12:Int)=(12:Int))∧([]:List UInt8)=[])∧true=true∧(0:Int)=(0:Int))∧true=true∧TK.line a.1=TK.line a.1)∧true=true∧TK.col a.1=TK.col a.1)∧True
@[reducible] def WI:TK×RS→Prop:=fun (a:TK×RS)=>true=true∧true=true∧true=true∧true=true∧((((True∧true=true∧TK.kind a.1=TK.kind a.1)∧TK.text a.1=TK.text a.1)∧true=true∧TK.num a.1=TK.num a.1)∧true=true∧TK.line a.1=TK.line a.1)∧true=true∧TK.col a.1=TK.col a.1
@[reducible] def XM:TK×RS→Prop:=fun (a:TK×RS)=>(true=true∧asciiTab=asciiTab)∧(true=true∧true=true∧true=true∧true=true∧True∧some 4=some 4∧true=true)∧(true=true∧true=true∧true=true∧true=true∧List.length [[(123:UInt8)]]=List.length [[(123:UInt8)]]∧AllI fun (i:Nat)=>Nat.le (Nat.succ (i * 1)) (List.length [[(123:UInt8)]])→List.getD [[(123:UInt8)]] i []=List.getD [[(123:UInt8)]] i []∧True)∧WI a∧WI a∧True
theorem Zgz:∀ (L:List TK) (n:Nat) (St:List TK→PF),OkI (54:FuncId) L n St→∀ (s:RS) (t:PT×RS),R0 L s→Pre L (n + 1) s→FG34 L n St→t=blockM St L s→(True∧PreC L (cP L s) (RS.nest s) fun (s:RS)=>WsP [[(123:UInt8)]])∧∀ (y:RS),y=stP L (cP L s) (RS.nest s)→brP (!bar (List.any [[(123:UInt8)]] (isS L y))) ((PreC L (cP L y) (RS.nest y) fun (s:RS)=>(4:Int)≠(0:Int))∧EqN L (stopV L (wrongR (stP L (cP L y) (RS.nest y)) (4:Int))) t.2) (brP (ieq (RS.nest y) (64:Int)) ((PreC L (cP L y) (RS.nest y) fun (s:RS)=>(5:Int)≠(0:Int))∧EqN L (stopV L (wrongR (stP L (cP L y) (RS.nest y)) (5:Int))) t.2) ((PreC L (cP L y) (RS.nest y) fun (s:RS)=>RS.at_ s < (↑L.length:Int))∧∀ (y_1:TK×RS),y_1=(ahd L (stP L (cP L y) (RS.nest y)),at1 (stP L (cP L y) (RS.nest y)))→sdA (inR .i64 (RS.nest y_1.2 + 1)) ((∃ (x0:List PT×RS),LpB L (blockL St L) (blockX St L (Prod.snd (openR L s [(123:UInt8)]))) (Prod.snd (openR L s [(123:UInt8)])) x0∧true=true∧((some 5=some 5∧true=true)∧(some 14=some 14∧true=true)∧(some 16=some 16∧true=true)∧True)∧(true=true∧True)∧(true=true∧true=true∧true=true∧true=true∧(True∧true=true∧List.length (List.drop (Int.toNat (RS.at_ y_1.2)) L)=List.length (List.drop (Int.toNat (RS.at_ x0.2)) L)∧AllI fun (i:Nat)=>Nat.le (Nat.succ i) (List.length (List.drop (Int.toNat (RS.at_ y_1.2)) L))→(true=true∧TK.kind (List.getD (List.drop (Int.toNat (RS.at_ y_1.2)) L) i TK.zero)=TK.kind (List.getD (List.drop (Int.toNat (RS.at_ x0.2)) L) i TK.zero))∧TK.text (List.getD (List.drop (Int.toNat (RS.at_ y_1.2)) L) i TK.zero)=TK.text (List.getD (List.drop (Int.toNat (RS.at_ x0.2)) L) i TK.zero)∧(true=true∧TK.num (List.getD (List.drop (Int.toNat (RS.at_ y_1.2)) L) i TK.zero)=TK.num (List.getD (List.drop (Int.toNat (RS.at_ x0.2)) L) i TK.zero))∧(true=true∧TK.line (List.getD (List.drop (Int.toNat (RS.at_ y_1.2)) L) i TK.zero)=TK.line (List.getD (List.drop (Int.toNat (RS.at_ x0.2)) L) i TK.zero))∧(true=true∧TK.col (List.getD (List.drop (Int.toNat (RS.at_ y_1.2)) L) i TK.zero)=TK.col (List.getD (List.drop (Int.toNat (RS.at_ x0.2)) L) i TK.zero))∧True)∧true=true∧RS.nest y_1.2 + 1=RS.nest x0.2)∧(true=true∧true=true∧true=true∧true=true∧WN y_1∧x0.1.length=0)∧XM y_1)∧∀ (x:List PT×RS),LpB L (blockL St L) (blockX St L (Prod.snd (openR L s [(123:UInt8)]))) (Prod.snd (openR L s [(123:UInt8)])) x→(True∧PreC L (cP L x.2) (RS.nest x.2) fun (s:RS)=>WsP [[(125:UInt8)]])∧∀ (y:RS),y=stP L (cP L x.2) (RS.nest x.2)→brP (!bar (List.any [[(125:UInt8)]] (isS L y))) ((PreC L (cP L y) (RS.nest y) fun (s:RS)=>Pre L n s)∧∀ (y_2:PT×RS),y_2=St L (stP L (cP L y) (RS.nest y))→brP (ieq (RS.err y_2.2) (0:Int)) (sdA (bif bif Nat.ble (x.1.length * 1) x.1.length then true else false then decide (x.1.length + 1≤9223372036854775807∧(x.1.length + 1) * 8≤140737488355328) else false) ((((True∧True∧True)∧True)∧((True∧True∧True)∧True)∧((True∧True∧True)∧True)∧((True∧AV.slg 17 x.1.length 1=AV.slg 17 x.1.length 1∧True)∧True)∧True)∧∃ (x':List PT×RS),LpB L (blockL St L) (blockX St L (Prod.snd (openR L s [(123:UInt8)]))) (Prod.snd (openR L s [(123:UInt8)])) x'∧Nat.le (Nat.succ (meas L x'.2)) (meas L x.2)∧true=true∧((some 5=some 5∧true=true)∧(some 14=some 14∧true=true)∧(some 16=some 16∧true=true)∧True)∧(true=true∧true=true∧true=true∧true=true∧(x.1.length + 1) * 1=x'.1.length∧AllI fun (i:Nat)=>Nat.le (Nat.succ (i * 1)) ((x.1.length + 1) * 1)→vmL [(17,28),(16,16),(14,14),(0,0),(1,1),(2,2),(3,3),(4,4),(5,5),(6,6),(7,7),(8,8),(9,9),(10,10),(11,11),(12,12),(13,13)] (List.getD (pvL x'.1) i []) (appF x.1.length (fun (i:Nat)=>List.getD (pvL x.1) i []) (fun (x:Nat)=>[pvX y_2.1]) i))∧(true=true∧true=true∧true=true∧true=true∧(True∧true=true∧List.length (List.drop (Int.toNat (RS.at_ y_2.2)) L)=List.length (List.drop (Int.toNat (RS.at_ x'.2)) L)∧AllI fun (i:Nat)=>Nat.le (Nat.succ i) (List.length (List.drop (Int.toNat (RS.at_ y_2.2)) L))→(true=true∧TK.kind (List.getD (List.drop (Int.toNat (RS.at_ y_2.2)) L) i TK.zero)=TK.kind (List.getD (List.drop (Int.toNat (RS.at_ x'.2)) L) i TK.zero))∧TK.text (List.getD (List.drop (Int.toNat (RS.at_ y_2.2)) L) i TK.zero)=TK.text (List.getD (List.drop (Int.toNat (RS.at_ x'.2)) L) i TK.zero)∧(true=true∧TK.num (List.getD (List.drop (Int.toNat (RS.at_ y_2.2)) L) i TK.zero)=TK.num (List.getD (List.drop (Int.toNat (RS.at_ x'.2)) L) i TK.zero))∧(true=true∧TK.line (List.getD (List.drop (Int.toNat (RS.at_ y_2.2)) L) i TK.zero)=TK.line (List.getD (List.drop (Int.toNat (RS.at_ x'.2)) L) i TK.zero))∧(true=true∧TK.col (List.getD (List.drop (Int.toNat (RS.at_ y_2.2)) L) i TK.zero)=TK.col (List.getD (List.drop (Int.toNat (RS.at_ x'.2)) L) i TK.zero))∧True)∧true=true∧RS.nest y_2.2=RS.nest x'.2)∧(true=true∧true=true∧true=true∧true=true∧WN y_1∧some 28=some 28∧x.1.length + 1=x'.1.length∧true=true)∧XM y_1)) ((((True∧True∧True)∧True)∧True)∧EqN L (stopV L y_2.2) t.2)) ((PreC L (cP L y) (RS.nest y) fun (s:RS)=>RS.at_ s < (↑L.length:Int))∧∀ (y_2:TK×RS),y_2=(ahd L (stP L (cP L y) (RS.nest y)),at1 (stP L (cP L y) (RS.nest y)))→sdA (inR .i64 (RS.nest y_2.2 - 1)) (sdA (bif bif Nat.ble (x.1.length * 1) x.1.length then goodR 1 x.1.length fun (i:Nat)=>List.getD (pvL x.1) i [] else false then true else false) (EqR L (cP L y_2.2) (RS.nest y_2.2 - 1) (AV.pv [AV.int .i64 (12:Int),AV.bs [],AV.int .i64 (0:Int),AV.int .i64 (TK.line y_1.1),AV.int .i64 (TK.col y_1.1),AV.sl0,AV.vec 1 x.1.length fun (i:Nat)=>List.getD (pvL x.1) i []]) t∧True))))))
:= by
 intro L n St hok s t hs hp hS ht
 simp only [Zh,Zq,true_and,and_true,eq_self,implies_true,Nat.le_eq,Zw,Zx,ZF,Int.toNat_natCast,Int.ofNat_eq_natCast,Nat.ble_eq,Nat.ble_self_eq_true,Bool.true_and,Bool.and_true,Bool.and_self,Option.some.injEq,AV.int.injEq,Zl,Zi,Nat.mul_one,Nat.beq_refl,Zm,cond_true,cond_false,Zn,Bool.not_true,Bool.not_false,decide_true,ZR,ZT,ZS,Ze,List.nil_append,WN,WI,XM]
 have hns:=hp.ns
 have hlf:=hp.lf
 have hn0:=hs.ok.n0
 unfold blockM at ht
 have rest0:Kp (blockX St L (openR L s wOpen).2).2 t.2:=by rw [ht];exact (Zu L _ _).tr (Xk _)
 have rest:Kp (openR L s wOpen).2 t.2:=(Yt hS.k _ _ _).tr rest0
 refine Ya hs rfl (Zd (fun c7=>?_) fun c7=>Zd (fun c8=>?_) fun c8=>?_)
 ·rw [Bool.not_eq_true',any1 rfl] at c7
  exact Zbn hs (by decide) ((kp_open4 hs c7).tr rest)
 ·rw [Bool.not_eq_false',any1 rfl] at c7
  rw [ZC] at c8
  exact Zbn hs (by decide) ((JM hs c7 c8).tr rest)
 rw [Bool.not_eq_false',any1 rfl] at c7
 rw [Zy] at c8
 have hl:=ZE c7
 have ra:=YQ hs hl
 have ho:=JF (L:=L) (s:=s) (w:=wOpen) c7 (by omega)
 have ho2:(openR L s wOpen).2=up1 (at1 s):=by rw [ho]
 have ho1:(openR L s wOpen).1=ahd L s:=by rw [ho]
 have ru:=Zjv ra (show s.nest≤900 by omega)
 have pu:Pre L n (up1 (at1 s)):=⟨ru.ok,by show s.nest + 1≤64;omega,by show (L.length:Int) - (s.at_ + 1) < n;omega⟩
 rw [ho1] at ht
 refine YK hs hl (Zf (ZI.2 ⟨by show -9223372036854775808≤s.nest + 1;omega,by show s.nest + 1≤9223372036854775807;omega⟩) ⟨⟨([],up1 (at1 s)),⟨⟨fuelN L,WL ru.ok,by show blockL St L (fuelN L) [] (up1 (at1 s))=blockX St L (openR L s wOpen).2;rw [ho2];rfl⟩,by show PostL L 0 4 (openR L s wOpen).2 _;rw [ho2];exact Wg ru.ok (by decide),ru⟩,ZX (s:=up1 (at1 s)) rfl,rfl⟩,fun x hx=>?_⟩)
 obtain ⟨⟨k,hk,hkt⟩,px,rx⟩:=hx
 have px':PostL L 0 4 (up1 (at1 s)) x:=by rw [← ho2];exact px
 have b1:=px'.bnd ru.ok (by decide)
 have b2:=VX x.1
 have b3:x.2.nest=s.nest + 1:=px'.ns
 cases k with
 | zero=>omega
 | succ k =>
 have hkt:blockL St L (k + 1) x.1 x.2=blockX St L (openR L s wOpen).2:=hkt
 unfold blockL at hkt
 refine Ya rx rfl (Zd (fun c=>?_) fun c=>?_)
 ·have c:isS L x.2 wShut=false:=by rwa [Bool.not_eq_true',any1 rfl] at c
  rw [if_pos ⟨rx.e,c⟩] at hkt
  obtain ⟨d0,d1,d2⟩:=UH (by decide) hS.g (l:=x.1) (s:=x.2) px (fun _=>by show Pre L n (openR L s wOpen).2;rw [ho2];exact pu) rx.e
  refine ZA (f:=St L) rx d0 ((by rw [← hkt];exact Yt hS.k _ _ _:Kp (St L x.2).2 (blockX St L (openR L s wOpen).2).2).tr rest0) fun e=>?_
  exact Zf (decide_eq_true (by omega)) ⟨(x.1 ++ [(St L x.2).1],(St L x.2).2),⟨⟨k,by have:meas L (St L x.2).2 < meas L x.2:=d2;show meas L (St L x.2).2 < k;omega,hkt⟩,d1,ZL rx (hS.g L _ d0) (hS.k _) e⟩,d2,Zkx x.1 (St L x.2).1 rfl,ZX (s:=(St L x.2).2) rfl,by rw [List.length_append,List.length_singleton]⟩
 ·have c:isS L x.2 wShut=true:=by rwa [Bool.not_eq_false',any1 rfl] at c
  rw [if_neg (by rw [c];rintro ⟨_,h⟩;cases h)] at hkt
  have hX:blockX St L (openR L s wOpen).2=(x.1,x.2):=hkt.symm
  rw [hX] at ht
  simp only at ht
  rw [Zhd rx c] at ht
  exact YK rx (ZE c) (Zf (ZI.2 ⟨by show -9223372036854775808≤x.2.nest - 1;omega,by show x.2.nest - 1≤9223372036854775807;omega⟩) (Zf (Zam x.1) (Zd7 (s:=down (at1 x.2)) ht rx.e)))
theorem runBlockP:∀ (L:List TK) (n:Nat) (St:List TK→PF) (hok:OkI 54 L n St) (s:RS) (t:PT×RS),R0 L s→Pre L (n + 1) s→FG34 L n St→t=blockM St L s→(cRun (cxOb L n St hok (openR L s wOpen).2) 60).call 31 [.ptr 4 0] (mkH (glT ++ numL [objP L s] 4)) (4 + 1) (ResP L t) :=
 Eq.mpr (by kernel_rfl) Zgz
theorem okBlockP {L:List TK} {n:Nat} {St:List TK→PF} (h:OkI 54 L n St) (hS:FG34 L n St):HEntOK Tryd.prog 31 (mF L (n + 1) (blockM St)) :=
 YY fun s h1 h2=>⟨cxOb L n St h (openR L s wOpen).2,60,rfl,fol,ZK,fun t ht=>runBlockP L n St h s t h1 h2 hS ht⟩
end Go.Proofs.YtlmmbanfhjaioaaDoor
end
section
set_option maxRecDepth 100000
set_option maxHeartbeats 2000000
open Go Go.Ev
namespace Go.Proofs.YtlmmbanfhjaioaaDoor
structure LvP (L:List TK) (n:Nat) (x:LV):Prop where
 u:HEntOK Tryd.prog 86 (mF L n x.u)
 t:HEntOK Tryd.prog 70 (mF L n x.t)
 b:HEntOK Tryd.prog 31 (mF L n x.b)
theorem mF_mono {g:FuncId} {L:List TK} {n m:Nat} {F:List TK→PF} (hm:n≤m) (h:HEntOK Tryd.prog g (mF L m F)):HEntOK Tryd.prog g (mF L n F):=by
 intro H nx args hc he p v up nx' hout
 have he:cond (globB H) (List.casesOn args none fun p l=>ob (findP H p) fun q=>ob (rd0 l) fun a=>cond (Nat.blt q.2 nx) (some (.need (PreC L q.1.1 q.1.2 fun s=>Pre L n s) (instC [q.2] nx (oF L F (stP L q.1.1 q.1.2))))) none) none=some hc:=he
 cases hg:globB H with
 | false=>rw [hg] at he;cases he
 | true =>
 rw [hg,cond_true] at he
 cases args with
 | nil=>cases he
 | cons a l =>
 obtain ⟨q,hq,he⟩:=Za.1 (show (ob (findP H a) fun q=>ob (rd0 l) fun a=>cond (Nat.blt q.2 nx) (some (HCt.need (PreC L q.1.1 q.1.2 fun s=>Pre L n s) (instC [q.2] nx (oF L F (stP L q.1.1 q.1.2))))) none)=some hc from he)
 obtain ⟨b,hb,he⟩:=Za.1 he
 cases hx:Nat.blt q.2 nx with
 | false=>rw [hx] at he;cases he
 | true =>
 rw [hx] at he
 injection he with he;subst he
 obtain ⟨⟨s,h1,h2,h3,h4⟩,hout⟩:=Xj hout
 refine h H nx (a :: l) (HCt.need (PreC L q.1.1 q.1.2 fun s=>Pre L m s) (instC [q.2] nx (oF L F (stP L q.1.1 q.1.2)))) ?_ p v up nx' ((if_pos ⟨s,h1,h2,h3,Zjo h4 hm⟩).trans hout)
 show cond (globB H) (ob (findP H a) fun q=>ob (rd0 l) fun a=>cond (Nat.blt q.2 nx) (some (HCt.need (PreC L q.1.1 q.1.2 fun s=>Pre L m s) (instC [q.2] nx (oF L F (stP L q.1.1 q.1.2))))) none) none=_
 rw [hg,cond_true,hq]
 show (ob (rd0 l) fun a=>cond (Nat.blt q.2 nx) (some (HCt.need (PreC L q.1.1 q.1.2 fun s=>Pre L m s) (instC [q.2] nx (oF L F (stP L q.1.1 q.1.2))))) none)=_
 rw [hb]
 show cond (Nat.blt q.2 nx) _ none=_
 rw [hx];rfl
theorem lvP_next {L:List TK} {n:Nat} {x:LV} (h:LvP L n x) (hg:LvG n x) (hk:KLv L x):LvP L (n + 1) (nextL x):=by
 have fi:=Za3 hg.t hg.b
 have ti:GF (n + 1) 1 2 (tiL x):=Zax hg.t fi
 have un:GF (n + 1) 1 2 (unL x):=Zba hg.u ti
 have pr:=JS (ws:=[wMul]) un
 have su:=JS (ws:=[wAdd,wSub]) pr
 have te:GF (n + 1) 1 2 (teL x):=Zdq su
 have va:GF (n + 1) 1 2 (vaL x):=Zg4 ti
 have gs:GS n (fun L t=>setM (vaL x) (teL x) L t) (branchM (teL x) x.b) (postM (teL x) (vaL x)) (teL x) :=
  ⟨fun t=>Zhx va te t,fun L s hp=>QG te hg.b hp,fun L s hp=>KQ te va hp,te⟩
 have st:GF (n + 1) 3 4 (stL x):=Zcy gs
 have FT:FG L n x.t:=⟨hg.t,hk.t⟩
 have FB:FG L n x.b:=⟨hg.b,hk.b⟩
 have FU:FG L n x.u:=⟨hg.u,hk.u⟩
 have kfi:=Zf3 hk.t hk.b
 have hfi:=okFirstP ⟨h.t,h.b⟩ FT FB
 have hti:HEntOK Tryd.prog 79 (mF L (n + 1) (tiL x)):=okTightP ⟨h.t,hfi⟩ FT ⟨fi,kfi⟩
 have FTi:FG L (n + 1) (tiL x):=⟨ti,kp_ti hk⟩
 have hun:HEntOK Tryd.prog 86 (mF L (n + 1) (unL x)):=okUnaryP ⟨h.u,hti⟩ FU FTi
 have FUn:FG L (n + 1) (unL x):=⟨un,Zbd hk⟩
 have hpr:=okProductP ⟨hun⟩ FUn
 have FPr:FG L (n + 1) (rowM (unL x) [wMul]):=⟨pr,Zat (Zbd hk)⟩
 have hsu:=okSumP ⟨hpr⟩ FPr
 have FSu:FG L (n + 1) (rowM (rowM (unL x) [wMul]) [wAdd,wSub]):=⟨su,Zat (F:=rowM (unL x) [wMul]) (Zat (Zbd hk))⟩
 have hte:HEntOK Tryd.prog 70 (mF L (n + 1) (teL x)):=okTermP ⟨hsu⟩ FSu
 have FTe:FG L (n + 1) (teL x):=⟨te,Zb1 hk⟩
 have hva:HEntOK Tryd.prog 74 (mF L (n + 1) (vaL x)):=okVarP ⟨hti⟩ FTi
 have FVa:FG L (n + 1) (vaL x):=⟨va,kp_va hk⟩
 have hbr:=okBranchP ⟨hte,h.b⟩ FTe FB
 have hpo:=okPostP ⟨hte,hva⟩ FTe FVa
 have hst:HEntOK Tryd.prog 54 (mF L (n + 1) (stL x)):=okStmtP ⟨hte,hva,hbr,hpo⟩ FTe FVa ⟨fun s hp=>QG te hg.b hp,Zdu (Zb1 hk) hk.b⟩
 have stn:GF n 3 4 (stL x):=fun L s hp=>st L s (Zjo hp (Nat.le_succ n))
 exact ⟨hun,hte,okBlockP ⟨mF_mono (Nat.le_succ n) hst⟩ ⟨stn,kp_st hk⟩⟩
theorem lvP_zero (L:List TK):LvP L 0 (lv 0) :=
 ⟨YY fun s _ h=>(pre0 h).elim,YY fun s _ h=>(pre0 h).elim,YY fun s _ h=>(pre0 h).elim⟩
theorem lvP_ok (L:List TK):∀ n,LvP L n (lv n)
 | 0=>lvP_zero L
 | n + 1=>lvP_next (lvP_ok L n) (Zfn n) (Zdm L n)
end Go.Proofs.YtlmmbanfhjaioaaDoor
end
