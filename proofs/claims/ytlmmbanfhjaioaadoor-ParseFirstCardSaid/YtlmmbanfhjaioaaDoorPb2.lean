/- Laid by program out of its parts: PbJ, PbK, PbL, PbM, PbN, PbO, PbP. -/
import Derived.Test.YtlmmbanfhjaioaaDoorPb1
set_option linter.unusedVariables false
set_option linter.unusedSimpArgs false
section
set_option maxRecDepth 100000
set_option maxHeartbeats 2000000
open Go Go.Ev
namespace Go.Proofs.YtlmmbanfhjaioaaDoor
structure OkJ (L:List TK) (n:Nat) (U Ti:List TK→PF):Prop where
 u:HEntOK Tryd.prog 86 (mF L n U)
 t:HEntOK Tryd.prog 79 (mF L (n + 1) Ti)
noncomputable def htJ (L:List TK) (n:Nat) (U Ti:List TK→PF):HTbl:=(86,mF L n U) :: (79,mF L (n + 1) Ti) :: htF' L
theorem htJ_ok {L:List TK} {n:Nat} {U Ti:List TK→PF} (h:OkJ L n U Ti):HtOK Tryd.prog (htJ L n U Ti):=ZI h.u (ZI h.t (htF'_ok L))
noncomputable def cxJ (L:List TK) (n:Nat) (U Ti:List TK→PF) (h:OkJ L n U Ti):Ctx:=cxP (htJ L n U Ti) (htJ_ok h)
theorem un_goP {L:List TK} {n:Nat} {U:List TK→PF} {s:RS} {t:PT×RS} {k:Int} {w:List UInt8} (hs:R0 L s) (hp:Pre L (n + 1) s) (hU:FG L n U) (c:isS L s w=true) (hw:wsB [w]=true) (ht:t=unM k U L s) :
  (PreC L (cP L s) s.nest fun _=>WsP [w])∧∀ y,y=stP L (cP L s) s.nest→brP (![w].any (isS L y)) ((PreC L (cP L y) y.nest fun _=>(4:Int)≠0)∧EqN L (stopV L (wrongR (stP L (cP L y) y.nest) 4)) t.2)
   (brP (ieq y.nest 64) ((PreC L (cP L y) y.nest fun _=>(5:Int)≠0)∧EqN L (stopV L (wrongR (stP L (cP L y) y.nest) 5)) t.2)
    ((PreC L (cP L y) y.nest fun s=>s.at_ < L.length)∧∀ y1:TK×RS,y1=(ahd L (stP L (cP L y) y.nest),at1 (stP L (cP L y) y.nest))→sdA (inR .i64 (y1.2.nest + 1)) ((PreC L (cP L y1.2) (y1.2.nest + 1) fun s=>Pre L n s) ∧
     ∀ z,z=U L (stP L (cP L y1.2) (y1.2.nest + 1))→brP (ieq z.2.err 0) (SelfL [pvX z.1]∧sdA (inR .i64 (z.2.nest - 1)) (EqR L (cP L z.2) (z.2.nest - 1) (.pv [.int .i64 k,.bs [],.int .i64 0,.int .i64 y1.1.line,.int .i64 y1.1.col,.sl0,.vec 1 1 fun _=>[pvX z.1]]) t)) (EqN L (stopV L z.2) t.2)))):=by
 have hns:=hp.ns
 have hlf:=hp.lf
 have hn0:=hs.ok.n0
 have hl:=Zl c
 have ra:=YS hs hl
 have hx:=Xh c
 unfold unM at ht
 rw [hx] at ht
 have rest:Kp (openR L s w).2 t.2:=by rw [ht];exact (JC hU.k _).tr (Xe _)
 refine Yj hs hw (Zc (fun c7=>?_) fun _=>Zc (fun c8=>?_) fun c8=>?_)
 ·rw [any1 c] at c7;cases c7
 ·rw [ZC] at c8
  exact Zbw hs (by decide) ((Kj hs c c8).tr rest)
 ·rw [Zu] at c8
  have ho:=Kg (L:=L) (s:=s) (w:=w) c (by omega)
  have ru:=Zlr ra (show s.nest≤900 by omega)
  have pu:Pre L n (up1 (at1 s)):=⟨ru.ok,by show s.nest + 1≤64;omega,by show (L.length:Int) - (s.at_ + 1) < n;omega⟩
  have hif:ifE U L (up1 (at1 s))=U L (up1 (at1 s)):=by unfold ifE;rw [if_neg (fun e=>e ru.e)]
  rw [ho] at ht
  simp only at ht
  rw [hif] at ht
  have g:=hU.g L _ pu
  refine YN hs hl (Zd (Zv.2 ⟨by show -9223372036854775808≤s.nest + 1;omega,by show s.nest + 1≤9223372036854775807;omega⟩) (ZG (s:=up1 (at1 s)) (f:=U L) ru pu (by rw [ht];exact Xe _) fun e=>?_))
  have g5:(U L (up1 (at1 s))).2.nest=s.nest + 1:=g.ns
  exact ⟨self1 _,Zd (Zv.2 (by omega)) (WY (s:=down (U L (up1 (at1 s))).2) ht e rfl).2⟩
theorem isS_not {L:List TK} {s:RS} {v w:List UInt8} (h:isS L s v=true) (hne:v≠w):isS L s w=false:=Bool.eq_false_iff.2 fun e=>hne ((Xh h).symm.trans (Xh e))
noncomputable def qbm:=[[(108:UInt8),(101:UInt8),(110:UInt8)]]
noncomputable def qbn:=[[(97:UInt8),(114:UInt8),(114:UInt8)]]
theorem Zhf:∀ (L:List TK) (n:Nat) (U Ti:List TK→PF),OkJ L n U Ti→∀ (s:RS) (t:PT×RS),R0 L s→Pre L (n + 1) s→FG L n U→FG L (n + 1) Ti→t=unaryM U Ti L s→(True∧qd L s fun (s:RS)=>WsP qbn)∧∀ (y:RS),y=qb L s→brP (bar (List.any qbn (isS L y))) ((True∧qd L y fun (s:RS)=>WsP qbn)∧∀ (y_1:RS),y_1=qb L y→brP (!bar (List.any qbn (isS L y_1))) (qS L y_1 t.2) (qU y_1 L t.2 ((qn L y_1)∧∀ (y:TK×RS),y=(qC L y_1)→qbM y.2 ((qbw L y.2 n)∧∀ (y_2:PT×RS),y_2=U L (qcB L y.2)→qh y_2.2 (qaN y_2.1∧((qW∧qW∧((True∧qf y.1=qf y.1∧AV.str 3 7500385=AV.str 3 7500385∧True)∧True)∧True)∧True)∧qbL y_2.2 (qcE L y_2.2 (AV.pv [AV.int .i64 (34:Int),AV.bs [],qB,qy y.1,qI y.1,AV.sl0,AV.vec 1 1 fun (x:Nat)=>[qa y_2.1]]) t∧True)) (((qW∧True)∧True)∧qA L y_2.2 t.2))))) ((True∧qd L y fun (s:RS)=>WsP qbm)∧∀ (y_1:RS),y_1=qb L y→brP (bar (List.any qbm (isS L y_1))) ((True∧qd L y_1 fun (s:RS)=>WsP qbm)∧∀ (y:RS),y=qb L y_1→brP (!bar (List.any qbm (isS L y))) (qS L y t.2) (qU y L t.2 ((qn L y)∧∀ (y_2:TK×RS),y_2=(qC L y)→qbM y_2.2 ((qbw L y_2.2 n)∧∀ (y:PT×RS),y=U L (qcB L y_2.2)→qh y.2 (qaN y.1∧((qW∧qW∧((True∧qf y_2.1=qf y_2.1∧AV.str 3 7234924=AV.str 3 7234924∧True)∧True)∧True)∧True)∧qbL y.2 (qcE L y.2 (AV.pv [AV.int .i64 (35:Int),AV.bs [],qB,qy y_2.1,qI y_2.1,AV.sl0,AV.vec 1 1 fun (x:Nat)=>[qa y.1]]) t∧True)) (((qW∧True)∧True)∧qA L y.2 t.2))))) ((q8 L y_1 n)∧∀ (y:PT×RS),y=Ti L (qb L y_1)→qcR y.2 L y.1 t t.2))
:= by
 delta qa qb qd qf qh qn qt qy qA qB qC qI qS qU qW q8 qaN qbm qbn qbw qbL qbM qcB qcE qcR
 intro L n U Ti hok s t hs hp hU hT ht
 simp only [Zi,Zs,true_and,and_true,eq_self,implies_true,Nat.le_eq,ZA,Zz,ZK,Int.toNat_natCast,Int.ofNat_eq_natCast,Nat.ble_eq,Nat.ble_self_eq_true,Bool.true_and,Bool.and_true,Bool.and_self,Option.some.injEq,AV.int.injEq,Zo,Zj,Nat.mul_one,Nat.beq_refl,Zn,cond_true,cond_false,Zp,Bool.not_true,Bool.not_false,decide_true,ZY,Ya,ZZ,Zf,List.nil_append]
 refine Yj hs rfl (Zc (fun c=>?_) fun c=>Yj hs rfl (Zc (fun c2=>?_) fun c2=>?_))
 ·have c:isS L s wArr=true:=by rwa [any1 rfl] at c
  refine un_goP (k:=34) hs hp hU c rfl ?_
  rw [ht];unfold unaryM
  rw [if_neg (nb (isS_not c (by decide))),if_pos c]
 ·have c2:isS L s wLen=true:=by rwa [any1 rfl] at c2
  refine un_goP (k:=35) hs hp hU c2 rfl ?_
  rw [ht];unfold unaryM
  rw [if_pos c2]
 ·have c:isS L s wArr=false:=by rwa [any1 rfl] at c
  have c2:isS L s wLen=false:=by rwa [any1 rfl] at c2
  have h1:t=Ti L s:=by rw [ht];unfold unaryM;rw [if_neg (nb c2),if_neg (nb c)]
  exact ZG (f:=Ti L) hs hp (by rw [h1];exact Zy _) fun e=>Xy h1 e
theorem runUnaryP:∀ (L:List TK) (n:Nat) (U Ti:List TK→PF) (hok:OkJ L n U Ti) (s:RS) (t:PT×RS),R0 L s→Pre L (n + 1) s→FG L n U→FG L (n + 1) Ti→t=unaryM U Ti L s→(cRun (cxJ L n U Ti hok) 60).call 86 [.ptr 4 0] (mkH (glT ++ numL [objP L s] 4)) (4 + 1) (ResP L t) :=
 Eq.mpr (by kernel_rfl) Zhf
theorem okUnaryP {L:List TK} {n:Nat} {U Ti:List TK→PF} (h:OkJ L n U Ti) (hU:FG L n U) (hT:FG L (n + 1) Ti):HEntOK Tryd.prog 86 (mF L (n + 1) (unaryM U Ti)) :=
 Xa fun s h1 h2=>⟨cxJ L n U Ti h,60,rfl,fol,ZN,fun t ht=>runUnaryP L n U Ti h s t h1 h2 hU hT ht⟩
end Go.Proofs.YtlmmbanfhjaioaaDoor
end
section
set_option maxRecDepth 100000
set_option maxHeartbeats 2000000
open Go Go.Ev
namespace Go.Proofs.YtlmmbanfhjaioaaDoor
structure OkK (L:List TK) (n:Nat) (T B:List TK→PF):Prop where
 t:HEntOK Tryd.prog 70 (mF L (n + 1) T)
 b:HEntOK Tryd.prog 31 (mF L n B)
noncomputable def htK (L:List TK) (n:Nat) (T B:List TK→PF):HTbl:=(70,mF L (n + 1) T) :: (31,mF L n B) :: htF' L
theorem htK_ok {L:List TK} {n:Nat} {T B:List TK→PF} (h:OkK L n T B):HtOK Tryd.prog (htK L n T B):=ZI h.t (ZI h.b (htF'_ok L))
noncomputable def cxK (L:List TK) (n:Nat) (T B:List TK→PF) (h:OkK L n T B):Ctx:=cxP (htK L n T B) (htK_ok h)
theorem vmE_leaf {k n:Int} {x:List UInt8} {tk:TK}:VmE (nd k x n tk []) (.pv [.int .i64 k,.bs x,.int .i64 n,.int .i64 tk.line,.int .i64 tk.col,.sl0,.sl0]):=Gg kids0
theorem Zfg {L:List TK} {k n:Int} {x:List UInt8} {tk:TK} {s:RS} {t:PT×RS} {ks:List PT} {m:Nat} {g:Nat→List AV} (h:t=(nd k x n tk ks,s)) (he:s.err=0) (hm:m=ks.length) (hg:∀ i,(hi:i < ks.length)→∃ v,g i=[v]∧VmE ks[i] v) :
  EqR L (cP L s) s.nest (.pv [.int .i64 k,.bs x,.int .i64 n,.int .i64 tk.line,.int .i64 tk.col,.sl0,.vec 1 m g]) t:=by
 subst h
 refine ⟨he,rfl,rfl,Gg fun σ=>⟨rfl,hm,⟨fun i hi=>?_⟩⟩⟩
 have hi':i < ks.length:=by omega
 obtain ⟨v,h1,h2⟩:=hg i hi'
 show vmL σ ((pvL ks).getD i []) (g i)
 rw [Yk ks i hi',h1]
 exact ⟨h2.h σ,trivial⟩
theorem kids3 {a b c:PT} {va vb vc:AV} {g:Nat→List AV} (h0:g 0=[va]) (h1:g 1=[vb]) (h2:g 2=[vc]) (e0:VmE a va) (e1:VmE b vb) (e2:VmE c vc):∀ i,(hi:i < [a,b,c].length)→∃ v,g i=[v]∧VmE [a,b,c][i] v:=fun i hi=>by
 rcases (show i=0∨i=1∨i=2 by simp at hi;omega) with rfl | rfl | rfl
 ·exact ⟨va,h0,e0⟩
 ·exact ⟨vb,h1,e1⟩
 ·exact ⟨vc,h2,e2⟩
theorem XB {L:List TK} {n:Nat} {s:RS} (h:Pre L n s):Pre L (n + 1) s:=⟨h.ok,h.ns,by have:=h.lf;omega⟩
theorem Wu {L:List TK} {n:Nat} {s:RS} (h:Pre L (n + 1) s) (hl:s.at_ < L.length):Pre L n (at1 s):=⟨XP h.ok hl,h.ns,by have:=h.lf;show (L.length:Int) - (s.at_ + 1) < n;omega⟩
theorem WC {L:List TK} {n:Nat} {E C:Int} {s:RS} {r:PT×RS} (h:Pre L n s) (hp:Post L E C s r):Pre L n r.2:=⟨hp.ok,by have:=hp.ns;have:=h.ns;omega,by have:=hp.am;have:=h.lf;omega⟩
theorem Xz {L:List TK} {n:Nat} {s r:RS} (h:Pre L n s) (hp:Stp L s r):Pre L n r:=⟨hp.ok,by have:=hp.ns;have:=h.ns;omega,by have:=hp.am;have:=h.lf;omega⟩
theorem Zl0 {L:List TK} {s:RS} (h:RSOK L s) (hk:(ahd L s).kind≠0):s.at_ < L.length:=Classical.byContradiction fun hl=>hk (by rw [Jg (by omega)];rfl)
noncomputable def ql:=((True∧True)∧True)
noncomputable def qaq (a:List TK) (b:RS) (c:RS):=((ql∧True)∧qA a b c)
noncomputable def qbh:=[(119:UInt8),(104:UInt8),(105:UInt8),(108:UInt8),(101:UInt8)]
noncomputable def qcJ:=[[(101:UInt8),(108:UInt8),(115:UInt8),(101:UInt8)]]
noncomputable def qcW:=AV.slo 23 0 2 1
theorem Zes:∀ (L:List TK) (n:Nat) (T B:List TK→PF),OkK L n T B→∀ (s:RS) (t:PT×RS),R0 L s→PreB L n s→FG L (n + 1) T→FG L n B→t=branchM T B L s→(qn L s)∧∀ (y:TK×RS),y=(qC L s)→(q8 L y.2 n)∧∀ (y_1:PT×RS),y_1=T L (qb L y.2)→qh y_1.2 (qaN y_1.1∧(ql∧ql∧((qf y.1=qf y.1∧True)∧True)∧True)∧(qag L y_1.2 n)∧∀ (y_2:PT×RS),y_2=B L (qb L y_1.2)→qh y_2.2 ((ql∧ql∧ql∧((AV.sl 11 0 1 1=AV.sl 11 0 1 1∧True)∧True)∧True)∧brP (decide (TK.text y.1=qbh)) (qt L y_2.2 (AV.pv [AV.int .i64 (24:Int),AV.bs [],qB,qy y.1,qI y.1,AV.sl0,AV.vec 1 2 fun (i:Nat)=>qX i y_1.1 y_2.1]) t∧True) ((True∧qd L y_2.2 fun (s:RS)=>WsP qcJ)∧∀ (y_3:RS),y_3=qb L y_2.2→brP (bar (List.any qcJ (isS L y_3))) ((qn L y_3)∧∀ (y_4:TK×RS),y_4=(qC L y_3)→(qag L y_4.2 n)∧∀ (y_5:PT×RS),y_5=B L (qb L y_4.2)→qh y_5.2 ((ql∧ql∧ql∧((qcW=qcW∧True)∧True)∧True)∧qt L y_5.2 (AV.pv [AV.int .i64 (23:Int),AV.bs [],qB,qy y.1,qI y.1,AV.sl0,AV.vec 1 3 fun (i:Nat)=>List.take 1 (List.drop (i * 1) [qa y_1.1,qa y_2.1,qa y_5.1])]) t∧True) (qaq L y_5.2 t.2)) ((qs∧qs∧qs∧((True∧qcW=qcW∧True)∧True)∧True)∧qt L y_3 (AV.pv [AV.int .i64 (23:Int),AV.bs [],qB,qy y.1,qI y.1,AV.sl0,AV.vec 1 3 fun (i:Nat)=>List.take 1 (List.drop (i * 1) [qa y_1.1,qa y_2.1,AV.pv [AV.int .i64 (12:Int),AV.bs [],qB,qy y.1,qI y.1,AV.sl0,AV.sl0]])]) t∧True))) (qaq L y_2.2 t.2)) (qaq L y_1.2 t.2)
:= by
 delta qa qb qd qf qh ql qn qs qt qy qA qB qC qI qX q8 qag qaq qaN qbh qcJ qcW
 intro L n T B hok s t hs hp hT hB ht
 simp only [Zi,Zs,true_and,and_true,eq_self,implies_true,Nat.le_eq,ZA,Zz,ZK,Int.toNat_natCast,Int.ofNat_eq_natCast,Nat.ble_eq,Nat.ble_self_eq_true,Bool.true_and,Bool.and_true,Bool.and_self,Option.some.injEq,AV.int.injEq,Zo,Zj,Nat.mul_one,Nat.beq_refl,Zn,cond_true,cond_false,Zp,Bool.not_true,Bool.not_false,decide_true,ZY,Ya,ZZ,Zf,List.nil_append]
 have hl:=Zl0 hs.ok (by rw [hp.k];decide)
 have ra:=YS hs hl
 have pa:=Wu hp.p hl
 have gT:=hT.g L _ (XB pa)
 have pb:=WC pa gT
 have gB:=hB.g L _ pb
 have ht:t=ifM T B L (ahd L s) (at1 s):=ht
 have kB:Kp (B L (T L (at1 s)).2).2 t.2:=by
  rw [ht]
  exact Yh (P:=fun r:PT×RS=>Kp (B L (T L (at1 s)).2).2 r.2) (fun _=>Zy _) fun _=>Yh (P:=fun r:PT×RS=>Kp (B L (T L (at1 s)).2).2 r.2) (fun _=>(Ys _).tr (hB.k _)) fun _=>Zy _
 unfold ifM at ht
 refine YN hs hl (ZG (f:=T L) ra (XB pa) ((hB.k _).tr kB) fun e1=>⟨self1 _,?_⟩)
 have r1:=ZS ra gT (hT.k _) e1
 refine ZG (f:=B L) r1 pb kB fun e2=>Zc (fun c=>?_) fun c=>?_
 ·have c:(ahd L s).text=wWhile:=of_decide_eq_true c
  rw [if_pos c] at ht
  exact (VJ ht e2 rfl rfl).2
 ·have c:¬ (ahd L s).text=wWhile:=of_decide_eq_false c
  rw [if_neg c] at ht
  have r2:=ZS r1 gB (hB.k _) e2
  refine Yj r2 rfl (Zc (fun c2=>?_) fun c2=>?_)
  ·have c2:isS L (B L (T L (at1 s)).2).2 wElse=true:=by rwa [any1 rfl] at c2
   rw [if_pos c2] at ht
   have hl2:=Zl c2
   have pc:=Wu (XB (WC pb gB)) hl2
   exact YN r2 hl2 (ZG (f:=B L) (YS r2 hl2) pc (by rw [ht];exact Zy _) fun e3=>Zfg ht e3 rfl (kids3 rfl rfl rfl (Ku _) (Ku _) (Ku _)))
  ·have c2:isS L (B L (T L (at1 s)).2).2 wElse=false:=by rwa [any1 rfl] at c2
   rw [if_neg (nb c2)] at ht
   exact Zfg ht e2 rfl (kids3 rfl rfl rfl (Ku _) (Ku _) vmE_leaf)
theorem runBranchP:∀ (L:List TK) (n:Nat) (T B:List TK→PF) (hok:OkK L n T B) (s:RS) (t:PT×RS),R0 L s→PreB L n s→FG L (n + 1) T→FG L n B→t=branchM T B L s→(cRun (cxK L n T B hok) 60).call 69 [.ptr 4 0] (mkH (glT ++ numL [objP L s] 4)) (4 + 1) (ResP L t) :=
 Eq.mpr (by kernel_rfl) Zes
noncomputable def mB (L:List TK) (n:Nat) (F:List TK→PF):HEnt:=mP L Unit rd0 (fun s _=>PreB L n s) (fun s _=>oF L F s)
theorem okBranchP {L:List TK} {n:Nat} {T B:List TK→PF} (h:OkK L n T B) (hT:FG L (n + 1) T) (hB:FG L n B):HEntOK Tryd.prog 69 (mB L n (branchM T B)) :=
 Xa fun s h1 h2=>⟨cxK L n T B h,60,rfl,fol,ZN,fun t ht=>runBranchP L n T B h s t h1 h2 hT hB ht⟩
end Go.Proofs.YtlmmbanfhjaioaaDoor
end
section
set_option maxRecDepth 100000
set_option maxHeartbeats 2000000
open Go Go.Ev
namespace Go.Proofs.YtlmmbanfhjaioaaDoor
structure OkL (L:List TK) (n:Nat) (T V:List TK→PF):Prop where
 t:HEntOK Tryd.prog 70 (mF L n T)
 v:HEntOK Tryd.prog 74 (mF L n V)
noncomputable def htL (L:List TK) (n:Nat) (T V:List TK→PF):HTbl:=(70,mF L n T) :: (74,mF L n V) :: htF' L
theorem htL_ok {L:List TK} {n:Nat} {T V:List TK→PF} (h:OkL L n T V):HtOK Tryd.prog (htL L n T V):=ZI h.t (ZI h.v (htF'_ok L))
noncomputable def cxL (L:List TK) (n:Nat) (T V:List TK→PF) (h:OkL L n T V):Ctx:=cxP (htL L n T V) (htL_ok h)
noncomputable def pstM (T V:List TK→PF) (L:List TK):PF:=fun s=>postX T V L (ahd L s) (kindR L (at1 s) 1).1 (kindR L (at1 s) 1).2
theorem Zj6 {L:List TK} {n:Nat} {V:List TK→PF} {s:RS} {t:PT×RS} {k m:Int} {x:List UInt8} {tk:TK} {y:PT} (hs:R0 L s) (hp:Pre L n s) (hV:FG L n V) (ht:t=toM V L k x m tk y s) :
  (PreC L (cP L s) s.nest fun _=>WsP [[116,111]])∧∀ u,u=stP L (cP L s) s.nest→brP ([[116,111]].any (isS L u)) ((PreC L (cP L u) u.nest fun s=>s.at_ < L.length)∧∀ v:TK×RS,v=(ahd L (stP L (cP L u) u.nest),at1 (stP L (cP L u) u.nest))→(PreC L (cP L v.2) v.2.nest fun s=>Pre L n s) ∧
   ∀ z,z=V L (stP L (cP L v.2) v.2.nest)→brP (ieq z.2.err 0) (EqR L (cP L z.2) z.2.nest (.pv [.int .i64 k,.bs x,.int .i64 m,.int .i64 tk.line,.int .i64 tk.col,.sl0,.vec 1 2 fun i=>List.take 1 (List.drop i [pvX y,pvX z.1])]) t) (EqN L (stopV L z.2) t.2))
   (EqR L (cP L u) u.nest (.pv [.int .i64 k,.bs x,.int .i64 m,.int .i64 tk.line,.int .i64 tk.col,.sl0,.vec 1 1 fun _=>[pvX y]]) t):=by
 unfold toM at ht
 refine Yj hs rfl (Zc (fun c=>?_) fun c=>?_)
 ·have c:isS L s wTo=true:=by rwa [any1 rfl] at c
  rw [if_pos c] at ht
  have hl:=Zl c
  exact YN hs hl (ZG (f:=V L) (YS hs hl) (XB (Wu (XB hp) hl) |> fun h=>⟨h.ok,h.ns,by have:=hp.lf;show (L.length:Int) - (s.at_ + 1) < n;omega⟩) (by rw [ht];exact Zy _) fun e=>(VJ ht e rfl rfl).2)
 ·have c:isS L s wTo=false:=by rwa [any1 rfl] at c
  rw [if_neg (nb c)] at ht
  exact (WY ht hs.e rfl).2
theorem Zcc {V:List TK→PF} {L:List TK} (hV:KF (V L)) {k:Int} {x:List UInt8} {m:Int} {tk:TK} {y:PT} {s:RS}:Kp s (toM V L k x m tk y s).2:=Zgx hV k x m tk y s
noncomputable def qaO:=[[(116:UInt8),(111:UInt8)]]
noncomputable def qa8:=(ql∧ql∧ql∧((AV.sl 12 0 1 1=AV.sl 12 0 1 1∧True)∧True)∧True)
noncomputable def qbF:=AV.int .i64 (19:Int)
noncomputable def qcl:=[[(102:UInt8),(114:UInt8),(111:UInt8),(110:UInt8),(116:UInt8)]]
noncomputable def qcm:=[[(97:UInt8),(102:UInt8),(116:UInt8),(101:UInt8),(114:UInt8)]]
noncomputable def qcw (a:List TK) (b:RS):=brP (bar (List.any qaO (isS a b)))
noncomputable def qcK (a:List TK) (b:RS):=(True∧qd a b fun (v1:RS)=>WsP qaO)
noncomputable def qcM:=AV.int .i64 (Int.negSucc 0)
theorem Zjo:∀ (L:List TK) (n:Nat) (T V:List TK→PF),OkL L (n + 1) T V→∀ (s:RS) (t:PT×RS),R0 L s→PreB L n s→FG L (n + 1) T→FG L (n + 1) V→t=pstM T V L s→(qn L s)∧∀ (y:TK×RS),y=(qC L s)→(qaV L y.2)∧∀ (y_1:TK×RS),y_1=qbf L y.2→qh y_1.2 ((q8 L y_1.2 n)∧∀ (y_2:PT×RS),y_2=T L (qb L y_1.2)→qh y_2.2 (qaN y_2.1∧qaN y_2.1∧(ql∧ql∧ql∧((qf y.1=qf y.1∧True)∧True)∧True)∧(True∧qd L y_2.2 fun (s:RS)=>WsP qcm)∧∀ (y_3:RS),y_3=qb L y_2.2→brP (bar (List.any qcm (isS L y_3))) ((qn L y_3)∧∀ (y_4:TK×RS),y_4=(qC L y_3)→(qd L y_4.2 fun (s:RS)=>(3:Int)≠(0:Int))∧∀ (y_5:TK×RS),y_5=kindR L (qb L y_4.2) (3:Int)→qh y_5.2 ((qcK L y_5.2)∧∀ (y_6:RS),y_6=qb L y_5.2→qcw L y_6 ((qn L y_6)∧∀ (y_7:TK×RS),y_7=(qC L y_6)→(q8 L y_7.2 n)∧∀ (y_8:PT×RS),y_8=V L (qb L y_7.2)→qh y_8.2 (qa8∧qt L y_8.2 (AV.pv [qbF,qP y_1.1,AV.int .i64 (TK.num y_5.1),qy y.1,qI y.1,AV.sl0,AV.vec 1 2 fun (i:Nat)=>qX i y_2.1 y_8.1]) t∧True) (qaq L y_8.2 t.2)) (qt L y_6 (AV.pv [qbF,qP y_1.1,AV.int .i64 (TK.num y_5.1),qy y.1,qI y.1,AV.sl0,AV.vec 1 1 fun (x:Nat)=>[qa y_2.1]]) t∧True)) (qA L y_5.2 t.2)) ((True∧qd L y_3 fun (s:RS)=>WsP qcl)∧∀ (y_4:RS),y_4=qb L y_3→brP (bar (List.any qcl (isS L y_4))) ((qn L y_4)∧∀ (y_5:TK×RS),y_5=(qC L y_4)→(qcK L y_5.2)∧∀ (y_6:RS),y_6=qb L y_5.2→qcw L y_6 ((qn L y_6)∧∀ (y_7:TK×RS),y_7=(qC L y_6)→(q8 L y_7.2 n)∧∀ (y_8:PT×RS),y_8=V L (qb L y_7.2)→qh y_8.2 (qa8∧qt L y_8.2 (AV.pv [qbF,qP y_1.1,qcM,qy y.1,qI y.1,AV.sl0,AV.vec 1 2 fun (i:Nat)=>qX i y_2.1 y_8.1]) t∧True) (qaq L y_8.2 t.2)) (qt L y_6 (AV.pv [qbF,qP y_1.1,qcM,qy y.1,qI y.1,AV.sl0,AV.vec 1 1 fun (x:Nat)=>[qa y_2.1]]) t∧True)) ((qcK L y_4)∧∀ (y_5:RS),y_5=qb L y_4→qcw L y_5 ((qn L y_5)∧∀ (y_6:TK×RS),y_6=(qC L y_5)→(q8 L y_6.2 n)∧∀ (y_7:PT×RS),y_7=V L (qb L y_6.2)→qh y_7.2 (qa8∧qt L y_7.2 (AV.pv [qbF,qP y_1.1,qB,qy y.1,qI y.1,AV.sl0,AV.vec 1 2 fun (i:Nat)=>qX i y_2.1 y_7.1]) t∧True) (qaq L y_7.2 t.2)) (qt L y_5 (AV.pv [qbF,qP y_1.1,qB,qy y.1,qI y.1,AV.sl0,AV.vec 1 1 fun (x:Nat)=>[qa y_2.1]]) t∧True)))) (qaq L y_2.2 t.2)) (qA L y_1.2 t.2)
:= by
 delta qa qb qd qf qh ql qn qt qy qA qB qC qI qP qX q8 qaq qaN qaO qaV qa8 qbf qbF qcl qcm qcw qcK qcM
 intro L n T V hok s t hs hp hT hV ht
 simp only [Zi,Zs,true_and,and_true,eq_self,implies_true,Nat.le_eq,ZA,Zz,ZK,Int.toNat_natCast,Int.ofNat_eq_natCast,Nat.ble_eq,Nat.ble_self_eq_true,Bool.true_and,Bool.and_true,Bool.and_self,Option.some.injEq,AV.int.injEq,Zo,Zj,Nat.mul_one,Nat.beq_refl,Zn,cond_true,cond_false,Zp,Bool.not_true,Bool.not_false,decide_true,ZY,Ya,ZZ,Zf,List.nil_append]
 have hl:=Zl0 hs.ok (by rw [hp.k];decide)
 have ra:=YS hs hl
 have pa:=Wu hp.p hl
 have ht:t=postX T V L (ahd L s) (kindR L (at1 s) 1).1 (kindR L (at1 s) 1).2:=ht
 have kS:=Yi (L:=L) (k:=1) ra.ok (by decide)
 refine YN hs hl (ZG (f:=fun s=>kindR L s 1) ra trivial (by rw [ht];exact Zgi hT.k hV.k _ _ _) fun e1=>?_)
 have r1:=Xs ra kS (Yt L _ 1) e1
 have p1:=XB (Xz pa kS)
 have gT:=hT.g L _ p1
 have p2:=WC p1 gT
 unfold postX at ht
 have rest:Kp (T L (kindR L (at1 s) 1).2).2 t.2:=by
  rw [ht]
  exact Yh (P:=fun r:PT×RS=>Kp (T L (kindR L (at1 s) 1).2).2 r.2) (fun _=>(Ys _).tr ((Yt L _ 3).tr (Zcc hV.k))) fun _=>Yh (P:=fun r:PT×RS=>Kp (T L (kindR L (at1 s) 1).2).2 r.2) (fun _=>(Ys _).tr (Zcc hV.k)) fun _=>Zcc hV.k
 refine ZG (f:=T L) r1 p1 rest fun e2=>⟨self1 _,self1 _,?_⟩
 have r2:=ZS r1 gT (hT.k _) e2
 refine Yj r2 rfl (Zc (fun c=>?_) fun c=>Yj r2 rfl (Zc (fun c2=>?_) fun c2=>?_))
 ·have c:isS L (T L (kindR L (at1 s) 1).2).2 wAfter=true:=by rwa [any1 rfl] at c
  rw [if_pos c] at ht
  have hl2:=Zl c
  have ra2:=YS r2 hl2
  have kS2:=Yi (L:=L) (k:=3) ra2.ok (by decide)
  refine YN r2 hl2 (ZG (f:=fun s=>kindR L s 3) ra2 (by decide) (by rw [ht];exact Zcc hV.k) fun e3=>?_)
  exact Zj6 (Xs ra2 kS2 (Yt L _ 3) e3) (XB (Xz (Wu p2 hl2) kS2)) hV ht
 ·have c:isS L (T L (kindR L (at1 s) 1).2).2 wAfter=false:=by rwa [any1 rfl] at c
  have c2:isS L (T L (kindR L (at1 s) 1).2).2 wFront=true:=by rwa [any1 rfl] at c2
  rw [if_neg (nb c),if_pos c2] at ht
  have hl2:=Zl c2
  exact YN r2 hl2 (Zj6 (YS r2 hl2) (XB (Wu p2 hl2)) hV ht)
 ·have c:isS L (T L (kindR L (at1 s) 1).2).2 wAfter=false:=by rwa [any1 rfl] at c
  have c2:isS L (T L (kindR L (at1 s) 1).2).2 wFront=false:=by rwa [any1 rfl] at c2
  rw [if_neg (nb c),if_neg (nb c2)] at ht
  exact Zj6 r2 p2 hV ht
theorem runPostP:∀ (L:List TK) (n:Nat) (T V:List TK→PF) (hok:OkL L (n + 1) T V) (s:RS) (t:PT×RS),R0 L s→PreB L n s→FG L (n + 1) T→FG L (n + 1) V→t=pstM T V L s→(cRun (cxL L (n + 1) T V hok) 60).call 72 [.ptr 4 0] (mkH (glT ++ numL [objP L s] 4)) (4 + 1) (ResP L t) :=
 Eq.mpr (by kernel_rfl) Zjo
theorem okPostP {L:List TK} {n:Nat} {T V:List TK→PF} (h:OkL L (n + 1) T V) (hT:FG L (n + 1) T) (hV:FG L (n + 1) V):HEntOK Tryd.prog 72 (mB L n (pstM T V)) :=
 Xa fun s h1 h2=>⟨cxL L (n + 1) T V h,60,rfl,fol,ZN,fun t ht=>runPostP L n T V h s t h1 h2 hT hV ht⟩
end Go.Proofs.YtlmmbanfhjaioaaDoor
end
section
set_option maxRecDepth 100000
set_option maxHeartbeats 2000000
open Go Go.Ev
namespace Go.Proofs.YtlmmbanfhjaioaaDoor
def sngV (s:List UInt8):Int:=if s=wCall then 15 else if s=wCancel then 16 else if s=wJoin then 17 else if s=wLog then 18 else 0
noncomputable def hSng:HSpec :=
 { X:=List UInt8,gl:=[],sel:=fun _=>true,ng:=0,k:=0,args:=fun s=>[.bs s],objs:=fun _=>[],pre:=fun _=>True,out:=fun s=>.ret (.int .i64 (sngV s)) [] 0,fz:=0,find:=fun _ args=>match args with
  | [x]=>ob (strW x) fun s=>some (s,[])
  | _=>none }
structure OkM (L:List TK) (n:Nat) (Br T V:List TK→PF):Prop where
 t:HEntOK Tryd.prog 70 (mF L (n + 1) T)
 v:HEntOK Tryd.prog 74 (mF L (n + 1) V)
 b:HEntOK Tryd.prog 69 (mB L n Br)
 p:HEntOK Tryd.prog 72 (mB L n (pstM T V))
theorem runSng_r:∀ (s:List UInt8),true=true∧((true=true∧(bif decide (s=[(99:UInt8),(97:UInt8),(108:UInt8),(108:UInt8)]) then (15:Int) else bif decide (s=[(99:UInt8),(97:UInt8),(110:UInt8),(99:UInt8),(101:UInt8),(108:UInt8)]) then (16:Int) else bif decide (s=[(106:UInt8),(111:UInt8),(105:UInt8),(110:UInt8)]) then (17:Int) else bif decide (s=[(108:UInt8),(111:UInt8),(103:UInt8)]) then (18:Int) else (0:Int))=sngV s)∧True)∧True
:= by
 intro s
 simp only [Zi,Zs,true_and,and_true,eq_self,implies_true,Nat.le_eq,ZA,Zz,ZK,Int.toNat_natCast,Int.ofNat_eq_natCast,Nat.ble_eq,Nat.ble_self_eq_true,Bool.true_and,Bool.and_true,Bool.and_self,Option.some.injEq,AV.int.injEq,Zo,Zj,Nat.mul_one,Nat.beq_refl,Zn,cond_true,cond_false,Zp,Bool.not_true,Bool.not_false,decide_true,ZY,Ya,ZZ,Zf,List.nil_append]
 unfold sngV
 simp only [Bool.cond_decide]
 rfl
theorem runSng:∀ (s:List UInt8),(cRun cxM 60).call 71 [.bs s] .leaf 0 (ResO Tryd.prog 0 0 0 (.ret (.int .i64 (sngV s)) [] 0)) :=
 Eq.mpr (by kernel_rfl) runSng_r
theorem okSng:HEntOK Tryd.prog 71 hSng.ent:=Xv _ (fun p hp=>by cases hp) (fun H _ p hp=>by cases hp) (fun x=>rfl) (fun x o ho=>by cases ho) (fun x hp=>⟨⟨rfl,rfl⟩,rfl,fun o ho=>by cases ho⟩) fun x hp=>⟨(cRun cxM 60).call,Xr fol ZN 60,runSng x⟩
noncomputable def htM (L:List TK) (n:Nat) (Br T V:List TK→PF):HTbl:=(71,hSng.ent) :: (70,mF L (n + 1) T) :: (74,mF L (n + 1) V) :: (69,mB L n Br) :: (72,mB L n (pstM T V)) :: htF' L
theorem htM_ok {L:List TK} {n:Nat} {Br T V:List TK→PF} (h:OkM L n Br T V):HtOK Tryd.prog (htM L n Br T V):=ZI okSng (ZI h.t (ZI h.v (ZI h.b (ZI h.p (htF'_ok L)))))
noncomputable def cxMs (L:List TK) (n:Nat) (Br T V:List TK→PF) (h:OkM L n Br T V):Ctx:=cxP (htM L n Br T V) (htM_ok h)
structure GBr (L:List TK) (n:Nat) (Br:List TK→PF):Prop where
 b:∀ s,PreB L n s→Post L 1 2 s (Br L s)
 k:KF (Br L)
end Go.Proofs.YtlmmbanfhjaioaaDoor
end
section
set_option maxRecDepth 100000
set_option maxHeartbeats 2000000
open Go Go.Ev
namespace Go.Proofs.YtlmmbanfhjaioaaDoor
theorem Yq {L:List TK} {s:RS} {w:List UInt8} (h:isS L s w=true) (hw:kindS w=2):(ahd L s).kind=2∧(ahd L s).text=w:=by
 obtain ⟨_,h2⟩:=Qv h
 refine ⟨?_,Xh h⟩
 unfold isS at h
 rw [Bool.and_eq_true,decide_eq_true_eq,decide_eq_true_eq] at h
 omega
theorem YX {L:List TK} {s:RS} {w:List UInt8} (h:isS L s w=false) (hw:kindS w=2) (hk:(ahd L s).kind=2):(ahd L s).text≠w:=fun e=>by
 unfold isS at h
 rw [hw,hk,e] at h
 simp at h
section
variable {Se:List TK→TK→PF} {Br Po T:List TK→PF} {L:List TK} {s:RS}
theorem st_if (c:isS L s wIf=true):stmtM Se Br Po T L s=Br L s:=by
 obtain ⟨h1,h2⟩:=Yq c rfl
 unfold stmtM
 rw [if_neg (fun e=>e h1)]
 simp only [h2]
 rw [if_pos trivial]
theorem st_while (c:isS L s wWhile=true):stmtM Se Br Po T L s=Br L s:=by
 obtain ⟨h1,h2⟩:=Yq c rfl
 unfold stmtM
 rw [if_neg (fun e=>e h1)]
 simp only [h2]
 rw [if_neg (show ¬ wWhile=wIf by decide),if_pos trivial]
theorem st_var (c:isS L s wVar=true):stmtM Se Br Po T L s=semi L (varS T L (ahd L s) (kindR L (at1 s) 1)):=by
 obtain ⟨h1,h2⟩:=Yq c rfl
 unfold stmtM
 rw [if_neg (fun e=>e h1)]
 simp only [h2]
 rw [if_neg (show ¬ wVar=wIf by decide),if_neg (show ¬ wVar=wWhile by decide),if_pos trivial]
theorem st_call (c:isS L s wCall=true):stmtM Se Br Po T L s=semi L (oneS T L 15 (ahd L s) (at1 s)):=by
 obtain ⟨h1,h2⟩:=Yq c rfl
 unfold stmtM
 rw [if_neg (fun e=>e h1)]
 simp only [h2]
 rw [if_neg (show ¬ wCall=wIf by decide),if_neg (show ¬ wCall=wWhile by decide),if_neg (show ¬ wCall=wVar by decide),if_pos trivial]
theorem Zmr (c:isS L s wCancel=true):stmtM Se Br Po T L s=semi L (oneS T L 16 (ahd L s) (at1 s)):=by
 obtain ⟨h1,h2⟩:=Yq c rfl
 unfold stmtM
 rw [if_neg (fun e=>e h1)]
 simp only [h2]
 rw [if_neg (show ¬ wCancel=wIf by decide),if_neg (show ¬ wCancel=wWhile by decide),if_neg (show ¬ wCancel=wVar by decide),if_neg (show ¬ wCancel=wCall by decide),if_pos trivial]
theorem st_join (c:isS L s wJoin=true):stmtM Se Br Po T L s=semi L (oneS T L 17 (ahd L s) (at1 s)):=by
 obtain ⟨h1,h2⟩:=Yq c rfl
 unfold stmtM
 rw [if_neg (fun e=>e h1)]
 simp only [h2]
 rw [if_neg (show ¬ wJoin=wIf by decide),if_neg (show ¬ wJoin=wWhile by decide),if_neg (show ¬ wJoin=wVar by decide),if_neg (show ¬ wJoin=wCall by decide),if_neg (show ¬ wJoin=wCancel by decide),if_pos trivial]
theorem st_log (c:isS L s wLog=true):stmtM Se Br Po T L s=semi L (oneS T L 18 (ahd L s) (at1 s)):=by
 obtain ⟨h1,h2⟩:=Yq c rfl
 unfold stmtM
 rw [if_neg (fun e=>e h1)]
 simp only [h2]
 rw [if_neg (show ¬ wLog=wIf by decide),if_neg (show ¬ wLog=wWhile by decide),if_neg (show ¬ wLog=wVar by decide),if_neg (show ¬ wLog=wCall by decide),if_neg (show ¬ wLog=wCancel by decide),if_neg (show ¬ wLog=wJoin by decide),if_pos trivial]
theorem st_post (c:isS L s wPost=true):stmtM Se Br Po T L s=semi L (Po L s):=by
 obtain ⟨h1,h2⟩:=Yq c rfl
 unfold stmtM
 rw [if_neg (fun e=>e h1)]
 simp only [h2]
 rw [if_neg (show ¬ wPost=wIf by decide),if_neg (show ¬ wPost=wWhile by decide),if_neg (show ¬ wPost=wVar by decide),if_neg (show ¬ wPost=wCall by decide),if_neg (show ¬ wPost=wCancel by decide),if_neg (show ¬ wPost=wJoin by decide),if_neg (show ¬ wPost=wLog by decide),if_pos trivial]
theorem st_spawn (c:isS L s wSpawn=true):stmtM Se Br Po T L s=semi L (Po L s):=by
 obtain ⟨h1,h2⟩:=Yq c rfl
 unfold stmtM
 rw [if_neg (fun e=>e h1)]
 simp only [h2]
 rw [if_neg (show ¬ wSpawn=wIf by decide),if_neg (show ¬ wSpawn=wWhile by decide),if_neg (show ¬ wSpawn=wVar by decide),if_neg (show ¬ wSpawn=wCall by decide),if_neg (show ¬ wSpawn=wCancel by decide),if_neg (show ¬ wSpawn=wJoin by decide),if_neg (show ¬ wSpawn=wLog by decide),if_neg (show ¬ wSpawn=wPost by decide),if_pos trivial]
theorem Zl8 (c:isS L s wEnable=true):stmtM Se Br Po T L s=semi L (nmS L 21 (ahd L s) (at1 s)):=by
 obtain ⟨h1,h2⟩:=Yq c rfl
 unfold stmtM
 rw [if_neg (fun e=>e h1)]
 simp only [h2]
 rw [if_neg (show ¬ wEnable=wIf by decide),if_neg (show ¬ wEnable=wWhile by decide),if_neg (show ¬ wEnable=wVar by decide),if_neg (show ¬ wEnable=wCall by decide),if_neg (show ¬ wEnable=wCancel by decide),if_neg (show ¬ wEnable=wJoin by decide),if_neg (show ¬ wEnable=wLog by decide),if_neg (show ¬ wEnable=wPost by decide),if_neg (show ¬ wEnable=wSpawn by decide),if_pos trivial]
theorem Ziq (c:isS L s wDisable=true):stmtM Se Br Po T L s=semi L (nmS L 22 (ahd L s) (at1 s)):=by
 obtain ⟨h1,h2⟩:=Yq c rfl
 unfold stmtM
 rw [if_neg (fun e=>e h1)]
 simp only [h2]
 rw [if_neg (show ¬ wDisable=wIf by decide),if_neg (show ¬ wDisable=wWhile by decide),if_neg (show ¬ wDisable=wVar by decide),if_neg (show ¬ wDisable=wCall by decide),if_neg (show ¬ wDisable=wCancel by decide),if_neg (show ¬ wDisable=wJoin by decide),if_neg (show ¬ wDisable=wLog by decide),if_neg (show ¬ wDisable=wPost by decide),if_neg (show ¬ wDisable=wSpawn by decide),if_neg (show ¬ wDisable=wEnable by decide),if_pos trivial]
theorem Zmo (c:isS L s wReturn=true):stmtM Se Br Po T L s=semi L (nd 25 [] 0 (ahd L s) [],at1 s):=by
 obtain ⟨h1,h2⟩:=Yq c rfl
 unfold stmtM
 rw [if_neg (fun e=>e h1)]
 simp only [h2]
 rw [if_neg (show ¬ wReturn=wIf by decide),if_neg (show ¬ wReturn=wWhile by decide),if_neg (show ¬ wReturn=wVar by decide),if_neg (show ¬ wReturn=wCall by decide),if_neg (show ¬ wReturn=wCancel by decide),if_neg (show ¬ wReturn=wJoin by decide),if_neg (show ¬ wReturn=wLog by decide),if_neg (show ¬ wReturn=wPost by decide),if_neg (show ¬ wReturn=wSpawn by decide),if_neg (show ¬ wReturn=wEnable by decide),if_neg (show ¬ wReturn=wDisable by decide),if_pos trivial]
theorem st_def (c0:isS L s wIf=false) (c1:isS L s wWhile=false) (c2:isS L s wVar=false) (c3:isS L s wCall=false) (c4:isS L s wCancel=false) (c5:isS L s wJoin=false) (c6:isS L s wLog=false) (c7:isS L s wPost=false) (c8:isS L s wSpawn=false) (c9:isS L s wEnable=false) (c10:isS L s wDisable=false) (c11:isS L s wReturn=false):stmtM Se Br Po T L s=Se L (ahd L s) s:=by
 unfold stmtM
 by_cases hk:(ahd L s).kind=2
 ·rw [if_neg (fun e=>e hk),if_neg (YX c0 rfl hk),if_neg (YX c1 rfl hk),if_neg (YX c2 rfl hk),if_neg (YX c3 rfl hk),if_neg (YX c4 rfl hk),if_neg (YX c5 rfl hk),if_neg (YX c6 rfl hk),if_neg (YX c7 rfl hk),if_neg (YX c8 rfl hk),if_neg (YX c9 rfl hk),if_neg (YX c10 rfl hk),if_neg (YX c11 rfl hk)]
 ·rw [if_pos hk]
end
theorem VB {L:List TK} {x:PT} {r:RS} {t:PT×RS} {v:AV} (hr:R0 L r) (ht:t=semi L (x,r)) (hv:∀ s',s'.err=0→t=(x,s')→EqR L (cP L s') s'.nest v t) :
  (PreC L (cP L r) r.nest fun _=>WsP [[59]])∧∀ y,y=oneR L (stP L (cP L r) r.nest) [[59]]→brP (ieq y.2.err 0) (EqR L (cP L y.2) y.2.nest v t) (EqN L (stopV L y.2) t.2):=by
 have h:t=(x,(oneR L r [[59]]).2):=by rw [ht];unfold semi;rw [Yr];rfl
 exact ZG (f:=fun s=>oneR L s [[59]]) hr (Xf rfl) (by rw [h];exact Zy _) fun e=>hv _ e h
theorem Zec {L:List TK} {x:PT} {r:RS} {t:PT×RS} (ht:t=semi L (x,r)):Kp r t.2:=by rw [ht];exact ZB L r _
theorem toS_go {L:List TK} {n:Nat} {V:List TK→PF} {s:RS} {t:PT×RS} {k m:Int} {x:List UInt8} {tk:TK} {y:PT} (hs:R0 L s) (hp:Pre L (n + 1) s) (hV:FG L (n + 1) V) (ht:t=semi L (toM V L k x m tk y s)) :
  (PreC L (cP L s) s.nest fun _=>WsP [[116,111]])∧∀ u,u=stP L (cP L s) s.nest→brP ([[116,111]].any (isS L u)) ((PreC L (cP L u) u.nest fun s=>s.at_ < L.length)∧∀ v:TK×RS,v=(ahd L (stP L (cP L u) u.nest),at1 (stP L (cP L u) u.nest))→(PreC L (cP L v.2) v.2.nest fun s=>Pre L (n + 1) s) ∧
   ∀ z,z=V L (stP L (cP L v.2) v.2.nest)→brP (ieq z.2.err 0) ((PreC L (cP L z.2) z.2.nest fun _=>WsP [[59]])∧∀ w,w=oneR L (stP L (cP L z.2) z.2.nest) [[59]]→brP (ieq w.2.err 0) (EqR L (cP L w.2) w.2.nest (.pv [.int .i64 k,.bs x,.int .i64 m,.int .i64 tk.line,.int .i64 tk.col,.sl0,.vec 1 2 fun i=>List.take 1 (List.drop i [pvX y,pvX z.1])]) t) (EqN L (stopV L w.2) t.2)) (EqN L (stopV L z.2) t.2))
   ((PreC L (cP L u) u.nest fun _=>WsP [[59]])∧∀ w,w=oneR L (stP L (cP L u) u.nest) [[59]]→brP (ieq w.2.err 0) (EqR L (cP L w.2) w.2.nest (.pv [.int .i64 k,.bs x,.int .i64 m,.int .i64 tk.line,.int .i64 tk.col,.sl0,.vec 1 1 fun _=>[pvX y]]) t) (EqN L (stopV L w.2) t.2)):=by
 unfold toM at ht
 refine Yj hs rfl (Zc (fun c=>?_) fun c=>?_)
 ·have c:isS L s wTo=true:=by rwa [any1 rfl] at c
  rw [if_pos c] at ht
  have hl:=Zl c
  have pa:=XB (Wu hp hl)
  refine YN hs hl (ZG (f:=V L) (YS hs hl) pa (Zec ht) fun e=>?_)
  exact VB (ZS (YS hs hl) (hV.g L _ pa) (hV.k _) e) ht fun s' e' h=>(VJ h e' rfl rfl).2
 ·have c:isS L s wTo=false:=by rwa [any1 rfl] at c
  rw [if_neg (nb c)] at ht
  exact VB hs ht fun s' e' h=>(WY h e' rfl).2
theorem Zlz {f:List UInt8→Bool} {a b:List UInt8}:[a,b].any f=(f a || f b):=by simp
theorem Zhr {f:List UInt8→Bool} {a b c d:List UInt8}:[a,b,c,d].any f=(f a || (f b || (f c || f d))):=by simp
theorem st_sng {Se:List TK→TK→PF} {Br Po T:List TK→PF} {L:List TK} {s:RS} (c:[wCall,wCancel,wJoin,wLog].any (isS L s)=true):stmtM Se Br Po T L s=semi L (oneS T L (sngV (ahd L s).text) (ahd L s) (at1 s)):=by
 rw [Zhr,Bool.or_eq_true,Bool.or_eq_true,Bool.or_eq_true] at c
 rcases c with c | c | c | c
 ·rw [st_call c,Xh c];rfl
 ·rw [Zmr c,Xh c];rfl
 ·rw [st_join c,Xh c];rfl
 ·rw [st_log c,Xh c];rfl
@[reducible] def WQ:TK×RS→Prop:=fun (a:TK×RS)=>(AV.agg [AV.int .i64 (TK.kind a.1),AV.bs (TK.text a.1),AV.int .i64 (TK.num a.1),AV.int .i64 (TK.line a.1),AV.int .i64 (TK.col a.1)]=AV.agg [AV.int .i64 (TK.kind a.1),AV.bs (TK.text a.1),AV.int .i64 (TK.num a.1),AV.int .i64 (TK.line a.1),AV.int .i64 (TK.col a.1)]∧True∧True)∧True
@[reducible] def WK:TK×RS→Prop:=fun (a:TK×RS)=>WQ a∧((True∧True∧True)∧True)∧True
noncomputable def qO (a:List TK) (b:RS):=(True∧qd a b fun (v1:RS)=>WsP [[(59:UInt8)]])
noncomputable def qam (a:List TK) (b:RS):=oneR a (qb a b) [[(59:UInt8)]]
noncomputable def qaG:=[[(99:UInt8),(97:UInt8),(108:UInt8),(108:UInt8)],[(99:UInt8),(97:UInt8),(110:UInt8),(99:UInt8),(101:UInt8),(108:UInt8)],[(106:UInt8),(111:UInt8),(105:UInt8),(110:UInt8)],[(108:UInt8),(111:UInt8),(103:UInt8)]]
noncomputable def qa5 (a:RS) (b:List TK):=AV.agg [AV.int .i64 (TK.kind (qL a b)),AV.bs (TK.text (qL a b)),AV.int .i64 (TK.num (qL a b)),AV.int .i64 (TK.line (qL a b)),AV.int .i64 (TK.col (qL a b))]
noncomputable def qbN:=[[(100:UInt8),(105:UInt8),(115:UInt8),(97:UInt8),(98:UInt8),(108:UInt8),(101:UInt8)]]
noncomputable def qbX:=[[(114:UInt8),(101:UInt8),(116:UInt8),(117:UInt8),(114:UInt8),(110:UInt8)]]
noncomputable def qbZ:=[[(101:UInt8),(110:UInt8),(97:UInt8),(98:UInt8),(108:UInt8),(101:UInt8)]]
noncomputable def qca:=[(118:UInt8),(97:UInt8),(114:UInt8)]
noncomputable def qcn:=[[(61:UInt8)]]
noncomputable def qco:=[[(115:UInt8),(112:UInt8),(97:UInt8),(119:UInt8),(110:UInt8)]]
noncomputable def qcH:=[[(112:UInt8),(111:UInt8),(115:UInt8),(116:UInt8)]]
theorem Zjh:∀ (L:List TK) (n:Nat) (Br T V:List TK→PF),OkM L n Br T V→∀ (s:RS) (t:PT×RS),R0 L s→Pre L (n + 1) s→FG L (n + 1) T→FG L (n + 1) V→GBr L n Br→t=stmtM (fun (L:List TK) (t:TK)=>setM V T L t) Br (postM T V) T L s→(True∧qd L s fun (s:RS)=>WsP [[(105:UInt8),(102:UInt8)],qbh])∧∀ (y:RS),y=qb L s→brP (bar (List.any [[(105:UInt8),(102:UInt8)],qbh] (isS L y))) ((qd L y fun (s:RS)=>PreB L n s)∧∀ (y_1:PT×RS),y_1=Br L (qb L y)→qcR y_1.2 L y_1.1 t t.2) ((True∧qd L y fun (s:RS)=>WsP [qca])∧∀ (y_1:RS),y_1=qb L y→brP (bar (List.any [qca] (isS L y_1))) ((qn L y_1)∧∀ (y:TK×RS),y=(qC L y_1)→(qaV L y.2)∧∀ (y_2:TK×RS),y_2=qbf L y.2→qh y_2.2 ((qaV L y_2.2)∧∀ (y_3:PT×RS),y_3=typM L (qb L y_2.2)→qh y_3.2 (qaN y_3.1∧qaN y_3.1∧(ql∧ql∧ql∧((qf y.1=qf y.1∧True)∧True)∧True)∧(True∧qd L y_3.2 fun (s:RS)=>WsP qcn)∧∀ (y_4:TK×RS),y_4=qcC L y_3.2 qcn→qh y_4.2 ((q8 L y_4.2 n)∧∀ (y_5:PT×RS),y_5=T L (qb L y_4.2)→qh y_5.2 ((ql∧ql∧ql∧((AV.sl 16 0 1 1=AV.sl 16 0 1 1∧True)∧True)∧True)∧(qO L y_5.2)∧∀ (y_6:TK×RS),y_6=qam L y_5.2→qh y_6.2 (qt L y_6.2 (AV.pv [AV.int .i64 (13:Int),qP y_2.1,qB,qy y.1,qI y.1,AV.sl0,AV.vec 1 2 fun (i:Nat)=>qX i y_3.1 y_5.1]) t∧True) (qA L y_6.2 t.2)) (qaq L y_5.2 t.2)) (qA L y_4.2 t.2)) (qaq L y_3.2 t.2)) (qA L y_2.2 t.2)) ((True∧qd L y_1 fun (s:RS)=>WsP qaG)∧∀ (y:RS),y=qb L y_1→brP (bar (List.any qaG (isS L y))) ((qn L y)∧∀ (y_2:TK×RS),y_2=(qC L y)→(True∧true=true∧true=true∧(TK.text y_2.1=TK.text y_2.1∧True)∧True)∧(q8 L y_2.2 n)∧∀ (y:PT×RS),y=T L (qb L y_2.2)→qh y.2 (qaN y.1∧(WQ y_2∧qs∧WK y_2)∧(qO L y.2)∧∀ (y_3:TK×RS),y_3=qam L y.2→qh y_3.2 (qt L y_3.2 (AV.pv [AV.int .i64 (sngV (TK.text y_2.1)),AV.bs [],qB,qy y_2.1,qI y_2.1,AV.sl0,AV.vec 1 1 fun (x:Nat)=>[qa y.1]]) t∧True) (qA L y_3.2 t.2)) (WK y_2∧qA L y.2 t.2)) ((True∧qd L y fun (s:RS)=>WsP qcH)∧∀ (y_2:RS),y_2=qb L y→brP (bar (List.any qcH (isS L y_2))) ((qd L y_2 fun (s:RS)=>PreB L n s)∧∀ (y:PT×RS),y=pstM T V L (qb L y_2)→qh y.2 ((qO L y.2)∧∀ (y_3:TK×RS),y_3=qam L y.2→qcR y_3.2 L y.1 t t.2) (qA L y.2 t.2)) ((True∧qd L y_2 fun (s:RS)=>WsP qco)∧∀ (y:RS),y=qb L y_2→brP (bar (List.any qco (isS L y))) ((qn L y)∧∀ (y_3:TK×RS),y_3=(qC L y)→(q8 L y_3.2 n)∧∀ (y:PT×RS),y=T L (qb L y_3.2)→qh y.2 (qaN y.1∧(qcK L y.2)∧∀ (y_4:RS),y_4=qb L y.2→qcw L y_4 ((qn L y_4)∧∀ (y_5:TK×RS),y_5=(qC L y_4)→(q8 L y_5.2 n)∧∀ (y_6:PT×RS),y_6=V L (qb L y_5.2)→qh y_6.2 ((ql∧ql∧ql∧((AV.sl 17 0 1 1=AV.sl 17 0 1 1∧True)∧True)∧True)∧(qO L y_6.2)∧∀ (y_7:TK×RS),y_7=qam L y_6.2→qh y_7.2 (qt L y_7.2 (AV.pv [AV.int .i64 (20:Int),AV.bs [],qB,qy y_3.1,qI y_3.1,AV.sl0,AV.vec 1 2 fun (i:Nat)=>qX i y.1 y_6.1]) t∧True) (qA L y_7.2 t.2)) (qaq L y_6.2 t.2)) ((qO L y_4)∧∀ (y_5:TK×RS),y_5=qam L y_4→qh y_5.2 (qt L y_5.2 (AV.pv [AV.int .i64 (20:Int),AV.bs [],qB,qy y_3.1,qI y_3.1,AV.sl0,AV.vec 1 1 fun (x:Nat)=>[qa y.1]]) t∧True) (qA L y_5.2 t.2))) (qA L y.2 t.2)) ((True∧qd L y fun (s:RS)=>WsP qbZ)∧∀ (y_3:RS),y_3=qb L y→brP (bar (List.any qbZ (isS L y_3))) ((qn L y_3)∧∀ (y:TK×RS),y=(qC L y_3)→(qaV L y.2)∧∀ (y_4:TK×RS),y_4=qbf L y.2→qh y_4.2 ((qO L y_4.2)∧∀ (y_5:TK×RS),y_5=qam L y_4.2→qh y_5.2 (qt L y_5.2 (AV.pv [AV.int .i64 (21:Int),qP y_4.1,qB,qy y.1,qI y.1,AV.sl0,AV.sl0]) t∧True) (qA L y_5.2 t.2)) (qA L y_4.2 t.2)) ((True∧qd L y_3 fun (s:RS)=>WsP qbN)∧∀ (y:RS),y=qb L y_3→brP (bar (List.any qbN (isS L y))) ((qn L y)∧∀ (y_4:TK×RS),y_4=(qC L y)→(qaV L y_4.2)∧∀ (y:TK×RS),y=qbf L y_4.2→qh y.2 ((qO L y.2)∧∀ (y_5:TK×RS),y_5=qam L y.2→qh y_5.2 (qt L y_5.2 (AV.pv [AV.int .i64 (22:Int),qP y.1,qB,qy y_4.1,qI y_4.1,AV.sl0,AV.sl0]) t∧True) (qA L y_5.2 t.2)) (qA L y.2 t.2)) ((True∧qd L y fun (s:RS)=>WsP qbX)∧∀ (y_4:RS),y_4=qb L y→brP (bar (List.any qbX (isS L y_4))) ((qn L y_4)∧∀ (y:TK×RS),y=(qC L y_4)→(qO L y.2)∧∀ (y_5:TK×RS),y_5=qam L y.2→qh y_5.2 (qt L y_5.2 (AV.pv [AV.int .i64 (25:Int),AV.bs [],qB,qy y.1,qI y.1,AV.sl0,AV.sl0]) t∧True) (qA L y_5.2 t.2)) (qcg y_4 L (qa1 y_4 L ((q8 L y_4 n)∧∀ (y:PT×RS),y=V L (qb L y_4)→qh y.2 (qaN y.1∧(ql∧ql∧((qa5 y_4 L=qa5 y_4 L∧True)∧True)∧True)∧(True∧qd L y.2 fun (s:RS)=>WsP qcn)∧∀ (y_5:TK×RS),y_5=qcC L y.2 qcn→qh y_5.2 ((q8 L y_5.2 n)∧∀ (y_6:PT×RS),y_6=T L (qb L y_5.2)→qh y_6.2 ((ql∧ql∧ql∧((AV.sl 26 0 1 1=AV.sl 26 0 1 1∧True)∧True)∧True)∧(qO L y_6.2)∧∀ (y_7:TK×RS),y_7=qam L y_6.2→qh y_7.2 (qt L y_7.2 (AV.pv [AV.int .i64 (14:Int),AV.bs [],qB,AV.int .i64 (TK.line (qL y_4 L)),AV.int .i64 (TK.col (qL y_4 L)),AV.sl0,AV.vec 1 2 fun (i:Nat)=>qX i y.1 y_6.1]) t∧True) (qA L y_7.2 t.2)) (qaq L y_6.2 t.2)) (qA L y_5.2 t.2)) (qaq L y.2 t.2))) ((q8 L y_4 n)∧∀ (y:PT×RS),y=V L (qb L y_4)→qh y.2 (qaN y.1∧(ql∧ql∧((AV.agg [qB,AV.str 0 0,qB,qB,qB]=AV.agg [qB,AV.str 0 0,qB,qB,qB]∧True)∧True)∧True)∧(True∧qd L y.2 fun (s:RS)=>WsP qcn)∧∀ (y_5:TK×RS),y_5=qcC L y.2 qcn→qh y_5.2 ((q8 L y_5.2 n)∧∀ (y_6:PT×RS),y_6=T L (qb L y_5.2)→qh y_6.2 ((ql∧ql∧ql∧((AV.sl 25 0 1 1=AV.sl 25 0 1 1∧True)∧True)∧True)∧(qO L y_6.2)∧∀ (y_7:TK×RS),y_7=qam L y_6.2→qh y_7.2 (qt L y_7.2 (AV.pv [AV.int .i64 (14:Int),AV.bs [],qB,qB,qB,AV.sl0,AV.vec 1 2 fun (i:Nat)=>qX i y.1 y_6.1]) t∧True) (qA L y_7.2 t.2)) (qaq L y_6.2 t.2)) (qA L y_5.2 t.2)) (qaq L y.2 t.2))))))))))
:= by
 delta qa qb qd qf qg qh ql qn qs qt qy qA qB qC qI qL qO qP qX q8 qab qam qaq qaG qaN qaO qaV qa1 qa5 qbf qbh qbN qbX qbZ qca qcg qcn qco qcw qcC qcH qcK qcR
 intro L n Br T V hok s t hs hp hT hV hB ht
 simp only [Zi,Zs,true_and,and_true,eq_self,implies_true,Nat.le_eq,ZA,Zz,ZK,Int.toNat_natCast,Int.ofNat_eq_natCast,Nat.ble_eq,Nat.ble_self_eq_true,Bool.true_and,Bool.and_true,Bool.and_self,Option.some.injEq,AV.int.injEq,Zo,Zj,Nat.mul_one,Nat.beq_refl,Zn,cond_true,cond_false,Zp,Bool.not_true,Bool.not_false,decide_true,ZY,Ya,ZZ,Zf,List.nil_append,WQ,WK]
 have hok:=hs.ok
 refine Yj hs rfl (Zc (fun c=>?_) fun c=>?_)
 ·have c:[wIf,wWhile].any (isS L s)=true:=c
  rw [Zlz,Bool.or_eq_true] at c
  have hk:(ahd L s).kind=2∧t=Br L s:=by
   rcases c with c | c
   ·exact ⟨(Yq c rfl).1,by rw [ht,st_if c]⟩
   ·exact ⟨(Yq c rfl).1,by rw [ht,st_while c]⟩
  exact ZG (f:=Br L) hs ⟨hp,hk.1⟩ (by rw [hk.2];exact Zy _) fun e=>Xy hk.2 e
 have c0:[wIf,wWhile].any (isS L s)=false:=c
 rw [Zlz,Bool.or_eq_false_iff] at c0
 clear c
 refine Yj hs rfl (Zc (fun c=>?_) fun c=>?_)
 ·have c:isS L s wVar=true:=by rwa [any1 rfl] at c
  rw [st_var c] at ht
  have hl:=Zl c
  have ra:=YS hs hl
  have pa:=Wu hp hl
  have kS:=Yi (L:=L) (k:=1) ra.ok (by decide)
  unfold varS at ht
  have k3:=Zec ht
  refine YN hs hl (ZG (f:=fun s=>kindR L s 1) ra trivial ((UT L _).tr ((ZB L _ _).tr ((hT.k _).tr k3))) fun e1=>?_)
  have r1:=Xs ra kS (Yt L _ 1) e1
  have p1:=Xz pa kS
  have tS:=Ut (L:=L) r1.ok
  refine ZG (f:=typM L) r1 trivial ((ZB L _ _).tr ((hT.k _).tr k3)) fun e2=>⟨self1 _,self1 _,?_⟩
  have r2:=ZS r1 tS (UT L _) e2
  have p2:=WC p1 tS
  rw [Yr] at k3 ht
  refine ZG (f:=fun s=>oneR L s [[61]]) r2 (Xf rfl) ((hT.k _).tr k3) fun e3=>?_
  have s3:=Xc (L:=L) (ws:=[[61]]) r2.ok
  have r3:=Xs r2 s3 (YI L _ _) e3
  have p3:=XB (Xz p2 s3)
  refine ZG (f:=T L) r3 p3 k3 fun e4=>?_
  exact VB (ZS r3 (hT.g L _ p3) (hT.k _) e4) ht fun s' e' h=>(VJ h e' rfl rfl).2
 have c1:isS L s wVar=false:=by rwa [any1 rfl] at c
 clear c
 refine Yj hs rfl (Zc (fun c=>?_) fun c=>?_)
 ·have c:[wCall,wCancel,wJoin,wLog].any (isS L s)=true:=c
  rw [st_sng c] at ht
  obtain ⟨w,_,hw⟩:=List.any_eq_true.1 c
  have hl:=Zl hw
  have ra:=YS hs hl
  have pa:=XB (Wu hp hl)
  unfold oneS at ht
  refine YN hs hl (ZG (f:=T L) ra pa (Zec ht) fun e1=>⟨self1 _,?_⟩)
  exact VB (ZS ra (hT.g L _ pa) (hT.k _) e1) ht fun s' e' h=>(WY h e' rfl).2
 have c2:[wCall,wCancel,wJoin,wLog].any (isS L s)=false:=c
 rw [Zhr,Bool.or_eq_false_iff,Bool.or_eq_false_iff,Bool.or_eq_false_iff] at c2
 clear c
 refine Yj hs rfl (Zc (fun c=>?_) fun c=>?_)
 ·have c:isS L s wPost=true:=by rwa [any1 rfl] at c
  rw [st_post c] at ht
  have hk:=(Yq c rfl).1
  have hpo:postM T V L s=pstM T V L s:=by
   unfold postM
   rw [if_pos (Xh c)];rfl
  rw [hpo] at ht
  have pB:PreB L n s:=⟨hp,hk⟩
  refine ZG (f:=pstM T V L) hs pB (Zec (x:=(pstM T V L s).1) ht) fun e1=>?_
  exact VB (x:=(pstM T V L s).1) (ZS hs (by rw [← hpo];exact Gd hT.g hV.g pB) (by rw [← hpo];exact Zk7 hT.k hV.k _) e1) ht fun s' e' h=>Xy h e'
 have c3:isS L s wPost=false:=by rwa [any1 rfl] at c
 clear c
 refine Yj hs rfl (Zc (fun c=>?_) fun c=>?_)
 ·have c:isS L s wSpawn=true:=by rwa [any1 rfl] at c
  rw [st_spawn c] at ht
  have hl:=Zl c
  have ra:=YS hs hl
  have pa:=XB (Wu hp hl)
  have hpo:postM T V L s=toM V L 20 [] 0 (ahd L s) (T L (at1 s)).1 (T L (at1 s)).2:=by
   unfold postM
   rw [if_neg (by rw [Xh c];decide)]
  rw [hpo] at ht
  have kT:Kp (T L (at1 s)).2 t.2:=by rw [ht];exact UY (Zcc hV.k)
  refine YN hs hl (ZG (f:=T L) ra pa kT fun e1=>⟨self1 _,?_⟩)
  exact toS_go (ZS ra (hT.g L _ pa) (hT.k _) e1) (WC pa (hT.g L _ pa)) hV ht
 have c4:isS L s wSpawn=false:=by rwa [any1 rfl] at c
 clear c
 have nm:∀ k:Int,s.at_ < L.length→t=semi L (nmS L k (ahd L s) (at1 s))→(PreC L (cP L s) s.nest fun s=>s.at_ < L.length)∧∀ y:TK×RS,y=(ahd L (stP L (cP L s) s.nest),at1 (stP L (cP L s) s.nest))→(PreC L (cP L y.2) y.2.nest fun _=>True)∧∀ z,z=kindR L (stP L (cP L y.2) y.2.nest) 1→brP (ieq z.2.err 0)
   ((PreC L (cP L z.2) z.2.nest fun _=>WsP [[59]])∧∀ w,w=oneR L (stP L (cP L z.2) z.2.nest) [[59]]→brP (ieq w.2.err 0) (EqR L (cP L w.2) w.2.nest (.pv [.int .i64 k,.bs z.1.text,.int .i64 0,.int .i64 y.1.line,.int .i64 y.1.col,.sl0,.sl0]) t) (EqN L (stopV L w.2) t.2)) (EqN L (stopV L z.2) t.2):=fun k hl ht=>by
  have ra:=YS hs hl
  have kS:=Yi (L:=L) (k:=1) ra.ok (by decide)
  unfold nmS at ht
  refine YN hs hl (ZG (f:=fun s=>kindR L s 1) ra trivial (Zec ht) fun e1=>?_)
  exact VB (Xs ra kS (Yt L _ 1) e1) ht fun s' e' h=>Xu h e'
 refine Yj hs rfl (Zc (fun c=>?_) fun c=>?_)
 ·have c:isS L s wEnable=true:=by rwa [any1 rfl] at c
  rw [Zl8 c] at ht
  exact nm 21 (Zl c) ht
 have c5:isS L s wEnable=false:=by rwa [any1 rfl] at c
 clear c
 refine Yj hs rfl (Zc (fun c=>?_) fun c=>?_)
 ·have c:isS L s wDisable=true:=by rwa [any1 rfl] at c
  rw [Ziq c] at ht
  exact nm 22 (Zl c) ht
 have c6:isS L s wDisable=false:=by rwa [any1 rfl] at c
 clear c
 refine Yj hs rfl (Zc (fun c=>?_) fun c=>?_)
 ·have c:isS L s wReturn=true:=by rwa [any1 rfl] at c
  rw [Zmo c] at ht
  have hl:=Zl c
  exact YN hs hl (VB (YS hs hl) ht fun s' e' h=>Xu h e')
 have c7:isS L s wReturn=false:=by rwa [any1 rfl] at c
 clear c
 rw [st_def c0.1 c0.2 c1 c2.1 c2.2.1 c2.2.2.1 c2.2.2.2 c3 c4 c5 c6 c7] at ht
 have ht:t=semi L (nd 14 [] 0 (ahd L s) [(V L s).1,(T L (signR L (V L s).2 wSet).2).1],(T L (signR L (V L s).2 wSet).2).2):=ht
 rw [Yr] at ht
 have rest:=Zec ht
 have key:∀ ln cl:Int,ln=(ahd L s).line→cl=(ahd L s).col→(PreC L (cP L s) s.nest fun s=>Pre L (n + 1) s)∧∀ y,y=V L (stP L (cP L s) s.nest)→brP (ieq y.2.err 0) (SelfL [pvX y.1]∧(PreC L (cP L y.2) y.2.nest fun _=>WsP [[61]])∧∀ z:TK×RS,z=oneR L (stP L (cP L y.2) y.2.nest) [[61]]→brP (ieq z.2.err 0) ((PreC L (cP L z.2) z.2.nest fun s=>Pre L (n + 1) s)∧∀ u,u=T L (stP L (cP L z.2) z.2.nest)→brP (ieq u.2.err 0)
   ((PreC L (cP L u.2) u.2.nest fun _=>WsP [[59]])∧∀ w:TK×RS,w=oneR L (stP L (cP L u.2) u.2.nest) [[59]]→brP (ieq w.2.err 0) (EqR L (cP L w.2) w.2.nest (.pv [.int .i64 14,.bs [],.int .i64 0,.int .i64 ln,.int .i64 cl,.sl0,.vec 1 2 fun i=>List.take 1 (List.drop i [pvX y.1,pvX u.1])]) t) (EqN L (stopV L w.2) t.2)) (EqN L (stopV L u.2) t.2)) (EqN L (stopV L z.2) t.2)) (EqN L (stopV L y.2) t.2):=fun ln cl h1 h2=>by
  subst h1;subst h2
  refine ZG (f:=V L) hs hp ((YI L _ _).tr ((hT.k _).tr rest)) fun e1=>⟨self1 _,?_⟩
  have gV:=hV.g L s hp
  have r1:=ZS hs gV (hV.k _) e1
  have p1:=WC hp gV
  refine ZG (f:=fun s=>oneR L s [[61]]) r1 (Xf rfl) ((hT.k _).tr rest) fun e2=>?_
  have s3:=Xc (L:=L) (ws:=[[61]]) r1.ok
  have r2:=Xs r1 s3 (YI L _ _) e2
  have p2:=Xz p1 s3
  refine ZG (f:=T L) r2 p2 rest fun e3=>?_
  exact VB (ZS r2 (hT.g L _ p2) (hT.k _) e3) ht fun s' e' h=>(VJ h e' rfl rfl).2
 have hd:=dropL hs
 refine Zc (fun c=>?_) fun c=>?_
 ·rw [ZR] at c
  have hl:s.at_ < L.length:=by omega
  rw [KM hs hl]
  exact Zd (ZD.2 (by omega)) (key _ _ rfl rfl)
 ·rw [ZF] at c
  have ho:=Jg (L:=L) (s:=s) (by omega)
  exact key _ _ (by rw [ho];rfl) (by rw [ho];rfl)
theorem runStmtP:∀ (L:List TK) (n:Nat) (Br T V:List TK→PF) (hok:OkM L n Br T V) (s:RS) (t:PT×RS),R0 L s→Pre L (n + 1) s→FG L (n + 1) T→FG L (n + 1) V→GBr L n Br→t=stmtM (fun L t=>setM V T L t) Br (postM T V) T L s→(cRun (cxMs L n Br T V hok) 60).call 54 [.ptr 4 0] (mkH (glT ++ numL [objP L s] 4)) (4 + 1) (ResP L t) :=
 Eq.mpr (by kernel_rfl) Zjh
theorem okStmtP {L:List TK} {n:Nat} {Br T V:List TK→PF} (h:OkM L n Br T V) (hT:FG L (n + 1) T) (hV:FG L (n + 1) V) (hB:GBr L n Br):HEntOK Tryd.prog 54 (mF L (n + 1) (stmtM (fun L t=>setM V T L t) Br (postM T V) T)) :=
 Xa fun s h1 h2=>⟨cxMs L n Br T V h,60,rfl,fol,ZN,fun t ht=>runStmtP L n Br T V h s t h1 h2 hT hV hB ht⟩
end Go.Proofs.YtlmmbanfhjaioaaDoor
end
section
set_option maxRecDepth 100000
set_option maxHeartbeats 2000000
open Go Go.Ev
namespace Go.Proofs.YtlmmbanfhjaioaaDoor
noncomputable def lfId (s:St) (slot:Nat):Nat:=match s.T.get slot with
 | some (.ptr id 0)=>id
 | _=>0
noncomputable def lfK (s:St) (id:Nat) (w:AV):AObj:=match s.H.get id with
 | some (.cells el c z N op)=>match readL c z 7 0 with
  | some [a,b,c,d,e,f,_]=>.cells el .leaf (.per [a,b,c,d,e,f,w]) N op
  | _=>objN
 | _=>objN
noncomputable def rowsT (ks:List PT):AObj:=.cells 58 .leaf (.rows 1 fun i=>(pvL ks).getD i []) ks.length true
structure LpB (L:List TK) (f:Nat→List PT→RS→List PT×RS) (t:List PT×RS) (s0:RS) (x:List PT×RS):Prop where
 k:∃ k,meas L x.2 < k∧f k x.1 x.2=t
 p:PostL L 0 4 s0 x
 r:R0 L x.2
noncomputable def stnB (L:List TK) (f:Nat→List PT→RS→List PT×RS) (t:List PT×RS) (s0:RS) (ks:List Nat) (slot:Nat):Stn :=
 { X:=List PT×RS,T:=fun s _ x=>keepT s ks,H:=fun s n0 x=>(s.nx,rowsT x.1) :: (4,objP L x.2) :: (lfId s slot,lfK s (lfId s slot) (.slg s.nx x.1.length 1)) :: keepX s [4,lfId s slot],nx:=fun s _=>s.nx + 1,I:=fun s x=>LpB L f t s0 x,m:=fun x=>meas L x.2 }
noncomputable def cxOb (L:List TK) (n:Nat) (St:List TK→PF) (h:OkI 54 L n St) (s0:RS):Ctx :=
 { P:=Tryd.prog,tb:=[],ht:=htI 54 L n St,hok:=Zcq h,lp:=fun f r=>cond (Nat.beq f 53) (cond (Nat.beq r 2) (some (stnB L (blockL St L) (blockX St L s0) s0 [1,2,4] 4)) none) none,cut:=fun _ _=>none }
structure FG34 (L:List TK) (n:Nat) (F:List TK→PF):Prop where
 g:GF n 3 4 F
 k:KF (F L)
theorem Zlp {σ:List (Nat×Nat)} (l:List PT) (x:PT) {g:Nat→List AV} (hg:g 0=[pvX x]):l.length + 1=(l ++ [x]).length∧AllI fun i=>i.succ≤l.length + 1→vmL σ ((pvL (l ++ [x])).getD i []) (appF l.length (fun i=>(pvL l).getD i []) g i):=by
 refine ⟨by rw [List.length_append,List.length_singleton],⟨fun i hi=>?_⟩⟩
 have hlen:i < (l ++ [x]).length:=by rw [List.length_append,List.length_singleton];omega
 have e:appF l.length (fun i=>(pvL l).getD i []) g i=(pvL (l ++ [x])).getD i []:=by
  refine Vh (fun h1=>?_) fun h1=>?_
  ·rw [Yk _ i hlen,Yk l i h1,List.getElem_append_left h1]
  ·have:i=l.length:=by omega
   subst this
   rw [Nat.sub_self,hg,Yk _ _ hlen,List.getElem_append_right (Nat.le_refl _)]
   simp
 rw [e]
 exact VZ σ _ i
theorem Za2 (l:List PT):goodR 1 l.length (fun i=>(pvL l).getD i [])=true:=XT fun i hi=>by
 rw [Yk l i hi];rfl
theorem Zfj {L:List TK} {k n:Int} {x:List UInt8} {tk:TK} {s:RS} {t:PT×RS} {ks:List PT} (h:t=(nd k x n tk ks,s)) (he:s.err=0):EqR L (cP L s) s.nest (.pv [.int .i64 k,.bs x,.int .i64 n,.int .i64 tk.line,.int .i64 tk.col,.sl0,.vec 1 ks.length fun i=>(pvL ks).getD i []]) t :=
 Zfg h he rfl fun i hi=>⟨pvX ks[i],Yk ks i hi,Ku _⟩
theorem Zh0 {L:List TK} {s:RS} {w:List UInt8} (h:R0 L s) (c:isS L s w=true):signR L s w=(ahd L s,at1 s):=(Uw h c).1
@[reducible] def Wo:TK×RS→Prop:=fun (a:TK×RS)=>(((((True∧true=true∧(12:Int)=(12:Int))∧([]:List UInt8)=[])∧true=true∧(0:Int)=(0:Int))∧true=true∧TK.line a.1=TK.line a.1)∧true=true∧TK.col a.1=TK.col a.1)∧True
@[reducible] def Wb:TK×RS→Prop:=fun (a:TK×RS)=>true=true∧true=true∧true=true∧true=true∧((((True∧true=true∧TK.kind a.1=TK.kind a.1)∧TK.text a.1=TK.text a.1)∧true=true∧TK.num a.1=TK.num a.1)∧true=true∧TK.line a.1=TK.line a.1)∧true=true∧TK.col a.1=TK.col a.1
@[reducible] def XY:TK×RS→Prop:=fun (a:TK×RS)=>(true=true∧asciiTab=asciiTab)∧(true=true∧true=true∧true=true∧true=true∧True∧some 4=some 4∧true=true)∧(true=true∧true=true∧true=true∧true=true∧List.length [[(123:UInt8)]]=List.length [[(123:UInt8)]]∧AllI fun (i:Nat)=>Nat.le (Nat.succ (i * 1)) (List.length [[(123:UInt8)]])→List.getD [[(123:UInt8)]] i []=List.getD [[(123:UInt8)]] i []∧True)∧Wb a∧Wb a∧True
noncomputable def qax (a:List PT×RS) (b:List PT):=sdA (bif bif Nat.ble (a.1.length * 1) a.1.length then goodR 1 a.1.length fun (v1:Nat)=>List.getD (pvL b) v1 [] else false then true else false)
noncomputable def qaY (a:List TK) (b:List TK→PF) (c:RS):=LpB a (blockL b a) (blockX b a (Prod.snd (openR a c [(123:UInt8)]))) (Prod.snd (openR a c [(123:UInt8)]))
noncomputable def qa0 (a:List PT×RS):=sdA (bif bif Nat.ble (a.1.length * 1) a.1.length then true else false then decide (a.1.length + 1≤9223372036854775807∧(a.1.length + 1) * 8≤140737488355328) else false)
noncomputable def qbv:=[[(125:UInt8)]]
noncomputable def qbA (a:List PT) (b:Nat):=List.getD (pvL a) b []
noncomputable def qb5:=(qa9∧(some 14=some 14∧true=true)∧(some 16=some 16∧true=true)∧True)
noncomputable def qck (a:List PT×RS):=(a.1.length + 1)
noncomputable def qcq:=[[(123:UInt8)]]
theorem Zh5:∀ (L:List TK) (n:Nat) (St:List TK→PF),OkI (54:FuncId) L n St→∀ (s:RS) (t:PT×RS),R0 L s→Pre L (n + 1) s→FG34 L n St→t=blockM St L s→(True∧qd L s fun (s:RS)=>WsP qcq)∧∀ (y:RS),y=qb L s→brP (!bar (List.any qcq (isS L y))) (qS L y t.2) (qU y L t.2 ((qn L y)∧∀ (y_1:TK×RS),y_1=(qC L y)→qbM y_1.2 ((∃ (x0:List PT×RS),qaY L St s x0∧true=true∧qb5∧qbj∧(true=true∧true=true∧true=true∧true=true∧(qc y_1.2 L x0.2)∧true=true∧RS.nest y_1.2 + 1=RS.nest x0.2)∧(true=true∧true=true∧true=true∧true=true∧Wo y_1∧x0.1.length=0)∧XY y_1)∧∀ (x:List PT×RS),qaY L St s x→(True∧qd L x.2 fun (s:RS)=>WsP qbv)∧∀ (y:RS),y=qb L x.2→brP (!bar (List.any qbv (isS L y))) ((qag L y n)∧∀ (y_2:PT×RS),y_2=St L (qb L y)→qh y_2.2 (qa0 x ((qs∧qs∧qs∧((True∧AV.slg 17 x.1.length 1=AV.slg 17 x.1.length 1∧True)∧True)∧True)∧∃ (x':List PT×RS),qaY L St s x'∧qa7 L x'.2 x.2∧true=true∧qb5∧(true=true∧true=true∧true=true∧true=true∧(qck x) * 1=x'.1.length∧AllI fun (i:Nat)=>qby i ((qck x) * 1)→vmL [(17,28),(16,16),(14,14),(0,0),(1,1),(2,2),(3,3),(4,4),(5,5),(6,6),(7,7),(8,8),(9,9),(10,10),(11,11),(12,12),(13,13)] (qbA x'.1 i) (appF x.1.length (fun (i:Nat)=>qbA x.1 i) (fun (x:Nat)=>[pvX y_2.1]) i))∧(qay y_2.2 L x'.2)∧(true=true∧true=true∧true=true∧true=true∧Wo y_1∧some 28=some 28∧x.1.length + 1=x'.1.length∧true=true)∧XY y_1)) ((qs∧True)∧qA L y_2.2 t.2)) ((qn L y)∧∀ (y_2:TK×RS),y_2=(qC L y)→qbL y_2.2 (qax x x.1 (qcE L y_2.2 (AV.pv [AV.int .i64 (12:Int),AV.bs [],qB,qy y_1.1,qI y_1.1,AV.sl0,AV.vec 1 x.1.length fun (i:Nat)=>qbA x.1 i]) t∧True))))))
:= by
 delta qb qc qd qh qn qs qy qA qB qC qI qS qU qag qax qay qaY qa0 qa7 qa9 qbj qbv qby qbA qbL qbM qb5 qck qcq qcE
 intro L n St hok s t hs hp hS ht
 simp only [Zi,Zs,true_and,and_true,eq_self,implies_true,Nat.le_eq,ZA,Zz,ZK,Int.toNat_natCast,Int.ofNat_eq_natCast,Nat.ble_eq,Nat.ble_self_eq_true,Bool.true_and,Bool.and_true,Bool.and_self,Option.some.injEq,AV.int.injEq,Zo,Zj,Nat.mul_one,Nat.beq_refl,Zn,cond_true,cond_false,Zp,Bool.not_true,Bool.not_false,decide_true,ZY,Ya,ZZ,Zf,List.nil_append,Wo,Wb,XY]
 have hns:=hp.ns
 have hlf:=hp.lf
 have hn0:=hs.ok.n0
 unfold blockM at ht
 have rest0:Kp (blockX St L (openR L s wOpen).2).2 t.2:=by rw [ht];exact (ZB L _ _).tr (Xe _)
 have rest:Kp (openR L s wOpen).2 t.2:=(Yv hS.k _ _ _).tr rest0
 refine Yj hs rfl (Zc (fun c7=>?_) fun c7=>Zc (fun c8=>?_) fun c8=>?_)
 ·rw [Bool.not_eq_true',any1 rfl] at c7
  exact Zbw hs (by decide) ((kp_open4 hs c7).tr rest)
 ·rw [Bool.not_eq_false',any1 rfl] at c7
  rw [ZC] at c8
  exact Zbw hs (by decide) ((Kj hs c7 c8).tr rest)
 rw [Bool.not_eq_false',any1 rfl] at c7
 rw [Zu] at c8
 have hl:=Zl c7
 have ra:=YS hs hl
 have ho:=Kg (L:=L) (s:=s) (w:=wOpen) c7 (by omega)
 have ho2:(openR L s wOpen).2=up1 (at1 s):=by rw [ho]
 have ho1:(openR L s wOpen).1=ahd L s:=by rw [ho]
 have ru:=Zlr ra (show s.nest≤900 by omega)
 have pu:Pre L n (up1 (at1 s)):=⟨ru.ok,by show s.nest + 1≤64;omega,by show (L.length:Int) - (s.at_ + 1) < n;omega⟩
 rw [ho1] at ht
 refine YN hs hl (Zd (Zv.2 ⟨by show -9223372036854775808≤s.nest + 1;omega,by show s.nest + 1≤9223372036854775807;omega⟩) ⟨⟨([],up1 (at1 s)),⟨⟨fuelN L,XZ ru.ok,by show blockL St L (fuelN L) [] (up1 (at1 s))=blockX St L (openR L s wOpen).2;rw [ho2];rfl⟩,by show PostL L 0 4 (openR L s wOpen).2 _;rw [ho2];exact XX ru.ok (by decide),ru⟩,Yd (s:=up1 (at1 s)) rfl,rfl⟩,fun x hx=>?_⟩)
 obtain ⟨⟨k,hk,hkt⟩,px,rx⟩:=hx
 have px':PostL L 0 4 (up1 (at1 s)) x:=by rw [← ho2];exact px
 have b1:=px'.bnd ru.ok (by decide)
 have b2:=Vw x.1
 have b3:x.2.nest=s.nest + 1:=px'.ns
 cases k with
 | zero=>omega
 | succ k =>
 have hkt:blockL St L (k + 1) x.1 x.2=blockX St L (openR L s wOpen).2:=hkt
 unfold blockL at hkt
 refine Yj rx rfl (Zc (fun c=>?_) fun c=>?_)
 ·have c:isS L x.2 wShut=false:=by rwa [Bool.not_eq_true',any1 rfl] at c
  rw [if_pos ⟨rx.e,c⟩] at hkt
  obtain ⟨d0,d1,d2⟩:=Ur (by decide) hS.g (l:=x.1) (s:=x.2) px (fun _=>by show Pre L n (openR L s wOpen).2;rw [ho2];exact pu) rx.e
  refine ZG (f:=St L) rx d0 ((by rw [← hkt];exact Yv hS.k _ _ _:Kp (St L x.2).2 (blockX St L (openR L s wOpen).2).2).tr rest0) fun e=>?_
  exact Zd (decide_eq_true (by omega)) ⟨(x.1 ++ [(St L x.2).1],(St L x.2).2),⟨⟨k,by have:meas L (St L x.2).2 < meas L x.2:=d2;show meas L (St L x.2).2 < k;omega,hkt⟩,d1,ZS rx (hS.g L _ d0) (hS.k _) e⟩,d2,Zlp x.1 (St L x.2).1 rfl,Yd (s:=(St L x.2).2) rfl,by rw [List.length_append,List.length_singleton]⟩
 ·have c:isS L x.2 wShut=true:=by rwa [Bool.not_eq_false',any1 rfl] at c
  rw [if_neg (by rw [c];rintro ⟨_,h⟩;cases h)] at hkt
  have hX:blockX St L (openR L s wOpen).2=(x.1,x.2):=hkt.symm
  rw [hX] at ht
  simp only at ht
  rw [Zh0 rx c] at ht
  exact YN rx (Zl c) (Zd (Zv.2 ⟨by show -9223372036854775808≤x.2.nest - 1;omega,by show x.2.nest - 1≤9223372036854775807;omega⟩) (Zd (Za2 x.1) (Zfj (s:=down (at1 x.2)) ht rx.e)))
theorem runBlockP:∀ (L:List TK) (n:Nat) (St:List TK→PF) (hok:OkI 54 L n St) (s:RS) (t:PT×RS),R0 L s→Pre L (n + 1) s→FG34 L n St→t=blockM St L s→(cRun (cxOb L n St hok (openR L s wOpen).2) 60).call 31 [.ptr 4 0] (mkH (glT ++ numL [objP L s] 4)) (4 + 1) (ResP L t) :=
 Eq.mpr (by kernel_rfl) Zh5
theorem okBlockP {L:List TK} {n:Nat} {St:List TK→PF} (h:OkI 54 L n St) (hS:FG34 L n St):HEntOK Tryd.prog 31 (mF L (n + 1) (blockM St)) :=
 Xa fun s h1 h2=>⟨cxOb L n St h (openR L s wOpen).2,60,rfl,fol,ZN,fun t ht=>runBlockP L n St h s t h1 h2 hS ht⟩
end Go.Proofs.YtlmmbanfhjaioaaDoor
end
section
set_option maxRecDepth 100000
set_option maxHeartbeats 2000000
open Go Go.Ev
namespace Go.Proofs.YtlmmbanfhjaioaaDoor
structure LvP (L:List TK) (n:Nat) (x:LV):Prop where
 u:HEntOK Tryd.prog 86 (mF L n x.u)
 t:HEntOK Tryd.prog 70 (mF L n x.t)
 b:HEntOK Tryd.prog 31 (mF L n x.b)
theorem mF_mono {g:FuncId} {L:List TK} {n m:Nat} {F:List TK→PF} (hm:n≤m) (h:HEntOK Tryd.prog g (mF L m F)):HEntOK Tryd.prog g (mF L n F):=by
 intro H nx args hc he p v up nx' hout
 have he:cond (globB H) (List.casesOn args none fun p l=>ob (findP H p) fun q=>ob (rd0 l) fun a=>cond (Nat.blt q.2 nx) (some (.need (PreC L q.1.1 q.1.2 fun s=>Pre L n s) (instC [q.2] nx (oF L F (stP L q.1.1 q.1.2))))) none) none=some hc:=he
 cases hg:globB H with
 | false=>rw [hg] at he;cases he
 | true =>
 rw [hg,cond_true] at he
 cases args with
 | nil=>cases he
 | cons a l =>
 obtain ⟨q,hq,he⟩:=Za.1 (show (ob (findP H a) fun q=>ob (rd0 l) fun a=>cond (Nat.blt q.2 nx) (some (HCt.need (PreC L q.1.1 q.1.2 fun s=>Pre L n s) (instC [q.2] nx (oF L F (stP L q.1.1 q.1.2))))) none)=some hc from he)
 obtain ⟨b,hb,he⟩:=Za.1 he
 cases hx:Nat.blt q.2 nx with
 | false=>rw [hx] at he;cases he
 | true =>
 rw [hx] at he
 injection he with he;subst he
 obtain ⟨⟨s,h1,h2,h3,h4⟩,hout⟩:=Xn hout
 refine h H nx (a :: l) (HCt.need (PreC L q.1.1 q.1.2 fun s=>Pre L m s) (instC [q.2] nx (oF L F (stP L q.1.1 q.1.2)))) ?_ p v up nx' ((if_pos ⟨s,h1,h2,h3,Zjm h4 hm⟩).trans hout)
 show cond (globB H) (ob (findP H a) fun q=>ob (rd0 l) fun a=>cond (Nat.blt q.2 nx) (some (HCt.need (PreC L q.1.1 q.1.2 fun s=>Pre L m s) (instC [q.2] nx (oF L F (stP L q.1.1 q.1.2))))) none) none=_
 rw [hg,cond_true,hq]
 show (ob (rd0 l) fun a=>cond (Nat.blt q.2 nx) (some (HCt.need (PreC L q.1.1 q.1.2 fun s=>Pre L m s) (instC [q.2] nx (oF L F (stP L q.1.1 q.1.2))))) none)=_
 rw [hb]
 show cond (Nat.blt q.2 nx) _ none=_
 rw [hx];rfl
theorem lvP_next {L:List TK} {n:Nat} {x:LV} (h:LvP L n x) (hg:LvG n x) (hk:KLv L x):LvP L (n + 1) (nextL x):=by
 have fi:=Zcl hg.t hg.b
 have ti:GF (n + 1) 1 2 (tiL x):=Za7 hg.t fi
 have un:GF (n + 1) 1 2 (unL x):=Za0 hg.u ti
 have pr:=KG (ws:=[wMul]) un
 have su:=KG (ws:=[wAdd,wSub]) pr
 have te:GF (n + 1) 1 2 (teL x):=Zee su
 have va:GF (n + 1) 1 2 (vaL x):=Zh6 ti
 have gs:GS n (fun L t=>setM (vaL x) (teL x) L t) (branchM (teL x) x.b) (postM (teL x) (vaL x)) (teL x) :=
  ⟨fun t=>Zgu va te t,fun L s hp=>QR te hg.b hp,fun L s hp=>Gd te va hp,te⟩
 have st:GF (n + 1) 3 4 (stL x):=Zd4 gs
 have FT:FG L n x.t:=⟨hg.t,hk.t⟩
 have FB:FG L n x.b:=⟨hg.b,hk.b⟩
 have FU:FG L n x.u:=⟨hg.u,hk.u⟩
 have kfi:=Zht hk.t hk.b
 have hfi:=okFirstP ⟨h.t,h.b⟩ FT FB
 have hti:HEntOK Tryd.prog 79 (mF L (n + 1) (tiL x)):=okTightP ⟨h.t,hfi⟩ FT ⟨fi,kfi⟩
 have FTi:FG L (n + 1) (tiL x):=⟨ti,kp_ti hk⟩
 have hun:HEntOK Tryd.prog 86 (mF L (n + 1) (unL x)):=okUnaryP ⟨h.u,hti⟩ FU FTi
 have FUn:FG L (n + 1) (unL x):=⟨un,Zb2 hk⟩
 have hpr:=okProductP ⟨hun⟩ FUn
 have FPr:FG L (n + 1) (rowM (unL x) [wMul]):=⟨pr,Zba (Zb2 hk)⟩
 have hsu:=okSumP ⟨hpr⟩ FPr
 have FSu:FG L (n + 1) (rowM (rowM (unL x) [wMul]) [wAdd,wSub]):=⟨su,Zba (F:=rowM (unL x) [wMul]) (Zba (Zb2 hk))⟩
 have hte:HEntOK Tryd.prog 70 (mF L (n + 1) (teL x)):=okTermP ⟨hsu⟩ FSu
 have FTe:FG L (n + 1) (teL x):=⟨te,Za9 hk⟩
 have hva:HEntOK Tryd.prog 74 (mF L (n + 1) (vaL x)):=okVarP ⟨hti⟩ FTi
 have FVa:FG L (n + 1) (vaL x):=⟨va,kp_va hk⟩
 have hbr:=okBranchP ⟨hte,h.b⟩ FTe FB
 have hpo:=okPostP ⟨hte,hva⟩ FTe FVa
 have hst:HEntOK Tryd.prog 54 (mF L (n + 1) (stL x)):=okStmtP ⟨hte,hva,hbr,hpo⟩ FTe FVa ⟨fun s hp=>QR te hg.b hp,Zdf (Za9 hk) hk.b⟩
 have stn:GF n 3 4 (stL x):=fun L s hp=>st L s (Zjm hp (Nat.le_succ n))
 exact ⟨hun,hte,okBlockP ⟨mF_mono (Nat.le_succ n) hst⟩ ⟨stn,kp_st hk⟩⟩
theorem lvP_zero (L:List TK):LvP L 0 (lv 0) :=
 ⟨Xa fun s _ h=>(pre0 h).elim,Xa fun s _ h=>(pre0 h).elim,Xa fun s _ h=>(pre0 h).elim⟩
theorem lvP_ok (L:List TK):∀ n,LvP L n (lv n)
 | 0=>lvP_zero L
 | n + 1=>lvP_next (lvP_ok L n) (Zfv n) (Zed L n)
end Go.Proofs.YtlmmbanfhjaioaaDoor
end
