/- Laid by program out of its parts: TyAE. -/
import Derived.Test.YthallodoidghoaaTyAD
set_option linter.unusedVariables false
set_option linter.unusedSimpArgs false
set_option maxRecDepth 100000
set_option maxHeartbeats 2000000
open Go Go.Ev
namespace Go.Proofs.Ythallodoidghoaa
noncomputable def SSt:Stn:=thin Nat [1,5] (fun i=>[(7,.int .i64 i)]) (fun _ i=>i≤1000000) fun i=>1000000 - i
noncomputable def rtSt:RTbl:=[(4,rMuch),(6,rRes),(7,rCk)]
theorem rtSt_ok:RtOK Try.prog rtSt:=rt_cons okMuch (rt_cons okRes (rt_cons okCk (rt_nil _)))
noncomputable def cxSt:Ctx:={ P:=Try.prog,tb:=[(5,eK),(8,eFits5)],rt:=rtSt,rok:=rtSt_ok,lp:=fun f r=>cond (Nat.beq f 3) (some SSt) none,cut:=fun _ _=>none }
noncomputable def eSets:Tr AObj→List AV→Option Ct:=fun _ args=>match args with
 | [.agg [.vec 6 n f]]=>some (.need (∃ L:List LT,n=L.length∧f=rowT L) (.ret (.bool true)))
 | _=>none
structure SetsOK (L:List LT) (X:List Int) (i:Nat):Prop where
 set:((L.getD i LT.none).kind=13∨(L.getD i LT.none).kind=14)→1 < (L.getD i LT.none).kids.length∧fits5 (X.getD (kidN L i 1) 0) (X.getD (kidN L i 0) 0)=true
 post:(L.getD i LT.none).kind=19→0 < (L.getD i LT.none).kids.length∧X.getD (kidN L i 0) 0=2∧(1 < (L.getD i LT.none).kids.length→X.getD (kidN L i 1) 0=3)
 join:(L.getD i LT.none).kind=17→0 < (L.getD i LT.none).kids.length∧X.getD (kidN L i 0) 0=4
theorem sets_ok {L:List LT} {x:LN} {X:List Int} (h:TCI L x 0 X []) {i:Nat} (hi:i < L.length):SetsOK L X i:=by
 have ok:=h.ok
 have hG:=ok.good
 have all:=fun j hj=>all_typed h rfl _ j hj (Nat.le_refl _)
 have hr:=(all i hi).2
 have k0:kidX X (L.getD i LT.none).kids 0=X.getD (kidN L i 0) 0:=rfl
 have k1:kidX X (L.getD i LT.none).kids 1=X.getD (kidN L i 1) 0:=rfl
 have kd:∀ q,q < (L.getD i LT.none).kids.length→X.getD (kidN L i q) 0≠noT:=fun q hq=>by
  obtain ⟨a,b⟩:=kid_in hG hi hq
  exact inT_ne (all (kidN L i q) (by unfold kidN;omega)).1
 have fit:∀ {a b:Int},a≠noT→b≠noT→fitsN a b=true→fits5 a b=true:=fun h1 h2 h3=>by
  unfold fitsN at h3
  rwa [decide_eq_false h1,decide_eq_false h2,Bool.false_or,Bool.false_or] at h3
 refine ⟨fun hk=>?_,fun hk=>?_,fun hk=>?_⟩
 ·have ht:=kterm1 hG hi (by omega)
  refine ⟨by omega,fit (kd 1 (by omega)) (kd 0 (by omega)) ?_⟩
  rcases hk with hk | hk
  ·have eT:rightT L x.M x.C X i=fitsN (kidX X (L.getD i LT.none).kids 1) (kidX X (L.getD i LT.none).kids 0):=by unfold rightT rightW;rw [hk];rfl
   rw [← k0,← k1,← eT];exact hr
  ·have eT:rightT L x.M x.C X i=(setM x.M (L.getD i LT.none).kids 0 && fitsN (kidX X (L.getD i LT.none).kids 1) (kidX X (L.getD i LT.none).kids 0)):=by unfold rightT rightW;rw [hk];rfl
   rw [eT,Bool.and_eq_true] at hr
   rw [← k0,← k1];exact hr.2
 ·have h0:=kterm0 hG hi (by omega)
  have hN:needsL (L.getD i LT.none).kind=[2,3]:=by rw [hk];rfl
  have hS:setM x.M (L.getD i LT.none).kids 1=true:=by
   cases e:setM x.M (L.getD i LT.none).kids 1 with
   | true=>rfl
   | false =>
    unfold rightT rightW at hr
    rw [if_neg (by omega),if_neg (by omega),if_neg (by rintro ⟨a,b⟩;omega),if_neg (by omega),if_pos ⟨.inl hk,e⟩] at hr
    cases hr
  rw [show rightT L x.M x.C X i=_ from rw_need (t:=L.getD i LT.none) ⟨by omega,by omega,.inl (by omega),by omega,.inr hS⟩] at hr
  rcases kpost hG hi (.inl hk) with h1 | ⟨h1,h2⟩
  ·rw [need2s hN h1,k0,decide_eq_true_eq] at hr
   exact ⟨h0.1,hr.resolve_right (kd 0 h0.1),fun h=>by omega⟩
  ·rw [need2 hN (by omega),k0,k1,Bool.and_eq_true,decide_eq_true_eq,decide_eq_true_eq] at hr
   exact ⟨h0.1,hr.1.resolve_right (kd 0 h0.1),fun h=>hr.2.resolve_right (kd 1 h)⟩
 ·have h0:=kterm0 hG hi (by omega)
  have hN:needsL (L.getD i LT.none).kind=[4]:=by rw [hk];rfl
  rw [show rightT L x.M x.C X i=_ from rw_need (t:=L.getD i LT.none) ⟨by omega,by omega,.inl (by omega),by omega,.inl ⟨by omega,by omega⟩⟩,need1 hN h0.1,k0,decide_eq_true_eq] at hr
  exact ⟨h0.1,hr.resolve_right (kd 0 h0.1)⟩
@[reducible] def TyAE_runSets_k0:List Int×List (Int×Int×Int)→Prop:=fun (a:List Int×List (Int×Int×Int))=>(some 0=some 0∧true=true)∧(true=true∧a.1.length=a.1.length∧AllI fun (i:Nat)=>Nat.le (Nat.succ i) a.1.length→(true=true∧List.getD a.1 i (0:Int)=List.getD a.1 i (0:Int))∧True)∧True
@[reducible] def TyAE_runSets_k1:List LT→Prop:=fun (L:List LT)=>(true=true∧true=true∧true=true∧true=true∧True∧true=true∧L.length=L.length∧AllI fun (i:Nat)=>Nat.le (Nat.succ i) L.length→(true=true∧LT.kind (List.getD L i LT.none)=LT.kind (List.getD L i LT.none))∧LT.text (List.getD L i LT.none)=LT.text (List.getD L i LT.none)∧(true=true∧LT.n (List.getD L i LT.none)=LT.n (List.getD L i LT.none))∧(true=true∧LT.line (List.getD L i LT.none)=LT.line (List.getD L i LT.none))∧(true=true∧LT.col (List.getD L i LT.none)=LT.col (List.getD L i LT.none))∧(true=true∧List.length (LT.kids (List.getD L i LT.none))=List.length (LT.kids (List.getD L i LT.none))∧AllI fun (i_1:Nat)=>Nat.le (Nat.succ i_1) (List.length (LT.kids (List.getD L i LT.none)))→(true=true∧List.getD (LT.kids (List.getD L i LT.none)) i_1 (0:Int)=List.getD (LT.kids (List.getD L i LT.none)) i_1 (0:Int))∧True)∧True)∧(true=true∧True)∧True
@[reducible] def TyAE_runSets_k2:List LT→List Int×List (Int×Int×Int)→Nat→Nat→Prop:=fun (L:List LT) (a:List Int×List (Int×Int×Int)) (a_1 a_2:Nat)=>Nat.le a_2 1000000∧Nat.le (Nat.succ (1000000 - a_2)) (1000000 - a_1)∧true=true∧((true=true∧(↑a_1:Int) + 1=(↑a_2:Int))∧TyAE_runSets_k0 a)∧TyAE_runSets_k1 L
@[reducible] def TyAE_runSets_k3:List LT→List Int×List (Int×Int×Int)→Nat→Prop:=fun (L:List LT) (a:List Int×List (Int×Int×Int)) (a_1:Nat)=>True∧(((True∧True∧True∧True∧True∧True∧True)∧True)∧((True∧True∧True∧True∧True∧True∧True)∧True)∧True)∧brP (!bar (fits5 (List.getD a.1 (Int.toNat (List.getD (LT.kids (List.getD L (Int.toNat (↑a_1:Int)) LT.none)) 1 (0:Int))) (0:Int)) (List.getD a.1 (Int.toNat (List.getD (LT.kids (List.getD L (Int.toNat (↑a_1:Int)) LT.none)) 0 (0:Int))) (0:Int)))) (false=true) (sdA (inR .i64 ((↑a_1:Int) + 1)) (∃ (x':Nat),TyAE_runSets_k2 L a a_1 x'))
theorem runSets_r:∀ (L:List LT),(∃ (L_1:List LT),L.length=L_1.length∧rowT L=rowT L_1∧(200:Int)=(200:Int))∧∀ (x:Bool),(x=false→∀ (L_1:List LT),L.length=L_1.length→rowT L=rowT L_1→MuchNot L_1)→brP x (True∧true=true) ((∃ (L_1:List LT),L.length=L_1.length∧rowT L=rowT L_1∧LSmall L_1)∧∀ (x:LN×List (Int×Int×Int)),(∀ (L_1:List LT),L.length=L_1.length→rowT L=rowT L_1→x.2≠[]∨NamesOK L_1 x.1)→brP (ilt (0:Int) (Int.ofNat x.2.length)) (True∧true=true) ((∃ (L_1:List LT),∃ (x_1:LN),L.length=L_1.length∧rowT L=rowT L_1∧[AV.vec 2 x.1.M.length (rM x.1.M),AV.vec 1 x.1.O.length (rI x.1.O),AV.vec 1 x.1.Lo.length (rI x.1.Lo),AV.vec 1 x.1.C.length (rI x.1.C),AV.vec 1 x.1.G.length (rI x.1.G),AV.vec 1 x.1.Co.length (rI x.1.Co),AV.vec 1 x.1.E.length (rI x.1.E),AV.vec 4 x.1.Fs.length (rFn x.1.Fs),AV.int .i64 x.1.main]=LN.row x_1∧Good L_1∧MOK L_1 x_1.M∧(∀ (c:Int),List.Mem c x_1.C→Int.NonNeg (c - 0)∧Int.NonNeg ((↑L_1.length:Int) - (c + 1)))∧T5OK L_1 x_1)∧∀ (x_1:List Int×List (Int×Int×Int)),(∀ (L_1:List LT) (x_2:LN),L.length=L_1.length→rowT L=rowT L_1→[AV.vec 2 x.1.M.length (rM x.1.M),AV.vec 1 x.1.O.length (rI x.1.O),AV.vec 1 x.1.Lo.length (rI x.1.Lo),AV.vec 1 x.1.C.length (rI x.1.C),AV.vec 1 x.1.G.length (rI x.1.G),AV.vec 1 x.1.Co.length (rI x.1.Co),AV.vec 1 x.1.E.length (rI x.1.E),AV.vec 4 x.1.Fs.length (rFn x.1.Fs),AV.int .i64 x.1.main]=LN.row x_2→QT L_1 x_2 x_1.1 x_1.2)→brP (ilt (0:Int) (Int.ofNat x_1.2.length)) (brP (ieq (Int.ofNat x_1.1.length) (0:Int)) (True∧true=true) (false=true)) (brP (!ieq (Int.ofNat x_1.1.length) (Int.ofNat L.length)) (false=true) ((∃ (x0:Nat),Nat.le x0 1000000∧true=true∧((true=true∧(0:Int)=(↑x0:Int))∧TyAE_runSets_k0 x_1)∧TyAE_runSets_k1 L)∧∀ (x:Nat),Nat.le x 1000000→brP (ilt (↑x:Int) (Int.ofNat x_1.1.length)) (sdA (inB (↑x:Int) L.length) (brP (ieq (LT.kind (List.getD L (Int.toNat (↑x:Int)) LT.none)) (13:Int)) (sdA (inB (1:Int) (List.length (LT.kids (List.getD L (Int.toNat (↑x:Int)) LT.none)))) (sdA (inB (List.getD (LT.kids (List.getD L (Int.toNat (↑x:Int)) LT.none)) 1 (0:Int)) x_1.1.length) (sdA (inB (0:Int) (List.length (LT.kids (List.getD L (Int.toNat (↑x:Int)) LT.none)))) (sdA (inB (List.getD (LT.kids (List.getD L (Int.toNat (↑x:Int)) LT.none)) 0 (0:Int)) x_1.1.length) (TyAE_runSets_k3 L x_1 x))))) (brP (ieq (LT.kind (List.getD L (Int.toNat (↑x:Int)) LT.none)) (14:Int)) (sdA (inB (1:Int) (List.length (LT.kids (List.getD L (Int.toNat (↑x:Int)) LT.none)))) (sdA (inB (List.getD (LT.kids (List.getD L (Int.toNat (↑x:Int)) LT.none)) 1 (0:Int)) x_1.1.length) (sdA (inB (0:Int) (List.length (LT.kids (List.getD L (Int.toNat (↑x:Int)) LT.none)))) (sdA (inB (List.getD (LT.kids (List.getD L (Int.toNat (↑x:Int)) LT.none)) 0 (0:Int)) x_1.1.length) (TyAE_runSets_k3 L x_1 x))))) (brP (ieq (LT.kind (List.getD L (Int.toNat (↑x:Int)) LT.none)) (19:Int)) (sdA (inB (0:Int) (List.length (LT.kids (List.getD L (Int.toNat (↑x:Int)) LT.none)))) (sdA (inB (List.getD (LT.kids (List.getD L (Int.toNat (↑x:Int)) LT.none)) 0 (0:Int)) x_1.1.length) (brP (!ieq (List.getD x_1.1 (Int.toNat (List.getD (LT.kids (List.getD L (Int.toNat (↑x:Int)) LT.none)) 0 (0:Int))) (0:Int)) (2:Int)) (false=true) (brP (ilt (1:Int) (Int.ofNat (List.length (LT.kids (List.getD L (Int.toNat (↑x:Int)) LT.none))))) (sdA (inB (1:Int) (List.length (LT.kids (List.getD L (Int.toNat (↑x:Int)) LT.none)))) (sdA (inB (List.getD (LT.kids (List.getD L (Int.toNat (↑x:Int)) LT.none)) 1 (0:Int)) x_1.1.length) (brP (!ieq (List.getD x_1.1 (Int.toNat (List.getD (LT.kids (List.getD L (Int.toNat (↑x:Int)) LT.none)) 1 (0:Int))) (0:Int)) (3:Int)) (false=true) (sdA (inR .i64 ((↑x:Int) + 1)) (∃ (x':Nat),TyAE_runSets_k2 L x_1 x x'))))) (sdA (inR .i64 ((↑x:Int) + 1)) (∃ (x':Nat),TyAE_runSets_k2 L x_1 x x')))))) (brP (ieq (LT.kind (List.getD L (Int.toNat (↑x:Int)) LT.none)) (17:Int)) (sdA (inB (0:Int) (List.length (LT.kids (List.getD L (Int.toNat (↑x:Int)) LT.none)))) (sdA (inB (List.getD (LT.kids (List.getD L (Int.toNat (↑x:Int)) LT.none)) 0 (0:Int)) x_1.1.length) (brP (!ieq (List.getD x_1.1 (Int.toNat (List.getD (LT.kids (List.getD L (Int.toNat (↑x:Int)) LT.none)) 0 (0:Int))) (0:Int)) (4:Int)) (false=true) (sdA (inR .i64 ((↑x:Int) + 1)) (∃ (x':Nat),TyAE_runSets_k2 L x_1 x x'))))) (sdA (inR .i64 ((↑x:Int) + 1)) (∃ (x':Nat),TyAE_runSets_k2 L x_1 x x'))))))) (True∧true=true)))))
:= by
 intro L
 simp only [barr_eq,bar_eq,true_and,and_true,eq_self,implies_true,Nat.le_eq,cond_tf,cond_cf,nif_tf,Int.toNat_natCast,Int.ofNat_eq_natCast,Nat.ble_eq,Nat.ble_self_eq_true,Bool.true_and,Bool.and_true,Bool.and_self,Option.some.injEq,AV.int.injEq,rowB_self,allBR_self,Nat.mul_one,Nat.beq_refl,allI_true,cond_true,cond_false,ieq_self,Bool.not_true,Bool.not_false,decide_true,brP_f,brP_t,sdA_t,bytesL_packL,List.nil_append,TyAE_runSets_k0,TyAE_runSets_k1,TyAE_runSets_k2,TyAE_runSets_k3]
 refine ⟨⟨L,rfl,rfl⟩,fun b hb=>brP_of (fun _=>trivial) fun hf=>?_⟩
 have hmu:MuchNot L:=hb hf L rfl rfl
 have hln:=hmu.len
 refine ⟨⟨L,rfl,rfl,small_of hmu⟩,fun x hx=>brP_of (fun _=>trivial) fun hw=>?_⟩
 have hw2:x.2=[]:=List.length_eq_zero_iff.1 (by rw [ilt_iffn] at hw;omega)
 have hN:NamesOK L x.1:=(hx L rfl rfl).resolve_left fun g=>g hw2
 have hG:=hN.good
 have hM:=names_m hN hln
 have hT:=names_t hN
 have hC:COK L x.1.C:=hN.cl
 refine ⟨⟨L,x.1,rfl,rfl,rfl,hG,hM,hC,hT⟩,fun y hy=>?_⟩
 have hy:=hy L x.1 rfl rfl rfl
 obtain ⟨y1,y2⟩:=y
 obtain ⟨X,W,hTC,a1,a2⟩:=hy.q
 simp only at a1 a2 ⊢
 have no:∀ {b:Bool} {p:Prop},b=true→(!b)=true→p:=fun h g=>by rw [h] at g;cases g
 refine brP_of (fun h=>brP_of (fun _=>trivial) fun g=>?_) fun h=>?_
 ·rw [ilt_iff] at h
  rw [ieq_iffn] at g
  by_cases e:W=[]
  ·rw [(a2 e).2] at h;simp at h
  ·rw [(a1 e).1] at g;exact absurd rfl g
 rw [ilt_iffn] at h
 have e:W=[]:=by
  by_cases e:W=[]
  ·exact e
  ·have:=(a1 e).2
   have h0:y2=[]:=List.length_eq_zero_iff.1 (by omega)
   rw [h0] at this
   exact List.reverse_eq_nil_iff.1 this.symm
 obtain ⟨rfl,rfl⟩:=a2 e
 subst e
 have hxl:=hTC.ok.xl
 refine brP_of (fun h=>no (ieq_iff.2 (by omega)) h) fun _=>⟨⟨0,Nat.zero_le _,rfl⟩,fun i hi=>brP_of (fun h=>?_) fun _=>trivial⟩
 rw [ilt_iff] at h
 have hi2:i < L.length:=by omega
 have ok:=sets_ok hTC hi2
 have nx:sdA (inR IntKind.i64 (↑i + 1)) (∃ x':Nat,x'≤1000000∧(1000000 - x').succ≤1000000 - i∧(i:Int) + 1 = ↑x'):=sdA_of (inR_i64.2 (by omega)) ⟨i + 1,by omega,by omega,by omega⟩
 have kd:∀ q,q < (L.getD i LT.none).kids.length→inB ((L.getD i LT.none).kids.getD q 0) y1.length=true:=fun q hq=>by
  obtain ⟨a,b⟩:=kid_in hG hi2 hq
  exact inB_iff.2 ⟨a,by omega⟩
 have fin:∀ {k:Int},(L.getD i LT.none).kind=k→(k=13∨k=14)→(sdA (inB 1 (L.getD i LT.none).kids.length) (sdA (inB ((L.getD i LT.none).kids.getD 1 0) y1.length) (sdA (inB 0 (L.getD i LT.none).kids.length) (sdA (inB ((L.getD i LT.none).kids.getD 0 0) y1.length) (brP (!fits5 (y1.getD ((L.getD i LT.none).kids.getD 1 0).toNat 0) (y1.getD ((L.getD i LT.none).kids.getD 0 0).toNat 0)) (false=true) (sdA (inR IntKind.i64 (↑i + 1)) (∃ x':Nat,x'≤1000000∧(1000000 - x').succ≤1000000 - i∧(i:Int) + 1 = ↑x'))))))):=fun hk h2=>by
  obtain ⟨g1,g2⟩:=ok.set (by omega)
  exact sdA_of (inB_iff.2 (by omega)) (sdA_of (kd 1 g1) (sdA_of (inB_iff.2 (by omega)) (sdA_of (kd 0 (by omega)) (brP_of (fun g=>no g2 g) fun _=>nx))))
 refine sdA_of (inB_iff.2 (by omega)) (brP_of (fun hk=>fin (ieq_iff.1 hk) (.inl rfl)) fun _=>brP_of (fun hk=>fin (ieq_iff.1 hk) (.inr rfl)) fun _=>brP_of (fun hk=>?_) fun _=>brP_of (fun hk=>?_) fun _=>nx)
 ·obtain ⟨g1,g2,g3⟩:=ok.post (ieq_iff.1 hk)
  refine sdA_of (inB_iff.2 (by omega)) (sdA_of (kd 0 g1) (brP_of (fun g=>no (ieq_iff.2 g2) g) fun _=>brP_of (fun h1=>?_) fun _=>nx))
  rw [ilt_iff] at h1
  exact sdA_of (inB_iff.2 (by omega)) (sdA_of (kd 1 (by omega)) (brP_of (fun g=>no (ieq_iff.2 (g3 (by omega))) g) fun _=>nx))
 ·obtain ⟨g1,g2⟩:=ok.join (ieq_iff.1 hk)
  exact sdA_of (inB_iff.2 (by omega)) (sdA_of (kd 0 g1) (brP_of (fun g=>no (ieq_iff.2 g2) g) fun _=>nx))
theorem runSets:∀ L:List LT,(cRun cxSt 60).call 3 [tree L] .leaf 0 (ResM Try.prog false (.bool true)) :=
 Eq.mpr (by kernel_rfl) runSets_r
theorem okSets (hK:EntOK Try.prog 5 eK):EntOK Try.prog 3 eSets:=by
 refine ent_of2 (gl:=[]) (ng:=0) gl0 fun H args ct hct=>?_
 unfold eSets at hct
 split at hct
 ·rename_i n f
  injection hct with hct;subst hct
  refine ⟨gl0,_,_,rfl,?_⟩
  rintro ⟨L,rfl,rfl⟩
  exact ⟨⟨vm_tree L,trivial⟩,cxSt,60,rfl,fol,tb_cons hK (tb_cons okFits5 tb_nil),runSets L⟩
 ·cases hct
end Go.Proofs.Ythallodoidghoaa
