/- Laid by program out of its parts: TyAD. -/
import Derived.Test.YthallodoidghoaaGreatTyAC
import Derived.Test.YthallodoidghoaaGreatMh
import Derived.OpenShut
set_option linter.unusedVariables false
set_option linter.unusedSimpArgs false
set_option maxRecDepth 100000
set_option maxHeartbeats 2000000
open Go Go.Ev
namespace Go.Proofs.YthallodoidghoaaGreat
noncomputable def eK:Tr AObj→List AV→Option Ct:=fun _ args=>match args with
 | []=>some (.need True (.ret (.bool true)))
 | _=>none
noncomputable def SSd:Stn:=thin Nat [0,1] (fun i=>[(5,.int .i64 i)]) (fun _ i=>i≤1000000) fun i=>1000000 - i
noncomputable def SLw:Stn:=thin Nat [5,7] (fun i=>[(9,.int .i64 i)]) (fun _ i=>i≤1000000) fun i=>1000000 - i
noncomputable def rtLw:RTbl:=[(5,rMuch),(7,rRes),(8,rCk),(9,rC5)]
theorem rtLw_ok:RtOK Tryz.prog rtLw:=rt_cons okMuch (rt_cons okRes (rt_cons okCk (rt_cons okC5 (rt_nil _))))
noncomputable def cxLw:Ctx:={ P:=Tryz.prog,tb:=[(6,eK)],rt:=rtLw,rok:=rtLw_ok,lp:=fun f r=>cond (Nat.beq f 10) (some SSd) (cond (Nat.beq f 3) (some SLw) none),cut:=fun _ _=>none }
noncomputable def eLaw:Tr AObj→List AV→Option Ct:=fun _ args=>match args with
 | [.agg [.vec 6 n f]]=>some (.need (∃ L:List LT,n=L.length∧f=rowT L) (.ret (.bool true)))
 | _=>none
theorem small_of {L:List LT} (h:MuchNot L):LSmall L:=⟨by have:=h.len;omega,fun i=>by
 rcases Nat.lt_or_ge i L.length with hi | hi
 ·have:=h.text i hi;omega
 ·rw [List.getD_eq_getElem?_getD,List.getElem?_eq_none hi];exact Nat.zero_le _⟩
theorem names_m {L:List LT} {x:LN} (h:NamesOK L x) (hl:L.length≤200):MOK L x.M:=⟨by omega,h.mlen,fun j hj=>by
 obtain ⟨a,b,c⟩:=h.mn j hj
 exact ⟨a,by omega⟩⟩
theorem names_t {L:List LT} {x:LN} (h:NamesOK L x):T5OK L x:=⟨fun j hj hk=>by
 have:=(h.mn j hj).2.2 hk
 rw [h.gl];exact this⟩
theorem qt_len {L:List LT} {x:LN} {o:List Int} {w:List (Int×Int×Int)} (h:QT L x o w):o.length≤L.length∧w.length≤L.length:=by
 obtain ⟨X,W,hT,a1,a2⟩:=h.q
 have hwl:=hT.wl
 have hxl:=hT.ok.xl
 by_cases e:W=[]
 ·obtain ⟨rfl,rfl⟩:=a2 e
  exact ⟨by omega,Nat.zero_le _⟩
 ·obtain ⟨rfl,rfl⟩:=a1 e
  exact ⟨Nat.zero_le _,by rw [List.length_reverse];omega⟩
@[reducible] def TyAD_runLaw_k0:List Int×List (Int×Int×Int)→Prop:=fun (a:List Int×List (Int×Int×Int))=>true=true∧a.1.length=a.1.length∧AllI fun (i:Nat)=>Nat.le (Nat.succ i) a.1.length→(true=true∧List.getD a.1 i (0:Int)=List.getD a.1 i (0:Int))∧True
@[reducible] def TyAD_runLaw_k1:List Int×List (Int×Int×Int)→List Int×List (Int×Int×Int)→Prop:=fun (a a_1:List Int×List (Int×Int×Int))=>TyAD_runLaw_k0 a∧TyAD_runLaw_k0 a_1∧True
@[reducible] def TyAD_runLaw_k2:List LT→LN×List (Int×Int×Int)→List LT→LN→Prop:=fun (L:List LT) (a:LN×List (Int×Int×Int)) (a_1:List LT) (a_2:LN)=>L.length=a_1.length∧rowT L=rowT a_1∧[AV.vec 2 a.1.M.length (rM a.1.M),AV.vec 1 a.1.O.length (rI a.1.O),AV.vec 1 a.1.Lo.length (rI a.1.Lo),AV.vec 1 a.1.C.length (rI a.1.C),AV.vec 1 a.1.G.length (rI a.1.G),AV.vec 1 a.1.Co.length (rI a.1.Co),AV.vec 1 a.1.E.length (rI a.1.E),AV.vec 4 a.1.Fs.length (rFn a.1.Fs),AV.int .i64 a.1.main]=LN.row a_2∧Good a_1∧MOK a_1 a_2.M∧(∀ (c:Int),List.Mem c a_2.C→Int.NonNeg (c - 0)∧Int.NonNeg ((↑a_1.length:Int) - (c + 1)))∧T5OK a_1 a_2
@[reducible] def TyAD_runLaw_k3:List Int×List (Int×Int×Int)→Prop:=fun (a:List Int×List (Int×Int×Int))=>true=true∧a.2.length=a.2.length∧AllI fun (i:Nat)=>Nat.le (Nat.succ i) a.2.length→(true=true∧Prod.fst (List.getD a.2 i ((0:Int),(0:Int),(0:Int)))=Prod.fst (List.getD a.2 i ((0:Int),(0:Int),(0:Int))))∧(true=true∧Prod.fst (Prod.snd (List.getD a.2 i ((0:Int),(0:Int),(0:Int))))=Prod.fst (Prod.snd (List.getD a.2 i ((0:Int),(0:Int),(0:Int)))))∧(true=true∧Prod.snd (Prod.snd (List.getD a.2 i ((0:Int),(0:Int),(0:Int))))=Prod.snd (Prod.snd (List.getD a.2 i ((0:Int),(0:Int),(0:Int)))))∧True
@[reducible] def TyAD_runLaw_k4:List Int×List (Int×Int×Int)→List Int×List (Int×Int×Int)→Prop:=fun (a a_1:List Int×List (Int×Int×Int))=>TyAD_runLaw_k3 a∧TyAD_runLaw_k3 a_1∧True
@[reducible] def TyAD_runLaw_k5:List LT→LN×List (Int×Int×Int)→Prop:=fun (L:List LT) (a:LN×List (Int×Int×Int))=>(true=true∧true=true∧true=true∧true=true∧True∧true=true∧L.length=L.length∧AllI fun (i:Nat)=>Nat.le (Nat.succ i) L.length→(true=true∧LT.kind (List.getD L i LT.none)=LT.kind (List.getD L i LT.none))∧LT.text (List.getD L i LT.none)=LT.text (List.getD L i LT.none)∧(true=true∧LT.n (List.getD L i LT.none)=LT.n (List.getD L i LT.none))∧(true=true∧LT.line (List.getD L i LT.none)=LT.line (List.getD L i LT.none))∧(true=true∧LT.col (List.getD L i LT.none)=LT.col (List.getD L i LT.none))∧(true=true∧List.length (LT.kids (List.getD L i LT.none))=List.length (LT.kids (List.getD L i LT.none))∧AllI fun (i_1:Nat)=>Nat.le (Nat.succ i_1) (List.length (LT.kids (List.getD L i LT.none)))→(true=true∧List.getD (LT.kids (List.getD L i LT.none)) i_1 (0:Int)=List.getD (LT.kids (List.getD L i LT.none)) i_1 (0:Int))∧True)∧True)∧(true=true∧true=true∧true=true∧true=true∧((((((((True∧true=true∧a.1.M.length=a.1.M.length∧AllI fun (i:Nat)=>Nat.le (Nat.succ i) a.1.M.length→(true=true∧Prod.fst (List.getD a.1.M i ((0:Int),(0:Int)))=Prod.fst (List.getD a.1.M i ((0:Int),(0:Int))))∧(true=true∧Prod.snd (List.getD a.1.M i ((0:Int),(0:Int)))=Prod.snd (List.getD a.1.M i ((0:Int),(0:Int))))∧True)∧true=true∧a.1.O.length=a.1.O.length∧AllI fun (i:Nat)=>Nat.le (Nat.succ i) a.1.O.length→(true=true∧List.getD a.1.O i (0:Int)=List.getD a.1.O i (0:Int))∧True)∧true=true∧a.1.Lo.length=a.1.Lo.length∧AllI fun (i:Nat)=>Nat.le (Nat.succ i) a.1.Lo.length→(true=true∧List.getD a.1.Lo i (0:Int)=List.getD a.1.Lo i (0:Int))∧True)∧true=true∧a.1.C.length=a.1.C.length∧AllI fun (i:Nat)=>Nat.le (Nat.succ i) a.1.C.length→(true=true∧List.getD a.1.C i (0:Int)=List.getD a.1.C i (0:Int))∧True)∧true=true∧a.1.G.length=a.1.G.length∧AllI fun (i:Nat)=>Nat.le (Nat.succ i) a.1.G.length→(true=true∧List.getD a.1.G i (0:Int)=List.getD a.1.G i (0:Int))∧True)∧true=true∧a.1.Co.length=a.1.Co.length∧AllI fun (i:Nat)=>Nat.le (Nat.succ i) a.1.Co.length→(true=true∧List.getD a.1.Co i (0:Int)=List.getD a.1.Co i (0:Int))∧True)∧true=true∧a.1.E.length=a.1.E.length∧AllI fun (i:Nat)=>Nat.le (Nat.succ i) a.1.E.length→(true=true∧List.getD a.1.E i (0:Int)=List.getD a.1.E i (0:Int))∧True)∧true=true∧a.1.Fs.length=a.1.Fs.length∧AllI fun (i:Nat)=>Nat.le (Nat.succ i) a.1.Fs.length→(true=true∧LFn.twig (List.getD a.1.Fs i LFn.none)=LFn.twig (List.getD a.1.Fs i LFn.none))∧(true=true∧LFn.up (List.getD a.1.Fs i LFn.none)=LFn.up (List.getD a.1.Fs i LFn.none))∧LFn.name (List.getD a.1.Fs i LFn.none)=LFn.name (List.getD a.1.Fs i LFn.none)∧(true=true∧List.length (LFn.caps (List.getD a.1.Fs i LFn.none))=List.length (LFn.caps (List.getD a.1.Fs i LFn.none))∧AllI fun (i_1:Nat)=>Nat.le (Nat.succ i_1) (List.length (LFn.caps (List.getD a.1.Fs i LFn.none)))→(true=true∧List.getD (LFn.caps (List.getD a.1.Fs i LFn.none)) i_1 (0:Int)=List.getD (LFn.caps (List.getD a.1.Fs i LFn.none)) i_1 (0:Int))∧True)∧True)∧true=true∧a.1.main=a.1.main)∧True
theorem runLaw_r:∀ (L:List LT),(∃ (L_1:List LT),L.length=L_1.length∧rowT L=rowT L_1∧(200:Int)=(200:Int))∧∀ (x:Bool),(x=false→∀ (L_1:List LT),L.length=L_1.length→rowT L=rowT L_1→MuchNot L_1)→brP x (True∧true=true) ((∃ (L_1:List LT),L.length=L_1.length∧rowT L=rowT L_1∧LSmall L_1)∧∀ (x:LN×List (Int×Int×Int)),(∀ (L_1:List LT),L.length=L_1.length→rowT L=rowT L_1→x.2≠[]∨NamesOK L_1 x.1)→brP (ilt (0:Int) (Int.ofNat x.2.length)) (True∧true=true) ((∃ (L_1:List LT),∃ (x_1:LN),TyAD_runLaw_k2 L x L_1 x_1)∧∀ (x_1:List Int×List (Int×Int×Int)),(∀ (L_1:List LT) (x_2:LN),L.length=L_1.length→rowT L=rowT L_1→[AV.vec 2 x.1.M.length (rM x.1.M),AV.vec 1 x.1.O.length (rI x.1.O),AV.vec 1 x.1.Lo.length (rI x.1.Lo),AV.vec 1 x.1.C.length (rI x.1.C),AV.vec 1 x.1.G.length (rI x.1.G),AV.vec 1 x.1.Co.length (rI x.1.Co),AV.vec 1 x.1.E.length (rI x.1.E),AV.vec 4 x.1.Fs.length (rFn x.1.Fs),AV.int .i64 x.1.main]=LN.row x_2→QT L_1 x_2 x_1.1 x_1.2)→(∃ (L_1:List LT),∃ (x_2:LN),TyAD_runLaw_k2 L x L_1 x_2)∧∀ (x_2:List Int×List (Int×Int×Int)),(∀ (L_1:List LT) (x_3:LN),L.length=L_1.length→rowT L=rowT L_1→[AV.vec 2 x.1.M.length (rM x.1.M),AV.vec 1 x.1.O.length (rI x.1.O),AV.vec 1 x.1.Lo.length (rI x.1.Lo),AV.vec 1 x.1.C.length (rI x.1.C),AV.vec 1 x.1.G.length (rI x.1.G),AV.vec 1 x.1.Co.length (rI x.1.Co),AV.vec 1 x.1.E.length (rI x.1.E),AV.vec 4 x.1.Fs.length (rFn x.1.Fs),AV.int .i64 x.1.main]=LN.row x_3→Q5 L_1 x_3 x_2.1 x_2.2)→brP (!ieq (Int.ofNat x_1.2.length) (Int.ofNat x_2.2.length)) (false=true) ((∃ (x0:Nat),Nat.le x0 1000000∧true=true∧((true=true∧(0:Int)=(↑x0:Int))∧TyAD_runLaw_k4 x_1 x_2)∧TyAD_runLaw_k5 L x)∧∀ (x_3:Nat),Nat.le x_3 1000000→brP (ilt (↑x_3:Int) (Int.ofNat x_1.2.length)) (sdA (inB (↑x_3:Int) x_1.2.length) (sdA (inB (↑x_3:Int) x_2.2.length) ((((True∧True∧True)∧True)∧True)∧brP (!(ieq (Prod.fst (List.getD x_1.2 (Int.toNat (↑x_3:Int)) ((0:Int),(0:Int),(0:Int)))) (Prod.fst (List.getD x_2.2 (Int.toNat (↑x_3:Int)) ((0:Int),(0:Int),(0:Int)))) && (ieq (Prod.fst (Prod.snd (List.getD x_1.2 (Int.toNat (↑x_3:Int)) ((0:Int),(0:Int),(0:Int))))) (Prod.fst (Prod.snd (List.getD x_2.2 (Int.toNat (↑x_3:Int)) ((0:Int),(0:Int),(0:Int))))) && (ieq (Prod.snd (Prod.snd (List.getD x_1.2 (Int.toNat (↑x_3:Int)) ((0:Int),(0:Int),(0:Int))))) (Prod.snd (Prod.snd (List.getD x_2.2 (Int.toNat (↑x_3:Int)) ((0:Int),(0:Int),(0:Int))))) && true)))) (false=true) (sdA (inR .i64 ((↑x_3:Int) + 1)) (∃ (x':Nat),Nat.le x' 1000000∧Nat.le (Nat.succ (1000000 - x')) (1000000 - x_3)∧true=true∧((true=true∧(↑x_3:Int) + 1=(↑x':Int))∧TyAD_runLaw_k4 x_1 x_2)∧TyAD_runLaw_k5 L x))))) (brP (!ieq (Int.ofNat x_1.1.length) (Int.ofNat x_2.1.length)) (false=true) ((∃ (x0:Nat),Nat.le x0 1000000∧true=true∧((true=true∧(0:Int)=(↑x0:Int))∧TyAD_runLaw_k1 x_1 x_2)∧(true=true∧True)∧(true=true∧True)∧True)∧∀ (x:Nat),Nat.le x 1000000→brP (ilt (↑x:Int) (Int.ofNat x_1.1.length)) (sdA (inB (↑x:Int) x_1.1.length) (sdA (inB (↑x:Int) x_2.1.length) ((((True∧True∧True)∧True)∧True)∧brP (!ieq (List.getD x_1.1 (Int.toNat (↑x:Int)) (0:Int)) (List.getD x_2.1 (Int.toNat (↑x:Int)) (0:Int))) (false=true) (sdA (inR .i64 ((↑x:Int) + 1)) (∃ (x':Nat),Nat.le x' 1000000∧Nat.le (Nat.succ (1000000 - x')) (1000000 - x)∧true=true∧((true=true∧(↑x:Int) + 1=(↑x':Int))∧TyAD_runLaw_k1 x_1 x_2)∧(true=true∧True)∧(true=true∧True)∧True))))) (True∧true=true))))))
:= by
 intro L
 simp only [barr_eq,bar_eq,true_and,and_true,eq_self,implies_true,Nat.le_eq,cond_tf,cond_cf,nif_tf,Int.toNat_natCast,Int.ofNat_eq_natCast,Nat.ble_eq,Nat.ble_self_eq_true,Bool.true_and,Bool.and_true,Bool.and_self,Option.some.injEq,AV.int.injEq,rowB_self,allBR_self,Nat.mul_one,Nat.beq_refl,allI_true,cond_true,cond_false,ieq_self,Bool.not_true,Bool.not_false,decide_true,brP_f,brP_t,sdA_t,bytesL_packL,List.nil_append,TyAD_runLaw_k0,TyAD_runLaw_k1,TyAD_runLaw_k2,TyAD_runLaw_k3,TyAD_runLaw_k4,TyAD_runLaw_k5]
 refine ⟨⟨L,rfl,rfl⟩,fun b hb=>brP_of (fun _=>trivial) fun hf=>?_⟩
 have hmu:MuchNot L:=hb hf L rfl rfl
 have hln:=hmu.len
 refine ⟨⟨L,rfl,rfl,small_of hmu⟩,fun x hx=>brP_of (fun _=>trivial) fun hw=>?_⟩
 have hw2:x.2=[]:=List.length_eq_zero_iff.1 (by rw [ilt_iffn] at hw;omega)
 have hN:NamesOK L x.1:=(hx L rfl rfl).resolve_left fun g=>g hw2
 have hG:=hN.good
 have hM:=names_m hN hln
 have hT:=names_t hN
 have hC:COK L x.1.C:=hN.cl
 refine ⟨⟨L,x.1,rfl,rfl,rfl,hG,hM,hC,hT⟩,fun y hy=>⟨⟨L,x.1,rfl,rfl,rfl,hG,hM,hC,hT⟩,fun z hz=>?_⟩⟩
 have hy:=hy L x.1 rfl rfl rfl
 obtain ⟨e1,e2⟩:=same_check hy (hz L x.1 rfl rfl rfl)
 obtain ⟨l1,l2⟩:=qt_len hy
 obtain ⟨y1,y2⟩:=y
 obtain ⟨z1,z2⟩:=z
 simp only at e1 e2 l1 l2 ⊢
 subst e1;subst e2
 have no:∀ {b:Bool} {p:Prop},b=true→(!b)=true→p:=fun h g=>by rw [h] at g;cases g
 refine brP_of (fun h=>no (ieq_iff.2 rfl) h) fun _=>⟨⟨0,Nat.zero_le _,rfl⟩,fun i hi=>brP_of (fun h=>?_) fun _=>brP_of (fun h=>no (ieq_iff.2 rfl) h) fun _=>⟨⟨0,Nat.zero_le _,rfl⟩,fun i hi=>brP_of (fun h=>?_) fun _=>trivial⟩⟩
 ·rw [ilt_iff] at h
  exact sdA_of (inB_iff.2 (by omega)) (sdA_of (inB_iff.2 (by omega)) (brP_of (fun g=>no (by simp [ieq_eq]) g) fun _=>sdA_of (inR_i64.2 (by omega)) ⟨i + 1,by omega,by omega,by omega⟩))
 ·rw [ilt_iff] at h
  exact sdA_of (inB_iff.2 (by omega)) (sdA_of (inB_iff.2 (by omega)) (brP_of (fun g=>no (ieq_iff.2 rfl) g) fun _=>sdA_of (inR_i64.2 (by omega)) ⟨i + 1,by omega,by omega,by omega⟩))
theorem runLaw:∀ L:List LT,(cRun cxLw 60).call 3 [tree L] .leaf 0 (ResM Tryz.prog false (.bool true)) :=
 Eq.mpr (by kernel_rfl) runLaw_r
theorem okLaw (hK:EntOK Tryz.prog 6 eK):EntOK Tryz.prog 3 eLaw:=by
 refine ent_of2 (gl:=[]) (ng:=0) gl0 fun H args ct hct=>?_
 unfold eLaw at hct
 split at hct
 ·rename_i n f
  injection hct with hct;subst hct
  refine ⟨gl0,_,_,rfl,?_⟩
  rintro ⟨L,rfl,rfl⟩
  exact ⟨⟨vm_tree L,trivial⟩,cxLw,60,rfl,fol,tb_cons hK tb_nil,runLaw L⟩
 ·cases hct
theorem lt_arg {H:Type} {enc:TypeId×Value→H} {w:World} (cs:List Value) (m:Nat) (x:DataW H×List MemPlace)
  (h:DataW.trod enc Tryz.prog w 0 (fun _=>true) true m 47 cs=some x):∃ a:LT,VRL (wRen w) a.row cs:=by
 obtain ⟨xs,n,_,rfl,hl,hlen,hf⟩:=DataW.trod_struct Tryz.underlying47 h
 have hlc:cs.length=6:=hl.trans (by kernel_rfl)
 clear h
 match xs,hlen with
 | [y0,y1,y2,y3,y4,y5],_ =>
 match cs,hlc with
 | [v0,v1,v2,v3,v4,v5],_ =>
 have h0:DataW.trod enc Tryz.prog w 0 (fun _=>true) true n 45 [v0]=some y0:=by
  have c:Tryz.prog.cellsOf 45=1:=by kernel_rfl
  simpa [c] using hf 0 _ rfl
 obtain ⟨z0,e0,_,_⟩:=DataW.trod_int (k:=.i64) (by kernel_rfl) h0
 injection e0 with e0 _
 subst e0
 have h1:DataW.trod enc Tryz.prog w 0 (fun _=>true) true n 9 [v1]=some y1:=by
  have c:Tryz.prog.cellsOf 9=1:=by kernel_rfl
  simpa [c] using hf 1 _ rfl
 obtain ⟨s1,e1,_,_⟩:=DataW.trod_string (by kernel_rfl) h1
 injection e1 with e1 _
 subst e1
 obtain ⟨z1,rfl⟩:∃ l:List UInt8,s1=⟨l.toArray⟩:=⟨s1.data.toList,by simp⟩
 have h2:DataW.trod enc Tryz.prog w 0 (fun _=>true) true n 2 [v2]=some y2:=by
  have c:Tryz.prog.cellsOf 2=1:=by kernel_rfl
  simpa [c] using hf 2 _ rfl
 obtain ⟨z2,e2,_,_⟩:=DataW.trod_int (k:=.i64) (by kernel_rfl) h2
 injection e2 with e2 _
 subst e2
 have h3:DataW.trod enc Tryz.prog w 0 (fun _=>true) true n 3 [v3]=some y3:=by
  have c:Tryz.prog.cellsOf 3=1:=by kernel_rfl
  simpa [c] using hf 3 _ rfl
 obtain ⟨z3,e3,_,_⟩:=DataW.trod_int (k:=.i64) (by kernel_rfl) h3
 injection e3 with e3 _
 subst e3
 have h4:DataW.trod enc Tryz.prog w 0 (fun _=>true) true n 3 [v4]=some y4:=by
  have c:Tryz.prog.cellsOf 3=1:=by kernel_rfl
  simpa [c] using hf 4 _ rfl
 obtain ⟨z4,e4,_,_⟩:=DataW.trod_int (k:=.i64) (by kernel_rfl) h4
 injection e4 with e4 _
 subst e4
 have h5:DataW.trod enc Tryz.prog w 0 (fun _=>true) true n 28 [v5]=some y5:=by
  have c:Tryz.prog.cellsOf 28=1:=by kernel_rfl
  simpa [c] using hf 5 _ rfl
 obtain ⟨z5,r5⟩:=ints_arg (k:=.i64) (e:=3) (by kernel_rfl) (by kernel_rfl) (by kernel_rfl) h5
 exact ⟨⟨z0,z1,z2,z3,z4,z5⟩,.cons _ _ _ _ (.int _ _) (.cons _ _ _ _ (.bs _) (.cons _ _ _ _ (.int _ _) (.cons _ _ _ _ (.int _ _) (.cons _ _ _ _ (.int _ _) (.cons _ _ _ _ r5 .nil)))))⟩
theorem tree_arg {H:Type} {enc:TypeId×Value→H} {w:World} (cs:List Value) (m:Nat) (x:DataW H×List MemPlace)
  (h:DataW.trod enc Tryz.prog w 0 (fun _=>true) true m 24 cs=some x):∃ L:List LT,VRL (wRen w) [AV.vec 6 L.length (rowT L)] cs:=by
 obtain ⟨xs,n,_,rfl,hl,hlen,hf⟩:=DataW.trod_struct Tryz.underlying24 h
 have hlc:cs.length=1:=hl.trans (by kernel_rfl)
 clear h
 match xs,hlen with
 | [y0],_ =>
 match cs,hlc with
 | [v0],_ =>
 have h0:DataW.trod enc Tryz.prog w 0 (fun _=>true) true n 22 [v0]=some y0:=by
  have c:Tryz.prog.cellsOf 22=1:=by kernel_rfl
  simpa [c] using hf 0 _ rfl
 obtain ⟨l,r⟩:=vec_argR (row:=LT.row) (d:=LT.none) (esz:=6) (e:=47) (by decide) (by kernel_rfl) (by kernel_rfl) (fun cs m x h=>lt_arg cs m x h) h0
 exact ⟨l,.cons _ _ _ _ r .nil⟩
end Go.Proofs.YthallodoidghoaaGreat
