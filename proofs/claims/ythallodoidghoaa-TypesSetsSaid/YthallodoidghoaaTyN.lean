/- Laid by program out of its parts: TyN. -/
import Derived.Test.YthallodoidghoaaTyM
set_option linter.unusedVariables false
set_option linter.unusedSimpArgs false
set_option maxRecDepth 100000
set_option maxHeartbeats 2000000
open Go Go.Ev
namespace Go.Proofs.Ythallodoidghoaa
def firstI (L:List LT) (s:List UInt8) (l:List Int) (i:Nat):Int:=if h:i < l.length then (if (L.getD (l.getD i 0).toNat LT.none).text=s then (i:Int) else firstI L s l (i + 1)) else -1
termination_by l.length - i
decreasing_by omega
def kidsC (L:List LT) (C:List Int) (c:Int):List Int:=(L.getD (C.getD (-1 - c).toNat 0).toNat LT.none).kids
def memT (L:List LT) (M:List (Int×Int)) (C:List Int) (c:Int) (s:List UInt8):Int×Int:=if 0≤c∨(C.length:Int)≤-1 - c then (-1,0) else if firstI L s (kidsC L C c) 0 < 0 then (-1,0) else (firstI L s (kidsC L C c) 0,ofT L M ((kidsC L C c).getD (firstI L s (kidsC L C c) 0).toNat 0))
def LN.rest2 (x:LN):List AV:=[vI x.G,vI x.Co,vI x.E,.vec 4 x.Fs.length (rFn x.Fs),.int .i64 x.main]
def COK (L:List LT) (C:List Int):Prop:=∀ c∈C,0≤c∧c < L.length
noncomputable def eMem:Tr AObj→List AV→Option Ct:=fun _ args=>match args with
 | [.agg [.vec 6 n f],.agg (.vec 2 m g :: o :: lo :: .vec 1 nc fc :: q),.int .i64 c,.bs s]=>some (.need (∃ (L:List LT) (x:LN),n=L.length∧f=rowT L∧m=x.M.length∧g=rM x.M∧o=vI x.O∧lo=vI x.Lo∧nc=x.C.length∧fc=rI x.C∧q=x.rest2∧MOK L x.M∧Good L∧COK L x.C∧-1000000000≤c∧c≤9223372036854775807) (.ret (.tup [.int .i64 (barr (memT (rowTs n f) (rowMs m g) (rowL nc fc) c s).1),.int .i64 (barr (memT (rowTs n f) (rowMs m g) (rowL nc fc) c s).2)])))
 | _=>none
structure FsI (L:List LT) (s:List UInt8) (l:List Int) (i:Nat):Prop where
 le:i≤l.length
 eq:firstI L s l i=firstI L s l 0
noncomputable def SMem (L:List LT) (s:List UInt8) (l:List Int):Stn:=thin Nat [0,1,4,7] (fun i=>[(8,.int .i64 i)]) (fun _ i=>FsI L s l i) fun i=>l.length - i
noncomputable def SMem5 (L:List LT) (s:List UInt8) (l:List Int):Stn:=thin Nat [0,1,2,3,4,5,8,9,10,11] (fun i=>[(12,.int .i64 i)]) (fun _ i=>FsI L s l i) fun i=>l.length - i
noncomputable def cxMem (L:List LT) (s:List UInt8) (l:List Int):Ctx:={ P:=Try.prog,tb:=[(20,eOf1)],lp:=fun f r=>cond (Nat.beq f 42) (cond (Nat.beq r 2) (some (SMem L s l)) none) none,cut:=fun _ _=>none }
noncomputable def cxMem5 (L:List LT) (s:List UInt8) (l:List Int):Ctx:={ P:=Try.prog,tb:=[(424242,eOf1)],lp:=fun f r=>cond (Nat.beq f 424242) (cond (Nat.beq r 6) (some (SMem5 L s l)) none) none,cut:=fun _ _=>none }
theorem vm_rI' (σ:List (Nat×Nat)) (S:List Int) (i:Nat):vmL σ (rI S i) (rI S i):=⟨⟨rfl,rfl⟩,trivial⟩
theorem vm_names (x:LN):vmP [] (.agg x.row) (.agg x.row):=⟨⟨rfl,rfl,⟨fun _ _=>vm_rM [] _⟩⟩,⟨rfl,rfl,⟨fun _ _=>vm_rI' [] _ _⟩⟩,⟨rfl,rfl,⟨fun _ _=>vm_rI' [] _ _⟩⟩,⟨rfl,rfl,⟨fun _ _=>vm_rI' [] _ _⟩⟩,⟨rfl,rfl,⟨fun _ _=>vm_rI' [] _ _⟩⟩,⟨rfl,rfl,⟨fun _ _=>vm_rI' [] _ _⟩⟩,⟨rfl,rfl,⟨fun _ _=>vm_rI' [] _ _⟩⟩,⟨rfl,rfl,⟨fun _ _=>⟨⟨rfl,rfl⟩,⟨rfl,rfl⟩,rfl,⟨rfl,rfl,⟨fun _ _=>vm_rI' [] _ _⟩⟩,trivial⟩⟩⟩,⟨rfl,rfl⟩,trivial⟩
theorem okMuch:REntOK Try.prog 4 rMuch:=by
 refine rent_of (gl:=[]) (ng:=0) gl0 fun H args rc hrc hp=>?_
 unfold rMuch at hrc
 split at hrc
 ·rename_i n f a
  injection hrc with hrc;subst hrc
  obtain ⟨L,rfl,rfl,rfl⟩:=hp
  refine ⟨gl0,⟨vm_tree L,⟨rfl,rfl⟩,trivial⟩,cxMu L,60,rfl,fol,tb_nil,?_⟩
  have:=runMuch L
  have e:(fun b:Bool=>b=false→MuchNot L)=fun b=>b=false→∀ M:List LT,L.length=M.length→rowT L=rowT M→MuchNot M:=by
   funext b
   exact propext ⟨fun h h0 M h1 h2=>rowT_inj h1 h2 ▸ h h0,fun h h0=>h h0 L rfl rfl⟩
  rw [e] at this
  exact this
 ·cases hrc
theorem okOf0:EntOK Try.prog 20 eOf0:=by
 refine ent_of2 (gl:=[]) (ng:=0) gl0 fun H args ct hct=>?_
 unfold eOf0 at hct
 split at hct
 ·rename_i n f m g q i
  injection hct with hct;subst hct
  refine ⟨gl0,_,_,rfl,?_⟩
  rintro ⟨L,x,rfl,rfl,rfl,rfl,rfl,hM,hi⟩
  rw [rowTs_rowT,rowMs_rM]
  exact ⟨⟨vm_tree L,vm_names x,⟨rfl,rfl⟩,trivial⟩,cxOf,60,rfl,fol,tb_nil,runOf0 L x i hM hi⟩
 ·cases hct
theorem okOf1:EntOK Try.prog 20 eOf1:=by
 refine ent_of2 (gl:=[]) (ng:=0) gl0 fun H args ct hct=>?_
 unfold eOf1 at hct
 split at hct
 ·rename_i n f m g q i
  injection hct with hct;subst hct
  refine ⟨gl0,_,_,rfl,?_⟩
  rintro ⟨L,x,rfl,rfl,rfl,rfl,rfl,hM,hi⟩
  rw [rowTs_rowT,rowMs_rM]
  exact ⟨⟨vm_tree L,vm_names x,⟨rfl,rfl⟩,trivial⟩,cxOf1,60,rfl,fol,tb_cons okOf0 tb_nil,runOf1 L x i hM hi⟩
 ·cases hct
theorem memT_out {L:List LT} {M:List (Int×Int)} {C:List Int} {c:Int} {s:List UInt8} (h:0≤c∨(C.length:Int)≤-1 - c):memT L M C c s=(-1,0):=by
 unfold memT;rw [if_pos h]
theorem memT_none {L:List LT} {M:List (Int×Int)} {C:List Int} {c:Int} {s:List UInt8} (h1:c < 0) (h2:-1 - c < (C.length:Int)) (h:firstI L s (kidsC L C c) 0 = -1):memT L M C c s=(-1,0):=by
 unfold memT;rw [if_neg (by omega),if_pos (by omega)]
theorem memT_at {L:List LT} {M:List (Int×Int)} {C:List Int} {c:Int} {s:List UInt8} {i:Nat} (h1:c < 0) (h2:-1 - c < (C.length:Int)) (h:firstI L s (kidsC L C c) 0=i):memT L M C c s=((i:Int),ofT L M ((kidsC L C c).getD i 0)):=by
 unfold memT;rw [if_neg (by omega),if_neg (by omega),h,Int.toNat_natCast]
@[reducible] def TyN_runMem_k0:List LT→LN→Int→Prop:=fun (L:List LT) (x:LN) (c:Int)=>(true=true∧List.length (LT.kids (List.getD L (Int.toNat (List.getD x.C (Int.toNat (Int.negSucc 0 - c)) (0:Int))) LT.none))=List.length (LT.kids (List.getD L (Int.toNat (List.getD x.C (Int.toNat (Int.negSucc 0 - c)) (0:Int))) LT.none))∧AllI fun (i:Nat)=>Nat.le (Nat.succ i) (List.length (LT.kids (List.getD L (Int.toNat (List.getD x.C (Int.toNat (Int.negSucc 0 - c)) (0:Int))) LT.none)))→(true=true∧List.getD (LT.kids (List.getD L (Int.toNat (List.getD x.C (Int.toNat (Int.negSucc 0 - c)) (0:Int))) LT.none)) i (0:Int)=List.getD (LT.kids (List.getD L (Int.toNat (List.getD x.C (Int.toNat (Int.negSucc 0 - c)) (0:Int))) LT.none)) i (0:Int))∧True)∧(true=true∧True∧(some 0=some 0∧true=true)∧(some 2=some 2∧true=true)∧True)∧(true=true∧(0:Int)=(0:Int))∧(true=true∧Int.ofNat (List.length (LT.kids (List.getD L (Int.toNat (List.getD x.C (Int.toNat (Int.negSucc 0 - c)) (0:Int))) LT.none)))=Int.ofNat (List.length (LT.kids (List.getD L (Int.toNat (List.getD x.C (Int.toNat (Int.negSucc 0 - c)) (0:Int))) LT.none))))∧True
@[reducible] def TyN_runMem_k1:List LT→LN→List UInt8→Prop:=fun (L:List LT) (x:LN) (s:List UInt8)=>(true=true∧true=true∧true=true∧true=true∧True∧true=true∧L.length=L.length∧AllI fun (i:Nat)=>Nat.le (Nat.succ i) L.length→(true=true∧LT.kind (List.getD L i LT.none)=LT.kind (List.getD L i LT.none))∧LT.text (List.getD L i LT.none)=LT.text (List.getD L i LT.none)∧(true=true∧LT.n (List.getD L i LT.none)=LT.n (List.getD L i LT.none))∧(true=true∧LT.line (List.getD L i LT.none)=LT.line (List.getD L i LT.none))∧(true=true∧LT.col (List.getD L i LT.none)=LT.col (List.getD L i LT.none))∧(true=true∧List.length (LT.kids (List.getD L i LT.none))=List.length (LT.kids (List.getD L i LT.none))∧AllI fun (i_1:Nat)=>Nat.le (Nat.succ i_1) (List.length (LT.kids (List.getD L i LT.none)))→(true=true∧List.getD (LT.kids (List.getD L i LT.none)) i_1 (0:Int)=List.getD (LT.kids (List.getD L i LT.none)) i_1 (0:Int))∧True)∧True)∧(true=true∧true=true∧true=true∧true=true∧((((((((True∧true=true∧x.M.length=x.M.length∧AllI fun (i:Nat)=>Nat.le (Nat.succ i) x.M.length→(true=true∧Prod.fst (List.getD x.M i ((0:Int),(0:Int)))=Prod.fst (List.getD x.M i ((0:Int),(0:Int))))∧(true=true∧Prod.snd (List.getD x.M i ((0:Int),(0:Int)))=Prod.snd (List.getD x.M i ((0:Int),(0:Int))))∧True)∧true=true∧x.O.length=x.O.length∧AllI fun (i:Nat)=>Nat.le (Nat.succ i) x.O.length→(true=true∧List.getD x.O i (0:Int)=List.getD x.O i (0:Int))∧True)∧true=true∧x.Lo.length=x.Lo.length∧AllI fun (i:Nat)=>Nat.le (Nat.succ i) x.Lo.length→(true=true∧List.getD x.Lo i (0:Int)=List.getD x.Lo i (0:Int))∧True)∧true=true∧x.C.length=x.C.length∧AllI fun (i:Nat)=>Nat.le (Nat.succ i) x.C.length→(true=true∧List.getD x.C i (0:Int)=List.getD x.C i (0:Int))∧True)∧true=true∧x.G.length=x.G.length∧AllI fun (i:Nat)=>Nat.le (Nat.succ i) x.G.length→(true=true∧List.getD x.G i (0:Int)=List.getD x.G i (0:Int))∧True)∧true=true∧x.Co.length=x.Co.length∧AllI fun (i:Nat)=>Nat.le (Nat.succ i) x.Co.length→(true=true∧List.getD x.Co i (0:Int)=List.getD x.Co i (0:Int))∧True)∧true=true∧x.E.length=x.E.length∧AllI fun (i:Nat)=>Nat.le (Nat.succ i) x.E.length→(true=true∧List.getD x.E i (0:Int)=List.getD x.E i (0:Int))∧True)∧true=true∧x.Fs.length=x.Fs.length∧AllI fun (i:Nat)=>Nat.le (Nat.succ i) x.Fs.length→(true=true∧LFn.twig (List.getD x.Fs i LFn.none)=LFn.twig (List.getD x.Fs i LFn.none))∧(true=true∧LFn.up (List.getD x.Fs i LFn.none)=LFn.up (List.getD x.Fs i LFn.none))∧LFn.name (List.getD x.Fs i LFn.none)=LFn.name (List.getD x.Fs i LFn.none)∧(true=true∧List.length (LFn.caps (List.getD x.Fs i LFn.none))=List.length (LFn.caps (List.getD x.Fs i LFn.none))∧AllI fun (i_1:Nat)=>Nat.le (Nat.succ i_1) (List.length (LFn.caps (List.getD x.Fs i LFn.none)))→(true=true∧List.getD (LFn.caps (List.getD x.Fs i LFn.none)) i_1 (0:Int)=List.getD (LFn.caps (List.getD x.Fs i LFn.none)) i_1 (0:Int))∧True)∧True)∧true=true∧x.main=x.main)∧(true=true∧true=true∧true=true∧true=true∧True∧s=s)∧True
theorem runMem_r:∀ (L:List LT) (x:LN) (c:Int) (s:List UInt8),MOK L x.M→Good L→(∀ (c:Int),List.Mem c x.C→Int.NonNeg (c - 0)∧Int.NonNeg ((↑L.length:Int) - (c + 1)))→Int.NonNeg (c - Int.negSucc 999999999)→Int.NonNeg ((9223372036854775807:Int) - c)→brP (!ilt c (0:Int)) ((true=true∧Int.negSucc 0=barr (Prod.fst (memT L x.M x.C c s)))∧(true=true∧(0:Int)=barr (Prod.snd (memT L x.M x.C c s)))∧True) (sdA (inR .i64 (Int.negSucc 0 - c)) (brP (!ilt (Int.negSucc 0 - c) (Int.ofNat x.C.length)) ((true=true∧Int.negSucc 0=barr (Prod.fst (memT L x.M x.C c s)))∧(true=true∧(0:Int)=barr (Prod.snd (memT L x.M x.C c s)))∧True) (sdA (inR .i64 (Int.negSucc 0 - c)) (sdA (inB (Int.negSucc 0 - c) x.C.length) (sdA (inB (List.getD x.C (Int.toNat (Int.negSucc 0 - c)) (0:Int)) L.length) ((((True∧True∧True∧True∧True)∧True)∧True)∧(∃ (x0:Nat),FsI L s (kidsC L x.C c) x0∧true=true∧((true=true∧(0:Int)=(↑x0:Int))∧TyN_runMem_k0 L x c)∧TyN_runMem_k1 L x s)∧∀ (x_1:Nat),FsI L s (kidsC L x.C c) x_1→brP (ilt (↑x_1:Int) (Int.ofNat (List.length (LT.kids (List.getD L (Int.toNat (List.getD x.C (Int.toNat (Int.negSucc 0 - c)) (0:Int))) LT.none))))) (sdA (inB (↑x_1:Int) (List.length (LT.kids (List.getD L (Int.toNat (List.getD x.C (Int.toNat (Int.negSucc 0 - c)) (0:Int))) LT.none)))) (sdA (inB (List.getD (LT.kids (List.getD L (Int.toNat (List.getD x.C (Int.toNat (Int.negSucc 0 - c)) (0:Int))) LT.none)) (Int.toNat (↑x_1:Int)) (0:Int)) L.length) ((((True∧True∧True∧True)∧True)∧True)∧brP (decide (LT.text (List.getD L (Int.toNat (List.getD (LT.kids (List.getD L (Int.toNat (List.getD x.C (Int.toNat (Int.negSucc 0 - c)) (0:Int))) LT.none)) (Int.toNat (↑x_1:Int)) (0:Int))) LT.none)=s)) (sdA (inB (↑x_1:Int) (List.length (LT.kids (List.getD L (Int.toNat (List.getD x.C (Int.toNat (Int.negSucc 0 - c)) (0:Int))) LT.none)))) ((∃ (L_1:List LT),∃ (x_2:LN),L.length=L_1.length∧rowT L=rowT L_1∧x.M.length=x_2.M.length∧rM x.M=rM x_2.M∧[vI x.O,vI x.Lo,vI x.C,vI x.G,vI x.Co,vI x.E,AV.vec 4 x.Fs.length (rFn x.Fs),AV.int .i64 x.main]=LN.rest x_2∧MOK L_1 x_2.M∧Good L_1)∧(((True∧True∧True∧True)∧True)∧((True∧True∧True∧True)∧True)∧True)∧(true=true∧(↑x_1:Int)=barr (Prod.fst (memT L x.M x.C c s)))∧(true=true∧barr (ofT (rowTs L.length (rowT L)) (rowMs x.M.length (rM x.M)) (List.getD (LT.kids (List.getD L (Int.toNat (List.getD x.C (Int.toNat (Int.negSucc 0 - c)) (0:Int))) LT.none)) (Int.toNat (↑x_1:Int)) (0:Int)))=barr (Prod.snd (memT L x.M x.C c s)))∧True)) (sdA (inR .i64 ((↑x_1:Int) + 1)) (∃ (x':Nat),FsI L s (kidsC L x.C c) x'∧Nat.le (Nat.succ (List.length (kidsC L x.C c) - x')) (List.length (kidsC L x.C c) - x_1)∧true=true∧((true=true∧(↑x_1:Int) + 1=(↑x':Int))∧TyN_runMem_k0 L x c)∧TyN_runMem_k1 L x s))))) ((true=true∧Int.negSucc 0=barr (Prod.fst (memT L x.M x.C c s)))∧(true=true∧(0:Int)=barr (Prod.snd (memT L x.M x.C c s)))∧True)))))))
:= by
 intro L x c s hM hG hC hc hc2
 have hML:MOK L x.M:=hM
 have hGG:Good L:=hG
 have hCC:COK L x.C:=hC
 have hc':-1000000000≤c:=hc
 have hc2':c≤9223372036854775807:=hc2
 clear hc hc2
 simp only [barr_eq,bar_eq,true_and,and_true,eq_self,implies_true,Nat.le_eq,cond_tf,cond_cf,nif_tf,Int.toNat_natCast,Int.ofNat_eq_natCast,Nat.ble_eq,Nat.ble_self_eq_true,Bool.true_and,Bool.and_true,Bool.and_self,Option.some.injEq,AV.int.injEq,rowB_self,allBR_self,Nat.mul_one,Nat.beq_refl,allI_true,cond_true,cond_false,ieq_self,Bool.not_true,Bool.not_false,decide_true,brP_f,brP_t,sdA_t,bytesL_packL,List.nil_append,TyN_runMem_k0,TyN_runMem_k1]
 have e1:Int.negSucc 0 = -1:=rfl
 have hk:(L.getD (x.C.getD (-1 - c).toNat 0).toNat LT.none).kids=kidsC L x.C c:=rfl
 simp only [e1,hk,rowTs_rowT,rowMs_rM]
 have hlen:=hML.len
 have hout:(0≤c∨(x.C.length:Int)≤-1 - c)→-1=(memT L x.M x.C c s).1∧0=(memT L x.M x.C c s).2:=fun h=>by rw [memT_out h];exact ⟨rfl,rfl⟩
 refine brP_of (fun h1=>hout ?_) fun h1=>sdA_of (inR_i64.2 (by rw [Bool.not_eq_false',ilt_iff] at h1;omega)) (brP_of (fun h2=>hout ?_) fun h2=>?_)
 ·rw [Bool.not_eq_true',ilt_iffn] at h1;omega
 ·rw [Bool.not_eq_true',ilt_iffn] at h2;omega
 rw [Bool.not_eq_false',ilt_iff] at h1 h2
 have q1:c < 0:=h1
 have q2:-1 - c < (x.C.length:Int):=h2
 refine sdA_of (inR_i64.2 (by omega)) ?_
 obtain ⟨g1,g2⟩:=hCC _ (getD_memI (l:=x.C) (k:=(-1 - c).toNat) (by omega))
 have hkl:=hGG.klen (x.C.getD (-1 - c).toNat 0).toNat (by omega)
 have hkk:=hGG.kid (x.C.getD (-1 - c).toNat 0).toNat (by omega)
 rw [hk] at hkl hkk
 refine sdA_of (inB_iff.2 (by omega)) (sdA_of (inB_iff.2 (by omega)) ⟨⟨0,⟨Nat.zero_le _,rfl⟩,rfl⟩,fun i hi=>brP_of (fun h3=>?_) fun h3=>?_⟩)
 ·rw [ilt_iff] at h3
  have h3':i < (kidsC L x.C c).length:=by omega
  obtain ⟨g3,g4⟩:=hkk _ (getD_memI h3')
  refine sdA_of (inB_iff.2 (by omega)) (sdA_of (inB_iff.2 (by omega)) (brP_of (fun h4=>sdA_of (inB_iff.2 (by omega)) ⟨⟨L,x,rfl,rfl,rfl,rfl,rfl,hML,hGG⟩,?_⟩) fun h4=>sdA_of (inR_i64.2 (by omega)) ⟨i + 1,⟨h3',?_⟩,by omega,by omega⟩))
  ·rw [decide_eq_true_eq] at h4
   rw [memT_at q1 q2 (i:=i) (by rw [← hi.eq,firstI,dif_pos h3',if_pos h4])]
   exact ⟨rfl,rfl⟩
  ·rw [decide_eq_false_iff_not] at h4
   rw [← hi.eq]
   conv=>rhs;rw [firstI,dif_pos h3',if_neg h4]
 ·rw [ilt_iffn] at h3
  have:=hi.le
  rw [memT_none q1 q2 (by rw [← hi.eq,firstI,dif_neg (by omega)])]
  exact ⟨rfl,rfl⟩
theorem runMem:∀ (L:List LT) (x:LN) (c:Int) (s:List UInt8),MOK L x.M→Good L→COK L x.C→-1000000000≤c→c≤9223372036854775807→(cRun (cxMem L s (kidsC L x.C c)) 60).call 40 [tree L,.agg x.row,.int .i64 c,.bs s] .leaf 0 (ResM Try.prog false (.tup [.int .i64 (barr (memT L x.M x.C c s).1),.int .i64 (barr (memT L x.M x.C c s).2)])) :=
 Eq.mpr (by kernel_rfl) runMem_r
end Go.Proofs.Ythallodoidghoaa
