/- Laid by program out of its parts: TyM. -/
import Derived.Test.YthallodoidghoaaTyL
set_option linter.unusedVariables false
set_option linter.unusedSimpArgs false
set_option maxRecDepth 100000
set_option maxHeartbeats 2000000
open Go Go.Ev
namespace Go.Proofs.Ythallodoidghoaa
noncomputable def rRes:REnt:=fun _ args=>match args with
 | [.agg [.vec 6 n f]]=>some ⟨LN×List (Int×Int×Int),(∃ L:List LT,n=L.length∧f=rowT L∧LSmall L),fun x=>∀ L:List LT,n=L.length→f=rowT L→x.2≠[]∨NamesOK L x.1,fun x=>.tup [.agg x.1.row,.vec 3 x.2.length (rD x.2)]⟩
 | _=>none
structure MuchNot (L:List LT):Prop where
 len:L.length≤200
 text:∀ i,i < L.length→(L.getD i LT.none).text.length≤100
noncomputable def rMuch:REnt:=fun _ args=>match args with
 | [.agg [.vec 6 n f],.int .i64 a]=>some ⟨Bool,(∃ L:List LT,n=L.length∧f=rowT L∧a=200),fun b=>b=false→∀ L:List LT,n=L.length→f=rowT L→MuchNot L,fun b=>.bool b⟩
 | _=>none
structure MuI (L:List LT) (i:Nat):Prop where
 le:i≤L.length
 le2:i≤200
 text:∀ j,j < i→(L.getD j LT.none).text.length≤100
noncomputable def SMu (L:List LT):Stn:=thin Nat [0,1,2,4] (fun i=>[(5,.int .i64 i)]) (fun _ i=>MuI L i) fun i=>L.length - i
noncomputable def cxMu (L:List LT):Ctx:={ P:=Try.prog,tb:=[],lp:=fun f r=>cond (Nat.beq f 4) (cond (Nat.beq r 2) (some (SMu L)) none) none,cut:=fun _ _=>none }
def tyT (s:List UInt8) (n:Int):Int:=if s=[105,110,116] then 1 else if s=[102,110] then 2 else if s=[116,111,107] then 3 else if s=[104,97,110,100] then 4 else if s=[97,114,114] then 5 else -1 - n
def ofL (L:List LT) (M:List (Int×Int)) (i:Int):Int:=if i < 0∨(L.length:Int)≤i then 0 else if kindOf L i=5 then tyT (L.getD i.toNat LT.none).text (M.getD i.toNat (0,0)).2 else 0
def tells (k:Int):Prop:=k=13∨k=6∨k=4
instance (k:Int):Decidable (tells k):=by unfold tells;exact inferInstance
def ofT (L:List LT) (M:List (Int×Int)) (i:Int):Int:=if 0≤i∧i < L.length∧tells (kindOf L i) then ofL L M ((L.getD i.toNat LT.none).kids.getD 0 0) else ofL L M i
def dM (l:List AV):Int×Int:=match l with
 | [.int _ a,.int _ b]=>(a,b)
 | _=>(0,0)
def rowMs (m:Nat) (g:Nat→List AV):List (Int×Int):=(List.range m).map fun i=>dM (g i)
def LN.rest (x:LN):List AV:=[vI x.O,vI x.Lo,vI x.C,vI x.G,vI x.Co,vI x.E,.vec 4 x.Fs.length (rFn x.Fs),.int .i64 x.main]
structure MOK (L:List LT) (M:List (Int×Int)):Prop where
 len:L.length≤1000000
 mlen:M.length=L.length
 n:∀ j,j < L.length→0≤(M.getD j (0,0)).2∧(M.getD j (0,0)).2≤1000000
def leafAt (L:List LT) (i:Int):Prop:=0≤i→i < L.length→¬ tells (kindOf L i)
noncomputable def eOf0:Tr AObj→List AV→Option Ct:=fun _ args=>match args with
 | [.agg [.vec 6 n f],.agg (.vec 2 m g :: q),.int .i64 i]=>some (.need (∃ (L:List LT) (x:LN),n=L.length∧f=rowT L∧m=x.M.length∧g=rM x.M∧q=x.rest∧MOK L x.M∧leafAt L i) (.ret (.int .i64 (barr (ofL (rowTs n f) (rowMs m g) i)))))
 | _=>none
noncomputable def eOf1:Tr AObj→List AV→Option Ct:=fun _ args=>match args with
 | [.agg [.vec 6 n f],.agg (.vec 2 m g :: q),.int .i64 i]=>some (.need (∃ (L:List LT) (x:LN),n=L.length∧f=rowT L∧m=x.M.length∧g=rM x.M∧q=x.rest∧MOK L x.M∧Good L) (.ret (.int .i64 (barr (ofT (rowTs n f) (rowMs m g) i)))))
 | _=>none
noncomputable def cxOf:Ctx:={ P:=Try.prog,tb:=[],lp:=fun _ _=>none,cut:=fun _ _=>none }
noncomputable def cxOf1:Ctx:={ P:=Try.prog,tb:=[(20,eOf0)],lp:=fun _ _=>none,cut:=fun _ _=>none }
noncomputable def cxOf5:Ctx:={ P:=Try.prog,tb:=[(424242,eOf0)],lp:=fun _ _=>none,cut:=fun _ _=>none }
theorem okRes:REntOK Try.prog 6 rRes:=by
 refine rent_of (gl:=[]) (ng:=0) gl0 fun H args rc hrc hp=>?_
 unfold rRes at hrc
 split at hrc
 ·rename_i n f
  injection hrc with hrc;subst hrc
  obtain ⟨L,rfl,rfl,hL⟩:=hp
  refine ⟨gl0,⟨vm_tree L,trivial⟩,cxR L,100,rfl,fol,tb_cons okMay (tb_cons okCount (tb_cons okOwner (tb_cons (okNameN _) (tb_cons (okEndN _) tb_nil)))),?_⟩
  have:=runRes L hL
  have e:(fun x:LN×List (Int×Int×Int)=>x.2≠[]∨NamesOK L x.1)=fun x=>∀ M:List LT,L.length=M.length→rowT L=rowT M→x.2≠[]∨NamesOK M x.1:=by
   funext x
   exact propext ⟨fun h M h1 h2=>rowT_inj h1 h2 ▸ h,fun h=>h L rfl rfl⟩
  rw [e] at this
  exact this
 ·cases hrc
theorem rowMs_rM (M:List (Int×Int)):rowMs M.length (rM M)=M:=by
 apply List.ext_getElem
 ·simp [rowMs]
 ·intro i h1 h2
  simp [rowMs,rM,mRow,dM,List.getD_eq_getElem?_getD,List.getElem?_eq_getElem h2]
theorem ofL_out {L:List LT} {M:List (Int×Int)} {i:Int} (h:i < 0∨(L.length:Int)≤i):ofL L M i=0:=by
 unfold ofL;rw [if_pos h]
theorem ofL_in {L:List LT} {M:List (Int×Int)} {j:Nat} (h:j < L.length) (hk:(L.getD j LT.none).kind=5):ofL L M (j:Int)=tyT (L.getD j LT.none).text (M.getD j (0,0)).2:=by
 unfold ofL kindOf
 rw [if_neg (by omega),Int.toNat_natCast,if_pos hk]
theorem ofL_no {L:List LT} {M:List (Int×Int)} {j:Nat} (hk:(L.getD j LT.none).kind≠5):ofL L M (j:Int)=0:=by
 unfold ofL kindOf
 rw [Int.toNat_natCast,if_neg hk,ite_self]
theorem ofT_out {L:List LT} {M:List (Int×Int)} {i:Int} (h:i < 0∨(L.length:Int)≤i):ofT L M i=0:=by
 unfold ofT;rw [if_neg (by omega),ofL_out h]
theorem ofT_leaf {L:List LT} {M:List (Int×Int)} {j:Nat} (h:¬ tells (L.getD j LT.none).kind):ofT L M (j:Int)=ofL L M j:=by
 unfold ofT kindOf
 rw [Int.toNat_natCast,if_neg fun g=>h g.2.2]
theorem ofT_kid {L:List LT} {M:List (Int×Int)} {j:Nat} (hj:j < L.length) (h:tells (L.getD j LT.none).kind):ofT L M (j:Int)=ofL L M ((L.getD j LT.none).kids.getD 0 0):=by
 unfold ofT kindOf
 rw [Int.toNat_natCast,if_pos ⟨by omega,by omega,h⟩]
theorem kid_ty {L:List LT} (hG:Good L) {i:Nat} (hi:i < L.length) (hk:tells (L.getD i LT.none).kind):0 < (L.getD i LT.none).kids.length∧0≤(L.getD i LT.none).kids.getD 0 0∧(L.getD i LT.none).kids.getD 0 0 < L.length∧kindOf L ((L.getD i LT.none).kids.getD 0 0)=5:=by
 have h:=hG.kinds i hi
 have hkid:=hG.kid i hi
 have hl:∃ s,lettersL (L.getD i LT.none).kind=121 :: s:=by
  rcases hk with hk | hk | hk <;> rw [hk]
  ·exact ⟨[101],by decide⟩
  ·exact ⟨[],by decide⟩
  ·exact ⟨[],by decide⟩
 obtain ⟨s,hs⟩:=hl
 rw [hs] at h
 revert h hkid
 cases (L.getD i LT.none).kids with
 | nil =>
  intro hkid h
  rw [List.map_nil,km_none _ (by decide) (by decide)] at h;cases h
 | cons c t =>
  intro hkid h
  rw [List.map_cons,km_one _ _ _ (by decide) (by decide),Bool.and_eq_true] at h
  have h5:=h.1
  unfold isK at h5
  rw [if_pos (by decide),decide_eq_true_eq] at h5
  obtain ⟨g1,g2⟩:=hkid c (by simp)
  exact ⟨by simp,show 0≤c by omega,g2,h5⟩
theorem ty_map {s:List UInt8} {n:Int} {K:Prop} (hK:tyT s n = -1 - n→K):brP
  (bif decide (s=[105,110,116]) then true else bif decide (s=[102,110]) then true else bif decide (s=[116,111,107]) then true else bif decide (s=[104,97,110,100]) then true else decide (s=[97,114,114]))
  ((bif decide (s=[105,110,116]) then 1 else bif decide (s=[102,110]) then 2 else bif decide (s=[116,111,107]) then 3 else bif decide (s=[104,97,110,100]) then 4 else bif decide (s=[97,114,114]) then 5 else 0)=tyT s n) K:=by
 unfold tyT at *
 by_cases e1:s=[105,110,116]
 ·exact brP_of (fun _=>by simp [e1]) fun h=>by simp [e1] at h
 by_cases e2:s=[102,110]
 ·exact brP_of (fun _=>by simp [e2]) fun h=>by simp [e2] at h
 by_cases e3:s=[116,111,107]
 ·exact brP_of (fun _=>by simp [e3]) fun h=>by simp [e3] at h
 by_cases e4:s=[104,97,110,100]
 ·exact brP_of (fun _=>by simp [e4]) fun h=>by simp [e4] at h
 by_cases e5:s=[97,114,114]
 ·exact brP_of (fun _=>by simp [e5]) fun h=>by simp [e5] at h
 ·exact brP_of (fun h=>by simp [e1,e2,e3,e4,e5] at h) fun _=>hK (by simp [e1,e2,e3,e4,e5])
theorem ty_ways {s:List UInt8} {n:Int} {K:Prop} (hK:tyT s n = -1 - n→K):brP (decide (s=[105,110,116])) (1=tyT s n) (brP (decide (s=[102,110])) (2=tyT s n) (brP (decide (s=[116,111,107])) (3=tyT s n) (brP (decide (s=[104,97,110,100])) (4=tyT s n) (brP (decide (s=[97,114,114])) (5=tyT s n) K)))):=by
 unfold tyT at *
 refine brP_of (fun h=>?_) fun h1=>brP_of (fun h=>?_) fun h2=>brP_of (fun h=>?_) fun h3=>brP_of (fun h=>?_) fun h4=>brP_of (fun h=>?_) fun h5=>hK ?_
 ·rw [decide_eq_true_eq] at h;simp [h]
 ·rw [decide_eq_true_eq] at h;simp [h]
 ·rw [decide_eq_true_eq] at h;simp [h]
 ·rw [decide_eq_true_eq] at h;simp [h]
 ·rw [decide_eq_true_eq] at h;simp [h]
 ·simp only [decide_eq_false_iff_not] at h1 h2 h3 h4 h5
  simp [h1,h2,h3,h4,h5]
@[reducible] def TyM_runMuch_k0:List LT→Prop:=fun (L:List LT)=>true=true∧L.length=L.length∧AllI fun (i:Nat)=>Nat.le (Nat.succ i) L.length→(true=true∧LT.kind (List.getD L i LT.none)=LT.kind (List.getD L i LT.none))∧LT.text (List.getD L i LT.none)=LT.text (List.getD L i LT.none)∧(true=true∧LT.n (List.getD L i LT.none)=LT.n (List.getD L i LT.none))∧(true=true∧LT.line (List.getD L i LT.none)=LT.line (List.getD L i LT.none))∧(true=true∧LT.col (List.getD L i LT.none)=LT.col (List.getD L i LT.none))∧(true=true∧List.length (LT.kids (List.getD L i LT.none))=List.length (LT.kids (List.getD L i LT.none))∧AllI fun (i_1:Nat)=>Nat.le (Nat.succ i_1) (List.length (LT.kids (List.getD L i LT.none)))→(true=true∧List.getD (LT.kids (List.getD L i LT.none)) i_1 (0:Int)=List.getD (LT.kids (List.getD L i LT.none)) i_1 (0:Int))∧True)∧True
@[reducible] def TyM_runMuch_k1:List LT→Prop:=fun (L:List LT)=>(true=true∧true=true∧true=true∧true=true∧True∧TyM_runMuch_k0 L)∧True
@[reducible] def TyM_runMuch_k2:List LT→Prop:=fun (L:List LT)=>(TyM_runMuch_k0 L∧True)∧(true=true∧(200:Int)=(200:Int))∧(some 0=some 0∧true=true)∧false=false∧True
theorem runMuch_r:∀ (L:List LT),(∃ (x0:Nat),MuI L x0∧true=true∧((true=true∧(0:Int)=(↑x0:Int))∧TyM_runMuch_k2 L)∧TyM_runMuch_k1 L)∧∀ (x:Nat),MuI L x→brP (ilt (↑x:Int) (Int.ofNat L.length)) (brP (ilt (↑x:Int) (200:Int)) (sdA (inB (↑x:Int) L.length) (brP (ilt (100:Int) (Int.ofNat (List.length (LT.text (List.getD L (Int.toNat (↑x:Int)) LT.none))))) (∃ (x:Bool),(x=false→MuchNot L)∧true=x) (sdA (inR .i64 ((↑x:Int) + 1)) (∃ (x':Nat),MuI L x'∧Nat.le (Nat.succ (L.length - x')) (L.length - x)∧true=true∧((true=true∧(↑x:Int) + 1=(↑x':Int))∧TyM_runMuch_k2 L)∧TyM_runMuch_k1 L)))) (∃ (x:Bool),(x=false→MuchNot L)∧ilt (200:Int) (Int.ofNat L.length)=x)) (∃ (x:Bool),(x=false→MuchNot L)∧ilt (200:Int) (Int.ofNat L.length)=x)
:= by
 intro L
 simp only [barr_eq,bar_eq,true_and,and_true,eq_self,implies_true,Nat.le_eq,cond_tf,cond_cf,nif_tf,Int.toNat_natCast,Int.ofNat_eq_natCast,Nat.ble_eq,Nat.ble_self_eq_true,Bool.true_and,Bool.and_true,Bool.and_self,Option.some.injEq,AV.int.injEq,rowB_self,allBR_self,Nat.mul_one,Nat.beq_refl,allI_true,cond_true,cond_false,ieq_self,Bool.not_true,Bool.not_false,decide_true,brP_f,brP_t,sdA_t,bytesL_packL,List.nil_append,TyM_runMuch_k0,TyM_runMuch_k1,TyM_runMuch_k2]
 refine ⟨⟨0,⟨Nat.zero_le _,Nat.zero_le _,fun j hj=>by omega⟩,rfl⟩,fun x hx=>?_⟩
 have hx1:=hx.le
 have hx2:=hx.le2
 have hend:(L.length≤x∨200≤x)→∃ b:Bool,(b=false→MuchNot L)∧ilt 200 (L.length:Int)=b:=fun h=>⟨_,fun hb=>by
  rw [ilt_iffn] at hb
  exact ⟨by omega,fun i hi=>hx.text i (by omega)⟩,rfl⟩
 refine brP_of (fun h1=>brP_of (fun h2=>?_) fun h2=>hend ?_) fun h1=>hend ?_
 ·rw [ilt_iff] at h1 h2
  refine sdA_of (inB_iff.2 (by omega)) (brP_of (fun h3=>⟨true,(fun h=>by cases h),rfl⟩) fun h3=>sdA_of (inR_i64.2 (by omega)) ⟨x + 1,⟨by omega,by omega,fun j hj=>?_⟩,by omega,by omega⟩)
  rw [ilt_iffn] at h3
  rcases Nat.lt_or_ge j x with h | h
  ·exact hx.text j h
  ·obtain rfl:j=x:=by omega
   omega
 ·rw [ilt_iffn] at h2;omega
 ·rw [ilt_iffn] at h1;omega
theorem runMuch:∀ (L:List LT),(cRun (cxMu L) 60).call 4 [tree L,.int .i64 200] .leaf 0 (ResR (fun b:Bool=>b=false→MuchNot L) fun b=>.bool b) :=
 Eq.mpr (by kernel_rfl) runMuch_r
theorem runOf0_r:∀ (L:List LT) (x:LN) (i:Int),MOK L x.M→(Int.NonNeg (i - 0)→Int.NonNeg ((↑L.length:Int) - (i + 1))→kindOf L i=(13:Int)∨kindOf L i=(6:Int)∨kindOf L i=(4:Int)→False)→brP (ilt i (0:Int)) (true=true∧(0:Int)=barr (ofL L x.M i)) (brP (!ilt i (Int.ofNat L.length)) (true=true∧(0:Int)=barr (ofL L x.M i)) (sdA (inB i L.length) (brP (ieq (LT.kind (List.getD L (Int.toNat i) LT.none)) (13:Int)) (brP (ieq (Int.ofNat (List.length (LT.kids (List.getD L (Int.toNat i) LT.none)))) (0:Int)) (true=true∧(0:Int)=barr (ofL L x.M i)) (sdA (inB (0:Int) (List.length (LT.kids (List.getD L (Int.toNat i) LT.none)))) False)) (brP (ieq (LT.kind (List.getD L (Int.toNat i) LT.none)) (6:Int)) (brP (ieq (Int.ofNat (List.length (LT.kids (List.getD L (Int.toNat i) LT.none)))) (0:Int)) (true=true∧(0:Int)=barr (ofL L x.M i)) (sdA (inB (0:Int) (List.length (LT.kids (List.getD L (Int.toNat i) LT.none)))) False)) (brP (ieq (LT.kind (List.getD L (Int.toNat i) LT.none)) (4:Int)) (brP (ieq (Int.ofNat (List.length (LT.kids (List.getD L (Int.toNat i) LT.none)))) (0:Int)) (true=true∧(0:Int)=barr (ofL L x.M i)) (sdA (inB (0:Int) (List.length (LT.kids (List.getD L (Int.toNat i) LT.none)))) False)) (brP (ieq (LT.kind (List.getD L (Int.toNat i) LT.none)) (5:Int)) (brP (bif decide (LT.text (List.getD L (Int.toNat i) LT.none)=[(105:UInt8),(110:UInt8),(116:UInt8)]) then true else bif decide (LT.text (List.getD L (Int.toNat i) LT.none)=[(102:UInt8),(110:UInt8)]) then true else bif decide (LT.text (List.getD L (Int.toNat i) LT.none)=[(116:UInt8),(111:UInt8),(107:UInt8)]) then true else bif decide (LT.text (List.getD L (Int.toNat i) LT.none)=[(104:UInt8),(97:UInt8),(110:UInt8),(100:UInt8)]) then true else bif decide (LT.text (List.getD L (Int.toNat i) LT.none)=[(97:UInt8),(114:UInt8),(114:UInt8)]) then true else false) (true=true∧(bif decide (LT.text (List.getD L (Int.toNat i) LT.none)=[(105:UInt8),(110:UInt8),(116:UInt8)]) then (1:Int) else bif decide (LT.text (List.getD L (Int.toNat i) LT.none)=[(102:UInt8),(110:UInt8)]) then (2:Int) else bif decide (LT.text (List.getD L (Int.toNat i) LT.none)=[(116:UInt8),(111:UInt8),(107:UInt8)]) then (3:Int) else bif decide (LT.text (List.getD L (Int.toNat i) LT.none)=[(104:UInt8),(97:UInt8),(110:UInt8),(100:UInt8)]) then (4:Int) else bif decide (LT.text (List.getD L (Int.toNat i) LT.none)=[(97:UInt8),(114:UInt8),(114:UInt8)]) then (5:Int) else (0:Int))=barr (ofL L x.M i)) (sdA (inB i x.M.length) (sdA (inR .i64 (Int.negSucc 0 - Prod.snd (List.getD x.M (Int.toNat i) ((0:Int),(0:Int))))) (true=true∧Int.negSucc 0 - Prod.snd (List.getD x.M (Int.toNat i) ((0:Int),(0:Int)))=barr (ofL L x.M i))))) (true=true∧(0:Int)=barr (ofL L x.M i))))))))
:= by
 intro L x i hM hi
 have hi2:0≤i→i < L.length→¬ tells (kindOf L i):=hi
 have hML:MOK L x.M:=hM
 have hml:=hML.mlen
 have hlen:=hML.len
 simp only [barr_eq,bar_eq,true_and,and_true,eq_self,implies_true,Nat.le_eq,cond_tf,cond_cf,nif_tf,Int.toNat_natCast,Int.ofNat_eq_natCast,Nat.ble_eq,Nat.ble_self_eq_true,Bool.true_and,Bool.and_true,Bool.and_self,Option.some.injEq,AV.int.injEq,rowB_self,allBR_self,Nat.mul_one,Nat.beq_refl,allI_true,cond_true,cond_false,ieq_self,Bool.not_true,Bool.not_false,decide_true,brP_f,brP_t,sdA_t,bytesL_packL,List.nil_append]
 refine brP_of (fun h1=>?_) fun h1=>brP_of (fun h2=>?_) fun h2=>?_
 ·rw [ilt_iff] at h1
  rw [ofL_out (.inl h1)]
 ·rw [Bool.not_eq_true',ilt_iffn] at h2
  rw [ofL_out (.inr (by omega))]
 rw [ilt_iffn] at h1
 rw [Bool.not_eq_false',ilt_iff] at h2
 obtain ⟨j,rfl⟩:∃ j:Nat,i=j:=⟨i.toNat,by omega⟩
 simp only [Int.toNat_natCast]
 have hj:j < L.length:=by omega
 have hn:=hML.n j hj
 have hnt:¬ tells (L.getD j LT.none).kind:=by
  have:=hi2 (by omega) (by omega)
  unfold kindOf at this
  rwa [Int.toNat_natCast] at this
 refine sdA_of (inB_iff.2 (by omega)) (brP_of (fun h=>absurd (.inl (ieq_iff.1 h)) hnt) fun h13=>brP_of (fun h=>absurd (.inr (.inl (ieq_iff.1 h))) hnt) fun h6=>brP_of (fun h=>absurd (.inr (.inr (ieq_iff.1 h))) hnt) fun h4=>?_)
 refine brP_of (fun h5=>?_) fun h5=>?_
 ·rw [ieq_iff] at h5
  rw [ofL_in hj h5]
  exact ty_map fun e=>sdA_of (inB_iff.2 (by omega)) (sdA_of (inR_i64.2 (by omega)) (by rw [e];rfl))
 ·rw [ieq_iffn] at h5
  rw [ofL_no h5]
theorem runOf0:∀ (L:List LT) (x:LN) (i:Int),MOK L x.M→leafAt L i→(cRun cxOf 60).call 20 [tree L,.agg x.row,.int .i64 i] .leaf 0 (ResM Try.prog false (.int .i64 (barr (ofL L x.M i)))) :=
 Eq.mpr (by kernel_rfl) runOf0_r
@[reducible] def TyM_runOf1_k0:List LT→LN→Int→Prop:=fun (L:List LT) (x:LN) (i:Int)=>(∃ (L_1:List LT),∃ (x_1:LN),L.length=L_1.length∧rowT L=rowT L_1∧x.M.length=x_1.M.length∧rM x.M=rM x_1.M∧[vI x.O,vI x.Lo,vI x.C,vI x.G,vI x.Co,vI x.E,AV.vec 4 x.Fs.length (rFn x.Fs),AV.int .i64 x.main]=LN.rest x_1∧MOK L_1 x_1.M∧(Int.NonNeg (List.getD (LT.kids (List.getD L (Int.toNat i) LT.none)) 0 (0:Int) - 0)→Int.NonNeg ((↑L_1.length:Int) - (List.getD (LT.kids (List.getD L (Int.toNat i) LT.none)) 0 (0:Int) + 1))→kindOf L_1 (List.getD (LT.kids (List.getD L (Int.toNat i) LT.none)) 0 (0:Int))=(13:Int)∨kindOf L_1 (List.getD (LT.kids (List.getD L (Int.toNat i) LT.none)) 0 (0:Int))=(6:Int)∨kindOf L_1 (List.getD (LT.kids (List.getD L (Int.toNat i) LT.none)) 0 (0:Int))=(4:Int)→False))∧(((True∧True∧True∧True∧True)∧True)∧((True∧True∧True∧True∧True)∧True)∧True)∧true=true∧barr (ofL (rowTs L.length (rowT L)) (rowMs x.M.length (rM x.M)) (List.getD (LT.kids (List.getD L (Int.toNat i) LT.none)) 0 (0:Int)))=barr (ofT L x.M i)
theorem runOf1_r:∀ (L:List LT) (x:LN) (i:Int),MOK L x.M→Good L→brP (ilt i (0:Int)) (true=true∧(0:Int)=barr (ofT L x.M i)) (brP (!ilt i (Int.ofNat L.length)) (true=true∧(0:Int)=barr (ofT L x.M i)) (sdA (inB i L.length) (brP (ieq (LT.kind (List.getD L (Int.toNat i) LT.none)) (13:Int)) (brP (ieq (Int.ofNat (List.length (LT.kids (List.getD L (Int.toNat i) LT.none)))) (0:Int)) (true=true∧(0:Int)=barr (ofT L x.M i)) (sdA (inB (0:Int) (List.length (LT.kids (List.getD L (Int.toNat i) LT.none)))) (TyM_runOf1_k0 L x i))) (brP (ieq (LT.kind (List.getD L (Int.toNat i) LT.none)) (6:Int)) (brP (ieq (Int.ofNat (List.length (LT.kids (List.getD L (Int.toNat i) LT.none)))) (0:Int)) (true=true∧(0:Int)=barr (ofT L x.M i)) (sdA (inB (0:Int) (List.length (LT.kids (List.getD L (Int.toNat i) LT.none)))) (TyM_runOf1_k0 L x i))) (brP (ieq (LT.kind (List.getD L (Int.toNat i) LT.none)) (4:Int)) (brP (ieq (Int.ofNat (List.length (LT.kids (List.getD L (Int.toNat i) LT.none)))) (0:Int)) (true=true∧(0:Int)=barr (ofT L x.M i)) (sdA (inB (0:Int) (List.length (LT.kids (List.getD L (Int.toNat i) LT.none)))) (TyM_runOf1_k0 L x i))) (brP (ieq (LT.kind (List.getD L (Int.toNat i) LT.none)) (5:Int)) (brP (bif decide (LT.text (List.getD L (Int.toNat i) LT.none)=[(105:UInt8),(110:UInt8),(116:UInt8)]) then true else bif decide (LT.text (List.getD L (Int.toNat i) LT.none)=[(102:UInt8),(110:UInt8)]) then true else bif decide (LT.text (List.getD L (Int.toNat i) LT.none)=[(116:UInt8),(111:UInt8),(107:UInt8)]) then true else bif decide (LT.text (List.getD L (Int.toNat i) LT.none)=[(104:UInt8),(97:UInt8),(110:UInt8),(100:UInt8)]) then true else bif decide (LT.text (List.getD L (Int.toNat i) LT.none)=[(97:UInt8),(114:UInt8),(114:UInt8)]) then true else false) (true=true∧(bif decide (LT.text (List.getD L (Int.toNat i) LT.none)=[(105:UInt8),(110:UInt8),(116:UInt8)]) then (1:Int) else bif decide (LT.text (List.getD L (Int.toNat i) LT.none)=[(102:UInt8),(110:UInt8)]) then (2:Int) else bif decide (LT.text (List.getD L (Int.toNat i) LT.none)=[(116:UInt8),(111:UInt8),(107:UInt8)]) then (3:Int) else bif decide (LT.text (List.getD L (Int.toNat i) LT.none)=[(104:UInt8),(97:UInt8),(110:UInt8),(100:UInt8)]) then (4:Int) else bif decide (LT.text (List.getD L (Int.toNat i) LT.none)=[(97:UInt8),(114:UInt8),(114:UInt8)]) then (5:Int) else (0:Int))=barr (ofT L x.M i)) (sdA (inB i x.M.length) (sdA (inR .i64 (Int.negSucc 0 - Prod.snd (List.getD x.M (Int.toNat i) ((0:Int),(0:Int))))) (true=true∧Int.negSucc 0 - Prod.snd (List.getD x.M (Int.toNat i) ((0:Int),(0:Int)))=barr (ofT L x.M i))))) (true=true∧(0:Int)=barr (ofT L x.M i))))))))
:= by
 intro L x i hM hG
 have hG:Good L:=hG
 have hML:MOK L x.M:=hM
 have hml:=hML.mlen
 have hlen:=hML.len
 simp only [barr_eq,bar_eq,true_and,and_true,eq_self,implies_true,Nat.le_eq,cond_tf,cond_cf,nif_tf,Int.toNat_natCast,Int.ofNat_eq_natCast,Nat.ble_eq,Nat.ble_self_eq_true,Bool.true_and,Bool.and_true,Bool.and_self,Option.some.injEq,AV.int.injEq,rowB_self,allBR_self,Nat.mul_one,Nat.beq_refl,allI_true,cond_true,cond_false,ieq_self,Bool.not_true,Bool.not_false,decide_true,brP_f,brP_t,sdA_t,bytesL_packL,List.nil_append,TyM_runOf1_k0]
 simp only [rowTs_rowT,rowMs_rM]
 refine brP_of (fun h1=>?_) fun h1=>brP_of (fun h2=>?_) fun h2=>?_
 ·rw [ilt_iff] at h1
  rw [ofT_out (.inl h1)]
 ·rw [Bool.not_eq_true',ilt_iffn] at h2
  rw [ofT_out (.inr (by omega))]
 rw [ilt_iffn] at h1
 rw [Bool.not_eq_false',ilt_iff] at h2
 obtain ⟨j,rfl⟩:∃ j:Nat,i=j:=⟨i.toNat,by omega⟩
 simp only [Int.toNat_natCast]
 have hj:j < L.length:=by omega
 have hn:=hML.n j hj
 have hkid:∀ (hk:tells (L.getD j LT.none).kind),(∃ (L_1:List LT) (x_1:LN),L.length=L_1.length∧rowT L=rowT L_1∧x.M.length=x_1.M.length∧rM x.M=rM x_1.M∧[vI x.O,vI x.Lo,vI x.C,vI x.G,vI x.Co,vI x.E,AV.vec 4 x.Fs.length (rFn x.Fs),AV.int IntKind.i64 x.main]=x_1.rest∧MOK L_1 x_1.M∧(((L.getD j LT.none).kids.getD 0 0 - 0).NonNeg→((L_1.length:Int) - ((L.getD j LT.none).kids.getD 0 0 + 1)).NonNeg→kindOf L_1 ((L.getD j LT.none).kids.getD 0 0)=13∨kindOf L_1 ((L.getD j LT.none).kids.getD 0 0)=6∨kindOf L_1 ((L.getD j LT.none).kids.getD 0 0)=4→False))∧ofL L x.M ((L.getD j LT.none).kids.getD 0 0)=ofT L x.M j:=fun hk=>by
  obtain ⟨g1,g2,g3,g4⟩:=kid_ty hG hj hk
  refine ⟨⟨L,x,rfl,rfl,rfl,rfl,rfl,hML,fun _ _ h=>?_⟩,(ofT_kid hj hk).symm⟩
  rw [g4] at h;omega
 have hkl:∀ (hk:tells (L.getD j LT.none).kind),0 < (L.getD j LT.none).kids.length:=fun hk=>(kid_ty hG hj hk).1
 have hway:∀ (hk:tells (L.getD j LT.none).kind),brP (ieq ((L.getD j LT.none).kids.length:Int) 0) (0=ofT L x.M j) (sdA (inB 0 (L.getD j LT.none).kids.length) _):=fun hk=>brP_of (fun h=>by have:=hkl hk;rw [ieq_iff] at h;omega) fun h=>sdA_of (inB_iff.2 (by have:=hkl hk;omega)) (hkid hk)
 refine sdA_of (inB_iff.2 (by omega)) (brP_of (fun h=>hway (.inl (ieq_iff.1 h))) fun h13=>brP_of (fun h=>hway (.inr (.inl (ieq_iff.1 h)))) fun h6=>brP_of (fun h=>hway (.inr (.inr (ieq_iff.1 h)))) fun h4=>?_)
 rw [ieq_iffn] at h13 h6 h4
 have hnt:¬ tells (L.getD j LT.none).kind:=fun h=>by
  rcases h with h | h | h
  ·exact h13 h
  ·exact h6 h
  ·exact h4 h
 refine brP_of (fun h5=>?_) fun h5=>?_
 ·rw [ieq_iff] at h5
  rw [ofT_leaf hnt,ofL_in hj h5]
  exact ty_map fun e=>sdA_of (inB_iff.2 (by omega)) (sdA_of (inR_i64.2 (by omega)) (by rw [e];rfl))
 ·rw [ieq_iffn] at h5
  rw [ofT_leaf hnt,ofL_no h5]
theorem runOf1:∀ (L:List LT) (x:LN) (i:Int),MOK L x.M→Good L→(cRun cxOf1 60).call 20 [tree L,.agg x.row,.int .i64 i] .leaf 0 (ResM Try.prog false (.int .i64 (barr (ofT L x.M i)))) :=
 Eq.mpr (by kernel_rfl) runOf1_r
end Go.Proofs.Ythallodoidghoaa
