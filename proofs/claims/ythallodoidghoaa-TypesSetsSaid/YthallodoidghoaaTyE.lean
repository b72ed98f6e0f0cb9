/- Laid by program out of its parts: TyE. -/
import Derived.Test.YthallodoidghoaaTyD
set_option linter.unusedVariables false
set_option linter.unusedSimpArgs false
set_option maxRecDepth 100000
open Go Go.Ev
namespace Go.Proofs.Ythallodoidghoaa
def mayT (L:List LT):Bool:=decide (0 < L.length) && (decide ((L.getD 0 LT.none).kind=1) && decide (goF L 0 0=L.length))
noncomputable def eMay:Tr AObj→List AV→Option Ct:=fun _ args=>match args with
 | [.agg [.vec 6 n f]]=>some (.need (∃ L:List LT,n=L.length∧f=rowT L∧LSmall L) (.ret (.bool (bar (mayT (rowTs n f))))))
 | _=>none
def kindOf (L:List LT) (c:Int):Int:=(L.getD c.toNat LT.none).kind
structure Good (L:List LT):Prop where
 pos:0 < L.length
 root:(L.getD 0 LT.none).kind=1
 kid:∀ i,i < L.length→∀ c∈(L.getD i LT.none).kids,(i:Int) < c∧c < L.length
 head:∀ i,i < L.length→headT (L.getD i LT.none)=true
 kinds:∀ i,i < L.length→kidsM (lettersL (L.getD i LT.none).kind) ((L.getD i LT.none).kids.map (kindOf L))=true
 klen:∀ i,i < L.length→(L.getD i LT.none).kids.length≤L.length
 cov:∀ x,0 < x→x < L.length→∃ i,i < x∧(x:Int)∈(L.getD i LT.none).kids
def opensB (k:Int):Bool:=decide (k=7∨k=9∨k=10∨k=11∨k=36)
def namedB (k:Int):Bool:=decide (k=2∨k=3∨k=6∨k=7∨k=8∨k=10)
noncomputable def oneI64 (f:Int→Bool):Tr AObj→List AV→Option Ct:=fun _ args=>match args with
 | [.int .i64 z]=>some (.need True (.ret (.bool (bar (f z)))))
 | _=>none
def countN (L:List LT) (k:Int):Nat→Nat
 | 0=>0
 | n + 1=>countN L k n + if (L.getD n LT.none).kind=k then 1 else 0
noncomputable def eCount:Tr AObj→List AV→Option Ct:=fun _ args=>match args with
 | [.agg [.vec 6 n f],.int .i64 k,.int .i64 a]=>some (.need (∃ L:List LT,n=L.length∧f=rowT L∧L.length≤1000000∧0≤a∧a≤L.length) (.ret (.int .i64 (barr (countN (rowTs n f) k a.toNat:Nat)))))
 | _=>none
noncomputable def SCount (L:List LT) (k:Int):Stn:=thin Nat [0,1,2,3] (fun i=>[(7,.int .i64 (countN L k i)),(8,.int .i64 i)]) (fun s i=>i≤L.length∧∀ a,s.T.get 2=some (.int .i64 a)→i≤a.toNat) fun i=>L.length - i
noncomputable def rDecl:REnt:=fun _ args=>match args with
 | [.agg [.vec 6 n f],.bs s]=>some ⟨Int,∃ L:List LT,n=L.length∧f=rowT L∧L.length≤1000000,fun d=>d = -1∨0≤d∧d < n,fun d=>.int .i64 d⟩
 | _=>none
noncomputable def SDecl (L:List LT):Stn:=thin Nat [0,1,2] (fun i=>[(5,.int .i64 i)]) (fun _ i=>i≤L.length) fun i=>L.length - i
structure UpsOK (L:List LT) (U:List Int):Prop where
 len:U.length=L.length
 zero:U.getD 0 0 = -1
 lo:∀ x,0 < x→x < L.length→0≤U.getD x 0∧U.getD x 0 < x
 up:∀ x,0 < x→x < L.length→(x:Int)∈(L.getD (U.getD x 0).toNat LT.none).kids
noncomputable def rUps:REnt:=fun _ args=>match args with
 | [.agg [.vec 6 n f]]=>some ⟨List Int,(∃ L:List LT,n=L.length∧f=rowT L∧L.length≤1000000∧Good L),fun U=>∀ L:List LT,n=L.length→f=rowT L→UpsOK L U,fun U=>.vec 1 U.length (rI U)⟩
 | _=>none
structure UI (L:List LT) (i k:Nat) (U:List Int):Prop where
 le:i≤L.length
 len:U.length=L.length
 zero:U.getD 0 0 = -1
 lo:∀ x,0 < x→x < L.length→0≤U.getD x 0∧U.getD x 0 < x
 up:∀ x,0 < x→x < L.length→(∃ j,j < i∧(x:Int)∈(L.getD j LT.none).kids)∨(∃ q,q < k∧(L.getD i LT.none).kids.getD q 0=x)→(x:Int)∈(L.getD (U.getD x 0).toNat LT.none).kids
noncomputable def keepIds (s:St) (l:List Nat):List (Nat×AObj):=List.rec (motive:=fun _=>List (Nat×AObj)) [] (fun t _ ih=>Option.rec (motive:=fun _=>List (Nat×AObj)) ih (fun v=>(t,v) :: ih) (s.H.get t)) l
def upRow (U:List Int):AObj:=.cells 3 .leaf (.rows 1 (rI U)) U.length true
noncomputable def SUo (L:List LT):Stn:={ X:=Nat×List Int,T:=fun s _ x=>(3,.slg 1 x.2.length 1) :: (4,.int .i64 x.1) :: keepT s [0,1],H:=fun s n0 x=>(1,upRow x.2) :: keepIds s [0],nx:=fun s _=>s.nx,I:=fun _ x=>UI L x.1 0 x.2,m:=fun x=>L.length - x.1 }
noncomputable def SUi (L:List LT):Stn:={ X:=Nat×Nat×List Int,T:=fun s _ x=>(3,.slg 1 x.2.2.length 1) :: (5,.int .i64 x.2.1) :: keepT s [0,1,4],H:=fun s n0 x=>(1,upRow x.2.2) :: keepIds s [0],nx:=fun s _=>s.nx,I:=fun s x=>(∀ a,s.T.get 4=some (.int .i64 a)→a=x.1)∧x.1 < L.length∧x.2.1≤(L.getD x.1 LT.none).kids.length∧UI L x.1 x.2.1 x.2.2,m:=fun x=>(L.getD x.1 LT.none).kids.length - x.2.1 }
noncomputable def cxU (L:List LT):Ctx:={ P:=Try.prog,tb:=[],lp:=fun f r=>cond (Nat.beq f 12) (cond (Nat.beq r 5) (some (SUo L)) (cond (Nat.beq r 8) (some (SUi L)) none)) none,cut:=fun _ _=>none }
noncomputable def ResR {X:Type} (Q:X→Prop) (v:X→AV) (r:CR):Prop:=∃ x,Q x∧ResM Try.prog false (v x) r
theorem runMay_r:∀ (L:List LT),LSmall L→brP (ilt (0:Int) (Int.ofNat L.length)) (sdA (inB (0:Int) L.length) (brP (ieq (LT.kind (List.getD L 0 LT.none)) (1:Int)) ((∃ (L_1:List LT),L.length=L_1.length∧rowT L=rowT L_1∧LSmall L_1∧Int.NonNeg (0:Int)∧Nat.le (Nat.succ (L_1.length - 0)) (L.length + 1)∧Int.NonNeg (0:Int)∧Int.NonNeg (1000:Int))∧(((AV.int .i64 (Int.ofNat L.length)=AV.int .i64 (Int.ofNat L.length)∧AV.vec 6 L.length (rowT L)=AV.vec 6 L.length (rowT L)∧True∧True∧True∧True∧True∧True)∧True)∧((True∧True∧True∧True∧True∧True∧True∧True)∧True)∧True)∧ieq (barr (↑(goF (rowTs L.length (rowT L)) 0 (0:Int)):Int)) (Int.ofNat L.length)=mayT L) ((((True∧True∧True∧True∧True)∧True)∧True)∧false=mayT L))) ((((True∧True∧True)∧True)∧True)∧false=mayT L)
:= by
 intro L hL
 simp only [barr_eq,bar_eq,true_and,and_true,eq_self,implies_true,Nat.le_eq,cond_tf,cond_cf,nif_tf,Int.toNat_natCast,Int.ofNat_eq_natCast,Nat.ble_eq,Nat.ble_self_eq_true,Bool.true_and,Bool.and_true,Bool.and_self,Option.some.injEq,AV.int.injEq,rowB_self,allBR_self,Nat.mul_one,Nat.beq_refl,allI_true,cond_true,cond_false,ieq_self,Bool.not_true,Bool.not_false,decide_true,brP_f,brP_t,sdA_t,bytesL_packL,List.nil_append]
 simp only [rowTs_rowT]
 unfold mayT
 refine brP_of (fun h=>sdA_of (inB_iff.2 (by rw [ilt_iff] at h;omega)) (brP_of (fun h1=>⟨⟨L,rfl,rfl,hL,(show (0:Int)≤0 by omega),(show L.length - 0 < L.length + 1 by omega),(show (0:Int)≤0 by omega),(show (0:Int)≤1000 by omega)⟩,?_⟩) fun h1=>?_)) fun h=>?_
 ·rw [ilt_iff] at h
  rw [ieq_iff] at h1
  rw [decide_eq_true (show 0 < L.length by omega),decide_eq_true h1,ieq_eq,Bool.true_and,Bool.true_and]
  apply decide_eq_decide.2
  omega
 ·rw [ieq_iffn] at h1
  rw [decide_eq_false h1];simp
 ·rw [ilt_iffn] at h
  rw [decide_eq_false (by omega)];simp
theorem runMay:∀ (L:List LT),LSmall L→(cRun (cxA [(26,eGoN (L.length + 1))]) 60).call 10 [tree L] .leaf 0 (ResM Try.prog false (.bool (mayT L))) :=
 Eq.mpr (by kernel_rfl) runMay_r
theorem runOpens_r:∀ (k:Int),brP (ieq k (7:Int)) (true=opensB k) (brP (ieq k (9:Int)) (true=opensB k) (brP (ieq k (10:Int)) (true=opensB k) (brP (ieq k (11:Int)) (true=opensB k) (ieq k (36:Int)=opensB k))))
:= by
 intro k
 simp only [brP_iff,ieq_eq,ilt_eq,Bool.not_eq_true',Bool.not_eq_false',decide_eq_true_eq,decide_eq_false_iff_not]
 unfold opensB
 grind
theorem runOpens:∀ (k:Int),(cRun cx0 60).call 30 [.int .i64 k] .leaf 0 (ResM Try.prog false (.bool (opensB k))) :=
 Eq.mpr (by kernel_rfl) runOpens_r
theorem runNamed_r:∀ (k:Int),brP (ieq k (2:Int)) (true=namedB k) (brP (ieq k (3:Int)) (true=namedB k) (brP (ieq k (6:Int)) (true=namedB k) (brP (ieq k (7:Int)) (true=namedB k) (brP (ieq k (8:Int)) (true=namedB k) (ieq k (10:Int)=namedB k)))))
:= by
 intro k
 simp only [brP_iff,ieq_eq,ilt_eq,Bool.not_eq_true',Bool.not_eq_false',decide_eq_true_eq,decide_eq_false_iff_not]
 unfold namedB
 grind
theorem runNamed:∀ (k:Int),(cRun cx0 60).call 27 [.int .i64 k] .leaf 0 (ResM Try.prog false (.bool (namedB k))) :=
 Eq.mpr (by kernel_rfl) runNamed_r
@[reducible] def TyE_runCount_k0:List LT→Prop:=fun (L:List LT)=>true=true∧L.length=L.length∧AllI fun (i:Nat)=>Nat.le (Nat.succ i) L.length→(true=true∧LT.kind (List.getD L i LT.none)=LT.kind (List.getD L i LT.none))∧LT.text (List.getD L i LT.none)=LT.text (List.getD L i LT.none)∧(true=true∧LT.n (List.getD L i LT.none)=LT.n (List.getD L i LT.none))∧(true=true∧LT.line (List.getD L i LT.none)=LT.line (List.getD L i LT.none))∧(true=true∧LT.col (List.getD L i LT.none)=LT.col (List.getD L i LT.none))∧(true=true∧List.length (LT.kids (List.getD L i LT.none))=List.length (LT.kids (List.getD L i LT.none))∧AllI fun (i_1:Nat)=>Nat.le (Nat.succ i_1) (List.length (LT.kids (List.getD L i LT.none)))→(true=true∧List.getD (LT.kids (List.getD L i LT.none)) i_1 (0:Int)=List.getD (LT.kids (List.getD L i LT.none)) i_1 (0:Int))∧True)∧True
@[reducible] def TyE_runCount_k1:List LT→Prop:=fun (L:List LT)=>(true=true∧true=true∧true=true∧true=true∧True∧TyE_runCount_k0 L)∧True
@[reducible] def TyE_runCount_k2:List LT→Int→Nat→Prop:=fun (L:List LT) (k:Int) (a:Nat)=>(TyE_runCount_k0 L∧True)∧(true=true∧k=k)∧(true=true∧(↑a:Int)=(↑a:Int))∧(some 0=some 0∧true=true)∧True
@[reducible] def TyE_runCount_k3:List LT→Int→Nat→Nat→Nat→Prop:=fun (L:List LT) (k:Int) (a a_1 a_2:Nat)=>(true=true∧(↑a_1:Int) + 1=(↑a_2:Int))∧TyE_runCount_k2 L k a
theorem runCount_r:∀ (L:List LT) (k:Int) (a:Nat),Nat.le L.length 1000000→Nat.le a L.length→(∃ (x0:Nat),(Nat.le x0 L.length∧∀ (a_3:Int),some (AV.int .i64 (↑a:Int))=some (AV.int .i64 a_3)→Nat.le x0 (Int.toNat a_3))∧true=true∧((true=true∧(0:Int)=(↑(countN L k x0):Int))∧(true=true∧(0:Int)=(↑x0:Int))∧TyE_runCount_k2 L k a)∧TyE_runCount_k1 L)∧∀ (x:Nat),(Nat.le x L.length∧∀ (a_3:Int),some (AV.int .i64 (↑a:Int))=some (AV.int .i64 a_3)→Nat.le x (Int.toNat a_3))→brP (ilt (↑x:Int) (↑a:Int)) (sdA (inB (↑x:Int) L.length) (brP (ieq (LT.kind (List.getD L (Int.toNat (↑x:Int)) LT.none)) k) (sdA (inR .i64 ((↑(countN L k x):Int) + 1)) (sdA (inR .i64 ((↑x:Int) + 1)) (∃ (x':Nat),(Nat.le x' L.length∧∀ (a_4:Int),some (AV.int .i64 (↑a:Int))=some (AV.int .i64 a_4)→Nat.le x' (Int.toNat a_4))∧Nat.le (Nat.succ (L.length - x')) (L.length - x)∧true=true∧((true=true∧(↑(countN L k x):Int) + 1=(↑(countN L k x'):Int))∧TyE_runCount_k3 L k a x x')∧TyE_runCount_k1 L))) (sdA (inR .i64 ((↑x:Int) + 1)) (∃ (x':Nat),(Nat.le x' L.length∧∀ (a_4:Int),some (AV.int .i64 (↑a:Int))=some (AV.int .i64 a_4)→Nat.le x' (Int.toNat a_4))∧Nat.le (Nat.succ (L.length - x')) (L.length - x)∧true=true∧((true=true∧(↑(countN L k x):Int)=(↑(countN L k x'):Int))∧TyE_runCount_k3 L k a x x')∧TyE_runCount_k1 L)))) (true=true∧(↑(countN L k x):Int)=(↑(countN L k a):Int))
:= by
 intro L k a hL ha
 have hL:L.length≤1000000:=hL
 have ha:a≤L.length:=ha
 have hc:∀ n,countN L k n≤n:=fun n=>by
  induction n with
  | zero=>exact Nat.le_refl _
  | succ n ih=>unfold countN;split <;> omega
 simp only [barr_eq,bar_eq,true_and,and_true,eq_self,implies_true,Nat.le_eq,cond_tf,cond_cf,nif_tf,Int.toNat_natCast,Int.ofNat_eq_natCast,Nat.ble_eq,Nat.ble_self_eq_true,Bool.true_and,Bool.and_true,Bool.and_self,Option.some.injEq,AV.int.injEq,rowB_self,allBR_self,Nat.mul_one,Nat.beq_refl,allI_true,cond_true,cond_false,ieq_self,Bool.not_true,Bool.not_false,decide_true,brP_f,brP_t,sdA_t,bytesL_packL,List.nil_append,TyE_runCount_k0,TyE_runCount_k1,TyE_runCount_k2,TyE_runCount_k3]
 refine ⟨⟨0,⟨Nat.zero_le _,fun _ _=>Nat.zero_le _⟩,rfl,rfl⟩,fun x hx=>brP_of (fun h=>?_) fun h=>?_⟩
 ·rw [ilt_iff] at h
  have hcx:=hc x
  refine sdA_of (inB_iff.2 (by omega)) (brP_of (fun h1=>sdA_of (inR_i64.2 (by omega)) (sdA_of (inR_i64.2 (by omega)) ⟨x + 1,⟨by omega,fun b hb=>by omega⟩,by omega,?_,by omega⟩)) fun h1=>sdA_of (inR_i64.2 (by omega)) ⟨x + 1,⟨by omega,fun b hb=>by omega⟩,by omega,?_,by omega⟩)
  ·rw [ieq_iff] at h1
   rw [countN,if_pos h1];omega
  ·rw [ieq_iffn] at h1
   rw [countN,if_neg h1];omega
 ·rw [ilt_iffn] at h
  have:=hx.2 _ rfl
  obtain rfl:x=a:=by omega
  rfl
theorem runCount:∀ (L:List LT) (k:Int) (a:Nat),L.length≤1000000→a≤L.length→(cRun (cx1 [] 11 3 (SCount L k)) 60).call 11 [tree L,.int .i64 k,.int .i64 a] .leaf 0 (ResM Try.prog false (.int .i64 (countN L k a))) :=
 Eq.mpr (by kernel_rfl) runCount_r
@[reducible] def TyE_runDecl_k0:List LT→Prop:=fun (L:List LT)=>true=true∧L.length=L.length∧AllI fun (i:Nat)=>Nat.le (Nat.succ i) L.length→(true=true∧LT.kind (List.getD L i LT.none)=LT.kind (List.getD L i LT.none))∧LT.text (List.getD L i LT.none)=LT.text (List.getD L i LT.none)∧(true=true∧LT.n (List.getD L i LT.none)=LT.n (List.getD L i LT.none))∧(true=true∧LT.line (List.getD L i LT.none)=LT.line (List.getD L i LT.none))∧(true=true∧LT.col (List.getD L i LT.none)=LT.col (List.getD L i LT.none))∧(true=true∧List.length (LT.kids (List.getD L i LT.none))=List.length (LT.kids (List.getD L i LT.none))∧AllI fun (i_1:Nat)=>Nat.le (Nat.succ i_1) (List.length (LT.kids (List.getD L i LT.none)))→(true=true∧List.getD (LT.kids (List.getD L i LT.none)) i_1 (0:Int)=List.getD (LT.kids (List.getD L i LT.none)) i_1 (0:Int))∧True)∧True
@[reducible] def TyE_runDecl_k1:List LT→Prop:=fun (L:List LT)=>(true=true∧true=true∧true=true∧true=true∧True∧TyE_runDecl_k0 L)∧True
@[reducible] def TyE_runDecl_k2:List LT→List UInt8→Prop:=fun (L:List LT) (s:List UInt8)=>(TyE_runDecl_k0 L∧True)∧s=s∧(some 0=some 0∧true=true)∧True
@[reducible] def TyE_runDecl_k3:List LT→List UInt8→Nat→Nat→Prop:=fun (L:List LT) (s:List UInt8) (a a_1:Nat)=>Nat.le a_1 L.length∧Nat.le (Nat.succ (L.length - a_1)) (L.length - a)∧true=true∧((true=true∧(↑a:Int) + 1=(↑a_1:Int))∧TyE_runDecl_k2 L s)∧TyE_runDecl_k1 L
theorem runDecl_r:∀ (L:List LT) (s:List UInt8),Nat.le L.length 1000000→(∃ (x0:Nat),Nat.le x0 L.length∧true=true∧((true=true∧(0:Int)=(↑x0:Int))∧TyE_runDecl_k2 L s)∧TyE_runDecl_k1 L)∧∀ (x:Nat),Nat.le x L.length→brP (ilt (↑x:Int) (Int.ofNat L.length)) (sdA (inB (↑x:Int) L.length) (True∧brP (bar (namedB (LT.kind (List.getD L (Int.toNat (↑x:Int)) LT.none)))) (sdA (inB (↑x:Int) L.length) (brP (decide (LT.text (List.getD L (Int.toNat (↑x:Int)) LT.none)=s)) (∃ (x_1:Int),(x_1=Int.negSucc 0∨(0:Int)≤x_1∧x_1 < (↑L.length:Int))∧true=true∧(↑x:Int)=x_1) (sdA (inR .i64 ((↑x:Int) + 1)) (∃ (x':Nat),TyE_runDecl_k3 L s x x')))) (sdA (inR .i64 ((↑x:Int) + 1)) (∃ (x':Nat),TyE_runDecl_k3 L s x x')))) (∃ (x:Int),(x=Int.negSucc 0∨(0:Int)≤x∧x < (↑L.length:Int))∧true=true∧Int.negSucc 0=x)
:= by
 intro L s hL
 have hL:L.length≤1000000:=hL
 simp only [barr_eq,bar_eq,true_and,and_true,eq_self,implies_true,Nat.le_eq,cond_tf,cond_cf,nif_tf,Int.toNat_natCast,Int.ofNat_eq_natCast,Nat.ble_eq,Nat.ble_self_eq_true,Bool.true_and,Bool.and_true,Bool.and_self,Option.some.injEq,AV.int.injEq,rowB_self,allBR_self,Nat.mul_one,Nat.beq_refl,allI_true,cond_true,cond_false,ieq_self,Bool.not_true,Bool.not_false,decide_true,brP_f,brP_t,sdA_t,bytesL_packL,List.nil_append,TyE_runDecl_k0,TyE_runDecl_k1,TyE_runDecl_k2,TyE_runDecl_k3]
 refine ⟨⟨0,Nat.zero_le _,rfl⟩,fun x hx=>brP_of (fun h=>?_) fun h=>⟨-1,.inl rfl,rfl⟩⟩
 rw [ilt_iff] at h
 have hB:inB (x:Int) L.length=true:=inB_iff.2 (by omega)
 have hR:inR .i64 ((x:Int) + 1)=true:=inR_i64.2 (by omega)
 have hS:∃ x',x'≤L.length∧(L.length - x').succ≤L.length - x∧(x:Int) + 1=(x':Int):=⟨x + 1,by omega,by omega,by omega⟩
 exact sdA_of hB (brP_of (fun h1=>sdA_of hB (brP_of (fun h2=>⟨(x:Int),.inr (by omega),rfl⟩) fun h2=>sdA_of hR hS)) fun h1=>sdA_of hR hS)
theorem runDecl:∀ (L:List LT) (s:List UInt8),L.length≤1000000→(cRun (cx1 [(27,oneI64 namedB)] 28 2 (SDecl L)) 60).call 28 [tree L,.bs s] .leaf 0 (ResR (fun d:Int=>d = -1∨0≤d∧d < L.length) fun d=>.int .i64 d) :=
 Eq.mpr (by kernel_rfl) runDecl_r
theorem getD_memI {l:List Int} {k:Nat} (h:k < l.length):l.getD k 0∈l:=by
 rw [List.getD_eq_getElem?_getD,List.getElem?_eq_getElem h]
 exact List.getElem_mem _
theorem upd_rI (U:List Int) (c:Nat) (z:Int) (h:c < U.length) (j:Nat):updRow (rI U) c 0 [AV.int .i64 z] j=rI (U.set c z) j:=by
 unfold updRow rI
 cases hb:Nat.beq j c with
 | true =>
  have:=Nat.eq_of_beq_eq_true hb
  subst this
  simp [splice,h,List.getD_eq_getElem?_getD]
 | false =>
  have hne:c≠j:=fun e=>by subst e;simp at hb
  simp [List.getD_eq_getElem?_getD,List.getElem?_set_ne hne]
theorem set_getD (U:List Int) (c:Nat) (z:Int) (h:c < U.length) (j:Nat):(U.set c z).getD j 0=if j=c then z else U.getD j 0:=by
 by_cases e:j=c
 ·subst e
  rw [if_pos rfl];simp [List.getD_eq_getElem?_getD,h]
 ·rw [if_neg e]
  simp [List.getD_eq_getElem?_getD,List.getElem?_set_ne (Ne.symm e)]
theorem UI.store {L:List LT} {i k:Nat} {U:List Int} (h:UI L i k U) (hi:i < L.length) (hk:k < (L.getD i LT.none).kids.length) (h1:(i:Int) < (L.getD i LT.none).kids.getD k 0) (h2:(L.getD i LT.none).kids.getD k 0 < L.length) :
  UI L i (k + 1) (U.set ((L.getD i LT.none).kids.getD k 0).toNat i):=by
 obtain ⟨c,hc⟩:∃ c:Nat,(L.getD i LT.none).kids.getD k 0=c:=⟨((L.getD i LT.none).kids.getD k 0).toNat,by omega⟩
 have hmem:(c:Int)∈(L.getD i LT.none).kids:=by
  rw [← hc];exact getD_memI hk
 rw [hc] at h1 h2 ⊢
 rw [Int.toNat_natCast]
 have hlen:=h.len
 have hcl:c < U.length:=by omega
 refine ⟨h.le,by simpa using hlen,?_,fun x hx hxl=>?_,fun x hx hxl ha=>?_⟩
 ·rw [set_getD _ _ _ hcl,if_neg (by omega)];exact h.zero
 ·rw [set_getD _ _ _ hcl]
  split
  ·omega
  ·exact h.lo x hx hxl
 ·rw [set_getD _ _ _ hcl]
  split
  ·rename_i e
   subst e
   rw [Int.toNat_natCast];exact hmem
  ·rename_i e
   refine h.up x hx hxl ?_
   rcases ha with ha | ⟨q,hq,hqe⟩
   ·exact .inl ha
   ·rcases Nat.lt_or_ge q k with h3 | h3
    ·exact .inr ⟨q,h3,hqe⟩
    ·obtain rfl:q=k:=by omega
     rw [hc] at hqe
     exact absurd (by omega) e
theorem UI.next {L:List LT} {i k:Nat} {U:List Int} (h:UI L i k U) (hi:i < L.length) (hk:(L.getD i LT.none).kids.length≤k):UI L (i + 1) 0 U :=
 ⟨hi,h.len,h.zero,h.lo,fun x hx hxl ha=>h.up x hx hxl (by
  rcases ha with ⟨j,hj,hm⟩ | ⟨q,hq,_⟩
  ·rcases Nat.lt_or_ge j i with h3 | h3
   ·exact .inl ⟨j,h3,hm⟩
   ·obtain rfl:j=i:=by omega
    obtain ⟨q,hq,hqe⟩:=List.getElem_of_mem hm
    exact .inr ⟨q,by omega,by rw [List.getD_eq_getElem?_getD,List.getElem?_eq_getElem hq];exact hqe⟩
  ·omega)⟩
theorem UI.done {L:List LT} {i:Nat} {U:List Int} (h:UI L i 0 U) (hi:L.length≤i) (hG:Good L):UpsOK L U :=
 ⟨h.len,h.zero,h.lo,fun x hx hxl=>h.up x hx hxl (by
  obtain ⟨j,hj,hm⟩:=hG.cov x hx hxl
  exact .inl ⟨j,by omega,hm⟩)⟩
@[reducible] def TyE_runUps_k0:List LT→Nat×List Int→Nat×Nat×List Int→Prop:=fun (L:List LT) (a:Nat×List Int) (a_1:Nat×Nat×List Int)=>(∀ (a_2:Int),some (AV.int .i64 (↑a.1:Int))=some (AV.int .i64 a_2)→a_2=(↑a_1.1:Int))∧Nat.le (Nat.succ a_1.1) L.length∧Nat.le (a_1.2.1) (List.length (LT.kids (List.getD L a_1.1 LT.none)))∧UI L a_1.1 (a_1.2.1) (a_1.2.2)
@[reducible] def TyE_runUps_k1:List LT→Nat×List Int→List Int→Prop:=fun (L:List LT) (a:Nat×List Int) (a_1:List Int)=>UpsOK L a_1∧sdA (bif Nat.ble (a.2.length * 1) a.2.length then goodR 1 a.2.length (rI a.2) else false) (true=true∧a.2.length=a_1.length∧AllI fun (i:Nat)=>Nat.le (Nat.succ i) a.2.length→(true=true∧List.getD a.2 i (0:Int)=List.getD a_1 i (0:Int))∧True)
@[reducible] def TyE_runUps_k2:List LT→Prop:=fun (L:List LT)=>true=true∧L.length=L.length∧AllI fun (i:Nat)=>Nat.le (Nat.succ i) L.length→(true=true∧LT.kind (List.getD L i LT.none)=LT.kind (List.getD L i LT.none))∧LT.text (List.getD L i LT.none)=LT.text (List.getD L i LT.none)∧(true=true∧LT.n (List.getD L i LT.none)=LT.n (List.getD L i LT.none))∧(true=true∧LT.line (List.getD L i LT.none)=LT.line (List.getD L i LT.none))∧(true=true∧LT.col (List.getD L i LT.none)=LT.col (List.getD L i LT.none))∧(true=true∧List.length (LT.kids (List.getD L i LT.none))=List.length (LT.kids (List.getD L i LT.none))∧AllI fun (i_1:Nat)=>Nat.le (Nat.succ i_1) (List.length (LT.kids (List.getD L i LT.none)))→(true=true∧List.getD (LT.kids (List.getD L i LT.none)) i_1 (0:Int)=List.getD (LT.kids (List.getD L i LT.none)) i_1 (0:Int))∧True)∧True
@[reducible] def TyE_runUps_k3:List LT→Prop:=fun (L:List LT)=>TyE_runUps_k2 L∧True
@[reducible] def TyE_runUps_k4:List LT→Prop:=fun (L:List LT)=>(true=true∧true=true∧true=true∧true=true∧True∧TyE_runUps_k2 L)∧True
@[reducible] def TyE_runUps_k5:List LT→Prop:=fun (L:List LT)=>TyE_runUps_k3 L∧(some 0=some 0∧true=true)∧True
@[reducible] def TyE_runUps_k6:List LT→Nat×List Int→Prop:=fun (L:List LT) (a:Nat×List Int)=>TyE_runUps_k3 L∧(some 0=some 0∧true=true)∧(true=true∧(↑a.1:Int)=(↑a.1:Int))∧True
@[reducible] def TyE_runUps_k7:List LT→Nat×List Int→Prop:=fun (L:List LT) (a:Nat×List Int)=>(some 1=some 1∧Int.toNat (Int.ofNat L.length)=a.2.length∧true=true)∧(true=true∧(0:Int)=(↑a.1:Int))∧TyE_runUps_k5 L
@[reducible] def TyE_runUps_k8:List LT→Nat×List Int→Prop:=fun (L:List LT) (a:Nat×List Int)=>(∃ (x0:Nat×Nat×List Int),TyE_runUps_k0 L a x0∧true=true∧((some 1=some 1∧a.2.length=x0.2.2.length∧true=true)∧(true=true∧(0:Int)=(↑x0.2.1:Int))∧TyE_runUps_k6 L a)∧(true=true∧true=true∧true=true∧true=true∧a.2.length=x0.2.2.length∧AllI fun (i:Nat)=>Nat.le (Nat.succ (i * 1)) a.2.length→(true=true∧List.getD a.2 i (0:Int)=List.getD x0.2.2 i (0:Int))∧True)∧TyE_runUps_k4 L)∧∀ (x:Nat×Nat×List Int),TyE_runUps_k0 L a x→sdA (inB (↑a.1:Int) L.length) (brP (ilt (↑x.2.1:Int) (Int.ofNat (List.length (LT.kids (List.getD L (Int.toNat (↑a.1:Int)) LT.none))))) (sdA (inB (↑a.1:Int) L.length) (sdA (inB (↑x.2.1:Int) (List.length (LT.kids (List.getD L (Int.toNat (↑a.1:Int)) LT.none)))) (sdA (inB (List.getD (LT.kids (List.getD L (Int.toNat (↑a.1:Int)) LT.none)) (Int.toNat (↑x.2.1:Int)) (0:Int)) x.2.2.length) (sdA (bif Nat.ble (0 + List.length [AV.int .i64 (↑a.1:Int)]) (List.length (rI x.2.2 (Int.toNat (List.getD (LT.kids (List.getD L (Int.toNat (↑a.1:Int)) LT.none)) (Int.toNat (↑x.2.1:Int)) (0:Int))))) then Nat.ble (Int.toNat (List.getD (LT.kids (List.getD L (Int.toNat (↑a.1:Int)) LT.none)) (Int.toNat (↑x.2.1:Int)) (0:Int)) * 1 + 0 + List.length [AV.int .i64 (↑a.1:Int)]) x.2.2.length else false) (sdA (inR .i64 ((↑x.2.1:Int) + 1)) (∃ (x':Nat×Nat×List Int),TyE_runUps_k0 L a x'∧Nat.le (Nat.succ (List.length (LT.kids (List.getD L x'.1 LT.none)) - x'.2.1)) (List.length (LT.kids (List.getD L x.1 LT.none)) - x.2.1)∧true=true∧((some 1=some 1∧x.2.2.length=x'.2.2.length∧true=true)∧(true=true∧(↑x.2.1:Int) + 1=(↑x'.2.1:Int))∧TyE_runUps_k6 L a)∧(true=true∧true=true∧true=true∧true=true∧x.2.2.length=x'.2.2.length∧AllI fun (i:Nat)=>Nat.le (Nat.succ (i * 1)) x.2.2.length→vmL [(0,0),(1,1)] (rI x'.2.2 i) (updRow (rI x.2.2) (Int.toNat (List.getD (LT.kids (List.getD L (Int.toNat (↑a.1:Int)) LT.none)) (Int.toNat (↑x.2.1:Int)) (0:Int))) 0 [AV.int .i64 (↑a.1:Int)] i))∧TyE_runUps_k4 L)))))) (sdA (inR .i64 ((↑a.1:Int) + 1)) (∃ (x':Nat×List Int),UI L x'.1 0 x'.2∧Nat.le (Nat.succ (L.length - x'.1)) (L.length - a.1)∧true=true∧((some 1=some 1∧x.2.2.length=x'.2.length∧true=true)∧(true=true∧(↑a.1:Int) + 1=(↑x'.1:Int))∧TyE_runUps_k5 L)∧(true=true∧true=true∧true=true∧true=true∧x.2.2.length=x'.2.length∧AllI fun (i:Nat)=>Nat.le (Nat.succ (i * 1)) x.2.2.length→(true=true∧List.getD x.2.2 i (0:Int)=List.getD x'.2 i (0:Int))∧True)∧TyE_runUps_k4 L)))
theorem runUps_r:∀ (L:List LT),Nat.le L.length 1000000→Good L→sdA (decide ((0:Int)≤Int.ofNat L.length∧Int.ofNat L.length≤Int.ofNat L.length∧Int.ofNat L.length≤9223372036854775807∧(↑8:Int) * Int.ofNat L.length≤281474976710656)) (brP (ilt (0:Int) (Int.ofNat (Int.toNat (Int.ofNat L.length)))) (sdA (inB (0:Int) (Int.toNat (Int.ofNat L.length))) (sdA (Nat.ble (0 * 1 + 0 + 1) (Int.toNat (Int.ofNat L.length) * 1)) ((∃ (x0:Nat×List Int),UI L x0.1 0 x0.2∧true=true∧TyE_runUps_k7 L x0∧(true=true∧true=true∧true=true∧true=true∧Int.toNat (Int.ofNat L.length) * 1=x0.2.length∧AllI fun (i:Nat)=>Nat.le (Nat.succ (i * 1)) (Int.toNat (Int.ofNat L.length) * 1)→vmL [(0,0),(1,1)] (rI x0.2 i) (updRow (fun (x:Nat)=>[AV.int .i64 (0:Int)]) 0 0 [AV.int .i64 (Int.negSucc 0)] i))∧TyE_runUps_k4 L)∧∀ (x:Nat×List Int),UI L x.1 0 x.2→brP (ilt (↑x.1:Int) (Int.ofNat L.length)) (TyE_runUps_k8 L x) (∃ (x_1:List Int),TyE_runUps_k1 L x x_1)))) ((∃ (x0:Nat×List Int),UI L x0.1 0 x0.2∧true=true∧TyE_runUps_k7 L x0∧(true=true∧true=true∧true=true∧true=true∧Int.toNat (Int.ofNat L.length) * 1=x0.2.length∧AllI fun (i:Nat)=>Nat.le (Nat.succ (i * 1)) (Int.toNat (Int.ofNat L.length) * 1)→(true=true∧(0:Int)=List.getD x0.2 i (0:Int))∧True)∧TyE_runUps_k4 L)∧∀ (x:Nat×List Int),UI L x.1 0 x.2→brP (ilt (↑x.1:Int) (Int.ofNat L.length)) (TyE_runUps_k8 L x) (∃ (x_1:List Int),TyE_runUps_k1 L x x_1)))
:= by
 intro L hL hG
 have hL:L.length≤1000000:=hL
 have hpos:=hG.pos
 simp only [barr_eq,bar_eq,true_and,and_true,eq_self,implies_true,Nat.le_eq,cond_tf,cond_cf,nif_tf,Int.toNat_natCast,Int.ofNat_eq_natCast,Nat.ble_eq,Nat.ble_self_eq_true,Bool.true_and,Bool.and_true,Bool.and_self,Option.some.injEq,AV.int.injEq,rowB_self,allBR_self,Nat.mul_one,Nat.beq_refl,allI_true,cond_true,cond_false,ieq_self,Bool.not_true,Bool.not_false,decide_true,brP_f,brP_t,sdA_t,bytesL_packL,List.nil_append,TyE_runUps_k0,TyE_runUps_k1,TyE_runUps_k2,TyE_runUps_k3,TyE_runUps_k4,TyE_runUps_k5,TyE_runUps_k6,TyE_runUps_k7,TyE_runUps_k8]
 refine sdA_of (decide_eq_true (by omega)) (brP_of (fun _=>sdA_of (inB_iff.2 (by omega)) (sdA_of (by rw [Nat.ble_eq];omega) ?_)) fun h=>absurd (ilt_iffn.1 h) (by omega))
 refine ⟨⟨(0,(-1:Int) :: List.replicate (L.length - 1) 0),⟨Nat.zero_le _,by simp;omega,rfl,fun x hx hxl=>?_,fun x hx hxl ha=>?_⟩,⟨by simp;omega,rfl⟩,by simp;omega,⟨fun j hj=>?_⟩⟩,fun x hx=>?_⟩
 ·obtain ⟨y,rfl⟩:∃ y,x=y + 1:=⟨x - 1,by omega⟩
  have:y < L.length - 1:=by omega
  simp [List.getD_eq_getElem?_getD,List.getElem?_replicate,this]
 ·rcases ha with ⟨j,hj,_⟩ | ⟨q,hq,_⟩ <;> omega
 ·cases j with
  | zero=>exact ⟨⟨rfl,rfl⟩,trivial⟩
  | succ j =>
   have hj:j + 1 < L.length:=hj
   have hj2:j < L.length - 1:=by omega
   have e:rI ((-1:Int) :: List.replicate (L.length - 1) 0) (j + 1)=[AV.int .i64 0]:=by
    simp [rI,List.getD_eq_getElem?_getD,List.getElem?_replicate,hj2]
   rw [e]
   exact ⟨⟨rfl,rfl⟩,trivial⟩
 ·obtain ⟨i,U⟩:=x
  have hlen:=hx.len
  have hle:=hx.le
  simp only at hlen hle ⊢
  refine brP_of (fun h=>?_) fun h=>?_
  ·rw [ilt_iff] at h
   have hi:i < L.length:=by omega
   have hBi:inB (i:Int) L.length=true:=inB_iff.2 (by omega)
   refine ⟨⟨(i,0,U),⟨fun b hb=>hb.symm,hi,Nat.zero_le _,hx⟩,⟨rfl,rfl⟩,rfl,⟨fun _ _=>rfl⟩⟩,fun y hy=>?_⟩
   obtain ⟨i',k,V⟩:=y
   obtain ⟨e1,hi',hk,hV⟩:=hy
   have e1:=e1 _ rfl
   simp only at e1 hi' hk hV ⊢
   obtain rfl:i=i':=by omega
   have hVl:=hV.len
   refine sdA_of hBi (brP_of (fun h2=>?_) fun h2=>sdA_of (inR_i64.2 (by omega)) ⟨(i + 1,V),hV.next hi (by rw [ilt_iffn] at h2;omega),by simp only;omega,⟨rfl,by simp⟩,rfl,⟨fun _ _=>rfl⟩⟩)
   rw [ilt_iff] at h2
   have hkl:k < (L.getD i LT.none).kids.length:=by omega
   have hmem:(L.getD i LT.none).kids.getD k 0∈(L.getD i LT.none).kids:=getD_memI hkl
   obtain ⟨g1,g2⟩:=hG.kid i hi _ hmem
   have hst:=hV.store hi hkl g1 g2
   have hct:((L.getD i LT.none).kids.getD k 0).toNat < V.length:=by omega
   have hkc:k≤1000000:=by have:=hG.klen i hi;omega
   refine sdA_of hBi (sdA_of (inB_iff.2 (by omega)) (sdA_of (inB_iff.2 (by omega)) (sdA_of ?_ (sdA_of (inR_i64.2 (by omega)) ⟨(i,k + 1,V.set ((L.getD i LT.none).kids.getD k 0).toNat i),⟨fun b hb=>hb.symm,hi,hkl,hst⟩,by simp only;omega,⟨by simp,by simp⟩,by simp,⟨fun j hj=>?_⟩⟩))))
   ·rw [Bool.and_eq_true,Nat.ble_eq,Nat.ble_eq]
    exact ⟨Nat.le_refl _,by show ((L.getD i LT.none).kids.getD k 0).toNat + 0 + 1≤V.length;omega⟩
   ·rw [upd_rI _ _ _ hct]
    exact ⟨⟨rfl,rfl⟩,trivial⟩
  ·rw [ilt_iffn] at h
   exact ⟨U,hx.done (by omega) hG,sdA_of (goodR_of fun _ _=>rfl) ⟨rfl,⟨fun _ _=>rfl⟩⟩⟩
theorem runUps:∀ (L:List LT),L.length≤1000000→Good L→(cRun (cxU L) 60).call 12 [tree L] .leaf 0 (ResR (fun U:List Int=>UpsOK L U) fun U=>.vec 1 U.length (rI U)) :=
 Eq.mpr (by kernel_rfl) runUps_r
end Go.Proofs.Ythallodoidghoaa
