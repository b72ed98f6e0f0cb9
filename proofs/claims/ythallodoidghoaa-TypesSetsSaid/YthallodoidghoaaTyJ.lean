/- Laid by program out of its parts: TyJ. -/
import Derived.Test.YthallodoidghoaaTyI
set_option linter.unusedVariables false
set_option linter.unusedSimpArgs false
set_option maxRecDepth 100000
set_option maxHeartbeats 2000000
open Go Go.Ev
namespace Go.Proofs.Ythallodoidghoaa
def outE (L:List LT) (up x:Int):Bool:=decide ((L.getD up.toNat LT.none).kind=10) && decide ((L.getD up.toNat LT.none).kids.getD 0 0=x)
def ownC (L:List LT) (up x:Int):Bool:=decide (0≤up) && (opensB (L.getD up.toNat LT.none).kind && !outE L up x)
def ownW (L:List LT) (U F:List Int) (x:Nat):Int :=
 match (if ownC L (U.getD x 0) x then F.findIdx? (fun f=>decide (f=U.getD x 0)) else none) with
 | some i=>i
 | none=>if h:0≤U.getD x 0∧U.getD x 0 < x then ownW L U F (U.getD x 0).toNat else -1
termination_by x
decreasing_by omega
def ownI (L:List LT) (U F:List Int) (x:Int):Int:=if x < 0 then -1 else ownW L U F x.toNat
noncomputable def eOwner:Tr AObj→List AV→Option Ct:=fun _ args=>match args with
 | [.agg [.vec 6 n f],.vec 1 m g,.vec 1 k h,.int .i64 a]=>some (.need (∃ (L:List LT) (U F:List Int),n=L.length∧f=rowT L∧m=U.length∧g=rI U∧k=F.length∧h=rI F∧TU L U∧FunOK L F∧0≤a∧a < L.length) (.ret (.int .i64 (barr (ownW (rowTs n f) (rowL m g) (rowL k h) a.toNat)))))
 | _=>none
structure OI (L:List LT) (U F:List Int) (a:Nat) (x:Int):Prop where
 lo:-1≤x
 hi:x < L.length
 eq:ownI L U F x=ownW L U F a
noncomputable def SOo (L:List LT) (U F:List Int) (a:Nat):Stn:=thin Int [0,1,2,3,4] (fun x=>[(9,.int .i64 x)]) (fun _ x=>OI L U F a x) fun x=>(x + 1).toNat
noncomputable def SOi (L:List LT) (U F:List Int) (a:Nat):Stn:=thin Nat [0,1,2,3,4,9,10] (fun i=>[(11,.int .i64 i)]) (fun s i=>i≤F.length∧∀ up,s.T.get 10=some (.int .i64 up)→∀ j,j < i→F.getD j 0≠up) fun i=>F.length - i
noncomputable def cxO (L:List LT) (U F:List Int) (a:Nat):Ctx:={ P:=Try.prog,tb:=[(30,oneI64 opensB)],lp:=fun f r=>cond (Nat.beq f 32) (cond (Nat.beq r 2) (some (SOo L U F a)) (cond (Nat.beq r 7) (some (SOi L U F a)) none)) none,cut:=fun _ _=>none }
def digW (n:Nat) (s:List UInt8):List UInt8:=if h:n=0 then s else digW (n / 10) (UInt8.ofNat (48 + n % 10) :: s)
termination_by n
decreasing_by omega
def digS (n:Nat):List UInt8:=if n=0 then [48] else digW n []
noncomputable def eDigits:Tr AObj→List AV→Option Ct:=fun _ args=>match args with
 | [.int .i64 z]=>some (.need (0≤z∧z≤1000000000) (.ret (.bs (barr (digS z.toNat)))))
 | _=>none
structure DI (n:Nat) (x:Nat×List UInt8):Prop where
 le:x.1≤n
 len:x.2.length + x.1≤n + 1
 eq:digS n=if x.2=[] then digS x.1 else digW x.1 x.2
 zero:x.2=[]→x.1=n
noncomputable def SDi (n:Nat):Stn:={ X:=Nat×List UInt8,T:=fun s _ x=>[(0,.int .i64 x.1),(3,.bs x.2)],H:=fun s n0 x=>[],nx:=fun s _=>s.nx,I:=fun _ x=>DI n x,m:=fun x=>x.1 + (if x.2=[] then 1 else 0) }
theorem own_neg {L:List LT} {U F:List Int} {y:Nat} (h:U.getD y 0 < 0):ownW L U F y = -1:=by
 have hc:ownC L (U.getD y 0) y=false:=by unfold ownC;rw [decide_eq_false (by omega)];rfl
 rw [ownW,hc]
 simp only [Bool.false_eq_true,if_false]
 rw [dif_neg (by omega)]
theorem own_step {L:List LT} {U F:List Int} {y:Nat} (h1:0≤U.getD y 0) (h2:U.getD y 0 < y) (h:ownC L (U.getD y 0) y=false∨∀ j,j < F.length→F.getD j 0≠U.getD y 0):ownW L U F y=ownW L U F (U.getD y 0).toNat:=by
 have hn:(if ownC L (U.getD y 0) y then F.findIdx? (fun f=>decide (f=U.getD y 0)) else none)=none:=by
  rcases h with h | h
  ·rw [h];rfl
  ·split
   ·rw [List.findIdx?_eq_none_iff]
    intro f hf
    obtain ⟨j,hj,rfl⟩:=List.getElem_of_mem hf
    have:=h j hj
    rw [List.getD_eq_getElem?_getD,List.getElem?_eq_getElem hj] at this
    exact decide_eq_false this
   ·rfl
 rw [ownW,hn]
 simp only
 rw [dif_pos ⟨h1,h2⟩]
theorem own_hit {L:List LT} {U F:List Int} {y i:Nat} (hc:ownC L (U.getD y 0) y=true) (hi:i < F.length) (h:F.getD i 0=U.getD y 0) (hb:∀ j,j < i→F.getD j 0≠U.getD y 0):ownW L U F y=(i:Int):=by
 have hn:(if ownC L (U.getD y 0) y then F.findIdx? (fun f=>decide (f=U.getD y 0)) else none)=some i:=by
  rw [hc,if_pos rfl,List.findIdx?_eq_some_iff_getElem]
  refine ⟨hi,?_,fun j hj=>?_⟩
  ·rw [List.getD_eq_getElem?_getD,List.getElem?_eq_getElem hi] at h
   exact decide_eq_true h
  ·have:=hb j hj
   rw [List.getD_eq_getElem?_getD,List.getElem?_eq_getElem (by omega)] at this
   simpa using this
 rw [ownW,hn]
@[reducible] def TyJ_runOwner_k0:List LT→Prop:=fun (L:List LT)=>true=true∧L.length=L.length∧AllI fun (i:Nat)=>Nat.le (Nat.succ i) L.length→(true=true∧LT.kind (List.getD L i LT.none)=LT.kind (List.getD L i LT.none))∧LT.text (List.getD L i LT.none)=LT.text (List.getD L i LT.none)∧(true=true∧LT.n (List.getD L i LT.none)=LT.n (List.getD L i LT.none))∧(true=true∧LT.line (List.getD L i LT.none)=LT.line (List.getD L i LT.none))∧(true=true∧LT.col (List.getD L i LT.none)=LT.col (List.getD L i LT.none))∧(true=true∧List.length (LT.kids (List.getD L i LT.none))=List.length (LT.kids (List.getD L i LT.none))∧AllI fun (i_1:Nat)=>Nat.le (Nat.succ i_1) (List.length (LT.kids (List.getD L i LT.none)))→(true=true∧List.getD (LT.kids (List.getD L i LT.none)) i_1 (0:Int)=List.getD (LT.kids (List.getD L i LT.none)) i_1 (0:Int))∧True)∧True
@[reducible] def TyJ_runOwner_k1:List LT→Prop:=fun (L:List LT)=>TyJ_runOwner_k0 L∧True
@[reducible] def TyJ_runOwner_k2:List LT→Prop:=fun (L:List LT)=>(true=true∧true=true∧true=true∧true=true∧True∧TyJ_runOwner_k0 L)∧True
@[reducible] def TyJ_runOwner_k3:List LT→List Int→List Int→Nat→Prop:=fun (L:List LT) (U F:List Int) (a:Nat)=>TyJ_runOwner_k1 L∧(true=true∧U.length=U.length∧AllI fun (i:Nat)=>Nat.le (Nat.succ i) U.length→(true=true∧List.getD U i (0:Int)=List.getD U i (0:Int))∧True)∧(true=true∧F.length=F.length∧AllI fun (i:Nat)=>Nat.le (Nat.succ i) F.length→(true=true∧List.getD F i (0:Int)=List.getD F i (0:Int))∧True)∧(true=true∧(↑a:Int)=(↑a:Int))∧(some 0=some 0∧true=true)∧True
@[reducible] def TyJ_runOwner_k4:List LT→List Int→List Int→Nat→Int→Prop:=fun (L:List LT) (U F:List Int) (a:Nat) (a_1:Int)=>TyJ_runOwner_k1 L∧(true=true∧U.length=U.length∧AllI fun (i:Nat)=>Nat.le (Nat.succ i) U.length→(true=true∧List.getD U i (0:Int)=List.getD U i (0:Int))∧True)∧(true=true∧F.length=F.length∧AllI fun (i:Nat)=>Nat.le (Nat.succ i) F.length→(true=true∧List.getD F i (0:Int)=List.getD F i (0:Int))∧True)∧(true=true∧(↑a:Int)=(↑a:Int))∧(some 0=some 0∧true=true)∧(true=true∧a_1=a_1)∧(true=true∧List.getD U (Int.toNat a_1) (0:Int)=List.getD U (Int.toNat a_1) (0:Int))∧True
@[reducible] def TyJ_runOwner_k5:List LT→List Int→List Int→Nat→Int→Int→Prop:=fun (L:List LT) (U F:List Int) (a:Nat) (a_1 a_2:Int)=>OI L U F a a_2∧Nat.le (Nat.succ (Int.toNat (a_2 + 1))) (Int.toNat (a_1 + 1))∧true=true∧((true=true∧List.getD U (Int.toNat a_1) (0:Int)=a_2)∧TyJ_runOwner_k3 L U F a)∧TyJ_runOwner_k2 L
@[reducible] def TyJ_runOwner_k6:List LT→List Int→List Int→Nat→Int→Prop:=fun (L:List LT) (U F:List Int) (a:Nat) (a_1:Int)=>(∃ (x0:Nat),(Nat.le x0 F.length∧∀ (up:Int),some (AV.int .i64 (List.getD U (Int.toNat a_1) (0:Int)))=some (AV.int .i64 up)→∀ (j:Nat),Nat.le (Nat.succ j) x0→List.getD F j (0:Int)=up→False)∧true=true∧((true=true∧(0:Int)=(↑x0:Int))∧TyJ_runOwner_k4 L U F a a_1)∧TyJ_runOwner_k2 L)∧∀ (x:Nat),(Nat.le x F.length∧∀ (up:Int),some (AV.int .i64 (List.getD U (Int.toNat a_1) (0:Int)))=some (AV.int .i64 up)→∀ (j:Nat),Nat.le (Nat.succ j) x→List.getD F j (0:Int)=up→False)→brP (ilt (↑x:Int) (Int.ofNat F.length)) (sdA (inB (↑x:Int) F.length) (brP (ieq (List.getD F (Int.toNat (↑x:Int)) (0:Int)) (List.getD U (Int.toNat a_1) (0:Int))) (true=true∧(↑x:Int)=ownW L U F a) (sdA (inR .i64 ((↑x:Int) + 1)) (∃ (x':Nat),(Nat.le x' F.length∧∀ (up:Int),some (AV.int .i64 (List.getD U (Int.toNat a_1) (0:Int)))=some (AV.int .i64 up)→∀ (j:Nat),Nat.le (Nat.succ j) x'→List.getD F j (0:Int)=up→False)∧Nat.le (Nat.succ (F.length - x')) (F.length - x)∧true=true∧((true=true∧(↑x:Int) + 1=(↑x':Int))∧TyJ_runOwner_k4 L U F a a_1)∧TyJ_runOwner_k2 L)))) (sdA (inB a_1 U.length) (∃ (x':Int),TyJ_runOwner_k5 L U F a a_1 x'))
theorem runOwner_r:∀ (L:List LT) (U F:List Int) (a:Nat),TU L U→FunOK L F→Nat.le (Nat.succ a) L.length→(∃ (x0:Int),OI L U F a x0∧true=true∧((true=true∧(↑a:Int)=x0)∧TyJ_runOwner_k3 L U F a)∧TyJ_runOwner_k2 L)∧∀ (x:Int),OI L U F a x→brP (!ilt x (0:Int)) (sdA (inB x U.length) (brP (!ilt (List.getD U (Int.toNat x) (0:Int)) (0:Int)) (sdA (inB (List.getD U (Int.toNat x) (0:Int)) L.length) (True∧brP (bar (opensB (LT.kind (List.getD L (Int.toNat (List.getD U (Int.toNat x) (0:Int))) LT.none)))) (sdA (inB (List.getD U (Int.toNat x) (0:Int)) L.length) (brP (ieq (LT.kind (List.getD L (Int.toNat (List.getD U (Int.toNat x) (0:Int))) LT.none)) (10:Int)) (sdA (inB (List.getD U (Int.toNat x) (0:Int)) L.length) (sdA (inB (0:Int) (List.length (LT.kids (List.getD L (Int.toNat (List.getD U (Int.toNat x) (0:Int))) LT.none)))) (brP (!ieq (List.getD (LT.kids (List.getD L (Int.toNat (List.getD U (Int.toNat x) (0:Int))) LT.none)) 0 (0:Int)) x) (TyJ_runOwner_k6 L U F a x) (sdA (inB x U.length) (∃ (x':Int),TyJ_runOwner_k5 L U F a x x'))))) (TyJ_runOwner_k6 L U F a x))) (sdA (inB x U.length) (∃ (x':Int),TyJ_runOwner_k5 L U F a x x')))) (sdA (inB x U.length) (∃ (x':Int),TyJ_runOwner_k5 L U F a x x')))) (true=true∧Int.negSucc 0=ownW L U F a)
:= by
 intro L U F a hT hF ha
 have ha:a < L.length:=ha
 have hL:=hT.len
 have hUl:=hT.ups.len
 have hFl:=hF.len
 simp only [barr_eq,bar_eq,true_and,and_true,eq_self,implies_true,Nat.le_eq,cond_tf,cond_cf,nif_tf,Int.toNat_natCast,Int.ofNat_eq_natCast,Nat.ble_eq,Nat.ble_self_eq_true,Bool.true_and,Bool.and_true,Bool.and_self,Option.some.injEq,AV.int.injEq,rowB_self,allBR_self,Nat.mul_one,Nat.beq_refl,allI_true,cond_true,cond_false,ieq_self,Bool.not_true,Bool.not_false,decide_true,brP_f,brP_t,sdA_t,bytesL_packL,List.nil_append,TyJ_runOwner_k0,TyJ_runOwner_k1,TyJ_runOwner_k2,TyJ_runOwner_k3,TyJ_runOwner_k4,TyJ_runOwner_k5,TyJ_runOwner_k6]
 refine ⟨⟨a,⟨by omega,by omega,by unfold ownI;rw [if_neg (by omega),Int.toNat_natCast]⟩,rfl⟩,fun x hx=>brP_of (fun h=>?_) fun h=>?_⟩
 ·rw [Bool.not_eq_true',ilt_iffn] at h
  have hhi:=hx.hi
  have heq:=hx.eq
  obtain ⟨y,rfl⟩:∃ y:Nat,x=y:=⟨x.toNat,by omega⟩
  unfold ownI at heq
  rw [if_neg (by omega),Int.toNat_natCast] at heq
  rw [Int.toNat_natCast]
  have hlo:-1≤U.getD y 0∧U.getD y 0 < y:=by
   rcases Nat.eq_zero_or_pos y with h0 | h0
   ·subst h0
    rw [hT.ups.zero];decide
   ·have:=hT.ups.lo y h0 (by omega)
    omega
  have hBy:inB (y:Int) U.length=true:=inB_iff.2 (by omega)
  generalize hu:U.getD y 0=u at *
  have hN:ownI L U F u=ownW L U F y→∃ x':Int,OI L U F a x'∧(x' + 1).toNat.succ≤((y:Int) + 1).toNat∧u=x':=fun e=>⟨u,⟨by omega,by omega,e.trans heq⟩,by omega,rfl⟩
  have hstep:0≤u→(ownC L u y=false∨∀ j,j < F.length→F.getD j 0≠u)→∃ x':Int,OI L U F a x'∧(x' + 1).toNat.succ≤((y:Int) + 1).toNat∧u=x':=fun g1 g2=>hN (by
   have:=own_step (L:=L) (U:=U) (F:=F) (y:=y) (by omega) (by omega) (by rw [hu];exact g2)
   rw [this,hu]
   unfold ownI
   rw [if_neg (by omega)])
  have loop:0≤u→ownC L u y=true→((∃ x0:Nat,(x0≤F.length∧∀ up:Int,u=up→∀ j:Nat,j.succ≤x0→F.getD j 0=up→False)∧(0:Int)=(x0:Int))∧∀ x_1:Nat,(x_1≤F.length∧∀ up:Int,u=up→∀ j:Nat,j.succ≤x_1→F.getD j 0=up→False) →
    brP (ilt (x_1:Int) (F.length:Int)) (sdA (inB (x_1:Int) F.length) (brP (ieq (F.getD x_1 0) u) ((x_1:Int)=ownW L U F a) (sdA (inR IntKind.i64 ((x_1:Int) + 1)) (∃ x':Nat,(x'≤F.length∧∀ up:Int,u=up→∀ j:Nat,j.succ≤x'→F.getD j 0=up→False)∧(F.length - x').succ≤F.length - x_1∧(x_1:Int) + 1=(x':Int)))))
     (sdA (inB (y:Int) U.length) (∃ x':Int,OI L U F a x'∧(x' + 1).toNat.succ≤((y:Int) + 1).toNat∧u=x'))):=fun g1 g2=>by
   refine ⟨⟨0,⟨Nat.zero_le _,fun up _ j hj=>by omega⟩,rfl⟩,fun i hi=>brP_of (fun h1=>?_) fun h1=>sdA_of hBy (hstep g1 (.inr ?_))⟩
   ·rw [ilt_iff] at h1
    refine sdA_of (inB_iff.2 (by omega)) (brP_of (fun h2=>?_) fun h2=>sdA_of (inR_i64.2 (by omega)) ⟨i + 1,⟨by omega,fun up hup j hj hje=>?_⟩,by omega,by omega⟩)
    ·rw [ieq_iff] at h2
     rw [← heq,own_hit (i:=i) (by rw [hu];exact g2) (by omega) (by rw [hu];exact h2) (by rw [hu];exact fun j hj=>hi.2 u rfl j hj)]
    ·rw [ieq_iffn] at h2
     rcases Nat.lt_or_ge j i with h3 | h3
     ·exact hi.2 up hup j h3 hje
     ·obtain rfl:j=i:=by omega
      exact h2 (hje.trans hup.symm)
   ·rw [ilt_iffn] at h1
    exact fun j hj=>hi.2 u rfl j (by omega)
  refine sdA_of hBy (brP_of (fun h1=>?_) fun h1=>sdA_of hBy (hN ?_))
  ·rw [Bool.not_eq_true',ilt_iffn] at h1
   have hBu:inB u L.length=true:=inB_iff.2 (by omega)
   refine sdA_of hBu (brP_of (fun h2=>sdA_of hBu (brP_of (fun h3=>?_) fun h3=>?_)) fun h2=>sdA_of hBy (hstep h1 (.inl ?_)))
   ·rw [ieq_iff] at h3
    have hkp:=kids_pos hT.good (i:=u.toNat) (by omega) (.inr h3)
    refine sdA_of hBu (sdA_of (inB_iff.2 (by omega)) (brP_of (fun h4=>?_) fun h4=>sdA_of hBy (hstep h1 (.inl ?_))))
    ·refine loop h1 ?_
     rw [Bool.not_eq_true',ieq_iffn] at h4
     unfold ownC outE
     rw [decide_eq_true h1,h2,decide_eq_false h4];simp
    ·rw [Bool.not_eq_false',ieq_iff] at h4
     unfold ownC outE
     rw [decide_eq_true h3,decide_eq_true h4];simp
   ·rw [ieq_iffn] at h3
    refine loop h1 ?_
    unfold ownC outE
    rw [decide_eq_true h1,h2,decide_eq_false h3];simp
   ·unfold ownC
    rw [h2];simp
  ·rw [Bool.not_eq_false',ilt_iff] at h1
   rw [own_neg (by rw [hu];exact h1)]
   unfold ownI
   rw [if_pos h1]
 ·rw [Bool.not_eq_false',ilt_iff] at h
  have heq:=hx.eq
  unfold ownI at heq
  rw [if_pos h] at heq
  exact heq
theorem runOwner:∀ (L:List LT) (U F:List Int) (a:Nat),TU L U→FunOK L F→a < L.length→(cRun (cxO L U F a) 60).call 32 [tree L,.vec 1 U.length (rI U),.vec 1 F.length (rI F),.int .i64 a] .leaf 0 (ResM Try.prog false (.int .i64 (ownW L U F a))) :=
 Eq.mpr (by kernel_rfl) runOwner_r
@[reducible] def TyJ_runDigits_k0:Nat→Nat×List UInt8→Nat×List UInt8→Prop:=fun (n:Nat) (a a_1:Nat×List UInt8)=>DI n a_1∧Nat.le (Nat.succ (a_1.1 + if a_1.2=[] then 1 else 0)) (a.1 + if a.2=[] then 1 else 0)∧true=true∧((true=true∧Int.tdiv (↑a.1:Int) (10:Int)=(↑a_1.1:Int))∧List.map (fun (a:AV)=>byteO.match_1 (fun (l:List AV)=>UInt8) [a] (fun (k:IntKind) (n:Int)=>UInt8.ofNat (Int.toNat n)) fun (x:List AV)=>(0:UInt8)) [AV.int .u8 ((48:Int) + Int.tmod (↑a.1:Int) (10:Int))] ++ a.2=a_1.2∧True)∧True
theorem runDigits_r:∀ (n:Nat),Nat.le n 1000000000→(∃ (x0:Nat×List UInt8),DI n x0∧true=true∧((true=true∧(↑n:Int)=(↑x0.1:Int))∧[]=x0.2∧True)∧True)∧∀ (x:Nat×List UInt8),DI n x→brP (ilt (0:Int) (↑x.1:Int)) (sdA (inR .i64 ((48:Int) + Int.tmod (↑x.1:Int) (10:Int))) (sdA (inR .u8 ((48:Int) + Int.tmod (↑x.1:Int) (10:Int))) (sdA (decide (List.length (List.map (fun (a:AV)=>byteO.match_1 (fun (l:List AV)=>UInt8) [a] (fun (k:IntKind) (n:Int)=>UInt8.ofNat (Int.toNat n)) fun (x:List AV)=>(0:UInt8)) [AV.int .u8 ((48:Int) + Int.tmod (↑x.1:Int) (10:Int))]) + x.2.length≤9223372036854775807)) (sdA (inR .i64 (Int.tdiv (↑x.1:Int) (10:Int))) (∃ (x':Nat×List UInt8),TyJ_runDigits_k0 n x x'))))) (brP (decide (x.2=[])) (sdA (inR .i64 ((48:Int) + Int.tmod (↑x.1:Int) (10:Int))) (sdA (inR .u8 ((48:Int) + Int.tmod (↑x.1:Int) (10:Int))) (sdA (decide (List.length (List.map (fun (a:AV)=>byteO.match_1 (fun (l:List AV)=>UInt8) [a] (fun (k:IntKind) (n:Int)=>UInt8.ofNat (Int.toNat n)) fun (x:List AV)=>(0:UInt8)) [AV.int .u8 ((48:Int) + Int.tmod (↑x.1:Int) (10:Int))]) + x.2.length≤9223372036854775807)) (sdA (inR .i64 (Int.tdiv (↑x.1:Int) (10:Int))) (∃ (x':Nat×List UInt8),TyJ_runDigits_k0 n x x'))))) (x.2=digS n))
:= by
 intro n hn
 have hn:n≤1000000000:=hn
 simp only [barr_eq,bar_eq,true_and,and_true,eq_self,implies_true,Nat.le_eq,cond_tf,cond_cf,nif_tf,Int.toNat_natCast,Int.ofNat_eq_natCast,Nat.ble_eq,Nat.ble_self_eq_true,Bool.true_and,Bool.and_true,Bool.and_self,Option.some.injEq,AV.int.injEq,rowB_self,allBR_self,Nat.mul_one,Nat.beq_refl,allI_true,cond_true,cond_false,ieq_self,Bool.not_true,Bool.not_false,decide_true,brP_f,brP_t,sdA_t,bytesL_packL,List.nil_append,TyJ_runDigits_k0]
 refine ⟨⟨(n,[]),⟨Nat.le_refl _,by simp,by simp,fun _=>rfl⟩,rfl,rfl⟩,fun x hx=>?_⟩
 obtain ⟨m,s⟩:=x
 have hle:=hx.le
 have hlen:=hx.len
 have heq:=hx.eq
 have hz:=hx.zero
 simp only at hle hlen heq hz ⊢
 have htm:(m:Int).tmod 10=((m % 10:Nat):Int):=by rw [Int.tmod_eq_emod_of_nonneg (by omega)];omega
 have htd:(m:Int).tdiv 10=((m / 10:Nat):Int):=by rw [Int.tdiv_eq_ediv_of_nonneg (by omega)];omega
 rw [htm,htd]
 have hct:(48 + ((m % 10:Nat):Int)).toNat=48 + m % 10:=by omega
 have next:0 < m∨s=[]→sdA (inR .i64 (48 + ((m % 10:Nat):Int))) (sdA (inR .u8 (48 + ((m % 10:Nat):Int))) (sdA (decide ((UInt8.ofNat (48 + ((m % 10:Nat):Int)).toNat :: ([]:List UInt8)).length + s.length≤9223372036854775807)) (sdA (inR .i64 ((m / 10:Nat):Int))
   (∃ x':Nat×List UInt8,DI n x'∧(x'.fst + if x'.snd=[] then 1 else 0).succ≤m + (if s=[] then 1 else 0)∧((m / 10:Nat):Int)=(x'.fst:Int)∧(UInt8.ofNat (48 + ((m % 10:Nat):Int)).toNat :: s)=x'.snd)))):=fun h=>by
  rw [hct]
  refine sdA_of (inR_i64.2 (by omega)) (sdA_of (inR_u8.2 (by omega)) (sdA_of (decide_eq_true (by simp;omega)) (sdA_of (inR_i64.2 (by omega)) ⟨(m / 10,UInt8.ofNat (48 + m % 10) :: s),⟨by simp only;omega,?_,?_,fun h=>by simp at h⟩,?_,rfl,rfl⟩)))
  ·simp only [List.length_cons]
   rcases h with h | h
   ·omega
   ·have:=hz h
    subst h
    simp only [List.length_nil] at hlen ⊢
    omega
  ·simp only [List.cons_ne_nil,if_false,reduceCtorEq]
   by_cases hs:s=[]
   ·rw [if_pos hs] at heq
    rw [heq,hs]
    unfold digS
    split
    ·rename_i h0
     subst h0
     rw [digW];rfl
    ·rename_i h0
     rw [digW,dif_neg h0]
   ·rw [if_neg hs] at heq
    rw [heq,digW,dif_neg (by rcases h with h | h;omega;exact absurd h hs)]
  ·simp only [List.cons_ne_nil,if_false,reduceCtorEq]
   rcases h with h | h
   ·omega
   ·rw [if_pos h];omega
 refine brP_of (fun h=>?_) fun h=>brP_of (fun h2=>?_) fun h2=>?_
 ·rw [ilt_iff] at h
  exact next (.inl (by omega))
 ·exact next (.inr (of_decide_eq_true h2))
 ·rw [ilt_iffn] at h
  have h2:=of_decide_eq_false h2
  rw [if_neg h2] at heq
  obtain rfl:m=0:=by omega
  rw [heq,digW];rfl
theorem runDigits:∀ (n:Nat),n≤1000000000→(cRun (cx1 [] 50 2 (SDi n)) 60).call 50 [.int .i64 n] .leaf 0 (ResM Try.prog false (.bs (digS n))) :=
 Eq.mpr (by kernel_rfl) runDigits_r
theorem okOwner:EntOK Try.prog 32 eOwner:=by
 refine ent_of2 (gl:=[]) (ng:=0) gl0 fun H args ct hct=>?_
 unfold eOwner at hct
 split at hct
 ·rename_i n f m g k h a
  injection hct with hct;subst hct
  refine ⟨gl0,_,_,rfl,?_⟩
  rintro ⟨L,U,F,rfl,rfl,rfl,rfl,rfl,rfl,hT,hF,h0,h1⟩
  obtain ⟨b,rfl⟩:∃ b:Nat,a=b:=⟨a.toNat,by omega⟩
  rw [barr_eq,rowTs_rowT,rowL_rI,rowL_rI]
  exact ⟨⟨vm_tree L,⟨rfl,rfl,⟨fun i _=>vm_rI _ i⟩⟩,⟨rfl,rfl,⟨fun i _=>vm_rI _ i⟩⟩,⟨rfl,rfl⟩,trivial⟩,cxO L U F b,60,rfl,fol,tb_cons okOpens tb_nil,runOwner L U F b hT hF (by omega)⟩
 ·cases hct
theorem okDigits:EntOK Try.prog 50 eDigits:=by
 refine ent_of2 (gl:=[]) (ng:=0) gl0 fun H args ct hct=>?_
 unfold eDigits at hct
 split at hct
 ·rename_i z
  injection hct with hct;subst hct
  refine ⟨gl0,_,_,rfl,?_⟩
  rintro ⟨h0,h1⟩
  obtain ⟨b,rfl⟩:∃ b:Nat,z=b:=⟨z.toNat,by omega⟩
  rw [barr_eq,Int.toNat_natCast]
  exact ⟨⟨⟨rfl,rfl⟩,trivial⟩,cx1 [] 50 2 (SDi b),60,rfl,fol,tb_nil,runDigits b (by omega)⟩
 ·cases hct
end Go.Proofs.Ythallodoidghoaa
