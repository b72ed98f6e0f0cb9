/- Laid by program out of its parts: JrA. -/
import Derived.Test.YtedpjdkikbgojaaGreatDoorMi
import Derived.Test.YtedpjdkikbgojaaGreatDoorMh
import Derived.KernelRfl
import Derived.Test.YtedpjdkikbgojaaGreatDoorProg
set_option linter.unusedVariables false
set_option linter.unusedSimpArgs false
set_option maxRecDepth 100000
open Go Go.Ev
namespace Go.Proofs.YtedpjdkikbgojaaGreatDoor
theorem fol:Tryz.prog.follows .mixedOrders=true:=by rfl
noncomputable def cx0:Ctx:={ P:=Tryz.prog,tb:=[],lp:=fun _ _=>none,cut:=fun _ _=>none }
def isSite (o:Int):Bool:=decide (9≤o∧o≤30∧o≠20)
def named (o:Int):Int:=if o=26∨o=27∨o=31∨o=33 then 0 else if o=1∨o=8∨o=9∨o=10∨o=11∨o=14∨o=21∨o=22∨o=25∨o=29∨o=30∨o=32 then 1 else if o=3∨o=4∨o=5∨o=6∨o=7∨o=18∨o=19 then 3 else 2
noncomputable def eSite:Tr AObj→List AV→Option Ct:=fun _ args=>match args with
 | [.int .i64 o]=>some (.need True (.ret (.bool (bar (isSite o)))))
 | _=>none
noncomputable def eNamed:Tr AObj→List AV→Option Ct:=fun _ args=>match args with
 | [.int .i64 o]=>some (.need True (.ret (.int .i64 (barr (named o)))))
 | _=>none
noncomputable def cx1 (tb:Tbl) (f0 r0:Nat) (S:Stn):Ctx:={ P:=Tryz.prog,tb:=tb,lp:=fun f r=>cond (Nat.beq f f0) (cond (Nat.beq r r0) (some S) none) none,cut:=fun _ _=>none }
def rI (L:List Int):Nat→List AV:=fun i=>intRow .i64 (L.getD i 0)
def oneI (l:List AV):Int:=match l with
 | [.int _ z]=>z
 | _=>0
def rowL (n:Nat) (f:Nat→List AV):List Int:=(List.range n).map fun i=>oneI (f i)
def badR (regs:Int) (S:List Int):Bool:=S.any fun r=>!decide (0≤r∧r < regs)
structure OkK (regs:Int) (S:List Int) (k:Nat):Prop where
 le:k≤S.length
 al:∀ j,j < k→0≤S.getD j 0∧S.getD j 0 < regs
noncomputable def SB (regs:Int) (S:List Int):Stn:=thin Nat [0,1,7] (fun k=>[(8,.int .i64 k)]) (fun _=>OkK regs S) fun k=>S.length - k
structure LI where
 op:Int
 a:Int
 b:Int
 c:Int
 n:Int
 l:List Int
 site:Int
 line:Int
def LI.none:LI:=⟨0,0,0,0,0,[],0,0⟩
def LI.row (x:LI):List AV:=[.int .i64 x.op,.int .i64 x.a,.int .i64 x.b,.int .i64 x.c,.int .i64 x.n,.vec 1 x.l.length (rI x.l),.int .i64 x.site,.int .i64 x.line]
def rLI (l:List LI):Nat→List AV:=fun i=>LI.row (l.getD i LI.none)
structure LF where
 name:List UInt8
 cap:Int
 regs:Int
 code:List LI
def LF.row (x:LF):List AV:=[.bs x.name,.int .i64 x.cap,.int .i64 x.regs,.vec 8 x.code.length (rLI x.code)]
def letsN (k:Nat):Nat:=match k with
 | 0=>0
 | 1=>65
 | 2=>16961
 | _=>4407873
noncomputable def eParts (k:Nat):Tr AObj→List AV→Option Ct:=fun _ args=>match args with
 | [.int .i64 o]=>some (.need ((1≤o∧o≤33)∧named o=k) (.ret (.str k (letsN k))))
 | _=>none
theorem runSiteR_r:∀ (o:Int),brP (!ilt o (9:Int)) (brP (!ilt (30:Int) o) ((!ieq o (20:Int))=isSite o) (false=isSite o)) (false=isSite o)
:= by
 intro o
 unfold isSite
 refine brP_of (fun h1=>brP_of (fun h2=>?_) (fun h2=>?_)) (fun h1=>?_)
 ·cases h3:ieq o 20
  all_goals simp only [ieq_iff,ieq_iffn,ilt_iff,ilt_iffn,Bool.not_eq_true',Bool.not_eq_false'] at *
  ·exact (decide_eq_true (by omega)).symm
  ·exact (decide_eq_false (by omega)).symm
 all_goals simp only [ieq_iff,ieq_iffn,ilt_iff,ilt_iffn,Bool.not_eq_true',Bool.not_eq_false'] at *
 all_goals first
  | exact (decide_eq_true (by omega)).symm
  | exact (decide_eq_false (by omega)).symm
theorem runSiteR:∀ o:Int,(cRun cx0 60).call 10 [.int .i64 o] .leaf 0 (ResM Tryz.prog false (.bool (isSite o))) :=
 Eq.mpr (by kernel_rfl) runSiteR_r
theorem runSiteS_r:∀ (o:Int),brP (ieq o (11:Int)) (true=isSite o) (brP (ieq o (12:Int)) (true=isSite o) (brP (ieq o (13:Int)) (true=isSite o) (brP (ieq o (14:Int)) (true=isSite o) (brP (ieq o (15:Int)) (true=isSite o) (brP (ieq o (16:Int)) (true=isSite o) (brP (ieq o (17:Int)) (true=isSite o) (brP (ieq o (18:Int)) (true=isSite o) (brP (ieq o (19:Int)) (true=isSite o) (brP (ieq o (21:Int)) (true=isSite o) (brP (ieq o (22:Int)) (true=isSite o) (brP (ieq o (9:Int)) (true=isSite o) (brP (ieq o (10:Int)) (true=isSite o) (brP (ieq o (23:Int)) (true=isSite o) (brP (ieq o (24:Int)) (true=isSite o) (brP (ieq o (25:Int)) (true=isSite o) (brP (ieq o (26:Int)) (true=isSite o) (brP (ieq o (27:Int)) (true=isSite o) (brP (ieq o (28:Int)) (true=isSite o) (brP (ieq o (29:Int)) (true=isSite o) (brP (ieq o (30:Int)) (true=isSite o) (false=isSite o)))))))))))))))))))))
:= by
 intro o
 unfold isSite
 repeat' refine brP_of (fun _=>?_) (fun _=>?_)
 all_goals simp only [ieq_iff,ieq_iffn,ilt_iff,ilt_iffn,Bool.not_eq_true',Bool.not_eq_false'] at *
 all_goals first
  | exact (decide_eq_true (by omega)).symm
  | exact (decide_eq_false (by omega)).symm
theorem runSiteS:∀ o:Int,(cRun cx0 60).call 174 [.int .i64 o] .leaf 0 (ResM Tryz.prog false (.bool (isSite o))) :=
 Eq.mpr (by kernel_rfl) runSiteS_r
theorem rowL_rI (L:List Int):rowL L.length (rI L)=L:=by
 apply List.ext_getElem
 ·simp [rowL]
 ·intro i h1 h2
  simp [rowL,rI,oneI,intRow,List.getD_eq_getElem?_getD,List.getElem?_eq_getElem h2]
theorem vm_rI (L:List Int) (i:Nat):vmL [] (rI L i) (rI L i):=⟨⟨rfl,rfl⟩,trivial⟩
theorem vm_LI (l:List LI) (i:Nat):vmL [] (rLI l i) (rLI l i):=⟨⟨rfl,rfl⟩,⟨rfl,rfl⟩,⟨rfl,rfl⟩,⟨rfl,rfl⟩,⟨rfl,rfl⟩,⟨rfl,rfl,⟨fun j _=>vm_rI _ j⟩⟩,⟨rfl,rfl⟩,⟨rfl,rfl⟩,trivial⟩
theorem OkK.zero (r:Int) (S:List Int):OkK r S 0:=⟨Nat.zero_le _,fun _ h=>absurd h (Nat.not_lt_zero _)⟩
theorem OkK.succ {r:Int} {S:List Int} {k:Nat} (h:OkK r S k) (hk:k < S.length) (hn:0≤S.getD k 0∧S.getD k 0 < r):OkK r S (k + 1):=⟨hk,fun j hj=>by
 rcases Nat.lt_succ_iff_lt_or_eq.1 hj with h1 | rfl
 ·exact h.al j h1
 ·exact hn⟩
theorem badR_miss {r:Int} {S:List Int} {k:Nat} (hk:k < S.length) (hn:¬ (0≤S.getD k 0∧S.getD k 0 < r)):badR r S=true:=by
 unfold badR
 rw [List.any_eq_true]
 rw [List.getD_eq_getElem?_getD,List.getElem?_eq_getElem hk] at hn
 refine ⟨S[k],List.getElem_mem hk,?_⟩
 rw [Bool.not_eq_true',decide_eq_false_iff_not]
 exact hn
theorem OkK.all {r:Int} {S:List Int} {k:Nat} (h:OkK r S k) (hk:k=S.length):badR r S=false:=by
 unfold badR
 rw [List.any_eq_false]
 intro x hx
 obtain ⟨j,hj,rfl⟩:=List.getElem_of_mem hx
 have:=h.al j (by omega)
 rw [List.getD_eq_getElem?_getD,List.getElem?_eq_getElem hj] at this
 simpa using this
@[reducible] def JrA_runBad_k0:LF→List Int→Prop:=fun (f:LF) (S:List Int)=>(true=true∧List.length S=List.length S∧AllI fun (i:Nat)=>Nat.le (Nat.succ i) (List.length S)→(true=true∧List.getD S i (0:Int)=List.getD S i (0:Int))∧True)∧(true=true∧True∧(LF.name f=LF.name f∧(true=true∧LF.cap f=LF.cap f)∧(true=true∧LF.regs f=LF.regs f)∧(true=true∧List.length (LF.code f)=List.length (LF.code f)∧AllI fun (i:Nat)=>Nat.le (Nat.succ i) (List.length (LF.code f))→(true=true∧LI.op (List.getD (LF.code f) i LI.none)=LI.op (List.getD (LF.code f) i LI.none))∧(true=true∧LI.a (List.getD (LF.code f) i LI.none)=LI.a (List.getD (LF.code f) i LI.none))∧(true=true∧LI.b (List.getD (LF.code f) i LI.none)=LI.b (List.getD (LF.code f) i LI.none))∧(true=true∧LI.c (List.getD (LF.code f) i LI.none)=LI.c (List.getD (LF.code f) i LI.none))∧(true=true∧LI.n (List.getD (LF.code f) i LI.none)=LI.n (List.getD (LF.code f) i LI.none))∧(true=true∧List.length (LI.l (List.getD (LF.code f) i LI.none))=List.length (LI.l (List.getD (LF.code f) i LI.none))∧AllI fun (i_1:Nat)=>Nat.le (Nat.succ i_1) (List.length (LI.l (List.getD (LF.code f) i LI.none)))→(true=true∧List.getD (LI.l (List.getD (LF.code f) i LI.none)) i_1 (0:Int)=List.getD (LI.l (List.getD (LF.code f) i LI.none)) i_1 (0:Int))∧True)∧(true=true∧LI.site (List.getD (LF.code f) i LI.none)=LI.site (List.getD (LF.code f) i LI.none))∧(true=true∧LI.line (List.getD (LF.code f) i LI.none)=LI.line (List.getD (LF.code f) i LI.none))∧True)∧True)∧True)∧(true=true∧Int.ofNat (List.length S)=Int.ofNat (List.length S))∧True
theorem runBad_r:∀ (f:LF) (S:List Int),Nat.le (List.length S) 2000000→(∃ (x0:Nat),OkK (LF.regs f) S x0∧true=true∧((true=true∧(0:Int)=(↑x0:Int))∧JrA_runBad_k0 f S)∧True)∧∀ (x:Nat),OkK (LF.regs f) S x→brP (ilt (↑x:Int) (Int.ofNat (List.length S))) (sdA (inB (↑x:Int) (List.length S)) (brP (!ilt (List.getD S (Int.toNat (↑x:Int)) (0:Int)) (0:Int)) (brP (!ilt (List.getD S (Int.toNat (↑x:Int)) (0:Int)) (LF.regs f)) ((!ilt (↑x:Int) (0:Int))=badR (LF.regs f) S) (sdA (inR IntKind.i64 ((↑x:Int) + (1:Int))) (∃ (x':Nat),OkK (LF.regs f) S x'∧Nat.le (Nat.succ (List.length S - x')) (List.length S - x)∧true=true∧((true=true∧(↑x:Int) + (1:Int)=(↑x':Int))∧JrA_runBad_k0 f S)∧True))) ((!ilt (↑x:Int) (0:Int))=badR (LF.regs f) S))) (false=badR (LF.regs f) S)
:= by
 intro f S hs
 simp only [barr_eq,bar_eq,true_and,and_true,eq_self,implies_true,Nat.le_eq,cond_tf,cond_cf,nif_tf,Int.toNat_natCast,Int.ofNat_eq_natCast,Nat.ble_eq,Nat.ble_self_eq_true,Bool.true_and,Bool.and_true,Bool.and_self,Option.some.injEq,AV.int.injEq,rowB_self,allBR_self,Nat.mul_one,Nat.beq_refl,allI_true,cond_true,cond_false,ieq_self,Bool.not_true,Bool.not_false,decide_true,brP_f,brP_t,sdA_t,bytesL_packL,List.nil_append,JrA_runBad_k0]
 have hs:S.length≤2000000:=hs
 refine ⟨⟨0,OkK.zero f.regs S,rfl⟩,fun x hx=>brP_of (fun h=>?_) (fun h=>?_)⟩
 ·have hk:x < S.length:=by have:=ilt_iff.1 h;omega
  have hf:(true:Bool) = !ilt (↑x) 0:=by rw [ilt_iffn.2 (by omega)];rfl
  refine sdA_of (inB_iff.2 ⟨by omega,by omega⟩) (brP_of (fun h1=>brP_of (fun h2=>?_) (fun h2=>?_)) (fun h1=>?_))
  ·rw [badR_miss hk (by have:=ilt_iffn.1 (show ilt (S.getD x 0) f.regs=false by simpa using h2);omega),hf]
  ·have h3:=ilt_iffn.1 (show ilt (S.getD x 0) 0=false by simpa using h1)
   have h4:=ilt_iff.1 (show ilt (S.getD x 0) f.regs=true by simpa using h2)
   exact sdA_of (inR_i64.2 ⟨by omega,by omega⟩) ⟨x + 1,hx.succ hk ⟨h3,h4⟩,by omega,by simp⟩
  ·rw [badR_miss hk (by have:=ilt_iff.1 (show ilt (S.getD x 0) 0=true by simpa using h1);omega),hf]
 ·have hk:=ilt_iffn.1 h
  rw [hx.all (by have:=hx.le;omega)]
theorem runBad:∀ (f:LF) (S:List Int),S.length≤2000000→(cRun (cx1 [] 173 2 (SB f.regs S)) 60).call 113 [.vec 1 S.length (rI S),.fn (.func 211) [] [.pv (LF.row f)]] .leaf 0 (ResM Tryz.prog false (.bool (badR f.regs S))) :=
 Eq.mpr (by kernel_rfl) runBad_r
theorem runNamed_r:∀ (o:Int),brP (ieq o (26:Int)) (true=true∧(0:Int)=named o) (brP (ieq o (27:Int)) (true=true∧(0:Int)=named o) (brP (ieq o (31:Int)) (true=true∧(0:Int)=named o) (brP (ieq o (33:Int)) (true=true∧(0:Int)=named o) (brP (ieq o (1:Int)) (true=true∧(1:Int)=named o) (brP (ieq o (8:Int)) (true=true∧(1:Int)=named o) (brP (ieq o (9:Int)) (true=true∧(1:Int)=named o) (brP (ieq o (10:Int)) (true=true∧(1:Int)=named o) (brP (ieq o (11:Int)) (true=true∧(1:Int)=named o) (brP (ieq o (14:Int)) (true=true∧(1:Int)=named o) (brP (ieq o (21:Int)) (true=true∧(1:Int)=named o) (brP (ieq o (22:Int)) (true=true∧(1:Int)=named o) (brP (ieq o (25:Int)) (true=true∧(1:Int)=named o) (brP (ieq o (29:Int)) (true=true∧(1:Int)=named o) (brP (ieq o (30:Int)) (true=true∧(1:Int)=named o) (brP (ieq o (32:Int)) (true=true∧(1:Int)=named o) (brP (ieq o (3:Int)) (true=true∧(3:Int)=named o) (brP (ieq o (4:Int)) (true=true∧(3:Int)=named o) (brP (ieq o (5:Int)) (true=true∧(3:Int)=named o) (brP (ieq o (6:Int)) (true=true∧(3:Int)=named o) (brP (ieq o (7:Int)) (true=true∧(3:Int)=named o) (brP (ieq o (18:Int)) (true=true∧(3:Int)=named o) (brP (ieq o (19:Int)) (true=true∧(3:Int)=named o) (true=true∧(2:Int)=named o)))))))))))))))))))))))
:= by
 intro o
 repeat' refine brP_of (fun _=>?_) (fun _=>?_)
 all_goals simp only [ieq_iff,ieq_iffn] at *
 all_goals refine ⟨trivial,?_⟩
 all_goals unfold named
 all_goals first
  | rw [if_pos (by omega)]
  | rw [if_neg (by omega),if_pos (by omega)]
  | rw [if_neg (by omega),if_neg (by omega),if_pos (by omega)]
  | rw [if_neg (by omega),if_neg (by omega),if_neg (by omega)]
theorem runNamed:∀ o:Int,(cRun cx0 60).call 33 [.int .i64 o] .leaf 0 (ResM Tryz.prog false (.int .i64 (named o))) :=
 Eq.mpr (by kernel_rfl) runNamed_r
theorem runParts0_r:∀ (o:Int),Int.NonNeg (o - (1:Int))∧Int.NonNeg ((33:Int) - o)→named o=(0:Int)→brP (ieq o (1:Int)) (1=0∧65=0) (brP (ieq o (8:Int)) (1=0∧65=0) (brP (ieq o (9:Int)) (1=0∧65=0) (brP (ieq o (10:Int)) (1=0∧65=0) (brP (ieq o (11:Int)) (1=0∧65=0) (brP (ieq o (14:Int)) (1=0∧65=0) (brP (ieq o (21:Int)) (1=0∧65=0) (brP (ieq o (22:Int)) (1=0∧65=0) (brP (ieq o (25:Int)) (1=0∧65=0) (brP (ieq o (29:Int)) (1=0∧65=0) (brP (ieq o (30:Int)) (1=0∧65=0) (brP (ieq o (32:Int)) (1=0∧65=0) (brP (ieq o (2:Int)) (2=0∧16961=0) (brP (ieq o (12:Int)) (2=0∧16961=0) (brP (ieq o (13:Int)) (2=0∧16961=0) (brP (ieq o (15:Int)) (2=0∧16961=0) (brP (ieq o (16:Int)) (2=0∧16961=0) (brP (ieq o (17:Int)) (2=0∧16961=0) (brP (ieq o (20:Int)) (2=0∧16961=0) (brP (ieq o (23:Int)) (2=0∧16961=0) (brP (ieq o (24:Int)) (2=0∧16961=0) (brP (ieq o (28:Int)) (2=0∧16961=0) (brP (ieq o (3:Int)) (3=0∧4407873=0) (brP (ieq o (4:Int)) (3=0∧4407873=0) (brP (ieq o (5:Int)) (3=0∧4407873=0) (brP (ieq o (6:Int)) (3=0∧4407873=0) (brP (ieq o (7:Int)) (3=0∧4407873=0) (brP (ieq o (18:Int)) (3=0∧4407873=0) (brP (ieq o (19:Int)) (3=0∧4407873=0) (0=0∧0=0)))))))))))))))))))))))))))))
:= by
 intro o ho hn
 have ho:1≤o∧o≤33:=ho
 unfold named at hn
 repeat' refine brP_of (fun _=>?_) (fun _=>?_)
 all_goals simp only [ieq_iff,ieq_iffn] at *
 all_goals first
  | rfl
  | exact ⟨rfl,rfl⟩
  | trivial
  | exact ⟨trivial,trivial⟩
  | (exfalso;revert hn;repeat' split)
 all_goals omega
theorem runParts0:∀ o:Int,1≤o∧o≤33→named o=0→(cRun cx0 60).call 210 [.int .i64 o] .leaf 0 (ResM Tryz.prog false (.str 0 (letsN 0))) :=
 Eq.mpr (by kernel_rfl) runParts0_r
theorem runParts1_r:∀ (o:Int),Int.NonNeg (o - (1:Int))∧Int.NonNeg ((33:Int) - o)→named o=(1:Int)→brP (ieq o (1:Int)) (1=1∧65=65) (brP (ieq o (8:Int)) (1=1∧65=65) (brP (ieq o (9:Int)) (1=1∧65=65) (brP (ieq o (10:Int)) (1=1∧65=65) (brP (ieq o (11:Int)) (1=1∧65=65) (brP (ieq o (14:Int)) (1=1∧65=65) (brP (ieq o (21:Int)) (1=1∧65=65) (brP (ieq o (22:Int)) (1=1∧65=65) (brP (ieq o (25:Int)) (1=1∧65=65) (brP (ieq o (29:Int)) (1=1∧65=65) (brP (ieq o (30:Int)) (1=1∧65=65) (brP (ieq o (32:Int)) (1=1∧65=65) (brP (ieq o (2:Int)) (2=1∧16961=65) (brP (ieq o (12:Int)) (2=1∧16961=65) (brP (ieq o (13:Int)) (2=1∧16961=65) (brP (ieq o (15:Int)) (2=1∧16961=65) (brP (ieq o (16:Int)) (2=1∧16961=65) (brP (ieq o (17:Int)) (2=1∧16961=65) (brP (ieq o (20:Int)) (2=1∧16961=65) (brP (ieq o (23:Int)) (2=1∧16961=65) (brP (ieq o (24:Int)) (2=1∧16961=65) (brP (ieq o (28:Int)) (2=1∧16961=65) (brP (ieq o (3:Int)) (3=1∧4407873=65) (brP (ieq o (4:Int)) (3=1∧4407873=65) (brP (ieq o (5:Int)) (3=1∧4407873=65) (brP (ieq o (6:Int)) (3=1∧4407873=65) (brP (ieq o (7:Int)) (3=1∧4407873=65) (brP (ieq o (18:Int)) (3=1∧4407873=65) (brP (ieq o (19:Int)) (3=1∧4407873=65) (0=1∧0=65)))))))))))))))))))))))))))))
:= by
 intro o ho hn
 have ho:1≤o∧o≤33:=ho
 unfold named at hn
 repeat' refine brP_of (fun _=>?_) (fun _=>?_)
 all_goals simp only [ieq_iff,ieq_iffn] at *
 all_goals first
  | rfl
  | exact ⟨rfl,rfl⟩
  | trivial
  | exact ⟨trivial,trivial⟩
  | (exfalso;revert hn;repeat' split)
 all_goals omega
theorem runParts1:∀ o:Int,1≤o∧o≤33→named o=1→(cRun cx0 60).call 210 [.int .i64 o] .leaf 0 (ResM Tryz.prog false (.str 1 (letsN 1))) :=
 Eq.mpr (by kernel_rfl) runParts1_r
theorem runParts2_r:∀ (o:Int),Int.NonNeg (o - (1:Int))∧Int.NonNeg ((33:Int) - o)→named o=(2:Int)→brP (ieq o (1:Int)) (1=2∧65=16961) (brP (ieq o (8:Int)) (1=2∧65=16961) (brP (ieq o (9:Int)) (1=2∧65=16961) (brP (ieq o (10:Int)) (1=2∧65=16961) (brP (ieq o (11:Int)) (1=2∧65=16961) (brP (ieq o (14:Int)) (1=2∧65=16961) (brP (ieq o (21:Int)) (1=2∧65=16961) (brP (ieq o (22:Int)) (1=2∧65=16961) (brP (ieq o (25:Int)) (1=2∧65=16961) (brP (ieq o (29:Int)) (1=2∧65=16961) (brP (ieq o (30:Int)) (1=2∧65=16961) (brP (ieq o (32:Int)) (1=2∧65=16961) (brP (ieq o (2:Int)) (2=2∧16961=16961) (brP (ieq o (12:Int)) (2=2∧16961=16961) (brP (ieq o (13:Int)) (2=2∧16961=16961) (brP (ieq o (15:Int)) (2=2∧16961=16961) (brP (ieq o (16:Int)) (2=2∧16961=16961) (brP (ieq o (17:Int)) (2=2∧16961=16961) (brP (ieq o (20:Int)) (2=2∧16961=16961) (brP (ieq o (23:Int)) (2=2∧16961=16961) (brP (ieq o (24:Int)) (2=2∧16961=16961) (brP (ieq o (28:Int)) (2=2∧16961=16961) (brP (ieq o (3:Int)) (3=2∧4407873=16961) (brP (ieq o (4:Int)) (3=2∧4407873=16961) (brP (ieq o (5:Int)) (3=2∧4407873=16961) (brP (ieq o (6:Int)) (3=2∧4407873=16961) (brP (ieq o (7:Int)) (3=2∧4407873=16961) (brP (ieq o (18:Int)) (3=2∧4407873=16961) (brP (ieq o (19:Int)) (3=2∧4407873=16961) (0=2∧0=16961)))))))))))))))))))))))))))))
:= by
 intro o ho hn
 have ho:1≤o∧o≤33:=ho
 unfold named at hn
 repeat' refine brP_of (fun _=>?_) (fun _=>?_)
 all_goals simp only [ieq_iff,ieq_iffn] at *
 all_goals first
  | rfl
  | exact ⟨rfl,rfl⟩
  | trivial
  | exact ⟨trivial,trivial⟩
  | (exfalso;revert hn;repeat' split)
 all_goals omega
theorem runParts2:∀ o:Int,1≤o∧o≤33→named o=2→(cRun cx0 60).call 210 [.int .i64 o] .leaf 0 (ResM Tryz.prog false (.str 2 (letsN 2))) :=
 Eq.mpr (by kernel_rfl) runParts2_r
theorem runParts3_r:∀ (o:Int),Int.NonNeg (o - (1:Int))∧Int.NonNeg ((33:Int) - o)→named o=(3:Int)→brP (ieq o (1:Int)) (1=3∧65=4407873) (brP (ieq o (8:Int)) (1=3∧65=4407873) (brP (ieq o (9:Int)) (1=3∧65=4407873) (brP (ieq o (10:Int)) (1=3∧65=4407873) (brP (ieq o (11:Int)) (1=3∧65=4407873) (brP (ieq o (14:Int)) (1=3∧65=4407873) (brP (ieq o (21:Int)) (1=3∧65=4407873) (brP (ieq o (22:Int)) (1=3∧65=4407873) (brP (ieq o (25:Int)) (1=3∧65=4407873) (brP (ieq o (29:Int)) (1=3∧65=4407873) (brP (ieq o (30:Int)) (1=3∧65=4407873) (brP (ieq o (32:Int)) (1=3∧65=4407873) (brP (ieq o (2:Int)) (2=3∧16961=4407873) (brP (ieq o (12:Int)) (2=3∧16961=4407873) (brP (ieq o (13:Int)) (2=3∧16961=4407873) (brP (ieq o (15:Int)) (2=3∧16961=4407873) (brP (ieq o (16:Int)) (2=3∧16961=4407873) (brP (ieq o (17:Int)) (2=3∧16961=4407873) (brP (ieq o (20:Int)) (2=3∧16961=4407873) (brP (ieq o (23:Int)) (2=3∧16961=4407873) (brP (ieq o (24:Int)) (2=3∧16961=4407873) (brP (ieq o (28:Int)) (2=3∧16961=4407873) (brP (ieq o (3:Int)) (3=3∧4407873=4407873) (brP (ieq o (4:Int)) (3=3∧4407873=4407873) (brP (ieq o (5:Int)) (3=3∧4407873=4407873) (brP (ieq o (6:Int)) (3=3∧4407873=4407873) (brP (ieq o (7:Int)) (3=3∧4407873=4407873) (brP (ieq o (18:Int)) (3=3∧4407873=4407873) (brP (ieq o (19:Int)) (3=3∧4407873=4407873) (0=3∧0=4407873)))))))))))))))))))))))))))))
:= by
 intro o ho hn
 have ho:1≤o∧o≤33:=ho
 unfold named at hn
 repeat' refine brP_of (fun _=>?_) (fun _=>?_)
 all_goals simp only [ieq_iff,ieq_iffn] at *
 all_goals first
  | rfl
  | exact ⟨rfl,rfl⟩
  | trivial
  | exact ⟨trivial,trivial⟩
  | (exfalso;revert hn;repeat' split)
 all_goals omega
theorem runParts3:∀ o:Int,1≤o∧o≤33→named o=3→(cRun cx0 60).call 210 [.int .i64 o] .leaf 0 (ResM Tryz.prog false (.str 3 (letsN 3))) :=
 Eq.mpr (by kernel_rfl) runParts3_r
theorem okSite {g:FuncId} (h:∀ o:Int,(cRun cx0 60).call g [.int .i64 o] .leaf 0 (ResM Tryz.prog false (.bool (isSite o)))):EntOK Tryz.prog g eSite:=by
 refine ent_of (gl:=[]) (ng:=0) gl0 fun H args ct hct=>?_
 unfold eSite at hct
 split at hct
 ·rename_i o
  injection hct with hct;subst hct
  exact ⟨gl0,⟨⟨rfl,rfl⟩,trivial⟩,_,_,rfl,fun _=>⟨cx0,60,rfl,fol,tb_nil,by rw [bar_eq];exact h o⟩⟩
 ·cases hct
theorem okNamed:EntOK Tryz.prog 33 eNamed:=by
 refine ent_of (gl:=[]) (ng:=0) gl0 fun H args ct hct=>?_
 unfold eNamed at hct
 split at hct
 ·rename_i o
  injection hct with hct;subst hct
  exact ⟨gl0,⟨⟨rfl,rfl⟩,trivial⟩,_,_,rfl,fun _=>⟨cx0,60,rfl,fol,tb_nil,by rw [barr_eq];exact runNamed o⟩⟩
 ·cases hct
end Go.Proofs.YtedpjdkikbgojaaGreatDoor
