/- Laid by program out of its parts: ClA. -/
import Derived.Test.YtfnieibeimklcaaGreatDoorMe
import Derived.KernelRfl
import Derived.Test.YtfnieibeimklcaaGreatDoorProg
import Derived.Test.YtfnieibeimklcaaGreatDoorXo
set_option linter.unusedVariables false
set_option linter.unusedSimpArgs false
set_option maxRecDepth 100000
open Go Go.Ev
namespace Go.Proofs.YtfnieibeimklcaaGreatDoor
theorem fol:Tryz.prog.follows .mixedOrders=true:=by rfl
noncomputable def eK (gz:Go.EvC.GZ):Tr AObj→List AV→Option Ct:=fun H args=>match args with
 | []=>cond (selG gz H) (some (.need True (.ret (.bool true)))) none
 | _=>none
def gz0:Go.EvC.GZ:=[(0,.u8,(List.range 256).map fun i=>if i=9∨i=10∨i=11∨i=12∨i=13∨i=32 then 1 else 0),(7,.u8,[0,1,56,2,57,49,28,3,61,58,42,50,38,29,17,4,62,47,59,36,45,43,51,22,53,39,33,30,24,18,12,5,63,55,48,27,60,41,37,16,46,35,44,21,52,32,23,11,54,26,40,15,34,20,31,10,25,14,19,9,13,8,7,6])]
noncomputable def fF (x:Nat):Nat→List AV:=fun i=>[.int .u8 (bif Nat.blt i x then 32 else 0)]
structure FI (n:Nat) (x:Nat):Prop where
 le:x≤n
noncomputable def SFill (gz:Go.EvC.GZ) (o:Int) (n:Nat):Stn:={ X:=Nat,T:=fun st _ x=>[(0,.int .i64 o),(3,.slg 11 n 1),(4,.int .i64 x)],H:=fun st _ x=>gzT gz ++ [(11,.cells 5 .leaf (.rows 1 (fF x)) n true)],nx:=fun st _=>st.nx,I:=fun _=>FI n,m:=fun x=>n - x }
noncomputable def cxK (gz:Go.EvC.GZ) (o:Int) (n:Nat):Ctx:={ P:=Tryz.prog,tb:=[(4,eK gz)],lp:=fun f r=>cond (Nat.beq f 3) (cond (Nat.beq r 5) (some (SFill gz o n)) none) none,cut:=fun _ _=>none }
theorem upd_f (x i:Nat):updRow (fF x) x 0 [AV.int .u8 32] i=fF (x + 1) i:=by
 unfold updRow
 by_cases e:i=x
 ·subst e
  rw [Nat.beq_refl,cond_true]
  unfold fF
  rw [show Nat.blt i (i + 1)=true from by simp [Nat.blt_eq],cond_true];rfl
 ·rw [show Nat.beq i x=false from Bool.eq_false_iff.2 fun hb=>e (Nat.eq_of_beq_eq_true hb),cond_false]
  unfold fF
  by_cases h2:i < x
  ·rw [show Nat.blt i x=true from by simpa [Nat.blt_eq] using h2,show Nat.blt i (x + 1)=true from by simp [Nat.blt_eq];omega]
  ·rw [show Nat.blt i x=false from Bool.eq_false_iff.2 fun hb=>h2 (by simpa [Nat.blt_eq] using hb),show Nat.blt i (x + 1)=false from Bool.eq_false_iff.2 fun hb=>by have:=Nat.le_of_ble_eq_true hb;omega]
theorem idx4 (l:List UInt8):Lib.indexByte ([116,101,120,116,32] ++ l) (UInt8.ofNat 32)=4:=rfl
theorem allB_f (n x:Nat):allB n (fF x)=true:=decide_eq_true fun i _=>by
 unfold fF
 cases Nat.blt i x <;> rfl
theorem len_f (n x:Nat):(rowB n (fF x)).length=n:=by unfold rowB;simp
theorem runLaw_r:∀ (o:Int) (n:Nat),n=Int.toNat o→brP (ilt o (65500:Int)) (True∧true=true) (brP (ilt (65600:Int) o) (True∧true=true) (sdA (decide ((0:Int)≤o∧o≤o∧o≤9223372036854775807∧(↑1:Int) * o≤281474976710656)) ((∃ (x0:Nat),FI n x0∧true=true∧((true=true∧o=o)∧(some 11=some 11∧Int.toNat o=n∧true=true)∧(true=true∧(0:Int)=(↑x0:Int))∧True)∧(true=true∧List.map (fun (z:Int)=>AV.int .u8 z) (List.map (fun (i:Nat)=>if i=9∨i=10∨i=11∨i=12∨i=13∨i=32 then (1:Int) else (0:Int)) (List.range 256))=List.map (fun (z:Int)=>AV.int .u8 z) (List.map (fun (i:Nat)=>if i=9∨i=10∨i=11∨i=12∨i=13∨i=32 then (1:Int) else (0:Int)) (List.range 256)))∧(true=true∧List.map (fun (z:Int)=>AV.int .u8 z) [(0:Int),(1:Int),(56:Int),(2:Int),(57:Int),(49:Int),(28:Int),(3:Int),(61:Int),(58:Int),(42:Int),(50:Int),(38:Int),(29:Int),(17:Int),(4:Int),(62:Int),(47:Int),(59:Int),(36:Int),(45:Int),(43:Int),(51:Int),(22:Int),(53:Int),(39:Int),(33:Int),(30:Int),(24:Int),(18:Int),(12:Int),(5:Int),(63:Int),(55:Int),(48:Int),(27:Int),(60:Int),(41:Int),(37:Int),(16:Int),(46:Int),(35:Int),(44:Int),(21:Int),(52:Int),(32:Int),(23:Int),(11:Int),(54:Int),(26:Int),(40:Int),(15:Int),(34:Int),(20:Int),(31:Int),(10:Int),(25:Int),(14:Int),(19:Int),(9:Int),(13:Int),(8:Int),(7:Int),(6:Int)]=List.map (fun (z:Int)=>AV.int .u8 z) [(0:Int),(1:Int),(56:Int),(2:Int),(57:Int),(49:Int),(28:Int),(3:Int),(61:Int),(58:Int),(42:Int),(50:Int),(38:Int),(29:Int),(17:Int),(4:Int),(62:Int),(47:Int),(59:Int),(36:Int),(45:Int),(43:Int),(51:Int),(22:Int),(53:Int),(39:Int),(33:Int),(30:Int),(24:Int),(18:Int),(12:Int),(5:Int),(63:Int),(55:Int),(48:Int),(27:Int),(60:Int),(41:Int),(37:Int),(16:Int),(46:Int),(35:Int),(44:Int),(21:Int),(52:Int),(32:Int),(23:Int),(11:Int),(54:Int),(26:Int),(40:Int),(15:Int),(34:Int),(20:Int),(31:Int),(10:Int),(25:Int),(14:Int),(19:Int),(9:Int),(13:Int),(8:Int),(7:Int),(6:Int)])∧(true=true∧true=true∧true=true∧true=true∧Int.toNat o * 1=n∧AllI fun (i:Nat)=>Nat.le (Nat.succ (i * 1)) (Int.toNat o * 1)→(true=true∧(0:Int)=bif Nat.blt i x0 then (32:Int) else (0:Int))∧True)∧True)∧∀ (x:Nat),FI n x→brP (ilt (↑x:Int) o) (sdA (inB (↑x:Int) n) (sdA (bif Nat.ble 1 (List.length (fF x (Int.toNat (↑x:Int)))) then Nat.ble (Int.toNat (↑x:Int) * 1 + 0 + 1) n else false) (sdA (inR .i64 ((↑x:Int) + 1)) (∃ (x':Nat),FI n x'∧Nat.le (Nat.succ (n - x')) (n - x)∧true=true∧((true=true∧o=o)∧(some 11=some 11∧n=n∧true=true)∧(true=true∧(↑x:Int) + 1=(↑x':Int))∧True)∧(true=true∧List.map (fun (z:Int)=>AV.int .u8 z) (List.map (fun (i:Nat)=>if i=9∨i=10∨i=11∨i=12∨i=13∨i=32 then (1:Int) else (0:Int)) (List.range 256))=List.map (fun (z:Int)=>AV.int .u8 z) (List.map (fun (i:Nat)=>if i=9∨i=10∨i=11∨i=12∨i=13∨i=32 then (1:Int) else (0:Int)) (List.range 256)))∧(true=true∧List.map (fun (z:Int)=>AV.int .u8 z) [(0:Int),(1:Int),(56:Int),(2:Int),(57:Int),(49:Int),(28:Int),(3:Int),(61:Int),(58:Int),(42:Int),(50:Int),(38:Int),(29:Int),(17:Int),(4:Int),(62:Int),(47:Int),(59:Int),(36:Int),(45:Int),(43:Int),(51:Int),(22:Int),(53:Int),(39:Int),(33:Int),(30:Int),(24:Int),(18:Int),(12:Int),(5:Int),(63:Int),(55:Int),(48:Int),(27:Int),(60:Int),(41:Int),(37:Int),(16:Int),(46:Int),(35:Int),(44:Int),(21:Int),(52:Int),(32:Int),(23:Int),(11:Int),(54:Int),(26:Int),(40:Int),(15:Int),(34:Int),(20:Int),(31:Int),(10:Int),(25:Int),(14:Int),(19:Int),(9:Int),(13:Int),(8:Int),(7:Int),(6:Int)]=List.map (fun (z:Int)=>AV.int .u8 z) [(0:Int),(1:Int),(56:Int),(2:Int),(57:Int),(49:Int),(28:Int),(3:Int),(61:Int),(58:Int),(42:Int),(50:Int),(38:Int),(29:Int),(17:Int),(4:Int),(62:Int),(47:Int),(59:Int),(36:Int),(45:Int),(43:Int),(51:Int),(22:Int),(53:Int),(39:Int),(33:Int),(30:Int),(24:Int),(18:Int),(12:Int),(5:Int),(63:Int),(55:Int),(48:Int),(27:Int),(60:Int),(41:Int),(37:Int),(16:Int),(46:Int),(35:Int),(44:Int),(21:Int),(52:Int),(32:Int),(23:Int),(11:Int),(54:Int),(26:Int),(40:Int),(15:Int),(34:Int),(20:Int),(31:Int),(10:Int),(25:Int),(14:Int),(19:Int),(9:Int),(13:Int),(8:Int),(7:Int),(6:Int)])∧(true=true∧true=true∧true=true∧true=true∧n=n∧AllI fun (i:Nat)=>Nat.le (Nat.succ (i * 1)) n→vmL [(11,11),(0,0),(1,1),(2,2),(3,3),(4,4),(5,5),(6,6),(7,7),(8,8),(9,9),(10,10)] (fF x' i) (updRow (fF x) (Int.toNat (↑x:Int)) 0 [AV.int .u8 (32:Int)] i))∧True)))) (sdA (bif Nat.ble n n then allB n (fF x) else false) (sdA (decide (5 + List.length (rowB n (fF x))≤9223372036854775807)) (sdA (bif inL (Lib.indexByte ([(116:UInt8),(101:UInt8),(120:UInt8),(116:UInt8),(32:UInt8)] ++ rowB n (fF x)) (UInt8.ofNat 32)) (List.length ([(116:UInt8),(101:UInt8),(120:UInt8),(116:UInt8),(32:UInt8)] ++ rowB n (fF x))) then true else false) (sdA (inL (Lib.indexByte ([(116:UInt8),(101:UInt8),(120:UInt8),(116:UInt8),(32:UInt8)] ++ rowB n (fF x)) (UInt8.ofNat 32) + 1) (List.length ([(116:UInt8),(101:UInt8),(120:UInt8),(116:UInt8),(32:UInt8)] ++ rowB n (fF x)))) ((((True∧True)∧True)∧True)∧sdA (inR .i64 ((0:Int) + Int.ofNat (List.length (List.drop (Int.toNat (Lib.indexByte ([(116:UInt8),(101:UInt8),(120:UInt8),(116:UInt8),(32:UInt8)] ++ rowB n (fF x)) (UInt8.ofNat 32) + 1)) ([(116:UInt8),(101:UInt8),(120:UInt8),(116:UInt8),(32:UInt8)] ++ rowB n (fF x)))))) (sdA (inR .i64 ((0:Int) + Int.ofNat (List.length (List.drop (Int.toNat (Lib.indexByte ([(116:UInt8),(101:UInt8),(120:UInt8),(116:UInt8),(32:UInt8)] ++ rowB n (fF x)) (UInt8.ofNat 32) + 1)) ([(116:UInt8),(101:UInt8),(120:UInt8),(116:UInt8),(32:UInt8)] ++ rowB n (fF x)))) + 1)) (brP (ilt (65536:Int) ((0:Int) + Int.ofNat (List.length (List.drop (Int.toNat (Lib.indexByte ([(116:UInt8),(101:UInt8),(120:UInt8),(116:UInt8),(32:UInt8)] ++ rowB n (fF x)) (UInt8.ofNat 32) + 1)) ([(116:UInt8),(101:UInt8),(120:UInt8),(116:UInt8),(32:UInt8)] ++ rowB n (fF x)))) + 1)) (sdA (inR .i64 (o + 1)) (brP (ilt (65536:Int) (o + 1)) ((((True∧True∧True)∧True)∧True)∧True∧true=true) ((((True∧True∧True)∧True)∧True)∧false=true))) (sdA (decide (0 + List.length (List.drop (Int.toNat (Lib.indexByte ([(116:UInt8),(101:UInt8),(120:UInt8),(116:UInt8),(32:UInt8)] ++ rowB n (fF x)) (UInt8.ofNat 32) + 1)) ([(116:UInt8),(101:UInt8),(120:UInt8),(116:UInt8),(32:UInt8)] ++ rowB n (fF x)))≤9223372036854775807)) (sdA (decide (List.length ([] ++ List.drop (Int.toNat (Lib.indexByte ([(116:UInt8),(101:UInt8),(120:UInt8),(116:UInt8),(32:UInt8)] ++ rowB n (fF x)) (UInt8.ofNat 32) + 1)) ([(116:UInt8),(101:UInt8),(120:UInt8),(116:UInt8),(32:UInt8)] ++ rowB n (fF x))) + 1≤9223372036854775807)) (sdA (inR .i64 (o + 1)) (brP (ilt (65536:Int) (o + 1)) ((((True∧True∧True)∧True)∧True)∧false=true) ((((True∧True∧True)∧True)∧True)∧sdA (inR .i64 (o + 1)) (brP (ieq (Int.ofNat (List.length ([] ++ List.drop (Int.toNat (Lib.indexByte ([(116:UInt8),(101:UInt8),(120:UInt8),(116:UInt8),(32:UInt8)] ++ rowB n (fF x)) (UInt8.ofNat 32) + 1)) ([(116:UInt8),(101:UInt8),(120:UInt8),(116:UInt8),(32:UInt8)] ++ rowB n (fF x)) ++ [(10:UInt8)]))) (o + 1)) (True∧true=true) (false=true)))))))))))))))))
:= by
 intro o n hn
 simp only [barr_eq,bar_eq,true_and,and_true,eq_self,implies_true,Nat.le_eq,cond_tf,cond_cf,nif_tf,Int.toNat_natCast,Int.ofNat_eq_natCast,Nat.ble_eq,Nat.ble_self_eq_true,Bool.true_and,Bool.and_true,Bool.and_self,Option.some.injEq,AV.int.injEq,rowB_self,allBR_self,Nat.mul_one,Nat.beq_refl,allI_true,cond_true,cond_false,ieq_self,Bool.not_true,Bool.not_false,decide_true,brP_f,brP_t,sdA_t,bytesL_packL,List.nil_append]
 refine brP_of (fun _=>trivial) fun h1=>brP_of (fun _=>trivial) fun h2=>?_
 rw [ilt_iffn] at h1 h2
 obtain rfl:o=(n:Int):=by omega
 clear hn
 refine sdA_of (decide_eq_true ⟨by omega,by omega,by omega,by omega⟩) ⟨⟨0,⟨Nat.zero_le n⟩,⟨rfl,rfl⟩,rfl,⟨fun i _=>rfl⟩⟩,fun x hx=>?_⟩
 have hx:=hx.le
 refine brP_of (fun c=>?_) fun c=>?_
 ·rw [ilt_iff] at c
  refine sdA_of (inB_iff.2 ⟨by omega,by omega⟩) (sdA_of ?_ (sdA_of (inR_i64.2 ⟨by omega,by omega⟩) ⟨x + 1,⟨by omega⟩,by omega,by omega,⟨fun i hi=>?_⟩⟩))
  ·rw [show Nat.ble (x + 0 + 1) n=true from Nat.ble_eq_true_of_le (by omega),Bool.and_true];rfl
  ·rw [upd_f];exact ⟨⟨rfl,rfl⟩,trivial⟩
 ·rw [ilt_iffn] at c
  simp only [idx4,allB_f]
  generalize hr:rowB n (fF x)=r
  have hl:r.length=n:=by rw [← hr];exact len_f n x
  simp only [show Int.toNat (4 + 1)=5 from rfl,show ([116,101,120,116,32] ++ r:List UInt8).drop 5=r from rfl,show ([116,101,120,116,32] ++ r:List UInt8).length=r.length + 5 from rfl,List.length_append,List.length_cons,List.length_nil,hl]
  refine sdA_of rfl (sdA_of (decide_eq_true (by omega)) (sdA_of (inL_iff.2 ⟨by omega,by omega⟩) (sdA_of (inL_iff.2 ⟨by omega,by omega⟩) (sdA_of (inR_i64.2 ⟨by omega,by omega⟩) (sdA_of (inR_i64.2 ⟨by omega,by omega⟩) (brP_of (fun d=>?_) fun d=>?_))))))
  ·rw [ilt_iff] at d
   exact sdA_of (inR_i64.2 ⟨by omega,by omega⟩) (brP_of (fun _=>trivial) fun e=>by rw [ilt_iffn] at e;omega)
  ·rw [ilt_iffn] at d
   exact sdA_of (decide_eq_true (by omega)) (sdA_of (decide_eq_true (by omega)) (sdA_of (inR_i64.2 ⟨by omega,by omega⟩) (brP_of (fun e=>by rw [ilt_iff] at e;omega) fun _=>sdA_of (inR_i64.2 ⟨by omega,by omega⟩) (brP_of (fun _=>trivial) fun e=>by rw [ieq_iffn] at e;omega))))
theorem runLaw:∀ (o:Int) (n:Nat),n=o.toNat→(cRun (cxK gz0 o n) 200).call 3 [.int .i64 o] (mkH (gzT gz0)) 11 (ResM Tryz.prog false (.bool true)) :=
 Eq.mpr (by kernel_rfl) runLaw_r
theorem okLaw (hk:EntOK Tryz.prog 4 (eK gz0)):EntOK Tryz.prog 3 (fun H args=>match args with
  | [.int .i64 o]=>cond (selG gz0 H) (some (.need True (.ret (.bool true)))) none
  | _=>none):=by
 refine ent_of (gl:=gzT gz0) (ng:=11) (gzT_gl gz0) fun H args ct hct=>?_
 split at hct
 ·rename_i o
  cases hs:selG gz0 H with
  | false=>rw [hs] at hct;cases hct
  | true =>
   rw [hs] at hct
   injection hct with hct;subst hct
   exact ⟨selG_gl hs,⟨⟨rfl,rfl⟩,trivial⟩,_,_,rfl,fun _=>⟨cxK gz0 o o.toNat,200,rfl,fol,tb_cons hk tb_nil,runLaw o _ rfl⟩⟩
 ·cases hct
end Go.Proofs.YtfnieibeimklcaaGreatDoor
section
open Go Go.Ev
namespace Go.Proofs.YtfnieibeimklcaaGreatDoor
theorem gz_eq : gz0 = Go.Proofs.YtfnieibeimklcaaGreatDoorK.gz := by kernel_rfl
theorem okK : EntOK Tryz.prog 4 (eK gz0) := ent_cut ⟨_, _, Tryz.func4, by kernel_rfl, rfl⟩ fun w h => Go.Proofs.YtfnieibeimklcaaGreatDoorK.known_any w (gz_eq ▸ h)
end Go.Proofs.YtfnieibeimklcaaGreatDoor
end
