/- Laid by program out of its parts: TyU. -/
import Derived.Test.YthallodoidghoaaTyT
set_option linter.unusedVariables false
set_option linter.unusedSimpArgs false
set_option maxRecDepth 100000
set_option maxHeartbeats 2000000
open Go Go.Ev
namespace Go.Proofs.Ythallodoidghoaa
def needsKV:List (Int×AV):=[(31,vI [5,1]),(34,vI [1]),(35,vI [5]),(15,vI [2]),(19,vI [2,3]),(20,vI [2,4]),(16,vI [3]),(17,vI [4]),(18,vI [1]),(23,vI [1]),(24,vI [1]),(32,vI [1,1])]
theorem runNeeds_r:(AV.int .i64 (31:Int)=AV.int .i64 (31:Int)∧AV.int .i64 (34:Int)=AV.int .i64 (34:Int)∧AV.int .i64 (35:Int)=AV.int .i64 (35:Int)∧AV.int .i64 (15:Int)=AV.int .i64 (15:Int)∧AV.int .i64 (19:Int)=AV.int .i64 (19:Int)∧AV.int .i64 (20:Int)=AV.int .i64 (20:Int)∧AV.int .i64 (16:Int)=AV.int .i64 (16:Int)∧AV.int .i64 (17:Int)=AV.int .i64 (17:Int)∧AV.int .i64 (18:Int)=AV.int .i64 (18:Int)∧AV.int .i64 (23:Int)=AV.int .i64 (23:Int)∧AV.int .i64 (24:Int)=AV.int .i64 (24:Int)∧AV.int .i64 (32:Int)=AV.int .i64 (32:Int)∧True)∧(true=true∧2=2∧AllI fun (i:Nat)=>Nat.le (Nat.succ i) 2→List.rec False (fun (head:AV) (tail:List AV) (tail_ih:Prop)=>(vmP.match_2 (fun (y:AV)=>Prop) head (fun (k':IntKind) (n:Int)=>Nat.beq 3 (ikN k')=true∧n=List.getD [(5:Int),(1:Int)] i (0:Int)) fun (x:AV)=>False)∧vmL.match_1 (fun (l:List AV)=>Prop) tail (fun (_:Unit)=>True) fun (x:List AV)=>False) (List.take 1 (List.drop (i * 1) [AV.int .i64 (5:Int),AV.int .i64 (1:Int)])))∧(true=true∧1=1∧AllI fun (i:Nat)=>Nat.le (Nat.succ i) 1→(true=true∧(1:Int)=List.getD [(1:Int)] i (0:Int))∧True)∧(true=true∧1=1∧AllI fun (i:Nat)=>Nat.le (Nat.succ i) 1→(true=true∧(5:Int)=List.getD [(5:Int)] i (0:Int))∧True)∧(true=true∧1=1∧AllI fun (i:Nat)=>Nat.le (Nat.succ i) 1→(true=true∧(2:Int)=List.getD [(2:Int)] i (0:Int))∧True)∧(true=true∧2=2∧AllI fun (i:Nat)=>Nat.le (Nat.succ i) 2→List.rec False (fun (head:AV) (tail:List AV) (tail_ih:Prop)=>(vmP.match_2 (fun (y:AV)=>Prop) head (fun (k':IntKind) (n:Int)=>Nat.beq 3 (ikN k')=true∧n=List.getD [(2:Int),(3:Int)] i (0:Int)) fun (x:AV)=>False)∧vmL.match_1 (fun (l:List AV)=>Prop) tail (fun (_:Unit)=>True) fun (x:List AV)=>False) (List.take 1 (List.drop (i * 1) [AV.int .i64 (2:Int),AV.int .i64 (3:Int)])))∧(true=true∧2=2∧AllI fun (i:Nat)=>Nat.le (Nat.succ i) 2→List.rec False (fun (head:AV) (tail:List AV) (tail_ih:Prop)=>(vmP.match_2 (fun (y:AV)=>Prop) head (fun (k':IntKind) (n:Int)=>Nat.beq 3 (ikN k')=true∧n=List.getD [(2:Int),(4:Int)] i (0:Int)) fun (x:AV)=>False)∧vmL.match_1 (fun (l:List AV)=>Prop) tail (fun (_:Unit)=>True) fun (x:List AV)=>False) (List.take 1 (List.drop (i * 1) [AV.int .i64 (2:Int),AV.int .i64 (4:Int)])))∧(true=true∧1=1∧AllI fun (i:Nat)=>Nat.le (Nat.succ i) 1→(true=true∧(3:Int)=List.getD [(3:Int)] i (0:Int))∧True)∧(true=true∧1=1∧AllI fun (i:Nat)=>Nat.le (Nat.succ i) 1→(true=true∧(4:Int)=List.getD [(4:Int)] i (0:Int))∧True)∧(true=true∧1=1∧AllI fun (i:Nat)=>Nat.le (Nat.succ i) 1→(true=true∧(1:Int)=List.getD [(1:Int)] i (0:Int))∧True)∧(true=true∧1=1∧AllI fun (i:Nat)=>Nat.le (Nat.succ i) 1→(true=true∧(1:Int)=List.getD [(1:Int)] i (0:Int))∧True)∧(true=true∧1=1∧AllI fun (i:Nat)=>Nat.le (Nat.succ i) 1→(true=true∧(1:Int)=List.getD [(1:Int)] i (0:Int))∧True)∧(true=true∧2=2∧AllI fun (i:Nat)=>Nat.le (Nat.succ i) 2→List.rec False (fun (head:AV) (tail:List AV) (tail_ih:Prop)=>(vmP.match_2 (fun (y:AV)=>Prop) head (fun (k':IntKind) (n:Int)=>Nat.beq 3 (ikN k')=true∧n=List.getD [(1:Int),(1:Int)] i (0:Int)) fun (x:AV)=>False)∧vmL.match_1 (fun (l:List AV)=>Prop) tail (fun (_:Unit)=>True) fun (x:List AV)=>False) (List.take 1 (List.drop (i * 1) [AV.int .i64 (1:Int),AV.int .i64 (1:Int)])))∧True
:= by
 repeat' with_reducible first
  | exact trivial
  | exact rfl
  | refine And.intro ?_ ?_
  | refine AllI.mk fun i hi=>?_
 all_goals (rcases i with _ | _ | i)
 all_goals first
  | exact ⟨⟨rfl,rfl⟩,trivial⟩
  | (have h1:0 + 1 + 1≤1:=hi;omega)
  | (have h1:i + 1 + 1 + 1≤1:=hi;omega)
  | (have h1:i + 1 + 1 + 1≤2:=hi;omega)
  | exact rfl
  | exact ⟨rfl,trivial⟩
  | trace_state
theorem runNeeds:(cRun cxN0 100).call 16 [] .leaf 0 (ResMapI Try.prog .i64 needsKV) :=
 Eq.mpr (by kernel_rfl) runNeeds_r
end Go.Proofs.Ythallodoidghoaa
