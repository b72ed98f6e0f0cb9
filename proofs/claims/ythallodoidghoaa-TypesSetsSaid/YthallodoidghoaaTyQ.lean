/- Laid by program out of its parts: TyQ. -/
import Derived.Test.YthallodoidghoaaTyP
set_option linter.unusedVariables false
set_option linter.unusedSimpArgs false
set_option maxRecDepth 100000
set_option maxHeartbeats 2000000
open Go Go.Ev
namespace Go.Proofs.Ythallodoidghoaa
noncomputable def eTerm5:Tr AObj→List AV→Option Ct:=fun _ args=>match args with
 | [.pv cs,.int .i64 i]=>some (.need (∃ (L:List LT) (x:LN) (X:List Int) (H R:List Bool),cs=pvR L x X H R∧R5OK L x X H R∧T5OK L x∧0≤i∧i < L.length) (.ret (.tup [.int .i64 (barr (term5c cs i.toNat).1),.bool (bar (term5c cs i.toNat).2)])))
 | _=>none
structure A5I (L:List LT) (x:LN) (i:Nat) (X:List Int) (H R:List Bool):Prop where
 le:i≤L.length
 ok:R5OK L x X H R
 right:∀ j,i≤j→j < L.length→R.getD j false=right5 L x.M x.C X H j
 term:∀ j,i≤j→j < L.length→termB (L.getD j LT.none).kind=true→(X.getD j 0,H.getD j false)=term5 L x.M x.C x.G X H R j
 no:∀ j,(j < i∨termB (L.getD j LT.none).kind=false)→X.getD j 0=0∧H.getD j false=false
def rB_ (l:List Bool):AObj:=.cells 4 .leaf (.rows 1 (rB l)) l.length true
def rX_ (l:List Int):AObj:=.cells 42 .leaf (.rows 1 (rI l)) l.length true
noncomputable def SAll (L:List LT) (x:LN):Stn:={ X:=Nat×List Int×List Bool×List Bool,T:=fun s _ y=>(6,.int .i64 ((y.1:Int) - 1)) :: keepT s [0,1,2,3,4,5],H:=fun s _ y=>(ptrId (s.T.get 5),.cells 424242 .leaf (.per (((cellsN s (ptrId (s.T.get 5)) 13).take 10) ++ [.slg s.nx y.2.1.length 1,.slg (s.nx + 1) y.2.2.1.length 1,.slg (s.nx + 2) y.2.2.2.length 1])) 13 false) ::
  (s.nx,rX_ y.2.1) :: (s.nx + 1,rB_ y.2.2.1) :: (s.nx + 2,rB_ y.2.2.2) :: keepBut s (ptrId (s.T.get 5)),nx:=fun s _=>s.nx + 3,I:=fun _ y=>A5I L x y.1 y.2.1 y.2.2.1 y.2.2.2,m:=fun y=>y.1 }
--#proofs
end Go.Proofs.Ythallodoidghoaa
