/- Laid by program out of its parts: TyT. -/
import Derived.Test.YthallodoidghoaaTyS
set_option linter.unusedVariables false
set_option linter.unusedSimpArgs false
set_option maxRecDepth 100000
set_option maxHeartbeats 2000000
open Go Go.Ev
namespace Go.Proofs.Ythallodoidghoaa
def typ5 (L:List LT) (M:List (Int×Int)) (X:List Int) (i:Nat):Int:=if termB (L.getD i LT.none).kind=true then X.getD i 0 else ofT L M i
def wrongs (L:List LT) (R:List Bool):Nat→List (Int×Int×Int)
 | 0=>[]
 | i + 1=>if R.getD i false=true then wrongs L R i else wrongs L R i ++ [((L.getD i LT.none).line,(L.getD i LT.none).col,8)]
structure C5I (L:List LT) (M:List (Int×Int)) (X:List Int) (R:List Bool) (i:Nat) (o:List Int) (w:List (Int×Int×Int)):Prop where
 le:i≤L.length
 ol:o.length=i
 wl:w.length≤i
 w:w=wrongs L R i
 o:∀ j,j < i→o.getD j 0=typ5 L M X j
structure Q5 (L:List LT) (x:LN) (o:List Int) (w:List (Int×Int×Int)):Prop where
 q:∃ (X:List Int) (H R:List Bool),A5I L x 0 X H R∧(wrongs L R L.length≠[]→o=[]∧w=wrongs L R L.length)∧(wrongs L R L.length=[]→w=[]∧o.length=L.length∧∀ j,j < L.length→o.getD j 0=typ5 L x.M X j)
noncomputable def SC5 (L:List LT) (x:LN):Stn:={ X:=Nat×List Int×List (Int×Int×Int),T:=fun s _ y=>(7,.slg s.nx y.2.1.length 1) :: (8,.slg (s.nx + 1) y.2.2.length 3) :: (9,.int .i64 y.1) :: keepT s [0,1,2,3,4,5,6],H:=fun s n0 y=>(s.nx,rX_ y.2.1) :: (s.nx + 1,rowD y.2.2) :: keepH s n0,nx:=fun s _=>s.nx + 2,I:=fun s y=>∀ cs,s.T.get 6=some (.pv cs)→C5I L x.M (cX cs) (cR cs) y.1 y.2.1 y.2.2,m:=fun y=>L.length - y.1 }
theorem c5_o {L:List LT} {M:List (Int×Int)} {X:List Int} {R:List Bool} {i:Nat} {o:List Int} {w:List (Int×Int×Int)} (h:C5I L M X R i o w):∀ j,j < i + 1→(o ++ [typ5 L M X i]).getD j 0=typ5 L M X j:=fun j hj=>by
 have hol:=h.ol
 rcases Nat.lt_or_ge j i with h1 | h1
 ·rw [getD_apl (by omega)]
  exact h.o j h1
 ·obtain rfl:j=o.length:=by omega
  rw [getD_apr,hol]
theorem c5_ok {L:List LT} {M:List (Int×Int)} {X:List Int} {R:List Bool} {i:Nat} {o:List Int} {w:List (Int×Int×Int)} (h:C5I L M X R i o w) (hi:i < L.length) (hR:R.getD i false=true):C5I L M X R (i + 1) (o ++ [typ5 L M X i]) w:=by
 have hwl:=h.wl
 exact ⟨hi,by simp [h.ol],by omega,by rw [h.w,wrongs,if_pos hR],c5_o h⟩
theorem c5_bad {L:List LT} {M:List (Int×Int)} {X:List Int} {R:List Bool} {i:Nat} {o:List Int} {w:List (Int×Int×Int)} (h:C5I L M X R i o w) (hi:i < L.length) (hR:R.getD i false=false):C5I L M X R (i + 1) (o ++ [typ5 L M X i]) (w ++ [((L.getD i LT.none).line,(L.getD i LT.none).col,8)]):=by
 have hwl:=h.wl
 exact ⟨hi,by simp [h.ol],by simp;omega,by rw [wrongs,if_neg (by rw [hR];decide),← h.w],c5_o h⟩
end Go.Proofs.Ythallodoidghoaa
