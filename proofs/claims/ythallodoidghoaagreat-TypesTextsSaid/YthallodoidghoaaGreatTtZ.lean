/- Laid by program out of its parts: TtZ. -/
import Derived.Test.YthallodoidghoaaGreatTy8
import Derived.Test.YthallodoidghoaaGreatPb5
noncomputable section
set_option linter.unusedVariables false
set_option linter.unusedSimpArgs false
set_option maxRecDepth 100000
set_option maxHeartbeats 2000000
open Go Go.Ev
namespace Go.Proofs.YthallodoidghoaaGreat
def Aqd:DQ:=[(11,pg),(6,eK),(3,pX)]
def z8:Ctx:={P:=Tryz.prog,tb:=Aqd,lp:=λ_ _=>none,cut:=λ_ _=>none}
def zm:Tr Ah->Al->Option Ct:=λ_ args=>match args with
 | [.bv l]=>some (.Bb True (.ret (.bool true)))
 |_=>none
theorem AdQ (W:AB):∃L:Ac,W.length=L.length/\QQ W=AE L:=by refine⟨W.map λx=>⟨x.kind,x.text,x.n,x.line,x.Av,x.kids⟩,by rw[HJ],funext λi=>?_⟩;unfold QQ AE;rw[Bt,Bt,I8];cases W[i]? <;>rfl
theorem AoV:∀(l:Aj),Ag (AP (1200:Int) (Int.ofNat l.length)) (True/\Aa) (Nat.le l.length 100000/\Ag (AP (0:Int) (Int.ofNat (List.length (AF (OJ l))))) (True/\Aa) ((∃(L:Ac),List.length (AF (Np l))=L.length/\QQ (AF (Np l))=AE L)/\Aa))
:=by intro l;simp only[Bq];refine Ao (λ_=>trivial) λh=>⟨by have:=Bl.1 h;omega,Ao (λ_=>trivial) λ_=>?_⟩;exact AdQ _
theorem AoU:∀l:Aj,(A3 z8 60).call 4 [.bv l] .leaf 0 (BS Tryz.prog false (.bool true)):=Eq.mpr (by kernel_rfl) AoV
theorem Ala (x:BC Tryz.prog 6 eK):BC Tryz.prog 4 zm:=by
 refine Cw (gl:=[]) (ng:=0) AS λH args ct r=>?_;unfold zm at r;split at r
 ·rename_i l;injection r with r;exact⟨AS,_,_,r.symm,λ_=>⟨⟨rfl,trivial⟩,z8,60,rfl,Dq,BD AkV (BD x (BD (AkA x) Bk)),AoU l⟩⟩
 ·cases r
end Go.Proofs.YthallodoidghoaaGreat
end
