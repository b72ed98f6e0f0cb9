/- Laid by program out of its parts: TyP. -/
import Derived.Test.YthallodoidghoaaTyO
set_option linter.unusedVariables false
set_option linter.unusedSimpArgs false
set_option maxRecDepth 100000
set_option maxHeartbeats 2000000
open Go Go.Ev
namespace Go.Proofs.Ythallodoidghoaa
def term5 (L:List LT) (M:List (Int×Int)) (C G X:List Int) (H R:List Bool) (i:Nat):Int×Bool :=
 let k:=(L.getD i LT.none).kind
 let m:=M.getD i (0,0)
 let l:=(L.getD i LT.none).kids
 if k=26∨k=28 then (1,true)
 else if k=27 then (0,true)
 else if k=36 then (2,true)
 else if k=33 then (-1 - m.2,true)
 else if k=29 then (if m.1=1 then (ofT L M m.2,true) else if m.1=2 then (ofT L M (G.getD m.2.toNat 0),true) else if m.1=3 then (2,true) else (0,true))
 else if R.getD i false=false then (0,false)
 else if (∃ j,j < l.length∧H.getD (l.getD j 0).toNat false=false) then (0,false)
 else if k=34 then (5,true)
 else if k=30 then ((memT L M C (X.getD (kidN L i 0) 0) (L.getD i LT.none).text).2,true)
 else (1,true)
def term5c (cs:List AV) (i:Nat):Int×Bool:=term5 (cL cs) (cM cs) (cC cs) (cG cs) (cX cs) (cH cs) (cR cs) i
structure T5OK (L:List LT) (x:LN):Prop where
 g:∀ j,j < L.length→(x.M.getD j (0,0)).1=2→(x.M.getD j (0,0)).2 < x.G.length
structure TkI (L:List LT) (H:List Bool) (i j:Nat):Prop where
 le:j≤(L.getD i LT.none).kids.length
 al:∀ k,k < j→H.getD ((L.getD i LT.none).kids.getD k 0).toNat false=true
noncomputable def STk (L:List LT) (H:List Bool) (i:Nat):Stn:=thin Nat [0,1,4,5,6] (fun j=>[(8,.int .i64 j)]) (fun _ j=>TkI L H i j) fun j=>(L.getD i LT.none).kids.length - j
noncomputable def cxT5 (L:List LT) (H:List Bool) (i:Nat):Ctx:={ P:=Try.prog,tb:=[(424242,eOf1),(424242,eMem)],lp:=fun f r=>cond (Nat.beq f 424242) (cond (Nat.beq r 25) (some (STk L H i)) none) none,cut:=fun _ _=>none }
theorem vm_pv (L:List LT) (x:LN) (X:List Int) (H R:List Bool):vmP [] (.pv (pvR L x X H R)) (.pv (pvR L x X H R)):=⟨⟨rfl,rfl,⟨fun _ _=>vm_LT _⟩⟩,⟨rfl,rfl,⟨fun _ _=>vm_rM [] _⟩⟩,⟨rfl,rfl,⟨fun _ _=>vm_rI' [] _ _⟩⟩,⟨rfl,rfl,⟨fun _ _=>vm_rI' [] _ _⟩⟩,⟨rfl,rfl,⟨fun _ _=>vm_rI' [] _ _⟩⟩,⟨rfl,rfl,⟨fun _ _=>vm_rI' [] _ _⟩⟩,⟨rfl,rfl,⟨fun _ _=>vm_rI' [] _ _⟩⟩,⟨rfl,rfl,⟨fun _ _=>vm_rI' [] _ _⟩⟩,⟨rfl,rfl,⟨fun _ _=>⟨⟨rfl,rfl⟩,⟨rfl,rfl⟩,rfl,⟨rfl,rfl,⟨fun _ _=>vm_rI' [] _ _⟩⟩,trivial⟩⟩⟩,⟨rfl,rfl⟩,⟨rfl,rfl,⟨fun _ _=>vm_rI' [] _ _⟩⟩,⟨rfl,rfl,⟨fun _ _=>vm_rB _ _⟩⟩,⟨rfl,rfl,⟨fun _ _=>vm_rB _ _⟩⟩,trivial⟩
theorem okFits5:EntOK Try.prog 8 eFits5:=by
 refine ent_of2 (gl:=[]) (ng:=0) gl0 fun H args ct hct=>?_
 unfold eFits5 at hct
 split at hct
 ·rename_i a b
  injection hct with hct;subst hct
  refine ⟨gl0,_,_,rfl,?_⟩
  intro _
  exact ⟨⟨⟨rfl,rfl⟩,⟨rfl,rfl⟩,trivial⟩,cxN0,60,rfl,fol,tb_nil,runFits5 a b⟩
 ·cases hct
theorem term5_late {L:List LT} {M:List (Int×Int)} {C G X:List Int} {H R:List Bool} {i:Nat} (h1:(L.getD i LT.none).kind≠26) (h2:(L.getD i LT.none).kind≠28) (h3:(L.getD i LT.none).kind≠27) (h4:(L.getD i LT.none).kind≠36) (h5:(L.getD i LT.none).kind≠33) (h6:(L.getD i LT.none).kind≠29) :
  term5 L M C G X H R i=if R.getD i false=false then (0,false) else if (∃ j,j < (L.getD i LT.none).kids.length∧H.getD ((L.getD i LT.none).kids.getD j 0).toNat false=false) then (0,false)
   else if (L.getD i LT.none).kind=34 then (5,true) else if (L.getD i LT.none).kind=30 then ((memT L M C (X.getD (kidN L i 0) 0) (L.getD i LT.none).text).2,true) else (1,true):=by
 unfold term5
 dsimp only
 rw [if_neg (by rintro (h | h) <;> contradiction),if_neg h3,if_neg h4,if_neg h5,if_neg h6]
theorem term5_use {L:List LT} {M:List (Int×Int)} {C G X:List Int} {H R:List Bool} {i:Nat} (h:(L.getD i LT.none).kind=29) :
  term5 L M C G X H R i=if (M.getD i (0,0)).1=1 then (ofT L M (M.getD i (0,0)).2,true) else if (M.getD i (0,0)).1=2 then (ofT L M (G.getD (M.getD i (0,0)).2.toNat 0),true) else if (M.getD i (0,0)).1=3 then (2,true) else (0,true):=by
 unfold term5
 dsimp only
 rw [h,if_neg (by decide),if_neg (by decide),if_neg (by decide),if_neg (by decide),if_pos rfl]
end Go.Proofs.Ythallodoidghoaa
