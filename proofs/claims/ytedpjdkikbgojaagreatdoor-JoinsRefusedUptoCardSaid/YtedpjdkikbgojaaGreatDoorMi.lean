/- Laid by program out of its parts: SxV. -/
import Derived.Test.YtedpjdkikbgojaaGreatDoorMh
import Derived.Test.YtedpjdkikbgojaaGreatDoorCd
set_option linter.unusedVariables false
set_option linter.unusedSimpArgs false
/- The symbolic layer, part V: a closed call that the plain evaluator (Go.EvC) did in parts, as a contract; tables of numbers. -/
namespace Go.Ev
open Go.RowKit
noncomputable def gzT (gz:Go.EvC.GZ):List (Nat×AObj):=gz.map fun p=>(p.1,.glob (p.2.2.map fun z=>.int p.2.1 z))
noncomputable def isTab (o:Option AObj) (l:List AV):Bool:=match o with
 | some (.glob m)=>avEqL m l
 | _=>false
theorem isTab_eq {o:Option AObj} {l:List AV} (h:isTab o l=true):o=some (.glob l):=by
 unfold isTab at h
 split at h
 ·rw [avEqL_eq _ _ h]
 ·cases h
noncomputable def selG (gz:Go.EvC.GZ) (H:Tr AObj):Bool:=List.rec (motive:=fun _=>Bool) true (fun p _ ih=>cond (isTab (H.get p.1) (p.2.2.map fun z=>.int p.2.1 z)) ih false) gz
theorem selG_ok {H:Tr AObj}:∀ {gz:Go.EvC.GZ},selG gz H=true→∀ p∈gz,H.get p.1=some (.glob (p.2.2.map fun z=>.int p.2.1 z))
 | [],_,p,hp=>by cases hp
 | q :: gz,h,p,hp=>by
  obtain ⟨h1,h2⟩:=cond_and (show cond (isTab (H.get q.1) (q.2.2.map fun z=>.int q.2.1 z)) (selG gz H) false=true from h)
  rcases List.mem_cons.1 hp with rfl | hp
  ·exact isTab_eq h1
  ·exact selG_ok h2 p hp
theorem selG_gl {H:Tr AObj} {gz:Go.EvC.GZ} (h:selG gz H=true):∀ p∈gzT gz,H.get p.1=some p.2:=fun p hp=>by
 obtain ⟨q,hq,rfl⟩:=List.mem_map.1 hp
 exact selG_ok h q hq
theorem gzT_gl (gz:Go.EvC.GZ):∀ p∈gzT gz,isGl p.2=true:=fun p hp=>by
 obtain ⟨q,_,rfl⟩:=List.mem_map.1 hp
 rfl
theorem ints_valsK {ρ:Ren} {k:IntKind}:∀ (zs:List Int) {vs:List Value},VRL ρ (zs.map fun z=>.int k z) vs→vs=zs.map fun z=>.int k z
 | [],_,.nil=>rfl
 | _ :: zs,_,.cons _ _ _ _ h hs=>by
  cases h
  rw [ints_valsK zs hs];rfl
theorem ints_relK {ρ:Ren} (k:IntKind):∀ zs:List Int,VRL ρ (zs.map fun z=>.int k z) (zs.map fun z=>.int k z)
 | []=>.nil
 | z :: zs=>.cons _ _ _ _ (.int k z) (ints_relK k zs)
theorem ent_cut {P : Program} {g : FuncId} {b : Bool} (hfn : ∃ fn c, P.funcs[g]? = some fn ∧ (fn.name == "runtime.NumGoroutine") = false ∧ fn.body = some c) {gz : Go.EvC.GZ}
  (h:∀ w:World,Go.EvC.TabsIn gz w→Calls P g #[] w fun e w'=>e = .returned (.bool b)∧RowKit.Below w.heap.size w w') :
  EntOK P g (fun H args=>match args with
   | []=>cond (selG gz H) (some (.need True (.ret (.bool b)))) none
   | _=>none) :=
 ent_of_callsG hfn fun H args ct hct=>by
  split at hct
  ·cases hs:selG gz H with
   | false=>rw [hs] at hct;cases hct
   | true =>
    rw [hs] at hct
    injection hct with hct
    refine ⟨True,_,hct.symm,fun _ ρ w vs _ hvs hG=>?_⟩
    cases hvs
    refine (h w fun p hp=>?_).mono fun e w' ⟨he,hb⟩=>⟨_,he,.bool b,hb⟩
    obtain ⟨cs,e,fz,h1,h2⟩:=hG p.1 _ (selG_ok hs p hp)
    exact ⟨cs,e,fz,h1,ints_valsK _ (h2 ρ)⟩
  ·cases hct
theorem gz_law {gz:Go.EvC.GZ} {W:World} (h:Go.EvC.TabsIn gz W):∀ g l,(mkH (gzT gz)).get g=some (.glob l)→∃ cs e fz,W.heap[g]? = some (.cells cs e fz)∧∀ ρ',VRL ρ' l cs.toList:=fun g l hg=>by
 obtain ⟨p,hp,he⟩:=List.mem_map.1 (mkH_get hg)
 injection he with h1 h2
 injection h2 with h2
 obtain ⟨cs,e,fz,h3,h4⟩:=h p hp
 subst h1
 refine ⟨cs,e,fz,h3,fun ρ'=>?_⟩
 rw [h4,← h2]
 exact ints_relK _ _
end Go.Ev
