/- Laid by program out of its parts: SxT, SxU, SxX. -/
import Derived.Test.YtedpjdkikbgojaaGreatDoorMf
import Derived.ChangeSlices
set_option linter.unusedVariables false
set_option linter.unusedSimpArgs false
section
/- The symbolic layer, part T: a contract out of a statement on calls, tables of the library in it. -/
namespace Go.Ev
open Go.RowKit
theorem ent_of_callsG {P : Program} {g : FuncId} {ent : Tr AObj → List AV → Option Ct} (hfn : ∃ fn c, P.funcs[g]? = some fn ∧ (fn.name == "runtime.NumGoroutine") = false ∧ fn.body = some c)
  (h:∀ H args ct,ent H args=some ct→∃ pre v,ct = .need pre (.ret v)∧(pre→∀ (ρ:Ren) (w:World) (vs:List Value),(∀ b o,ρ.st b=some o→w.heap[b]? = some o)→VRL ρ args vs →
   (∀ g l,H.get g=some (.glob l)→∃ cs e fz,w.heap[g]? = some (.cells cs e fz)∧∀ ρ',VRL ρ' l cs.toList) →
   Calls P g vs.toArray w fun e w'=>∃ u,e = .returned u∧VR ρ v u∧RowKit.Below w.heap.size w w')):EntOK P g ent:=by
 intro H args ct hct p v hout E F ρ w nx H' hG r
 obtain ⟨pre,v',rfl,h2⟩:=h H args ct hct
 obtain ⟨hp,rfl,rfl⟩:=ctOut_need hout
 refine ⟨hfn,fun vs hvs=>callsIn_wide.2 ((h2 hp ρ w vs r.st hvs fun g l hg=>?_).mono fun e w' ⟨u,he,hv,hb⟩=>?_)⟩
 ·obtain ⟨cs,e,fz,h3,h4⟩:=hG g l hg
  exact ⟨cs,e,fz,r.fr _ _ (r.bs _ _ h3),h4⟩
 ·exact ⟨u,ρ,he,⟨Ren.le_refl ρ,fun _ _=>rfl,Nat.le_succ _⟩,rel_below r hb,hv⟩
end Go.Ev
end
section
/- The symbolic layer, part U: slices from outside whose rows are contents in their turn; slices of which only the length is told. -/
namespace Go.Ev
def intRow (k:IntKind) (z:Int):List AV:=[.int k z]
end Go.Ev
end
section
/- The symbolic layer, part X: small tools for proofs about residual sentences; barriers. -/
namespace Go.Ev
noncomputable def bar (b:Bool):Bool:=@decide (b=true) (Classical.propDecidable _)
theorem bar_eq (b:Bool):bar b=b:=by unfold bar;cases b <;> simp
noncomputable def barr {α:Type} (a:α):α:=Classical.choose (⟨a,rfl⟩:∃ y,y=a)
theorem barr_eq {α:Type} (a:α):barr a=a:=Classical.choose_spec (⟨a,rfl⟩:∃ y,y=a)
theorem gl0 {q:Nat×AObj→Prop}:∀ p∈([]:List (Nat×AObj)),q p:=fun _ h=>by cases h
theorem cond_tf (b:Bool):(bif b then true else false)=b:=by cases b <;> rfl
theorem cond_cf (b c:Bool):(bif b then c else false)=(b && c):=by cases b <;> rfl
theorem nif_tf (b:Bool):(bif b then false else true) = !b:=by cases b <;> rfl
theorem rowB_self (l:List UInt8):rowB l.length (byteRow l)=l:=by
 unfold rowB byteRow byteO
 apply List.ext_getElem
 ·simp
 ·intro i h1 h2
  simp at h1 ⊢
  simp [h1]
theorem allBR_self (l:List UInt8):allBR l.length (byteRow l)=true:=decide_eq_true fun i _=>by
 unfold byteRow isBR
 exact inR_u8.2 (by have:=(l.getD i 0).toNat_lt;omega)
theorem brP_f {K L:Prop}:brP false K L=L:=rfl
theorem brP_t {K L:Prop}:brP true K L=K:=rfl
theorem sdA_t {K:Prop}:sdA true K=K:=rfl
theorem allI_true:(AllI fun _=>True)=True:=eq_true ⟨fun _=>trivial⟩
theorem ieq_self (z:Int):ieq z z=true:=by rw [ieq_eq];simp
end Go.Ev
end
