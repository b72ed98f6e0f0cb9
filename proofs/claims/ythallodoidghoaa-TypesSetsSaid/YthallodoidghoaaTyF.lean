/- Laid by program out of its parts: TyF. -/
import Derived.Test.YthallodoidghoaaTyE
set_option linter.unusedVariables false
set_option linter.unusedSimpArgs false
set_option maxRecDepth 100000
open Go Go.Ev
namespace Go.Proofs.Ythallodoidghoaa
structure NodeOK (L:List LT) (i r:Nat):Prop where
 kid:∀ c∈(L.getD i LT.none).kids,(i:Int) < c∧c < r
 head:headT (L.getD i LT.none)=true
 kinds:kidsM (lettersL (L.getD i LT.none).kind) ((L.getD i LT.none).kids.map (kindOf L))=true
 klen:(L.getD i LT.none).kids.length≤L.length
structure Seg (L:List LT) (a r:Nat):Prop where
 node:∀ i,a≤i→i < r→NodeOK L i r
 cov:∀ x,a < x→x < r→∃ i,i < x∧(x:Int)∈(L.getD i LT.none).kids
structure SegK (L:List LT) (a i next:Nat) (l:List Int):Prop where
 il:i≤(L.getD a LT.none).kids.length
 lo:a + 1 + i≤next
 hi:next≤L.length
 ks:∀ c∈(L.getD a LT.none).kids.take i,(a:Int) < c∧c < next
 lk:l=((L.getD a LT.none).kids.take i).map (kindOf L)
 node:∀ j,a + 1≤j→j < next→NodeOK L j next
 cov:∀ x,a < x→x < next→∃ j,j < x∧(x:Int)∈(L.getD j LT.none).kids
theorem NodeOK.mono {L:List LT} {i r r':Nat} (h:NodeOK L i r) (hr:r≤r'):NodeOK L i r' :=
 ⟨fun c hc=>⟨(h.kid c hc).1,by have:=(h.kid c hc).2;omega⟩,h.head,h.kinds,h.klen⟩
theorem go_seg (L:List LT):∀ (d:Nat),(∀ a nest,L.length - a≤d→goF L a nest≠0→Seg L a (goF L a nest)):=by
 intro d
 induction d with
 | zero=>intro a nest h h1;exact absurd (goF_out (.inl (by omega))) h1
 | succ d ih =>
  have hks:∀ (a:Nat) (nest:Int),L.length - a≤d + 1→a < L.length→∀ (n i next:Nat) (l:List Int) (r:Nat×List Int),(L.getD a LT.none).kids.length - i≤n→SegK L a i next l→goKs L a nest ((L.getD a LT.none).kids.drop i) i next l=some r →
    SegK L a (L.getD a LT.none).kids.length r.1 r.2:=by
   intro a nest ha hal n
   induction n with
   | zero =>
    intro i next l r hn hS h3
    have:=hS.il
    obtain rfl:i=(L.getD a LT.none).kids.length:=by omega
    rw [List.drop_length,goKs_nil] at h3
    injection h3 with h3;subst h3
    exact hS
   | succ n ihn =>
    intro i next l r hn hS h3
    rcases Nat.lt_or_ge i (L.getD a LT.none).kids.length with hlt | hge
    ·rw [drop_getI _ _ hlt] at h3
     by_cases hb:(L.getD a LT.none).kids.getD i 0≠(next:Int)∨L.length≤next∨next≤a
     ·rw [goKs_bad hb] at h3;cases h3
     ·by_cases hz:goF L next (nest + moreI L (L.getD a LT.none) i next)=0
      ·rw [goKs_zero hz] at h3;cases h3
      ·rw [goKs_step hb hz] at h3
       have hlo:=hS.lo
       have hg:=go_gt' hz
       have hseg:=ih next _ (by omega) hz
       have hk:(L.getD a LT.none).kids.getD i 0=(next:Int):=by
        by_cases e:(L.getD a LT.none).kids.getD i 0=(next:Int)
        ·exact e
        ·exact absurd (.inl e) hb
       have hmem:(next:Int)∈(L.getD a LT.none).kids:=hk ▸ getD_memI hlt
       have htk:(L.getD a LT.none).kids.take (i + 1)=(L.getD a LT.none).kids.take i ++ [(next:Int)]:=by
        rw [List.take_succ_eq_append_getElem hlt]
        rw [List.getD_eq_getElem?_getD,List.getElem?_eq_getElem hlt] at hk
        exact congrArg (fun z=>(L.getD a LT.none).kids.take i ++ [z]) hk
       refine ihn (i + 1) _ _ r (by omega) ⟨hlt,by omega,hg.2,fun c hc=>?_,?_,fun j hj hjr=>?_,fun x hx hxr=>?_⟩ h3
       ·rw [htk] at hc
        rcases List.mem_append.1 hc with hc | hc
        ·have:=hS.ks c hc;omega
        ·simp at hc;omega
       ·rw [htk,List.map_append,← hS.lk]
        simp [kindOf]
       ·rcases Nat.lt_or_ge j next with h5 | h5
        ·exact (hS.node j hj h5).mono (by omega)
        ·exact hseg.node j h5 hjr
       ·rcases Nat.lt_or_ge x next with h5 | h5
        ·exact hS.cov x hx h5
        ·rcases Nat.lt_or_ge next x with h6 | h6
         ·exact hseg.cov x h6 hxr
         ·obtain rfl:x=next:=by omega
          exact ⟨a,hx,hmem⟩
    ·have:=hS.il
     obtain rfl:i=(L.getD a LT.none).kids.length:=by omega
     rw [List.drop_length,goKs_nil] at h3
     injection h3 with h3;subst h3
     exact hS
  intro a nest ha h1
  by_cases h2:L.length≤a∨64 < nest
  ·exact absurd (goF_out h2) h1
  ·by_cases h3:headT (L.getD a LT.none)=false
   ·exact absurd (goF_bad h3) h1
   ·have h3:headT (L.getD a LT.none)=true:=by simpa using h3
    cases hk:goKs L a nest (L.getD a LT.none).kids 0 (a + 1) [] with
    | none=>exact absurd (goF_none hk) h1
    | some r =>
     have h0:=hks a nest ha (by omega) _ 0 (a + 1) [] r (Nat.le_refl _) ⟨Nat.zero_le _,Nat.le_refl _,by omega,fun c hc=>by simp at hc,by simp,fun j hj hj2=>by omega,fun x hx hx2=>by omega⟩ (by rw [List.drop_zero];exact hk)
     rw [goF_some h2 h3 hk] at h1 ⊢
     split at h1
     ·rename_i h4
      rw [if_pos h4]
      have hks:=h0.ks
      have hlk:=h0.lk
      have hlo:=h0.lo
      have hhi:=h0.hi
      rw [List.take_length] at hks hlk
      refine ⟨fun i hi hir=>?_,h0.cov⟩
      rcases Nat.lt_or_ge a i with h5 | h5
      ·exact h0.node i h5 hir
      ·obtain rfl:i=a:=by omega
       exact ⟨hks,h3,by rw [← hlk];exact h4,by omega⟩
     ·exact absurd rfl h1
theorem may_good {L:List LT} (h:mayT L=true):Good L:=by
 unfold mayT at h
 simp only [Bool.and_eq_true,decide_eq_true_eq] at h
 obtain ⟨h1,h2,h3⟩:=h
 have hs:=go_seg L _ 0 0 (Nat.le_refl _) (by omega)
 rw [h3] at hs
 exact ⟨h1,h2,fun i hi c hc=>(hs.node i (Nat.zero_le _) hi).kid c hc,fun i hi=>(hs.node i (Nat.zero_le _) hi).head,fun i hi=>(hs.node i (Nat.zero_le _) hi).kinds,fun i hi=>(hs.node i (Nat.zero_le _) hi).klen,fun x hx hxl=>hs.cov x hx hxl⟩
theorem okMay:EntOK Try.prog 10 eMay:=by
 refine ent_of2 (gl:=[]) (ng:=0) gl0 fun H args ct hct=>?_
 unfold eMay at hct
 split at hct
 ·rename_i n f
  injection hct with hct;subst hct
  refine ⟨gl0,_,_,rfl,?_⟩
  rintro ⟨L,rfl,rfl,hL⟩
  rw [bar_eq,rowTs_rowT]
  exact ⟨⟨vm_tree L,trivial⟩,_,60,rfl,fol,tb_cons (okGoN _) tb_nil,runMay L hL⟩
 ·cases hct
theorem oneI64_ok {g:FuncId} {f:Int→Bool} (h:∀ z:Int,(cRun cx0 60).call g [.int .i64 z] .leaf 0 (ResM Try.prog false (.bool (f z)))):EntOK Try.prog g (oneI64 f):=by
 refine ent_of (gl:=[]) (ng:=0) gl0 fun H args ct hct=>?_
 unfold oneI64 at hct
 split at hct
 ·rename_i z
  injection hct with hct;subst hct
  exact ⟨gl0,⟨⟨rfl,rfl⟩,trivial⟩,_,_,rfl,fun _=>⟨cx0,60,rfl,fol,tb_nil,by rw [bar_eq];exact h z⟩⟩
 ·cases hct
theorem okOpens:EntOK Try.prog 30 (oneI64 opensB):=oneI64_ok runOpens
theorem okNamed:EntOK Try.prog 27 (oneI64 namedB):=oneI64_ok runNamed
theorem okCount:EntOK Try.prog 11 eCount:=by
 refine ent_of2 (gl:=[]) (ng:=0) gl0 fun H args ct hct=>?_
 unfold eCount at hct
 split at hct
 ·rename_i n f k a
  injection hct with hct;subst hct
  refine ⟨gl0,_,_,rfl,?_⟩
  rintro ⟨L,rfl,rfl,hL,h0,h1⟩
  obtain ⟨b,rfl⟩:∃ b:Nat,a=b:=⟨a.toNat,by omega⟩
  rw [barr_eq,rowTs_rowT]
  exact ⟨⟨vm_tree L,⟨rfl,rfl⟩,⟨rfl,rfl⟩,trivial⟩,_,60,rfl,fol,tb_nil,runCount L k b hL (by omega)⟩
 ·cases hct
theorem okDecl:REntOK Try.prog 28 rDecl:=by
 refine rent_of (gl:=[]) (ng:=0) gl0 fun H args rc hrc hp=>?_
 unfold rDecl at hrc
 split at hrc
 ·rename_i n f s
  injection hrc with hrc;subst hrc
  obtain ⟨L,rfl,rfl,hL⟩:=hp
  exact ⟨gl0,⟨vm_tree L,rfl,trivial⟩,_,60,rfl,fol,tb_cons okNamed tb_nil,runDecl L s hL⟩
 ·cases hrc
theorem rowT_inj {L M:List LT} (h1:L.length=M.length) (h2:rowT L=rowT M):L=M:=by
 rw [← rowTs_rowT L,← rowTs_rowT M,h1,h2]
theorem okUps:REntOK Try.prog 12 rUps:=by
 refine rent_of (gl:=[]) (ng:=0) gl0 fun H args rc hrc hp=>?_
 unfold rUps at hrc
 split at hrc
 ·rename_i n f
  injection hrc with hrc;subst hrc
  obtain ⟨L,rfl,rfl,hL,hG⟩:=hp
  refine ⟨gl0,⟨vm_tree L,trivial⟩,cxU L,60,rfl,fol,tb_nil,?_⟩
  have:=runUps L hL hG
  have e:(fun U:List Int=>UpsOK L U)=fun U=>∀ M:List LT,L.length=M.length→rowT L=rowT M→UpsOK M U:=by
   funext U
   exact propext ⟨fun h M h1 h2=>rowT_inj h1 h2 ▸ h,fun h=>h L rfl rfl⟩
  rw [e] at this
  exact this
 ·cases hrc
end Go.Proofs.Ythallodoidghoaa
