/- Laid by program out of its parts: JrI. -/
import Derived.Test.YtedpjdkikbgojaaGreatDoorJrH
set_option linter.unusedVariables false
set_option linter.unusedSimpArgs false
set_option maxRecDepth 100000
open Go Go.Ev
namespace Go.Proofs.YtedpjdkikbgojaaGreatDoor
def rowS (S:List LS):Nat→List AV:=fun i=>[.int .i64 (S.getD i ⟨0,0⟩).func,.int .i64 (S.getD i ⟨0,0⟩).at_]
def isS1 (l:List AV):Bool:=match l with
 | [.int .i64 _,.int .i64 _]=>true
 | _=>false
def allS1 (n:Nat) (f:Nat→List AV):Bool:=decide (∀ i,i < n→isS1 (f i)=true)
def sitL (n:Nat) (f:Nat→List AV):List LS:=(List.range n).map fun i=>dLS (f i)
noncomputable def eEqS:Tr AObj→List AV→Option Ct:=fun _ args=>match args with
 | [.vec 2 n f,.vec 2 m g]=>some (.need (allS1 n f=true∧allS1 m g=true∧n≤2000000) (.ret (.bool (bar (decide (sitL n f=sitL m g))))))
 | _=>none
structure EqK (S T:List LS) (k:Nat):Prop where
 len:S.length=T.length
 le:k≤S.length
 al:∀ j,j < k→S.getD j ⟨0,0⟩=T.getD j ⟨0,0⟩
noncomputable def SEq (S T:List LS):Stn:=thin Nat [0,1,2,3,12] (fun k=>[(13,.int .i64 k)]) (fun _ k=>EqK S T k) fun k=>S.length - k
noncomputable def cxEq (S T:List LS):Ctx:=cx1 [] 116 4 (SEq S T)
@[reducible] def JrI_runEqS_k0:List LS→List LS→Prop:=fun (S T:List LS)=>(true=true∧List.length S=List.length S∧AllI fun (i:Nat)=>Nat.le (Nat.succ i) (List.length S)→(true=true∧LS.func (List.getD S i (LS.mk (0:Int) (0:Int)))=LS.func (List.getD S i (LS.mk (0:Int) (0:Int))))∧(true=true∧LS.at_ (List.getD S i (LS.mk (0:Int) (0:Int)))=LS.at_ (List.getD S i (LS.mk (0:Int) (0:Int))))∧True)∧(true=true∧List.length T=List.length T∧AllI fun (i:Nat)=>Nat.le (Nat.succ i) (List.length T)→(true=true∧LS.func (List.getD T i (LS.mk (0:Int) (0:Int)))=LS.func (List.getD T i (LS.mk (0:Int) (0:Int))))∧(true=true∧LS.at_ (List.getD T i (LS.mk (0:Int) (0:Int)))=LS.at_ (List.getD T i (LS.mk (0:Int) (0:Int))))∧True)∧(true=true∧Int.ofNat (List.length S)=Int.ofNat (List.length S))∧True
theorem runEqS_r:∀ (S T:List LS),Nat.le (List.length S) 2000000→brP (!ieq (Int.ofNat (List.length S)) (Int.ofNat (List.length T))) (false=decide (S=T)) ((∃ (x0:Nat),EqK S T x0∧true=true∧((true=true∧(0:Int)=(↑x0:Int))∧JrI_runEqS_k0 S T)∧True)∧∀ (x:Nat),EqK S T x→brP (ilt (↑x:Int) (Int.ofNat (List.length S))) (sdA (inB (↑x:Int) (List.length S)) (sdA (inB (↑x:Int) (List.length T)) ((((True∧True∧True)∧True)∧True)∧brP (!(ieq (LS.func (List.getD S (Int.toNat (↑x:Int)) (LS.mk (0:Int) (0:Int)))) (LS.func (List.getD T (Int.toNat (↑x:Int)) (LS.mk (0:Int) (0:Int)))) && (ieq (LS.at_ (List.getD S (Int.toNat (↑x:Int)) (LS.mk (0:Int) (0:Int)))) (LS.at_ (List.getD T (Int.toNat (↑x:Int)) (LS.mk (0:Int) (0:Int)))) && true))) (false=decide (S=T)) (sdA (inR IntKind.i64 ((↑x:Int) + (1:Int))) (∃ (x':Nat),EqK S T x'∧Nat.le (Nat.succ (List.length S - x')) (List.length S - x)∧true=true∧((true=true∧(↑x:Int) + (1:Int)=(↑x':Int))∧JrI_runEqS_k0 S T)∧True))))) (true=decide (S=T)))
:= by
 intro S T hs
 simp only [barr_eq,bar_eq,true_and,and_true,eq_self,implies_true,Nat.le_eq,cond_tf,cond_cf,nif_tf,Int.toNat_natCast,Int.ofNat_eq_natCast,Nat.ble_eq,Nat.ble_self_eq_true,Bool.true_and,Bool.and_true,Bool.and_self,Option.some.injEq,AV.int.injEq,rowB_self,allBR_self,Nat.mul_one,Nat.beq_refl,allI_true,cond_true,cond_false,ieq_self,Bool.not_true,Bool.not_false,decide_true,brP_f,brP_t,sdA_t,bytesL_packL,List.nil_append,JrI_runEqS_k0]
 have hs:S.length≤2000000:=hs
 refine brP_of (fun h=>?_) fun h=>?_
 ·rw [Bool.not_eq_true',ieq_iffn] at h
  rw [decide_eq_false]
  intro e;subst e;exact h rfl
 ·rw [Bool.not_eq_false',ieq_iff] at h
  have hl:S.length=T.length:=by omega
  refine ⟨⟨0,⟨hl,Nat.zero_le _,fun j hj=>by omega⟩,rfl⟩,fun x hx=>brP_of (fun h1=>?_) fun h1=>?_⟩
  ·rw [ilt_iff] at h1
   have hlt:x < S.length:=by omega
   refine sdA_of (inB_iff.2 (by omega)) (sdA_of (inB_iff.2 (by omega)) (brP_of (fun h2=>?_) fun h2=>sdA_of (inR_i64.2 (by omega)) ⟨x + 1,⟨hl,hlt,fun j hj=>?_⟩,by omega,by omega⟩))
   ·rw [decide_eq_false]
    intro e;subst e
    rw [ieq_self,ieq_self] at h2
    cases h2
   ·rcases Nat.lt_or_ge j x with h3 | h3
    ·exact hx.al j h3
    ·obtain rfl:j=x:=by omega
     rw [Bool.not_eq_false',Bool.and_eq_true,ieq_iff,ieq_iff] at h2
     generalize S.getD j ⟨0,0⟩=a at h2 ⊢
     generalize T.getD j ⟨0,0⟩=b at h2 ⊢
     cases a;cases b
     simp only at h2
     rw [h2.1,h2.2]
  ·rw [ilt_iffn] at h1
   have:=hx.le
   rw [decide_eq_true]
   apply List.ext_getElem hl
   intro i h3 h4
   have:=hx.al i (by omega)
   rw [List.getD_eq_getElem?_getD,List.getElem?_eq_getElem h3,List.getD_eq_getElem?_getD,List.getElem?_eq_getElem h4] at this
   exact this
theorem runEqS:∀ (S T:List LS),S.length≤2000000→(cRun (cxEq S T) 60).call 116 [.vec 2 S.length (rowS S),.vec 2 T.length (rowS T)] .leaf 0 (ResM Tryz.prog false (.bool (decide (S=T)))) :=
 Eq.mpr (by kernel_rfl) runEqS_r
theorem sitL_len (n:Nat) (f:Nat→List AV):(sitL n f).length=n:=by simp [sitL]
theorem sitL_get {n:Nat} {f:Nat→List AV} (h:allS1 n f=true) {i:Nat} (hi:i < n):f i=rowS (sitL n f) i:=by
 unfold allS1 at h
 have h5:=of_decide_eq_true h i hi
 have h1:(sitL n f).getD i ⟨0,0⟩=dLS (f i):=by simp [sitL,List.getD_eq_getElem?_getD,hi]
 unfold rowS
 rw [h1]
 unfold isS1 at h5
 split at h5
 ·rename_i a b hz;rw [hz];rfl
 ·cases h5
theorem vm_rowS (S:List LS) (i:Nat):vmL [] (rowS S i) (rowS S i):=⟨⟨rfl,rfl⟩,⟨rfl,rfl⟩,trivial⟩
theorem okEqS:EntOK Tryz.prog 116 eEqS:=by
 refine ent_any (gl:=[]) (ng:=0) gl0 fun H args ct hct=>?_
 unfold eEqS at hct
 split at hct
 ·rename_i n f m g
  injection hct with hct;subst hct
  refine ⟨gl0,_,_,rfl,?_⟩
  rintro ⟨h1,h2,h3⟩
  rw [bar_eq]
  refine ⟨[.vec 2 (sitL n f).length (rowS (sitL n f)),.vec 2 (sitL m g).length (rowS (sitL m g))],val_cons (va_vecE (sitL_len n f).symm fun i hi=>sitL_get h1 hi) (val_cons (va_vecE (sitL_len m g).symm fun i hi=>sitL_get h2 hi) val_nil),?_⟩
  exact ⟨⟨⟨rfl,rfl,⟨fun i _=>vm_rowS _ i⟩⟩,⟨rfl,rfl,⟨fun i _=>vm_rowS _ i⟩⟩,trivial⟩,cxEq _ _,60,rfl,fol,tb_nil,runEqS _ _ (by rw [sitL_len];exact h3)⟩
 ·cases hct
noncomputable def eqH:HEnt:=fun H nx args=>match args with
 | [.slg id n 2,.vec 2 m g]=>match H.get id with
  | some (.cells _ .leaf (.rows 2 f) N _)=>some (.need (allS1 n f=true∧allS1 m g=true∧n≤2000000∧n * 2≤N) (.ret (.bool (bar (decide (sitL n f=sitL m g)))) [] (nx + 1)))
  | _=>none
 | _=>none
theorem rowS_rel {ρ:Ren} {l:List AV} {vs:List Value} (h:isS1 l=true) (hv:VRL ρ l vs) {ρ':Ren}:VRL ρ' l vs:=by
 unfold isS1 at h
 split at h
 ·cases hv with
  | cons _ _ _ _ h1 h2=>cases h1;cases h2 with
   | cons _ _ _ _ h3 h4=>cases h3;cases h4;exact .cons _ _ _ _ (.int _ _) (.cons _ _ _ _ (.int _ _) .nil)
 ·cases h
theorem hent_eqS:HEntOK Tryz.prog 116 eqH:=by
 intro H nx args hc hent p v up nx' hout E F ρ w r
 unfold eqH at hent
 split at hent
 case h_2=>cases hent
 rename_i id n m g
 split at hent
 case h_2=>cases hent
 rename_i el f N op hH
 injection hent with hent
 subst hent
 have hneed:(@ite _ (allS1 n f=true∧allS1 m g=true∧n≤2000000∧n * 2≤N) (Classical.propDecidable _) (some (false,AV.bool (bar (decide (sitL n f=sitL m g))),[],nx + 1)) none)=some (p,v,up,nx'):=hout
 split at hneed
 case isFalse=>cases hneed
 rename_i hpre
 injection hneed with hneed
 injection hneed with e1 hneed
 injection hneed with e2 hneed
 injection hneed with e3 e4
 subst e1;subst e2;subst e3;subst e4
 obtain ⟨h1,h2,h3,h4⟩:=hpre
 refine ⟨⟨_,_,Tryz.func116,by kernel_rfl,rfl⟩,fun vs hvs=>callsIn_wide.2 ?_⟩
 have hvs2:VRL (wRen w) [.vec 2 n f,.vec 2 m g] vs:=by
  cases hvs with
  | cons _ u _ us hu hus =>
  cases hus with
  | cons _ u2 _ us2 hu2 hus2 =>
  cases hus2
  refine .cons _ _ _ _ ?_ (.cons _ _ _ _ ?_ .nil)
  ·cases hu with
   | slg0 _ _ _ hn base=>exact .vecz _ _ _ hn base 0
   | slg _ _ _ b hb he hl =>
    obtain ⟨c,hc',hor⟩:=r.ob id _ b hH hb
    cases hor with
    | cells _ _ _ _ _ cs fz hsize hn hop hfz hcell =>
     have hget:∀ i,i < n→∃ a c,f i=[.int .i64 a,.int .i64 c]∧cs[b.ob + i * 2]? = some (.int .i64 a)∧cs[b.ob + i * 2 + 1]? = some (.int .i64 c):=fun i hi=>by
      unfold allS1 at h1
      have h5:=of_decide_eq_true h1 i hi
      unfold isS1 at h5
      split at h5
      ·rename_i a c hfi
       obtain ⟨v1,q1,q2⟩:=hcell (i * 2) (.int .i64 a) (by omega) (by rw [cellOf_leaf];show (f (i * 2 / 2))[i * 2 % 2]? = _;rw [Nat.mul_div_cancel _ (by decide),Nat.mul_mod_left,hfi];rfl)
       obtain ⟨v2,q3,q4⟩:=hcell (i * 2 + 1) (.int .i64 c) (by omega) (by rw [cellOf_leaf];show (f ((i * 2 + 1) / 2))[(i * 2 + 1) % 2]? = _;rw [show (i * 2 + 1) / 2=i by omega,show (i * 2 + 1) % 2=1 by omega,hfi];rfl)
       cases q2;cases q4
       exact ⟨a,c,hfi,q1,by rw [Nat.add_assoc];exact q3⟩
      ·cases h5
     refine .vec _ _ _ b.b b.ob (b.cap / 2) cs _ fz (fun i=>[(cs[b.ob + i * 2]?).getD .nilFunc,(cs[b.ob + i * 2 + 1]?).getD .nilFunc]) (by exact hc') (by decide) (by omega) (fun i hi=>?_) (fun i hi j v hj=>?_)
     ·obtain ⟨a,c,q1,q2,q3⟩:=hget i hi
      rw [q1,q2,q3]
      exact .cons _ _ _ _ (.int _ _) (.cons _ _ _ _ (.int _ _) .nil)
     ·obtain ⟨a,c,q1,q2,q3⟩:=hget i hi
      rw [q2,q3] at hj
      match j,hj with
      | 0,hj=>injection hj with hj;rw [Nat.add_zero,q2];exact congrArg some hj
      | 1,hj=>injection hj with hj;rw [q3];exact congrArg some hj
      | j + 2,hj=>cases hj
  ·cases hu2 with
   | vec _ _ _ b o cap cs el' fz gg hs he hcap hv hcc =>
    exact .vec _ _ _ b o cap cs el' fz gg (r.st _ _ hs) he hcap (fun i hi=>rowS_rel (by unfold allS1 at h2;exact of_decide_eq_true h2 i hi) (hv i hi)) hcc
   | vecz _ _ _ h0 base cap=>exact .vecz _ _ _ h0 base cap
 refine (ent_callsW okEqS (args:=[.vec 2 n f,.vec 2 m g]) rfl (ctOut_of ⟨h1,h2,h3⟩) hvs2).mono fun e w' ⟨u,ρ',he,hu,_,hb⟩=>?_
 subst he
 cases hu
 exact ⟨_,ρ,rfl,⟨Ren.le_refl _,fun i hi'=>rfl,Nat.le_succ _⟩,rel_below r hb,.bool _⟩
noncomputable def htN:HTbl:=[(116,eqH)]
theorem htN_ok:HtOK Tryz.prog htN:=ht_cons hent_eqS (ht_nil _)
end Go.Proofs.YtedpjdkikbgojaaGreatDoor
