/- Laid by program out of its parts: TyX. -/
import Derived.Test.YthallodoidghoaaTyW
set_option linter.unusedVariables false
set_option linter.unusedSimpArgs false
set_option maxRecDepth 100000
set_option maxHeartbeats 2000000
open Go Go.Ev
namespace Go.Proofs.Ythallodoidghoaa
def rightW (L:List LT) (M:List (Int×Int)) (C X:List Int) (t:LT):Bool :=
 if t.kind=13 then fitsN (kidX X t.kids 1) (kidX X t.kids 0)
 else if t.kind=14 then setM M t.kids 0 && fitsN (kidX X t.kids 1) (kidX X t.kids 0)
 else if t.kind=32∧t.text=[61,61] then fitsN (kidX X t.kids 0) (kidX X t.kids 1) || fitsN (kidX X t.kids 1) (kidX X t.kids 0)
 else if t.kind=30 then decide (kidX X t.kids 0=noT) || decide (0≤(memT L M C (kidX X t.kids 0) t.text).1)
 else if (t.kind=19∨t.kind=20)∧setM M t.kids 1=false then false
 else decide (∀ i,i < (needsL t.kind).length→i < t.kids.length→kidX X t.kids i=(needsL t.kind).getD i 0∨kidX X t.kids i=noT)
def termT (L:List LT) (M:List (Int×Int)) (C G X:List Int) (i:Nat):Int :=
 if (L.getD i LT.none).kind=27 then 0
 else if (L.getD i LT.none).kind=29 then useT L M G (M.getD i (0,0)).1 (M.getD i (0,0)).2
 else if (L.getD i LT.none).kind=30 then (memT L M C (kidX X (L.getD i LT.none).kids 0) (L.getD i LT.none).text).2
 else if (L.getD i LT.none).kind=33 then -1 - (M.getD i (0,0)).2
 else if (L.getD i LT.none).kind=34 then 5
 else if (L.getD i LT.none).kind=36 then 2
 else 1
def rightC (cs w:List AV):Bool:=rightW (cL cs) (cM cs) (cC cs) (cT cs) (dLT w)
def termC (cs:List AV) (i:Nat):Int:=termT (cL cs) (cM cs) (cC cs) (cG cs) (cT cs) i
noncomputable def eRightT:Tr AObj→List AV→Option Ct:=fun _ args=>match args with
 | [.pv cs,.agg w]=>some (.need (∃ (L:List LT) (x:LN) (X:List Int) (j:Nat),cs=pvC L x X∧RTOK L x X∧j < L.length∧w=(L.getD j LT.none).row) (.ret (.bool (bar (rightC cs w)))))
 | _=>none
noncomputable def eTermT:Tr AObj→List AV→Option Ct:=fun _ args=>match args with
 | [.pv cs,.int .i64 i]=>some (.need (∃ (L:List LT) (x:LN) (X:List Int),cs=pvC L x X∧RTOK L x X∧0≤i∧i < L.length) (.ret (.int .i64 (barr (termC cs i.toNat)))))
 | _=>none
structure NdI (X S N:List Int) (i:Nat):Prop where
 le:i≤N.length
 al:∀ q,q < i→q < S.length→kidX X S q=N.getD q 0∨kidX X S q=noT
noncomputable def SNd (X S:List Int) (k:Int):Stn:=thin Nat [0,3,95,96] (fun i=>[(97,.int .i64 i)]) (fun _ i=>NdI X S (needsL k) i) fun i=>(needsL k).length - i
noncomputable def cxRt (X S:List Int) (k:Int):Ctx:={ P:=Try.prog,tb:=[(38,eFitsC),(39,eSet),(41,eKid),(40,eMem)],lp:=fun f r=>cond (Nat.beq f 18) (cond (Nat.beq r 13) (some (SNd X S k)) none) none,cut:=fun _ _=>none }
noncomputable def cxTm:Ctx:={ P:=Try.prog,tb:=[(41,eKid),(43,eUse),(40,eMem)],lp:=fun _ _=>none,cut:=fun _ _=>none }
theorem okFitsT:EntOK Try.prog 51 eFits5:=by
 refine ent_of2 (gl:=[]) (ng:=0) gl0 fun H args ct hct=>?_
 unfold eFits5 at hct
 split at hct
 ·rename_i a b
  injection hct with hct;subst hct
  refine ⟨gl0,_,_,rfl,?_⟩
  intro _
  exact ⟨⟨⟨rfl,rfl⟩,⟨rfl,rfl⟩,trivial⟩,cxN0,60,rfl,fol,tb_nil,runFitsT a b⟩
 ·cases hct
theorem okTermTr:EntOK Try.prog 19 eTerm:=by
 refine ent_of2 (gl:=[]) (ng:=0) gl0 fun H args ct hct=>?_
 unfold eTerm at hct
 split at hct
 ·rename_i k
  injection hct with hct;subst hct
  exact ⟨gl0,_,_,rfl,fun _=>⟨⟨⟨rfl,rfl⟩,trivial⟩,cx0,60,rfl,fol,tb_nil,by rw [bar_eq];exact runTermT k⟩⟩
 ·cases hct
theorem vm_twig (k:Int) (s:List UInt8) (n a b:Int) (S:List Int):vmP [] (.agg [.int .i64 k,.bs s,.int .i64 n,.int .i64 a,.int .i64 b,.vec 1 S.length (rI S)]) (.agg [.int .i64 k,.bs s,.int .i64 n,.int .i64 a,.int .i64 b,.vec 1 S.length (rI S)]):=vm_LT ⟨k,s,n,a,b,S⟩
theorem okKid:EntOK Try.prog 41 eKid:=by
 refine ent_of2 (gl:=[]) (ng:=0) gl0 fun H args ct hct=>?_
 unfold eKid at hct
 split at hct
 ·rename_i cs k s n a b m f i
  injection hct with hct;subst hct
  refine ⟨gl0,_,_,rfl,?_⟩
  rintro ⟨L,x,X,S,rfl,hR,rfl,rfl,hS,h1,h2⟩
  rw [cT_pc,rowL_rI]
  exact ⟨⟨vm_pvC L x X,vm_twig k s n a b S,⟨rfl,rfl⟩,trivial⟩,cxN0,60,rfl,fol,tb_nil,runKid L x X S k s n a b i hR hS h1 h2⟩
 ·cases hct
theorem okSet:EntOK Try.prog 39 eSet:=by
 refine ent_of2 (gl:=[]) (ng:=0) gl0 fun H args ct hct=>?_
 unfold eSet at hct
 split at hct
 ·rename_i cs k s n a b m f i
  injection hct with hct;subst hct
  refine ⟨gl0,_,_,rfl,?_⟩
  rintro ⟨L,x,X,S,rfl,hR,rfl,rfl,hS,h1⟩
  rw [cM_pc,rowL_rI]
  exact ⟨⟨vm_pvC L x X,vm_twig k s n a b S,⟨rfl,rfl⟩,trivial⟩,cxN0,60,rfl,fol,tb_nil,runSet L x X S k s n a b i hR hS h1⟩
 ·cases hct
theorem okFitsC:EntOK Try.prog 38 eFitsC:=by
 refine ent_of2 (gl:=[]) (ng:=0) gl0 fun H args ct hct=>?_
 unfold eFitsC at hct
 split at hct
 ·rename_i cs k s n a b m f i j
  injection hct with hct;subst hct
  refine ⟨gl0,_,_,rfl,?_⟩
  rintro ⟨L,x,X,S,rfl,hR,rfl,rfl,hS,h1,h2,h3,h4⟩
  rw [cT_pc,rowL_rI]
  exact ⟨⟨vm_pvC L x X,vm_twig k s n a b S,⟨rfl,rfl⟩,⟨rfl,rfl⟩,trivial⟩,cxFc,60,rfl,fol,tb_cons okFitsT (tb_cons okKid tb_nil),runFitsC L x X S k s n a b i j hR hS h1 h2 h3 h4⟩
 ·cases hct
theorem okUse:EntOK Try.prog 43 eUse:=by
 refine ent_of2 (gl:=[]) (ng:=0) gl0 fun H args ct hct=>?_
 unfold eUse at hct
 split at hct
 ·rename_i cs k n
  injection hct with hct;subst hct
  refine ⟨gl0,_,_,rfl,?_⟩
  rintro ⟨L,x,X,rfl,hR,h1,h2⟩
  rw [cL_pc,cM_pc,cG_pc]
  exact ⟨⟨vm_pvC L x X,⟨⟨rfl,rfl⟩,⟨rfl,rfl⟩,trivial⟩,trivial⟩,cxOf1',60,rfl,fol,tb_cons okOf1 tb_nil,runUse L x X k n hR h1 h2⟩
 ·cases hct
theorem okCF:EntOK Try.prog 21 eCF:=by
 refine ent_of2 (gl:=[]) (ng:=0) gl0 fun H args ct hct=>?_
 unfold eCF at hct
 split at hct
 ·rename_i m f cs
  injection hct with hct;subst hct
  refine ⟨gl0,_,_,rfl,?_⟩
  rintro ⟨L,x,X,S,rfl,hR,rfl,rfl,hS⟩
  rw [noneC,cT_pc,rowL_rI]
  exact ⟨⟨⟨rfl,rfl,⟨fun i _=>vm_rI S i⟩⟩,⟨rfl,trivial,⟨⟨vm_pvC L x X,trivial⟩,trivial⟩⟩,trivial⟩,cxCf X S,60,rfl,fol,tb_nil,runCF L x X S hR hS⟩
 ·cases hct
theorem needsL_two (k:Int):(needsL k).length≤2:=by
 unfold needsL needsN
 simp only [lookI]
 repeat' split
 all_goals simp
theorem kids_inL {L:List LT} (hG:Good L) {j:Nat} (hj:j < L.length):inL L (L.getD j LT.none).kids:=⟨hG.klen j hj,fun c hc=>by
 obtain ⟨h1,h2⟩:=hG.kid j hj c hc
 exact ⟨by omega,h2⟩⟩
theorem nd_loop {L:List LT} {x:LN} {X S:List Int} {k:Int} {r:Bool} (hR:RTOK L x X) (hS:inL L S) (hW:r=decide (∀ i:Nat,i < (needsL k).length→i < S.length→kidX X S i=(needsL k).getD i 0∨kidX X S i=noT)) :
  (∃ x0,NdI X S (needsL k) x0∧(0:Int) = ↑x0∧∀ k:SKey,needsH k=false→needsVal k=AV.sl0∨∃ e f,needsVal k=AV.vec e 0 f)∧∀ i:Nat,NdI X S (needsL k) i →
  brP (ilt ↑i ↑(needsK (.int k)).length) (sdA (inB ↑i (needsK (.int k)).length) (brP (ilt ↑i ↑S.length)
   ((∃ L_1 x_2 X_1 S_1,pvC L x X=pvC L_1 x_2 X_1∧RTOK L_1 x_2 X_1∧S.length=S_1.length∧rI S=rI S_1∧inL L_1 S_1∧((i:Int) - 0).NonNeg∧((S_1.length:Int) - (i + 1)).NonNeg) ∧
    brP (!ieq (kidX X S ↑i) ((needsK (.int k)).getD i 0))
     ((∃ L_1 x_2 X_1 S_1,pvC L x X=pvC L_1 x_2 X_1∧RTOK L_1 x_2 X_1∧S.length=S_1.length∧rI S=rI S_1∧inL L_1 S_1∧((i:Int) - 0).NonNeg∧((S_1.length:Int) - (i + 1)).NonNeg) ∧
      brP (!ieq (kidX X S ↑i) 1073741824) (false=r) (sdA (inR IntKind.i64 (↑i + 1)) (∃ x',NdI X S (needsL k) x'∧((needsL k).length - x').succ≤(needsL k).length - i∧(i:Int) + 1 = ↑x'∧∀ k:SKey,needsH k=false→needsVal k=AV.sl0∨∃ e f,needsVal k=AV.vec e 0 f)))
     (sdA (inR IntKind.i64 (↑i + 1)) (∃ x',NdI X S (needsL k) x'∧((needsL k).length - x').succ≤(needsL k).length - i∧(i:Int) + 1 = ↑x'∧∀ k:SKey,needsH k=false→needsVal k=AV.sl0∨∃ e f,needsVal k=AV.vec e 0 f)))
   (sdA (inR IntKind.i64 (↑i + 1)) (∃ x',NdI X S (needsL k) x'∧((needsL k).length - x').succ≤(needsL k).length - i∧(i:Int) + 1 = ↑x'∧∀ k:SKey,needsH k=false→needsVal k=AV.sl0∨∃ e f,needsVal k=AV.vec e 0 f)))) (true=r):=by
 have h2:=needsL_two k
 refine ⟨⟨0,⟨Nat.zero_le _,fun q hq=>by omega⟩,rfl,needs_z⟩,fun i hi=>?_⟩
 have nk:needsK (.int k)=needsL k:=rfl
 rw [nk]
 have fin:(i < (needsL k).length)→(i < S.length→kidX X S i=(needsL k).getD i 0∨kidX X S i=noT)→sdA (inR IntKind.i64 (↑i + 1)) (∃ x',NdI X S (needsL k) x'∧((needsL k).length - x').succ≤(needsL k).length - i∧(i:Int) + 1 = ↑x'∧∀ k:SKey,needsH k=false→needsVal k=AV.sl0∨∃ e f,needsVal k=AV.vec e 0 f):=fun h3 h4 =>
  sdA_of (inR_i64.2 (by omega)) ⟨i + 1,⟨h3,fun q hq hs=>by
   rcases Nat.lt_or_ge q i with e | e
   ·exact hi.al q e hs
   ·obtain rfl:q=i:=by omega
    exact h4 hs⟩,by omega,by omega,needs_z⟩
 refine brP_of (fun h=>sdA_of (inB_iff.2 ⟨by omega,by rw [ilt_iff] at h;omega⟩) ?_) fun h=>?_
 ·rw [ilt_iff] at h
  have h3:i < (needsL k).length:=by omega
  refine brP_of (fun g=>?_) fun g=>fin h3 fun g2=>by rw [ilt_iffn] at g;omega
  rw [ilt_iff] at g
  have ex:∃ L_1 x_2 X_1 S_1,pvC L x X=pvC L_1 x_2 X_1∧RTOK L_1 x_2 X_1∧S.length=S_1.length∧rI S=rI S_1∧inL L_1 S_1∧((i:Int) - 0).NonNeg∧((S_1.length:Int) - (i + 1)).NonNeg :=
   ⟨L,x,X,S,rfl,hR,rfl,rfl,hS,(show (0:Int)≤i by omega),(show (i:Int) + 1≤S.length by omega)⟩
  refine ⟨ex,brP_of (fun e=>⟨ex,brP_of (fun e2=>?_) fun e2=>fin h3 fun _=>?_⟩) fun e=>fin h3 fun _=>?_⟩
  ·rw [Bool.not_eq_true',ieq_iffn] at e e2
   rw [hW]
   exact (decide_eq_false fun hall=>by
    rcases hall i h3 (by omega) with q | q
    ·exact e q
    ·exact e2 q).symm
  ·rw [Bool.not_eq_false',ieq_iff] at e2
   exact .inr e2
  ·rw [Bool.not_eq_false',ieq_iff] at e
   exact .inl e
 ·rw [ilt_iffn] at h
  have:=hi.le
  rw [hW]
  exact (decide_eq_true fun q hq hs=>hi.al q (by omega) hs).symm
@[reducible] def TyX_runRightT_k0:List LT→LN→List Int→Nat→Nat→List LT→LN→List Int→List Int→Prop:=fun (L:List LT) (x:LN) (X:List Int) (j a:Nat) (a_1:List LT) (a_2:LN) (a_3 a_4:List Int)=>pvC L x X=pvC a_1 a_2 a_3∧RTOK a_1 a_2 a_3∧List.length (LT.kids (List.getD L j LT.none))=a_4.length∧rI (LT.kids (List.getD L j LT.none))=rI a_4∧inL a_1 a_4∧Int.NonNeg ((↑a:Int) - 0)∧Int.NonNeg ((↑a_4.length:Int) - ((↑a:Int) + 1))
@[reducible] def TyX_runRightT_k1:List LT→LN→List Int→Nat→Prop:=fun (L:List LT) (x:LN) (X:List Int) (j:Nat)=>(∃ (L_1:List LT),∃ (x_1:LN),∃ (X_1:List Int),∃ (S:List Int),pvC L x X=pvC L_1 x_1 X_1∧RTOK L_1 x_1 X_1∧List.length (LT.kids (List.getD L j LT.none))=S.length∧rI (LT.kids (List.getD L j LT.none))=rI S∧inL L_1 S∧Int.NonNeg (1:Int)∧Int.NonNeg ((↑S.length:Int) - 2)∧Int.NonNeg (0:Int)∧Int.NonNeg ((↑S.length:Int) - 1))∧bar (fitsN (kidX (cT (pvC L x X)) (rowL (List.length (LT.kids (List.getD L j LT.none))) (rI (LT.kids (List.getD L j LT.none)))) (1:Int)) (kidX (cT (pvC L x X)) (rowL (List.length (LT.kids (List.getD L j LT.none))) (rI (LT.kids (List.getD L j LT.none)))) (0:Int)))=bar (rightW L x.M x.C X (List.getD L j LT.none))
@[reducible] def TyX_runRightT_k2:List LT→Nat→Prop:=fun (L:List LT) (j:Nat)=>(true=true∧true=true∧true=true∧true=true∧(((((True∧true=true∧LT.kind (List.getD L j LT.none)=LT.kind (List.getD L j LT.none))∧LT.text (List.getD L j LT.none)=LT.text (List.getD L j LT.none))∧true=true∧LT.n (List.getD L j LT.none)=LT.n (List.getD L j LT.none))∧true=true∧LT.line (List.getD L j LT.none)=LT.line (List.getD L j LT.none))∧true=true∧LT.col (List.getD L j LT.none)=LT.col (List.getD L j LT.none))∧true=true∧List.length (LT.kids (List.getD L j LT.none))=List.length (LT.kids (List.getD L j LT.none))∧AllI fun (i:Nat)=>Nat.le (Nat.succ i) (List.length (LT.kids (List.getD L j LT.none)))→(true=true∧List.getD (LT.kids (List.getD L j LT.none)) i (0:Int)=List.getD (LT.kids (List.getD L j LT.none)) i (0:Int))∧True)∧True
@[reducible] def TyX_runRightT_k3:List LT→LN→List Int→Nat→Prop:=fun (L:List LT) (x:LN) (X:List Int) (j:Nat)=>((true=true∧L.length=L.length∧AllI fun (i:Nat)=>Nat.le (Nat.succ i) L.length→(true=true∧LT.kind (List.getD L i LT.none)=LT.kind (List.getD L i LT.none))∧LT.text (List.getD L i LT.none)=LT.text (List.getD L i LT.none)∧(true=true∧LT.n (List.getD L i LT.none)=LT.n (List.getD L i LT.none))∧(true=true∧LT.line (List.getD L i LT.none)=LT.line (List.getD L i LT.none))∧(true=true∧LT.col (List.getD L i LT.none)=LT.col (List.getD L i LT.none))∧(true=true∧List.length (LT.kids (List.getD L i LT.none))=List.length (LT.kids (List.getD L i LT.none))∧AllI fun (i_1:Nat)=>Nat.le (Nat.succ i_1) (List.length (LT.kids (List.getD L i LT.none)))→(true=true∧List.getD (LT.kids (List.getD L i LT.none)) i_1 (0:Int)=List.getD (LT.kids (List.getD L i LT.none)) i_1 (0:Int))∧True)∧True)∧(true=true∧x.M.length=x.M.length∧AllI fun (i:Nat)=>Nat.le (Nat.succ i) x.M.length→(true=true∧Prod.fst (List.getD x.M i ((0:Int),(0:Int)))=Prod.fst (List.getD x.M i ((0:Int),(0:Int))))∧(true=true∧Prod.snd (List.getD x.M i ((0:Int),(0:Int)))=Prod.snd (List.getD x.M i ((0:Int),(0:Int))))∧True)∧(true=true∧x.O.length=x.O.length∧AllI fun (i:Nat)=>Nat.le (Nat.succ i) x.O.length→(true=true∧List.getD x.O i (0:Int)=List.getD x.O i (0:Int))∧True)∧(true=true∧x.Lo.length=x.Lo.length∧AllI fun (i:Nat)=>Nat.le (Nat.succ i) x.Lo.length→(true=true∧List.getD x.Lo i (0:Int)=List.getD x.Lo i (0:Int))∧True)∧(true=true∧x.C.length=x.C.length∧AllI fun (i:Nat)=>Nat.le (Nat.succ i) x.C.length→(true=true∧List.getD x.C i (0:Int)=List.getD x.C i (0:Int))∧True)∧(true=true∧x.G.length=x.G.length∧AllI fun (i:Nat)=>Nat.le (Nat.succ i) x.G.length→(true=true∧List.getD x.G i (0:Int)=List.getD x.G i (0:Int))∧True)∧(true=true∧x.Co.length=x.Co.length∧AllI fun (i:Nat)=>Nat.le (Nat.succ i) x.Co.length→(true=true∧List.getD x.Co i (0:Int)=List.getD x.Co i (0:Int))∧True)∧(true=true∧x.E.length=x.E.length∧AllI fun (i:Nat)=>Nat.le (Nat.succ i) x.E.length→(true=true∧List.getD x.E i (0:Int)=List.getD x.E i (0:Int))∧True)∧(true=true∧x.Fs.length=x.Fs.length∧AllI fun (i:Nat)=>Nat.le (Nat.succ i) x.Fs.length→(true=true∧LFn.twig (List.getD x.Fs i LFn.none)=LFn.twig (List.getD x.Fs i LFn.none))∧(true=true∧LFn.up (List.getD x.Fs i LFn.none)=LFn.up (List.getD x.Fs i LFn.none))∧LFn.name (List.getD x.Fs i LFn.none)=LFn.name (List.getD x.Fs i LFn.none)∧(true=true∧List.length (LFn.caps (List.getD x.Fs i LFn.none))=List.length (LFn.caps (List.getD x.Fs i LFn.none))∧AllI fun (i_1:Nat)=>Nat.le (Nat.succ i_1) (List.length (LFn.caps (List.getD x.Fs i LFn.none)))→(true=true∧List.getD (LFn.caps (List.getD x.Fs i LFn.none)) i_1 (0:Int)=List.getD (LFn.caps (List.getD x.Fs i LFn.none)) i_1 (0:Int))∧True)∧True)∧(true=true∧x.main=x.main)∧(true=true∧X.length=X.length∧AllI fun (i:Nat)=>Nat.le (Nat.succ i) X.length→(true=true∧List.getD X i (0:Int)=List.getD X i (0:Int))∧True)∧((∀ (k:SKey),needsH k=needsH k)∧(∀ (k:SKey),true=true∧List.length (barr (needsK k))=List.length (barr (needsK k))∧AllI fun (i:Nat)=>Nat.le (Nat.succ i) (List.length (barr (needsK k)))→(true=true∧List.getD (barr (needsK k)) i (0:Int)=List.getD (barr (needsK k)) i (0:Int))∧True)∧∀ (k:SKey),needsH k=false→needsVal k=AV.sl0∨AV.sl0=AV.sl0∧∃ (e:Nat),∃ (f:Nat→List AV),needsVal k=AV.vec e 0 f)∧True)∧(some 0=some 0∧true=true)∧(true=true∧List.length (barr (needsK (SKey.int (LT.kind (List.getD L j LT.none)))))=List.length (barr (needsK (SKey.int (LT.kind (List.getD L j LT.none)))))∧AllI fun (i:Nat)=>Nat.le (Nat.succ i) (List.length (barr (needsK (SKey.int (LT.kind (List.getD L j LT.none))))))→(true=true∧List.getD (barr (needsK (SKey.int (LT.kind (List.getD L j LT.none))))) i (0:Int)=List.getD (barr (needsK (SKey.int (LT.kind (List.getD L j LT.none))))) i (0:Int))∧True)∧(true=true∧Int.ofNat (List.length (barr (needsK (SKey.int (LT.kind (List.getD L j LT.none))))))=Int.ofNat (List.length (barr (needsK (SKey.int (LT.kind (List.getD L j LT.none)))))))∧True
@[reducible] def TyX_runRightT_k4:List LT→LN→List Int→Nat→Nat→Nat→Prop:=fun (L:List LT) (x:LN) (X:List Int) (j a a_1:Nat)=>NdI X (LT.kids (List.getD L j LT.none)) (needsL (LT.kind (List.getD L j LT.none))) a_1∧Nat.le (Nat.succ (List.length (needsL (LT.kind (List.getD L j LT.none))) - a_1)) (List.length (needsL (LT.kind (List.getD L j LT.none))) - a)∧true=true∧((true=true∧(↑a:Int) + 1=(↑a_1:Int))∧TyX_runRightT_k3 L x X j)∧TyX_runRightT_k2 L j
@[reducible] def TyX_runRightT_k5:List LT→LN→List Int→Nat→Prop:=fun (L:List LT) (x:LN) (X:List Int) (j:Nat)=>(∃ (L_1:List LT),∃ (x_1:LN),∃ (X_1:List Int),∃ (S:List Int),pvC L x X=pvC L_1 x_1 X_1∧RTOK L_1 x_1 X_1∧List.length (LT.kids (List.getD L j LT.none))=S.length∧rI (LT.kids (List.getD L j LT.none))=rI S∧inL L_1 S∧Int.NonNeg (0:Int)∧Int.NonNeg ((↑S.length:Int) - 1))∧(∃ (L_1:List LT),∃ (x_1:LN),L.length=L_1.length∧rowT L=rowT L_1∧x.M.length=x_1.M.length∧rM x.M=rM x_1.M∧vI x.O=vI x_1.O∧vI x.Lo=vI x_1.Lo∧x.C.length=x_1.C.length∧rI x.C=rI x_1.C∧List.take._f 5 ⟨List.take._f 4 ⟨List.take._f 3 ⟨List.take._f 2 ⟨List.take._f 1 ⟨List.take._f 0 PUnit.unit,PUnit.unit⟩,List.take._f 0 PUnit.unit,PUnit.unit⟩,List.take._f 1 ⟨List.take._f 0 PUnit.unit,PUnit.unit⟩,List.take._f 0 PUnit.unit,PUnit.unit⟩,List.take._f 2 ⟨List.take._f 1 ⟨List.take._f 0 PUnit.unit,PUnit.unit⟩,List.take._f 0 PUnit.unit,PUnit.unit⟩,List.take._f 1 ⟨List.take._f 0 PUnit.unit,PUnit.unit⟩,List.take._f 0 PUnit.unit,PUnit.unit⟩,List.take._f 3 ⟨List.take._f 2 ⟨List.take._f 1 ⟨List.take._f 0 PUnit.unit,PUnit.unit⟩,List.take._f 0 PUnit.unit,PUnit.unit⟩,List.take._f 1 ⟨List.take._f 0 PUnit.unit,PUnit.unit⟩,List.take._f 0 PUnit.unit,PUnit.unit⟩,List.take._f 2 ⟨List.take._f 1 ⟨List.take._f 0 PUnit.unit,PUnit.unit⟩,List.take._f 0 PUnit.unit,PUnit.unit⟩,List.take._f 1 ⟨List.take._f 0 PUnit.unit,PUnit.unit⟩,List.take._f 0 PUnit.unit,PUnit.unit⟩ [vI x.G,vI x.Co,vI x.E,AV.vec 4 x.Fs.length (rFn x.Fs),AV.int .i64 x.main,vI X,needsM]=LN.rest2 x_1∧MOK L_1 x_1.M∧Good L_1∧(∀ (c:Int),List.Mem c x_1.C→Int.NonNeg (c - 0)∧Int.NonNeg ((↑L_1.length:Int) - (c + 1)))∧Int.NonNeg (barr (kidX (cT (pvC L x X)) (rowL (List.length (LT.kids (List.getD L j LT.none))) (rI (LT.kids (List.getD L j LT.none)))) (0:Int)) - Int.negSucc 999999999)∧Int.NonNeg ((9223372036854775807:Int) - barr (kidX (cT (pvC L x X)) (rowL (List.length (LT.kids (List.getD L j LT.none))) (rI (LT.kids (List.getD L j LT.none)))) (0:Int))))∧(((AV.bs (LT.text (List.getD L j LT.none))=AV.bs (LT.text (List.getD L j LT.none))∧True∧True∧True∧True)∧True)∧((True∧True∧True∧True∧True)∧True)∧((True∧True∧AV.agg (List.take (Program.cellsOf Try.prog 31) (List.drop 1 (pvC L x X)))=AV.agg (List.take (Program.cellsOf Try.prog 31) (List.drop 1 (pvC L x X)))∧AV.agg (List.take (Program.cellsOf Try.prog 24) (List.drop 0 (pvC L x X)))=AV.agg (List.take (Program.cellsOf Try.prog 24) (List.drop 0 (pvC L x X)))∧True)∧True)∧True)∧(∃ (L_1:List LT),∃ (x_1:LN),∃ (X_1:List Int),∃ (S:List Int),pvC L x X=pvC L_1 x_1 X_1∧RTOK L_1 x_1 X_1∧List.length (LT.kids (List.getD L j LT.none))=S.length∧rI (LT.kids (List.getD L j LT.none))=rI S∧inL L_1 S∧Int.NonNeg (0:Int)∧Int.NonNeg ((↑S.length:Int) - 1))∧brP (ieq (barr (kidX (cT (pvC L x X)) (rowL (List.length (LT.kids (List.getD L j LT.none))) (rI (LT.kids (List.getD L j LT.none)))) (0:Int))) (1073741824:Int)) (true=bar (rightW L x.M x.C X (List.getD L j LT.none))) ((!ilt (barr (Prod.fst (memT (rowTs L.length (rowT L)) (rowMs x.M.length (rM x.M)) (rowL x.C.length (rI x.C)) (barr (kidX (cT (pvC L x X)) (rowL (List.length (LT.kids (List.getD L j LT.none))) (rI (LT.kids (List.getD L j LT.none)))) (0:Int))) (LT.text (List.getD L j LT.none))))) (0:Int))=bar (rightW L x.M x.C X (List.getD L j LT.none)))
@[reducible] def TyX_runRightT_k6:List LT→LN→List Int→Nat→Prop:=fun (L:List LT) (x:LN) (X:List Int) (j:Nat)=>(((True∧True∧True∧True∧True)∧True)∧True)∧(∃ (x0:Nat),NdI X (LT.kids (List.getD L j LT.none)) (needsL (LT.kind (List.getD L j LT.none))) x0∧true=true∧((true=true∧(0:Int)=(↑x0:Int))∧TyX_runRightT_k3 L x X j)∧TyX_runRightT_k2 L j)∧∀ (x_1:Nat),NdI X (LT.kids (List.getD L j LT.none)) (needsL (LT.kind (List.getD L j LT.none))) x_1→brP (ilt (↑x_1:Int) (Int.ofNat (List.length (barr (needsK (SKey.int (LT.kind (List.getD L j LT.none)))))))) (sdA (inB (↑x_1:Int) (List.length (barr (needsK (SKey.int (LT.kind (List.getD L j LT.none))))))) (brP (ilt (↑x_1:Int) (Int.ofNat (List.length (LT.kids (List.getD L j LT.none))))) ((∃ (L_1:List LT),∃ (x_2:LN),∃ (X_1:List Int),∃ (S:List Int),TyX_runRightT_k0 L x X j x_1 L_1 x_2 X_1 S)∧brP (!ieq (barr (kidX (cT (pvC L x X)) (rowL (List.length (LT.kids (List.getD L j LT.none))) (rI (LT.kids (List.getD L j LT.none)))) (↑x_1:Int))) (List.getD (barr (needsK (SKey.int (LT.kind (List.getD L j LT.none))))) (Int.toNat (↑x_1:Int)) (0:Int))) ((∃ (L_1:List LT),∃ (x_2:LN),∃ (X_1:List Int),∃ (S:List Int),TyX_runRightT_k0 L x X j x_1 L_1 x_2 X_1 S)∧brP (!ieq (barr (kidX (cT (pvC L x X)) (rowL (List.length (LT.kids (List.getD L j LT.none))) (rI (LT.kids (List.getD L j LT.none)))) (↑x_1:Int))) (1073741824:Int)) (false=bar (rightW L x.M x.C X (List.getD L j LT.none))) (sdA (inR .i64 ((↑x_1:Int) + 1)) (∃ (x':Nat),TyX_runRightT_k4 L x X j x_1 x'))) (sdA (inR .i64 ((↑x_1:Int) + 1)) (∃ (x':Nat),TyX_runRightT_k4 L x X j x_1 x'))) (sdA (inR .i64 ((↑x_1:Int) + 1)) (∃ (x':Nat),TyX_runRightT_k4 L x X j x_1 x')))) (true=bar (rightW L x.M x.C X (List.getD L j LT.none)))
@[reducible] def TyX_runRightT_k7:List LT→LN→List Int→Nat→Prop:=fun (L:List LT) (x:LN) (X:List Int) (j:Nat)=>(∃ (L_1:List LT),∃ (x_1:LN),∃ (X_1:List Int),∃ (S:List Int),pvC L x X=pvC L_1 x_1 X_1∧RTOK L_1 x_1 X_1∧List.length (LT.kids (List.getD L j LT.none))=S.length∧rI (LT.kids (List.getD L j LT.none))=rI S∧inL L_1 S∧Int.NonNeg (1:Int))∧brP (!bar (setM (cM (pvC L x X)) (rowL (List.length (LT.kids (List.getD L j LT.none))) (rI (LT.kids (List.getD L j LT.none)))) (1:Int))) (false=bar (rightW L x.M x.C X (List.getD L j LT.none))) (sdA (bif needsH (SKey.int (1180591620717411303428:Int)) then ilt (LT.kind (List.getD L j LT.none)) (1180591620717411303424:Int) else false) (TyX_runRightT_k6 L x X j))
theorem runRightT_r:∀ (L:List LT) (x:LN) (X:List Int) (j:Nat),RTOK L x X→Nat.le (Nat.succ j) L.length→brP (ieq (LT.kind (List.getD L j LT.none)) (13:Int)) (TyX_runRightT_k1 L x X j) (brP (ieq (LT.kind (List.getD L j LT.none)) (14:Int)) ((∃ (L_1:List LT),∃ (x_1:LN),∃ (X_1:List Int),∃ (S:List Int),pvC L x X=pvC L_1 x_1 X_1∧RTOK L_1 x_1 X_1∧List.length (LT.kids (List.getD L j LT.none))=S.length∧rI (LT.kids (List.getD L j LT.none))=rI S∧inL L_1 S∧Int.NonNeg (0:Int))∧brP (bar (setM (cM (pvC L x X)) (rowL (List.length (LT.kids (List.getD L j LT.none))) (rI (LT.kids (List.getD L j LT.none)))) (0:Int))) (TyX_runRightT_k1 L x X j) (false=bar (rightW L x.M x.C X (List.getD L j LT.none)))) (brP (ieq (LT.kind (List.getD L j LT.none)) (32:Int)) (brP (decide (LT.text (List.getD L j LT.none)=[(61:UInt8),(61:UInt8)])) ((∃ (L_1:List LT),∃ (x_1:LN),∃ (X_1:List Int),∃ (S:List Int),pvC L x X=pvC L_1 x_1 X_1∧RTOK L_1 x_1 X_1∧List.length (LT.kids (List.getD L j LT.none))=S.length∧rI (LT.kids (List.getD L j LT.none))=rI S∧inL L_1 S∧Int.NonNeg (0:Int)∧Int.NonNeg ((↑S.length:Int) - 1)∧Int.NonNeg (1:Int)∧Int.NonNeg ((↑S.length:Int) - 2))∧brP (bar (fitsN (kidX (cT (pvC L x X)) (rowL (List.length (LT.kids (List.getD L j LT.none))) (rI (LT.kids (List.getD L j LT.none)))) (0:Int)) (kidX (cT (pvC L x X)) (rowL (List.length (LT.kids (List.getD L j LT.none))) (rI (LT.kids (List.getD L j LT.none)))) (1:Int)))) (true=bar (rightW L x.M x.C X (List.getD L j LT.none))) (TyX_runRightT_k1 L x X j)) (brP (ieq (LT.kind (List.getD L j LT.none)) (30:Int)) (TyX_runRightT_k5 L x X j) (brP (ieq (LT.kind (List.getD L j LT.none)) (19:Int)) (TyX_runRightT_k7 L x X j) (brP (ieq (LT.kind (List.getD L j LT.none)) (20:Int)) (TyX_runRightT_k7 L x X j) (sdA (bif needsH (SKey.int (1180591620717411303428:Int)) then ilt (LT.kind (List.getD L j LT.none)) (1180591620717411303424:Int) else false) (TyX_runRightT_k6 L x X j)))))) (brP (ieq (LT.kind (List.getD L j LT.none)) (30:Int)) (TyX_runRightT_k5 L x X j) (brP (ieq (LT.kind (List.getD L j LT.none)) (19:Int)) (TyX_runRightT_k7 L x X j) (brP (ieq (LT.kind (List.getD L j LT.none)) (20:Int)) (TyX_runRightT_k7 L x X j) (sdA (bif needsH (SKey.int (1180591620717411303428:Int)) then ilt (LT.kind (List.getD L j LT.none)) (1180591620717411303424:Int) else false) (TyX_runRightT_k6 L x X j)))))))
:= by
 intro L x X j hR hj
 simp only [barr_eq,bar_eq,true_and,and_true,eq_self,implies_true,Nat.le_eq,cond_tf,cond_cf,nif_tf,Int.toNat_natCast,Int.ofNat_eq_natCast,Nat.ble_eq,Nat.ble_self_eq_true,Bool.true_and,Bool.and_true,Bool.and_self,Option.some.injEq,AV.int.injEq,rowB_self,allBR_self,Nat.mul_one,Nat.beq_refl,allI_true,cond_true,cond_false,ieq_self,Bool.not_true,Bool.not_false,decide_true,brP_f,brP_t,sdA_t,bytesL_packL,List.nil_append,TyX_runRightT_k0,TyX_runRightT_k1,TyX_runRightT_k2,TyX_runRightT_k3,TyX_runRightT_k4,TyX_runRightT_k5,TyX_runRightT_k6,TyX_runRightT_k7]
 have hi:j < L.length:=hj
 have hG:=hR.good
 have hx:=hR.xl
 have hS:=kids_inL hG hi
 have n1:=kids1 hG hi
 have n2:=kids2 hG hi
 have hb:=hR.b
 have hk36:(L.getD j LT.none).kind < 1180591620717411303424:=by
  have h1:=hG.head j hi
  unfold headT at h1
  rw [Bool.and_eq_true,decide_eq_true_eq] at h1
  omega
 have hN:(needsH (SKey.int 1180591620717411303428) && ilt (L.getD j LT.none).kind 1180591620717411303424)=true:=by
  rw [ilt_iff.2 hk36,needsH_eq]
  rfl
 simp only [cT_pc,cM_pc,rowL_rI,rowTs_rowT,rowMs_rM]
 have ex1:∀ a:Int,0≤a→∃ L_1 x_2 X_1 S_1,pvC L x X=pvC L_1 x_2 X_1∧RTOK L_1 x_2 X_1∧(L.getD j LT.none).kids.length=List.length S_1∧rI (L.getD j LT.none).kids=rI S_1∧inL L_1 S_1∧a.NonNeg :=
  fun a h1=>⟨L,x,X,_,rfl,hR,rfl,rfl,hS,by have:=(show (0:Int)≤a from h1);rw [show a=a - 0 by omega];exact this⟩
 have ex2:∀ a b:Int,0≤a→b≤(L.getD j LT.none).kids.length→∃ L_1 x_2 X_1 S_1,pvC L x X=pvC L_1 x_2 X_1∧RTOK L_1 x_2 X_1∧(L.getD j LT.none).kids.length=List.length S_1∧rI (L.getD j LT.none).kids=rI S_1∧inL L_1 S_1∧a.NonNeg∧((S_1.length:Int) - b).NonNeg :=
  fun a b h1 h2=>⟨L,x,X,_,rfl,hR,rfl,rfl,hS,by have:=(show (0:Int)≤a from h1);rw [show a=a - 0 by omega];exact this,h2⟩
 have ex4:∀ a b c d:Int,0≤a→b≤(L.getD j LT.none).kids.length→0≤c→d≤(L.getD j LT.none).kids.length→∃ L_1 x_2 X_1 S_1,pvC L x X=pvC L_1 x_2 X_1∧RTOK L_1 x_2 X_1∧(L.getD j LT.none).kids.length=List.length S_1∧rI (L.getD j LT.none).kids=rI S_1∧inL L_1 S_1∧a.NonNeg∧((S_1.length:Int) - b).NonNeg∧c.NonNeg∧((S_1.length:Int) - d).NonNeg :=
  fun a b c d h1 h2 h3 h4=>⟨L,x,X,_,rfl,hR,rfl,rfl,hS,by have:=(show (0:Int)≤a from h1);rw [show a=a - 0 by omega];exact this,h2,by have:=(show (0:Int)≤c from h3);rw [show c=c - 0 by omega];exact this,h4⟩
 generalize hT:L.getD j LT.none=t at *
 have dW:∀ r,rightW L x.M x.C X t=r→r=rightW L x.M x.C X t:=fun r h=>h.symm
 repeat' with_reducible first
  | refine brP_of (fun hk=>?_) fun hk=>?_
  | refine sdA_of hN (nd_loop hR hS ?_)
  | refine And.intro ?_ ?_
 all_goals first
  | exact ex1 _ (by decide)
  | (simp only [ieq_iff,ieq_iffn] at *;exact ex4 _ _ _ _ (by decide) (by omega) (by decide) (by omega))
  | (simp only [ieq_iff,ieq_iffn] at *;exact ex2 _ _ (by decide) (by omega))
  | exact ⟨L,x,rfl,rfl,rfl,rfl,rfl,rfl,rfl,rfl,rfl,hR.m,hG,hR.c,(hb _).1,Int.le_trans (hb _).2 (by decide)⟩
  | skip
 all_goals clear ex1 ex2 ex4 hb n1 n2 hS hx dW hN hk36 hT hR hi hj hG
 all_goals unfold rightW noT
 all_goals simp only [ieq_iff,ieq_iffn,decide_eq_true_eq,decide_eq_false_iff_not,Bool.not_eq_true',Bool.not_eq_false'] at *
 all_goals first
  | (simp_all [ilt_eq];done)
  | (simp_all [ilt_eq];rw [← decide_not];exact decide_eq_decide.2 (by omega))
theorem runRightT:∀ (L:List LT) (x:LN) (X:List Int) (j:Nat),RTOK L x X→j < L.length→(cRun (cxRt X (L.getD j LT.none).kids (L.getD j LT.none).kind) 60).call 18 [.pv (pvC L x X),.agg (L.getD j LT.none).row] .leaf 0 (ResM Try.prog false (.bool (bar (rightW L x.M x.C X (L.getD j LT.none))))) :=
 Eq.mpr (by kernel_rfl) runRightT_r
theorem runTermTT_r:∀ (L:List LT) (x:LN) (X:List Int) (i:Nat),RTOK L x X→Nat.le (Nat.succ i) L.length→sdA (inB (↑i:Int) L.length) (brP (ieq (LT.kind (List.getD L (Int.toNat (↑i:Int)) LT.none)) (27:Int)) (true=true∧(0:Int)=barr (termT L x.M x.C x.G X i)) (brP (ieq (LT.kind (List.getD L (Int.toNat (↑i:Int)) LT.none)) (29:Int)) (sdA (inB (↑i:Int) x.M.length) ((∃ (L_1:List LT),∃ (x_1:LN),∃ (X_1:List Int),pvC L x X=pvC L_1 x_1 X_1∧RTOK L_1 x_1 X_1∧Int.NonNeg (Prod.snd (List.getD x.M (Int.toNat (↑i:Int)) ((0:Int),(0:Int))) - 0)∧(Prod.fst (List.getD x.M (Int.toNat (↑i:Int)) ((0:Int),(0:Int)))=(2:Int)→Int.NonNeg ((↑x_1.G.length:Int) - (Prod.snd (List.getD x.M (Int.toNat (↑i:Int)) ((0:Int),(0:Int))) + 1))))∧true=true∧barr (useT (cL (pvC L x X)) (cM (pvC L x X)) (cG (pvC L x X)) (Prod.fst (List.getD x.M (Int.toNat (↑i:Int)) ((0:Int),(0:Int)))) (Prod.snd (List.getD x.M (Int.toNat (↑i:Int)) ((0:Int),(0:Int)))))=barr (termT L x.M x.C x.G X i))) (brP (ieq (LT.kind (List.getD L (Int.toNat (↑i:Int)) LT.none)) (30:Int)) ((∃ (L_1:List LT),∃ (x_1:LN),∃ (X_1:List Int),∃ (S:List Int),pvC L x X=pvC L_1 x_1 X_1∧RTOK L_1 x_1 X_1∧List.length (LT.kids (List.getD L (Int.toNat (↑i:Int)) LT.none))=S.length∧rI (LT.kids (List.getD L (Int.toNat (↑i:Int)) LT.none))=rI S∧inL L_1 S∧Int.NonNeg (0:Int)∧Int.NonNeg ((↑S.length:Int) - 1))∧(∃ (L_1:List LT),∃ (x_1:LN),L.length=L_1.length∧rowT L=rowT L_1∧x.M.length=x_1.M.length∧rM x.M=rM x_1.M∧vI x.O=vI x_1.O∧vI x.Lo=vI x_1.Lo∧x.C.length=x_1.C.length∧rI x.C=rI x_1.C∧List.take._f 5 ⟨List.take._f 4 ⟨List.take._f 3 ⟨List.take._f 2 ⟨List.take._f 1 ⟨List.take._f 0 PUnit.unit,PUnit.unit⟩,List.take._f 0 PUnit.unit,PUnit.unit⟩,List.take._f 1 ⟨List.take._f 0 PUnit.unit,PUnit.unit⟩,List.take._f 0 PUnit.unit,PUnit.unit⟩,List.take._f 2 ⟨List.take._f 1 ⟨List.take._f 0 PUnit.unit,PUnit.unit⟩,List.take._f 0 PUnit.unit,PUnit.unit⟩,List.take._f 1 ⟨List.take._f 0 PUnit.unit,PUnit.unit⟩,List.take._f 0 PUnit.unit,PUnit.unit⟩,List.take._f 3 ⟨List.take._f 2 ⟨List.take._f 1 ⟨List.take._f 0 PUnit.unit,PUnit.unit⟩,List.take._f 0 PUnit.unit,PUnit.unit⟩,List.take._f 1 ⟨List.take._f 0 PUnit.unit,PUnit.unit⟩,List.take._f 0 PUnit.unit,PUnit.unit⟩,List.take._f 2 ⟨List.take._f 1 ⟨List.take._f 0 PUnit.unit,PUnit.unit⟩,List.take._f 0 PUnit.unit,PUnit.unit⟩,List.take._f 1 ⟨List.take._f 0 PUnit.unit,PUnit.unit⟩,List.take._f 0 PUnit.unit,PUnit.unit⟩ [vI x.G,vI x.Co,vI x.E,AV.vec 4 x.Fs.length (rFn x.Fs),AV.int .i64 x.main,vI X,needsM]=LN.rest2 x_1∧MOK L_1 x_1.M∧Good L_1∧(∀ (c:Int),List.Mem c x_1.C→Int.NonNeg (c - 0)∧Int.NonNeg ((↑L_1.length:Int) - (c + 1)))∧Int.NonNeg (barr (kidX (cT (pvC L x X)) (rowL (List.length (LT.kids (List.getD L (Int.toNat (↑i:Int)) LT.none))) (rI (LT.kids (List.getD L (Int.toNat (↑i:Int)) LT.none)))) (0:Int)) - Int.negSucc 999999999)∧Int.NonNeg ((9223372036854775807:Int) - barr (kidX (cT (pvC L x X)) (rowL (List.length (LT.kids (List.getD L (Int.toNat (↑i:Int)) LT.none))) (rI (LT.kids (List.getD L (Int.toNat (↑i:Int)) LT.none)))) (0:Int))))∧(((AV.bs (LT.text (List.getD L (Int.toNat (↑i:Int)) LT.none))=AV.bs (LT.text (List.getD L (Int.toNat (↑i:Int)) LT.none))∧True∧True∧True∧True)∧True)∧((True∧True∧True∧True∧True)∧True)∧((True∧True∧AV.agg (List.take 9 (List.drop 1 (pvC L x X)))=AV.agg (List.take 9 (List.drop 1 (pvC L x X)))∧AV.agg (List.take 1 (List.drop 0 (pvC L x X)))=AV.agg (List.take 1 (List.drop 0 (pvC L x X)))∧True)∧True)∧True)∧true=true∧barr (Prod.snd (memT (rowTs L.length (rowT L)) (rowMs x.M.length (rM x.M)) (rowL x.C.length (rI x.C)) (barr (kidX (cT (pvC L x X)) (rowL (List.length (LT.kids (List.getD L (Int.toNat (↑i:Int)) LT.none))) (rI (LT.kids (List.getD L (Int.toNat (↑i:Int)) LT.none)))) (0:Int))) (LT.text (List.getD L (Int.toNat (↑i:Int)) LT.none))))=barr (termT L x.M x.C x.G X i)) (brP (ieq (LT.kind (List.getD L (Int.toNat (↑i:Int)) LT.none)) (33:Int)) (sdA (inB (↑i:Int) x.M.length) (sdA (inR .i64 (Int.negSucc 0 - Prod.snd (List.getD x.M (Int.toNat (↑i:Int)) ((0:Int),(0:Int))))) (true=true∧Int.negSucc 0 - Prod.snd (List.getD x.M (Int.toNat (↑i:Int)) ((0:Int),(0:Int)))=barr (termT L x.M x.C x.G X i)))) (brP (ieq (LT.kind (List.getD L (Int.toNat (↑i:Int)) LT.none)) (34:Int)) (true=true∧(5:Int)=barr (termT L x.M x.C x.G X i)) (brP (ieq (LT.kind (List.getD L (Int.toNat (↑i:Int)) LT.none)) (36:Int)) (true=true∧(2:Int)=barr (termT L x.M x.C x.G X i)) (true=true∧(1:Int)=barr (termT L x.M x.C x.G X i))))))))
:= by
 intro L x X i hR hj
 simp only [barr_eq,bar_eq,true_and,and_true,eq_self,implies_true,Nat.le_eq,cond_tf,cond_cf,nif_tf,Int.toNat_natCast,Int.ofNat_eq_natCast,Nat.ble_eq,Nat.ble_self_eq_true,Bool.true_and,Bool.and_true,Bool.and_self,Option.some.injEq,AV.int.injEq,rowB_self,allBR_self,Nat.mul_one,Nat.beq_refl,allI_true,cond_true,cond_false,ieq_self,Bool.not_true,Bool.not_false,decide_true,brP_f,brP_t,sdA_t,bytesL_packL,List.nil_append]
 have hi:i < L.length:=hj
 have hG:=hR.good
 have hml:=hR.m.mlen
 have hlen:=hR.m.len
 have hS:=kids_inL hG hi
 have n1:=kids1 hG hi
 have hb:=hR.b
 have hn:=hR.m.n i hi
 have hg:=hR.g.g i hi
 simp only [cT_pc,cM_pc,cL_pc,cC_pc,cG_pc,rowL_rI,rowTs_rowT,rowMs_rM]
 have e1:Int.negSucc 0 = -1:=rfl
 try simp only [e1]
 refine sdA_of (inB_iff.2 (by omega)) (brP_of (fun h=>?_) fun h27=>brP_of (fun h=>sdA_of (inB_iff.2 (by omega)) ⟨⟨L,x,X,rfl,hR,hn.1,fun h=>hg h⟩,?_⟩) fun h29=>brP_of (fun h=>⟨⟨L,x,X,_,rfl,hR,rfl,rfl,hS,(show (0:Int)≤0 by omega),?_⟩,⟨L,x,rfl,rfl,rfl,rfl,rfl,rfl,rfl,rfl,rfl,hR.m,hG,hR.c,(hb _).1,Int.le_trans (hb _).2 (by decide)⟩,?_⟩) fun h30=>brP_of (fun h=>sdA_of (inB_iff.2 (by omega)) (sdA_of (inR_i64.2 (by omega)) ?_)) fun h33=>brP_of (fun h=>?_) fun h34=>brP_of (fun h=>?_) fun h36=>?_)
 all_goals (try rw [ieq_iff] at h)
 all_goals (try rw [ieq_iffn] at h27)
 all_goals (try rw [ieq_iffn] at h29)
 all_goals (try rw [ieq_iffn] at h30)
 all_goals (try rw [ieq_iffn] at h33)
 all_goals (try rw [ieq_iffn] at h34)
 all_goals (try rw [ieq_iffn] at h36)
 all_goals first
  | (unfold termT;rw [h];rfl)
  | (unfold termT;rw [if_neg h27,if_neg h29,if_neg h30,if_neg h33,if_neg h34,if_neg h36];done)
  | (have:=n1 (by omega);exact (show (0:Int) + 1≤(L.getD i LT.none).kids.length by omega))
  | trace_state
theorem runTermTT:∀ (L:List LT) (x:LN) (X:List Int) (i:Nat),RTOK L x X→i < L.length→(cRun cxTm 60).call 23 [.pv (pvC L x X),.int .i64 i] .leaf 0 (ResM Try.prog false (.int .i64 (barr (termT L x.M x.C x.G X i)))) :=
 Eq.mpr (by kernel_rfl) runTermTT_r
end Go.Proofs.Ythallodoidghoaa
