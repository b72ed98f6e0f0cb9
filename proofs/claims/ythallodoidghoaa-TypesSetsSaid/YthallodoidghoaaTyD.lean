/- Laid by program out of its parts: TyD. -/
import Derived.Test.YthallodoidghoaaTyC
set_option linter.unusedVariables false
set_option linter.unusedSimpArgs false
set_option maxRecDepth 100000
open Go Go.Ev
namespace Go.Proofs.Ythallodoidghoaa
def moreI (L:List LT) (w:LT) (i next:Nat):Int:=(if (L.getD next LT.none).kind=12 then 1 else 0) + (if parenB L w i then 1 else 0) + (if w.kind=31∧i=1∨w.kind=34∨w.kind=35 then 1 else 0)
def headT (w:LT):Bool:=decide (1≤w.kind∧w.kind≤36) && (textB w.kind w.text && numB w.kind w.n)
mutual
def goF (L:List LT) (a:Nat) (nest:Int):Nat :=
 if L.length≤a∨64 < nest then 0 else if headT (L.getD a LT.none)=false then 0 else
  match goKs L a nest (L.getD a LT.none).kids 0 (a + 1) [] with
  | none=>0
  | some r=>if kidsM (lettersL (L.getD a LT.none).kind) r.2 then r.1 else 0
termination_by (L.length - a,1,0)
decreasing_by
 exact Prod.Lex.right _ (Prod.Lex.left _ _ Nat.zero_lt_one)
def goKs (L:List LT) (a:Nat) (nest:Int) (ks:List Int) (i next:Nat) (l:List Int):Option (Nat×List Int) :=
 match ks with
 | []=>some (next,l)
 | k :: ks=>if h:k≠(next:Int)∨L.length≤next∨next≤a then none else
  match goF L next (nest + moreI L (L.getD a LT.none) i next) with
  | 0=>none
  | r + 1=>goKs L a nest ks (i + 1) (r + 1) (l ++ [(L.getD next LT.none).kind])
termination_by (L.length - a,0,ks.length)
decreasing_by
 ·exact Prod.Lex.left _ _ (by omega)
 ·exact Prod.Lex.right _ (Prod.Lex.right _ (Nat.lt_succ_self _))
end
structure LSmall (L:List LT):Prop where
 len:L.length≤1000000
 text:∀ i,(L.getD i LT.none).text.length≤1000000
noncomputable def eGoN (N:Nat):Tr AObj→List AV→Option Ct:=fun _ args=>match args with
 | [.agg [.vec 6 n f],.int .i64 a,.int .i64 nest]=>some (.need (∃ L:List LT,n=L.length∧f=rowT L∧LSmall L∧0≤a∧L.length - a.toNat < N∧0≤nest∧nest≤1000) (.ret (.int .i64 (barr (goF (rowTs n f) a.toNat nest:Nat)))))
 | _=>none
structure GI (L:List LT) (a:Nat) (nest:Int) (x:Nat×Nat×List Int):Prop where
 il:x.1≤(L.getD a LT.none).kids.length
 lo:a + 1 + x.1≤x.2.1
 hi:x.2.1≤L.length
 ll:x.2.2.length=x.1
 eq:goKs L a nest ((L.getD a LT.none).kids.drop x.1) x.1 x.2.1 x.2.2=goKs L a nest (L.getD a LT.none).kids 0 (a + 1) []
noncomputable def SGo (L:List LT) (a:Nat) (nest:Int):Stn:={ X:=Nat×Nat×List Int,T:=fun s _ x=>(8,.slg s.nx x.2.2.length 1) :: (9,.int .i64 x.2.1) :: (10,.int .i64 x.1) :: keepT s [0,1,2,3,7],H:=fun s n0 x=>(s.nx,.cells 38 .leaf (.rows 1 (rI x.2.2)) x.2.2.length true) :: keepH s n0,nx:=fun s _=>s.nx + 1,I:=fun _ x=>GI L a nest x,m:=fun x=>(L.getD a LT.none).kids.length - x.1 }
noncomputable def SGm (f:Nat→Nat→Int):Stn:=thin (Nat×Nat) [0,1,2,3,7,8,9,10] (fun x=>[(11,.int .i64 (f x.1 x.2))]) (fun s x=>(∀ b,s.T.get 10=some (.int .i64 b)→b=x.1)∧(∀ b,s.T.get 9=some (.int .i64 b)→b=x.2)) fun _=>0
def more1 (L:List LT) (w:LT) (i next:Nat):Int:=if (L.getD next LT.none).kind=12 then 1 else 0
def more2 (L:List LT) (w:LT) (i next:Nat):Int:=more1 L w i next + if parenB L w i then 1 else 0
noncomputable def cxG (N:Nat) (L:List LT) (a:Nat) (nest:Int):Ctx:={ P:=Try.prog,tb:=[(46,eText),(47,eNum),(48,eParen),(49,eKids),(26,eGoN N)],lp:=fun f r=>cond (Nat.beq f 26) (cond (Nat.beq r 9) (some (SGo L a nest)) none) none,cut:=fun f r=>cond (Nat.beq f 26) (cond (Nat.beq r 16) (some (SGm (more1 L (L.getD a LT.none)))) (cond (Nat.beq r 18) (some (SGm (more2 L (L.getD a LT.none)))) (cond (Nat.beq r 20) (some (SGm (moreI L (L.getD a LT.none)))) none))) none }
theorem goF_out {L:List LT} {a:Nat} {nest:Int} (h:L.length≤a∨64 < nest):goF L a nest=0:=by rw [goF,if_pos h]
theorem goF_bad {L:List LT} {a:Nat} {nest:Int} (h:headT (L.getD a LT.none)=false):goF L a nest=0:=by
 rw [goF];split
 ·rfl
 ·first
   | rfl
   | rw [if_pos h]
theorem goF_none {L:List LT} {a:Nat} {nest:Int} (h:goKs L a nest (L.getD a LT.none).kids 0 (a + 1) []=none):goF L a nest=0:=by
 rw [goF];split
 ·rfl
 ·split
  ·rfl
  ·rw [h]
theorem goF_some {L:List LT} {a:Nat} {nest:Int} {r:Nat×List Int} (h1:¬ (L.length≤a∨64 < nest)) (h2:headT (L.getD a LT.none)=true) (h:goKs L a nest (L.getD a LT.none).kids 0 (a + 1) []=some r) :
  goF L a nest=if kidsM (lettersL (L.getD a LT.none).kind) r.2 then r.1 else 0:=by
 rw [goF,if_neg h1,if_neg (by rw [h2];simp),h]
theorem goKs_nil {L:List LT} {a:Nat} {nest:Int} {i next:Nat} {l:List Int}:goKs L a nest [] i next l=some (next,l):=by rw [goKs]
theorem goKs_bad {L:List LT} {a:Nat} {nest:Int} {k:Int} {ks:List Int} {i next:Nat} {l:List Int} (h:k≠(next:Int)∨L.length≤next∨next≤a):goKs L a nest (k :: ks) i next l=none:=by rw [goKs,dif_pos h]
theorem goKs_zero {L:List LT} {a:Nat} {nest:Int} {k:Int} {ks:List Int} {i next:Nat} {l:List Int} (h:goF L next (nest + moreI L (L.getD a LT.none) i next)=0):goKs L a nest (k :: ks) i next l=none:=by
 rw [goKs];split
 ·rfl
 ·rw [h]
theorem goKs_step {L:List LT} {a:Nat} {nest:Int} {k:Int} {ks:List Int} {i next:Nat} {l:List Int} (h1:¬ (k≠(next:Int)∨L.length≤next∨next≤a)) (h:goF L next (nest + moreI L (L.getD a LT.none) i next)≠0) :
  goKs L a nest (k :: ks) i next l=goKs L a nest ks (i + 1) (goF L next (nest + moreI L (L.getD a LT.none) i next)) (l ++ [(L.getD next LT.none).kind]):=by
 rw [goKs,dif_neg h1]
 split
 ·rename_i h2;exact absurd h2 h
 ·rename_i r h2;rw [h2]
theorem go_gt (L:List LT):∀ (d:Nat),(∀ a nest,L.length - a≤d→goF L a nest≠0→a < goF L a nest∧goF L a nest≤L.length):=by
 intro d
 induction d with
 | zero=>intro a nest h h1;exact absurd (goF_out (.inl (by omega))) h1
 | succ d ih =>
  have hks:∀ (a:Nat) (nest:Int),L.length - a≤d + 1→∀ (ks:List Int) (i next:Nat) (l:List Int) (r:Nat×List Int),a < next→next≤L.length→goKs L a nest ks i next l=some r→next≤r.1∧r.1≤L.length:=by
   intro a nest ha ks
   induction ks with
   | nil =>
    intro i next l r h1 h2 h3
    rw [goKs_nil] at h3
    injection h3 with h3;subst h3
    exact ⟨Nat.le_refl _,h2⟩
   | cons k ks ihk =>
    intro i next l r h1 h2 h3
    by_cases hb:k≠(next:Int)∨L.length≤next∨next≤a
    ·rw [goKs_bad hb] at h3;cases h3
    ·by_cases hz:goF L next (nest + moreI L (L.getD a LT.none) i next)=0
     ·rw [goKs_zero hz] at h3;cases h3
     ·rw [goKs_step hb hz] at h3
      have h4:=ih next _ (by omega) hz
      have h5:=ihk _ _ _ r (by omega) h4.2 h3
      omega
  intro a nest ha h1
  by_cases h2:L.length≤a∨64 < nest
  ·exact absurd (goF_out h2) h1
  ·by_cases h3:headT (L.getD a LT.none)=false
   ·exact absurd (goF_bad h3) h1
   ·have h3:headT (L.getD a LT.none)=true:=by simpa using h3
    cases hk:goKs L a nest (L.getD a LT.none).kids 0 (a + 1) [] with
    | none=>exact absurd (goF_none hk) h1
    | some r =>
     rw [goF_some h2 h3 hk] at h1 ⊢
     split at h1
     ·rename_i h4
      rw [if_pos h4]
      have:=hks a nest ha _ _ _ _ r (by omega) (by omega) hk
      omega
     ·exact absurd rfl h1
theorem go_gt' {L:List LT} {a:Nat} {nest:Int} (h:goF L a nest≠0):a < goF L a nest∧goF L a nest≤L.length:=go_gt L _ a nest (Nat.le_refl _) h
theorem more_lo (L:List LT) (w:LT) (i next:Nat):0≤moreI L w i next∧moreI L w i next≤3∧0≤more1 L w i next∧more1 L w i next≤1∧0≤more2 L w i next∧more2 L w i next≤2:=by
 unfold moreI more2 more1
 refine ⟨?_,?_,?_,?_,?_,?_⟩ <;> (repeat' split) <;> omega
@[reducible] def TyD_runGo_k0:List LT→Prop:=fun (L:List LT)=>true=true∧L.length=L.length∧AllI fun (i:Nat)=>Nat.le (Nat.succ i) L.length→(true=true∧LT.kind (List.getD L i LT.none)=LT.kind (List.getD L i LT.none))∧LT.text (List.getD L i LT.none)=LT.text (List.getD L i LT.none)∧(true=true∧LT.n (List.getD L i LT.none)=LT.n (List.getD L i LT.none))∧(true=true∧LT.line (List.getD L i LT.none)=LT.line (List.getD L i LT.none))∧(true=true∧LT.col (List.getD L i LT.none)=LT.col (List.getD L i LT.none))∧(true=true∧List.length (LT.kids (List.getD L i LT.none))=List.length (LT.kids (List.getD L i LT.none))∧AllI fun (i_1:Nat)=>Nat.le (Nat.succ i_1) (List.length (LT.kids (List.getD L i LT.none)))→(true=true∧List.getD (LT.kids (List.getD L i LT.none)) i_1 (0:Int)=List.getD (LT.kids (List.getD L i LT.none)) i_1 (0:Int))∧True)∧True
@[reducible] def TyD_runGo_k1:List LT→Prop:=fun (L:List LT)=>TyD_runGo_k0 L∧True
@[reducible] def TyD_runGo_k2:List LT→Prop:=fun (L:List LT)=>true=true∧true=true∧true=true∧true=true∧True∧TyD_runGo_k0 L
@[reducible] def TyD_runGo_k3:List LT→Nat→Prop:=fun (L:List LT) (a:Nat)=>true=true∧true=true∧true=true∧true=true∧(((((True∧true=true∧LT.kind (List.getD L (Int.toNat (↑a:Int)) LT.none)=LT.kind (List.getD L (Int.toNat (↑a:Int)) LT.none))∧LT.text (List.getD L (Int.toNat (↑a:Int)) LT.none)=LT.text (List.getD L (Int.toNat (↑a:Int)) LT.none))∧true=true∧LT.n (List.getD L (Int.toNat (↑a:Int)) LT.none)=LT.n (List.getD L (Int.toNat (↑a:Int)) LT.none))∧true=true∧LT.line (List.getD L (Int.toNat (↑a:Int)) LT.none)=LT.line (List.getD L (Int.toNat (↑a:Int)) LT.none))∧true=true∧LT.col (List.getD L (Int.toNat (↑a:Int)) LT.none)=LT.col (List.getD L (Int.toNat (↑a:Int)) LT.none))∧true=true∧List.length (LT.kids (List.getD L (Int.toNat (↑a:Int)) LT.none))=List.length (LT.kids (List.getD L (Int.toNat (↑a:Int)) LT.none))∧AllI fun (i:Nat)=>Nat.le (Nat.succ i) (List.length (LT.kids (List.getD L (Int.toNat (↑a:Int)) LT.none)))→(true=true∧List.getD (LT.kids (List.getD L (Int.toNat (↑a:Int)) LT.none)) i (0:Int)=List.getD (LT.kids (List.getD L (Int.toNat (↑a:Int)) LT.none)) i (0:Int))∧True
@[reducible] def TyD_runGo_k4:List LT→Nat→Int→Prop:=fun (L:List LT) (a:Nat) (nest:Int)=>TyD_runGo_k1 L∧(true=true∧(↑a:Int)=(↑a:Int))∧(true=true∧nest=nest)∧(some 0=some 0∧true=true)∧(some 1=some 1∧true=true)∧True
@[reducible] def TyD_runGo_k5:List LT→Nat→Int→Nat×Nat×List Int→Prop:=fun (L:List LT) (a:Nat) (nest:Int) (a_1:Nat×Nat×List Int)=>TyD_runGo_k1 L∧(true=true∧(↑a:Int)=(↑a:Int))∧(true=true∧nest=nest)∧(some 0=some 0∧true=true)∧(some 1=some 1∧true=true)∧(some 7=some 7∧List.length (a_1.2.2)=List.length (a_1.2.2)∧true=true)∧(true=true∧(↑(a_1.2.1):Int)=(↑(a_1.2.1):Int))∧(true=true∧(↑a_1.1:Int)=(↑a_1.1:Int))∧True
@[reducible] def TyD_runGo_k6:List LT→Nat→Prop:=fun (L:List LT) (a:Nat)=>TyD_runGo_k2 L∧TyD_runGo_k3 L a∧True
@[reducible] def TyD_runGo_k7:List LT→Nat→Nat×Nat×List Int→Prop:=fun (L:List LT) (a:Nat) (a_1:Nat×Nat×List Int)=>TyD_runGo_k2 L∧TyD_runGo_k3 L a∧(true=true∧true=true∧true=true∧true=true∧List.length (a_1.2.2)=List.length (a_1.2.2)∧AllI fun (i:Nat)=>Nat.le (Nat.succ (i * 1)) (List.length (a_1.2.2))→(true=true∧List.getD (a_1.2.2) i (0:Int)=List.getD (a_1.2.2) i (0:Int))∧True)∧True
@[reducible] def TyD_runGo_k8:List LT→Nat→Int→Nat×Nat×List Int→Nat×Nat→Nat×Nat→Prop:=fun (L:List LT) (a:Nat) (nest:Int) (a_1:Nat×Nat×List Int) (a_2 a_3:Nat×Nat)=>((∀ (b:Int),some (AV.int .i64 (↑a_1.1:Int))=some (AV.int .i64 b)→b=(↑a_3.1:Int))∧∀ (b:Int),some (AV.int .i64 (↑(a_1.2.1):Int))=some (AV.int .i64 b)→b=(↑a_3.2:Int))∧true=true∧((true=true∧more2 L (List.getD L a LT.none) a_2.1 a_2.2=moreI L (List.getD L a LT.none) a_3.1 a_3.2)∧TyD_runGo_k5 L a nest a_1)∧TyD_runGo_k7 L a a_1
@[reducible] def TyD_runGo_k9:List LT→Nat→Int→Nat×Nat×List Int→Nat×Nat→Nat×Nat→Prop:=fun (L:List LT) (a:Nat) (nest:Int) (a_1:Nat×Nat×List Int) (a_2 a_3:Nat×Nat)=>((∀ (b:Int),some (AV.int .i64 (↑a_1.1:Int))=some (AV.int .i64 b)→b=(↑a_3.1:Int))∧∀ (b:Int),some (AV.int .i64 (↑(a_1.2.1):Int))=some (AV.int .i64 b)→b=(↑a_3.2:Int))∧true=true∧((true=true∧more2 L (List.getD L a LT.none) a_2.1 a_2.2 + 1=moreI L (List.getD L a LT.none) a_3.1 a_3.2)∧TyD_runGo_k5 L a nest a_1)∧TyD_runGo_k7 L a a_1
theorem runGo_r:∀ (N:Nat) (L:List LT) (a:Nat) (nest:Int),LSmall L→Nat.le (Nat.succ (L.length - a)) (N + 1)→Int.NonNeg (nest - 0)→Int.NonNeg ((1000:Int) - nest)→brP (!ilt (↑a:Int) (Int.ofNat L.length)) (true=true∧(0:Int)=(↑(goF L a nest):Int)) (brP (ilt (64:Int) nest) (true=true∧(0:Int)=(↑(goF L a nest):Int)) (sdA (inB (↑a:Int) L.length) (brP (ilt (LT.kind (List.getD L (Int.toNat (↑a:Int)) LT.none)) (1:Int)) (true=true∧(0:Int)=(↑(goF L a nest):Int)) (brP (ilt (36:Int) (LT.kind (List.getD L (Int.toNat (↑a:Int)) LT.none))) (true=true∧(0:Int)=(↑(goF L a nest):Int)) (Nat.le (List.length (LT.text (List.getD L (Int.toNat (↑a:Int)) LT.none))) 1000000∧brP (!bar (textB (LT.kind (List.getD L (Int.toNat (↑a:Int)) LT.none)) (LT.text (List.getD L (Int.toNat (↑a:Int)) LT.none)))) (true=true∧(0:Int)=(↑(goF L a nest):Int)) (True∧brP (!bar (numB (LT.kind (List.getD L (Int.toNat (↑a:Int)) LT.none)) (LT.n (List.getD L (Int.toNat (↑a:Int)) LT.none)))) (true=true∧(0:Int)=(↑(goF L a nest):Int)) (sdA (inR .i64 ((↑a:Int) + 1)) ((∃ (x0:Nat×Nat×List Int),GI L a nest x0∧true=true∧(x0.2.2.length=0∧(true=true∧(↑a:Int) + 1=(↑x0.2.1:Int))∧(true=true∧(0:Int)=(↑x0.1:Int))∧TyD_runGo_k4 L a nest)∧(true=true∧True)∧TyD_runGo_k6 L a)∧∀ (x:Nat×Nat×List Int),GI L a nest x→brP (ilt (↑x.1:Int) (Int.ofNat (List.length (LT.kids (List.getD L (Int.toNat (↑a:Int)) LT.none))))) (sdA (inB (↑x.1:Int) (List.length (LT.kids (List.getD L (Int.toNat (↑a:Int)) LT.none)))) (brP (!ieq (List.getD (LT.kids (List.getD L (Int.toNat (↑a:Int)) LT.none)) (Int.toNat (↑x.1:Int)) (0:Int)) (↑x.2.1:Int)) (true=true∧(0:Int)=(↑(goF L a nest):Int)) (brP (!ilt (↑x.2.1:Int) (Int.ofNat L.length)) (true=true∧(0:Int)=(↑(goF L a nest):Int)) (sdA (inB (↑x.2.1:Int) L.length) (brP (ieq (LT.kind (List.getD L (Int.toNat (↑x.2.1:Int)) LT.none)) (12:Int)) (∃ (x_1:Nat×Nat),((∀ (b:Int),some (AV.int .i64 (↑x.1:Int))=some (AV.int .i64 b)→b=(↑x_1.1:Int))∧∀ (b:Int),some (AV.int .i64 (↑x.2.1:Int))=some (AV.int .i64 b)→b=(↑x_1.2:Int))∧true=true∧((true=true∧(1:Int)=more1 L (List.getD L a LT.none) x_1.1 x_1.2)∧TyD_runGo_k5 L a nest x)∧TyD_runGo_k7 L a x) (∃ (x_1:Nat×Nat),((∀ (b:Int),some (AV.int .i64 (↑x.1:Int))=some (AV.int .i64 b)→b=(↑x_1.1:Int))∧∀ (b:Int),some (AV.int .i64 (↑x.2.1:Int))=some (AV.int .i64 b)→b=(↑x_1.2:Int))∧true=true∧((true=true∧(0:Int)=more1 L (List.getD L a LT.none) x_1.1 x_1.2)∧TyD_runGo_k5 L a nest x)∧TyD_runGo_k7 L a x))∧∀ (x_1:Nat×Nat),((∀ (b:Int),some (AV.int .i64 (↑x.1:Int))=some (AV.int .i64 b)→b=(↑x_1.1:Int))∧∀ (b:Int),some (AV.int .i64 (↑x.2.1:Int))=some (AV.int .i64 b)→b=(↑x_1.2:Int))→((∃ (L_1:List LT),∃ (S:List Int),L.length=L_1.length∧rowT L=rowT L_1∧List.length (LT.kids (List.getD L (Int.toNat (↑a:Int)) LT.none))=S.length∧rI (LT.kids (List.getD L (Int.toNat (↑a:Int)) LT.none))=rI S∧Int.NonNeg ((↑x.1:Int) - 0)∧Int.NonNeg ((↑S.length:Int) - ((↑x.1:Int) + 1))∧Int.NonNeg (List.getD S (Int.toNat (↑x.1:Int)) (0:Int) - 0)∧Int.NonNeg ((↑L_1.length:Int) - (List.getD S (Int.toNat (↑x.1:Int)) (0:Int) + 1))∧Int.NonNeg ((100000000:Int) - (↑x.1:Int)))∧brP (bar (decide ((0:Int) < bindsI (LT.kind (dLT (rowT L (Int.toNat (oneI (rI (LT.kids (List.getD L (Int.toNat (↑a:Int)) LT.none)) (Int.toNat (↑x.1:Int)))))))) (LT.text (dLT (rowT L (Int.toNat (oneI (rI (LT.kids (List.getD L (Int.toNat (↑a:Int)) LT.none)) (Int.toNat (↑x.1:Int))))))))∧bindsI (LT.kind (dLT (rowT L (Int.toNat (oneI (rI (LT.kids (List.getD L (Int.toNat (↑a:Int)) LT.none)) (Int.toNat (↑x.1:Int)))))))) (LT.text (dLT (rowT L (Int.toNat (oneI (rI (LT.kids (List.getD L (Int.toNat (↑a:Int)) LT.none)) (Int.toNat (↑x.1:Int)))))))) < mustI (LT.kind (List.getD L (Int.toNat (↑a:Int)) LT.none)) (LT.text (List.getD L (Int.toNat (↑a:Int)) LT.none)) (↑x.1:Int)))) (sdA (inR .i64 (more1 L (List.getD L a LT.none) x_1.1 x_1.2 + 1)) (∃ (x_2:Nat×Nat),((∀ (b:Int),some (AV.int .i64 (↑x.1:Int))=some (AV.int .i64 b)→b=(↑x_2.1:Int))∧∀ (b:Int),some (AV.int .i64 (↑x.2.1:Int))=some (AV.int .i64 b)→b=(↑x_2.2:Int))∧true=true∧((true=true∧more1 L (List.getD L a LT.none) x_1.1 x_1.2 + 1=more2 L (List.getD L a LT.none) x_2.1 x_2.2)∧TyD_runGo_k5 L a nest x)∧TyD_runGo_k7 L a x)) (∃ (x_2:Nat×Nat),((∀ (b:Int),some (AV.int .i64 (↑x.1:Int))=some (AV.int .i64 b)→b=(↑x_2.1:Int))∧∀ (b:Int),some (AV.int .i64 (↑x.2.1:Int))=some (AV.int .i64 b)→b=(↑x_2.2:Int))∧true=true∧((true=true∧more1 L (List.getD L a LT.none) x_1.1 x_1.2=more2 L (List.getD L a LT.none) x_2.1 x_2.2)∧TyD_runGo_k5 L a nest x)∧TyD_runGo_k7 L a x))∧∀ (x_2:Nat×Nat),((∀ (b:Int),some (AV.int .i64 (↑x.1:Int))=some (AV.int .i64 b)→b=(↑x_2.1:Int))∧∀ (b:Int),some (AV.int .i64 (↑x.2.1:Int))=some (AV.int .i64 b)→b=(↑x_2.2:Int))→brP (ieq (LT.kind (List.getD L (Int.toNat (↑a:Int)) LT.none)) (31:Int)) (brP (ieq (↑x.1:Int) (1:Int)) (sdA (inR .i64 (more2 L (List.getD L a LT.none) x_2.1 x_2.2 + 1)) (∃ (x_3:Nat×Nat),TyD_runGo_k9 L a nest x x_2 x_3)) (brP (ieq (LT.kind (List.getD L (Int.toNat (↑a:Int)) LT.none)) (34:Int)) (sdA (inR .i64 (more2 L (List.getD L a LT.none) x_2.1 x_2.2 + 1)) (∃ (x_3:Nat×Nat),TyD_runGo_k9 L a nest x x_2 x_3)) (brP (ieq (LT.kind (List.getD L (Int.toNat (↑a:Int)) LT.none)) (35:Int)) (sdA (inR .i64 (more2 L (List.getD L a LT.none) x_2.1 x_2.2 + 1)) (∃ (x_3:Nat×Nat),TyD_runGo_k9 L a nest x x_2 x_3)) (∃ (x_3:Nat×Nat),TyD_runGo_k8 L a nest x x_2 x_3)))) (brP (ieq (LT.kind (List.getD L (Int.toNat (↑a:Int)) LT.none)) (34:Int)) (sdA (inR .i64 (more2 L (List.getD L a LT.none) x_2.1 x_2.2 + 1)) (∃ (x_3:Nat×Nat),TyD_runGo_k9 L a nest x x_2 x_3)) (brP (ieq (LT.kind (List.getD L (Int.toNat (↑a:Int)) LT.none)) (35:Int)) (sdA (inR .i64 (more2 L (List.getD L a LT.none) x_2.1 x_2.2 + 1)) (∃ (x_3:Nat×Nat),TyD_runGo_k9 L a nest x x_2 x_3)) (∃ (x_3:Nat×Nat),TyD_runGo_k8 L a nest x x_2 x_3)))∧∀ (x_3:Nat×Nat),((∀ (b:Int),some (AV.int .i64 (↑x.1:Int))=some (AV.int .i64 b)→b=(↑x_3.1:Int))∧∀ (b:Int),some (AV.int .i64 (↑x.2.1:Int))=some (AV.int .i64 b)→b=(↑x_3.2:Int))→sdA (inB (↑x.2.1:Int) L.length) (sdA (bif bif Nat.ble (x.2.2.length * 1) x.2.2.length then true else false then decide (x.2.2.length + 1≤9223372036854775807∧(x.2.2.length + 1) * 8≤140737488355328) else false) (sdA (inR .i64 (nest + moreI L (List.getD L a LT.none) x_3.1 x_3.2)) ((∃ (L_1:List LT),L.length=L_1.length∧rowT L=rowT L_1∧LSmall L_1∧Int.NonNeg ((↑x.2.1:Int) - 0)∧Nat.le (Nat.succ (L_1.length - Int.toNat (↑x.2.1:Int))) N∧Int.NonNeg (nest + moreI L (List.getD L a LT.none) x_3.1 x_3.2 - 0)∧Int.NonNeg ((1000:Int) - (nest + moreI L (List.getD L a LT.none) x_3.1 x_3.2)))∧brP (ieq (barr (↑(goF (rowTs L.length (rowT L)) (Int.toNat (↑x.2.1:Int)) (nest + moreI L (List.getD L a LT.none) x_3.1 x_3.2)):Int)) (0:Int)) (true=true∧(0:Int)=(↑(goF L a nest):Int)) (sdA (inR .i64 ((↑x.1:Int) + 1)) (∃ (x':Nat×Nat×List Int),GI L a nest x'∧Nat.le (Nat.succ (List.length (LT.kids (List.getD L a LT.none)) - x'.1)) (List.length (LT.kids (List.getD L a LT.none)) - x.1)∧true=true∧((some 9=some 9∧x.2.2.length + 1=x'.2.2.length∧true=true)∧(true=true∧barr (↑(goF (rowTs L.length (rowT L)) (Int.toNat (↑x.2.1:Int)) (nest + moreI L (List.getD L a LT.none) x_3.1 x_3.2)):Int)=(↑x'.2.1:Int))∧(true=true∧(↑x.1:Int) + 1=(↑x'.1:Int))∧TyD_runGo_k4 L a nest)∧(true=true∧true=true∧true=true∧true=true∧(x.2.2.length + 1) * 1=x'.2.2.length∧AllI fun (i:Nat)=>Nat.le (Nat.succ (i * 1)) ((x.2.2.length + 1) * 1)→vmL [(1,1),(0,0),(7,9)] (rI x'.2.2 i) (appF x.2.2.length (rI x.2.2) (fun (x_4:Nat)=>[AV.int .i64 (LT.kind (List.getD L (Int.toNat (↑x.2.1:Int)) LT.none))]) i))∧TyD_runGo_k6 L a))))))))) (sdA (bif bif Nat.ble (x.2.2.length * 1) x.2.2.length then goodR 1 x.2.2.length (rI x.2.2) else false then true else false) (sdA (bif bif bif Nat.beq x.2.2.length x.2.2.length then true else false then true else false then bif Nat.beq x.2.2.length x.2.2.length then true else false else false) ((∃ (S:List Int),x.2.2.length=S.length∧rI x.2.2=rI S∧Nat.le S.length 100000000)∧brP (!bar (kidsM (lettersL (LT.kind (List.getD L (Int.toNat (↑a:Int)) LT.none))) (rowL x.2.2.length (rI x.2.2)))) (true=true∧(0:Int)=(↑(goF L a nest):Int)) (true=true∧(↑x.2.1:Int)=(↑(goF L a nest):Int)))))))))))))
:= by
 intro N L a nest hL hN h0 h1
 have hN:L.length - a < N + 1:=hN
 have h0:0≤nest:=h0
 have h1:nest≤1000:=h1
 simp only [barr_eq,bar_eq,true_and,and_true,eq_self,implies_true,Nat.le_eq,cond_tf,cond_cf,nif_tf,Int.toNat_natCast,Int.ofNat_eq_natCast,Nat.ble_eq,Nat.ble_self_eq_true,Bool.true_and,Bool.and_true,Bool.and_self,Option.some.injEq,AV.int.injEq,rowB_self,allBR_self,Nat.mul_one,Nat.beq_refl,allI_true,cond_true,cond_false,ieq_self,Bool.not_true,Bool.not_false,decide_true,brP_f,brP_t,sdA_t,bytesL_packL,List.nil_append,TyD_runGo_k0,TyD_runGo_k1,TyD_runGo_k2,TyD_runGo_k3,TyD_runGo_k4,TyD_runGo_k5,TyD_runGo_k6,TyD_runGo_k7,TyD_runGo_k8,TyD_runGo_k9]
 have hrow:∀ q:Nat,dLT (rowT L q)=L.getD q LT.none:=fun q=>dLT_row _
 have hone:∀ (S:List Int) (q:Nat),oneI (rI S q)=S.getD q 0:=fun S q=>rfl
 simp only [rowTs_rowT,hrow,hone,rowL_rI]
 have hlen:=hL.len
 have htx:=hL.text a
 have hzero:goF L a nest=0→(0:Int)=((goF L a nest:Nat):Int):=fun h=>by rw [h];rfl
 refine brP_of (fun h=>hzero (goF_out (.inl (by rw [Bool.not_eq_true',ilt_iffn] at h;omega)))) fun ha=>brP_of (fun h=>hzero (goF_out (.inr (by rwa [ilt_iff] at h)))) fun hn=>?_
 rw [Bool.not_eq_false',ilt_iff] at ha
 rw [ilt_iffn] at hn
 have hin:¬ (L.length≤a∨64 < nest):=by omega
 refine sdA_of (inB_iff.2 (by omega)) ?_
 have hbad:∀ (h:¬ (1≤(L.getD a LT.none).kind∧(L.getD a LT.none).kind≤36)∨textB (L.getD a LT.none).kind (L.getD a LT.none).text=false∨numB (L.getD a LT.none).kind (L.getD a LT.none).n=false),(0:Int)=((goF L a nest:Nat):Int):=fun h=>hzero (goF_bad (by
  unfold headT
  rcases h with h | h | h
  ·rw [decide_eq_false h];rfl
  ·rw [h];simp
  ·rw [h];simp))
 refine brP_of (fun h=>hbad (.inl (by rw [ilt_iff] at h;omega))) fun k1=>brP_of (fun h=>hbad (.inl (by rw [ilt_iff] at h;omega))) fun k2=>⟨htx,brP_of (fun h=>hbad (.inr (.inl (nf h)))) fun k3=>brP_of (fun h=>hbad (.inr (.inr (nf h)))) fun k4=>?_⟩
 rw [ilt_iffn] at k1 k2
 have hhead:headT (L.getD a LT.none)=true:=by
  unfold headT;rw [decide_eq_true ⟨k1,k2⟩,nt k3,nt k4];rfl
 clear hbad htx k1 k2 k3 k4
 refine sdA_of (inR_i64.2 (by omega)) ⟨⟨(0,a + 1,[]),⟨Nat.zero_le _,Nat.le_refl _,by simp only;omega,rfl,rfl⟩,rfl,by simp,rfl⟩,fun x hx=>?_⟩
 obtain ⟨i,next,l⟩:=x
 obtain ⟨hil,hlo,hhi,hll,heq⟩:=hx
 simp only at hil hlo hhi hll heq ⊢
 refine brP_of (fun h=>?_) fun h=>?_
 ·rw [ilt_iff] at h
  have hlt:i < (L.getD a LT.none).kids.length:=by omega
  have hi100:i≤1000000:=by omega
  rw [drop_getI _ _ hlt] at heq
  have hnone:∀ h:goKs L a nest ((L.getD a LT.none).kids.getD i 0 :: (L.getD a LT.none).kids.drop (i + 1)) i next l=none,(0:Int)=((goF L a nest:Nat):Int):=fun h=>hzero (goF_none (by rw [← heq];exact h))
  refine sdA_of (inB_iff.2 (by omega)) (brP_of (fun h2=>hnone (goKs_bad (.inl (by rw [Bool.not_eq_true',ieq_iffn] at h2;exact h2)))) fun h2=>brP_of (fun h3=>hnone (goKs_bad (.inr (.inl (by rw [Bool.not_eq_true',ilt_iffn] at h3;omega))))) fun h3=>?_)
  rw [Bool.not_eq_false',ieq_iff] at h2
  rw [Bool.not_eq_false',ilt_iff] at h3
  have hm:=more_lo L (L.getD a LT.none) i next
  refine ⟨sdA_of (inB_iff.2 (by omega)) (brP_of (fun h4=>⟨(i,next),⟨fun b hb=>hb.symm,fun b hb=>hb.symm⟩,?_⟩) fun h4=>⟨(i,next),⟨fun b hb=>hb.symm,fun b hb=>hb.symm⟩,?_⟩),fun y hy=>?_⟩
  ·rw [ieq_iff] at h4
   unfold more1;rw [if_pos h4]
  ·rw [ieq_iffn] at h4
   unfold more1;rw [if_neg h4]
  obtain ⟨i',next'⟩:=y
  obtain ⟨e1,e2⟩:=hy
  have e1:=e1 _ rfl
  have e2:=e2 _ rfl
  simp only at e1 e2 ⊢
  obtain rfl:i=i':=by omega
  obtain rfl:next=next':=by omega
  refine ⟨⟨⟨L,(L.getD a LT.none).kids,rfl,rfl,rfl,rfl,(show (0:Int)≤(i:Int) by omega),(show (i:Int) < ((L.getD a LT.none).kids.length:Int) by omega),(show (0:Int)≤(L.getD a LT.none).kids.getD i 0 by omega),(show (L.getD a LT.none).kids.getD i 0 < (L.length:Int) by omega),(show (i:Int)≤100000000 by omega)⟩,?_⟩,fun y hy=>?_⟩
  ·have hp:parenB L (L.getD a LT.none) i=decide (0 < bindsI (L.getD ((L.getD a LT.none).kids.getD i 0).toNat LT.none).kind (L.getD ((L.getD a LT.none).kids.getD i 0).toNat LT.none).text∧bindsI (L.getD ((L.getD a LT.none).kids.getD i 0).toNat LT.none).kind (L.getD ((L.getD a LT.none).kids.getD i 0).toNat LT.none).text < mustI (L.getD a LT.none).kind (L.getD a LT.none).text i):=rfl
   rw [← hp]
   refine brP_of (fun h5=>sdA_of (inR_i64.2 (by omega)) ⟨(i,next),⟨fun b hb=>hb.symm,fun b hb=>hb.symm⟩,?_⟩) fun h5=>⟨(i,next),⟨fun b hb=>hb.symm,fun b hb=>hb.symm⟩,?_⟩
   ·unfold more2;rw [h5];rfl
   ·unfold more2;rw [h5];simp
  obtain ⟨i',next'⟩:=y
  obtain ⟨e1,e2⟩:=hy
  have e1:=e1 _ rfl
  have e2:=e2 _ rfl
  simp only at e1 e2 ⊢
  obtain rfl:i=i':=by omega
  obtain rfl:next=next':=by omega
  refine ⟨?_,fun y hy=>?_⟩
  ·have yes:∀ (h6:(L.getD a LT.none).kind=31∧i=1∨(L.getD a LT.none).kind=34∨(L.getD a LT.none).kind=35),more2 L (L.getD a LT.none) i next + 1=moreI L (L.getD a LT.none) i next:=fun h6=>by
    unfold moreI more2 more1;rw [if_pos h6]
   have no:∀ (h6:¬ ((L.getD a LT.none).kind=31∧i=1∨(L.getD a LT.none).kind=34∨(L.getD a LT.none).kind=35)),more2 L (L.getD a LT.none) i next=moreI L (L.getD a LT.none) i next:=fun h6=>by
    unfold moreI more2 more1;rw [if_neg h6];omega
   have hR:inR .i64 (more2 L (L.getD a LT.none) i next + 1)=true:=inR_i64.2 (by omega)
   repeat' first
    | with_reducible refine brP_of (fun _=>?_) (fun _=>?_)
    | with_reducible refine sdA_of hR ?_
   all_goals simp only [ieq_iff,ieq_iffn] at *
   all_goals first
    | exact ⟨(i,next),⟨fun b hb=>hb.symm,fun b hb=>hb.symm⟩,yes (by omega)⟩
    | exact ⟨(i,next),⟨fun b hb=>hb.symm,fun b hb=>hb.symm⟩,no (by omega)⟩
  obtain ⟨i',next'⟩:=y
  obtain ⟨e1,e2⟩:=hy
  have e1:=e1 _ rfl
  have e2:=e2 _ rfl
  simp only at e1 e2 ⊢
  obtain rfl:i=i':=by omega
  obtain rfl:next=next':=by omega
  refine sdA_of (inB_iff.2 (by omega)) (sdA_of (decide_eq_true ⟨by omega,by omega⟩) (sdA_of (inR_i64.2 (by omega)) ⟨⟨L,rfl,rfl,hL,(show (0:Int)≤(next:Int) by omega),(show L.length - next < N by omega),(show (0:Int)≤nest + moreI L (L.getD a LT.none) i next by omega),(show nest + moreI L (L.getD a LT.none) i next≤1000 by omega)⟩,brP_of (fun h6=>hnone (goKs_zero ?_)) fun h6=>sdA_of (inR_i64.2 (by omega)) ?_⟩))
  ·rw [ieq_iff] at h6;omega
  ·rw [ieq_iffn] at h6
   have hz:goF L next (nest + moreI L (L.getD a LT.none) i next)≠0:=fun e=>h6 (by rw [e];rfl)
   have hg:=go_gt' hz
   rw [goKs_step (by omega) hz] at heq
   refine ⟨(i + 1,goF L next (nest + moreI L (L.getD a LT.none) i next),l ++ [(L.getD next LT.none).kind]),⟨hlt,by simp only;omega,hg.2,by simp [hll],heq⟩,by simp only;omega,⟨by simp,rfl,by simp⟩,by simp,?_⟩
   exact ⟨fun j hj=>(rows_app (row:=fun z:Int=>[AV.int .i64 z]) (d:=0) (e:=1) (n:=l.length + 1) (out:=l) (t:=(L.getD next LT.none).kind) (g:=fun _=>[AV.int .i64 (L.getD next LT.none).kind]) (fun t=>⟨⟨rfl,rfl⟩,trivial⟩) rfl rfl).h j (by have:j < l.length + 1:=hj;omega)⟩
 ·rw [ilt_iffn] at h
  obtain rfl:i=(L.getD a LT.none).kids.length:=by omega
  rw [List.drop_length,goKs_nil] at heq
  refine sdA_of (goodR_of fun i _=>rfl) ⟨⟨l,rfl,rfl,by omega⟩,?_⟩
  have hs:=goF_some hin hhead heq.symm
  refine brP_of (fun h=>hzero ?_) fun h=>?_
  ·rw [hs]
   simp only [nf h,Bool.false_eq_true,if_false]
  ·rw [hs]
   simp only [nt h,if_true]
theorem runGo:∀ (N:Nat) (L:List LT) (a:Nat) (nest:Int),LSmall L→L.length - a < N + 1→0≤nest→nest≤1000→(cRun (cxG N L a nest) 60).call 26 [tree L,.int .i64 a,.int .i64 nest] .leaf 0 (ResM Try.prog false (.int .i64 (goF L a nest))) :=
 Eq.mpr (by kernel_rfl) runGo_r
theorem okGoN:∀ N:Nat,EntOK Try.prog 26 (eGoN N):=by
 intro N
 induction N with
 | zero =>
  refine ent_of2 (gl:=[]) (ng:=0) gl0 fun H args ct hct=>?_
  unfold eGoN at hct
  split at hct
  ·injection hct with hct;subst hct
   refine ⟨gl0,_,_,rfl,?_⟩
   rintro ⟨L,rfl,rfl,hL,h0,hN,h1,h2⟩
   omega
  ·cases hct
 | succ N ih =>
  refine ent_of2 (gl:=[]) (ng:=0) gl0 fun H args ct hct=>?_
  unfold eGoN at hct
  split at hct
  ·rename_i n f a nest
   injection hct with hct;subst hct
   refine ⟨gl0,_,_,rfl,?_⟩
   rintro ⟨L,rfl,rfl,hL,h0,hN,h1,h2⟩
   obtain ⟨b,rfl⟩:∃ b:Nat,a=b:=⟨a.toNat,by omega⟩
   rw [barr_eq,rowTs_rowT]
   exact ⟨⟨vm_tree L,⟨rfl,rfl⟩,⟨rfl,rfl⟩,trivial⟩,cxG N L b nest,60,rfl,fol,tb_cons okText (tb_cons okNum (tb_cons okParen (tb_cons okKids (tb_cons ih tb_nil)))),runGo N L b nest hL hN h1 h2⟩
  ·cases hct
end Go.Proofs.Ythallodoidghoaa
