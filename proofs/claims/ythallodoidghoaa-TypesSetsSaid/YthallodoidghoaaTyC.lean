/- Laid by program out of its parts: TyC. -/
import Derived.Test.YthallodoidghoaaTyB
set_option linter.unusedVariables false
set_option linter.unusedSimpArgs false
set_option maxRecDepth 100000
open Go Go.Ev
namespace Go.Proofs.Ythallodoidghoaa
noncomputable def eParen:Tr AObj→List AV→Option Ct:=fun _ args=>match args with
 | [.agg [.vec 6 n f],.agg [.int .i64 k,.bs s,.int .i64 z,.int .i64 a,.int .i64 b,.vec 1 m g],.int .i64 i]=>some (.need (∃ (L:List LT) (S:List Int),n=L.length∧f=rowT L∧m=S.length∧g=rI S∧0≤i∧i < S.length∧0≤S.getD i.toNat 0∧S.getD i.toNat 0 < L.length∧i≤100000000)
   (.ret (.bool (bar (decide (0 < bindsI (dLT (f (oneI (g i.toNat)).toNat)).kind (dLT (f (oneI (g i.toNat)).toNat)).text∧bindsI (dLT (f (oneI (g i.toNat)).toNat)).kind (dLT (f (oneI (g i.toNat)).toNat)).text < mustI k s i))))))
 | _=>none
def parenB (L:List LT) (w:LT) (i:Nat):Bool:=decide (0 < bindsI (L.getD (w.kids.getD i 0).toNat LT.none).kind (L.getD (w.kids.getD i 0).toNat LT.none).text∧bindsI (L.getD (w.kids.getD i 0).toNat LT.none).kind (L.getD (w.kids.getD i 0).toNat LT.none).text < mustI w.kind w.text i)
noncomputable def tbP:Tbl:=[(63,eBinds),(64,eMust)]
def lettersL (k:Int):List UInt8:=if k=1 then [42,100] else if k=3 then [42,109] else if k=4∨k=6 then [121] else if k=7∨k=9∨k=11∨k=36 then [98] else if k=8 then [117,42,108] else if k=10 then [117,98] else if k=12 then [42,115] else if k=13 then [121,101] else if k=14 then [118,101]
 else if k=15∨k=16∨k=17∨k=18∨k=30∨k=34∨k=35 then [101] else if k=19∨k=20 then [101,63,118] else if k=23 then [101,98,98] else if k=24 then [101,98] else if k=31∨k=32 then [101,101] else []
def isK (c:Int) (k:Int):Bool:=if c=121 then decide (k=5) else if c=98 then decide (k=12) else if c=117 then decide (k=29) else if c=101 then termB k else if c=118 then varB k else if c=115 then stmtB k else if c=100 then declB k else if c=109 then decide (k=4) else decide (k=9)
def skip1 (f:Int→Bool) (l:List Int):List Int:=match l with
 | x :: t=>if f x then t else l
 | []=>[]
def kidsM:List UInt8→List Int→Bool
 | [],l=>l.isEmpty
 | [c],l=>match l with
  | x :: t=>isK (c.toNat:Int) x && t.isEmpty
  | []=>false
 | c :: d :: s,l=>if c=42 then kidsM s (l.dropWhile (isK (d.toNat:Int))) else if c=63 then kidsM s (skip1 (isK (d.toNat:Int)) l) else match l with
  | x :: t=>isK (c.toNat:Int) x && kidsM (d :: s) t
  | []=>false
noncomputable def eLetters:Tr AObj→List AV→Option Ct:=fun _ args=>match args with
 | [.int .i64 k]=>some (.need True (.ret (.bs (barr (lettersL k)))))
 | _=>none
noncomputable def eIs:Tr AObj→List AV→Option Ct:=fun _ args=>match args with
 | [.int .i64 k,.int .u8 c]=>some (.need True (.ret (.bool (bar (isK c k)))))
 | _=>none
noncomputable def eKids:Tr AObj→List AV→Option Ct:=fun _ args=>match args with
 | [.int .i64 k,.vec 1 n f]=>some (.need (∃ S:List Int,n=S.length∧f=rI S∧S.length≤100000000) (.ret (.bool (bar (kidsM (lettersL k) (rowL n f))))))
 | _=>none
structure KO (s:List UInt8) (l:List Int) (x:Nat×Nat):Prop where
 p:x.1≤s.length
 i:x.2≤l.length
 eq:kidsM (s.drop x.1) (l.drop x.2)=kidsM s l
structure KI (s:List UInt8) (l:List Int) (a i:Nat):Prop where
 pl:a < s.length
 il:i≤l.length
 eq:kidsM (s.drop (a + 1)) ((l.drop i).dropWhile (isK ((s.getD a 0).toNat:Int)))=kidsM s l
noncomputable def SKo (s:List UInt8) (l:List Int):Stn:=thin (Nat×Nat) [0,1,5] (fun x=>[(6,.int .i64 x.2),(7,.int .i64 x.1)]) (fun _ x=>KO s l x) fun x=>s.length - x.1
noncomputable def SKi (s:List UInt8) (l:List Int):Stn:=thin Nat [0,1,5,7] (fun i=>[(6,.int .i64 i)]) (fun st i=>∀ a,st.T.get 7=some (.int .i64 a)→KI s l a.toNat i) fun i=>l.length - i
noncomputable def cxK (s:List UInt8) (l:List Int):Ctx:={ P:=Try.prog,tb:=[(65,eLetters),(66,eIs)],lp:=fun f r=>cond (Nat.beq f 49) (cond (Nat.beq r 4) (some (SKo s l)) (cond (Nat.beq r 12) (some (SKi s l)) none)) none,cut:=fun _ _=>none }
theorem runParen_r:∀ (L:List LT) (x:LT) (i:Nat),Nat.le (Nat.succ i) x.kids.length→Int.NonNeg (List.getD x.kids i (0:Int) - 0)→Int.NonNeg ((↑L.length:Int) - (List.getD x.kids i (0:Int) + 1))→Nat.le i 100000000→sdA (inB (↑i:Int) x.kids.length) (sdA (inB (List.getD x.kids (Int.toNat (↑i:Int)) (0:Int)) L.length) ((∃ (S:List Int),List.length (LT.kids (List.getD L (Int.toNat (List.getD x.kids (Int.toNat (↑i:Int)) (0:Int))) LT.none))=S.length∧rI (LT.kids (List.getD L (Int.toNat (List.getD x.kids (Int.toNat (↑i:Int)) (0:Int))) LT.none))=rI S)∧(((True∧True∧True∧True∧True)∧True)∧((True∧True∧True∧True∧True)∧True)∧True)∧brP (ilt (0:Int) (bindsI (LT.kind (List.getD L (Int.toNat (List.getD x.kids (Int.toNat (↑i:Int)) (0:Int))) LT.none)) (LT.text (List.getD L (Int.toNat (List.getD x.kids (Int.toNat (↑i:Int)) (0:Int))) LT.none)))) (((∃ (S:List Int),x.kids.length=S.length∧rI x.kids=rI S)∧Int.NonNeg ((↑i:Int) - 0)∧Int.NonNeg ((100000000:Int) - (↑i:Int)))∧ilt (bindsI (LT.kind (List.getD L (Int.toNat (List.getD x.kids (Int.toNat (↑i:Int)) (0:Int))) LT.none)) (LT.text (List.getD L (Int.toNat (List.getD x.kids (Int.toNat (↑i:Int)) (0:Int))) LT.none))) (barr (mustI x.kind x.text (↑i:Int)))=parenB L x i) (false=parenB L x i)))
:= by
 intro L x i h0 h1 h2 h3
 have h0:i < x.kids.length:=h0
 have h1:0≤x.kids.getD i 0:=h1
 have h2:x.kids.getD i 0 < L.length:=h2
 have h3:i≤100000000:=h3
 have hS:∀ y:LT,∃ S:List Int,y.kids.length=S.length∧rI y.kids=rI S:=fun y=>⟨_,rfl,rfl⟩
 simp only [barr_eq,bar_eq,true_and,and_true,eq_self,implies_true,Nat.le_eq,cond_tf,cond_cf,nif_tf,Int.toNat_natCast,Int.ofNat_eq_natCast,Nat.ble_eq,Nat.ble_self_eq_true,Bool.true_and,Bool.and_true,Bool.and_self,Option.some.injEq,AV.int.injEq,rowB_self,allBR_self,Nat.mul_one,Nat.beq_refl,allI_true,cond_true,cond_false,ieq_self,Bool.not_true,Bool.not_false,decide_true,brP_f,brP_t,sdA_t,bytesL_packL,List.nil_append]
 refine sdA_of (inB_iff.2 (by omega)) (sdA_of (inB_iff.2 (by omega)) ⟨⟨_,rfl,rfl⟩,?_⟩)
 unfold parenB
 generalize bindsI (L.getD (x.kids.getD i 0).toNat LT.none).kind (L.getD (x.kids.getD i 0).toNat LT.none).text=q
 refine brP_of (fun h=>⟨⟨hS x,(show (0:Int)≤(i:Int) by omega),(show (i:Int)≤100000000 by omega)⟩,?_⟩) fun h=>?_
 ·rw [ilt_iff] at h
  rw [ilt_eq]
  simp [h]
 ·rw [ilt_iffn] at h
  rw [decide_eq_false (by omega)]
theorem runParen:∀ (L:List LT) (x:LT) (i:Nat),i < x.kids.length→0≤x.kids.getD i 0→x.kids.getD i 0 < L.length→i≤100000000→(cRun (cxA tbP) 60).call 48 [tree L,.agg x.row,.int .i64 i] .leaf 0 (ResM Try.prog false (.bool (parenB L x i))) :=
 Eq.mpr (by kernel_rfl) runParen_r
theorem okParen:EntOK Try.prog 48 eParen:=by
 refine ent_of2 (gl:=[]) (ng:=0) gl0 fun H args ct hct=>?_
 unfold eParen at hct
 split at hct
 ·rename_i n f k s z a b m g i
  injection hct with hct;subst hct
  refine ⟨gl0,_,_,rfl,?_⟩
  rintro ⟨L,S,rfl,rfl,rfl,rfl,h0,h1,h2,h3,h4⟩
  obtain ⟨j,rfl⟩:∃ j:Nat,i=j:=⟨i.toNat,by omega⟩
  refine ⟨⟨vm_tree L,vm_LT ⟨k,s,z,a,b,S⟩,⟨rfl,rfl⟩,trivial⟩,cxA tbP,60,rfl,fol,tb_cons okBinds (tb_cons okMust tb_nil),?_⟩
  have:=runParen L ⟨k,s,z,a,b,S⟩ j (by simpa using h1) h2 h3 (by omega)
  rw [bar_eq]
  have e:∀ q:LT,dLT (AV.int .i64 q.kind :: [.bs q.text,.int .i64 q.n,.int .i64 q.line,.int .i64 q.col,.vec 1 q.kids.length (rI q.kids)])=q:=dLT_row
  have e2:∀ q:Nat,dLT (rowT L q)=L.getD q LT.none:=fun q=>dLT_row _
  have e3:∀ q:Nat,oneI (rI S q)=S.getD q 0:=fun q=>rfl
  simp only [e2,e3]
  exact this
 ·cases hct
theorem runLetters_r:∀ (k:Int),brP (ieq k (1:Int)) ([(42:UInt8),(100:UInt8)]=lettersL k) (brP (ieq k (3:Int)) ([(42:UInt8),(109:UInt8)]=lettersL k) (brP (ieq k (4:Int)) ([(121:UInt8)]=lettersL k) (brP (ieq k (6:Int)) ([(121:UInt8)]=lettersL k) (brP (ieq k (7:Int)) ([(98:UInt8)]=lettersL k) (brP (ieq k (9:Int)) ([(98:UInt8)]=lettersL k) (brP (ieq k (11:Int)) ([(98:UInt8)]=lettersL k) (brP (ieq k (36:Int)) ([(98:UInt8)]=lettersL k) (brP (ieq k (8:Int)) ([(117:UInt8),(42:UInt8),(108:UInt8)]=lettersL k) (brP (ieq k (10:Int)) ([(117:UInt8),(98:UInt8)]=lettersL k) (brP (ieq k (12:Int)) ([(42:UInt8),(115:UInt8)]=lettersL k) (brP (ieq k (13:Int)) ([(121:UInt8),(101:UInt8)]=lettersL k) (brP (ieq k (14:Int)) ([(118:UInt8),(101:UInt8)]=lettersL k) (brP (ieq k (15:Int)) ([(101:UInt8)]=lettersL k) (brP (ieq k (16:Int)) ([(101:UInt8)]=lettersL k) (brP (ieq k (17:Int)) ([(101:UInt8)]=lettersL k) (brP (ieq k (18:Int)) ([(101:UInt8)]=lettersL k) (brP (ieq k (30:Int)) ([(101:UInt8)]=lettersL k) (brP (ieq k (34:Int)) ([(101:UInt8)]=lettersL k) (brP (ieq k (35:Int)) ([(101:UInt8)]=lettersL k) (brP (ieq k (19:Int)) ([(101:UInt8),(63:UInt8),(118:UInt8)]=lettersL k) (brP (ieq k (20:Int)) ([(101:UInt8),(63:UInt8),(118:UInt8)]=lettersL k) (brP (ieq k (23:Int)) ([(101:UInt8),(98:UInt8),(98:UInt8)]=lettersL k) (brP (ieq k (24:Int)) ([(101:UInt8),(98:UInt8)]=lettersL k) (brP (ieq k (31:Int)) ([(101:UInt8),(101:UInt8)]=lettersL k) (brP (ieq k (32:Int)) ([(101:UInt8),(101:UInt8)]=lettersL k) ([]=lettersL k))))))))))))))))))))))))))
:= by
 intro k
 simp only [brP_iff,ieq_eq,ilt_eq,Bool.not_eq_true',Bool.not_eq_false',decide_eq_true_eq,decide_eq_false_iff_not]
 simp only [beq_iff_eq,beq_eq_false_iff_ne,ne_eq]
 repeat' first
  | refine And.intro ?_ ?_
  | intro h
 all_goals first
  | (subst h;rfl)
  | (unfold lettersL;simp [*])
theorem runLetters:∀ (k:Int),(cRun cx0 60).call 65 [.int .i64 k] .leaf 0 (ResM Try.prog false (.bs (lettersL k))) :=
 Eq.mpr (by kernel_rfl) runLetters_r
theorem runIs_r:∀ (k c:Int),brP (ieq c (121:Int)) (ieq k (5:Int)=isK c k) (brP (ieq c (98:Int)) (ieq k (12:Int)=isK c k) (brP (ieq c (117:Int)) (ieq k (29:Int)=isK c k) (brP (ieq c (101:Int)) (True∧bar (termB k)=isK c k) (brP (ieq c (118:Int)) (brP (ieq k (29:Int)) (true=isK c k) (brP (ieq k (30:Int)) (true=isK c k) (ieq k (31:Int)=isK c k))) (brP (ieq c (115:Int)) (brP (!ilt k (13:Int)) ((!ilt (25:Int) k)=isK c k) (false=isK c k)) (brP (ieq c (100:Int)) (brP (ieq k (2:Int)) (true=isK c k) (brP (ieq k (3:Int)) (true=isK c k) (brP (ieq k (6:Int)) (true=isK c k) (brP (ieq k (7:Int)) (true=isK c k) (brP (ieq k (8:Int)) (true=isK c k) (brP (ieq k (10:Int)) (true=isK c k) (brP (ieq k (11:Int)) (true=isK c k) (false=isK c k)))))))) (brP (ieq c (109:Int)) (ieq k (4:Int)=isK c k) (ieq k (9:Int)=isK c k))))))))
:= by
 intro k c
 simp only [barr_eq,bar_eq,true_and,and_true,eq_self,implies_true,Nat.le_eq,cond_tf,cond_cf,nif_tf,Int.toNat_natCast,Int.ofNat_eq_natCast,Nat.ble_eq,Nat.ble_self_eq_true,Bool.true_and,Bool.and_true,Bool.and_self,Option.some.injEq,AV.int.injEq,rowB_self,allBR_self,Nat.mul_one,Nat.beq_refl,allI_true,cond_true,cond_false,ieq_self,Bool.not_true,Bool.not_false,decide_true,brP_f,brP_t,sdA_t,bytesL_packL,List.nil_append]
 simp only [brP_iff,ieq_eq,ilt_eq,Bool.not_eq_true',Bool.not_eq_false',decide_eq_true_eq,decide_eq_false_iff_not]
 unfold isK varB stmtB declB
 repeat' first
  | refine And.intro ?_ ?_
  | intro h
 all_goals grind
theorem runIs:∀ (k c:Int),(cRun (cxA [(75,eTerm)]) 60).call 66 [.int .i64 k,.int .u8 c] .leaf 0 (ResM Try.prog false (.bool (isK c k))) :=
 Eq.mpr (by kernel_rfl) runIs_r
theorem drop_getB (s:List UInt8) (p:Nat) (h:p < s.length):s.drop p=s.getD p 0 :: s.drop (p + 1):=by
 rw [List.drop_eq_getElem_cons h,List.getD_eq_getElem?_getD,List.getElem?_eq_getElem h];rfl
theorem drop_getI (l:List Int) (p:Nat) (h:p < l.length):l.drop p=l.getD p 0 :: l.drop (p + 1):=by
 rw [List.drop_eq_getElem_cons h,List.getD_eq_getElem?_getD,List.getElem?_eq_getElem h];rfl
theorem km_star (d:UInt8) (s:List UInt8) (l:List Int):kidsM (42 :: d :: s) l=kidsM s (l.dropWhile (isK (d.toNat:Int))):=by simp [kidsM]
theorem km_opt (d:UInt8) (s:List UInt8) (l:List Int):kidsM (63 :: d :: s) l=kidsM s (skip1 (isK (d.toNat:Int)) l):=by simp [kidsM]
theorem km_none {c:UInt8} (s:List UInt8) (h1:c≠42) (h2:c≠63):kidsM (c :: s) []=false:=by
 cases s <;> simp [kidsM,h1,h2]
theorem km_nil (l:List Int):kidsM [] l=l.isEmpty:=by simp [kidsM]
theorem km_one {c:UInt8} (s:List UInt8) (x:Int) (l:List Int) (h1:c≠42) (h2:c≠63):kidsM (c :: s) (x :: l)=(isK (c.toNat:Int) x && kidsM s l):=by
 cases s <;> simp [kidsM,h1,h2]
theorem k_star {s:List UInt8} {p:Nat} (l:List Int) (h:p + 1 < s.length) (hc:s.getD p 0=42):kidsM (s.drop p) l=kidsM (s.drop (p + 2)) (l.dropWhile (isK ((s.getD (p + 1) 0).toNat:Int))):=by
 rw [drop_getB s p (by omega),drop_getB s (p + 1) h,hc,km_star]
theorem k_opt {s:List UInt8} {p:Nat} (l:List Int) (h:p + 1 < s.length) (hc:s.getD p 0=63):kidsM (s.drop p) l=kidsM (s.drop (p + 2)) (skip1 (isK ((s.getD (p + 1) 0).toNat:Int)) l):=by
 rw [drop_getB s p (by omega),drop_getB s (p + 1) h,hc,km_opt]
theorem k_none {s:List UInt8} {p:Nat} (h:p < s.length) (h1:s.getD p 0≠42) (h2:s.getD p 0≠63):kidsM (s.drop p) []=false:=by
 rw [drop_getB s p h,km_none _ h1 h2]
theorem k_one {s:List UInt8} {p:Nat} (x:Int) (l:List Int) (h:p < s.length) (h1:s.getD p 0≠42) (h2:s.getD p 0≠63):kidsM (s.drop p) (x :: l)=(isK ((s.getD p 0).toNat:Int) x && kidsM (s.drop (p + 1)) l):=by
 rw [drop_getB s p h,km_one _ _ _ h1 h2]
def letOpts:List (List UInt8):=[[42,100],[42,109],[121],[98],[117,42,108],[117,98],[42,115],[121,101],[118,101],[101],[101,63,118],[101,98,98],[101,98],[101,101],[]]
theorem ite_mem {α:Type} {c:Prop} [Decidable c] {a b:α} {S:List α} (h1:a∈S) (h2:b∈S):(if c then a else b)∈S:=by split <;> assumption
theorem letters_mem (k:Int):lettersL k∈letOpts:=by
 unfold lettersL
 repeat' refine ite_mem (by decide) ?_
 decide
theorem letters_len (k:Int):(lettersL k).length≤3:=(by decide:∀ s∈letOpts,s.length≤3) _ (letters_mem k)
theorem letters_wf (k:Int):∀ p,p < (lettersL k).length→((lettersL k).getD p 0=42∨(lettersL k).getD p 0=63)→p + 1 < (lettersL k).length :=
 (by decide:∀ s∈letOpts,∀ p,p < s.length→(s.getD p 0=42∨s.getD p 0=63)→p + 1 < s.length) _ (letters_mem k)
theorem toN {c:UInt8} {n:Nat} (hn:n < 256):ieq (c.toNat:Int) (n:Int)=true↔c=UInt8.ofNat n:=by
 rw [ieq_iff]
 constructor
 ·intro h
  have h:c.toNat=n:=by omega
  rw [← h];simp
 ·rintro rfl
  simp [Nat.mod_eq_of_lt hn]
@[reducible] def TyC_runKids_k0:Int→List Int→Nat×Nat→Prop:=fun (k:Int) (l:List Int) (a:Nat×Nat)=>(true=true∧k=k)∧(true=true∧l.length=l.length∧AllI fun (i:Nat)=>Nat.le (Nat.succ i) l.length→(true=true∧List.getD l i (0:Int)=List.getD l i (0:Int))∧True)∧barr (lettersL k)=barr (lettersL k)∧(true=true∧(↑a.1:Int) + 1=(↑a.1:Int) + 1)∧True
@[reducible] def TyC_runKids_k1:Int→List Int→Nat×Nat→Nat×Nat→Prop:=fun (k:Int) (l:List Int) (a a_1:Nat×Nat)=>(true=true∧(↑a.1:Int) + 1 + 1=(↑a_1.1:Int))∧(true=true∧k=k)∧(true=true∧l.length=l.length∧AllI fun (i:Nat)=>Nat.le (Nat.succ i) l.length→(true=true∧List.getD l i (0:Int)=List.getD l i (0:Int))∧True)∧barr (lettersL k)=barr (lettersL k)∧True
@[reducible] def TyC_runKids_k2:Int→List Int→Nat×Nat→Nat→Nat×Nat→Prop:=fun (k:Int) (l:List Int) (a:Nat×Nat) (a_1:Nat) (a_2:Nat×Nat)=>KO (lettersL k) l a_2∧Nat.le (Nat.succ (List.length (lettersL k) - a_2.1)) (List.length (lettersL k) - a.1)∧true=true∧((true=true∧(↑a_1:Int)=(↑a_2.2:Int))∧TyC_runKids_k1 k l a a_2)∧True
@[reducible] def TyC_runKids_k3:Int→List Int→Nat×Nat→Nat×Nat→Prop:=fun (k:Int) (l:List Int) (a a_1:Nat×Nat)=>KO (lettersL k) l a_1∧Nat.le (Nat.succ (List.length (lettersL k) - a_1.1)) (List.length (lettersL k) - a.1)∧true=true∧((true=true∧(↑a.2:Int)=(↑a_1.2:Int))∧TyC_runKids_k1 k l a a_1)∧True
theorem runKids_r:∀ (k:Int) (l:List Int),Nat.le l.length 100000000→True∧(∃ (x0:Nat×Nat),KO (lettersL k) l x0∧true=true∧((true=true∧(0:Int)=(↑x0.2:Int))∧(true=true∧(0:Int)=(↑x0.1:Int))∧(true=true∧k=k)∧(true=true∧l.length=l.length∧AllI fun (i:Nat)=>Nat.le (Nat.succ i) l.length→(true=true∧List.getD l i (0:Int)=List.getD l i (0:Int))∧True)∧barr (lettersL k)=barr (lettersL k)∧True)∧True)∧∀ (x:Nat×Nat),KO (lettersL k) l x→brP (ilt (↑x.1:Int) (Int.ofNat (List.length (barr (lettersL k))))) (sdA (inB (↑x.1:Int) (List.length (barr (lettersL k)))) (brP (ieq (↑(UInt8.toNat (List.getD (barr (lettersL k)) (Int.toNat (↑x.1:Int)) (0:UInt8))):Int) (42:Int)) (sdA (inR .i64 ((↑x.1:Int) + 1)) ((∃ (x0:Nat),(∀ (a:Int),some (AV.int .i64 ((↑x.1:Int) + 1))=some (AV.int .i64 a)→KI (lettersL k) l (Int.toNat a) x0)∧true=true∧((true=true∧(↑x.2:Int)=(↑x0:Int))∧TyC_runKids_k0 k l x)∧True)∧∀ (x_1:Nat),(∀ (a:Int),some (AV.int .i64 ((↑x.1:Int) + 1))=some (AV.int .i64 a)→KI (lettersL k) l (Int.toNat a) x_1)→brP (ilt (↑x_1:Int) (Int.ofNat l.length)) (sdA (inB (↑x_1:Int) l.length) (sdA (inB ((↑x.1:Int) + 1) (List.length (barr (lettersL k)))) (True∧(((True∧True∧True)∧True)∧((True∧True∧True)∧True)∧True)∧brP (bar (isK (↑(UInt8.toNat (List.getD (barr (lettersL k)) (Int.toNat ((↑x.1:Int) + 1)) (0:UInt8))):Int) (List.getD l (Int.toNat (↑x_1:Int)) (0:Int)))) (sdA (inR .i64 ((↑x_1:Int) + 1)) (∃ (x':Nat),(∀ (a:Int),some (AV.int .i64 ((↑x.1:Int) + 1))=some (AV.int .i64 a)→KI (lettersL k) l (Int.toNat a) x')∧Nat.le (Nat.succ (l.length - x')) (l.length - x_1)∧true=true∧((true=true∧(↑x_1:Int) + 1=(↑x':Int))∧TyC_runKids_k0 k l x)∧True)) (sdA (inR .i64 ((↑x.1:Int) + 1 + 1)) (∃ (x':Nat×Nat),TyC_runKids_k2 k l x x_1 x'))))) ((((True∧True)∧True)∧True)∧sdA (inR .i64 ((↑x.1:Int) + 1 + 1)) (∃ (x':Nat×Nat),TyC_runKids_k2 k l x x_1 x')))) (brP (ieq (↑(UInt8.toNat (List.getD (barr (lettersL k)) (Int.toNat (↑x.1:Int)) (0:UInt8))):Int) (63:Int)) (sdA (inR .i64 ((↑x.1:Int) + 1)) (brP (ilt (↑x.2:Int) (Int.ofNat l.length)) (sdA (inB (↑x.2:Int) l.length) (sdA (inB ((↑x.1:Int) + 1) (List.length (barr (lettersL k)))) (True∧(((True∧True∧True)∧True)∧((True∧True∧True)∧True)∧True)∧brP (bar (isK (↑(UInt8.toNat (List.getD (barr (lettersL k)) (Int.toNat ((↑x.1:Int) + 1)) (0:UInt8))):Int) (List.getD l (Int.toNat (↑x.2:Int)) (0:Int)))) (sdA (inR .i64 ((↑x.2:Int) + 1)) (sdA (inR .i64 ((↑x.1:Int) + 1 + 1)) (∃ (x':Nat×Nat),KO (lettersL k) l x'∧Nat.le (Nat.succ (List.length (lettersL k) - x'.1)) (List.length (lettersL k) - x.1)∧true=true∧((true=true∧(↑x.2:Int) + 1=(↑x'.2:Int))∧TyC_runKids_k1 k l x x')∧True))) (sdA (inR .i64 ((↑x.1:Int) + 1 + 1)) (∃ (x':Nat×Nat),TyC_runKids_k3 k l x x'))))) ((((True∧True)∧True)∧True)∧sdA (inR .i64 ((↑x.1:Int) + 1 + 1)) (∃ (x':Nat×Nat),TyC_runKids_k3 k l x x')))) (brP (ieq (↑x.2:Int) (Int.ofNat l.length)) ((((True∧True)∧True)∧True)∧false=kidsM (lettersL k) l) (sdA (inB (↑x.2:Int) l.length) (sdA (inB (↑x.1:Int) (List.length (barr (lettersL k)))) (True∧(((True∧True∧True)∧True)∧((True∧True∧True)∧True)∧True)∧brP (!bar (isK (↑(UInt8.toNat (List.getD (barr (lettersL k)) (Int.toNat (↑x.1:Int)) (0:UInt8))):Int) (List.getD l (Int.toNat (↑x.2:Int)) (0:Int)))) (false=kidsM (lettersL k) l) (sdA (inR .i64 ((↑x.2:Int) + 1)) (sdA (inR .i64 ((↑x.1:Int) + 1)) (∃ (x':Nat×Nat),KO (lettersL k) l x'∧Nat.le (Nat.succ (List.length (lettersL k) - x'.1)) (List.length (lettersL k) - x.1)∧true=true∧((true=true∧(↑x.2:Int) + 1=(↑x'.2:Int))∧(true=true∧(↑x.1:Int) + 1=(↑x'.1:Int))∧(true=true∧k=k)∧(true=true∧l.length=l.length∧AllI fun (i:Nat)=>Nat.le (Nat.succ i) l.length→(true=true∧List.getD l i (0:Int)=List.getD l i (0:Int))∧True)∧barr (lettersL k)=barr (lettersL k)∧True)∧True)))))))))) (ieq (↑x.2:Int) (Int.ofNat l.length)=kidsM (lettersL k) l)
:= by
 intro k l hl
 have hl:l.length≤100000000:=hl
 have hs3:=letters_len k
 have hw:=letters_wf k
 simp only [barr_eq,bar_eq,true_and,and_true,eq_self,implies_true,Nat.le_eq,cond_tf,cond_cf,nif_tf,Int.toNat_natCast,Int.ofNat_eq_natCast,Nat.ble_eq,Nat.ble_self_eq_true,Bool.true_and,Bool.and_true,Bool.and_self,Option.some.injEq,AV.int.injEq,rowB_self,allBR_self,Nat.mul_one,Nat.beq_refl,allI_true,cond_true,cond_false,ieq_self,Bool.not_true,Bool.not_false,decide_true,brP_f,brP_t,sdA_t,bytesL_packL,List.nil_append,TyC_runKids_k0,TyC_runKids_k1,TyC_runKids_k2,TyC_runKids_k3]
 generalize lettersL k=s at *
 refine ⟨⟨(0,0),⟨Nat.zero_le _,Nat.zero_le _,rfl⟩,rfl,rfl⟩,fun x hx=>?_⟩
 obtain ⟨p,i⟩:=x
 have hp:=hx.p
 have hi:=hx.i
 have heq:=hx.eq
 simp only at hp hi heq ⊢
 refine brP_of (fun h=>?_) fun h=>?_
 ·rw [ilt_iff] at h
  have hlt:p < s.length:=by omega
  have hR:inR .i64 ((p:Int) + 1)=true:=inR_i64.2 (by omega)
  have hR2:inR .i64 ((p:Int) + 1 + 1)=true:=inR_i64.2 (by omega)
  have hB:inB (p:Int) s.length=true:=inB_iff.2 (by omega)
  refine sdA_of hB (brP_of (fun h1=>sdA_of hR ?_) fun h1=>?_)
  ·have h1:s.getD p 0=42:=(toN (n:=42) (by decide)).1 h1
   have hp1:=hw p hlt (.inl h1)
   refine ⟨⟨i,fun a ha=>⟨by omega,hi,?_⟩,rfl⟩,fun j hj=>?_⟩
   ·obtain rfl:a=(p:Int) + 1:=ha.symm
    rw [show ((p:Int) + 1).toNat=p + 1 by omega,← k_star _ hp1 h1];exact heq
   ·have hj:=hj _ rfl
    rw [show ((p:Int) + 1).toNat=p + 1 by omega] at hj ⊢
    have hjl:=hj.il
    refine brP_of (fun h2=>?_) fun h2=>?_
    ·rw [ilt_iff] at h2
     have hjlt:j < l.length:=by omega
     refine sdA_of (inB_iff.2 (by omega)) (sdA_of (inB_iff.2 (by omega)) (brP_of (fun h3=>sdA_of (inR_i64.2 (by omega)) ⟨j + 1,fun a ha=>?_,by omega,by omega⟩) fun h3=>sdA_of hR2 ⟨(p + 2,j),⟨by simp only;omega,hjl,?_⟩,by simp only;omega,by simp,by simp only;omega⟩))
     ·obtain rfl:a=(p:Int) + 1:=ha.symm
      rw [show ((p:Int) + 1).toNat=p + 1 by omega]
      have h4:=hj.eq
      rw [drop_getI l j hjlt,List.dropWhile_cons,if_pos h3] at h4
      exact ⟨hj.pl,hjlt,h4⟩
     ·have h4:=hj.eq
      rw [drop_getI l j hjlt,List.dropWhile_cons,if_neg (by rw [h3];simp),← drop_getI l j hjlt] at h4
      exact h4
    ·rw [ilt_iffn] at h2
     obtain rfl:j=l.length:=by omega
     refine sdA_of hR2 ⟨(p + 2,l.length),⟨by simp only;omega,Nat.le_refl _,?_⟩,by simp only;omega,by simp,by simp only;omega⟩
     have h4:=hj.eq
     rw [List.drop_length,List.dropWhile_nil] at h4
     rw [List.drop_length];exact h4
  ·have h1:s.getD p 0≠42:=fun e=>absurd (h1.symm.trans ((toN (n:=42) (by decide)).2 e)) (by decide)
   refine brP_of (fun h2=>sdA_of hR ?_) fun h2=>?_
   ·have h2:s.getD p 0=63:=(toN (n:=63) (by decide)).1 h2
    have hp1:=hw p hlt (.inr h2)
    rw [k_opt _ hp1 h2] at heq
    rw [show ((p:Int) + 1).toNat=p + 1 by omega]
    refine brP_of (fun h3=>?_) fun h3=>?_
    ·rw [ilt_iff] at h3
     have hilt:i < l.length:=by omega
     rw [drop_getI l i hilt] at heq
     unfold skip1 at heq
     refine sdA_of (inB_iff.2 (by omega)) (sdA_of (inB_iff.2 (by omega)) (brP_of (fun h4=>sdA_of (inR_i64.2 (by omega)) (sdA_of hR2 ⟨(p + 2,i + 1),⟨by simp only;omega,hilt,?_⟩,by simp only;omega,by simp only;omega,by simp only;omega⟩)) fun h4=>sdA_of hR2 ⟨(p + 2,i),⟨by simp only;omega,hi,?_⟩,by simp only;omega,by simp,by simp only;omega⟩))
     ·simp only [h4,if_true] at heq
      exact heq
     ·simp only [h4,Bool.false_eq_true,if_false] at heq
      rw [← drop_getI l i hilt] at heq
      exact heq
    ·rw [ilt_iffn] at h3
     obtain rfl:i=l.length:=by omega
     rw [List.drop_length] at heq
     refine sdA_of hR2 ⟨(p + 2,l.length),⟨by simp only;omega,Nat.le_refl _,?_⟩,by simp only;omega,by simp,by simp only;omega⟩
     rw [List.drop_length];exact heq
   ·have h2:s.getD p 0≠63:=fun e=>absurd (h2.symm.trans ((toN (n:=63) (by decide)).2 e)) (by decide)
    refine brP_of (fun h3=>?_) fun h3=>?_
    ·rw [ieq_iff] at h3
     obtain rfl:i=l.length:=by omega
     rw [List.drop_length,k_none hlt h1 h2] at heq
     exact heq
    ·rw [ieq_iffn] at h3
     have hilt:i < l.length:=by omega
     rw [drop_getI l i hilt,k_one _ _ hlt h1 h2] at heq
     refine sdA_of (inB_iff.2 (by omega)) (sdA_of hB (brP_of (fun h4=>?_) fun h4=>sdA_of (inR_i64.2 (by omega)) (sdA_of hR ⟨(p + 1,i + 1),⟨hlt,hilt,?_⟩,by simp only;omega,by simp,by simp⟩)))
     ·rw [nf h4] at heq
      exact heq
     ·rw [nt h4,Bool.true_and] at heq
      exact heq
 ·rw [ilt_iffn] at h
  obtain rfl:p=s.length:=by omega
  rw [List.drop_length] at heq
  rw [← heq,km_nil,ieq_eq]
  cases hd:l.drop i with
  | nil =>
   have:=congrArg List.length hd
   simp at this
   simp;omega
  | cons y t =>
   have:=congrArg List.length hd
   simp at this
   simp;omega
theorem runKids:∀ (k:Int) (l:List Int),l.length≤100000000→(cRun (cxK (lettersL k) l) 60).call 49 [.int .i64 k,.vec 1 l.length (rI l)] .leaf 0 (ResM Try.prog false (.bool (kidsM (lettersL k) l))) :=
 Eq.mpr (by kernel_rfl) runKids_r
theorem okLetters:EntOK Try.prog 65 eLetters:=by
 refine ent_of2 (gl:=[]) (ng:=0) gl0 fun H args ct hct=>?_
 unfold eLetters at hct
 split at hct
 ·rename_i k
  injection hct with hct;subst hct
  exact ⟨gl0,_,_,rfl,fun _=>⟨⟨⟨rfl,rfl⟩,trivial⟩,cx0,60,rfl,fol,tb_nil,by rw [barr_eq];exact runLetters k⟩⟩
 ·cases hct
theorem okIs:EntOK Try.prog 66 eIs:=by
 refine ent_of2 (gl:=[]) (ng:=0) gl0 fun H args ct hct=>?_
 unfold eIs at hct
 split at hct
 ·rename_i k c
  injection hct with hct;subst hct
  exact ⟨gl0,_,_,rfl,fun _=>⟨⟨⟨rfl,rfl⟩,⟨rfl,rfl⟩,trivial⟩,_,60,rfl,fol,tb_cons okTermR tb_nil,by rw [bar_eq];exact runIs k c⟩⟩
 ·cases hct
theorem okKids:EntOK Try.prog 49 eKids:=by
 refine ent_of2 (gl:=[]) (ng:=0) gl0 fun H args ct hct=>?_
 unfold eKids at hct
 split at hct
 ·rename_i k n f
  injection hct with hct;subst hct
  refine ⟨gl0,_,_,rfl,?_⟩
  rintro ⟨S,rfl,rfl,h⟩
  rw [bar_eq,rowL_rI]
  exact ⟨⟨⟨rfl,rfl⟩,⟨rfl,rfl,⟨fun i _=>vm_rI _ i⟩⟩,trivial⟩,cxK (lettersL k) S,60,rfl,fol,tb_cons okLetters (tb_cons okIs tb_nil),runKids k S h⟩
 ·cases hct
end Go.Proofs.Ythallodoidghoaa
