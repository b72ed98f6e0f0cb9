/- Laid by program out of its parts: TyK. -/
import Derived.Test.YthallodoidghoaaTyJ
set_option linter.unusedVariables false
set_option linter.unusedSimpArgs false
set_option maxRecDepth 100000
set_option maxHeartbeats 2000000
open Go Go.Ev
namespace Go.Proofs.Ythallodoidghoaa
def topW (L:List LT) (U:List Int) (x top:Nat):Nat :=
 if h:0≤U.getD x 0∧U.getD x 0 < x then topW L U (U.getD x 0).toNat (if opensB (L.getD x LT.none).kind then x else top) else (if opensB (L.getD x LT.none).kind then x else top)
termination_by x
decreasing_by omega
def topI (L:List LT) (U:List Int) (x:Int) (top:Nat):Nat:=if x < 0 then top else topW L U x.toNat top
def lifeT (n:Int):List UInt8:=if n=0 then [99,114,101,97,116,101] else if n=1 then [115,116,97,114,116] else if n=2 then [115,116,111,112] else [100,101,115,116,114,111,121]
def nameW (L:List LT) (U:List Int) (a:Nat):List UInt8 :=
 if (L.getD a LT.none).kind=9 then (L.getD (U.getD a 0).toNat LT.none).text ++ [46] ++ lifeT (L.getD a LT.none).n
 else if (L.getD a LT.none).kind=11 then [109,97,105,110]
 else if (L.getD a LT.none).kind=36 then (if h:topW L U a a < a then nameW L U (topW L U a a) ++ [46] ++ digS (countN L 36 (a + 1) - countN L 36 (topW L U a a)) else [])
 else (L.getD a LT.none).text
termination_by a
noncomputable def eNameN (N:Nat):Tr AObj→List AV→Option Ct:=fun _ args=>match args with
 | [.agg [.vec 6 n f],.vec 1 m g,.int .i64 a]=>some (.need (∃ (L:List LT) (U:List Int),n=L.length∧f=rowT L∧m=U.length∧g=rI U∧TU L U∧LSmall L∧0≤a∧a < L.length∧a.toNat < N) (.ret (.bs (barr (nameW (rowTs n f) (rowL m g) a.toNat)))))
 | _=>none
structure TI (L:List LT) (U:List Int) (a:Nat) (x:Int×Nat):Prop where
 lo:-1≤x.1
 hi:x.1≤a
 top:x.2≤a
 eq:topI L U x.1 x.2=topW L U a a
noncomputable def SNo (L:List LT) (U:List Int) (a:Nat):Stn:=thin (Int×Nat) [0,1,2,3,6,7] (fun x=>[(9,.int .i64 x.1),(8,.int .i64 x.2)]) (fun _ x=>TI L U a x) fun x=>(x.1 + 1).toNat
structure NI (L:List LT) (a top i:Nat):Prop where
 lo:top≤i
 hi:i≤a + 1
noncomputable def SNc (L:List LT) (U:List Int) (a:Nat):Stn:=thin Nat [0,1,2,3,6,7,8] (fun i=>[(10,.int .i64 ((countN L 36 i:Int) - (countN L 36 (topW L U a a):Int))),(11,.int .i64 i)]) (fun _ i=>NI L a (topW L U a a) i) fun i=>a + 1 - i
noncomputable def cxN (N:Nat) (L:List LT) (U:List Int) (a:Nat):Ctx:={ P:=Try.prog,tb:=[(30,oneI64 opensB),(50,eDigits),(33,eNameN N)],lp:=fun f r=>cond (Nat.beq f 33) (cond (Nat.beq r 10) (some (SNo L U a)) (cond (Nat.beq r 16) (some (SNc L U a)) none)) none,cut:=fun _ _=>none }
inductive Chain (L:List LT) (U:List Int):Nat→Prop where
 | here (x:Nat) (h:opensB (L.getD x LT.none).kind=true):Chain L U x
 | up (x:Nat) (h1:0≤U.getD x 0) (h2:U.getD x 0 < x) (h:Chain L U (U.getD x 0).toNat):Chain L U x
theorem mem_tw {p:Int→Bool}:∀ {l:List Int} {x:Int},x∈l.takeWhile p→p x=true
 | [],x,h=>by simp at h
 | y :: l,x,h=>by
  by_cases hy:p y=true
  ·rw [List.takeWhile_cons_of_pos hy] at h
   rcases List.mem_cons.1 h with rfl | h
   ·exact hy
   ·exact mem_tw h
  ·rw [List.takeWhile_cons_of_neg hy] at h;simp at h
theorem kids_is:∀ (n:Nat) (s:List UInt8),s.length≤n→∀ l:List Int,kidsM s l=true→∀ x∈l,∃ c∈s,isK (c.toNat:Int) x=true:=by
 intro n
 induction n with
 | zero =>
  intro s hs l h x hx
  have:s=[]:=List.length_eq_zero_iff.1 (by omega)
  subst this
  rw [km_nil,List.isEmpty_iff] at h
  subst h;simp at hx
 | succ n ih =>
  intro s hs l h x hx
  match s,hs with
  | [],_ =>
   rw [km_nil,List.isEmpty_iff] at h
   subst h;simp at hx
  | [c],_ =>
   match l,hx with
   | y :: t,hx =>
    simp only [kidsM,Bool.and_eq_true,List.isEmpty_iff] at h
    obtain ⟨h1,rfl⟩:=h
    simp only [List.mem_singleton] at hx
    subst hx
    exact ⟨c,by simp,h1⟩
  | c :: d :: s,hs =>
   simp only [List.length_cons] at hs
   by_cases h42:c=42
   ·subst h42
    rw [km_star] at h
    rw [← List.takeWhile_append_dropWhile (p:=isK (d.toNat:Int)) (l:=l)] at hx
    rcases List.mem_append.1 hx with hx | hx
    ·exact ⟨d,by simp,mem_tw hx⟩
    ·obtain ⟨e,he,h1⟩:=ih s (by omega) _ h x hx
     exact ⟨e,by simp [he],h1⟩
   ·by_cases h63:c=63
    ·subst h63
     rw [km_opt] at h
     match l,hx with
     | y :: t,hx =>
      unfold skip1 at h
      by_cases hy:isK (d.toNat:Int) y=true
      ·simp only [hy,if_true] at h
       rcases List.mem_cons.1 hx with rfl | hx
       ·exact ⟨d,by simp,hy⟩
       ·obtain ⟨e,he,h1⟩:=ih s (by omega) _ h x hx
        exact ⟨e,by simp [he],h1⟩
      ·simp only [hy,if_false] at h
       obtain ⟨e,he,h1⟩:=ih s (by omega) _ h x hx
       exact ⟨e,by simp [he],h1⟩
    ·match l,hx with
     | y :: t,hx =>
      rw [km_one _ _ _ h42 h63,Bool.and_eq_true] at h
      rcases List.mem_cons.1 hx with rfl | hx
      ·exact ⟨c,by simp,h.1⟩
      ·obtain ⟨e,he,h1⟩:=ih (d :: s) (by simp;omega) _ h.2 x hx
       exact ⟨e,by simp only [List.mem_cons] at he ⊢;exact .inr he,h1⟩
def inner (k:Int):Prop:=12≤k∧k≤36∧k≠29
theorem letters_in {k c:Int} (h:∃ e∈lettersL k,isK (e.toNat:Int) c=true) (hc:inner c):opensB k=true∨inner k:=by
 obtain ⟨e,he,h1⟩:=h
 unfold inner at hc ⊢
 unfold opensB
 by_cases hk:12≤k∧k≤36∧k≠29
 ·exact .inr hk
 ·refine .inl ?_
  rw [decide_eq_true_eq]
  unfold lettersL at he
  have hd:∀ z:Int,z=100∨z=109∨z=121∨z=108∨z=42∨z=117→isK z c=false:=fun z hz=>by
   unfold isK declB
   rcases hz with rfl | rfl | rfl | rfl | rfl | rfl <;> simp <;> omega
  by_cases h7:k=7∨k=9∨k=11∨k=36
  ·omega
  ·by_cases h10:k=10
   ·omega
   ·exfalso
    have:e=42∨e=100∨e=109∨e=121∨e=117∨e=108:=by
     by_cases g1:k=1
     ·rw [if_pos g1] at he;simp at he;rcases he with rfl | rfl <;> simp
     ·rw [if_neg g1] at he
      by_cases g3:k=3
      ·rw [if_pos g3] at he;simp at he;rcases he with rfl | rfl <;> simp
      ·rw [if_neg g3] at he
       by_cases g4:k=4∨k=6
       ·rw [if_pos g4] at he;simp at he;subst he;simp
       ·rw [if_neg g4,if_neg h7] at he
        by_cases g8:k=8
        ·rw [if_pos g8] at he;simp at he;rcases he with rfl | rfl | rfl <;> simp
        ·rw [if_neg g8,if_neg h10,if_neg (by omega),if_neg (by omega),if_neg (by omega),if_neg (by omega),if_neg (by omega),if_neg (by omega),if_neg (by omega),if_neg (by omega)] at he
         simp at he
    have h2:=hd (e.toNat:Int) (by rcases this with rfl | rfl | rfl | rfl | rfl | rfl <;> decide)
    rw [h2] at h1;cases h1
theorem chain_up {L:List LT} {U:List Int} (hT:TU L U):∀ (n x:Nat),x≤n→x < L.length→inner (L.getD x LT.none).kind→Chain L U (U.getD x 0).toNat:=by
 intro n
 induction n with
 | zero =>
  intro x hx hl hi
  obtain rfl:x=0:=by omega
  unfold inner at hi
  rw [hT.good.root] at hi;omega
 | succ n ih =>
  intro x hx hl hi
  have hx0:0 < x:=by
   rcases Nat.eq_zero_or_pos x with h | h
   ·subst h
    unfold inner at hi
    rw [hT.good.root] at hi;omega
   ·exact h
  obtain ⟨h1,h2⟩:=hT.ups.lo x hx0 hl
  have h3:=hT.ups.up x hx0 hl
  obtain ⟨p,hp⟩:∃ p:Nat,U.getD x 0=p:=⟨(U.getD x 0).toNat,by omega⟩
  rw [hp,Int.toNat_natCast] at h3 ⊢
  have hk:=hT.good.kinds p (by omega)
  have h4:=kids_is _ _ (Nat.le_refl _) _ hk (kindOf L (x:Int)) (List.mem_map.2 ⟨_,h3,rfl⟩)
  rw [show kindOf L (x:Int)=(L.getD x LT.none).kind by unfold kindOf;rw [Int.toNat_natCast]] at h4
  rcases letters_in h4 hi with h5 | h5
  ·exact .here p h5
  ·have hp0:0 < p:=by
    rcases Nat.eq_zero_or_pos p with h | h
    ·subst h
     unfold inner at h5
     rw [hT.good.root] at h5;omega
    ·exact h
   obtain ⟨g1,g2⟩:=hT.ups.lo p hp0 (by omega)
   exact .up p g1 g2 (ih p (by omega) (by omega) h5)
theorem topW_max (L:List LT) (U:List Int):∀ (n x top:Nat),x≤n→topW L U x top≤max x top:=by
 intro n
 induction n with
 | zero =>
  intro x top hx
  obtain rfl:x=0:=by omega
  rw [topW,dif_neg (by omega)]
  split <;> omega
 | succ n ih =>
  intro x top hx
  rw [topW]
  split
  ·rename_i h
   have:=ih (U.getD x 0).toNat (if opensB (L.getD x LT.none).kind then x else top) (by omega)
   split at this <;> rename_i h2 <;> simp only [h2,if_true,if_false,Bool.false_eq_true] <;> omega
  ·split <;> omega
theorem topW_chain {L:List LT} {U:List Int} {x:Nat} (h:Chain L U x):∀ top,topW L U x top≤x:=by
 induction h with
 | here x h =>
  intro top
  rw [topW]
  split
  ·rename_i g
   have:=topW_max L U _ (U.getD x 0).toNat (if opensB (L.getD x LT.none).kind then x else top) (Nat.le_refl _)
   first
    | (simp only [h,if_true] at this ⊢;omega)
    | (rw [if_pos h] at this;omega)
  ·first
    | exact Nat.le_refl _
    | (simp only [h,if_true];exact Nat.le_refl _)
 | up x h1 h2 _ ih =>
  intro top
  rw [topW,dif_pos ⟨h1,h2⟩]
  have:=ih (if opensB (L.getD x LT.none).kind then x else top)
  omega
theorem topW_lt {L:List LT} {U:List Int} (hT:TU L U) {a:Nat} (ha:a < L.length) (hk:(L.getD a LT.none).kind=36):topW L U a a < a:=by
 have ha0:0 < a:=by
  rcases Nat.eq_zero_or_pos a with h | h
  ·subst h
   rw [hT.good.root] at hk;cases hk
  ·exact h
 obtain ⟨h1,h2⟩:=hT.ups.lo a ha0 ha
 have hc:=chain_up hT a a (Nat.le_refl _) ha (by unfold inner;omega)
 rw [topW,dif_pos ⟨h1,h2⟩]
 have:=topW_chain hc (if opensB (L.getD a LT.none).kind then a else a)
 omega
theorem topW_step {L:List LT} {U:List Int} {y top:Nat} (h:U.getD y 0 = -1∨0≤U.getD y 0∧U.getD y 0 < y):topW L U y top=topI L U (U.getD y 0) (if opensB (L.getD y LT.none).kind then y else top):=by
 rw [topW]
 unfold topI
 rcases h with h | h
 ·have h1:U.getD y 0 < 0:=by omega
  rw [dif_neg (by omega)]
  simp only [h1,if_true]
 ·have h1:¬ U.getD y 0 < 0:=by omega
  rw [dif_pos h]
  simp only [h1,if_false]
theorem digW_len:∀ (m n:Nat) (s:List UInt8),n≤m→(digW n s).length≤n + s.length:=by
 intro m
 induction m with
 | zero =>
  intro n s h
  obtain rfl:n=0:=by omega
  rw [digW];simp
 | succ m ih =>
  intro n s h
  rw [digW]
  split
  ·omega
  ·have:=ih (n / 10) (UInt8.ofNat (48 + n % 10) :: s) (by omega)
   simp only [List.length_cons] at this
   omega
theorem digS_len (n:Nat):(digS n).length≤n + 1:=by
 unfold digS
 split
 ·simp
 ·have:=digW_len n n [] (Nat.le_refl _)
  simp at this;omega
theorem nameW_len {L:List LT} {U:List Int} (hT:TU L U) (hL:LSmall L):∀ (n a:Nat),a≤n→a < L.length→(nameW L U a).length≤(a + 1) * 3000000:=by
 intro n
 induction n with
 | zero =>
  intro a h1 h2
  have hx:=hL.text a
  have hy:=hL.text (U.getD a 0).toNat
  rw [nameW]
  split
  ·have:(lifeT (L.getD a LT.none).n).length≤7:=by unfold lifeT;(repeat' split) <;> simp
   simp only [List.length_append,List.length_cons,List.length_nil];omega
  ·split
   ·simp;omega
   ·split
    ·split
     ·omega
     ·simp
    ·omega
 | succ n ih =>
  intro a h1 h2
  have hx:=hL.text a
  have hy:=hL.text (U.getD a 0).toNat
  have hl:=hT.len
  rw [nameW]
  split
  ·have:(lifeT (L.getD a LT.none).n).length≤7:=by unfold lifeT;(repeat' split) <;> simp
   simp only [List.length_append,List.length_cons,List.length_nil];omega
  ·split
   ·simp;omega
   ·split
    ·split
     ·rename_i h
      have h3:=ih (topW L U a a) (by omega) (by omega)
      have h4:=digS_len (countN L 36 (a + 1) - countN L 36 (topW L U a a))
      have h5:=count_le L 36 (a + 1)
      have h6:(topW L U a a + 1) * 3000000≤a * 3000000:=Nat.mul_le_mul_right _ (by omega)
      simp only [List.length_append,List.length_cons,List.length_nil];omega
     ·simp
    ·omega
@[reducible] def TyK_runName4_k0:List LT→Prop:=fun (L:List LT)=>true=true∧L.length=L.length∧AllI fun (i:Nat)=>Nat.le (Nat.succ i) L.length→(true=true∧LT.kind (List.getD L i LT.none)=LT.kind (List.getD L i LT.none))∧LT.text (List.getD L i LT.none)=LT.text (List.getD L i LT.none)∧(true=true∧LT.n (List.getD L i LT.none)=LT.n (List.getD L i LT.none))∧(true=true∧LT.line (List.getD L i LT.none)=LT.line (List.getD L i LT.none))∧(true=true∧LT.col (List.getD L i LT.none)=LT.col (List.getD L i LT.none))∧(true=true∧List.length (LT.kids (List.getD L i LT.none))=List.length (LT.kids (List.getD L i LT.none))∧AllI fun (i_1:Nat)=>Nat.le (Nat.succ i_1) (List.length (LT.kids (List.getD L i LT.none)))→(true=true∧List.getD (LT.kids (List.getD L i LT.none)) i_1 (0:Int)=List.getD (LT.kids (List.getD L i LT.none)) i_1 (0:Int))∧True)∧True
@[reducible] def TyK_runName4_k1:List LT→Prop:=fun (L:List LT)=>TyK_runName4_k0 L∧True
@[reducible] def TyK_runName4_k2:List LT→List Int→Nat→Prop:=fun (L:List LT) (U:List Int) (a:Nat)=>TyK_runName4_k1 L∧(true=true∧U.length=U.length∧AllI fun (i:Nat)=>Nat.le (Nat.succ i) U.length→(true=true∧List.getD U i (0:Int)=List.getD U i (0:Int))∧True)∧(true=true∧(↑a:Int)=(↑a:Int))∧(some 0=some 0∧true=true)∧(0=0∧0=0)∧(some 1=some 1∧true=true)∧True
@[reducible] def TyK_runName4_k3:List LT→List Int→Nat→Int×Nat→Prop:=fun (L:List LT) (U:List Int) (a:Nat) (a_1:Int×Nat)=>TyK_runName4_k1 L∧(true=true∧U.length=U.length∧AllI fun (i:Nat)=>Nat.le (Nat.succ i) U.length→(true=true∧List.getD U i (0:Int)=List.getD U i (0:Int))∧True)∧(true=true∧(↑a:Int)=(↑a:Int))∧(some 0=some 0∧true=true)∧(0=0∧0=0)∧(some 1=some 1∧true=true)∧(true=true∧(↑a_1.2:Int)=(↑a_1.2:Int))∧True
@[reducible] def TyK_runName4_k4:List LT→List Int→Nat→Int×Nat→Nat→Nat→Prop:=fun (L:List LT) (U:List Int) (a:Nat) (a_1:Int×Nat) (a_2 a_3:Nat)=>(true=true∧(↑a_2:Int) + 1=(↑a_3:Int))∧TyK_runName4_k3 L U a a_1
@[reducible] def TyK_runName4_k5:List LT→Nat→Prop:=fun (L:List LT) (a:Nat)=>(true=true∧true=true∧true=true∧true=true∧True∧TyK_runName4_k0 L)∧(true=true∧true=true∧true=true∧true=true∧(((((True∧true=true∧LT.kind (List.getD L (Int.toNat (↑a:Int)) LT.none)=LT.kind (List.getD L (Int.toNat (↑a:Int)) LT.none))∧LT.text (List.getD L (Int.toNat (↑a:Int)) LT.none)=LT.text (List.getD L (Int.toNat (↑a:Int)) LT.none))∧true=true∧LT.n (List.getD L (Int.toNat (↑a:Int)) LT.none)=LT.n (List.getD L (Int.toNat (↑a:Int)) LT.none))∧true=true∧LT.line (List.getD L (Int.toNat (↑a:Int)) LT.none)=LT.line (List.getD L (Int.toNat (↑a:Int)) LT.none))∧true=true∧LT.col (List.getD L (Int.toNat (↑a:Int)) LT.none)=LT.col (List.getD L (Int.toNat (↑a:Int)) LT.none))∧true=true∧List.length (LT.kids (List.getD L (Int.toNat (↑a:Int)) LT.none))=List.length (LT.kids (List.getD L (Int.toNat (↑a:Int)) LT.none))∧AllI fun (i:Nat)=>Nat.le (Nat.succ i) (List.length (LT.kids (List.getD L (Int.toNat (↑a:Int)) LT.none)))→(true=true∧List.getD (LT.kids (List.getD L (Int.toNat (↑a:Int)) LT.none)) i (0:Int)=List.getD (LT.kids (List.getD L (Int.toNat (↑a:Int)) LT.none)) i (0:Int))∧True)∧True
theorem runName4_r:∀ (N:Nat) (L:List LT) (U:List Int) (a:Nat),TU L U→LSmall L→Nat.le (Nat.succ a) L.length→Nat.le (Nat.succ a) (N + 1)→sdA (inB (↑a:Int) L.length) (brP (ieq (LT.kind (List.getD L (Int.toNat (↑a:Int)) LT.none)) (9:Int)) (sdA (inB (↑a:Int) U.length) (sdA (inB (List.getD U (Int.toNat (↑a:Int)) (0:Int)) L.length) (sdA (decide (List.length (LT.text (List.getD L (Int.toNat (List.getD U (Int.toNat (↑a:Int)) (0:Int))) LT.none)) + 1≤9223372036854775807)) (brP (ieq (LT.n (List.getD L (Int.toNat (↑a:Int)) LT.none)) (3:Int)) (sdA (decide (List.length (LT.text (List.getD L (Int.toNat (List.getD U (Int.toNat (↑a:Int)) (0:Int))) LT.none) ++ [(46:UInt8)]) + 7≤9223372036854775807)) ((((True∧True∧True∧True∧True∧True)∧True)∧True)∧LT.text (List.getD L (Int.toNat (List.getD U (Int.toNat (↑a:Int)) (0:Int))) LT.none) ++ [(46:UInt8)] ++ [(100:UInt8),(101:UInt8),(115:UInt8),(116:UInt8),(114:UInt8),(111:UInt8),(121:UInt8)]=nameW L U a)) (brP (ieq (LT.n (List.getD L (Int.toNat (↑a:Int)) LT.none)) (2:Int)) (sdA (decide (List.length (LT.text (List.getD L (Int.toNat (List.getD U (Int.toNat (↑a:Int)) (0:Int))) LT.none) ++ [(46:UInt8)]) + 4≤9223372036854775807)) ((((True∧True∧True∧True∧True∧True)∧True)∧True)∧LT.text (List.getD L (Int.toNat (List.getD U (Int.toNat (↑a:Int)) (0:Int))) LT.none) ++ [(46:UInt8)] ++ [(115:UInt8),(116:UInt8),(111:UInt8),(112:UInt8)]=nameW L U a)) (brP (ieq (LT.n (List.getD L (Int.toNat (↑a:Int)) LT.none)) (1:Int)) (sdA (decide (List.length (LT.text (List.getD L (Int.toNat (List.getD U (Int.toNat (↑a:Int)) (0:Int))) LT.none) ++ [(46:UInt8)]) + 5≤9223372036854775807)) ((((True∧True∧True∧True∧True∧True)∧True)∧True)∧LT.text (List.getD L (Int.toNat (List.getD U (Int.toNat (↑a:Int)) (0:Int))) LT.none) ++ [(46:UInt8)] ++ [(115:UInt8),(116:UInt8),(97:UInt8),(114:UInt8),(116:UInt8)]=nameW L U a)) (sdA (ieq (LT.n (List.getD L (Int.toNat (↑a:Int)) LT.none)) (0:Int)) (sdA (decide (List.length (LT.text (List.getD L (Int.toNat (List.getD U (Int.toNat (↑a:Int)) (0:Int))) LT.none) ++ [(46:UInt8)]) + 6≤9223372036854775807)) ((((True∧True∧True∧True∧True∧True)∧True)∧True)∧LT.text (List.getD L (Int.toNat (List.getD U (Int.toNat (↑a:Int)) (0:Int))) LT.none) ++ [(46:UInt8)] ++ [(99:UInt8),(114:UInt8),(101:UInt8),(97:UInt8),(116:UInt8),(101:UInt8)]=nameW L U a))))))))) (brP (ieq (LT.kind (List.getD L (Int.toNat (↑a:Int)) LT.none)) (11:Int)) ([(109:UInt8),(97:UInt8),(105:UInt8),(110:UInt8)]=nameW L U a) (brP (ieq (LT.kind (List.getD L (Int.toNat (↑a:Int)) LT.none)) (36:Int)) ((∃ (x0:Int×Nat),TI L U a x0∧true=true∧((true=true∧(↑a:Int)=x0.1)∧(true=true∧(↑a:Int)=(↑x0.2:Int))∧TyK_runName4_k2 L U a)∧TyK_runName4_k5 L a)∧∀ (x:Int×Nat),TI L U a x→brP (!ilt x.1 (0:Int)) (sdA (inB x.1 L.length) (True∧brP (bar (opensB (LT.kind (List.getD L (Int.toNat x.1) LT.none)))) (sdA (inB x.1 U.length) (∃ (x':Int×Nat),TI L U a x'∧Nat.le (Nat.succ (Int.toNat (x'.1 + 1))) (Int.toNat (x.1 + 1))∧true=true∧((true=true∧List.getD U (Int.toNat x.1) (0:Int)=x'.1)∧(true=true∧x.1=(↑x'.2:Int))∧TyK_runName4_k2 L U a)∧TyK_runName4_k5 L a)) (sdA (inB x.1 U.length) (∃ (x':Int×Nat),TI L U a x'∧Nat.le (Nat.succ (Int.toNat (x'.1 + 1))) (Int.toNat (x.1 + 1))∧true=true∧((true=true∧List.getD U (Int.toNat x.1) (0:Int)=x'.1)∧(true=true∧(↑x.2:Int)=(↑x'.2:Int))∧TyK_runName4_k2 L U a)∧TyK_runName4_k5 L a)))) ((∃ (x0:Nat),NI L a (topW L U a a) x0∧true=true∧((true=true∧(0:Int)=(↑(countN L (36:Int) x0):Int) - (↑(countN L (36:Int) (topW L U a a)):Int))∧(true=true∧(↑x.2:Int)=(↑x0:Int))∧TyK_runName4_k3 L U a x)∧TyK_runName4_k5 L a)∧∀ (x_1:Nat),NI L a (topW L U a a) x_1→brP (!ilt (↑a:Int) (↑x_1:Int)) (sdA (inB (↑x_1:Int) L.length) (brP (ieq (LT.kind (List.getD L (Int.toNat (↑x_1:Int)) LT.none)) (36:Int)) (sdA (inR .i64 ((↑(countN L (36:Int) x_1):Int) - (↑(countN L (36:Int) (topW L U a a)):Int) + 1)) (sdA (inR .i64 ((↑x_1:Int) + 1)) (∃ (x':Nat),NI L a (topW L U a a) x'∧Nat.le (Nat.succ (a + 1 - x')) (a + 1 - x_1)∧true=true∧((true=true∧(↑(countN L (36:Int) x_1):Int) - (↑(countN L (36:Int) (topW L U a a)):Int) + 1=(↑(countN L (36:Int) x'):Int) - (↑(countN L (36:Int) (topW L U a a)):Int))∧TyK_runName4_k4 L U a x x_1 x')∧TyK_runName4_k5 L a))) (sdA (inR .i64 ((↑x_1:Int) + 1)) (∃ (x':Nat),NI L a (topW L U a a) x'∧Nat.le (Nat.succ (a + 1 - x')) (a + 1 - x_1)∧true=true∧((true=true∧(↑(countN L (36:Int) x_1):Int) - (↑(countN L (36:Int) (topW L U a a)):Int)=(↑(countN L (36:Int) x'):Int) - (↑(countN L (36:Int) (topW L U a a)):Int))∧TyK_runName4_k4 L U a x x_1 x')∧TyK_runName4_k5 L a)))) ((∃ (L_1:List LT),∃ (U_1:List Int),L.length=L_1.length∧rowT L=rowT L_1∧U.length=U_1.length∧rI U=rI U_1∧TU L_1 U_1∧LSmall L_1∧Int.NonNeg ((↑x.2:Int) - 0)∧Int.NonNeg ((↑L_1.length:Int) - ((↑x.2:Int) + 1))∧Nat.le (Nat.succ (Int.toNat (↑x.2:Int))) N)∧sdA (decide (List.length (barr (nameW (rowTs L.length (rowT L)) (rowL U.length (rI U)) (Int.toNat (↑x.2:Int)))) + 1≤9223372036854775807)) ((Int.NonNeg ((↑(countN L (36:Int) x_1):Int) - (↑(countN L (36:Int) (topW L U a a)):Int) - 0)∧Int.NonNeg ((1000000000:Int) - ((↑(countN L (36:Int) x_1):Int) - (↑(countN L (36:Int) (topW L U a a)):Int))))∧sdA (decide (List.length (barr (nameW (rowTs L.length (rowT L)) (rowL U.length (rI U)) (Int.toNat (↑x.2:Int))) ++ [(46:UInt8)]) + List.length (barr (digS (Int.toNat ((↑(countN L (36:Int) x_1):Int) - (↑(countN L (36:Int) (topW L U a a)):Int)))))≤9223372036854775807)) (barr (nameW (rowTs L.length (rowT L)) (rowL U.length (rI U)) (Int.toNat (↑x.2:Int))) ++ [(46:UInt8)] ++ barr (digS (Int.toNat ((↑(countN L (36:Int) x_1):Int) - (↑(countN L (36:Int) (topW L U a a)):Int))))=nameW L U a))))) (LT.text (List.getD L (Int.toNat (↑a:Int)) LT.none)=nameW L U a))))
:= by
 intro N L U a hT hL ha hN
 have ha:a < L.length:=ha
 have hN:a < N + 1:=hN
 have hl:=hT.len
 have hUl:=hT.ups.len
 have hx:=hL.text a
 have hy:=hL.text (U.getD a 0).toNat
 have hhd:=hT.good.head a ha
 simp only [barr_eq,bar_eq,true_and,and_true,eq_self,implies_true,Nat.le_eq,cond_tf,cond_cf,nif_tf,Int.toNat_natCast,Int.ofNat_eq_natCast,Nat.ble_eq,Nat.ble_self_eq_true,Bool.true_and,Bool.and_true,Bool.and_self,Option.some.injEq,AV.int.injEq,rowB_self,allBR_self,Nat.mul_one,Nat.beq_refl,allI_true,cond_true,cond_false,ieq_self,Bool.not_true,Bool.not_false,decide_true,brP_f,brP_t,sdA_t,bytesL_packL,List.nil_append,TyK_runName4_k0,TyK_runName4_k1,TyK_runName4_k2,TyK_runName4_k3,TyK_runName4_k4,TyK_runName4_k5]
 simp only [rowTs_rowT,rowL_rI]
 have hBa:inB (a:Int) L.length=true:=inB_iff.2 (by omega)
 have hUU:∀ y:Nat,y < L.length→U.getD y 0 = -1∨0≤U.getD y 0∧U.getD y 0 < y:=fun y hy=>by
  rcases Nat.eq_zero_or_pos y with h | h
  ·subst h;exact .inl hT.ups.zero
  ·exact .inr (hT.ups.lo y h hy)
 refine sdA_of hBa (brP_of (fun h9=>?_) fun h9=>brP_of (fun h11=>?_) fun h11=>brP_of (fun h36=>?_) fun h36=>?_)
 ·rw [ieq_iff] at h9
  have ha0:0 < a:=by
   rcases Nat.eq_zero_or_pos a with h | h
   ·subst h;rw [hT.good.root] at h9;cases h9
   ·exact h
  obtain ⟨g1,g2⟩:=hT.ups.lo a ha0 ha
  have hn:0≤(L.getD a LT.none).n∧(L.getD a LT.none).n≤3:=by
   unfold headT numB at hhd
   rw [if_pos h9,Bool.and_eq_true,Bool.and_eq_true,decide_eq_true_eq,decide_eq_true_eq] at hhd
   exact hhd.2.2
  have hv:nameW L U a=(L.getD (U.getD a 0).toNat LT.none).text ++ [46] ++ lifeT (L.getD a LT.none).n:=by rw [nameW,if_pos h9]
  rw [hv]
  have hd:∀ k:Nat,k≤10→decide (((L.getD (U.getD a 0).toNat LT.none).text ++ [46]).length + k≤9223372036854775807)=true:=fun k hk=>decide_eq_true (by rw [List.length_append,List.length_singleton];omega)
  refine sdA_of (inB_iff.2 (by omega)) (sdA_of (inB_iff.2 (by omega)) (sdA_of (decide_eq_true (by omega)) (brP_of (fun h=>sdA_of (hd 7 (by omega)) ?_) fun h3=>brP_of (fun h=>sdA_of (hd 4 (by omega)) ?_) fun h2=>brP_of (fun h=>sdA_of (hd 5 (by omega)) ?_) fun h1=>?_)))
  ·rw [ieq_iff] at h;rw [h];rfl
  ·rw [ieq_iff] at h;rw [h];rfl
  ·rw [ieq_iff] at h;rw [h];rfl
  ·rw [ieq_iffn] at h1 h2 h3
   have h0:(L.getD a LT.none).n=0:=by omega
   refine sdA_of (ieq_iff.2 h0) (sdA_of (hd 6 (by omega)) ?_)
   rw [h0];rfl
 ·rw [ieq_iffn] at h9
  rw [ieq_iff] at h11
  rw [nameW,if_neg h9,if_pos h11]
 ·rw [ieq_iffn] at h9 h11
  rw [ieq_iff] at h36
  have htl:=topW_lt hT ha h36
  refine ⟨⟨((a:Int),a),⟨by simp only;omega,by simp,Nat.le_refl _,by unfold topI;rw [if_neg (by simp only;omega),Int.toNat_natCast]⟩,rfl,rfl⟩,fun x hx=>brP_of (fun h=>?_) fun h=>?_⟩
  ·obtain ⟨x,top⟩:=x
   have hhi:=hx.hi
   have htop:=hx.top
   have heq:=hx.eq
   simp only at hhi htop heq h ⊢
   rw [Bool.not_eq_true',ilt_iffn] at h
   obtain ⟨y,rfl⟩:∃ y:Nat,x=y:=⟨x.toNat,by omega⟩
   rw [Int.toNat_natCast]
   have hst:=topW_step (L:=L) (top:=top) (hUU y (by omega))
   unfold topI at heq
   rw [if_neg (by omega),Int.toNat_natCast,hst] at heq
   have hu:=hUU y (by omega)
   refine sdA_of (inB_iff.2 (by omega)) (brP_of (fun h1=>sdA_of (inB_iff.2 (by omega)) ⟨(U.getD y 0,y),⟨by simp only;omega,by simp only;omega,by simp only;omega,?_⟩,by simp only;omega,rfl,rfl⟩) fun h1=>sdA_of (inB_iff.2 (by omega)) ⟨(U.getD y 0,top),⟨by simp only;omega,by simp only;omega,htop,?_⟩,by simp only;omega,rfl,rfl⟩)
   ·rw [if_pos h1] at heq;exact heq
   ·rw [if_neg (by rw [h1];simp)] at heq;exact heq
  ·obtain ⟨x,top⟩:=x
   have heq:=hx.eq
   simp only at heq h ⊢
   rw [Bool.not_eq_false',ilt_iff] at h
   unfold topI at heq
   rw [if_pos h] at heq
   subst heq
   have hcm:∀ i:Nat,topW L U a a≤i→countN L 36 (topW L U a a)≤countN L 36 i:=fun i hi=>count_mono L 36 hi
   refine ⟨⟨topW L U a a,⟨Nat.le_refl _,by omega⟩,by omega,rfl⟩,fun i hi=>brP_of (fun h1=>?_) fun h1=>?_⟩
   ·rw [Bool.not_eq_true',ilt_iffn] at h1
    have hlo:=hi.lo
    have hc:=count_le L 36 i
    have hc2:=hcm i hlo
    refine sdA_of (inB_iff.2 (by omega)) (brP_of (fun h2=>sdA_of (inR_i64.2 (by omega)) (sdA_of (inR_i64.2 (by omega)) ⟨i + 1,⟨by omega,by omega⟩,by omega,?_,by omega⟩)) fun h2=>sdA_of (inR_i64.2 (by omega)) ⟨i + 1,⟨by omega,by omega⟩,by omega,?_,by omega⟩)
    ·rw [ieq_iff] at h2
     rw [countN,if_pos h2];omega
    ·rw [ieq_iffn] at h2
     rw [countN,if_neg h2];omega
   ·rw [Bool.not_eq_false',ilt_iff] at h1
    have hi2:=hi.hi
    obtain rfl:i=a + 1:=by omega
    have hc:=count_le L 36 (a + 1)
    have hc2:=hcm (a + 1) (by omega)
    have hnl:=nameW_len hT hL _ (topW L U a a) (Nat.le_refl _) (by omega)
    have hnl2:(topW L U a a + 1) * 3000000≤1000000 * 3000000:=Nat.mul_le_mul_right _ (by omega)
    have hds:=digS_len (countN L 36 (a + 1) - countN L 36 (topW L U a a))
    have ht:((countN L 36 (a + 1):Int) - (countN L 36 (topW L U a a):Int)).toNat=countN L 36 (a + 1) - countN L 36 (topW L U a a):=by omega
    rw [ht]
    refine ⟨⟨L,U,rfl,rfl,rfl,rfl,hT,hL,(show (0:Int)≤(topW L U a a:Int) by omega),(show (topW L U a a:Int) < (L.length:Int) by omega),(show topW L U a a < N by omega)⟩,sdA_of (decide_eq_true (by omega)) ⟨⟨(show (0:Int)≤(countN L 36 (a + 1):Int) - (countN L 36 (topW L U a a):Int) by omega),(show (countN L 36 (a + 1):Int) - (countN L 36 (topW L U a a):Int)≤1000000000 by omega)⟩,sdA_of (decide_eq_true (by rw [List.length_append,List.length_singleton];omega)) ?_⟩⟩
    conv=>rhs;rw [nameW,if_neg h9,if_neg h11,if_pos h36,dif_pos htl]
 ·rw [ieq_iffn] at h9 h11 h36
  rw [nameW,if_neg h9,if_neg h11,if_neg h36]
theorem runName4:∀ (N:Nat) (L:List LT) (U:List Int) (a:Nat),TU L U→LSmall L→a < L.length→a < N + 1→(cRun (cxN N L U a) 60).call 33 [tree L,.vec 1 U.length (rI U),.int .i64 a] .leaf 0 (ResM Try.prog false (.bs (nameW L U a))) :=
 Eq.mpr (by kernel_rfl) runName4_r
end Go.Proofs.Ythallodoidghoaa
