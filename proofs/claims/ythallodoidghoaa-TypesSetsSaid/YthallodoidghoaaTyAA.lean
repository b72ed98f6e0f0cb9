/- Laid by program out of its parts: TyAA. -/
import Derived.Test.YthallodoidghoaaTyZ
set_option linter.unusedVariables false
set_option linter.unusedSimpArgs false
set_option maxRecDepth 100000
set_option maxHeartbeats 2000000
open Go Go.Ev
namespace Go.Proofs.Ythallodoidghoaa
def RelV (x y:Int) (h:Bool):Prop:=(h=false∧x=noT)∨(h=true∧x=y∧x≠noT)
theorem km1 {c:UInt8} {l:List Int} (h:kidsM [c] l=true):∃ x,l=[x]∧isK (c.toNat:Int) x=true:=by
 cases l with
 | nil=>simp [kidsM] at h
 | cons x t =>
  rw [kidsM,Bool.and_eq_true] at h
  exact ⟨x,by rw [List.isEmpty_iff.1 h.2],h.1⟩
theorem kmc {c:UInt8} {s:List UInt8} {l:List Int} (h1:c≠42) (h2:c≠63) (h:kidsM (c :: s) l=true):∃ x t,l=x :: t∧isK (c.toNat:Int) x=true∧kidsM s t=true:=by
 cases l with
 | nil=>rw [km_none _ h1 h2] at h;cases h
 | cons x t =>
  rw [km_one _ _ _ h1 h2,Bool.and_eq_true] at h
  exact ⟨x,t,rfl,h.1,h.2⟩
theorem kmo {l:List Int} (h:kidsM [63,118] l=true):l=[]∨∃ y,l=[y]∧isK 118 y=true:=by
 rw [show ([63,118]:List UInt8)=63 :: 118 :: [] from rfl,km_opt,km_nil] at h
 cases l with
 | nil=>exact .inl rfl
 | cons y t =>
  have h':(if isK 118 y=true then t else y :: t).isEmpty=true:=h
  by_cases e:isK 118 y=true
  ·rw [if_pos e] at h'
   exact .inr ⟨y,by rw [List.isEmpty_iff.1 h'],e⟩
  ·rw [if_neg e] at h';cases h'
theorem isK_e {k:Int} (h:isK 101 k=true):termB k=true:=by
 unfold isK at h
 rwa [if_neg (by decide),if_neg (by decide),if_neg (by decide),if_pos rfl] at h
theorem isK_v {k:Int} (h:isK 118 k=true):termB k=true:=by
 unfold isK at h
 rw [if_neg (by decide),if_neg (by decide),if_neg (by decide),if_neg (by decide),if_pos rfl] at h
 unfold varB at h;unfold termB
 rw [decide_eq_true_eq] at *
 omega
theorem isK_y {k:Int} (h:isK 121 k=true):k=5:=by
 unfold isK at h
 rwa [if_pos rfl,decide_eq_true_eq] at h
theorem one_at {L:List LT} {i:Nat} {a:Int} {t:List Int} (h:(L.getD i LT.none).kids.map (kindOf L)=a :: t):0 < (L.getD i LT.none).kids.length∧(L.getD (kidN L i 0) LT.none).kind=a:=by
 unfold kidN
 cases hk:(L.getD i LT.none).kids with
 | nil=>rw [hk] at h;cases h
 | cons c u =>
  rw [hk,List.map_cons] at h
  injection h with h1 h2
  exact ⟨by simp,h1⟩
theorem two_at {L:List LT} {i:Nat} {a b:Int} {t:List Int} (h:(L.getD i LT.none).kids.map (kindOf L)=a :: b :: t):1 < (L.getD i LT.none).kids.length∧(L.getD (kidN L i 1) LT.none).kind=b:=by
 unfold kidN
 cases hk:(L.getD i LT.none).kids with
 | nil=>rw [hk] at h;cases h
 | cons c u =>
  rw [hk,List.map_cons] at h
  injection h with h1 h2
  cases u with
  | nil=>cases h2
  | cons d v =>
   rw [List.map_cons] at h2
   injection h2 with h3 h4
   exact ⟨by simp,h3⟩
theorem len_at {L:List LT} {i:Nat} {l:List Int} (h:(L.getD i LT.none).kids.map (kindOf L)=l):(L.getD i LT.none).kids.length=l.length:=by rw [← h,List.length_map]
theorem kterm0 {L:List LT} (hG:Good L) {i:Nat} (hi:i < L.length) (hk:(L.getD i LT.none).kind=14∨(L.getD i LT.none).kind=15∨(L.getD i LT.none).kind=16∨(L.getD i LT.none).kind=17∨(L.getD i LT.none).kind=18∨(L.getD i LT.none).kind=19∨(L.getD i LT.none).kind=20∨(L.getD i LT.none).kind=23∨(L.getD i LT.none).kind=24∨(L.getD i LT.none).kind=30∨(L.getD i LT.none).kind=31∨(L.getD i LT.none).kind=32∨(L.getD i LT.none).kind=34∨(L.getD i LT.none).kind=35) :
  0 < (L.getD i LT.none).kids.length∧termB (L.getD (kidN L i 0) LT.none).kind=true:=by
 have h:=hG.kinds i hi
 have hl:(∃ s,lettersL (L.getD i LT.none).kind=101 :: s)∨∃ s,lettersL (L.getD i LT.none).kind=118 :: s:=by
  rcases hk with hk | hk | hk | hk | hk | hk | hk | hk | hk | hk | hk | hk | hk | hk <;> rw [hk] <;> first | exact .inl ⟨_,rfl⟩ | exact .inr ⟨_,rfl⟩
 rcases hl with ⟨s,hs⟩ | ⟨s,hs⟩
 ·rw [hs] at h
  obtain ⟨x,t,e,h1,h2⟩:=kmc (by decide) (by decide) h
  obtain ⟨h3,h4⟩:=one_at e
  exact ⟨h3,by rw [h4];exact isK_e h1⟩
 ·rw [hs] at h
  obtain ⟨x,t,e,h1,h2⟩:=kmc (by decide) (by decide) h
  obtain ⟨h3,h4⟩:=one_at e
  exact ⟨h3,by rw [h4];exact isK_v h1⟩
theorem kterm1 {L:List LT} (hG:Good L) {i:Nat} (hi:i < L.length) (hk:(L.getD i LT.none).kind=13∨(L.getD i LT.none).kind=14∨(L.getD i LT.none).kind=31∨(L.getD i LT.none).kind=32) :
  (L.getD i LT.none).kids.length=2∧termB (L.getD (kidN L i 1) LT.none).kind=true:=by
 have h:=hG.kinds i hi
 have hl:∃ c,lettersL (L.getD i LT.none).kind=[c,101]∧c≠42∧c≠63:=by
  rcases hk with hk | hk | hk | hk <;> rw [hk] <;> exact ⟨_,rfl,by decide,by decide⟩
 obtain ⟨c,hs,c1,c2⟩:=hl
 rw [hs] at h
 obtain ⟨x,t,e,h1,h2⟩:=kmc c1 c2 h
 obtain ⟨y,rfl,h3⟩:=km1 h2
 obtain ⟨h4,h5⟩:=two_at e
 exact ⟨len_at e,by rw [h5];exact isK_e h3⟩
theorem kvar {L:List LT} (hG:Good L) {i:Nat} (hi:i < L.length) (hk:(L.getD i LT.none).kind=13):termB (L.getD (kidN L i 0) LT.none).kind=false:=by
 have h:=hG.kinds i hi
 rw [hk] at h
 obtain ⟨x,t,e,h1,h2⟩:=kmc (c:=121) (s:=[101]) (by decide) (by decide) h
 rw [(one_at e).2,isK_y h1];rfl
theorem kpost {L:List LT} (hG:Good L) {i:Nat} (hi:i < L.length) (hk:(L.getD i LT.none).kind=19∨(L.getD i LT.none).kind=20):(L.getD i LT.none).kids.length=1∨(L.getD i LT.none).kids.length=2∧termB (L.getD (kidN L i 1) LT.none).kind=true:=by
 have h:=hG.kinds i hi
 have hl:lettersL (L.getD i LT.none).kind=[101,63,118]:=by rcases hk with hk | hk <;> rw [hk] <;> rfl
 rw [hl] at h
 obtain ⟨x,t,e,h1,h2⟩:=kmc (by decide) (by decide) h
 rcases kmo h2 with rfl | ⟨y,rfl,h3⟩
 ·exact .inl (len_at e)
 ·exact .inr ⟨len_at e,by rw [(two_at e).2];exact isK_v h3⟩
theorem kleaf {L:List LT} (hG:Good L) {i:Nat} (hi:i < L.length) (hk:(L.getD i LT.none).kind=26∨(L.getD i LT.none).kind=27∨(L.getD i LT.none).kind=28∨(L.getD i LT.none).kind=29∨(L.getD i LT.none).kind=33):(L.getD i LT.none).kids=[]:=by
 have h:=hG.kinds i hi
 have hl:lettersL (L.getD i LT.none).kind=[]:=by rcases hk with hk | hk | hk | hk | hk <;> rw [hk] <;> rfl
 rw [hl,km_nil,List.isEmpty_iff,List.map_eq_nil_iff] at h
 exact h
theorem kone {L:List LT} (hG:Good L) {i:Nat} (hi:i < L.length) (hk:(L.getD i LT.none).kind=30∨(L.getD i LT.none).kind=34∨(L.getD i LT.none).kind=35):(L.getD i LT.none).kids.length=1:=by
 have h:=hG.kinds i hi
 have hl:lettersL (L.getD i LT.none).kind=[101]:=by rcases hk with hk | hk | hk <;> rw [hk] <;> rfl
 rw [hl] at h
 obtain ⟨x,e,h1⟩:=km1 h
 exact len_at e
theorem need0 {X S N:List Int} (hN:N=[]):decide (∀ i:Nat,i < N.length→i < S.length→kidX X S i=N.getD i 0∨kidX X S i=noT)=true:=by
 subst hN;exact decide_eq_true fun i h=>absurd h (Nat.not_lt_zero i)
theorem need1 {X S N:List Int} {w:Int} (hN:N=[w]) (hS:0 < S.length):decide (∀ i:Nat,i < N.length→i < S.length→kidX X S i=N.getD i 0∨kidX X S i=noT)=decide (kidX X S 0=w∨kidX X S 0=noT):=by
 subst hN
 refine decide_eq_decide.2 ⟨fun h=>h 0 (by simp) hS,fun h i h1 h2=>?_⟩
 obtain rfl:i=0:=by simp at h1;omega
 exact h
theorem need2 {X S N:List Int} {w v:Int} (hN:N=[w,v]) (hS:1 < S.length):decide (∀ i:Nat,i < N.length→i < S.length→kidX X S i=N.getD i 0∨kidX X S i=noT)=(decide (kidX X S 0=w∨kidX X S 0=noT) && decide (kidX X S 1=v∨kidX X S 1=noT)):=by
 subst hN
 rw [← Bool.decide_and]
 refine decide_eq_decide.2 ⟨fun h=>⟨h 0 (by simp) (by omega),h 1 (by simp) hS⟩,fun h i h1 h2=>?_⟩
 rcases i with _ | _ | i
 ·exact h.1
 ·exact h.2
 ·simp at h1;omega
theorem need2s {X S N:List Int} {w v:Int} (hN:N=[w,v]) (hS:S.length=1):decide (∀ i:Nat,i < N.length→i < S.length→kidX X S i=N.getD i 0∨kidX X S i=noT)=decide (kidX X S 0=w∨kidX X S 0=noT):=by
 subst hN
 refine decide_eq_decide.2 ⟨fun h=>h 0 (by simp) (by omega),fun h i h1 h2=>?_⟩
 obtain rfl:i=0:=by omega
 exact h
theorem rel_is {x y w:Int} {h:Bool} (r:RelV x y h) (hw:w≠noT):decide (x=w∨x=noT)=(!h || decide (y=w)):=by
 rcases r with ⟨rfl,rfl⟩ | ⟨rfl,rfl,h2⟩
 ·simp
 ·simp [h2]
theorem rel_fit {x y a:Int} {h:Bool} (r:RelV x y h) (ha:a≠noT):fitsN x a=(!h || fits5 y a):=by
 unfold fitsN
 rcases r with ⟨rfl,rfl⟩ | ⟨rfl,rfl,h2⟩
 ·simp
 ·simp [h2,ha]
theorem rel_fit2 {x y x' y':Int} {h h':Bool} (r:RelV x y h) (r':RelV x' y' h'):fitsN x x'=(!h || !h' || fits5 y y'):=by
 unfold fitsN
 rcases r with ⟨rfl,rfl⟩ | ⟨rfl,rfl,h2⟩
 ·simp
 ·rcases r' with ⟨rfl,rfl⟩ | ⟨rfl,rfl,h3⟩
  ·simp
  ·simp [h2,h3]
theorem inT_ne {z:Int} (h:inT z):z≠noT:=by unfold inT at h;unfold noT;omega
end Go.Proofs.Ythallodoidghoaa
