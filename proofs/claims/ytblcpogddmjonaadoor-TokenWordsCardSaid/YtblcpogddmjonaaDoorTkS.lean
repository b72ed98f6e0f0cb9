/- Laid by program out of its parts: TkS. -/
import Derived.Test.YtblcpogddmjonaaDoorTkE
set_option maxRecDepth 10000
open Go Go.Ev
namespace Go.Proofs.Tk
/-! The scan of a text, plainly. -/
structure Tok where
  kind : Int
  text : List UInt8
  num : Int
  line : Int
  col : Int
structure Dg where
  line : Int
  col : Int
  err : Int
def t0 : Tok := ⟨0, [], 0, 0, 0⟩
def d0 : Dg := ⟨0, 0, 0⟩
/-- A token of a text: its kind, its number, what is wrong with it. -/
def madeT (kind : Int) (s : List UInt8) : Int × Int × Int :=
  if kind = 3 then (3, (numT s).1, if (numT s).2 then 0 else 9)
  else if kind = 1 ∧ isWordT s then (2, 0, 0) else (kind, 0, if 32 < s.length then 9 else 0)
/-- What stands at the beginning: tokens and what is wrong (one or none of each). -/
def oneT (b : UInt8) (t : List UInt8) (line col : Int) : List Tok × List Dg :=
  let k := nxT (b :: t)
  let s := (b :: t).take k.2
  let m := madeT k.1 s
  if 0 < k.1 then ([⟨m.1, s, m.2.1, line, col⟩], if m.2.2 = 0 then [] else [⟨line, col, m.2.2⟩])
  else ([], if blankI (b.toNat : Int) then [] else [⟨line, col, 3⟩])
def scanF : Nat → List UInt8 → Int → Int → List Tok × List Dg
  | 0, _, _, _ => ([], [])
  | _ + 1, [], _, _ => ([], [])
  | f + 1, b :: t, line, col =>
    let n := (nxT (b :: t)).2
    let o := oneT b t line col
    let r := scanF f ((b :: t).drop n) (if b = 10 then line + 1 else line) (if b = 10 then 1 else col + n)
    (o.1 ++ r.1, o.2 ++ r.2)
def scanR (l : List UInt8) : List Tok × List Dg := scanF l.length l 1 1

theorem scanF_cons (f : Nat) (b : UInt8) (t : List UInt8) (line col : Int) : scanF (f + 1) (b :: t) line col =
    ((oneT b t line col).1 ++ (scanF f ((b :: t).drop (nxT (b :: t)).2) (if b = 10 then line + 1 else line) (if b = 10 then 1 else col + (nxT (b :: t)).2)).1,
      (oneT b t line col).2 ++ (scanF f ((b :: t).drop (nxT (b :: t)).2) (if b = 10 then line + 1 else line) (if b = 10 then 1 else col + (nxT (b :: t)).2)).2) := rfl
theorem runN_pos {p : Int → Bool} {b : UInt8} {t : List UInt8} (h : p (b.toNat : Int) = true) : 1 ≤ runN p (b :: t) := by
  rw [runN, if_pos h]; omega
theorem nxT_cons (b : UInt8) (t : List UInt8) : nxT (b :: t) = if letrI (b.toNat : Int) then (1, runN (fun z => letrI z || digI z) (b :: t)) else if digI (b.toNat : Int) then (3, runN digI (b :: t))
    else if (b.toNat : Int) = 35 then (0, runN (fun z => !decide (z = 10)) (b :: t))
    else if (b.toNat : Int) = 61 ∧ 1 ≤ t.length ∧ ((t.getD 0 0).toNat : Int) = 61 then (4, 2) else if markI (b.toNat : Int) then (4, 1) else (0, 1) := rfl
theorem nxT_pos (b : UInt8) (t : List UInt8) : 1 ≤ (nxT (b :: t)).2 ∧ (nxT (b :: t)).2 ≤ (b :: t).length := by
  rw [nxT_cons]
  have h1 := runN_le (fun z => letrI z || digI z) (b :: t)
  have h2 := runN_le digI (b :: t)
  have h3 := runN_le (fun z => !decide (z = 10)) (b :: t)
  split
  · rename_i h
    exact ⟨runN_pos (p := fun z => letrI z || digI z) (by show (letrI _ || digI _) = true; rw [h]; rfl), h1⟩
  · split
    · rename_i h
      exact ⟨runN_pos (p := digI) h, h2⟩
    · split
      · rename_i h
        exact ⟨runN_pos (p := fun z => !decide (z = 10)) (by show (!decide (_ = (10 : Int))) = true; rw [h]; rfl), h3⟩
      · split
        · rename_i h
          simp; omega
        · split <;> simp
theorem scanF_more : ∀ (f g : Nat) (l : List UInt8) (line col : Int), l.length ≤ f → l.length ≤ g → scanF f l line col = scanF g l line col
  | 0, g, [], line, col, _, _ => by cases g <;> rfl
  | f + 1, g, [], line, col, _, _ => by cases g <;> rfl
  | f + 1, 0, b :: t, line, col, _, h => by simp at h
  | 0, g, b :: t, line, col, h, _ => by simp at h
  | f + 1, g + 1, b :: t, line, col, h1, h2 => by
    have hp := nxT_pos b t
    simp only [List.length_cons] at h1 h2 hp
    rw [scanF_cons, scanF_cons, scanF_more f g _ _ _ (by rw [List.length_drop]; simp only [List.length_cons]; omega) (by rw [List.length_drop]; simp only [List.length_cons]; omega)]
/-- The scan, from a place on. -/
def scn (l : List UInt8) (line col : Int) : List Tok × List Dg := scanF l.length l line col
theorem scn_nil (line col : Int) : scn [] line col = ([], []) := rfl
theorem scn_cons (b : UInt8) (t : List UInt8) (line col : Int) : scn (b :: t) line col =
    ((oneT b t line col).1 ++ (scn ((b :: t).drop (nxT (b :: t)).2) (if b = 10 then line + 1 else line) (if b = 10 then 1 else col + (nxT (b :: t)).2)).1,
      (oneT b t line col).2 ++ (scn ((b :: t).drop (nxT (b :: t)).2) (if b = 10 then line + 1 else line) (if b = 10 then 1 else col + (nxT (b :: t)).2)).2) := by
  have hp := nxT_pos b t
  simp only [List.length_cons] at hp
  show scanF (t.length + 1) (b :: t) line col = _
  rw [scanF_cons, scanF_more t.length ((b :: t).drop (nxT (b :: t)).2).length _ _ _ (by rw [List.length_drop]; simp only [List.length_cons]; omega) (Nat.le_refl _)]
  rfl

/-! No token has a line's end in it. -/
theorem runN_all {p : Int → Bool} : ∀ (l : List UInt8), ∀ x ∈ l.take (runN p l), p (x.toNat : Int) = true
  | [], x, h => by simp at h
  | b :: l, x, h => by
    rw [runN] at h
    by_cases hb : p (b.toNat : Int) = true
    · rw [if_pos hb, List.take_succ_cons, List.mem_cons] at h
      rcases h with rfl | h
      · exact hb
      · exact runN_all l x h
    · rw [if_neg hb] at h; simp at h
theorem nxT_ten (t : List UInt8) : nxT (10 :: t) = (0, 1) := by
  rw [nxT_cons]
  rw [if_neg (by decide), if_neg (by decide), if_neg (by decide), if_neg (by rintro ⟨h, _⟩; revert h; decide), if_neg (by decide)]
theorem not_ten {p : Int → Bool} (hp : p 10 = false) {x : UInt8} (h : p (x.toNat : Int) = true) : x ≠ 10 := by
  rintro rfl
  exact absurd h (by show ¬ p 10 = true; rw [hp]; simp)
theorem nxT_no_ten {b : UInt8} {t : List UInt8} (hb : b ≠ 10) : ∀ x ∈ (b :: t).take (nxT (b :: t)).2, x ≠ 10 := by
  have one : ∀ x ∈ (b :: t).take 1, x ≠ 10 := fun x hx => by simp at hx; rw [hx]; exact hb
  rw [nxT_cons]
  split
  · exact fun x hx => not_ten (p := fun z => letrI z || digI z) (by decide) (runN_all (p := fun z => letrI z || digI z) (b :: t) x hx)
  · split
    · exact fun x hx => not_ten (p := digI) (by decide) (runN_all (p := digI) (b :: t) x hx)
    · split
      · exact fun x hx => not_ten (p := fun z => !decide (z = 10)) (by decide) (runN_all (p := fun z => !decide (z = 10)) (b :: t) x hx)
      · split
        · rename_i h
          obtain ⟨_, h2, h3⟩ := h
          cases t with
          | nil => simp at h2
          | cons c t =>
            intro x hx
            simp only [List.take_succ_cons, List.take_zero, List.mem_cons, List.not_mem_nil, or_false] at hx
            rcases hx with rfl | rfl
            · exact hb
            · rintro rfl
              simp at h3
        · split
          · exact one
          · exact one
theorem cnt0 {b : UInt8} {t : List UInt8} (hb : b ≠ 10) : Lib.countByte ((b :: t).take (nxT (b :: t)).2) 10 = 0 := by
  unfold Lib.countByte
  exact List.count_eq_zero.2 fun h => nxT_no_ten hb _ h rfl
theorem tk10 (t : List UInt8) : (10 :: t).take (nxT (10 :: t)).2 = [10] := by rw [nxT_ten]; rfl
end Go.Proofs.Tk
