/- Plain: tokens of a formula's text. No Go in sight. -/
namespace Go.Proofs.Qxb6500570aGreat
set_option linter.unusedVariables false
set_option linter.unusedSimpArgs false

/-- A reference as typed. -/
structure Rf where
  c : Int
  r : Int
  ac : Bool
  ar : Bool
abbrev zR : Rf := ⟨0, 0, false, false⟩

/-- A node of the arena. -/
structure Nd where
  k : Int
  o : Int
  a : Int
  b : Int
  n : Int
  p : Rf
  q : Rf

/-- A token. -/
structure Tk where
  k : Nat
  o : Nat
  n : Nat
  r : Rf
abbrev tkEnd : Tk := ⟨0, 0, 0, zR⟩

def dg (c : UInt8) : Bool := decide (48 ≤ c.toNat) && decide (c.toNat ≤ 57)
def cp (c : UInt8) : Bool := decide (65 ≤ c.toNat) && decide (c.toNat ≤ 90)
def wy (c : UInt8) : Bool := cp c || dg c || c == 36
def d1 (c : UInt8) : Bool := decide (49 ≤ c.toNat) && decide (c.toNat ≤ 57)
def dv (c : UInt8) : Nat := c.toNat - 48

/-- The number that digits spell. -/
def numF (d : List UInt8) : Nat := d.foldl (fun v c => v * 10 + dv c) 0

/-- The letter and what stands behind it. -/
def refB (ac : Bool) : List UInt8 → Option Rf
  | [] => none
  | l :: w => if cp l = true then
      match w with
      | [d] => if d1 d = true then some ⟨(l.toNat : Int) - 65, (dv d : Int) - 1, ac, false⟩ else none
      | [x, d] => if x = 36 then (if d1 d = true then some ⟨(l.toNat : Int) - 65, (dv d : Int) - 1, ac, true⟩ else none)
          else if d1 x = true ∧ dg d = true then some ⟨(l.toNat : Int) - 65, (dv x * 10 + dv d : Int) - 1, ac, false⟩ else none
      | [x, d, e] => if x = 36 ∧ d1 d = true ∧ dg e = true then some ⟨(l.toNat : Int) - 65, (dv d * 10 + dv e : Int) - 1, ac, true⟩ else none
      | _ => none
    else none
/-- The reference that a word is. -/
def refOf (w : List UInt8) : Option Rf := match w with
  | [] => none
  | x :: t => if x = 36 then refB true t else refB false (x :: t)

/-- The functions' names. -/
def fnm (f : Nat) : List UInt8 := match f with
  | 1 => [83, 85, 77]
  | 2 => [77, 73, 78]
  | 3 => [77, 65, 88]
  | 4 => [67, 79, 85, 78, 84]
  | 5 => [73, 70]
  | 6 => [65, 78, 68]
  | 7 => [79, 82]
  | 8 => [78, 79, 84]
  | 9 => [65, 66, 83]
  | 10 => [76, 69, 78]
  | _ => []
def fnOf (w : List UInt8) : Nat := ((List.range 10).findSome? (fun i => if fnm (i + 1) = w then some (i + 1) else none)).getD 0

def wTRUE : List UInt8 := [84, 82, 85, 69]
def wFALSE : List UInt8 := [70, 65, 76, 83, 69]

/-- A word's token. -/
def wordT (w : List UInt8) : Tk := match refOf w with
  | some r => ⟨4, 0, 0, r⟩
  | none => if w = wTRUE then ⟨2, 2, 1, zR⟩ else if w = wFALSE then ⟨2, 2, 0, zR⟩ else if fnOf w = 0 then ⟨3, 0, 5, zR⟩ else ⟨5, 0, fnOf w, zR⟩

/-- A number's token. -/
def numT (d : List UInt8) : Tk := if 9 < d.length then ⟨3, 1, 4, zR⟩ else ⟨2, 1, numF d, zR⟩

/-- A sign's token and its breadth; d: the byte behind it, 0 if there is none. -/
def sgnT (c d : UInt8) : Tk × Nat :=
  if c = 40 ∨ c = 41 ∨ c = 44 ∨ c = 58 then (⟨c.toNat, 0, 0, zR⟩, 1)
  else if c = 43 then (⟨6, 0, 7, zR⟩, 1)
  else if c = 45 then (⟨6, 0, 8, zR⟩, 1)
  else if c = 42 then (⟨6, 0, 9, zR⟩, 1)
  else if c = 47 then (⟨6, 0, 10, zR⟩, 1)
  else if c = 61 then (⟨6, 0, 1, zR⟩, 1)
  else if c = 60 then (if d = 61 then (⟨6, 0, 4, zR⟩, 2) else if d = 62 then (⟨6, 0, 2, zR⟩, 2) else (⟨6, 0, 3, zR⟩, 1))
  else if c = 62 then (if d = 61 then (⟨6, 0, 6, zR⟩, 2) else (⟨6, 0, 5, zR⟩, 1))
  else if c = 35 then (if d = 35 then (⟨2, 5, 0, zR⟩, 2) else (⟨3, 0, 2, zR⟩, 1))
  else (⟨1, 0, 0, zR⟩, 1)

/-- The token at the head of a text that opens with no blank, and its breadth. -/
def tkw (u : List UInt8) : Tk × Nat := match u with
  | [] => (tkEnd, 1)
  | c :: t => if dg c = true then (numT ((c :: t).takeWhile dg), ((c :: t).takeWhile dg).length)
      else if wy c = true then (wordT ((c :: t).takeWhile wy), ((c :: t).takeWhile wy).length)
      else sgnT c (t.headD 0)

theorem tw_pos {f : UInt8 → Bool} {c : UInt8} {t : List UInt8} (h : f c = true) : 1 ≤ ((c :: t).takeWhile f).length := by
  rw [List.takeWhile_cons_of_pos h]; simp
theorem tw_le (f : UInt8 → Bool) (u : List UInt8) : (u.takeWhile f).length ≤ u.length := by
  have := congrArg List.length (List.takeWhile_append_dropWhile (p := f) (l := u))
  rw [List.length_append] at this
  omega
theorem sgn_wid (c d : UInt8) : (sgnT c d).2 = 1 ∨ (sgnT c d).2 = 2 := by
  unfold sgnT
  repeat' split
  all_goals simp
theorem tkw_pos (u : List UInt8) : 1 ≤ (tkw u).2 := by
  unfold tkw
  split
  · simp
  · split
    · rename_i h; exact tw_pos h
    · split
      · rename_i h; exact tw_pos h
      · have := sgn_wid ‹UInt8› (List.headD ‹List UInt8› 0); omega

def toksF : Nat → List UInt8 → List Tk
  | 0, _ => []
  | _ + 1, [] => []
  | f + 1, c :: u => if c = 32 then toksF f u else (tkw (c :: u)).1 :: toksF f ((c :: u).drop (tkw (c :: u)).2)
/-- The tokens of a text. -/
def toks (u : List UInt8) : List Tk := toksF u.length u

theorem toksF_up : ∀ (f : Nat) (u : List UInt8), u.length ≤ f → toksF f u = toks u := by
  have key : ∀ (n f g : Nat) (u : List UInt8), u.length ≤ n → u.length ≤ f → u.length ≤ g → toksF f u = toksF g u := by
    intro n
    induction n with
    | zero =>
      intro f g u hn hf hg
      have : u = [] := List.length_eq_zero_iff.1 (by omega)
      subst this
      cases f <;> cases g <;> simp [toksF]
    | succ n ih =>
      intro f g u hn hf hg
      cases u with
      | nil => cases f <;> cases g <;> simp [toksF]
      | cons c u =>
        simp only [List.length_cons] at hn hf hg
        cases f with
        | zero => omega
        | succ f =>
          cases g with
          | zero => omega
          | succ g =>
            simp only [toksF]
            have hp := tkw_pos (c :: u)
            split
            · exact ih f g u (by omega) (by omega) (by omega)
            · congr 1
              have hl : ((c :: u).drop (tkw (c :: u)).2).length ≤ u.length := by rw [List.length_drop, List.length_cons]; omega
              exact ih f g _ (by omega) (by omega) (by omega)
  intro f u h
  exact key u.length f u.length u (Nat.le_refl _) h (Nat.le_refl _)
theorem toks_nil : toks [] = [] := rfl
theorem toks_blank (u : List UInt8) : toks (32 :: u) = toks u := by
  show toksF (u.length + 1) (32 :: u) = _
  simp [toksF, toksF_up]
theorem toks_cons {c : UInt8} {u : List UInt8} (h : c ≠ 32) : toks (c :: u) = (tkw (c :: u)).1 :: toks ((c :: u).drop (tkw (c :: u)).2) := by
  have hp := tkw_pos (c :: u)
  show toksF (u.length + 1) (c :: u) = _
  simp only [toksF, if_neg h]
  congr 1
  exact toksF_up _ _ (by rw [List.length_drop, List.length_cons]; omega)
theorem toks_len : ∀ (n : Nat) (u : List UInt8), u.length ≤ n → (toks u).length ≤ u.length := by
  intro n
  induction n with
  | zero =>
    intro u h
    have : u = [] := List.length_eq_zero_iff.1 (by omega)
    subst this
    simp [toks_nil]
  | succ n ih =>
    intro u h
    cases u with
    | nil => simp [toks_nil]
    | cons c u =>
      simp only [List.length_cons] at h
      by_cases hc : c = 32
      · subst hc; rw [toks_blank]; have := ih u (by omega); simp; omega
      · have hp := tkw_pos (c :: u)
        rw [toks_cons hc, List.length_cons]
        have hl : ((c :: u).drop (tkw (c :: u)).2).length ≤ u.length := by rw [List.length_drop, List.length_cons]; omega
        have := ih _ (Nat.le_trans hl (by omega))
        simp only [List.length_cons]
        omega
theorem toks_le (u : List UInt8) : (toks u).length ≤ u.length := toks_len u.length u (Nat.le_refl _)

end Go.Proofs.Qxb6500570aGreat
