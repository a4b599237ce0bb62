import Derived.Test.Qxb6500568aGreatDoorEc
/- The tokens of a text, by places. -/
namespace Go.Proofs.Qxb6500568aGreatDoor
open Ieee
set_option linter.unusedVariables false
set_option linter.unusedSimpArgs false

theorem skipL_len : ∀ (b : Bool) (s : Str) (p : Nat), (skipL b s p).1.length + (skipL b s p).2 = s.length + p
  | _, [], p => by cases ‹Bool› <;> simp [skipL]
  | true, c :: r, p => by
    simp only [skipL]
    split
    · rw [skipL_len false r (p + 1)]; simp; omega
    · rw [skipL_len true r (p + 1)]; simp; omega
  | false, c :: r, p => by
    simp only [skipL]
    split
    · rw [skipL_len false r (p + 1)]; simp; omega
    · split
      · rw [skipL_len true r (p + 1)]; simp; omega
      · rfl
theorem numLen_pos {c : UInt8} {r : Str} (h : isDig c = true) : 1 ≤ numLen (c :: r) := by
  unfold numLen
  have : 1 ≤ ((c :: r).takeWhile isDig).length := by rw [List.takeWhile_cons, if_pos h]; simp
  dsimp only
  split
  · split
    · omega
    · split
      · omega
      · split <;> omega
  · exact this
theorem tokAt_pos (c : UInt8) (r : Str) (p : Nat) : 1 ≤ (tokAt c r p).2 := by
  unfold tokAt
  dsimp only
  split
  · simp
  · split
    · rename_i h
      show 1 ≤ ((c :: r).take (numLen (c :: r))).length
      rw [List.length_take]
      have := numLen_pos (r := r) h
      simp; omega
    · split
      · show 1 ≤ _ + 2; omega
      · show 1 ≤ List.length (match r with | d :: _ => if twoC c d = true then [c, d] else [c] | [] => [c])
        cases r with
        | nil => simp
        | cons d q => dsimp only; split <;> simp
/-- Enough fuel. -/
theorem toksF_fuel : ∀ (n m : Nat) (s : Str) (p : Nat), s.length < n → s.length < m → toksF n s p = toksF m s p
  | 0, _, s, p, h, _ => by omega
  | _, 0, s, p, _, h => by omega
  | n + 1, m + 1, s, p, h1, h2 => by
    unfold toksF
    have hl := skipL_len false s p
    rcases hs : skipL false s p with ⟨_ | ⟨c, r⟩, q⟩
    · rfl
    · rw [hs] at hl
      simp only [List.length_cons] at hl
      dsimp only
      have hp := tokAt_pos c r q
      have hq : p ≤ q := by
        have : ∀ (b : Bool) (s : Str) (p : Nat), p ≤ (skipL b s p).2 := by
          intro b s
          induction s generalizing b with
          | nil => intro p; cases b <;> simp [skipL]
          | cons c r ih =>
            intro p
            cases b
            · simp only [skipL]
              split
              · have := ih false (p + 1); omega
              · split
                · have := ih true (p + 1); omega
                · exact Nat.le_refl _
            · simp only [skipL]
              split
              · have := ih false (p + 1); omega
              · have := ih true (p + 1); omega
        have := this false s p
        rw [hs] at this; exact this
      have hd : ((c :: r).drop (tokAt c r q).2).length < n ∧ ((c :: r).drop (tokAt c r q).2).length < m := by
        rw [List.length_drop, List.length_cons]; omega
      rw [toksF_fuel n m _ _ hd.1 hd.2]
/-- The tokens from a place on. -/
def tkF (s : Str) (p : Nat) : List Tok := toksF (s.length - p + 1) (s.drop p) p
theorem tkF_zero (s : Str) : tkF s 0 = toks s := rfl
theorem drop_cons {s : Str} {p : Nat} {c : UInt8} (h : s[p]? = some c) : s.drop p = c :: s.drop (p + 1) := by
  rw [List.drop_eq_getElem_cons (List.getElem?_eq_some_iff.1 h).1, (List.getElem?_eq_some_iff.1 h).2]
theorem tkF_as (s : Str) (p n : Nat) (h : s.length - p < n) : tkF s p = toksF n (s.drop p) p := toksF_fuel _ _ _ _ (by rw [List.length_drop]; omega) (by rw [List.length_drop]; omega)
theorem tkF_end {s : Str} {p : Nat} (h : s.length ≤ p) : tkF s p = [⟨0, p, [], 0, 0⟩] := by
  unfold tkF
  rw [List.drop_eq_nil_of_le h]
  rfl
theorem toksF_skip {n : Nat} {s s' : Str} {p p' : Nat} (h : skipL false s p = skipL false s' p') : toksF (n + 1) s p = toksF (n + 1) s' p' := by unfold toksF; rw [h]
theorem tkF_sp {s : Str} {p : Nat} {c : UInt8} (h : s[p]? = some c) (hc : isSp c = true) : tkF s p = tkF s (p + 1) := by
  have hl := (List.getElem?_eq_some_iff.1 h).1
  rw [tkF_as s p (s.length + 1) (by omega), tkF_as s (p + 1) (s.length + 1) (by omega)]
  apply toksF_skip
  rw [drop_cons h]
  simp only [skipL, hc, if_true]
theorem skip_cm {s : Str} : ∀ (n p : Nat), s.length - p ≤ n → skipL true (s.drop p) p = skipL false (s.drop (twk (notQ 10) s p)) (twk (notQ 10) s p)
  | 0, p, h => by
    have hl : s.length ≤ p := by omega
    rw [twk_end hl, List.drop_eq_nil_of_le hl]
    simp [skipL]
  | n + 1, p, h => by
    rcases Nat.lt_or_ge p s.length with hl | hl
    · obtain ⟨c, hc⟩ : ∃ c, s[p]? = some c := ⟨_, List.getElem?_eq_getElem hl⟩
      by_cases h10 : c = 10
      · have hs : twk (notQ 10) s p = p := twk_stop hc (by unfold notQ; simp [h10])
        rw [hs, drop_cons hc]
        simp only [skipL, h10, if_true]
        rw [if_pos (by decide)]
      · rw [← twk_step hc (by unfold notQ; simp [h10]), ← skip_cm n (p + 1) (by omega), drop_cons hc]
        simp only [skipL, h10, if_false]
    · rw [twk_end hl, List.drop_eq_nil_of_le hl]
      simp [skipL]
theorem tkF_cm {s : Str} {p : Nat} (h : s[p]? = some 45) (h2 : s[p + 1]? = some 45) : tkF s p = tkF s (twk (notQ 10) s p) := by
  have hl := (List.getElem?_eq_some_iff.1 h).1
  have hle := twk_le (p := notQ 10) (s := s) (i := p) (by omega)
  rw [tkF_as s p (s.length + 1) (by omega), tkF_as s (twk (notQ 10) s p) (s.length + 1) (by omega)]
  apply toksF_skip
  rw [← twk_step h (by decide), ← skip_cm (s.length) (p + 1) (by omega), drop_cons h]
  have : (s.drop (p + 1)).head? = some 45 := by rw [List.head?_drop]; exact h2
  simp only [skipL, this]
  rw [if_neg (by decide), if_pos (by simp)]
/-- No blank, no comment: a token. -/
theorem tkF_tok {s : Str} {p : Nat} {c : UInt8} (h : s[p]? = some c) (hc : isSp c = false) (h2 : ¬ (c = 45 ∧ s[p + 1]? = some 45)) :
    tkF s p = if (tokAt c (s.drop (p + 1)) p).1.k = 1 then [(tokAt c (s.drop (p + 1)) p).1] else (tokAt c (s.drop (p + 1)) p).1 :: tkF s (p + (tokAt c (s.drop (p + 1)) p).2) := by
  have hl := (List.getElem?_eq_some_iff.1 h).1
  have hp := tokAt_pos c (s.drop (p + 1)) p
  rw [tkF_as s p (s.length + 1) (by omega), tkF_as s (p + (tokAt c (s.drop (p + 1)) p).2) s.length (by omega), drop_cons h]
  have hs : skipL false (c :: s.drop (p + 1)) p = (c :: s.drop (p + 1), p) := by
    simp only [skipL, hc]
    rw [if_neg (by simp), if_neg (by rw [List.head?_drop]; exact h2)]
  conv => lhs; unfold toksF
  rw [hs]
  dsimp only
  rw [← drop_cons h, List.drop_drop]
theorem seg_tw {p : UInt8 → Bool} {s : Str} {i : Nat} {c : UInt8} (h : s[i]? = some c) (hp : p c = true) : c :: (s.drop (i + 1)).takeWhile p = (s.drop i).take (twk p s i - i) := by
  rw [twk_seg, drop_cons h, List.takeWhile_cons, if_pos hp]
theorem tok_word {s : Str} {p : Nat} {c : UInt8} (h : s[p]? = some c) (hc : isLet c = true) :
    tokAt c (s.drop (p + 1)) p = (if twk isWrd s p - p ≤ 40 then ⟨match posS ((s.drop p).take (twk isWrd s p - p)) kwL with | some i => 5 + i | none => 2, p, (s.drop p).take (twk isWrd s p - p), 0, 0⟩ else ⟨1, p, [], 0, 14⟩, twk isWrd s p - p) := by
  have hl := (List.getElem?_eq_some_iff.1 h).1
  have hle := twk_le (p := isWrd) (s := s) (i := p) (by omega)
  have hw := seg_tw (p := isWrd) h (by rw [isWrd_iff]; exact .inl hc)
  have hlen : ((s.drop p).take (twk isWrd s p - p)).length = twk isWrd s p - p := by rw [List.length_take, List.length_drop]; omega
  unfold tokAt
  rw [if_pos hc]
  dsimp only
  rw [hw, hlen]
  cases posS ((s.drop p).take (twk isWrd s p - p)) kwL <;> rfl
theorem tok_num {s : Str} {p : Nat} {c : UInt8} (h : s[p]? = some c) (hc : isDig c = true) (hn : isLet c = false) :
    tokAt c (s.drop (p + 1)) p = (match parN ((s.drop p).take (numE s p - p)) with | some x => ⟨3, p, [], x, 0⟩ | none => ⟨1, p, [], 0, 2⟩, ((s.drop p).take (numE s p - p)).length) := by
  unfold tokAt
  rw [if_neg (by simp [hn]), if_pos hc]
  dsimp only
  rw [← drop_cons h, ← numE_eq, Nat.add_sub_cancel_left]
  cases parN (List.take (numLen (List.drop p s)) (List.drop p s)) <;> rfl
theorem tok_str {s : Str} {p : Nat} (h : s[p]? = some 34) :
    tokAt 34 (s.drop (p + 1)) p = (if s[twk (notQ 34) s (p + 1)]? = some 34 ∧ twk (notQ 34) s (p + 1) - (p + 1) ≤ 40 then ⟨4, p, (s.drop (p + 1)).take (twk (notQ 34) s (p + 1) - (p + 1)), 0, 0⟩ else ⟨1, p, [], 0, 14⟩, twk (notQ 34) s (p + 1) + 1 - p) := by
  have hl := (List.getElem?_eq_some_iff.1 h).1
  have hle := twk_le (p := notQ 34) (s := s) (i := p + 1) (by omega)
  have hseg := twk_seg (p := notQ 34) (s := s) (i := p + 1)
  have hlen : ((s.drop (p + 1)).takeWhile (notQ 34)).length = twk (notQ 34) s (p + 1) - (p + 1) := by unfold twk; omega
  unfold tokAt
  rw [if_neg (by decide), if_neg (by decide), if_pos rfl]
  dsimp only
  rw [show (fun d : UInt8 => decide (d ≠ 34) && decide (d ≠ 10)) = notQ 34 from rfl, hlen, ← hseg]
  have hd : ((s.drop (p + 1)).drop (twk (notQ 34) s (p + 1) - (p + 1))).head? = s[twk (notQ 34) s (p + 1)]? := by
    rw [List.drop_drop, List.head?_drop]
    congr 1; omega
  rw [hd]
  congr 1
  omega
/-- The sign that opens at p. -/
def sgnW (s : Str) (p : Nat) (c : UInt8) : Str := match s[p + 1]? with
  | some d => if twoC c d = true then [c, d] else [c]
  | none => [c]
theorem tok_sgn {s : Str} {p : Nat} {c : UInt8} (h1 : isLet c = false) (h2 : isDig c = false) (h3 : c ≠ 34) :
    tokAt c (s.drop (p + 1)) p = (match posS (sgnW s p c) sgL with | some i => ⟨24 + i, p, [], 0, 0⟩ | none => ⟨1, p, [], 0, 13⟩, (sgnW s p c).length) := by
  unfold tokAt sgnW
  rw [if_neg (by simp [h1]), if_neg (by simp [h2]), if_neg h3]
  dsimp only
  cases hd : s[p + 1]? with
  | none =>
    have : s.drop (p + 1) = [] := List.drop_eq_nil_of_le (by rw [List.getElem?_eq_none_iff] at hd; exact hd)
    rw [this]
    dsimp only
    cases posS [c] sgL <;> rfl
  | some d =>
    rw [drop_cons hd]
    dsimp only
    cases posS (if twoC c d = true then [c, d] else [c]) sgL <;> rfl
end Go.Proofs.Qxb6500568aGreatDoor
