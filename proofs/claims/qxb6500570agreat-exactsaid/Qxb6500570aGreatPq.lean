/- Plain: sets of cells as numbers: the lowest bit, how many bits. -/
namespace Go.Proofs.Qxb6500570aGreat
set_option linter.unusedVariables false
set_option linter.unusedSimpArgs false

/-- k is the lowest bit of s. -/
def IsLow (s k : Nat) : Prop := s.testBit k = true ∧ ∀ j, j < k → s.testBit j = false
theorem IsLow.uniq {s k l : Nat} (h : IsLow s k) (g : IsLow s l) : k = l := by
  rcases Nat.lt_trichotomy k l with hl | hl | hl
  · have := g.2 k hl; rw [h.1] at this; cases this
  · exact hl
  · have := h.2 l hl; rw [g.1] at this; cases this
theorem low_ex : ∀ (n s : Nat), s ≤ n → s ≠ 0 → ∃ k, IsLow s k
  | 0, s, h, h0 => by omega
  | n + 1, s, h, h0 => by
    by_cases h1 : s % 2 = 1
    · exact ⟨0, by rw [Nat.testBit_zero]; simp [h1], fun j hj => by omega⟩
    · obtain ⟨k, hk1, hk2⟩ := low_ex n (s / 2) (by omega) (by omega)
      refine ⟨k + 1, by rw [Nat.testBit_succ]; exact hk1, fun j hj => ?_⟩
      cases j with
      | zero => rw [Nat.testBit_zero]; simp; omega
      | succ j => rw [Nat.testBit_succ]; exact hk2 j (by omega)
theorem IsLow.ne {s k : Nat} (h : IsLow s k) : s ≠ 0 := by
  rintro rfl
  have := h.1
  simp at this
theorem IsLow.lt {s k n : Nat} (h : IsLow s k) (hs : s < 2 ^ n) : k < n := by
  rcases Nat.lt_or_ge k n with hk | hk
  · exact hk
  · have := h.1
    rw [Nat.testBit_lt_two_pow (Nat.lt_of_lt_of_le hs (Nat.pow_le_pow_right (by omega) hk))] at this
    cases this
/-- The lowest bit taken off. -/
theorem low_and {s k : Nat} (h : IsLow s k) (j : Nat) : (s &&& (s - 1)).testBit j = (s.testBit j && decide (j ≠ k)) := by
  induction k generalizing s j with
  | zero =>
    have h1 : s % 2 = 1 := by have := h.1; rw [Nat.testBit_zero] at this; simpa using this
    rw [Nat.testBit_and]
    cases j with
    | zero => rw [Nat.testBit_zero, Nat.testBit_zero]; simp; omega
    | succ j => rw [Nat.testBit_succ, Nat.testBit_succ, show (s - 1) / 2 = s / 2 by omega]; simp
  | succ k ih =>
    have h0 : s % 2 = 0 := by have := h.2 0 (by omega); rw [Nat.testBit_zero] at this; simp at this; omega
    have hs := h.ne
    have h' : IsLow (s / 2) k := ⟨by rw [← Nat.testBit_succ]; exact h.1, fun j hj => by rw [← Nat.testBit_succ]; exact h.2 (j + 1) (by omega)⟩
    rw [Nat.testBit_and]
    cases j with
    | zero => rw [Nat.testBit_zero, Nat.testBit_zero]; simp [h0]
    | succ j =>
      have := ih h' j
      rw [Nat.testBit_and] at this
      rw [Nat.testBit_succ, Nat.testBit_succ, show (s - 1) / 2 = s / 2 - 1 by omega, this]
      simp
/-- A shift when the low bits are nothing. -/
theorem IsLow.shr {s k i : Nat} (h : IsLow s k) (h0 : s % 2 ^ i = 0) : i ≤ k ∧ IsLow (s / 2 ^ i) (k - i) := by
  have hik : i ≤ k := by
    rcases Nat.lt_or_ge k i with hk | hk
    · have e : s.testBit k = (s % 2 ^ i).testBit k := by rw [Nat.testBit_mod_two_pow]; simp [hk]
      rw [h.1, h0] at e
      simp at e
    · exact hk
  refine ⟨hik, ?_, fun j hj => ?_⟩
  · rw [Nat.testBit_div_two_pow, show k - i + i = k by omega]; exact h.1
  · rw [Nat.testBit_div_two_pow]; exact h.2 _ (by omega)
theorem IsLow.small {s k i : Nat} (h : IsLow s k) (h0 : s % 2 ^ i ≠ 0) : k < i := by
  rcases Nat.lt_or_ge k i with hk | hk
  · exact hk
  · exfalso
    apply h0
    apply Nat.eq_of_testBit_eq
    intro j
    rw [Nat.testBit_mod_two_pow, Nat.zero_testBit]
    by_cases hj : j < i
    · rw [h.2 j (by omega)]; simp
    · simp [hj]

/-- How many of the first n bits stand. -/
def cntN (s : Nat) : Nat → Nat
  | 0 => 0
  | n + 1 => cntN s n + (if s.testBit n = true then 1 else 0)
theorem cntN_le (s : Nat) : ∀ n, cntN s n ≤ n
  | 0 => Nat.le_refl _
  | n + 1 => by have := cntN_le s n; unfold cntN; split <;> omega
theorem cntN_ext {s t : Nat} : ∀ {n}, (∀ j, j < n → s.testBit j = t.testBit j) → cntN s n = cntN t n
  | 0, _ => rfl
  | n + 1, h => by unfold cntN; rw [cntN_ext (fun j hj => h j (by omega)), h n (by omega)]
/-- One bit less. -/
theorem cntN_off {s t k : Nat} (hk : s.testBit k = true) (ht : ∀ j, t.testBit j = (s.testBit j && decide (j ≠ k))) : ∀ {n}, k < n → cntN s n = cntN t n + 1
  | 0, h => by omega
  | n + 1, h => by
    unfold cntN
    by_cases e : n = k
    · subst e
      rw [cntN_ext (s := s) (t := t) (fun j hj => by rw [ht]; simp; omega), hk, ht]
      simp
    · rw [cntN_off hk ht (n := n) (by omega), ht n]
      simp [e]
      omega
theorem cntN_zero {s : Nat} : ∀ {n}, (∀ j, j < n → s.testBit j = false) → cntN s n = 0
  | 0, _ => rfl
  | n + 1, h => by unfold cntN; rw [cntN_zero (fun j hj => h j (by omega)), h n (by omega)]; rfl
theorem cntN_pos {s k : Nat} : ∀ {n}, k < n → s.testBit k = true → 0 < cntN s n
  | 0, h, _ => by omega
  | n + 1, h, hk => by
    unfold cntN
    by_cases e : n = k
    · subst e; rw [hk]; simp
    · have := cntN_pos (n := n) (by omega) hk; omega
theorem cntN_none {s n : Nat} (h : cntN s n = 0) (j : Nat) (hj : j < n) : s.testBit j = false := by
  cases hb : s.testBit j with
  | false => rfl
  | true => have := cntN_pos hj hb; omega
theorem cnt_mono {s t : Nat} : ∀ {n}, (∀ j, j < n → s.testBit j = true → t.testBit j = true) → cntN s n ≤ cntN t n
  | 0, _ => Nat.le_refl _
  | n + 1, h => by
    have ih := cnt_mono (n := n) (fun j hj => h j (by omega))
    have := h n (by omega)
    unfold cntN
    cases hs : s.testBit n
    · simp only [Bool.false_eq_true, if_false]; split <;> omega
    · rw [this hs]; simp only [if_true]; omega
theorem cnt_more {s t k : Nat} : ∀ {n}, (∀ j, j < n → s.testBit j = true → t.testBit j = true) → k < n → s.testBit k = false → t.testBit k = true → cntN s n < cntN t n
  | 0, _, h, _, _ => by omega
  | n + 1, h, hk, h1, h2 => by
    unfold cntN
    by_cases e : n = k
    · subst e
      have := cnt_mono (s := s) (t := t) (n := n) (fun j hj => h j (by omega))
      rw [h1, h2]
      simp only [Bool.false_eq_true, if_false, if_true]
      omega
    · have ih := cnt_more (n := n) (fun j hj => h j (by omega)) (by omega) h1 h2
      have := h n (by omega)
      cases hs : s.testBit n
      · simp only [Bool.false_eq_true, if_false]; split <;> omega
      · rw [this hs]; simp only [if_true]; omega
theorem cnt_full {s : Nat} : ∀ {n}, cntN s n = n → ∀ j, j < n → s.testBit j = true
  | 0, _, j, hj => by omega
  | n + 1, h, j, hj => by
    unfold cntN at h
    have := cntN_le s n
    cases hs : s.testBit n with
    | false => rw [hs] at h; simp at h; omega
    | true =>
      rw [hs] at h
      simp only [if_true] at h
      by_cases e : j = n
      · subst e; exact hs
      · exact cnt_full (n := n) (by omega) j (by omega)
theorem cnt_or {s t : Nat} : ∀ {n}, (∀ j, j < n → s.testBit j = true → t.testBit j = false) → cntN (s ||| t) n = cntN s n + cntN t n
  | 0, _ => rfl
  | n + 1, h => by
    have ih := cnt_or (n := n) (fun j hj => h j (by omega))
    have := h n (by omega)
    unfold cntN
    rw [ih, Nat.testBit_or]
    cases hs : s.testBit n <;> cases ht : t.testBit n <;> simp_all <;> omega
theorem bits_zero {s n : Nat} (hs : s < 2 ^ n) (h : ∀ j, j < n → s.testBit j = false) : s = 0 := by
  apply Nat.eq_of_testBit_eq
  intro j
  rw [Nat.zero_testBit]
  by_cases hj : j < n
  · exact h j hj
  · exact Nat.testBit_lt_two_pow (Nat.lt_of_lt_of_le hs (Nat.pow_le_pow_right (by omega) (by omega)))
theorem bits_eq {s t n : Nat} (hs : s < 2 ^ n) (ht : t < 2 ^ n) (h : ∀ j, j < n → s.testBit j = t.testBit j) : s = t := by
  apply Nat.eq_of_testBit_eq
  intro j
  by_cases hj : j < n
  · exact h j hj
  · rw [Nat.testBit_lt_two_pow (Nat.lt_of_lt_of_le hs (Nat.pow_le_pow_right (by omega) (by omega))), Nat.testBit_lt_two_pow (Nat.lt_of_lt_of_le ht (Nat.pow_le_pow_right (by omega) (by omega)))]
theorem bit_pow (c j : Nat) : (2 ^ c).testBit j = decide (j = c) := by
  rw [Nat.testBit_two_pow]
  exact decide_eq_decide.2 eq_comm

end Go.Proofs.Qxb6500570aGreat
