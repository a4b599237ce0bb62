import Derived.Test.Qxb6500567aGreatPh
/- Sets of bytes as four words, plain. -/
namespace Go.Proofs.Qxb6500567aGreat
set_option linter.unusedVariables false
set_option linter.unusedSimpArgs false

/-- Word i of a set. -/
def wd (S i : Nat) : Nat := S / 2 ^ (64 * i) % 2 ^ 64

theorem wd_lt (S i : Nat) : wd S i < 2 ^ 64 := Nat.mod_lt _ (Nat.two_pow_pos 64)

theorem wd_bit (S i k : Nat) : (wd S i).testBit k = (decide (k < 64) && S.testBit (64 * i + k)) := by
  unfold wd
  rw [Nat.testBit_mod_two_pow, Nat.testBit_div_two_pow, Nat.add_comm k]

theorem rng_bit (lo hi k : Nat) : (rng lo hi).testBit k = decide (lo ≤ k ∧ k ≤ hi) := by
  unfold rng
  by_cases h : lo ≤ hi
  · rw [if_pos h]
    have e : 2 ^ (hi + 1) - 2 ^ lo = (2 ^ (hi + 1 - lo) - 1) <<< lo := by
      rw [Nat.shiftLeft_eq, Nat.sub_mul, ← Nat.pow_add, Nat.one_mul]
      congr 2
      omega
    rw [e, Nat.testBit_shiftLeft, Nat.testBit_two_pow_sub_one]
    by_cases h1 : lo ≤ k
    · simp [h1]; omega
    · simp [h1]
  · rw [if_neg h]
    simp
    omega

theorem cpl_bit (S k : Nat) : (cpl S).testBit k = (S.testBit k ^^ decide (k < 256)) := by
  unfold cpl
  rw [Nat.testBit_xor, Nat.testBit_two_pow_sub_one]

theorem bit_out {S k : Nat} (h : S < 2 ^ 256) (hk : 256 ≤ k) : S.testBit k = false := Nat.testBit_lt_two_pow (Nat.lt_of_lt_of_le h (Nat.pow_le_pow_right (by omega) hk))

/-- Equal by their bits below 256. -/
theorem set_ext {S T : Nat} (hS : S < 2 ^ 256) (hT : T < 2 ^ 256) (h : ∀ k, k < 256 → S.testBit k = T.testBit k) : S = T := by
  apply Nat.eq_of_testBit_eq
  intro k
  by_cases hk : k < 256
  · exact h k hk
  · rw [bit_out hS (by omega), bit_out hT (by omega)]

/-- Four words make a set. -/
theorem mk4 {a b c d : Nat} (ha : a < 2 ^ 64) (hb : b < 2 ^ 64) (hc : c < 2 ^ 64) (hd : d < 2 ^ 64) : ∃ T, T < 2 ^ 256 ∧ wd T 0 = a ∧ wd T 1 = b ∧ wd T 2 = c ∧ wd T 3 = d := by
  have o64 : ∀ {x : Nat} {k : Nat}, x < 2 ^ 64 → 64 ≤ k → x.testBit k = false := fun hx hk => Nat.testBit_lt_two_pow (Nat.lt_of_lt_of_le hx (Nat.pow_le_pow_right (by omega) hk))
  have lt : ∀ {x : Nat} (m : Nat), x < 2 ^ 64 → m ≤ 192 → x <<< m < 2 ^ 256 := by
    intro x m hx hm
    rw [Nat.shiftLeft_eq]
    calc x * 2 ^ m < 2 ^ 64 * 2 ^ m := Nat.mul_lt_mul_of_pos_right hx (Nat.two_pow_pos m)
      _ = 2 ^ (64 + m) := (Nat.pow_add 2 64 m).symm
      _ ≤ 2 ^ 256 := Nat.pow_le_pow_right (by omega) (by omega)
  have b64 : ∀ {x y : Nat}, x < 2 ^ 64 → y < 2 ^ 64 → (∀ k, k < 64 → x.testBit k = y.testBit k) → x = y := by
    intro x y hx hy h
    apply Nat.eq_of_testBit_eq
    intro k
    by_cases hk : k < 64
    · exact h k hk
    · rw [o64 hx (by omega), o64 hy (by omega)]
  refine ⟨a ||| (b <<< 64 ||| (c <<< 128 ||| d <<< 192)), ?_, ?_, ?_, ?_, ?_⟩
  · exact or_lt (Nat.lt_of_lt_of_le ha (Nat.pow_le_pow_right (by omega) (by omega))) (or_lt (lt 64 hb (by omega)) (or_lt (lt 128 hc (by omega)) (lt 192 hd (by omega))))
  · apply b64 (wd_lt _ _) ha
    intro k hk
    rw [wd_bit]
    simp only [Nat.testBit_or, Nat.testBit_shiftLeft, hk, decide_true, Bool.true_and]
    simp [show ¬ 64 ≤ k by omega, show ¬ 128 ≤ k by omega, show ¬ 192 ≤ k by omega]
  · apply b64 (wd_lt _ _) hb
    intro k hk
    rw [wd_bit]
    simp only [Nat.testBit_or, Nat.testBit_shiftLeft, hk, decide_true, Bool.true_and]
    simp [show ¬ 128 ≤ 64 + k by omega, show ¬ 192 ≤ 64 + k by omega, o64 ha (show 64 ≤ 64 + k by omega)]
  · apply b64 (wd_lt _ _) hc
    intro k hk
    rw [wd_bit]
    simp only [Nat.testBit_or, Nat.testBit_shiftLeft, hk, decide_true, Bool.true_and]
    simp [show 64 ≤ 128 + k by omega, show ¬ 192 ≤ 128 + k by omega, o64 ha (show 64 ≤ 128 + k by omega), o64 hb (show 64 ≤ 128 + k - 64 by omega)]
  · apply b64 (wd_lt _ _) hd
    intro k hk
    rw [wd_bit]
    simp only [Nat.testBit_or, Nat.testBit_shiftLeft, hk, decide_true, Bool.true_and]
    simp [show 64 ≤ 192 + k by omega, show 128 ≤ 192 + k by omega, o64 ha (show 64 ≤ 192 + k by omega), o64 hb (show 64 ≤ 192 + k - 64 by omega), o64 hc (show 64 ≤ 192 + k - 128 by omega)]

theorem bit_wd {S k : Nat} (hk : k < 256) : S.testBit k = (wd S (k / 64)).testBit (k % 64) := by
  rw [wd_bit]
  simp [show k % 64 < 64 by omega, show 64 * (k / 64) + k % 64 = k by omega]

/-- One word is put anew. -/
theorem put4 {S i x : Nat} (hi : i < 4) (hx : x < 2 ^ 64) : ∃ T, T < 2 ^ 256 ∧ (∀ j, j < 4 → wd T j = if j = i then x else wd S j) := by
  have h : ∀ j, (if j = i then x else wd S j) < 2 ^ 64 := by
    intro j; split
    · exact hx
    · exact wd_lt _ _
  obtain ⟨T, h0, h1, h2, h3, h4⟩ := mk4 (h 0) (h 1) (h 2) (h 3)
  refine ⟨T, h0, ?_⟩
  intro j hj
  have : j = 0 ∨ j = 1 ∨ j = 2 ∨ j = 3 := by omega
  rcases this with rfl | rfl | rfl | rfl <;> assumption

/-- A set by its words. -/
theorem wd_ext {S T : Nat} (hS : S < 2 ^ 256) (hT : T < 2 ^ 256) (h : ∀ j, j < 4 → wd S j = wd T j) : S = T := by
  apply set_ext hS hT
  intro k hk
  rw [bit_wd hk, bit_wd hk, h _ (by omega)]

theorem w64_ext {x y : Nat} (hx : x < 2 ^ 64) (hy : y < 2 ^ 64) (h : ∀ k, k < 64 → x.testBit k = y.testBit k) : x = y := by
  apply Nat.eq_of_testBit_eq
  intro k
  by_cases hk : k < 64
  · exact h k hk
  · rw [Nat.testBit_lt_two_pow (Nat.lt_of_lt_of_le hx (Nat.pow_le_pow_right (by omega) (by omega))), Nat.testBit_lt_two_pow (Nat.lt_of_lt_of_le hy (Nat.pow_le_pow_right (by omega) (by omega)))]

theorem wd_or (S T i : Nat) : wd (S ||| T) i = wd S i ||| wd T i := by
  apply w64_ext (wd_lt _ _) (Nat.or_lt_two_pow (wd_lt _ _) (wd_lt _ _))
  intro k hk
  simp only [wd_bit, Nat.testBit_or, hk, decide_true, Bool.true_and]

theorem wd_cpl {S i : Nat} (hi : i < 4) : wd (cpl S) i = wd S i ^^^ (2 ^ 64 - 1) := by
  apply w64_ext (wd_lt _ _) (Nat.xor_lt_two_pow (wd_lt _ _) (by decide))
  intro k hk
  simp only [wd_bit, cpl_bit, Nat.testBit_xor, Nat.testBit_two_pow_sub_one, hk, decide_true, Bool.true_and]
  simp [show 64 * i + k < 256 by omega]

/-- A word of a range, by two shifts. -/
theorem wd_rng {lo hi i a b : Nat} (hi4 : i < 4) (hh : hi < 256) (ha : a = lo - 64 * i) (hb : b = min 63 (hi - 64 * i)) (hl : 64 * i ≤ hi) (hab : a ≤ b) : wd (rng lo hi) i = ((2 ^ 64 - 1) * 2 ^ a % 2 ^ 64) &&& ((2 ^ 64 - 1) / 2 ^ (63 - b)) := by
  have h64 : (2 ^ 64 - 1) / 2 ^ (63 - b) < 2 ^ 64 := Nat.lt_of_le_of_lt (Nat.div_le_self _ _) (by decide)
  apply w64_ext (wd_lt _ _) (Nat.and_lt_two_pow _ h64)
  intro k hk
  rw [wd_bit, rng_bit, Nat.testBit_and, Nat.testBit_mod_two_pow, ← Nat.shiftLeft_eq, Nat.testBit_shiftLeft, Nat.testBit_div_two_pow, Nat.testBit_two_pow_sub_one, Nat.testBit_two_pow_sub_one]
  simp only [hk, decide_true, Bool.true_and]
  by_cases h1 : lo ≤ 64 * i + k
  · by_cases h2 : 64 * i + k ≤ hi
    · simp [h1, h2, show a ≤ k by omega, show k - a < 64 by omega, show k + (63 - b) < 64 by omega]
    · simp [h1, h2, show ¬ k + (63 - b) < 64 by omega]
  · simp [h1, show ¬ a ≤ k by omega]

theorem wd_rng0 {lo hi i : Nat} (h : hi < 64 * i ∨ min 63 (hi - 64 * i) < lo - 64 * i) (hh : hi < 256) : wd (rng lo hi) i = 0 := by
  apply w64_ext (wd_lt _ _) (by decide)
  intro k hk
  rw [wd_bit, rng_bit]
  simp [hk]
  omega

theorem wd_zero (i : Nat) : wd 0 i = 0 := by simp [wd]

/-- Is a byte in a set? -/
theorem has_bit {S c : Nat} (hc : c < 256) : (decide (wd S (c / 64) / 2 ^ (c % 64) &&& 1 = 1)) = S.testBit c := by
  rw [bit_wd hc, Nat.testBit, Nat.shiftRight_eq_div_pow, Nat.and_comm]
  have := Nat.and_one_is_mod (wd S (c / 64) / 2 ^ (c % 64))
  rw [Nat.and_comm] at this
  rw [this]
  have h2 := Nat.mod_two_eq_zero_or_one (wd S (c / 64) / 2 ^ (c % 64))
  rcases h2 with h | h <;> simp [h]

theorem empty_iff {S : Nat} (hS : S < 2 ^ 256) : S = 0 ↔ wd S 0 = 0 ∧ wd S 1 = 0 ∧ wd S 2 = 0 ∧ wd S 3 = 0 := by
  constructor
  · rintro rfl; simp [wd_zero]
  · rintro ⟨h0, h1, h2, h3⟩
    apply wd_ext hS (Nat.two_pow_pos 256)
    intro j hj
    rw [wd_zero]
    have : j = 0 ∨ j = 1 ∨ j = 2 ∨ j = 3 := by omega
    rcases this with rfl | rfl | rfl | rfl <;> assumption

end Go.Proofs.Qxb6500567aGreat
