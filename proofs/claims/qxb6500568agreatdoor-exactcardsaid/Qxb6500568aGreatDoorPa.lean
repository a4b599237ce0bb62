import Ieee.Arith
namespace Go.Proofs.Qxb6500568aGreatDoor
open Ieee
set_option linter.unusedVariables false
set_option linter.unusedSimpArgs false

/-! Rounding to nearest: plain form, scaling, sticky digits. -/

/-- n / 2^d to the nearest whole number, ties to even. -/
def cutE (n d : Nat) : Nat := n / 2 ^ d + (if 2 ^ d < 2 * (n % 2 ^ d) ∨ (2 ^ d = 2 * (n % 2 ^ d) ∧ n / 2 ^ d % 2 = 1) then 1 else 0)

theorem lt_two_log (n : Nat) : n < 2 ^ (n.log2 + 1) := Nat.lt_log2_self
theorem two_log_le {n : Nat} (h : n ≠ 0) : 2 ^ n.log2 ≤ n := Nat.log2_self_le h

theorem log2_eq {n k : Nat} (h1 : 2 ^ k ≤ n) (h2 : n < 2 ^ (k + 1)) : n.log2 = k := by
  have hn : n ≠ 0 := by have := Nat.two_pow_pos k; omega
  have a := (Nat.le_log2 hn).2 h1
  have b := (Nat.log2_lt hn).2 h2
  omega

theorem cut_even (neg : Bool) (n d : Nat) : Toward.even.cut neg n d = cutE n d := by
  unfold Toward.cut cutE
  simp only [Nat.shiftLeft_eq, Nat.one_mul]
  by_cases h : d ≤ n.log2 + 2
  · rw [Nat.min_eq_left h]
    congr 1
    by_cases h1 : 2 ^ d < 2 * (n % 2 ^ d)
    · simp [h1]
    · by_cases h2 : 2 ^ d = 2 * (n % 2 ^ d)
      · by_cases h3 : n / 2 ^ d % 2 = 1
        · simp [h1, ← h2, h3]
        · simp [h1, ← h2, h3]
      · simp [h1, h2]
  · have hg : min d (n.log2 + 2) = n.log2 + 2 := by omega
    rw [hg]
    have hn := lt_two_log n
    have e2 : 2 ^ (n.log2 + 2) = 2 * 2 ^ (n.log2 + 1) := by rw [Nat.pow_succ, Nat.mul_comm]
    have hle : 2 ^ (n.log2 + 2) ≤ 2 ^ d := Nat.pow_le_pow_right (by omega) (by omega)
    have a1 : n / 2 ^ (n.log2 + 2) = 0 := Nat.div_eq_of_lt (by omega)
    have a2 : n % 2 ^ (n.log2 + 2) = n := Nat.mod_eq_of_lt (by omega)
    have b1 : n / 2 ^ d = 0 := Nat.div_eq_of_lt (by omega)
    have b2 : n % 2 ^ d = n := Nat.mod_eq_of_lt (by omega)
    rw [a1, a2, b1, b2]
    have c1 : ¬ 2 ^ (n.log2 + 2) < 2 * n := by omega
    have c2 : ¬ 2 ^ (n.log2 + 2) = 2 * n := by omega
    have c3 : ¬ 2 ^ d < 2 * n := by omega
    have c4 : ¬ 2 ^ d = 2 * n := by omega
    simp [c1, c2, c3, c4]

theorem cutE_zero (n : Nat) : cutE n 0 = n := by
  unfold cutE
  simp [Nat.mod_one]

theorem cutE_scale (n d k : Nat) : cutE (n * 2 ^ k) (d + k) = cutE n d := by
  unfold cutE
  have hk := Nat.two_pow_pos k
  have e1 : n * 2 ^ k / 2 ^ (d + k) = n / 2 ^ d := by rw [Nat.pow_add, Nat.mul_div_mul_right _ _ hk]
  have e2 : n * 2 ^ k % 2 ^ (d + k) = n % 2 ^ d * 2 ^ k := by rw [Nat.pow_add, Nat.mul_mod_mul_right]
  rw [e1, e2, Nat.pow_add]
  have e3 : (2 ^ d * 2 ^ k < 2 * (n % 2 ^ d * 2 ^ k)) ↔ 2 ^ d < 2 * (n % 2 ^ d) := by
    rw [← Nat.mul_assoc]; exact Nat.mul_lt_mul_right hk
  have e4 : (2 ^ d * 2 ^ k = 2 * (n % 2 ^ d * 2 ^ k)) ↔ 2 ^ d = 2 * (n % 2 ^ d) := by
    rw [← Nat.mul_assoc]; exact Nat.mul_left_inj (by omega)
  simp [e3, e4]

theorem cutE_exact (n k : Nat) : cutE (n * 2 ^ k) k = n := by
  have := cutE_scale n 0 k
  rw [Nat.zero_add] at this
  rw [this, cutE_zero]

/-- The rung of the number m * 2^p, m not 0. -/
def lastP (m : Nat) (p : Int) : Int := max (p + (m.log2 : Int) - 52) (-1074)
def rungE (m : Nat) (p : Int) : Nat :=
  min ((lastP m p + 1074).toNat * 2 ^ 52 + cutE (m * 2 ^ (p - lastP m p).toNat) (lastP m p - p).toNat) (2047 * 2 ^ 52)

theorem nearest_rung (neg : Bool) (m : Nat) (p : Int) (h : m ≠ 0) : double.nearest neg m p = double.word neg (rungE m p) := by
  unfold Format.nearest rungE lastP
  rw [if_neg h]
  dsimp only
  have e1 : double.leastPlace = -1074 := by decide
  have e2 : double.binade = 2 ^ 52 := by decide
  have e3 : double.infRung = 2047 * 2 ^ 52 := by decide
  have e4 : (double.fractionBits : Int) = 52 := by decide
  rw [e1, e2, e3, e4, cut_even, Nat.shiftLeft_eq]
  congr 4

theorem log2_scale (m k : Nat) (h : m ≠ 0) : (m * 2 ^ k).log2 = m.log2 + k := by
  have a := two_log_le h
  have b := lt_two_log m
  have hk := Nat.two_pow_pos k
  apply log2_eq
  · rw [Nat.pow_add]; exact Nat.mul_le_mul_right _ a
  · rw [show m.log2 + k + 1 = m.log2 + 1 + k by omega, Nat.pow_add]; exact (Nat.mul_lt_mul_right hk).2 b

theorem lastP_scale (m k : Nat) (p : Int) (h : m ≠ 0) : lastP (m * 2 ^ k) (p - k) = lastP m p := by
  unfold lastP
  rw [log2_scale m k h]
  omega

theorem rungE_scale (m k : Nat) (p : Int) (h : m ≠ 0) : rungE (m * 2 ^ k) (p - k) = rungE m p := by
  unfold rungE
  rw [lastP_scale m k p h]
  congr 2
  generalize lastP m p = l
  by_cases h1 : l ≤ p - k
  · have e1 : (l - (p - k)).toNat = 0 := by omega
    have e2 : (l - p).toNat = 0 := by omega
    rw [e1, e2, cutE_zero, cutE_zero, Nat.mul_assoc, ← Nat.pow_add]
    congr 2; omega
  · have e1 : (p - k - l).toNat = 0 := by omega
    rw [e1, Nat.pow_zero, Nat.mul_one]
    by_cases h2 : l ≤ p
    · have e2 : (l - p).toNat = 0 := by omega
      rw [e2, cutE_zero]
      obtain ⟨t, ht⟩ : ∃ t, k = (p - l).toNat + t := ⟨k - (p - l).toNat, by omega⟩
      have e3 : (l - (p - k)).toNat = t := by omega
      rw [e3]
      conv => lhs; rw [ht]
      rw [Nat.pow_add, ← Nat.mul_assoc, cutE_exact]
    · have e2 : (p - l).toNat = 0 := by omega
      have e3 : (l - (p - k)).toNat = (l - p).toNat + k := by omega
      rw [e2, e3, cutE_scale, Nat.pow_zero, Nat.mul_one]

/-- Scaling. -/
theorem nearest_scale (neg : Bool) (m k : Nat) (p q : Int) (h : m ≠ 0) (hq : q = p - k) : double.nearest neg (m * 2 ^ k) q = double.nearest neg m p := by
  subst hq
  have hk := Nat.two_pow_pos k
  rw [nearest_rung _ _ _ h, nearest_rung _ _ _ (Nat.mul_ne_zero h (by omega)), rungE_scale m k p h]

theorem cutE_sticky (M j r1 r2 d : Nat) (a1 : 0 < r1) (b1 : r1 < 2 ^ j) (a2 : 0 < r2) (b2 : r2 < 2 ^ j) (hd : j + 1 ≤ d) : cutE (M * 2 ^ j + r1) d = cutE (M * 2 ^ j + r2) d := by
  obtain ⟨g, rfl⟩ : ∃ g, d = g + 1 + j := ⟨d - j - 1, by omega⟩
  have key : ∀ r, 0 < r → r < 2 ^ j → cutE (M * 2 ^ j + r) (g + 1 + j) = M / 2 ^ (g + 1) + (if 2 ^ g ≤ M % 2 ^ (g + 1) then 1 else 0) := by
    intro r hr hr'
    unfold cutE
    have hj := Nat.two_pow_pos j
    have hg := Nat.two_pow_pos (g + 1)
    have e0 : (M * 2 ^ j + r) / 2 ^ j = M := by
      rw [Nat.add_comm, Nat.add_mul_div_right _ _ hj, Nat.div_eq_of_lt hr']; omega
    have e1 : (M * 2 ^ j + r) / 2 ^ (g + 1 + j) = M / 2 ^ (g + 1) := by
      rw [Nat.add_comm (g + 1) j, Nat.pow_add, ← Nat.div_div_eq_div_mul, e0]
    have e2 : (M * 2 ^ j + r) % 2 ^ (g + 1 + j) = M % 2 ^ (g + 1) * 2 ^ j + r := by
      have := Nat.div_add_mod (M * 2 ^ j + r) (2 ^ (g + 1 + j))
      rw [e1] at this
      have h2 := Nat.div_add_mod M (2 ^ (g + 1))
      have h3 : 2 ^ (g + 1 + j) = 2 ^ (g + 1) * 2 ^ j := Nat.pow_add ..
      have h4 : M * 2 ^ j = 2 ^ (g + 1) * 2 ^ j * (M / 2 ^ (g + 1)) + M % 2 ^ (g + 1) * 2 ^ j := by
        conv => lhs; rw [← h2]
        rw [Nat.add_mul]; congr 1
        rw [Nat.mul_assoc, Nat.mul_assoc, Nat.mul_comm (M / _)]
      rw [h3] at this ⊢
      omega
    rw [e1, e2]
    congr 1
    generalize M % 2 ^ (g + 1) = R at *
    have h3 : 2 ^ (g + 1 + j) = 2 * (2 ^ g * 2 ^ j) := by rw [Nat.pow_add, Nat.pow_succ, Nat.mul_comm (2 ^ g) 2, Nat.mul_assoc]
    rw [h3]
    by_cases hR : 2 ^ g ≤ R
    · have := Nat.mul_le_mul_right (2 ^ j) hR
      rw [if_pos hR, if_pos (Or.inl (by omega))]
    · have h5 : (R + 1) * 2 ^ j ≤ 2 ^ g * 2 ^ j := Nat.mul_le_mul_right _ (by omega)
      rw [Nat.add_mul, Nat.one_mul] at h5
      rw [if_neg hR, if_neg (by omega)]
  rw [key r1 a1 b1, key r2 a2 b2]

/-- What lies below M's unit, M of 54 digits and more: all the same. -/
theorem nearest_sticky (neg : Bool) (M j r1 r2 : Nat) (p : Int) (hM : 2 ^ 53 ≤ M) (a1 : 0 < r1) (b1 : r1 < 2 ^ j) (a2 : 0 < r2) (b2 : r2 < 2 ^ j) :
    double.nearest neg (M * 2 ^ j + r1) p = double.nearest neg (M * 2 ^ j + r2) p := by
  rw [nearest_rung _ _ _ (by omega), nearest_rung _ _ _ (by omega)]
  have hM0 : M ≠ 0 := by have := Nat.two_pow_pos 53; omega
  have hl : ∀ r, r < 2 ^ j → (M * 2 ^ j + r).log2 = M.log2 + j := by
    intro r hr
    have a := two_log_le hM0
    have b := lt_two_log M
    have h1 := Nat.mul_le_mul_right (2 ^ j) a
    have h2 : (M + 1) * 2 ^ j ≤ 2 ^ (M.log2 + 1) * 2 ^ j := Nat.mul_le_mul_right _ (by omega)
    rw [Nat.add_mul, Nat.one_mul] at h2
    apply log2_eq
    · rw [Nat.pow_add]; omega
    · rw [show M.log2 + j + 1 = M.log2 + 1 + j by omega, Nat.pow_add]; omega
  have hL : 53 ≤ M.log2 := (Nat.le_log2 hM0).2 hM
  have e : lastP (M * 2 ^ j + r1) p = lastP (M * 2 ^ j + r2) p := by unfold lastP; rw [hl _ b1, hl _ b2]
  have hge : p + j + 1 ≤ lastP (M * 2 ^ j + r2) p := by unfold lastP; rw [hl _ b2]; omega
  unfold rungE
  rw [e]
  congr 3
  generalize lastP (M * 2 ^ j + r2) p = l at *
  have e0 : (p - l).toNat = 0 := by omega
  rw [e0, Nat.pow_zero, Nat.mul_one, Nat.mul_one]
  exact cutE_sticky M j r1 r2 _ a1 b1 a2 b2 (by omega)

/-- One digit more stands for whatever lies below M's unit. -/
theorem nearest_below (neg : Bool) (M j r : Nat) (p q : Int) (hM : 2 ^ 53 ≤ M) (a : 0 < r) (b : r < 2 ^ j) (hq : q = p + j - 1) :
    double.nearest neg (M * 2 ^ j + r) p = double.nearest neg (2 * M + 1) q := by
  obtain ⟨i, rfl⟩ : ∃ i, j = i + 1 := by
    cases j with
    | zero => simp at b; omega
    | succ i => exact ⟨i, rfl⟩
  have hi := Nat.two_pow_pos i
  have e2 : 2 ^ (i + 1) = 2 * 2 ^ i := by rw [Nat.pow_succ, Nat.mul_comm]
  have h := nearest_sticky neg M (i + 1) r (2 ^ i) p hM a b hi (by omega)
  rw [h]
  have : M * 2 ^ (i + 1) + 2 ^ i = (2 * M + 1) * 2 ^ i := by
    rw [e2, Nat.add_mul, Nat.one_mul, Nat.mul_left_comm, Nat.mul_assoc]
  rw [this]
  refine nearest_scale neg _ i q p (by omega) (by omega)

/-! The steps of pack, for 2^63 <= M < 2^64. -/

def packR (M : Nat) (E : Int) (s : Nat) : Nat :=
  let top := E + 63
  if top > 1023 then 2047 * 2 ^ 52 else
  let drop : Int := if top < -1022 then 11 + (-1022 - top) else 11
  if drop > 64 then 0 else
  let D := drop.toNat
  let q := M / 2 ^ D
  let rem := M % 2 ^ D
  let half := 2 ^ (D - 1)
  let up : Bool := if rem = half then (s == 1) || (q % 2 == 1) else decide (half < rem)
  let q' := if up then q + 1 else q
  let r := if top < -1022 then q' else (top + 1022).toNat * 2 ^ 52 + q'
  if 2047 * 2 ^ 52 ≤ r then 2047 * 2 ^ 52 else r

theorem min_if (a b : Nat) : min a b = if b ≤ a then b else a := by split <;> omega

theorem packR_law (M : Nat) (E : Int) (s : Nat) (h1 : 2 ^ 63 ≤ M) (h2 : M < 2 ^ 64) (hs : s ≤ 1) : rungE (2 * M + s) (E - 1) = packR M E s := by
  have hl : (2 * M + s).log2 = 64 := log2_eq (by omega) (by omega)
  unfold rungE
  have hlast : lastP (2 * M + s) (E - 1) = max (E + 11) (-1074) := by unfold lastP; rw [hl]; omega
  rw [hlast]
  have e0 : (E - 1 - max (E + 11) (-1074)).toNat = 0 := by omega
  rw [e0, Nat.pow_zero, Nat.mul_one]
  -- the cut
  have cutS : ∀ D, 1 ≤ D → cutE (2 * M + s) (D + 1) = M / 2 ^ D + (if 2 ^ (D - 1) < M % 2 ^ D ∨ (M % 2 ^ D = 2 ^ (D - 1) ∧ (s = 1 ∨ M / 2 ^ D % 2 = 1)) then 1 else 0) := by
    intro D hD
    unfold cutE
    have e2 : 2 ^ (D + 1) = 2 * 2 ^ D := by rw [Nat.pow_succ, Nat.mul_comm]
    have e3 : 2 ^ D = 2 * 2 ^ (D - 1) := by conv => lhs; rw [show D = D - 1 + 1 by omega, Nat.pow_succ, Nat.mul_comm]
    have d1 : (2 * M + s) / 2 ^ (D + 1) = M / 2 ^ D := by
      rw [e2, ← Nat.div_div_eq_div_mul]; congr 1; omega
    have d2 : (2 * M + s) % 2 ^ (D + 1) = 2 * (M % 2 ^ D) + s := by
      have a := Nat.div_add_mod (2 * M + s) (2 ^ (D + 1))
      have b := Nat.div_add_mod M (2 ^ D)
      rw [d1] at a
      have c : 2 ^ (D + 1) * (M / 2 ^ D) = 2 * (2 ^ D * (M / 2 ^ D)) := by rw [e2, Nat.mul_assoc]
      omega
    rw [d1, d2]
    congr 1
    have e4 : (2 ^ (D + 1) < 2 * (2 * (M % 2 ^ D) + s) ∨ 2 ^ (D + 1) = 2 * (2 * (M % 2 ^ D) + s) ∧ M / 2 ^ D % 2 = 1) ↔ (2 ^ (D - 1) < M % 2 ^ D ∨ (M % 2 ^ D = 2 ^ (D - 1) ∧ (s = 1 ∨ M / 2 ^ D % 2 = 1))) := by
      rw [e2, e3]
      omega
    simp [e4]
  unfold packR
  dsimp only
  by_cases ht : E + 63 > 1023
  · rw [if_pos ht]
    have e1 : max (E + 11) (-1074) = E + 11 := by omega
    rw [e1]
    have e2 : (E + 11 - (E - 1)).toNat = 11 + 1 := by omega
    rw [e2, cutS 11 (by omega)]
    have : (E + 11 + 1074).toNat ≥ 2046 := by omega
    have h3 : 2 ^ 52 ≤ M / 2 ^ 11 := by
      rw [Nat.le_div_iff_mul_le (by decide)]; omega
    have h4 := Nat.mul_le_mul_right (2 ^ 52) this
    exact Nat.min_eq_right (by omega)
  · rw [if_neg ht]
    have hD : (if E + 63 < -1022 then 11 + (-1022 - (E + 63)) else 11 : Int) = max (E + 11) (-1074) - E := by split <;> omega
    rw [hD]
    generalize hm : max (E + 11) (-1074) = l at *
    by_cases hd : l - E > 64
    · rw [if_pos hd]
      have hl1 : l = -1074 := by omega
      have : cutE (2 * M + s) (l - (E - 1)).toNat = 0 := by
        unfold cutE
        have hp : 2 ^ 66 ≤ 2 ^ (l - (E - 1)).toNat := Nat.pow_le_pow_right (by omega) (by omega)
        rw [Nat.div_eq_of_lt (by omega), Nat.mod_eq_of_lt (by omega), if_neg (by omega)]
      rw [this, hl1]
      simp
    · rw [if_neg hd]
      obtain ⟨D, hDn⟩ : ∃ D : Nat, l - E = D := ⟨(l - E).toNat, by omega⟩
      have e1 : (l - (E - 1)).toNat = D + 1 := by omega
      have e2 : (l - E).toNat = D := by omega
      rw [e1, e2, cutS D (by omega)]
      have hup : (if (if M % 2 ^ D = 2 ^ (D - 1) then (s == 1) || (M / 2 ^ D % 2 == 1) else decide (2 ^ (D - 1) < M % 2 ^ D)) = true then M / 2 ^ D + 1 else M / 2 ^ D) = M / 2 ^ D + (if 2 ^ (D - 1) < M % 2 ^ D ∨ (M % 2 ^ D = 2 ^ (D - 1) ∧ (s = 1 ∨ M / 2 ^ D % 2 = 1)) then 1 else 0) := by
        by_cases c1 : M % 2 ^ D = 2 ^ (D - 1)
        · by_cases c2 : s = 1
          · simp [c1, c2]
          · by_cases c3 : M / 2 ^ D % 2 = 1
            · simp [c1, c2, c3]
            · simp [c1, c2, c3]
        · by_cases c2 : 2 ^ (D - 1) < M % 2 ^ D
          · simp [c1, c2]
          · simp [c1, c2]
      rw [hup]
      generalize M / 2 ^ D + _ = Q
      by_cases hb : E + 63 < -1022
      · rw [if_pos hb]
        have : (l + 1074).toNat = 0 := by omega
        rw [this, Nat.zero_mul, Nat.zero_add]
        exact min_if _ _
      · rw [if_neg hb]
        have : (l + 1074).toNat = (E + 63 + 1022).toNat := by omega
        rw [this]
        exact min_if _ _
end Go.Proofs.Qxb6500568aGreatDoor
