import Derived.Test.Qxb6500568aGreatDoorPf
namespace Go.Proofs.Qxb6500568aGreatDoor
open Ieee
set_option linter.unusedVariables false
set_option linter.unusedSimpArgs false

/-! The real way to a number's text. -/

theorem rg_rg (x : Nat) : rgW (rgW x) = rgW x := by unfold rgW; omega
theorem pm_rg (x : Nat) : pmW (rgW x) = pmW x := by unfold pmW; rw [rg_rg]
theorem pe_rg (x : Nat) : peW (rgW x) = peW x := by unfold peW; rw [rg_rg]
theorem who_rg (x : Nat) : whoW (rgW x) = whoW x := by unfold whoW; rw [pm_rg, pe_rg]
theorem tru_rg (x : Nat) : truW (rgW x) = truW x := by unfold truW; rw [pm_rg, pe_rg]
theorem ng_rg (x : Nat) : ngW (rgW x) = false := by have := rg_lt x; unfold ngW; simp; omega
theorem rgW_lt (x : Nat) : W64 (rgW x) := by have := rg_lt x; unfold W64; omega

theorem odd_dvd {o j k : Nat} (h : o % 2 = 1) (hd : o * 2 ^ j % 2 ^ k = 0) : k ≤ j := by
  rcases Nat.lt_or_ge j k with h1 | h1
  · exfalso
    obtain ⟨d, rfl⟩ : ∃ d, k = j + 1 + d := ⟨k - j - 1, by omega⟩
    have h2 : o * 2 ^ j % 2 ^ (j + 1) = 0 := by
      have := Nat.mod_mul_right_mod (o * 2 ^ j) (2 ^ (j + 1)) (2 ^ d)
      rw [← Nat.pow_add, hd, Nat.zero_mod] at this
      exact this.symm
    rw [Nat.pow_succ, Nat.mul_comm (2 ^ j) 2, Nat.mul_mod_mul_right] at h2
    have := Nat.two_pow_pos j
    rcases Nat.mul_eq_zero.1 h2 with h3 | h3 <;> omega
  · exact h1

theorem fmt_whole {x : Nat} (hz : rgW x ≠ 0) (h : rgW x < 4845873199050653696) (hw : whoW x = true) :
    0 ≤ odE x ∧ odE x < 53 ∧ odP x * 2 ^ (odE x).toNat < 9007199254740992 ∧ truW x = odP x * 2 ^ (odE x).toNat := by
  obtain ⟨a, b, c, d⟩ := od_law hz
  have hpe : peW x ≤ 0 := by unfold peW; split <;> omega
  have hge := pe_ge x
  have hm := pm_lt x
  unfold whoW at hw
  rw [decide_eq_true_eq] at hw
  have e1 : (peW x).toNat = 0 := by omega
  rw [e1, Nat.pow_zero, Nat.mul_one] at hw
  generalize hk : (-peW x).toNat = k at *
  generalize hj : (odE x - peW x).toNat = j at *
  have hkj : k ≤ j := by
    rw [a] at hw
    exact odd_dvd b hw
  have hE0 : 0 ≤ odE x := by omega
  have eE : (odE x).toNat = j - k := by omega
  have hv : pmW x = odP x * 2 ^ (j - k) * 2 ^ k := by
    rw [Nat.mul_assoc, ← Nat.pow_add, show j - k + k = j by omega]; exact a
  have hkp := Nat.two_pow_pos k
  have ht : truW x = odP x * 2 ^ (odE x).toNat := by
    unfold truW
    rw [e1, Nat.pow_zero, Nat.mul_one, hk, eE, hv, Nat.mul_div_cancel _ hkp]
  have hlt : odP x * 2 ^ (odE x).toNat < 9007199254740992 := by
    rw [eE]
    have : odP x * 2 ^ (j - k) ≤ pmW x := by rw [hv]; exact Nat.le_mul_of_pos_right _ hkp
    omega
  refine ⟨hE0, ?_, hlt, ht⟩
  rcases Int.lt_or_le (odE x) 53 with h53 | h53
  · exact h53
  · exfalso
    have h1 : 53 ≤ (odE x).toNat := by omega
    have h2 := Nat.pow_le_pow_right (n := 2) (by omega) h1
    have h3 := Nat.mul_le_mul (show 1 ≤ odP x by omega) h2
    omega
theorem fmt_part {x : Nat} (hz : rgW x ≠ 0) (hf : rgW x < infB) (h : ¬ (rgW x < 4845873199050653696 ∧ whoW x = true)) : ¬ (0 ≤ odE x ∧ odE x < 53 ∧ odP x * 2 ^ (odE x).toNat < 9007199254740992) := by
  rintro ⟨h1, h2, h3⟩
  obtain ⟨a, b, c, d⟩ := od_law hz
  apply h
  constructor
  · rcases Nat.lt_or_ge (rgW x) 4845873199050653696 with h4 | h4
    · exact h4
    · exfalso
      have hpe : 1 ≤ peW x := by unfold peW; split <;> omega
      have hm : 4503599627370496 ≤ pmW x := pm_norm (by omega)
      have e : odP x * 2 ^ (odE x).toNat = pmW x * 2 ^ (peW x).toNat := by
        rw [a, Nat.mul_assoc, ← Nat.pow_add]; congr 2; omega
      rw [e] at h3
      have h5 : 2 ^ 1 ≤ 2 ^ (peW x).toNat := Nat.pow_le_pow_right (by omega) (by omega)
      have := Nat.mul_le_mul hm h5
      omega
  · unfold whoW
    rw [decide_eq_true_eq]
    by_cases c2 : 0 ≤ peW x
    · have e1 : (-peW x).toNat = 0 := by omega
      rw [e1, Nat.pow_zero, Nat.mod_one]
    · have e1 : (peW x).toNat = 0 := by omega
      rw [e1, Nat.pow_zero, Nat.mul_one, a, show (odE x - peW x).toNat = (odE x).toNat + (-peW x).toNat by omega, Nat.pow_add, ← Nat.mul_assoc, Nat.mul_mod_left]

theorem and_bit (m t : Nat) : m &&& 2 ^ t = m / 2 ^ t % 2 * 2 ^ t := by
  have e1 : (m &&& 2 ^ t) / 2 ^ t = m / 2 ^ t &&& 2 ^ t / 2 ^ t := Nat.and_div_two_pow
  have e2 : (m &&& 2 ^ t) % 2 ^ t = m % 2 ^ t &&& 2 ^ t % 2 ^ t := Nat.and_mod_two_pow
  rw [Nat.mod_self, Nat.and_zero] at e2
  rw [Nat.div_self (Nat.two_pow_pos t)] at e1
  have e3 : m / 2 ^ t &&& 1 = m / 2 ^ t % 2 := Nat.and_one_is_mod _
  rw [e3] at e1
  have hd := Nat.div_add_mod (m &&& 2 ^ t) (2 ^ t)
  rw [e1, e2, Nat.mul_comm] at hd
  omega
theorem and_lo52 (x : Nat) (h : W64 x) : x &&& (x / 2 ^ 52 * 2 ^ 52 ^^^ (2 ^ 64 - 1)) = x % 2 ^ 52 := by
  apply Nat.eq_of_testBit_eq
  intro i
  have hy : (x / 2 ^ 52 * 2 ^ 52).testBit i = (decide (52 ≤ i) && x.testBit i) := by
    rw [← Nat.shiftRight_eq_div_pow, ← Nat.shiftLeft_eq, Nat.testBit_shiftLeft, Nat.testBit_shiftRight]
    by_cases c : 52 ≤ i
    · simp [c]
    · simp [c]
  rw [Nat.testBit_and, Nat.testBit_xor, hy, Nat.testBit_two_pow_sub_one, Nat.testBit_mod_two_pow]
  by_cases c : i < 52
  · have c2 : ¬ 52 ≤ i := by omega
    have c3 : i < 64 := by omega
    simp [c, c2, c3]
  · have c2 : 52 ≤ i := by omega
    by_cases c3 : i < 64
    · simp [c, c2, c3]
    · have : x.testBit i = false := Nat.testBit_lt_two_pow (Nat.lt_of_lt_of_le h (Nat.pow_le_pow_right (n := 2) (i := 64) (by omega) (by omega)))
      simp [this]
theorem okey_max {x : Nat} (hn : rgW x ≤ infB) : (9218868437227405311 < okey x ↔ rgW x = infB ∧ ngW x = false) ∧ (okey x < -9218868437227405311 ↔ rgW x = infB ∧ ngW x = true) := by
  unfold okey
  unfold infB at hn ⊢
  cases ngW x <;> simp <;> omega
theorem take_set_succ {α : Type} (l : List α) (k : Nat) (v : α) (h : k < l.length) : (l.set k v).take (k + 1) = l.take k ++ [v] := by
  rw [List.take_add_one, List.getElem?_set_self (by simpa using h), List.take_set_of_le (Nat.le_refl _)]
  rfl
end Go.Proofs.Qxb6500568aGreatDoor
