import Derived.Test.Qxb6500568aGreatDoorSo
namespace Go.Proofs.Qxb6500568aGreatDoor
open Ieee
set_option linter.unusedVariables false
set_option linter.unusedSimpArgs false
set_option linter.unusedSectionVars false

/-! The real tables as plain data: a list of places and the indexes over it. -/

set_option exponentiation.threshold 3000 in
set_option maxRecDepth 20000 in
theorem toI_fInt : ∀ n, n < 40 → toI (fInt n) = some (n : Int) := by decide
theorem fInt_small : ∀ n, n < 40 → ∀ m, m < 40 → fInt n = fInt m → n = m := by decide

/-- a whole number's bits. -/
theorem toI_pos {x : Nat} {i : Int} (hx : W64 x) (h : toI x = some i) (hi : 0 < i) : x = fInt i.toNat := by
  unfold toI at h
  by_cases hc : rgW x ≤ 4845873199050653696 ∧ whoW x = true
  · rw [if_pos hc] at h
    injection h with h
    have hneg : ngW x = false := by
      rcases hn : ngW x with _ | _
      · rfl
      · rw [hn] at h; unfold sgI at h; simp at h; omega
    rw [hneg] at h
    have hn : (truW x : Int) = i := h
    have hn : i.toNat = truW x := by omega
    have hpos : truW x ≠ 0 := by omega
    rw [hn]
    have hf : rgW x < infB := by unfold infB; omega
    have hs := nearest_self hx hf
    rw [hneg] at hs
    have hw : pmW x * 2 ^ (peW x).toNat % 2 ^ (-peW x).toNat = 0 := by
      have := hc.2; unfold whoW at this; simpa using this
    show x = double.nearest false (truW x) 0
    by_cases hp : 0 ≤ peW x
    · have e1 : (-peW x).toNat = 0 := by omega
      have e2 : truW x = pmW x * 2 ^ (peW x).toNat := by unfold truW; rw [e1]; simp
      have hpm : pmW x ≠ 0 := fun e => hpos (by rw [e2, e, Nat.zero_mul])
      rw [e2, nearest_scale false (pmW x) (peW x).toNat (peW x) 0 hpm (by omega), hs]
    · have e1 : (peW x).toNat = 0 := by omega
      rw [e1, Nat.pow_zero, Nat.mul_one] at hw
      have e2 : truW x = pmW x / 2 ^ (-peW x).toNat := by unfold truW; rw [e1]; simp
      have e3 : pmW x = truW x * 2 ^ (-peW x).toNat := by
        rw [e2]; exact (Nat.div_mul_cancel (Nat.dvd_of_mod_eq_zero hw)).symm
      exact (hs.symm.trans (congrArg (fun m => double.nearest false m (peW x)) e3)).trans (nearest_scale false (truW x) (-peW x).toNat 0 (peW x) hpos (by omega))
  · rw [if_neg hc] at h; cases h

end Go.Proofs.Qxb6500568aGreatDoor
