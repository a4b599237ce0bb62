import Derived.Test.Qxb6500568aGreatDoorQwa
import Derived.Test.Qxb6500568aGreatDoorQt
import Derived.Test.Qxb6500568aGreatDoorJl
/- A run's end, and its program. -/
namespace Go.Proofs.Qxb6500568aGreatDoor
open Ieee
set_option linter.unusedVariables false
set_option linter.unusedSimpArgs false
set_option linter.unusedSectionVars false

section
variable {s : Str} {t : Tr} {k : Nat}
theorem prog_all (h : prsV s = .inr (t, k)) : 1 ≤ (progF t (k + 1)).length ∧ (progF t (k + 1)).length ≤ 13 ∧ (∀ j, FOK (fsAt (progF t (k + 1)) j)) ∧ (img (progF t (k + 1))).length ≤ 32768 ∧ (fsAt (progF t (k + 1)) 0).np = 0 ∧ (fsAt (progF t (k + 1)) 0).ups = [] := by
  obtain ⟨hTO, h300⟩ := prsV_ok h
  have h12 := hTO.k12
  obtain ⟨hb1, hb2, hb3, hb4, hb5⟩ := prog_bd (arena_is hTO) hTO.w (by rw [nums0 hTO]; exact List.nodup_range') (n := k + 1) (fun j hj => by rw [nums0 hTO, List.mem_range'_1] at hj; omega) (by omega) h300
  exact ⟨by omega, by omega, hb1, by rw [img_len, hb3]; omega, hb5, hb4⟩
theorem run_ends (h : prsV s = .inr (t, k)) (fuel : Nat) : ∃ n b, GoN (Psf (progF t (k + 1))) n (astart (Psf (progF t (k + 1))) fuel) b ∧ b.done = true ∧ IAns (arena t) (rt t 1) fuel b.ans := by
  obtain ⟨hTO, h300⟩ := prsV_ok h
  obtain ⟨N, b, hg, hN, hb, he⟩ := text_ends hTO (arena_ok hTO) (arena_is hTO) rfl fuel
  obtain ⟨n, hn⟩ := hg.toN
  exact ⟨n, b, hn, hb, N, hN, he⟩
theorem ians_T (h : prsV s = .inr (t, k)) {fuel : Nat} {A : Ans} (hA : IAns (arena t) (rt t 1) fuel A) : A.T ≠ [] := by
  obtain ⟨n, b, hg, hb, hi⟩ := run_ends h fuel
  rw [hA.uniq hi]
  refine (D1.goN ?_ hg).d hb
  exact ⟨fun q => by cases q⟩
end
end Go.Proofs.Qxb6500568aGreatDoor
