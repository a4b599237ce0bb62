import Derived.Test.Qxb6500568aGreatDoorUd
namespace Go.Proofs.Qxb6500568aGreatDoor
open Ieee
set_option linter.unusedVariables false
set_option linter.unusedSimpArgs false
set_option linter.unusedSectionVars false

/-! A real table: keys move from the map into the array part. -/

/-- one key moves. -/
def migV (t : RT) (p : Nat) : RT := { t with arr := t.arr ++ [p], nums := fun b => if b = fInt (t.arr.length + 1) then none else t.nums b }
theorem TJ.mig {t : RT} (h : TJ t) {p : Nat} (hp : t.nums (fInt (t.arr.length + 1)) = some p) (hl : t.arr.length < 32) : TJ (migV t p) := by
  obtain ⟨⟨v0, hv0⟩, hno⟩ := (h.numI _ _).1 hp
  refine ⟨h.ok, by show (t.arr ++ [p]).length ≤ 32; simp; omega, fun i q hq => ?_, fun b q => ?_, h.strI, h.refI, h.deadI⟩
  · have hq : (t.arr ++ [p])[i]? = some q := hq
    show ∃ w, t.ord[q]? = some (vNum (fInt (i + 1)), w)
    by_cases hi : i < t.arr.length
    · rw [List.getElem?_append_left hi] at hq
      exact h.arrI i q hq
    · rw [List.getElem?_append_right (by omega)] at hq
      rcases hd : i - t.arr.length with _ | d
      · rw [hd] at hq; simp at hq; subst hq
        exact ⟨v0, by rw [show i = t.arr.length by omega]; exact hv0⟩
      · rw [hd] at hq; simp at hq
  · show (if b = fInt (t.arr.length + 1) then none else t.nums b) = some q ↔ (∃ w, t.ord[q]? = some (vNum b, w)) ∧ ∀ i, i < (t.arr ++ [p]).length → b ≠ fInt (i + 1)
    by_cases hb : b = fInt (t.arr.length + 1)
    · rw [if_pos hb]
      constructor
      · intro e; cases e
      · rintro ⟨-, h2⟩
        exact absurd hb (h2 t.arr.length (by simp))
    · rw [if_neg hb, h.numI]
      constructor
      · rintro ⟨h1, h2⟩
        refine ⟨h1, fun i hi => ?_⟩
        by_cases hi' : i < t.arr.length
        · exact h2 i hi'
        · rw [show i = t.arr.length by simp at hi; omega]; exact hb
      · rintro ⟨h1, h2⟩
        exact ⟨h1, fun i hi => h2 i (by simp; omega)⟩
/-- no key is left to move: the gap. -/
theorem TJ.end {t : RT} (h : TJ t) (hn : t.arr.length < 32 → t.nums (fInt (t.arr.length + 1)) = none) : TI t := by
  refine h.ti fun p v hv => ?_
  have hal := h.alen
  have hdis : ∀ i, i < t.arr.length → fInt (t.arr.length + 1) ≠ fInt (i + 1) := fun i hi e => by
    have := fInt_small (t.arr.length + 1) (by omega) (i + 1) (by omega) e
    omega
  by_cases hl : t.arr.length < 32
  · have := (h.numI (fInt (t.arr.length + 1)) p).2 ⟨⟨v, hv⟩, hdis⟩
    rw [hn hl] at this
    cases this
  · have hlen := h.ok.len
    have hlt : ∀ q ∈ p :: t.arr, q < 32 := fun q hq => by
      rcases List.mem_cons.1 hq with rfl | hq
      · have := (List.getElem?_eq_some_iff.1 hv).1; omega
      · obtain ⟨i, hi, e⟩ := List.getElem_of_mem hq
        obtain ⟨w, hw⟩ := h.arrI i q (by rw [List.getElem?_eq_getElem hi, e])
        have := (List.getElem?_eq_some_iff.1 hw).1; omega
    have hnd : (p :: t.arr).Nodup := by
      rw [List.nodup_cons]
      refine ⟨fun hq => ?_, ?_⟩
      · obtain ⟨i, hi, e⟩ := List.getElem_of_mem hq
        obtain ⟨w, hw⟩ := h.arrI i p (by rw [List.getElem?_eq_getElem hi, e])
        rw [hv] at hw
        injection hw with hw; injection hw with hw _
        exact hdis i hi (vNum_inj hw)
      · rw [List.nodup_iff_pairwise_ne, List.pairwise_iff_getElem]
        intro i j hi hj hij e
        obtain ⟨w, hw⟩ := h.arrI i _ (List.getElem?_eq_getElem hi)
        obtain ⟨w', hw'⟩ := h.arrI j _ (List.getElem?_eq_getElem hj)
        rw [e, hw'] at hw
        injection hw with hw; injection hw with hw _
        have := fInt_small (j + 1) (by omega) (i + 1) (by omega) (vNum_inj hw)
        omega
    have := nodup_lt hnd hlt
    simp at this
    omega

end Go.Proofs.Qxb6500568aGreatDoor
