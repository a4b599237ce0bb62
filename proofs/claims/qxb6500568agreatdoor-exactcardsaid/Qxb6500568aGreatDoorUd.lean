import Derived.Test.Qxb6500568aGreatDoorUc
namespace Go.Proofs.Qxb6500568aGreatDoor
open Ieee
set_option linter.unusedVariables false
set_option linter.unusedSimpArgs false
set_option linter.unusedSectionVars false

/-! A real table: a new place. -/

/-- the invariant but for the gap: what the move from map to array part keeps. -/
structure TJ (t : RT) : Prop where
  ok : TOK t.ord
  alen : t.arr.length ≤ 32
  arrI : ∀ (i p : Nat), t.arr[i]? = some p → ∃ v, t.ord[p]? = some (vNum (fInt (i + 1)), v)
  numI : ∀ b p, t.nums b = some p ↔ (∃ v, t.ord[p]? = some (vNum b, v)) ∧ ∀ i, i < t.arr.length → b ≠ fInt (i + 1)
  strI : ∀ s p, t.strs s = some p ↔ ∃ v, t.ord[p]? = some (vStr s, v)
  refI : ∀ u p, t.refs u = some p ↔ ∃ k v, t.ord[p]? = some (k, v) ∧ k.T ≠ 0 ∧ k.T ≠ 2 ∧ k.T ≠ 3 ∧ packV k = u
  deadI : t.dead = (t.ord.filter fun q => decide (q.2.T = 0)).length
theorem TI.tj {t : RT} (h : TI t) : TJ t := ⟨h.ok, h.alen, h.arrI, h.numI, h.strI, h.refI, h.deadI⟩
theorem TJ.ti {t : RT} (h : TJ t) (g : ∀ (p : Nat) v, t.ord[p]? ≠ some (vNum (fInt (t.arr.length + 1)), v)) : TI t := ⟨h.ok, h.alen, h.arrI, g, h.numI, h.strI, h.refI, h.deadI⟩
theorem get_snoc {t : Tb} {k v : PV} (p : Nat) (q : PV × PV) : (t ++ [(k, v)])[p]? = some q ↔ t[p]? = some q ∨ (p = t.length ∧ q = (k, v)) := by
  by_cases h : p < t.length
  · rw [List.getElem?_append_left h]
    exact ⟨.inl, fun e => e.elim id fun e => absurd e.1 (by omega)⟩
  · rw [List.getElem?_append_right (by omega), List.getElem?_eq_none (l := t) (by omega)]
    rcases hd : p - t.length with _ | d
    · have : p = t.length := by omega
      simp [this, eq_comm]
    · have : ¬ p = t.length := by omega
      simp [this]
/-- the key's whole number goes on with the array part. -/
def arrV (t : RT) (k v : PV) : RT := { t with ord := t.ord ++ [(k, v)], arr := t.arr ++ [t.ord.length] }
theorem TI.arr {t : RT} (h : TI t) {v : PV} (hv : v.T ≠ 0) (hok : TOK (t.ord ++ [(vNum (fInt (t.arr.length + 1)), v)])) (hl : t.arr.length < 32) : TJ (arrV t (vNum (fInt (t.arr.length + 1))) v) := by
  have hal := h.alen
  refine ⟨hok, by show (t.arr ++ [_]).length ≤ 32; simp; omega, fun i p hp => ?_, fun b p => ?_, fun s p => ?_, fun u p => ?_, ?_⟩
  · have hp : (t.arr ++ [t.ord.length])[i]? = some p := hp
    show ∃ w, (t.ord ++ [(vNum (fInt (t.arr.length + 1)), v)])[p]? = some (vNum (fInt (i + 1)), w)
    by_cases hi : i < t.arr.length
    · rw [List.getElem?_append_left hi] at hp
      obtain ⟨w, hw⟩ := h.arrI i p hp
      exact ⟨w, (get_snoc _ _).2 (.inl hw)⟩
    · rw [List.getElem?_append_right (by omega)] at hp
      rcases hd : i - t.arr.length with _ | d
      · rw [hd] at hp; simp at hp; subst hp
        exact ⟨v, (get_snoc _ _).2 (.inr ⟨rfl, by rw [show i = t.arr.length by omega]⟩)⟩
      · rw [hd] at hp; simp at hp
  · show t.nums b = some p ↔ (∃ w, (t.ord ++ [(vNum (fInt (t.arr.length + 1)), v)])[p]? = some (vNum b, w)) ∧ ∀ i, i < (t.arr ++ [t.ord.length]).length → b ≠ fInt (i + 1)
    rw [h.numI]
    constructor
    · rintro ⟨⟨w, hw⟩, h2⟩
      refine ⟨⟨w, (get_snoc _ _).2 (.inl hw)⟩, fun i hi => ?_⟩
      by_cases hi' : i < t.arr.length
      · exact h2 i hi'
      · have : i = t.arr.length := by simp at hi; omega
        rw [this]
        intro e
        exact h.gap p w (e ▸ hw)
    · rintro ⟨⟨w, hw⟩, h2⟩
      rcases (get_snoc _ _).1 hw with hw | ⟨rfl, e⟩
      · exact ⟨⟨w, hw⟩, fun i hi => h2 i (by simp; omega)⟩
      · injection e with e _
        exact absurd (vNum_inj e) (h2 t.arr.length (by simp))
  · show t.strs s = some p ↔ ∃ w, (t.ord ++ [(vNum (fInt (t.arr.length + 1)), v)])[p]? = some (vStr s, w)
    rw [h.strI]
    constructor
    · rintro ⟨w, hw⟩; exact ⟨w, (get_snoc _ _).2 (.inl hw)⟩
    · rintro ⟨w, hw⟩
      rcases (get_snoc _ _).1 hw with hw | ⟨rfl, e⟩
      · exact ⟨w, hw⟩
      · injection e with e _; cases e
  · show t.refs u = some p ↔ ∃ k w, (t.ord ++ [(vNum (fInt (t.arr.length + 1)), v)])[p]? = some (k, w) ∧ k.T ≠ 0 ∧ k.T ≠ 2 ∧ k.T ≠ 3 ∧ packV k = u
    rw [h.refI]
    constructor
    · rintro ⟨k, w, q1, q2⟩; exact ⟨k, w, (get_snoc _ _).2 (.inl q1), q2⟩
    · rintro ⟨k, w, q1, q2⟩
      rcases (get_snoc _ _).1 q1 with q1 | ⟨rfl, e⟩
      · exact ⟨k, w, q1, q2⟩
      · injection e with e _; subst e; exact absurd rfl q2.2.1
  · show t.dead = ((t.ord ++ [_]).filter _).length
    rw [List.filter_append, List.length_append, List.filter_cons_of_neg (by simp [hv]), h.deadI]; rfl

end Go.Proofs.Qxb6500568aGreatDoor
