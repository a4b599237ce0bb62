import Derived.Test.Qxb6500568aGreatDoorUe
namespace Go.Proofs.Qxb6500568aGreatDoor
open Ieee
set_option linter.unusedVariables false
set_option linter.unusedSimpArgs false
set_option linter.unusedSectionVars false

/-! A real table: a new key of the hash part. -/

def idxV (t : RT) (k v : PV) : RT := { t with
  ord := t.ord ++ [(k, v)]
  nums := if k.T = 2 then (fun b => if b = k.N then some t.ord.length else t.nums b) else t.nums
  strs := if k.T = 3 then (fun s => if s = k.S then some t.ord.length else t.strs s) else t.strs
  refs := if k.T = 2 ∨ k.T = 3 then t.refs else (fun u => if u = packV k then some t.ord.length else t.refs u) }
theorem TI.idx {t : RT} (h : TI t) {k v : PV} (hv : v.T ≠ 0) (hok : TOK (t.ord ++ [(k, v)])) (h2 : k.T = 2 → k = vNum k.N ∧ ∀ i, i ≤ t.arr.length → k.N ≠ fInt (i + 1)) (h3 : k.T = 3 → k = vStr k.S) (h0 : k.T ≠ 0)
    (hr : ∀ k' v' (p : Nat), t.ord[p]? = some (k', v') → k'.T ≠ 2 → k'.T ≠ 3 → k.T ≠ 2 → k.T ≠ 3 → packV k' ≠ packV k) : TI (idxV t k v) := by
  have hnew : ∀ (p : Nat) w, t.ord[p]? ≠ some (k, w) := fun p w hp => by
    have := hok.one p t.ord.length k w v ((get_snoc _ _).2 (.inl hp)) ((get_snoc _ _).2 (.inr ⟨rfl, rfl⟩))
    have := (List.getElem?_eq_some_iff.1 hp).1
    omega
  refine ⟨hok, h.alen, fun i p hp => ?_, fun p w hp => ?_, fun b p => ?_, fun s p => ?_, fun u p => ?_, ?_⟩
  · obtain ⟨w, hw⟩ := h.arrI i p hp
    exact ⟨w, (get_snoc _ _).2 (.inl hw)⟩
  · have hp : (t.ord ++ [(k, v)])[p]? = some (vNum (fInt (t.arr.length + 1)), w) := hp
    rcases (get_snoc _ _).1 hp with hp | ⟨-, e⟩
    · exact h.gap p w hp
    · injection e with e _
      have : k.T = 2 := by rw [← e]; rfl
      exact (h2 this).2 t.arr.length (Nat.le_refl _) (by rw [← e]; rfl)
  · show (if k.T = 2 then (fun b => if b = k.N then some t.ord.length else t.nums b) else t.nums) b = some p ↔ (∃ w, (t.ord ++ [(k, v)])[p]? = some (vNum b, w)) ∧ ∀ i, i < t.arr.length → b ≠ fInt (i + 1)
    by_cases hk : k.T = 2
    · rw [if_pos hk]
      show (if b = k.N then some t.ord.length else t.nums b) = some p ↔ _
      obtain ⟨e1, e2⟩ := h2 hk
      by_cases hb : b = k.N
      · rw [if_pos hb, hb, ← e1]
        constructor
        · intro e; injection e with e; subst e
          exact ⟨⟨v, (get_snoc _ _).2 (.inr ⟨rfl, rfl⟩)⟩, fun i hi => e2 i (by omega)⟩
        · rintro ⟨⟨w, hw⟩, -⟩
          rcases (get_snoc _ _).1 hw with hw | ⟨e, -⟩
          · exact absurd hw (hnew p w)
          · rw [e]
      · rw [if_neg hb, h.numI]
        constructor
        · rintro ⟨⟨w, hw⟩, q⟩; exact ⟨⟨w, (get_snoc _ _).2 (.inl hw)⟩, q⟩
        · rintro ⟨⟨w, hw⟩, q⟩
          rcases (get_snoc _ _).1 hw with hw | ⟨-, e⟩
          · exact ⟨⟨w, hw⟩, q⟩
          · injection e with e _
            rw [e1] at e
            exact absurd (vNum_inj e) hb
    · rw [if_neg hk, h.numI]
      constructor
      · rintro ⟨⟨w, hw⟩, q⟩; exact ⟨⟨w, (get_snoc _ _).2 (.inl hw)⟩, q⟩
      · rintro ⟨⟨w, hw⟩, q⟩
        rcases (get_snoc _ _).1 hw with hw | ⟨-, e⟩
        · exact ⟨⟨w, hw⟩, q⟩
        · injection e with e _
          exact absurd (by rw [← e]; rfl) hk
  · show (if k.T = 3 then (fun s => if s = k.S then some t.ord.length else t.strs s) else t.strs) s = some p ↔ ∃ w, (t.ord ++ [(k, v)])[p]? = some (vStr s, w)
    by_cases hk : k.T = 3
    · rw [if_pos hk]
      show (if s = k.S then some t.ord.length else t.strs s) = some p ↔ _
      have e1 := h3 hk
      by_cases hb : s = k.S
      · rw [if_pos hb, hb, ← e1]
        constructor
        · intro e; injection e with e; subst e
          exact ⟨v, (get_snoc _ _).2 (.inr ⟨rfl, rfl⟩)⟩
        · rintro ⟨w, hw⟩
          rcases (get_snoc _ _).1 hw with hw | ⟨e, -⟩
          · exact absurd hw (hnew p w)
          · rw [e]
      · rw [if_neg hb, h.strI]
        constructor
        · rintro ⟨w, hw⟩; exact ⟨w, (get_snoc _ _).2 (.inl hw)⟩
        · rintro ⟨w, hw⟩
          rcases (get_snoc _ _).1 hw with hw | ⟨-, e⟩
          · exact ⟨w, hw⟩
          · injection e with e _
            rw [e1] at e
            injection e with _ _ e
            exact absurd e hb
    · rw [if_neg hk, h.strI]
      constructor
      · rintro ⟨w, hw⟩; exact ⟨w, (get_snoc _ _).2 (.inl hw)⟩
      · rintro ⟨w, hw⟩
        rcases (get_snoc _ _).1 hw with hw | ⟨-, e⟩
        · exact ⟨w, hw⟩
        · injection e with e _
          exact absurd (by rw [← e]; rfl) hk
  · show (if k.T = 2 ∨ k.T = 3 then t.refs else (fun u => if u = packV k then some t.ord.length else t.refs u)) u = some p ↔ ∃ k' w, (t.ord ++ [(k, v)])[p]? = some (k', w) ∧ k'.T ≠ 0 ∧ k'.T ≠ 2 ∧ k'.T ≠ 3 ∧ packV k' = u
    by_cases hk : k.T = 2 ∨ k.T = 3
    · rw [if_pos hk, h.refI]
      constructor
      · rintro ⟨k', w, q1, q2⟩; exact ⟨k', w, (get_snoc _ _).2 (.inl q1), q2⟩
      · rintro ⟨k', w, q1, q2⟩
        rcases (get_snoc _ _).1 q1 with q1 | ⟨-, e⟩
        · exact ⟨k', w, q1, q2⟩
        · injection e with e _; subst e; omega
    · rw [if_neg hk]
      show (if u = packV k then some t.ord.length else t.refs u) = some p ↔ _
      by_cases hb : u = packV k
      · rw [if_pos hb, hb]
        constructor
        · intro e; injection e with e; subst e
          exact ⟨k, v, (get_snoc _ _).2 (.inr ⟨rfl, rfl⟩), h0, by omega, by omega, rfl⟩
        · rintro ⟨k', w, q1, q2, q3, q4, q5⟩
          rcases (get_snoc _ _).1 q1 with q1 | ⟨e, -⟩
          · exact absurd q5 (hr k' w p q1 q3 q4 (by omega) (by omega))
          · rw [e]
      · rw [if_neg hb, h.refI]
        constructor
        · rintro ⟨k', w, q1, q2⟩; exact ⟨k', w, (get_snoc _ _).2 (.inl q1), q2⟩
        · rintro ⟨k', w, q1, q2⟩
          rcases (get_snoc _ _).1 q1 with q1 | ⟨-, e⟩
          · exact ⟨k', w, q1, q2⟩
          · injection e with e _; subst e; exact absurd q2.2.2.2.symm hb
  · show t.dead = ((t.ord ++ [_]).filter _).length
    rw [List.filter_append, List.length_append, List.filter_cons_of_neg (by simp [hv]), h.deadI]; rfl

end Go.Proofs.Qxb6500568aGreatDoor
