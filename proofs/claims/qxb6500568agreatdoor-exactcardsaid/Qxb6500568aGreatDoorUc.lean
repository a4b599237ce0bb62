import Derived.Test.Qxb6500568aGreatDoorUb
namespace Go.Proofs.Qxb6500568aGreatDoor
open Ieee
set_option linter.unusedVariables false
set_option linter.unusedSimpArgs false
set_option linter.unusedSectionVars false

/-! A real table: a place's value turns. -/

theorem key_iff {t : Tb} {p : Nat} {k : PV} : (∃ v, t[p]? = some (k, v)) ↔ (t[p]?).map (·.1) = some k := by
  rcases t[p]? with _ | ⟨a, b⟩
  · simp
  · simp
theorem key_mod {t : Tb} {p q : Nat} {v : PV} : ((t.modify p fun x => (x.1, v))[q]?).map (·.1) = (t[q]?).map (·.1) := by
  rw [List.getElem?_modify]
  rcases t[q]? with _ | x
  · rfl
  · by_cases h : p = q <;> simp [h]
/-- the dead are counted as Go counts them. -/
def deadN (d : Nat) (was now : Bool) : Nat := if was = true ∧ now = false then d - 1 else if now = true ∧ was = false then d + 1 else d
theorem dead_mod : ∀ {t : Tb} {p : Nat} {x : PV × PV} {v : PV}, t[p]? = some x → ((t.modify p fun x => (x.1, v)).filter fun q => decide (q.2.T = 0)).length = deadN (t.filter fun q => decide (q.2.T = 0)).length (decide (x.2.T = 0)) (decide (v.T = 0))
  | [], p, x, v, h => by simp at h
  | y :: t, 0, x, v, h => by
    simp at h; subst h
    unfold deadN
    simp only [List.modify_zero_cons, List.filter_cons]
    by_cases h1 : y.2.T = 0 <;> by_cases h2 : v.T = 0 <;> simp [h1, h2]
  | y :: t, p + 1, x, v, h => by
    have ih := dead_mod (t := t) (p := p) (v := v) (by simpa using h)
    have hpos : x.2.T = 0 → 1 ≤ (t.filter fun q => decide (q.2.T = 0)).length := fun e => by
      have hm : x ∈ t.filter fun q => decide (q.2.T = 0) := List.mem_filter.2 ⟨List.mem_of_getElem? (by simpa using h), by simp [e]⟩
      exact List.length_pos_of_mem hm
    have e1 : ∀ l : Tb, ((y :: l).filter fun q => decide (q.2.T = 0)).length = (if y.2.T = 0 then 1 else 0) + (l.filter fun q => decide (q.2.T = 0)).length := fun l => by
      by_cases h1 : y.2.T = 0
      · rw [List.filter_cons_of_pos (by simp [h1]), if_pos h1, List.length_cons]; omega
      · rw [List.filter_cons_of_neg (by simp [h1]), if_neg h1]; omega
    rw [List.modify_succ_cons, e1, e1, ih]
    have hp' : decide (x.2.T = 0) = true → 1 ≤ (t.filter fun q => decide (q.2.T = 0)).length := fun e => hpos (by simpa using e)
    generalize (if y.2.T = 0 then 1 else 0) = c
    generalize (t.filter fun q => decide (q.2.T = 0)).length = n at *
    revert hp'
    generalize decide (x.2.T = 0) = u
    generalize decide (v.T = 0) = w
    intro hp'
    unfold deadN
    cases u <;> cases w <;> simp
    · omega
    · have := hp' rfl; omega
theorem TI.turn {t : RT} (h : TI t) {p : Nat} {x : PV × PV} {v : PV} (hx : t.ord[p]? = some x) (hok : TOK (t.ord.modify p fun x => (x.1, v))) :
    TI { t with ord := t.ord.modify p fun x => (x.1, v), dead := deadN t.dead (decide (x.2.T = 0)) (decide (v.T = 0)) } := by
  refine ⟨hok, h.alen, fun i q hq => ?_, fun q u hq => ?_, fun b q => ?_, fun s q => ?_, fun u q => ?_, ?_⟩
  · rw [key_iff]; show ((t.ord.modify p _)[q]?).map _ = _
    rw [key_mod, ← key_iff]; exact h.arrI i q hq
  · have h1 : ((t.ord.modify p fun x => (x.1, v))[q]?).map (·.1) = some (vNum (fInt (t.arr.length + 1))) := key_iff.1 ⟨u, hq⟩
    rw [key_mod, ← key_iff] at h1
    obtain ⟨w, hw⟩ := h1
    exact h.gap q w hw
  · rw [h.numI, key_iff, key_iff]
    show _ ↔ ((t.ord.modify p _)[q]?).map _ = _ ∧ _
    rw [key_mod]
  · rw [h.strI, key_iff, key_iff]
    show _ ↔ ((t.ord.modify p _)[q]?).map _ = _
    rw [key_mod]
  · rw [h.refI]
    constructor
    · rintro ⟨k, w, q1, q2⟩
      have : ((t.ord.modify p fun x => (x.1, v))[q]?).map (·.1) = some k := by rw [key_mod]; exact key_iff.1 ⟨w, q1⟩
      obtain ⟨w', hw'⟩ := key_iff.2 this
      exact ⟨k, w', hw', q2⟩
    · rintro ⟨k, w, q1, q2⟩
      have : ((t.ord.modify p fun x => (x.1, v))[q]?).map (·.1) = some k := key_iff.1 ⟨w, q1⟩
      rw [key_mod] at this
      obtain ⟨w', hw'⟩ := key_iff.2 this
      exact ⟨k, w', hw', q2⟩
  · show deadN t.dead _ _ = _
    rw [dead_mod hx, h.deadI]

end Go.Proofs.Qxb6500568aGreatDoor
