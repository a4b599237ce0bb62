import Derived.Test.Qxb6500568aGreatDoorYu
/- The interpreter: laws for step. -/
namespace Go.Proofs.Qxb6500568aGreatDoor
open Ieee
set_option linter.unusedVariables false
set_option linter.unusedSimpArgs false
set_option linter.unusedSectionVars false

theorem epo_some {β : List Nat} {e b : Nat} (h : epo β e = some ⟨b, 0, none⟩) : β[e - 1]? = some b := by
  unfold epo at h
  split at h
  · cases h
  · cases hq : β[e - 1]? with
    | none => rw [hq] at h; cases h
    | some c => rw [hq] at h; cases h; rfl
theorem ok_str {c t h : Nat} {z : Str} (hz : z.length ≤ 40) : VV c t h (vStr z) := ⟨by simp [wfV, vStr, hz], by simp [vStr], fun q => absurd q (show ¬ (3 : Nat) = 5 by decide), fun q => absurd q (show ¬ (3 : Nat) = 7 by decide), fun q => absurd q (show ¬ (3 : Nat) = 4 by decide), fun q => absurd q (show ¬ (3 : Nat) = 2 by decide)⟩
theorem evc_app {H : Array Obj} {β : List Nat} {b b' : Nat} (nm : Str) (v : PV) (h : Blk H b' [S nm, i64c v.T, u64c v.N, S v.S, ptr b] 159) : Blk H b' (evc (β ++ [b]) ⟨nm, v, β.length + 1⟩) 159 := by
  unfold evc
  rw [epo_last]
  exact h
theorem set_tcd {l : List Value} {i : Nat} {v : Value} (h : i + 1 < l.length) : l.set (0 + i + 1) v = l.take (i + 1) ++ [v] ++ l.drop (i + 1 + 1) := by
  rw [Nat.zero_add, List.set_eq_take_append_cons_drop, if_pos h]; simp
theorem mod_set {α : Type} {l : List α} {j : Nat} {f : α → α} {d : α} (h : j < l.length) : l.modify j f = l.set j (f (l.getD j d)) := by
  apply List.ext_getElem?
  intro i
  rw [List.getElem?_modify, List.getElem?_set, List.getD_eq_getElem?_getD]
  by_cases e : j = i
  · subst e
    rw [if_pos rfl, if_pos h, List.getElem?_eq_getElem h]
    simp
  · rw [if_neg e]
    cases l[i]? <;> simp [e]
theorem burn_if {S X : IS} (hd : S.done = false) : (if (iburn S).done = true then iburn S else X) = if S.fuel = 0 then iburn S else X := by
  by_cases h : S.fuel = 0
  · rw [if_pos h]
    unfold iburn
    rw [if_pos h]
    exact if_pos rfl
  · rw [if_neg h]
    refine if_neg ?_
    unfold iburn
    rw [if_neg h]
    show ¬ S.done = true
    rw [hd]; decide
section
variable {G : Arena} {root : Nat} {np : Value} {tb rb : Nat} {nv : Value} {w w' : World} {ow : Nat → Nat} {β τ : List Nat} {m : Nat} {s : IS}
theorem RM.mem_e (_ : RM G root np tb rb nv w ow β τ m s) {b k : Nat} (ht : ow b = 1000 + k) : tg ow cmT b := by show cmT (ow b); rw [ht]; unfold cmT; omega
theorem RM.mem_v (h : RM G root np tb rb nv w ow β τ m s) {b : Nat} (ht : ow b = 85 + s.cur) : tg ow cmT b := by
  have := h.cl; have := h.t5
  show cmT (ow b); rw [ht]; unfold cmT; omega
theorem ThV.vals {i b : Nat} {x : ITh} {tv vv : Value} (h : ThV w ow i β x b tv vv) (h0 : 0 < x.vals.length) : ∃ g cap l, vv = .slice (some ⟨g, 0, none⟩) x.vals.length cap ∧ Blk w.heap g l 119 ∧ x.vals.length ≤ cap ∧ ow g = 85 + i ∧ l.length = cap * 3 ∧ ∀ j, j < x.vals.length → (l.drop (0 + (x.vals.length - 1 - j) * 3)).take 3 = pvc (x.vals.getD j vNil) := by
  have hj : ∀ j, j < x.vals.length → x.vals[j]? = some (x.vals.getD j vNil) := fun j hj => by rw [List.getD_eq_getElem?_getD, List.getElem?_eq_getElem hj]; rfl
  obtain ⟨g, cap, l, h1, h2, h3, h4, h5, h6⟩ := h.vs.atR pvc_len (hj 0 h0)
  refine ⟨g, cap, l, h1, h2, h3, h5, h4, fun j hjl => ?_⟩
  obtain ⟨g', cap', l', e1, e2, e3, e4, e5, e6⟩ := h.vs.atR pvc_len (hj j hjl)
  rw [h1] at e1
  cases e1
  obtain ⟨rfl, -⟩ := Blk.uniq e2 h2
  exact e6
end

end Go.Proofs.Qxb6500568aGreatDoor
