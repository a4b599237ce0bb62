import Derived.Test.Qxb6500568aGreatDoorSm
namespace Go.Proofs.Qxb6500568aGreatDoor
open Ieee
set_option linter.unusedVariables false
set_option linter.unusedSimpArgs false
set_option linter.unusedSectionVars false

/-! The grammar without fuel; climbing goes rank by rank. -/

abbrev PO := (Nat × Nat) ⊕ (Tr × PS)
def Run (m lv r n : Nat) (x : Tr) (s : PS) (o : PO) : Prop := ∃ f, parP f m lv r n x s = some o
theorem Run.uniq {m lv r n : Nat} {x : Tr} {s : PS} {o o' : PO} (h : Run m lv r n x s o) (k : Run m lv r n x s o') : o = o' := by
  obtain ⟨f, h⟩ := h
  obtain ⟨g, k⟩ := k
  have h := par_mono (Nat.le_max_left f g) m lv r n x s o h
  have k := par_mono (Nat.le_max_right f g) m lv r n x s o' k
  rw [h] at k
  injection k
theorem Run.total (m lv r n : Nat) (x : Tr) (s : PS) (h5 : m = 5 → r ≠ 0) (h9 : m = 9 → 1 ≤ s.len) : ∃ o, Run m lv r n x s o := by
  have := tot_all (5 * s.len + wM m) m lv r n x s h5 h9 (Nat.le_refl _)
  rcases this with ⟨e, h⟩ | ⟨t, s', h, -⟩
  · exact ⟨_, _, h⟩
  · exact ⟨_, _, h⟩
/-- a run of a bind. -/
theorem run_bd {o : Nat → PR} {k : Nat → Tr → PS → PR} {res : PO} (mo : ∀ f g, f ≤ g → LeP (o f) (o g)) (mk : ∀ f g t s, f ≤ g → LeP (k f t s) (k g t s)) :
    (∃ f, bdP (o f) (k f) = some res) ↔ (∃ e, (∃ f, o f = some (.inl e)) ∧ res = .inl e) ∨ ∃ t s, (∃ f, o f = some (.inr (t, s))) ∧ ∃ f, k f t s = some res := by
  constructor
  · rintro ⟨f, h⟩
    rcases hq : o f with _ | e | ⟨t, s⟩
    · rw [hq] at h; cases h
    · rw [hq] at h; injection h with h; exact .inl ⟨e, ⟨f, hq⟩, h.symm⟩
    · rw [hq] at h; exact .inr ⟨t, s, ⟨f, hq⟩, f, h⟩
  · rintro (⟨e, ⟨f, h⟩, rfl⟩ | ⟨t, s, ⟨f, h⟩, g, h2⟩)
    · exact ⟨f, by rw [h]; rfl⟩
    · refine ⟨max f g, ?_⟩
      rw [mo f _ (Nat.le_max_left _ _) _ h]
      exact mk g _ t s (Nat.le_max_right _ _) _ h2
section
variable {lv r n : Nat} {x : Tr} {s : PS}
theorem run_step {m : Nat} {o : PO} : Run m lv r n x s o ↔ ∃ f, stepP (parP f) m lv r n x s = some o := by
  constructor
  · rintro ⟨_ | f, h⟩
    · cases h
    · exact ⟨f, h⟩
  · rintro ⟨f, h⟩
    exact ⟨f + 1, h⟩
/-- the operand behind an operator. -/
def RunY (lv : Nat) (s : PS) (o : PO) : Prop := if rankK s.k = 4 then Run 0 (lv + 1) 4 0 dumT s.adv o else Run 0 lv (rankK s.k + 1) 0 dumT s.adv o
theorem run_climb {o : PO} : Run 1 lv r n x s o ↔ if isBin s.k = true ∧ r ≤ rankK s.k then (∃ e, RunY lv s (.inl e) ∧ o = .inl e) ∨ (∃ y s', RunY lv s (.inr (y, s')) ∧ Run 1 lv r 0 (binT s.k x y) s' o) else o = .inr (x, s) := by
  rw [run_step]
  show (∃ f, pClimb (parP f) lv r x s = some o) ↔ _
  unfold pClimb
  by_cases h : isBin s.k = true ∧ r ≤ rankK s.k
  · simp only [if_pos h]
    have e : ∀ q : PO, RunY lv s q ↔ ∃ f, (if rankK s.k = 4 then parP f 0 (lv + 1) 4 0 dumT s.adv else parP f 0 lv (rankK s.k + 1) 0 dumT s.adv) = some q := fun q => by
      unfold RunY Run
      by_cases h4 : rankK s.k = 4
      · simp only [if_pos h4]
      · simp only [if_neg h4]
    rw [run_bd (o := fun f => if rankK s.k = 4 then parP f 0 (lv + 1) 4 0 dumT s.adv else parP f 0 lv (rankK s.k + 1) 0 dumT s.adv) (k := fun f y s' => parP f 1 lv r 0 (binT s.k x y) s')
      (fun f g hfg => LeP.ite (fun _ => par_mono hfg _ _ _ _ _ _) fun _ => par_mono hfg _ _ _ _ _ _) (fun f g t s' hfg => par_mono hfg _ _ _ _ _ _)]
    simp only [e]
    rfl
  · simp only [if_neg h]
    constructor
    · rintro ⟨f, h⟩
      unfold okP at h
      injection h with h
      exact h.symm
    · rintro rfl
      exact ⟨0, rfl⟩
/-- behind a climb no operator of its rank is left. -/
theorem climb_end : ∀ (f : Nat) {lv r n : Nat} {x : Tr} {s : PS} {t : Tr} {s' : PS}, parP f 1 lv r n x s = some (.inr (t, s')) → ¬ (isBin s'.k = true ∧ r ≤ rankK s'.k)
  | 0, lv, r, n, x, s, t, s', h => by cases h
  | f + 1, lv, r, n, x, s, t, s', h => by
    have h : pClimb (parP f) lv r x s = some (.inr (t, s')) := h
    unfold pClimb at h
    by_cases hc : isBin s.k = true ∧ r ≤ rankK s.k
    · rw [if_pos hc] at h
      rcases hq : (if rankK s.k = 4 then parP f 0 (lv + 1) 4 0 dumT s.adv else parP f 0 lv (rankK s.k + 1) 0 dumT s.adv) with _ | e | ⟨y, s1⟩
      · rw [hq] at h; cases h
      · rw [hq] at h; injection h with h; cases h
      · rw [hq] at h; exact climb_end f h
    · rw [if_neg hc] at h
      unfold okP at h
      injection h with h; injection h with h; injection h with h1 h2
      subst h2; exact hc
/-- a climb of rank r is a climb of rank r + 1 and then one of rank r. -/
theorem climb_comp : ∀ (f : Nat) {lv r n : Nat} {x : Tr} {s : PS} {o : PO}, parP f 1 lv (r + 1) n x s = some o → (∀ e, o = .inl e → Run 1 lv r n x s (.inl e)) ∧ ∀ y s' res, o = .inr (y, s') → Run 1 lv r 0 y s' res → Run 1 lv r n x s res
  | 0, lv, r, n, x, s, o, h => by cases h
  | f + 1, lv, r, n, x, s, o, h => by
    have h' : Run 1 lv (r + 1) n x s o := ⟨f + 1, h⟩
    have h : pClimb (parP f) lv (r + 1) x s = some o := h
    unfold pClimb at h
    by_cases hc : isBin s.k = true ∧ r + 1 ≤ rankK s.k
    · have hc' : isBin s.k = true ∧ r ≤ rankK s.k := ⟨hc.1, by omega⟩
      rw [if_pos hc] at h
      have hY : ∀ q, (if rankK s.k = 4 then parP f 0 (lv + 1) 4 0 dumT s.adv else parP f 0 lv (rankK s.k + 1) 0 dumT s.adv) = some q → RunY lv s q := fun q hq => by
        unfold RunY
        by_cases h4 : rankK s.k = 4
        · rw [if_pos h4] at hq ⊢; exact ⟨f, hq⟩
        · rw [if_neg h4] at hq ⊢; exact ⟨f, hq⟩
      rcases hq : (if rankK s.k = 4 then parP f 0 (lv + 1) 4 0 dumT s.adv else parP f 0 lv (rankK s.k + 1) 0 dumT s.adv) with _ | e | ⟨y1, s1⟩
      · rw [hq] at h; cases h
      · rw [hq] at h
        injection h with h
        subst h
        refine ⟨fun e' he => ?_, fun y s' res he => by cases he⟩
        injection he with he; subst he
        rw [run_climb, if_pos hc']
        exact .inl ⟨e, hY _ hq, rfl⟩
      · rw [hq] at h
        obtain ⟨g1, g2⟩ := climb_comp f (n := 0) h
        refine ⟨fun e' he => ?_, fun y s' res he hr => ?_⟩
        · rw [run_climb, if_pos hc']
          exact .inr ⟨y1, s1, hY _ hq, g1 e' he⟩
        · rw [run_climb, if_pos hc']
          exact .inr ⟨y1, s1, hY _ hq, g2 y s' res he hr⟩
    · rw [if_neg hc] at h
      unfold okP at h
      injection h with h
      subst h
      refine ⟨fun e he => (by cases he), fun y s' res he hr => ?_⟩
      injection he with he; injection he with h1 h2
      subst h1; subst h2
      rw [run_climb] at hr ⊢
      exact hr
end

end Go.Proofs.Qxb6500568aGreatDoor
