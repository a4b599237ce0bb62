import Derived.Test.Qxb6500567aGreatPh
/- The sizes of core forms, plain. -/
namespace Go.Proofs.Qxb6500567aGreat
set_option linter.unusedVariables false
set_option linter.unusedSimpArgs false

/-- The size of a core form, never told above 32. -/
def zs (r : RE) : Nat := min (nds (child r)) 32

def catM (sa za sb zb : Nat) : Nat × Nat := if sa = 1 ∨ sb = 1 then (1, 1) else if sa = 0 then (sb, zb) else if sb = 0 then (2, za) else (2, min (za + zb + 1) 32)
def altM (sa za sb zb : Nat) : Nat × Nat := if sa = 1 then (sb, zb) else if sb = 1 then (sa, za) else if sa = 0 ∧ sb = 0 then (0, 1) else (2, min (za + zb + 1) 32)
def grpM (sa za : Nat) : Nat × Nat := if sa = 1 then (1, 1) else (2, min (za + 1) 32)

/-- The turns that must be. -/
def sumM (c mn : Nat) : Nat := if 0 < mn then mn * c + mn - 1 else 0
/-- The turns that may be. -/
def tailM (c mn : Nat) : Option Nat → Nat
  | none => c + 1
  | some m => if mn < m then (m - mn) * (c + 3) - 1 else 0
def repM (sa za mn : Nat) (mx : Option Nat) : Nat × Nat := if sa = 1 ∧ 0 < mn then (1, 1) else if sa ≠ 2 ∨ mx = some 0 then (0, 1) else
  (2, min ((if 0 < sumM za mn ∧ 0 < tailM za mn mx then sumM za mn + 1 else sumM za mn) + tailM za mn mx) 32)

theorem child2 {r : RE} (h : shp r = 2) : child r = core r := by unfold child; rw [if_neg (by omega), if_neg (by omega)]
theorem child0 {r : RE} (h : shp r = 0) : child r = .emp := by unfold child; rw [if_pos h]
theorem child1 {r : RE} (h : shp r = 1) : child r = .set 0 := by unfold child; rw [if_neg (by omega), if_pos h]
theorem zs2 {r : RE} (h : shp r = 2) : zs r = min (nds (core r)) 32 := by unfold zs; rw [child2 h]
theorem zs0 {r : RE} (h : shp r ≠ 2) : zs r = 1 := by
  unfold zs
  rcases shp_cases r with h1 | h1 | h1
  · rw [child0 h1]; rfl
  · rw [child1 h1]; rfl
  · exact absurd h1 h

theorem nds_cat (a b : RE) : nds (.cat a b) = nds a + nds b + 1 := rfl
theorem nds_alt (a b : RE) : nds (.alt a b) = nds a + nds b + 1 := rfl
theorem nds_grp (a : RE) (g : Nat) : nds (.grp a g) = nds a + 1 := rfl
theorem nds_rep (a : RE) (mn : Nat) (mx : Option Nat) (lz : Bool) : nds (.rep a mn mx lz) = nds a + 1 := rfl
theorem nds_emp : nds .emp = 1 := rfl
theorem nds_set (S : Nat) : nds (.set S) = 1 := rfl

theorem core_cat (a b : RE) : core (.cat a b) = if shp a = 0 then core b else if shp b = 0 then core a else .cat (core a) (core b) := rfl
theorem core_alt (a b : RE) : core (.alt a b) = if shp a = 1 then core b else if shp b = 1 then core a else .alt (child a) (child b) := rfl
theorem core_grp (a : RE) (g : Nat) : core (.grp a g) = .grp (child a) g := rfl
theorem core_rep (a : RE) (mn : Nat) (mx : Option Nat) (lz : Bool) : core (.rep a mn mx lz) = unr (core a) mn mx lz := by
  show unr (core a) (rmn _) (rmx _) (rlz _) = _
  rw [rmn_mk, rmx_mk, rlz_mk]
theorem shp_cat (a b : RE) : shp (.cat a b) = if shp a = 1 ∨ shp b = 1 then 1 else if shp a = 0 ∧ shp b = 0 then 0 else 2 := rfl
theorem shp_alt (a b : RE) : shp (.alt a b) = if shp a = 1 then shp b else if shp b = 1 ∨ (shp a = 0 ∧ shp b = 0) then shp a else 2 := rfl
theorem shp_grp (a : RE) (g : Nat) : shp (.grp a g) = if shp a = 1 then 1 else 2 := rfl
theorem shp_rep (a : RE) (mn : Nat) (mx : Option Nat) (lz : Bool) : shp (.rep a mn mx lz) = if shp a = 1 ∧ 0 < mn then 1 else if shp a ≠ 2 ∨ mx = some 0 then 0 else 2 := by
  show (if shp a = 1 ∧ 0 < rmn _ then 1 else if shp a ≠ 2 ∨ rmx _ = some 0 then 0 else 2) = _
  rw [rmn_mk, rmx_mk]

theorem catM_ok (a b : RE) : (catM (shp a) (zs a) (shp b) (zs b)).1 = shp (.cat a b) ∧ (shp (.cat a b) = 2 → (catM (shp a) (zs a) (shp b) (zs b)).2 = zs (.cat a b)) := by
  have ha := shp_cases a
  have hb := shp_cases b
  unfold catM
  rw [shp_cat]
  by_cases h1 : shp a = 1 ∨ shp b = 1
  · simp [h1]
  · rw [if_neg h1, if_neg h1]
    by_cases h2 : shp a = 0
    · rw [if_pos h2]
      refine ⟨?_, ?_⟩
      · by_cases h3 : shp b = 0
        · simp [h2, h3]
        · simp [h3]; omega
      · intro h
        have hb2 : shp b = 2 := by
          by_cases h3 : shp b = 0
          · simp [h2, h3] at h
          · omega
        rw [zs2 hb2, zs2 (by rw [shp_cat, if_neg h1, if_neg (by omega)]), core_cat, if_pos h2]
    · rw [if_neg h2]
      have ha2 : shp a = 2 := by omega
      by_cases h3 : shp b = 0
      · rw [if_pos h3]
        refine ⟨by simp [h2], fun _ => ?_⟩
        rw [zs2 ha2, zs2 (by rw [shp_cat, if_neg h1, if_neg (by omega)]), core_cat, if_neg h2, if_pos h3]
      · rw [if_neg h3]
        have hb2 : shp b = 2 := by omega
        refine ⟨by simp [h2], fun _ => ?_⟩
        rw [zs2 ha2, zs2 hb2, zs2 (by rw [shp_cat, if_neg h1, if_neg (by omega)]), core_cat, if_neg h2, if_neg h3, nds_cat]
        omega

theorem altM_ok (a b : RE) : (altM (shp a) (zs a) (shp b) (zs b)).1 = shp (.alt a b) ∧ (shp (.alt a b) = 2 → (altM (shp a) (zs a) (shp b) (zs b)).2 = zs (.alt a b)) := by
  have ha := shp_cases a
  have hb := shp_cases b
  have hs := shp_alt a b
  have hcc := core_alt a b
  unfold altM
  by_cases h1 : shp a = 1
  · rw [if_pos h1]
    rw [if_pos h1] at hs hcc
    refine ⟨hs.symm, fun h => ?_⟩
    rw [zs2 (by rw [hs] at h; exact h), zs2 h, hcc]
  · rw [if_neg h1]
    rw [if_neg h1] at hs hcc
    by_cases h2 : shp b = 1
    · rw [if_pos h2]
      rw [if_pos (.inl h2)] at hs
      rw [if_pos h2] at hcc
      refine ⟨hs.symm, fun h => ?_⟩
      rw [zs2 (by rw [hs] at h; exact h), zs2 h, hcc]
    · rw [if_neg h2]
      rw [if_neg h2] at hcc
      by_cases h3 : shp a = 0 ∧ shp b = 0
      · rw [if_pos h3]
        rw [if_pos (.inr h3)] at hs
        exact ⟨by rw [hs]; exact h3.1.symm, fun h => by omega⟩
      · rw [if_neg h3]
        rw [if_neg (by omega)] at hs
        refine ⟨hs.symm, fun h => ?_⟩
        rw [zs2 h, hcc, nds_alt]
        unfold zs
        omega

theorem grpM_ok (a : RE) (g : Nat) : (grpM (shp a) (zs a)).1 = shp (.grp a g) ∧ (shp (.grp a g) = 2 → (grpM (shp a) (zs a)).2 = zs (.grp a g)) := by
  have hs := shp_grp a g
  unfold grpM
  by_cases h1 : shp a = 1
  · rw [if_pos h1]
    rw [if_pos h1] at hs
    exact ⟨hs.symm, fun h => by omega⟩
  · rw [if_neg h1]
    rw [if_neg h1] at hs
    refine ⟨hs.symm, fun h => ?_⟩
    rw [zs2 h, core_grp, nds_grp]
    unfold zs
    omega

theorem nds_chn (x : RE) : ∀ k, nds (chn x k) = (k + 1) * nds x + k
  | 0 => by simp [chn]
  | k + 1 => by
    rw [chn, nds_cat, nds_chn x k, Nat.add_mul (k + 1) 1]
    omega

theorem nds_optn (x : RE) (lz : Bool) : ∀ k, nds (optn x lz (k + 1)) + 1 = (k + 1) * (nds x + 3)
  | 0 => by cases lz <;> simp [optn, nds_alt, nds_emp] <;> omega
  | k + 1 => by
    have ih := nds_optn x lz k
    rw [Nat.add_mul (k + 1) 1]
    cases lz
    · rw [optn]
      simp only [Bool.false_eq_true, if_false, Nat.succ_ne_zero, nds_alt, nds_cat, nds_emp]
      omega
    · rw [optn]
      simp only [if_true, if_false, Nat.succ_ne_zero, nds_alt, nds_cat, nds_emp]
      omega

/-- The size of an unrolled repeat. -/
theorem nds_unr (x : RE) (mn : Nat) (mx : Option Nat) (lz : Bool) (h : mx ≠ some 0) (hm : ∀ m, mx = some m → mn ≤ m) : nds (unr x mn mx lz) = (if 0 < sumM (nds x) mn ∧ 0 < tailM (nds x) mn mx then sumM (nds x) mn + 1 else sumM (nds x) mn) + tailM (nds x) mn mx := by
  have hp := nds_pos x
  have htail : ∀ t, tailR x mn mx lz = some t → nds t = tailM (nds x) mn mx ∧ 0 < tailM (nds x) mn mx := by
    intro t ht
    unfold tailR at ht
    cases mx with
    | none => cases ht; rw [nds_rep]; exact ⟨rfl, by simp [tailM]⟩
    | some m =>
      simp only at ht
      split at ht
      · rename_i hlt
        cases ht
        obtain ⟨k, hk⟩ : ∃ k, m - mn = k + 1 := ⟨m - mn - 1, by omega⟩
        have h1 := nds_optn x lz k
        simp only [tailM, if_pos hlt, hk]
        refine ⟨by omega, ?_⟩
        have : 1 * (nds x + 3) ≤ (k + 1) * (nds x + 3) := Nat.mul_le_mul_right _ (by omega)
        omega
      · cases ht
  have htn : tailR x mn mx lz = none → tailM (nds x) mn mx = 0 := by
    intro ht
    unfold tailR at ht
    cases mx with
    | none => cases ht
    | some m =>
      simp only at ht
      split at ht
      · cases ht
      · rename_i hlt; simp [tailM, hlt]
  unfold unr
  cases mn with
  | zero =>
    cases ht : tailR x 0 mx lz with
    | none =>
      have h0 := htn ht
      unfold tailR at ht
      cases mx with
      | none => cases ht
      | some m =>
        simp only at ht
        split at ht
        · cases ht
        · rename_i hlt
          exact absurd (show some m = some 0 by congr 1; omega) h
    | some t =>
      simp only [sumM, Nat.lt_irrefl, if_false, false_and]
      rw [(htail t ht).1]; omega
  | succ k =>
    have hsum : sumM (nds x) (k + 1) = nds (chn x k) := by
      rw [nds_chn, sumM, if_pos (by omega)]; omega
    have hcp := nds_pos (chn x k)
    cases ht : tailR x (k + 1) mx lz with
    | none => simp only [htn ht, hsum, Nat.lt_irrefl, and_false, if_false]; omega
    | some t =>
      have h1 := htail t ht
      simp only [nds_cat]
      rw [if_pos ⟨by omega, h1.2⟩, h1.1, hsum]; omega

theorem repM_ok (a : RE) (mn : Nat) (mx : Option Nat) (lz : Bool) (hmn : mn ≤ 3) (hm : ∀ m, mx = some m → mn ≤ m ∧ m ≤ 3) : (repM (shp a) (zs a) mn mx).1 = shp (.rep a mn mx lz) ∧ (shp (.rep a mn mx lz) = 2 → (repM (shp a) (zs a) mn mx).2 = zs (.rep a mn mx lz)) := by
  have hs := shp_rep a mn mx lz
  unfold repM
  by_cases h1 : shp a = 1 ∧ 0 < mn
  · rw [if_pos h1] at hs ⊢
    exact ⟨hs.symm, fun h => by omega⟩
  · rw [if_neg h1] at hs ⊢
    by_cases h2 : shp a ≠ 2 ∨ mx = some 0
    · rw [if_pos h2] at hs ⊢
      exact ⟨hs.symm, fun h => by omega⟩
    · rw [if_neg h2] at hs ⊢
      refine ⟨hs.symm, fun h => ?_⟩
      have ha2 : shp a = 2 := by
        by_cases h3 : shp a = 2
        · exact h3
        · exact absurd (.inl h3) h2
      have hm0 : mx ≠ some 0 := fun h3 => h2 (.inr h3)
      rw [zs2 h, core_rep, nds_unr _ _ _ _ hm0 (fun m h => (hm m h).1), zs2 ha2]
      generalize nds (core a) = c
      have key : ∀ mn, mn ≤ 3 → (mn = 0 ∨ mn = 1 ∨ mn = 2 ∨ mn = 3) := by omega
      cases mx with
      | none =>
        simp only [tailM, sumM]
        rcases key mn hmn with rfl | rfl | rfl | rfl <;> simp <;> (repeat' split) <;> omega
      | some m =>
        have hm' := hm m rfl
        have hmne : m ≠ 0 := fun h => hm0 (by rw [h])
        simp only [tailM, sumM]
        rcases key mn hmn with rfl | rfl | rfl | rfl <;> rcases key m hm'.2 with rfl | rfl | rfl | rfl <;> simp at hm' hmne ⊢ <;> (repeat' split) <;> omega

end Go.Proofs.Qxb6500567aGreat
