import Derived.Test.Qxb6500568aGreatDoorSg
namespace Go.Proofs.Qxb6500568aGreatDoor
open Ieee
set_option linter.unusedVariables false
set_option linter.unusedSimpArgs false
set_option linter.unusedSectionVars false

/-! Expressions. -/

def IH (f : Nat) : Prop := ∀ m lv r n x s, m ≤ 12 → PreM m lv r n x s → Po (QM m lv r n x s) (parP f m lv r n x s)
section
variable {f : Nat} {lv r n : Nat} {x : Tr} {s : PS}
theorem IH.i0 (I : IH f) (hp : Pe s) : Po (fun t s' => QE t (bR lv r) ∧ Sm s s' ∧ numsT t = rgF s s' ∧ lv ≤ 12) (parP f 0 lv r n x s) :=
  I 0 lv r n x s (by decide) ⟨hp, (fun e => by cases e), (fun e => by cases e), (fun e => by cases e), (fun e => by cases e), (fun e => by cases e), (fun e => by omega), (fun e => by cases e), (fun e => by cases e)⟩
theorem IH.i1 (I : IH f) (hp : Pe s) (hl : lv ≤ 12) (hx : QE x (bR lv r)) : Po (fun t s' => QE t (bR lv r) ∧ Sm s s' ∧ numsT t = numsT x ++ rgF s s') (parP f 1 lv r n x s) :=
  I 1 lv r n x s (by decide) ⟨hp, fun _ => ⟨hl, hx⟩, (fun e => by cases e), (fun e => by cases e), (fun e => by cases e), (fun e => by cases e), (fun e => by omega), (fun e => by cases e), (fun e => by cases e)⟩
theorem IH.i2 (I : IH f) (hp : Pe s) : Po (fun t s' => QE t (bR lv 7) ∧ Sm s s' ∧ numsT t = rgF s s' ∧ lv ≤ 12) (parP f 2 lv r n x s) :=
  I 2 lv r n x s (by decide) ⟨hp, (fun e => by cases e), (fun e => by cases e), (fun e => by cases e), (fun e => by cases e), (fun e => by cases e), (fun e => by omega), (fun e => by cases e), (fun e => by cases e)⟩
theorem IH.i3 (I : IH f) (hp : Pe s) : Po (fun t s' => QE t (bR lv 7) ∧ Sm s s' ∧ numsT t = rgF s s' ∧ lv ≤ 12) (parP f 3 lv r n x s) :=
  I 3 lv r n x s (by decide) ⟨hp, (fun e => by cases e), (fun e => by cases e), (fun e => by cases e), (fun e => by cases e), (fun e => by cases e), (fun e => by omega), (fun e => by cases e), (fun e => by cases e)⟩
theorem IH.i4 (I : IH f) (hp : Pe s) (hl : lv ≤ 12) (hx : QE x (bR lv 7)) : Po (fun t s' => QE t (bR lv 7) ∧ Sm s s' ∧ numsT t = numsT x ++ rgF s s') (parP f 4 lv r n x s) :=
  I 4 lv r n x s (by decide) ⟨hp, (fun e => by cases e), fun _ => ⟨hl, hx⟩, (fun e => by cases e), (fun e => by cases e), (fun e => by cases e), (fun e => by omega), (fun e => by cases e), (fun e => by cases e)⟩
theorem IH.i5 (I : IH f) (hp : Pe s) (hr : r = 40 ∨ r = 42) (hn : r = 40 → n ≤ 3) : Po (fun t s' => QL t lv ∧ (r = 40 → lenE t ≤ 3 - n) ∧ Sm s s' ∧ numsT t = rgF s s') (parP f 5 lv r n x s) :=
  I 5 lv r n x s (by decide) ⟨hp, (fun e => by cases e), (fun e => by cases e), fun _ => hr, fun _ => hn, (fun e => by cases e), (fun e => by omega), (fun e => by cases e), (fun e => by cases e)⟩
theorem IH.i12 (I : IH f) (hp : Pe s) (hl : lv ≤ 12) (hf : s.fu < 12) : Po (fun t s' => ∃ k ps b, t = Ex.func k ps b ∧ LyL 3 b ∧ FnW k ps ∧ W b false ps.length ∧ Sm s s' ∧ numsT t = rgF s s') (parP f 12 lv r n x s) :=
  I 12 lv r n x s (by decide) ⟨hp, (fun e => by cases e), (fun e => by cases e), (fun e => by cases e), (fun e => by cases e), (fun e => by cases e), fun _ => hl, (fun e => by cases e), fun _ => hf⟩

theorem bR_le {r r' : Nat} (h : r ≤ r') : bR lv r' ≤ bR lv r := by
  unfold bR
  repeat' split
  all_goals omega
theorem bR7 (h : lv ≤ 12) : bR lv 7 = bE (lv + 1) + 3 := by
  unfold bR bE
  rw [if_pos (by omega)]
  omega
theorem bR1 : bR lv 1 = bE lv := by
  unfold bR
  rfl
theorem top_of {c : Nat} {t : Tr} (hc : t.c = c) (h3 : c ≠ 3) (h4 : c ≠ 4) (h5 : c ≠ 5) : Top t := ⟨fun e => absurd (hc.symm.trans e) h3, fun e => absurd (hc.symm.trans e) h4, fun e => absurd (hc.symm.trans e) h5⟩
theorem rankK_le (k : Nat) : 1 ≤ rankK k ∧ rankK k ≤ 6 := by
  unfold rankK
  repeat' split
  all_goals omega
/-- a binary operator's tree. -/
theorem qe_bin {k d e : Nat} {y : Tr} (hk : isBin k = true) (hx : QE x d) (hy : QE y e) (he : (if k = 22 ∨ k = 23 then e else 1 + e) ≤ d) : QE (binT k x y) d := by
  have hk : 22 ≤ k ∧ k ≤ 36 := by unfold isBin at hk; simpa using hk
  have hxd := hx.d
  have hyd := hy.d
  unfold binT
  by_cases h1 : k = 22
  · rw [if_pos h1]
    rw [if_pos (.inl h1)] at he
    exact ⟨ly_lor hx.ly hy.ly, fun lp n => ⟨hx.w _ _, hy.w _ _⟩, by rw [dE_lor]; omega, top_of (c := 11) rfl (by decide) (by decide) (by decide)⟩
  rw [if_neg h1]
  by_cases h2 : k = 23
  · rw [if_pos h2]
    rw [if_pos (.inr h2)] at he
    exact ⟨ly_land hx.ly hy.ly, fun lp n => ⟨hx.w _ _, hy.w _ _⟩, by rw [dE_land]; omega, top_of (c := 10) rfl (by decide) (by decide) (by decide)⟩
  rw [if_neg h2]
  rw [if_neg (by omega)] at he
  have go : ∀ op, (op = 20 ∨ (11 ≤ op ∧ op ≤ 16) ∨ (1 ≤ op ∧ op ≤ 6)) → QE (Ex.bin op x y) d := fun op ho =>
    ⟨ly_bin hx.ly hy.ly, fun lp n => ⟨ho, hx.w _ _, hy.w _ _⟩, by rw [dE_bin]; omega, top_of (c := 8) rfl (by decide) (by decide) (by decide)⟩
  by_cases h3 : k ≤ 29
  · rw [if_pos h3]; exact go _ (by omega)
  rw [if_neg h3]
  by_cases h4 : k = 30
  · rw [if_pos h4]; exact go _ (by omega)
  rw [if_neg h4]
  exact go _ (by omega)
theorem nums_bin {k : Nat} {y : Tr} (hk : isBin k = true) : numsT (binT k x y) = numsT x ++ numsT y := by
  unfold binT
  repeat' split
  all_goals rfl
theorem bin_bound {k r lv : Nat} (hk : isBin k = true) (hr : r ≤ rankK k) (hl : lv ≤ 12) : (if k = 22 ∨ k = 23 then (if rankK k = 4 then bR (lv + 1) 4 else bR lv (rankK k + 1)) else 1 + (if rankK k = 4 then bR (lv + 1) 4 else bR lv (rankK k + 1))) ≤ bR lv r := by
  have hk : 22 ≤ k ∧ k ≤ 36 := by unfold isBin at hk; simpa using hk
  refine Nat.le_trans ?_ (bR_le hr)
  unfold rankK
  by_cases h1 : k = 22
  · simp only [h1, if_true, true_or]; unfold bR bE; simp
  by_cases h2 : k = 23
  · simp only [h2]; unfold bR bE; simp
  simp only [h1, h2, or_self, if_false]
  by_cases h3 : k ≤ 29
  · simp only [h3, if_true]; unfold bR bE; simp; omega
  by_cases h4 : k = 30
  · simp only [h3, h4, if_true, if_false]; unfold bR bE; simp; omega
  by_cases h5 : k ≤ 32
  · simp only [h3, h4, h5, if_true, if_false]; unfold bR bE; simp; omega
  · simp only [h3, h4, h5, if_false]; unfold bR bE; simp; omega
end

end Go.Proofs.Qxb6500568aGreatDoor
