import Derived.Test.Qxb6500570aGreatPu
/- Plain: levels stay below the number of cells. -/
namespace Go.Proofs.Qxb6500570aGreat
set_option linter.unusedVariables false
set_option linter.unusedSimpArgs false

/-- How many below n. -/
def cP (p : Nat → Bool) : Nat → Nat
  | 0 => 0
  | n + 1 => cP p n + (if p n = true then 1 else 0)
theorem cP_le (p : Nat → Bool) : ∀ n, cP p n ≤ n
  | 0 => Nat.le_refl _
  | n + 1 => by have := cP_le p n; unfold cP; split <;> omega
theorem cP_mono {p q : Nat → Bool} : ∀ {n}, (∀ j, j < n → p j = true → q j = true) → cP p n ≤ cP q n
  | 0, _ => Nat.le_refl _
  | n + 1, h => by
    have ih := cP_mono (n := n) (fun j hj => h j (by omega))
    have := h n (by omega)
    unfold cP
    cases hs : p n
    · simp only [Bool.false_eq_true, if_false]; split <;> omega
    · rw [this hs]; simp only [if_true]; omega
theorem cP_more {p q : Nat → Bool} {k : Nat} : ∀ {n}, (∀ j, j < n → p j = true → q j = true) → k < n → p k = false → q k = true → cP p n < cP q n
  | 0, _, h, _, _ => by omega
  | n + 1, h, hk, h1, h2 => by
    unfold cP
    by_cases e : n = k
    · subst e
      have := cP_mono (p := p) (q := q) (n := n) (fun j hj => h j (by omega))
      rw [h1, h2]
      simp only [Bool.false_eq_true, if_false, if_true]
      omega
    · have ih := cP_more (n := n) (fun j hj => h j (by omega)) (by omega) h1 h2
      have := h n (by omega)
      cases hs : p n
      · simp only [Bool.false_eq_true, if_false]; split <;> omega
      · rw [this hs]; simp only [if_true]; omega

/-- A set of settled cells that is closed under reading: its levels are below 24. -/
theorem lv_bound {r : Nat → Nat} {L : Nat → Int} {A : Nat → Prop} (hA : ∀ c, A c → c < 24 ∧ SetL r L c ∧ ∀ d, rdB r c d → A d) {c : Nat} (hc : A c) : L c ≤ 23 := by
  have down : ∀ (j : Nat) (c : Nat), A c → ∀ k : Nat, (k : Int) + j = L c → ∃ d, A d ∧ L d = k := by
    intro j
    induction j with
    | zero => intro c hc k hk; exact ⟨c, hc, by omega⟩
    | succ j ih =>
      intro c hc k hk
      obtain ⟨h1, h2, h3⟩ := hA c hc
      rcases h2.2.2 with e | ⟨d, hd, e⟩
      · omega
      · exact ih d (h3 d hd) k (by omega)
  have hex : ∀ k : Nat, (k : Int) ≤ L c → ∃ d, d < 24 ∧ L d = k := by
    intro k hk
    obtain ⟨d, hd, e⟩ := down (L c - k).toNat c hc k (by omega)
    exact ⟨d, (hA d hd).1, e⟩
  have hcount : ∀ k : Nat, (k : Int) ≤ L c → k + 1 ≤ cP (fun d => decide (0 ≤ L d ∧ L d ≤ k)) 24 := by
    intro k
    induction k with
    | zero =>
      intro h0
      obtain ⟨d, hd, e⟩ := hex 0 h0
      have := cP_more (p := fun _ => false) (q := fun d => decide (0 ≤ L d ∧ L d ≤ (0 : Nat))) (k := d) (n := 24) (fun _ _ h => by cases h) hd rfl (decide_eq_true (by omega))
      omega
    | succ k ih =>
      intro hk
      have := ih (by omega)
      obtain ⟨d, hd, e⟩ := hex (k + 1) hk
      have := cP_more (p := fun d => decide (0 ≤ L d ∧ L d ≤ (k : Nat))) (q := fun d => decide (0 ≤ L d ∧ L d ≤ ((k + 1 : Nat) : Int))) (k := d) (n := 24) (fun j _ h => decide_eq_true (by have := of_decide_eq_true h; omega)) hd (decide_eq_false (by omega)) (decide_eq_true (by omega))
      omega
  rcases Int.lt_or_le (L c) 24 with h | h
  · omega
  · exfalso
    have := hcount 24 (by omega)
    have := cP_le (fun d => decide (0 ≤ L d ∧ L d ≤ ((24 : Nat) : Int))) 24
    omega
theorem LvOK.bd {r : Nat → Nat} {L : Nat → Int} (h : LvOK r L) (c : Nat) (hc : c < 24) : -1 ≤ L c ∧ L c ≤ 23 := by
  rcases h c hc with q | q
  · refine ⟨by have := q.1; omega, ?_⟩
    refine lv_bound (r := r) (A := fun c => c < 24 ∧ 0 ≤ L c) (fun c hc => ?_) ⟨hc, q.1⟩
    rcases h c hc.1 with p | p
    · exact ⟨hc.1, p, fun d hd => ⟨hd.1, (p.2.1 d hd).1⟩⟩
    · exact absurd p.1 (by omega)
  · have := q.1; omega
theorem KI.bd {r : Nat → Nat} {h sick left ripe : Nat} {L N : Nat → Int} (o : OutK r h sick L) (k : KI r h sick L left ripe N) {c : Nat} (hc : c < 24) (hl : left.testBit c = false) : -1 ≤ L c ∧ L c ≤ 23 := by
  by_cases h0 : 0 ≤ L c
  · refine ⟨by omega, lv_bound (r := r) (A := fun c => c < 24 ∧ left.testBit c = false ∧ 0 ≤ L c) (fun c hc => ?_) ⟨hc, hl, h0⟩⟩
    obtain ⟨h1, h2, h3⟩ := hc
    cases hh : h.testBit c with
    | true =>
      obtain ⟨s1, s2⟩ := k.st c h1 hh h2
      exact ⟨h1, s1, fun d hd => ⟨hd.1, s2 d hd, (s1.2.1 d hd).1⟩⟩
    | false =>
      rcases o.ok c h1 hh with q | q
      · refine ⟨h1, q, fun d hd => ⟨hd.1, ?_, (q.2.1 d hd).1⟩⟩
        have := o.cl c h1 hh d hd
        cases hd2 : left.testBit d with
        | false => rfl
        | true => have h4 := k.lh d hd.1 hd2; rw [this] at h4; cases h4
      · exact absurd q.1 (by omega)
  · cases hh : h.testBit c with
    | true => exact absurd (k.st c hc hh hl).1.1 h0
    | false =>
      rcases o.ok c hc hh with q | q
      · exact absurd q.1 h0
      · have := q.1; omega

end Go.Proofs.Qxb6500570aGreat
