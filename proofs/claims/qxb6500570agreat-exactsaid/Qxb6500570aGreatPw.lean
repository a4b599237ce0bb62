import Derived.Test.Qxb6500570aGreatPv
/- Plain: cells in the order of their levels. -/
namespace Go.Proofs.Qxb6500570aGreat
set_option linter.unusedVariables false
set_option linter.unusedSimpArgs false

def lexP (L : Nat → Int) (a b : Nat) : Prop := L a < L b ∨ (L a = L b ∧ a < b)
/-- The cells of a set by rising level, then by index. -/
def OrdOK (L : Nat → Int) (s : Nat) (l : List Nat) : Prop := (∀ x, x ∈ l ↔ (x < 24 ∧ s.testBit x = true ∧ 0 ≤ L x)) ∧ l.Pairwise (lexP L)
theorem lexP.irr {L : Nat → Int} {a : Nat} : ¬ lexP L a a := by unfold lexP; omega
theorem lexP.asym {L : Nat → Int} {a b : Nat} (h : lexP L a b) : ¬ lexP L b a := by unfold lexP at *; omega

theorem cP_ext {p q : Nat → Bool} : ∀ {n}, (∀ j, j < n → p j = q j) → cP p n = cP q n
  | 0, _ => rfl
  | n + 1, h => by unfold cP; rw [cP_ext (fun j hj => h j (by omega)), h n (by omega)]
theorem cP_add {p q : Nat → Bool} {k : Nat} : ∀ {n}, k < n → p k = false → q k = true → (∀ j, j < n → j ≠ k → q j = p j) → cP q n = cP p n + 1
  | 0, h, _, _, _ => by omega
  | n + 1, h, h1, h2, h3 => by
    unfold cP
    by_cases e : n = k
    · subst e
      rw [cP_ext (p := q) (q := p) (fun j hj => h3 j (by omega) (by omega)), h1, h2]
      simp
    · rw [cP_add (n := n) (by omega) h1 h2 (fun j hj hn => h3 j (by omega) hn), h3 n (by omega) e]
      omega
theorem len_cP : ∀ (l : List Nat) (p : Nat → Bool), l.Nodup → (∀ x, x < 24 → (p x = true ↔ x ∈ l)) → (∀ x, x ∈ l → x < 24) → cP p 24 = l.length
  | [], p, _, h, _ => by
    have : cP p 24 = cP (fun _ => false) 24 := cP_ext (fun j hj => by
      cases hb : p j with
      | false => rfl
      | true => exact absurd ((h j hj).1 hb) (by simp))
    rw [this]
    rfl
  | y :: l, p, hn, h, hb => by
    have hn' := List.nodup_cons.1 hn
    have hy := hb y (by simp)
    have ih := len_cP l (fun x => p x && decide (x ≠ y)) hn'.2 (fun x hx => by
      rw [Bool.and_eq_true, h x hx, List.mem_cons, decide_eq_true_eq]
      constructor
      · rintro ⟨a | a, b⟩
        · exact absurd a b
        · exact a
      · intro a
        exact ⟨.inr a, fun e => hn'.1 (e ▸ a)⟩) (fun x hx => hb x (by simp [hx]))
    have := cP_add (p := fun x => p x && decide (x ≠ y)) (q := p) (k := y) (n := 24) hy (by simp) ((h y hy).2 (by simp)) (fun j hj hne => by simp [hne])
    rw [this, ih, List.length_cons]

/-- A list in order: each stands at its rank. -/
theorem ord_rank {L : Nat → Int} {s : Nat} {l : List Nat} (h : OrdOK L s l) : l.length = cP (fun x => s.testBit x && decide (0 ≤ L x)) 24 ∧ ∀ i x, l[i]? = some x → cP (fun y => s.testBit y && decide (0 ≤ L y) && decide (L y < L x ∨ (L y = L x ∧ y < x))) 24 = i := by
  have hnd : ∀ {l : List Nat}, l.Pairwise (lexP L) → l.Nodup := fun hp => List.Pairwise.imp (fun {a b} hab => by rintro rfl; exact lexP.irr hab) hp
  refine ⟨(len_cP l _ (hnd h.2) (fun x hx => ?_) (fun x hx => ((h.1 x).1 hx).1)).symm, fun i x hx => ?_⟩
  · rw [h.1 x, Bool.and_eq_true, decide_eq_true_eq]
    exact ⟨fun q => ⟨hx, q⟩, fun q => q.2⟩
  · obtain ⟨hi, he⟩ := List.getElem?_eq_some_iff.1 hx
    have hsp : l = l.take i ++ x :: l.drop (i + 1) := by rw [← he, ← List.drop_eq_getElem_cons hi, List.take_append_drop]
    have hpw := h.2
    rw [hsp, List.pairwise_append] at hpw
    obtain ⟨p1, p2, p3⟩ := hpw
    have hlen : (l.take i).length = i := by rw [List.length_take]; omega
    have := len_cP (l.take i) (fun y => s.testBit y && decide (0 ≤ L y) && decide (L y < L x ∨ (L y = L x ∧ y < x))) (hnd p1) (fun y hy => ?_) (fun y hy => ((h.1 y).1 (List.mem_of_mem_take hy)).1)
    · rw [this, hlen]
    · rw [Bool.and_eq_true, Bool.and_eq_true, decide_eq_true_eq, decide_eq_true_eq]
      constructor
      · rintro ⟨⟨a, b⟩, q⟩
        have hm : y ∈ l := (h.1 y).2 ⟨hy, a, b⟩
        rw [hsp] at hm
        rcases List.mem_append.1 hm with hm | hm
        · exact hm
        · exfalso
          rcases List.mem_cons.1 hm with hm | hm
          · subst hm; omega
          · have := (List.pairwise_cons.1 p2).1 y hm
            unfold lexP at this
            omega
      · intro hm
        have hml := (h.1 y).1 (List.mem_of_mem_take hm)
        exact ⟨hml.2, p3 y hm x (by simp)⟩
/-- There is such a list. -/
def ordT (L : Nat → Int) (s : Nat) : List Nat := (List.range 24).flatMap (fun (k : Nat) => (List.range 24).filter (fun c => s.testBit c && decide (L c = (k : Int))))
theorem ordT_ok {L : Nat → Int} {s : Nat} (hL : ∀ c, c < 24 → L c ≤ 23) : OrdOK L s (ordT L s) := by
  unfold ordT
  refine ⟨fun x => ?_, ?_⟩
  · simp only [List.mem_flatMap, List.mem_range, List.mem_filter, Bool.and_eq_true, decide_eq_true_eq]
    constructor
    · rintro ⟨k, hk, hx, h1, h2⟩
      exact ⟨hx, h1, by omega⟩
    · rintro ⟨hx, h1, h2⟩
      have := hL x hx
      exact ⟨(L x).toNat, by omega, hx, h1, by omega⟩
  · rw [List.pairwise_flatMap]
    refine ⟨fun k hk => ?_, ?_⟩
    · refine List.Pairwise.imp_of_mem ?_ (List.Pairwise.filter _ List.pairwise_lt_range)
      intro a b ha hb hab
      simp only [List.mem_filter, Bool.and_eq_true, decide_eq_true_eq] at ha hb
      exact .inr ⟨by omega, hab⟩
    · refine List.Pairwise.imp ?_ List.pairwise_lt_range
      intro k1 k2 hk x hx y hy
      simp only [List.mem_filter, Bool.and_eq_true, decide_eq_true_eq] at hx hy
      exact .inl (by omega)
/-- A list that holds each cell at its rank is in order. -/
theorem ord_of_rank {L : Nat → Int} {s : Nat} {l : List Nat} (hL : ∀ c, c < 24 → L c ≤ 23) (hlen : l.length = cP (fun x => s.testBit x && decide (0 ≤ L x)) 24)
    (h : ∀ x, x < 24 → s.testBit x = true → 0 ≤ L x → l[cP (fun y => s.testBit y && decide (0 ≤ L y) && decide (L y < L x ∨ (L y = L x ∧ y < x))) 24]? = some x) : OrdOK L s l := by
  have hT := ordT_ok (s := s) hL
  obtain ⟨r1, r2⟩ := ord_rank hT
  have : l = ordT L s := by
    apply List.ext_getElem?
    intro i
    by_cases hi : i < (ordT L s).length
    · have hx := List.getElem?_eq_getElem hi
      have hm := (hT.1 _).1 (List.getElem_mem hi)
      rw [hx]
      have := r2 i _ hx
      have h2 := h _ hm.1 hm.2.1 hm.2.2
      rw [this] at h2
      exact h2
    · rw [List.getElem?_eq_none (by omega), List.getElem?_eq_none (by omega)]
  rw [this]
  exact hT

end Go.Proofs.Qxb6500570aGreat
