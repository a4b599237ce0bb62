import Derived.Test.Qxb6500567aGreatPn
/- The laid core tree is an arena of trees. -/
namespace Go.Proofs.Qxb6500567aGreat
set_option linter.unusedVariables false
set_option linter.unusedSimpArgs false

/-- The subtrees in post-order. -/
def subs : RE → List RE
  | .seq a b => subs a ++ subs b ++ [.seq a b]
  | .cond o a b => subs a ++ subs b ++ [.cond o a b]
  | .rangeFunc f ps x a => subs a ++ [.rangeFunc f ps x a]
  | .block g a => subs a ++ [.block g a]
  | r => [r]

theorem subs_len : ∀ r : RE, (subs r).length = nds r := by
  intro r
  induction r with
  | seq a b ia ib => simp [subs, nds, ia, ib]; try omega
  | cond _ a b ia ib => simp [subs, nds, ia, ib]; try omega
  | rangeFunc _ _ x a _ ia => simp [subs, nds, ia]
  | block g a ia => simp [subs, nds, ia]
  | skip | region _ _ _ | exit _ | refuse _ | loop _ _ | scope _ _ | goto _ | ret | label _ => simp [subs, nds]

theorem subs_last (r : RE) : (subs r)[nds r - 1]? = some r := by
  cases r with
  | seq a b => simp only [subs, nds]; rw [List.getElem?_append_right (by simp [subs_len])]; simp [subs_len]
  | cond _ a b => simp only [subs, nds]; rw [List.getElem?_append_right (by simp [subs_len])]; simp [subs_len]
  | rangeFunc _ _ x a => simp only [subs, nds]; rw [List.getElem?_append_right (by simp [subs_len])]; simp [subs_len]
  | block g a => simp only [subs, nds]; rw [List.getElem?_append_right (by simp [subs_len])]; simp [subs_len]
  | skip | region _ _ _ | exit _ | refuse _ | loop _ | scope _ | goto _ | ret | label _ => simp [subs, nds]

/-- Trees of the eight kinds, counts within bounds. -/
def Pro : RE → Prop
  | .seq a b => Pro a ∧ Pro b
  | .cond _ a b => Pro a ∧ Pro b
  | .rangeFunc _ _ x a => Pro a ∧ (rmn x ≤ 3 ∧ ∀ m, rmx x = some m → rmn x ≤ m ∧ m ≤ 3)
  | .block _ a => Pro a
  | .goto _ => True
  | .ret => True
  | .label _ => True
  | .skip => True
  | _ => False

theorem pro_chn {x : RE} (h : Pro x) : ∀ k, Pro (chn x k)
  | 0 => h
  | k + 1 => ⟨pro_chn h k, h⟩
theorem pro_optn {x : RE} (lz : Bool) (h : Pro x) : ∀ k, Pro (optn x lz k)
  | 0 => trivial
  | k + 1 => by
    have ih := pro_optn lz h k
    unfold optn
    cases lz
    · by_cases hk : k = 0
      · subst hk; exact ⟨h, trivial⟩
      · simp only [Bool.false_eq_true, if_false, if_neg hk]; exact ⟨⟨h, ih⟩, trivial⟩
    · by_cases hk : k = 0
      · subst hk; exact ⟨trivial, h⟩
      · simp only [if_true, if_neg hk]; exact ⟨trivial, ⟨h, ih⟩⟩
theorem pro_tail {x t : RE} {mn : Nat} {mx : Option Nat} {lz : Bool} (h : Pro x) (ht : tailR x mn mx lz = some t) : Pro t := by
  unfold tailR at ht
  cases mx with
  | none =>
    cases ht
    refine ⟨h, ?_⟩
    rw [rmn_mk, rmx_mk]
    exact ⟨by omega, fun m hm => by cases hm⟩
  | some m =>
    simp only at ht
    split at ht
    · cases ht; exact pro_optn lz h _
    · cases ht
theorem pro_unr {x : RE} {mn : Nat} {mx : Option Nat} {lz : Bool} (h : Pro x) : Pro (unr x mn mx lz) := by
  unfold unr
  cases ht : tailR x mn mx lz with
  | none =>
    cases mn with
    | zero => trivial
    | succ k => exact pro_chn h k
  | some t =>
    cases mn with
    | zero => exact pro_tail h ht
    | succ k => exact ⟨pro_chn h k, pro_tail h ht⟩

theorem pro_core : ∀ r : RE, Pro (core r) := by
  intro r
  induction r with
  | skip | region _ _ _ | exit _ | refuse _ | loop _ _ | scope _ _ | goto _ | ret | label _ => trivial
  | seq a b ia ib =>
    simp only [core]
    split
    · exact ib
    · split
      · exact ia
      · exact ⟨ia, ib⟩
  | cond _ a b ia ib =>
    simp only [core]
    split
    · exact ib
    · split
      · exact ia
      · refine ⟨?_, ?_⟩
        · split
          · trivial
          · first | exact ia | (split; trivial; exact ia)
        · split
          · trivial
          · first | exact ib | (split; trivial; exact ib)
  | rangeFunc _ _ x a _ ia => exact pro_unr ia
  | block g a ia =>
    simp only [core]
    show Pro (if shp a = 0 then .emp else if shp a = 1 then .set 0 else core a)
    split
    · trivial
    · split
      · trivial
      · exact ia

theorem pro_child (r : RE) : Pro (child r) := by
  unfold child
  split
  · trivial
  · split
    · trivial
    · exact pro_core r

abbrev ndP (x : PN) : List Value := ndc x.k x.a x.b x.mn x.mx x.cap x.lz x.S

theorem app_at {A B C : List RE} {k : Nat} (h : k < B.length) : (A ++ B ++ C)[A.length + k]? = B[k]? := by
  rw [List.append_assoc, List.getElem?_append_right (by omega), Nat.add_sub_cancel_left, List.getElem?_append_left h]

theorem sub_at (A C : List RE) (a : RE) : (A ++ subs a ++ C)[A.length + nds a - 1]? = some a := by
  have h := nds_pos a
  rw [show A.length + nds a - 1 = A.length + (nds a - 1) by omega, app_at (by rw [subs_len]; omega)]
  exact subs_last a

theorem pl_nd : ∀ (r : RE) (A C : List RE), Pro r → ∀ (k : Nat) (x : PN) (y : RE), (pl r A.length)[k]? = some x → (subs r)[k]? = some y → ND (A ++ subs r ++ C) (A.length + k) y (ndP x) := by
  intro r
  induction r with
  | region _ _ _ | exit _ | refuse _ | loop _ _ | scope _ _ => intro A C h; exact h.elim
  | skip =>
    intro A C h k x y hx hy
    cases k with
    | zero => simp only [pl, subs, List.getElem?_cons_zero, Option.some.injEq] at hx hy; subst hx hy; rfl
    | succ k => simp [pl] at hx
  | goto S =>
    intro A C h k x y hx hy
    cases k with
    | zero => simp only [pl, subs, List.getElem?_cons_zero, Option.some.injEq] at hx hy; subst hx hy; rfl
    | succ k => simp [pl] at hx
  | ret =>
    intro A C h k x y hx hy
    cases k with
    | zero => simp only [pl, subs, List.getElem?_cons_zero, Option.some.injEq] at hx hy; subst hx hy; rfl
    | succ k => simp [pl] at hx
  | label l =>
    intro A C h k x y hx hy
    cases k with
    | zero => simp only [pl, subs, List.getElem?_cons_zero, Option.some.injEq] at hx hy; subst hx hy; rfl
    | succ k => simp [pl] at hx
  | seq a b ia ib =>
    intro A C h k x y hx hy
    have hpa := nds_pos a
    have hpb := nds_pos b
    simp only [pl] at hx
    simp only [subs] at hy ⊢
    by_cases h1 : k < nds a
    · rw [List.append_assoc, List.getElem?_append_left (by rw [pl_len]; exact h1)] at hx
      rw [List.append_assoc, List.getElem?_append_left (by rw [subs_len]; exact h1)] at hy
      have := ia A (subs b ++ [.seq a b] ++ C) h.1 k x y hx hy
      simpa [List.append_assoc] using this
    · by_cases h2 : k < nds a + nds b
      · rw [List.getElem?_append_left (by simp [pl_len]; omega), List.getElem?_append_right (by rw [pl_len]; omega), pl_len] at hx
        rw [List.getElem?_append_left (by simp [subs_len]; omega), List.getElem?_append_right (by rw [subs_len]; omega), subs_len] at hy
        have hl : (A ++ subs a).length = A.length + nds a := by simp [subs_len]
        have := ib (A ++ subs a) ([.seq a b] ++ C) h.2 (k - nds a) x y (by rw [hl]; exact hx) hy
        rw [hl, show A.length + nds a + (k - nds a) = A.length + k by omega] at this
        simpa [List.append_assoc] using this
      · rw [List.getElem?_append_right (by simp [pl_len]; omega)] at hx
        rw [List.getElem?_append_right (by simp [subs_len]; omega)] at hy
        have hkk : k = nds a + nds b := by
          have := (List.getElem?_eq_some_iff.1 hx).1
          simp [pl_len] at this
          omega
        subst hkk
        simp [pl_len] at hx
        simp [subs_len] at hy
        subst hx hy
        refine ⟨A.length + nds a - 1, A.length + nds a + nds b - 1, by omega, by omega, ?_, ?_, ?_⟩
        · have := sub_at A (subs b ++ [.seq a b] ++ C) a
          simpa [List.append_assoc] using this
        · have := sub_at (A ++ subs a) ([.seq a b] ++ C) b
          rw [show (A ++ subs a).length = A.length + nds a by simp [subs_len]] at this
          simpa [List.append_assoc] using this
        · simp only [ndP, nd]
          congr 3 <;> (congr 1; omega)
  | cond o a b ia ib =>
    intro A C h k x y hx hy
    have hpa := nds_pos a
    have hpb := nds_pos b
    simp only [pl] at hx
    simp only [subs] at hy ⊢
    by_cases h1 : k < nds a
    · rw [List.append_assoc, List.getElem?_append_left (by rw [pl_len]; exact h1)] at hx
      rw [List.append_assoc, List.getElem?_append_left (by rw [subs_len]; exact h1)] at hy
      have := ia A (subs b ++ [.cond o a b] ++ C) h.1 k x y hx hy
      simpa [List.append_assoc] using this
    · by_cases h2 : k < nds a + nds b
      · rw [List.getElem?_append_left (by simp [pl_len]; omega), List.getElem?_append_right (by rw [pl_len]; omega), pl_len] at hx
        rw [List.getElem?_append_left (by simp [subs_len]; omega), List.getElem?_append_right (by rw [subs_len]; omega), subs_len] at hy
        have hl : (A ++ subs a).length = A.length + nds a := by simp [subs_len]
        have := ib (A ++ subs a) ([.cond o a b] ++ C) h.2 (k - nds a) x y (by rw [hl]; exact hx) hy
        rw [hl, show A.length + nds a + (k - nds a) = A.length + k by omega] at this
        simpa [List.append_assoc] using this
      · rw [List.getElem?_append_right (by simp [pl_len]; omega)] at hx
        rw [List.getElem?_append_right (by simp [subs_len]; omega)] at hy
        have hkk : k = nds a + nds b := by
          have := (List.getElem?_eq_some_iff.1 hx).1
          simp [pl_len] at this
          omega
        subst hkk
        simp [pl_len] at hx
        simp [subs_len] at hy
        subst hx hy
        refine ⟨A.length + nds a - 1, A.length + nds a + nds b - 1, by omega, by omega, ?_, ?_, ?_⟩
        · have := sub_at A (subs b ++ [.cond o a b] ++ C) a
          simpa [List.append_assoc] using this
        · have := sub_at (A ++ subs a) ([.cond o a b] ++ C) b
          rw [show (A ++ subs a).length = A.length + nds a by simp [subs_len]] at this
          simpa [List.append_assoc] using this
        · simp only [ndP, nd]
          congr 3 <;> (congr 1; omega)
  | rangeFunc ff ps z a _ ia =>
    intro A C h k x y hx hy
    have hpa := nds_pos a
    simp only [pl] at hx
    simp only [subs] at hy ⊢
    by_cases h1 : k < nds a
    · rw [List.getElem?_append_left (by rw [pl_len]; exact h1)] at hx
      rw [List.getElem?_append_left (by rw [subs_len]; exact h1)] at hy
      have := ia A ([.rangeFunc ff ps z a] ++ C) h.1 k x y hx hy
      simpa [List.append_assoc] using this
    · rw [List.getElem?_append_right (by simp [pl_len]; omega)] at hx
      rw [List.getElem?_append_right (by simp [subs_len]; omega)] at hy
      have hkk : k = nds a := by
        have := (List.getElem?_eq_some_iff.1 hx).1
        simp [pl_len] at this
        omega
      subst hkk
      simp [pl_len] at hx
      simp [subs_len] at hy
      subst hx hy
      refine ⟨A.length + nds a - 1, by omega, ?_, h.2, ?_⟩
      · have := sub_at A ([.rangeFunc ff ps z a] ++ C) a
        simpa [List.append_assoc] using this
      · simp only [ndP]
        congr 3
        omega
  | block g a ia =>
    intro A C h k x y hx hy
    have hpa := nds_pos a
    simp only [pl] at hx
    simp only [subs] at hy ⊢
    by_cases h1 : k < nds a
    · rw [List.getElem?_append_left (by rw [pl_len]; exact h1)] at hx
      rw [List.getElem?_append_left (by rw [subs_len]; exact h1)] at hy
      have := ia A ([.block g a] ++ C) h k x y hx hy
      simpa [List.append_assoc] using this
    · rw [List.getElem?_append_right (by simp [pl_len]; omega)] at hx
      rw [List.getElem?_append_right (by simp [subs_len]; omega)] at hy
      have hkk : k = nds a := by
        have := (List.getElem?_eq_some_iff.1 hx).1
        simp [pl_len] at this
        omega
      subst hkk
      simp [pl_len] at hx
      simp [subs_len] at hy
      subst hx hy
      refine ⟨A.length + nds a - 1, by omega, ?_, ?_⟩
      · have := sub_at A ([.block g a] ++ C) a
        simpa [List.append_assoc] using this
      · simp only [ndP]
        congr 3
        omega

/-- The arena. -/
theorem pl_ar {r : RE} (h : Pro r) {c : Nat → Value} (hc : ∀ (k : Nat) (x : PN), (pl r 0)[k]? = some x → cel 11 (fun j => c (0 + 11 * k + j)) = ndP x) : AR (subs r) c 0 := by
  intro k y hy
  have hk := (List.getElem?_eq_some_iff.1 hy).1
  rw [subs_len] at hk
  have hx : (pl r 0)[k]? = some ((pl r 0)[k]'(by rw [pl_len]; exact hk)) := List.getElem?_eq_getElem _
  have := pl_nd r [] [] h k _ y hx hy
  rw [hc k _ hx]
  simpa using this

end Go.Proofs.Qxb6500567aGreat
