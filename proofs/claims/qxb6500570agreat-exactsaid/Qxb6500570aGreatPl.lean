import Derived.Test.Qxb6500570aGreatPk
/- Plain: an operator, or the end of an expression, with a flag for faults. -/
namespace Go.Proofs.Qxb6500570aGreat
set_option linter.unusedVariables false
set_option linter.unusedSimpArgs false

theorem shutX_len {m : Mk} {tk : Nat} {bad : Bool} {ar : List Nd} {ov : List Int} {os : List Mk} (h3 : m.k = 3 → ov.length = nb os + 1) (h4 : m.k ≠ 3 → arity m.o m.n = true → m.k = 4 ∧ ov.length = nb os) : (shutX m tk bad ar ov os).ov.length ≤ ov.length + (if m.k = 4 then 1 else 0) ∧ (shutX m tk bad ar ov os).os.length ≤ os.length + 1 := by
  unfold shutX
  split
  · split
    · rename_i hk
      have := settleX_ht (bad := bad) (ar := ar) (h3 hk)
      exact ⟨by show (settleX os bad ar ov).2.2.1.length ≤ _; omega, by show (settleX os bad ar ov).2.2.2.length ≤ _; omega⟩
    · rename_i hk
      split
      · rename_i ha
        obtain ⟨hk4, hl⟩ := h4 hk ha
        have := settleX_ht (os := os) (bad := (addX bad ar (nCall m.o m.l m.n)).1) (ar := (addX bad ar (nCall m.o m.l m.n)).2.1) (ov := (addX bad ar (nCall m.o m.l m.n)).2.2 :: ov) (by simp [hl])
        rw [if_pos hk4]
        simp only [List.length_cons] at this
        exact ⟨this.2.2, by have := this.2.1; show (wholeX _ _ _ _ _).2.2.2.length ≤ _; unfold wholeX; omega⟩
      · exact ⟨by show ov.length ≤ _; omega, by show os.length ≤ _; omega⟩
  · exact ⟨by show ov.length ≤ _; omega, by show os.length + 1 ≤ _; omega⟩
theorem closeX_len {tk : Nat} {bad : Bool} {ar : List Nd} {ov : List Int} {os : List Mk} (h : ov.length = nb os + 1) (hm : Mn os) : (closeX tk bad ar ov os).ov.length ≤ ov.length ∧ (closeX tk bad ar ov os).os.length ≤ os.length := by
  unfold closeX
  split
  · exact ⟨Nat.le_refl _, Nat.le_refl _⟩
  · rename_i m os'
    by_cases hm4 : m.k = 4
    · simp only [if_pos hm4]
      have hn : nb (m :: os') = nb os' := by simp [nb, hm4]
      rw [hn] at h
      split
      · rename_i v ov'
        simp only [List.length_cons] at h
        split
        · exact ⟨by simp, by simp⟩
        · have := shutX_len (m := ⟨4, m.o, m.n + 1, (addX bad ar (nArgI v m.l)).2.2⟩) (tk := tk) (bad := (addX bad ar (nArgI v m.l)).1) (ar := (addX bad ar (nArgI v m.l)).2.1) (ov := ov') (os := os') (fun h => (by cases h)) (fun _ _ => ⟨rfl, by omega⟩)
          simp only [if_true] at this
          exact ⟨this.1, this.2⟩
      · exact ⟨Nat.le_refl _, Nat.le_refl _⟩
    · simp only [if_neg hm4]
      have h3' : m.k = 3 → ov.length = nb os' + 1 := by
        intro h3
        have hn : nb (m :: os') = nb os' := by simp [nb, h3]
        omega
      have := shutX_len (m := m) (tk := tk) (bad := bad) (ar := ar) (ov := ov) (os := os') h3' (fun _ ha => by rw [(hm m (by simp)).1 hm4, arity0] at ha; cases ha)
      rw [if_neg hm4] at this
      exact ⟨this.1, this.2⟩

/-- The state between the steps of a round. -/
def AI (f : Nat → List Tk → List Nd → List Nat → List Mk → Option (PS ⊕ List Nd)) (O : Option (PS ⊕ List Nd)) (s : Nat) (ts : List Tk) (bad : Bool) (ar : List Nd) (ov : List Int) (os : List Mk) : Prop :=
  ov.length = nb os + 1 ∧ Mn os ∧ ((bad = true ∧ O = none ∧ (s = 0 ∨ ∃ r, ov = -1 :: r)) ∨ (bad = false ∧ ∃ ovN, ov = ci ovN ∧ PT ar ovN os ∧ O = f s ts ar ovN os))

theorem joinX_neg {m : Mk} {ar : List Nd} {b a : Int} {ov : List Int} : ∃ r, (joinX m true ar (b :: a :: ov)).2.2 = -1 :: r := ⟨ov, rfl⟩
theorem joinX_neg' {m : Mk} {bad : Bool} {ar : List Nd} {b a : Int} {ov : List Int} (h : (joinX m bad ar (b :: a :: ov)).1 = true) : ∃ r, (joinX m bad ar (b :: a :: ov)).2.2 = -1 :: r := by
  refine ⟨ov, ?_⟩
  simp only [joinX] at h ⊢
  unfold addX at h ⊢
  split
  · rfl
  · split
    · rename_i h1 h2
      simp only [h1, if_false, if_pos h2] at h
      cases h
    · rfl
theorem AI_join {f g : Nat → List Tk → List Nd → List Nat → List Mk → Option (PS ⊕ List Nd)} {O : Option (PS ⊕ List Nd)} {s s' : Nat} {ts : List Tk} {bad : Bool} {ar : List Nd} {ov : List Int} {m : Mk} {os : List Mk}
    (h : AI f O s ts bad ar ov (m :: os)) (hm : m.k = 2) (hs0 : s = 0 → s' = 0) (hf : ∀ ovN, f s ts ar ovN (m :: os) = match joinP m ar ovN with
      | some x => g s' ts x.1 x.2 os
      | none => none) :
    ∃ b a ov2, ov = b :: a :: ov2 ∧ AI g O s' ts (joinX m bad ar ov).1 (joinX m bad ar ov).2.1 (joinX m bad ar ov).2.2 os := by
  obtain ⟨h1, h2, h3⟩ := h
  have hnb : nb (m :: os) = nb os + 1 := by simp [nb, hm]; omega
  obtain ⟨b, a, ov2, rfl⟩ : ∃ b a ov2, ov = b :: a :: ov2 := by
    match ov, h1 with
    | [], h => simp at h
    | [z], h => rw [hnb] at h; simp at h
    | y :: x :: r, _ => exact ⟨y, x, r, rfl⟩
  refine ⟨b, a, ov2, rfl, ?_, h2.tail, ?_⟩
  · have := joinX_ov (m := m) (bad := bad) (ar := ar) (ov := b :: a :: ov2) (by simp)
    omega
  · rcases h3 with ⟨rfl, ho, hs⟩ | ⟨rfl, ovN, hov, hp, ho⟩
    · exact .inl ⟨joinX_bad _ _ _, ho, .inr joinX_neg⟩
    · rw [hf] at ho
      have hl : 2 ≤ ovN.length := by
        have := congrArg List.length hov
        simp [ci] at this
        omega
      cases hj : joinP m ar ovN with
      | none =>
        rw [hj] at ho
        have hb : (joinX m false ar (b :: a :: ov2)).1 = true := by rw [hov]; exact joinX_none hl hj
        exact .inl ⟨hb, ho, .inr (joinX_neg' hb)⟩
      | some x =>
        rw [hj] at ho
        have hjx := joinX_some hj
        rw [← hov] at hjx
        refine .inr ⟨by rw [hjx], x.2, by rw [hjx], ?_, by rw [hjx]; exact ho⟩
        rw [hjx]
        exact (join_ok hm hp hj).1
theorem AI_skip {f g : Nat → List Tk → List Nd → List Nat → List Mk → Option (PS ⊕ List Nd)} {O : Option (PS ⊕ List Nd)} {s : Nat} {ts : List Tk} {bad : Bool} {ar : List Nd} {ov : List Int} {os : List Mk}
    (h : AI f O s ts bad ar ov os) (hf : ∀ ovN, f s ts ar ovN os = g s ts ar ovN os) : AI g O s ts bad ar ov os := by
  obtain ⟨h1, h2, h3⟩ := h
  refine ⟨h1, h2, ?_⟩
  rcases h3 with h3 | ⟨hb, ovN, hov, hp, ho⟩
  · exact .inl h3
  · exact .inr ⟨hb, ovN, hov, hp, by rw [ho, hf]⟩
theorem AI0_join {O : Option (PS ⊕ List Nd)} {s : Nat} {ts : List Tk} {bad : Bool} {ar : List Nd} {ov : List Int} {m : Mk} {os : List Mk}
    (h : AI after0 O s ts bad ar ov (m :: os)) (hs : s < 3) (ht : topS (m :: os) = 2) :
    ∃ b a ov2, ov = b :: a :: ov2 ∧ AI after1 O s ts (joinX m bad ar ov).1 (joinX m bad ar ov).2.1 (joinX m bad ar ov).2.2 os :=
  AI_join h (topS_k (fun e => by rw [e] at ht; cases ht)) (fun h => h) (fun ovN => by unfold after0; simp only; rw [if_pos ⟨hs, ht⟩]; rfl)
theorem AI1_join {O : Option (PS ⊕ List Nd)} {s : Nat} {ts : List Tk} {bad : Bool} {ar : List Nd} {ov : List Int} {m : Mk} {os : List Mk}
    (h : AI after1 O s ts bad ar ov (m :: os)) (hs : s < 2) (ht : topS (m :: os) = 1) :
    ∃ b a ov2, ov = b :: a :: ov2 ∧ AI after2 O 0 ts (joinX m bad ar ov).1 (joinX m bad ar ov).2.1 (joinX m bad ar ov).2.2 os :=
  AI_join h (topS_k (fun e => by rw [e] at ht; cases ht)) (fun _ => rfl) (fun ovN => by unfold after1; simp only; rw [if_pos ⟨hs, ht⟩]; rfl)
theorem AI0_skip {O : Option (PS ⊕ List Nd)} {s : Nat} {ts : List Tk} {bad : Bool} {ar : List Nd} {ov : List Int} {os : List Mk}
    (h : AI after0 O s ts bad ar ov os) (hs : ¬ (s < 3 ∧ topS os = 2)) : AI after1 O s ts bad ar ov os :=
  AI_skip h (fun ovN => by
    unfold after0
    split
    · rw [if_neg hs]
    · rfl)
theorem AI1_skip {O : Option (PS ⊕ List Nd)} {s : Nat} {ts : List Tk} {bad : Bool} {ar : List Nd} {ov : List Int} {os : List Mk}
    (h : AI after1 O s ts bad ar ov os) (hs : ¬ (s < 2 ∧ topS os = 1)) : AI after2 O s ts bad ar ov os :=
  AI_skip h (fun ovN => by
    unfold after1
    split
    · rw [if_neg hs]
    · rfl)
theorem AI.start {ts : List Tk} {ar : List Nd} {ov : List Nat} {os : List Mk} (h : PT ar ov os) : AI after0 (after0 (tkS (hdT ts)) ts ar ov os) (tkS (hdT ts)) ts (decide ((hdT ts).k = 1)) ar (ci ov) os := by
  have hl := h.ht
  refine ⟨by simpa [ci] using hl, h.mn, ?_⟩
  by_cases h1 : (hdT ts).k = 1
  · exact .inl ⟨by simp [h1], after_char h1, .inl (by unfold tkS; rw [if_neg (by omega)])⟩
  · exact .inr ⟨by simp [h1], ov, rfl, h, rfl⟩

end Go.Proofs.Qxb6500570aGreat
