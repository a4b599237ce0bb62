import Derived.Test.Qxb6500570aGreatPg
/- Plain: the parser's machine with a flag for faults: what is done behind a first fault. -/
namespace Go.Proofs.Qxb6500570aGreat
set_option linter.unusedVariables false
set_option linter.unusedSimpArgs false

abbrev nNegI (a : Int) : Nd := ⟨6, 0, a, -1, 0, zR, zR⟩
abbrev nBinI (o : Nat) (a b : Int) : Nd := ⟨7, o, a, b, 0, zR, zR⟩
abbrev nArgI (a b : Int) : Nd := ⟨9, 0, a, b, 0, zR, zR⟩

/-- Is there a fault; the arena; the place. -/
def addX (bad : Bool) (ar : List Nd) (x : Nd) : Bool × List Nd × Int := if bad = true then (true, ar, -1) else if ar.length < 24 then (false, ar ++ [x], (ar.length : Int)) else (true, ar, -1)
def joinX (m : Mk) (bad : Bool) (ar : List Nd) (ov : List Int) : Bool × List Nd × List Int := match ov with
  | b :: a :: ov' => ((addX bad ar (nBinI m.o a b)).1, (addX bad ar (nBinI m.o a b)).2.1, (addX bad ar (nBinI m.o a b)).2.2 :: ov')
  | _ => (bad, ar, ov)
def settleX : List Mk → Bool → List Nd → List Int → Bool × List Nd × List Int × List Mk
  | [], bad, ar, ov => (bad, ar, ov, [])
  | m :: os, bad, ar, ov => if m.k = 1 then
        match ov with
        | v :: ov' => settleX os (addX bad ar (nNegI v)).1 (addX bad ar (nNegI v)).2.1 ((addX bad ar (nNegI v)).2.2 :: ov')
        | [] => (bad, ar, ov, m :: os)
      else if m.k = 2 ∧ strg m.o = 3 then ((joinX m bad ar ov).1, (joinX m bad ar ov).2.1, (joinX m bad ar ov).2.2, os)
      else (bad, ar, ov, m :: os)
def wholeX (x : Nd) (bad : Bool) (ar : List Nd) (ov : List Int) (os : List Mk) : Bool × List Nd × List Int × List Mk := settleX os (addX bad ar x).1 (addX bad ar x).2.1 ((addX bad ar x).2.2 :: ov)

/-- How many operators wait. -/
def nb : List Mk → Nat
  | [] => 0
  | m :: os => (if m.k = 2 then 1 else 0) + nb os

theorem addX_bad (ar : List Nd) (x : Nd) : addX true ar x = (true, ar, -1) := rfl
theorem addX_lt {ar : List Nd} (h : ar.length < 24) (x : Nd) : addX false ar x = (false, ar ++ [x], (ar.length : Int)) := by simp [addX, h]
theorem addX_ge {ar : List Nd} (h : ¬ ar.length < 24) (x : Nd) : addX false ar x = (true, ar, -1) := by simp [addX, h]
theorem addX_len {bad : Bool} {ar : List Nd} {x : Nd} (h : ar.length ≤ 24) : (addX bad ar x).2.1.length ≤ 24 := by
  unfold addX
  repeat' split
  all_goals simp
  all_goals omega
theorem joinX_bad (m : Mk) (ar : List Nd) (ov : List Int) : (joinX m true ar ov).1 = true := by
  unfold joinX
  split <;> rfl
theorem settleX_bad : ∀ (os : List Mk) (ar : List Nd) (ov : List Int), (settleX os true ar ov).1 = true
  | [], _, _ => rfl
  | m :: os, ar, ov => by
    unfold settleX
    split
    · split
      · exact settleX_bad os _ _
      · rfl
    · split
      · exact joinX_bad _ _ _
      · rfl
theorem joinX_len {m : Mk} {bad : Bool} {ar : List Nd} {ov : List Int} (h : ar.length ≤ 24) : (joinX m bad ar ov).2.1.length ≤ 24 := by
  unfold joinX
  split
  · exact addX_len h
  · exact h
theorem joinX_ov {m : Mk} {bad : Bool} {ar : List Nd} {ov : List Int} (h : 2 ≤ ov.length) : (joinX m bad ar ov).2.2.length + 1 = ov.length := by
  unfold joinX
  split
  · simp
  · rename_i hn
    match ov, h with
    | b :: a :: r, _ => exact absurd rfl (hn b a r)
theorem settleX_len : ∀ {os : List Mk} {bad : Bool} {ar : List Nd} {ov : List Int}, ar.length ≤ 24 → (settleX os bad ar ov).2.1.length ≤ 24
  | [], _, _, _, h => h
  | m :: os, bad, ar, ov, h => by
    unfold settleX
    split
    · split
      · exact settleX_len (addX_len h)
      · exact h
    · split
      · exact joinX_len h
      · exact h
/-- The heights go together. -/
theorem settleX_ht : ∀ {os : List Mk} {bad : Bool} {ar : List Nd} {ov : List Int}, ov.length = nb os + 1 → (settleX os bad ar ov).2.2.1.length = nb (settleX os bad ar ov).2.2.2 + 1 ∧ (settleX os bad ar ov).2.2.2.length ≤ os.length ∧ (settleX os bad ar ov).2.2.1.length ≤ ov.length
  | [], _, _, _, h => ⟨h, Nat.le_refl _, Nat.le_refl _⟩
  | m :: os, bad, ar, ov, h => by
    unfold settleX
    split
    · rename_i hm
      have hn : nb (m :: os) = nb os := by simp [nb, hm]
      rw [hn] at h
      cases ov with
      | nil => simp at h
      | cons v ov =>
        simp only
        have := settleX_ht (os := os) (bad := (addX bad ar (nNegI v)).1) (ar := (addX bad ar (nNegI v)).2.1) (ov := (addX bad ar (nNegI v)).2.2 :: ov) (by simpa using h)
        simp only [List.length_cons] at this ⊢
        exact ⟨this.1, by omega, this.2.2⟩
    · split
      · rename_i hm hm2
        have hn : nb (m :: os) = nb os + 1 := by simp [nb, hm2.1]; omega
        have := joinX_ov (m := m) (bad := bad) (ar := ar) (ov := ov) (by omega)
        simp only [List.length_cons]
        exact ⟨by omega, by omega, by omega⟩
      · exact ⟨h, Nat.le_refl _, Nat.le_refl _⟩

/-- No fault: as the machine. -/
abbrev ci (ov : List Nat) : List Int := ov.map (fun n : Nat => (n : Int))
theorem joinX_some {m : Mk} {ar : List Nd} {ov : List Nat} {x : List Nd × List Nat} (h : joinP m ar ov = some x) : joinX m false ar (ci ov) = (false, x.1, ci x.2) := by
  unfold joinP at h
  split at h
  · rename_i b a ov'
    cases ha : addN ar (nBin m.o a b) with
    | none => simp [ha] at h
    | some ar' =>
      simp only [ha, Option.map_some, Option.some.injEq] at h
      subst h
      obtain ⟨rfl, hlt⟩ := addN_ok ha
      simp only [ci, List.map_cons, joinX]
      rw [addX_lt hlt]
  · cases h
theorem joinX_none {m : Mk} {ar : List Nd} {ov : List Nat} (hl : 2 ≤ ov.length) (h : joinP m ar ov = none) : (joinX m false ar (ci ov)).1 = true := by
  match ov, hl with
  | b :: a :: r, _ =>
    unfold joinP at h
    simp only at h
    have hn : ¬ ar.length < 24 := by
      intro hlt
      rw [addN_lt hlt] at h
      cases h
    simp only [ci, List.map_cons, joinX]
    rw [addX_ge hn]
theorem settleX_some : ∀ {os : List Mk} {ar : List Nd} {ov : List Nat} {x : List Nd × List Nat × List Mk}, settle os ar ov = some x → settleX os false ar (ci ov) = (false, x.1, ci x.2.1, x.2.2)
  | [], ar, ov, x, h => by simp only [settle, Option.some.injEq] at h; subst h; rfl
  | m :: os, ar, ov, x, h => by
    unfold settle at h
    unfold settleX
    split at h
    · rename_i hm
      rw [if_pos hm]
      cases ov with
      | nil => cases h
      | cons v ov =>
        simp only at h
        cases ha : addN ar (nNeg v) with
        | none => simp [ha] at h
        | some ar' =>
          simp only [ha] at h
          obtain ⟨rfl, hlt⟩ := addN_ok ha
          have := settleX_some h
          simp only [ci, List.map_cons]
          rw [addX_lt hlt]
          exact this
    · rename_i hm
      rw [if_neg hm]
      split at h
      · rename_i hm2
        rw [if_pos hm2]
        cases hj : joinP m ar ov with
        | none => simp [hj] at h
        | some y =>
          simp only [hj, Option.map_some, Option.some.injEq] at h
          subst h
          rw [joinX_some hj]
      · rename_i hm2
        rw [if_neg hm2]
        simp only [Option.some.injEq] at h
        subst h
        rfl
theorem settleX_none : ∀ {os : List Mk} {ar : List Nd} {ov : List Nat}, ov.length = nb os + 1 → settle os ar ov = none → (settleX os false ar (ci ov)).1 = true
  | [], ar, ov, hl, h => by simp [settle] at h
  | m :: os, ar, ov, hl, h => by
    unfold settle at h
    unfold settleX
    split at h
    · rename_i hm
      rw [if_pos hm]
      have hn : nb (m :: os) = nb os := by simp [nb, hm]
      cases ov with
      | nil => simp at hl
      | cons v ov =>
        simp only at h
        simp only [ci, List.map_cons]
        by_cases hlt : ar.length < 24
        · rw [addN_lt hlt] at h
          rw [addX_lt hlt]
          exact settleX_none (os := os) (ov := ar.length :: ov) (by simpa [hn] using hl) h
        · rw [addX_ge hlt]
          exact settleX_bad _ _ _
    · rename_i hm
      rw [if_neg hm]
      split at h
      · rename_i hm2
        rw [if_pos hm2]
        have hn : nb (m :: os) = nb os + 1 := by simp [nb, hm2.1]; omega
        cases hj : joinP m ar ov with
        | none => exact joinX_none (by omega) hj
        | some y => simp [hj] at h
      · cases h
theorem wholeX_some {x : Nd} {ts : List Tk} {ar : List Nd} {ov : List Nat} {os : List Mk} {st : PS} (h : wholeP x ts ar ov os = some st) : wholeX x false ar (ci ov) os = (false, st.ar, ci st.ov, st.os) := by
  unfold wholeP at h
  split at h
  · rename_i ar' ha
    obtain ⟨rfl, hlt⟩ := addN_ok ha
    unfold settleS at h
    cases hs : settle os (ar ++ [x]) (ar.length :: ov) with
    | none => simp [hs] at h
    | some y =>
      simp only [hs, Option.map_some, Option.some.injEq] at h
      subst h
      have := settleX_some hs
      unfold wholeX
      rw [addX_lt hlt]
      exact this
  · cases h
theorem wholeX_none {x : Nd} {ts : List Tk} {ar : List Nd} {ov : List Nat} {os : List Mk} (hl : ov.length = nb os) (h : wholeP x ts ar ov os = none) : (wholeX x false ar (ci ov) os).1 = true := by
  unfold wholeX
  by_cases hlt : ar.length < 24
  · unfold wholeP at h
    rw [addN_lt hlt] at h
    simp only at h
    unfold settleS at h
    cases hs : settle os (ar ++ [x]) (ar.length :: ov) with
    | none =>
      rw [addX_lt hlt]
      exact settleX_none (ov := ar.length :: ov) (by simpa using hl) hs
    | some y => simp [hs] at h
  · rw [addX_ge hlt]
    exact settleX_bad _ _ _
theorem wholeX_bad (x : Nd) (ar : List Nd) (ov : List Int) (os : List Mk) : (wholeX x true ar ov os).1 = true := by
  unfold wholeX
  rw [addX_bad]
  exact settleX_bad _ _ _

/-- The heights of a machine's state. -/
theorem Stk.ht {ar : List Nd} : ∀ {os : List Mk} {ov : List Nat} {hi : Nat}, Stk ar os ov hi → ov.length = nb os
  | [], ov, hi, h => by rw [h.1]; rfl
  | m :: os, ov, hi, h => by
    rcases h with ⟨h1, _, h3⟩ | ⟨h1, _, h3⟩ | ⟨h1, _, _, _, v, ov', lo, rfl, _, _, h8⟩ | ⟨h1, _, _, h4⟩
    · simp only [nb, h1]; have := h3.ht; simp; omega
    · simp only [nb, h1]; have := h3.ht; simp; omega
    · simp only [nb, h1, List.length_cons]; have := h8.ht; simp; omega
    · simp only [nb, h1]
      rcases h4 with ⟨_, _, h6⟩ | ⟨_, l, lo, _, _, _, h8⟩
      · have := h6.ht; simp; omega
      · have := h8.ht; simp; omega
theorem PT.ht {ar : List Nd} {ov : List Nat} {os : List Mk} (h : PT ar ov os) : ov.length = nb os + 1 := by
  obtain ⟨_, v, ov', lo, rfl, _, _, hk⟩ := h
  have := hk.ht
  simp; omega

end Go.Proofs.Qxb6500570aGreat
