import Derived.Test.Qxb6500569aGreatPc
/- Plain: the occurs check and the unification, by stacks, under the budget of steps. -/
namespace Go.Proofs.Qxb6500569aGreat
set_option linter.unusedVariables false
set_option linter.unusedSimpArgs false

def kidsOf (hp : List Nd) (a : Nat) : List Nat := match hp[a]? with | some nd => nd.a.take (ar nd.h) | none => []

/-- fuel, the stack (its top first), the steps so far: the steps, and 0 (no), 7 (met), 8 (too many). -/
def occL (hp : List Nd) (v : Nat) : Nat → List Nat → Nat → Nat × Nat
  | 0, _, n => (n, 8)
  | _ + 1, [], n => (n, 0)
  | f + 1, t :: st, n => if 40 < n + 1 then (n + 1, 8) else if deref hp t = v then (n + 1, 7) else occL hp v f (kidsOf hp (deref hp t) ++ st) (n + 1)

def occS (hp : List Nd) (v : Nat) (st : List Nat) (n : Nat) : Nat × Nat := occL hp v (42 - n) st n

theorem occS_nil (hp : List Nd) (v n : Nat) (h : n ≤ 41) : occS hp v [] n = (n, 0) := by
  unfold occS
  rw [show 42 - n = (41 - n) + 1 by omega]
  rfl

theorem occS_cons (hp : List Nd) (v t n : Nat) (st : List Nat) (h : n ≤ 40) : occS hp v (t :: st) n = if 40 < n + 1 then (n + 1, 8) else if deref hp t = v then (n + 1, 7) else occS hp v (kidsOf hp (deref hp t) ++ st) (n + 1) := by
  unfold occS
  rw [show 42 - n = (41 - n) + 1 by omega]
  simp only [occL]
  rw [show 42 - (n + 1) = 41 - n by omega]

theorem occS_big (hp : List Nd) (v t : Nat) (st : List Nat) : occS hp v (t :: st) 40 = (41, 8) := by rw [occS_cons _ _ _ _ _ (by omega)]; simp

/-- A binding. -/
def bnd (hp : List Nd) (v t : Nat) : List Nd := hp.set v ⟨[], t, [0, 0, 0, 0]⟩

def hOf (hp : List Nd) (a : Nat) : List UInt8 := match hp[a]? with | some nd => nd.h | none => []

/-- fuel, the stack of pairs, the heap, the steps so far: the steps, the verdict, the heap. -/
def uniL : Nat → List (Nat × Nat) → List Nd → Nat → Nat × Nat × List Nd
  | 0, _, hp, n => (n, 8, hp)
  | _ + 1, [], hp, n => (n, 0, hp)
  | f + 1, (a, b) :: st, hp, n =>
    if 40 < n + 1 then (n + 1, 8, hp) else
    let x := deref hp a
    let y := deref hp b
    if x = y then uniL f st hp (n + 1)
    else if hOf hp x = [] ∧ hOf hp y = [] then uniL f st (if x < y then bnd hp y x else bnd hp x y) (n + 1)
    else if hOf hp x = [] then
      (match occS hp x [y] (n + 1) with
        | (m, 0) => uniL f st (bnd hp x y) m
        | (m, e) => (m, e, hp))
    else if hOf hp y = [] then
      (match occS hp y [x] (n + 1) with
        | (m, 0) => uniL f st (bnd hp y x) m
        | (m, e) => (m, e, hp))
    else if hOf hp x ≠ hOf hp y then (n + 1, 7, hp)
    else uniL f ((kidsOf hp x).zip (kidsOf hp y) ++ st) hp (n + 1)

theorem occL_steps (hp : List Nd) (v : Nat) : ∀ (f : Nat) (st : List Nat) (n : Nat), n ≤ (occL hp v f st n).1 ∧ (n ≤ 40 → (occL hp v f st n).1 ≤ 41)
  | 0, st, n => ⟨Nat.le_refl _, fun h => by simp [occL]; omega⟩
  | f + 1, [], n => ⟨Nat.le_refl _, fun h => by simp [occL]; omega⟩
  | f + 1, t :: st, n => by
    simp only [occL]
    split
    · exact ⟨by simp, fun h => by simp; omega⟩
    · split
      · exact ⟨by simp, fun h => by simp; omega⟩
      · have ih := occL_steps hp v f (kidsOf hp (deref hp t) ++ st) (n + 1)
        exact ⟨by omega, fun h => ih.2 (by omega)⟩

theorem occS_steps (hp : List Nd) (v : Nat) (st : List Nat) (n : Nat) : n ≤ (occS hp v st n).1 ∧ (n ≤ 40 → (occS hp v st n).1 ≤ 41) := occL_steps hp v _ st n

/-- An answer '0' comes with at most forty steps. -/
theorem occL_ok (hp : List Nd) (v : Nat) : ∀ (f : Nat) (st : List Nat) (n : Nat), n ≤ 40 → (occL hp v f st n).2 = 0 → (occL hp v f st n).1 ≤ 40
  | 0, st, n, _, h => by simp [occL] at h
  | f + 1, [], n, h, _ => by simp [occL]; exact h
  | f + 1, t :: st, n, hn, h => by
    simp only [occL] at h ⊢
    split at h
    · simp at h
    · rename_i h1
      rw [if_neg h1]
      split at h
      · simp at h
      · rename_i h2
        rw [if_neg h2]
        exact occL_ok hp v f _ (n + 1) (by omega) h

theorem occS_ok (hp : List Nd) (v : Nat) (st : List Nat) (n : Nat) (hn : n ≤ 40) (h : (occS hp v st n).2 = 0) : (occS hp v st n).1 ≤ 40 := occL_ok hp v _ st n hn h

def uniS (st : List (Nat × Nat)) (hp : List Nd) (n : Nat) : Nat × Nat × List Nd := uniL (42 - n) st hp n

theorem uniL_fuel : ∀ (f g : Nat) (st : List (Nat × Nat)) (hp : List Nd) (n : Nat), n ≤ 40 → 42 - n ≤ f → 42 - n ≤ g → uniL f st hp n = uniL g st hp n
  | 0, g, st, hp, n, hn, hf, _ => by omega
  | f + 1, 0, st, hp, n, hn, _, hg => by omega
  | f + 1, g + 1, [], hp, n, _, _, _ => rfl
  | f + 1, g + 1, (a, b) :: st, hp, n, hn, hf, hg => by
    simp only [uniL]
    split
    · rfl
    · rename_i h1
      split
      · exact uniL_fuel f g st hp (n + 1) (by omega) (by omega) (by omega)
      · split
        · exact uniL_fuel f g st _ (n + 1) (by omega) (by omega) (by omega)
        · split
          · have hs := occS_steps hp (deref hp a) [deref hp b] (n + 1)
            have hk := occS_ok hp (deref hp a) [deref hp b] (n + 1) (by omega)
            cases hx : occS hp (deref hp a) [deref hp b] (n + 1) with
            | mk m e =>
              rw [hx] at hs hk
              cases e with
              | zero => simp only; have hk := hk rfl; exact uniL_fuel f g st _ m (by omega) (by simp at hs; omega) (by simp at hs; omega)
              | succ e => rfl
          · split
            · have hs := occS_steps hp (deref hp b) [deref hp a] (n + 1)
              have hk := occS_ok hp (deref hp b) [deref hp a] (n + 1) (by omega)
              cases hx : occS hp (deref hp b) [deref hp a] (n + 1) with
              | mk m e =>
                rw [hx] at hs hk
                cases e with
                | zero => simp only; have hk := hk rfl; exact uniL_fuel f g st _ m (by omega) (by simp at hs; omega) (by simp at hs; omega)
                | succ e => rfl
            · split
              · rfl
              · exact uniL_fuel f g _ hp (n + 1) (by omega) (by omega) (by omega)

theorem uniS_nil (hp : List Nd) (n : Nat) (h : n ≤ 40) : uniS [] hp n = (n, 0, hp) := by
  unfold uniS
  rw [show 42 - n = (41 - n) + 1 by omega]
  rfl

theorem uniS_cons (a b : Nat) (st : List (Nat × Nat)) (hp : List Nd) (n : Nat) (h : n ≤ 40) : uniS ((a, b) :: st) hp n =
    if 40 < n + 1 then (n + 1, 8, hp) else
    if deref hp a = deref hp b then uniS st hp (n + 1)
    else if hOf hp (deref hp a) = [] ∧ hOf hp (deref hp b) = [] then uniS st (if deref hp a < deref hp b then bnd hp (deref hp b) (deref hp a) else bnd hp (deref hp a) (deref hp b)) (n + 1)
    else if hOf hp (deref hp a) = [] then
      (match occS hp (deref hp a) [deref hp b] (n + 1) with
        | (m, 0) => uniS st (bnd hp (deref hp a) (deref hp b)) m
        | (m, e) => (m, e, hp))
    else if hOf hp (deref hp b) = [] then
      (match occS hp (deref hp b) [deref hp a] (n + 1) with
        | (m, 0) => uniS st (bnd hp (deref hp b) (deref hp a)) m
        | (m, e) => (m, e, hp))
    else if hOf hp (deref hp a) ≠ hOf hp (deref hp b) then (n + 1, 7, hp)
    else uniS ((kidsOf hp (deref hp a)).zip (kidsOf hp (deref hp b)) ++ st) hp (n + 1) := by
  unfold uniS
  rw [show 42 - n = (41 - n) + 1 by omega]
  simp only [uniL]
  split
  · rfl
  · rename_i h1
    have e : 42 - (n + 1) = 41 - n := by omega
    rw [e]
    split
    · rfl
    · split
      · rfl
      · split
        · have hs := occS_steps hp (deref hp a) [deref hp b] (n + 1)
          have hk := occS_ok hp (deref hp a) [deref hp b] (n + 1) (by omega)
          cases hx : occS hp (deref hp a) [deref hp b] (n + 1) with
          | mk m e =>
            rw [hx] at hs hk
            cases e with
            | zero => simp only; have hk := hk rfl; exact uniL_fuel _ _ st _ m (by omega) (by simp at hs; omega) (by simp at hs; omega)
            | succ e => rfl
        · split
          · have hs := occS_steps hp (deref hp b) [deref hp a] (n + 1)
            have hk := occS_ok hp (deref hp b) [deref hp a] (n + 1) (by omega)
            cases hx : occS hp (deref hp b) [deref hp a] (n + 1) with
            | mk m e =>
              rw [hx] at hs hk
              cases e with
              | zero => simp only; have hk := hk rfl; exact uniL_fuel _ _ st _ m (by omega) (by simp at hs; omega) (by simp at hs; omega)
              | succ e => rfl
          · split
            · rfl
            · rfl

end Go.Proofs.Qxb6500569aGreat
