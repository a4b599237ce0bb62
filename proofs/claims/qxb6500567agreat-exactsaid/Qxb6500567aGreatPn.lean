import Derived.Test.Qxb6500567aGreatPm
/- The compiler's machine of work, plain; its code is a program. -/
namespace Go.Proofs.Qxb6500567aGreat
set_option linter.unusedVariables false
set_option linter.unusedSimpArgs false

/-- An instruction as it lies. -/
structure RI where
  op : Nat
  x : Int
  y : Int
  S : Nat

def insR : Ins → RI
  | .inl S => ⟨0, 0, 0, S⟩
  | .inr (.inl (x, y)) => ⟨1, x, y, 0⟩
  | .inr (.inr (.inl x)) => ⟨2, x, 0, 0⟩
  | .inr (.inr (.inr (.inl k))) => ⟨3, k, 0, 0⟩
  | .inr (.inr (.inr (.inr (.inl ())))) => ⟨4, 0, 0, 0⟩
  | .inr (.inr (.inr (.inr (.inr (.inl ()))))) => ⟨5, 0, 0, 0⟩
  | .inr (.inr (.inr (.inr (.inr (.inr ()))))) => ⟨6, 0, 0, 0⟩

abbrev insL (L : List Ins) : List RI := L.map insR

/-- A piece of work. -/
structure CK where
  what : Nat
  a : Nat
  r : RE
  b : Nat

structure CS where
  C : List RI
  W : List CK

/-- One instruction learns a place. -/
def upI (f : RI → RI) : List RI → Nat → List RI
  | [], _ => []
  | x :: C, 0 => f x :: C
  | x :: C, k + 1 => x :: upI f C k

theorem upI_at (f : RI → RI) (x : RI) (D : List RI) : ∀ C : List RI, upI f (C ++ x :: D) C.length = C ++ f x :: D
  | [] => rfl
  | y :: C => by show y :: upI f (C ++ x :: D) C.length = _; rw [upI_at f x D C]; rfl

theorem upI_len (f : RI → RI) : ∀ (C : List RI) (k : Nat), (upI f C k).length = C.length
  | [], _ => rfl
  | x :: C, 0 => rfl
  | x :: C, k + 1 => by show (upI f C k).length + 1 = C.length + 1; rw [upI_len f C k]

def setX (v : Int) (i : RI) : RI := { i with x := v }
def setY (v : Int) (i : RI) : RI := { i with y := v }

abbrev ckn (r : RE) : CK := ⟨0, 0, r, 0⟩

def nodeC (r : RE) (σ : CS) : CS :=
  match r with
  | .goto S => { σ with C := σ.C ++ [⟨0, 0, 0, S⟩] }
  | .ret => { σ with C := σ.C ++ [⟨4, 0, 0, 0⟩] }
  | .label _ => { σ with C := σ.C ++ [⟨5, 0, 0, 0⟩] }
  | .seq a b => { σ with W := ckn a :: ckn b :: σ.W }
  | .cond _ a b => ⟨σ.C ++ [⟨1, σ.C.length + 1, -1, 0⟩], ckn a :: ⟨1, σ.C.length, b, 0⟩ :: σ.W⟩
  | .rangeFunc _ _ x a => if rlz x then ⟨σ.C ++ [⟨1, -1, σ.C.length + 1, 0⟩], ckn a :: ⟨3, σ.C.length, .skip, 1⟩ :: σ.W⟩
    else ⟨σ.C ++ [⟨1, σ.C.length + 1, -1, 0⟩], ckn a :: ⟨3, σ.C.length, .skip, 0⟩ :: σ.W⟩
  | .block g a => ⟨σ.C ++ [⟨3, (2 * g : Nat), 0, 0⟩], ckn a :: ⟨4, 2 * g + 1, .skip, 0⟩ :: σ.W⟩
  | _ => σ

def stepC (t : CK) (σ : CS) : CS :=
  if t.what = 0 then nodeC t.r σ
  else if t.what = 1 then ⟨upI (setY (σ.C.length + 1)) (σ.C ++ [⟨2, -1, 0, 0⟩]) t.a, ckn t.r :: ⟨2, σ.C.length, .skip, 0⟩ :: σ.W⟩
  else if t.what = 2 then ⟨upI (setX σ.C.length) σ.C t.a, σ.W⟩
  else if t.what = 3 then (if t.b = 1 then ⟨upI (setX (σ.C.length + 1)) (σ.C ++ [⟨2, t.a, 0, 0⟩]) t.a, σ.W⟩ else ⟨upI (setY (σ.C.length + 1)) (σ.C ++ [⟨2, t.a, 0, 0⟩]) t.a, σ.W⟩)
  else ⟨σ.C ++ [⟨3, t.a, 0, 0⟩], σ.W⟩

def runC : Nat → CS → CS
  | 0, σ => σ
  | k + 1, σ => match σ.W with
    | [] => σ
    | t :: W => runC k (stepC t ⟨σ.C, W⟩)

theorem runC_add : ∀ (j k : Nat) (σ : CS), runC (j + k) σ = runC k (runC j σ)
  | 0, k, σ => by rw [Nat.zero_add]; rfl
  | j + 1, k, ⟨C, []⟩ => by
    rw [show j + 1 + k = (j + k) + 1 by omega]
    cases k <;> rfl
  | j + 1, k, ⟨C, t :: W⟩ => by
    rw [show j + 1 + k = (j + k) + 1 by omega]
    simp only [runC]
    exact runC_add j k _

/-- How many pieces a tree asks for. -/
def wks : RE → Nat
  | .seq a b => 1 + wks a + wks b
  | .cond _ a b => 3 + wks a + wks b
  | .rangeFunc _ _ _ a => 2 + wks a
  | .block _ a => 2 + wks a
  | _ => 1

theorem wks_le : ∀ r : RE, wks r ≤ 3 * nds r := by
  intro r
  induction r with
  | seq a b ia ib => simp only [wks, nds]; omega
  | cond _ a b ia ib => simp only [wks, nds]; omega
  | rangeFunc _ _ x a _ ia => simp only [wks, nds]; omega
  | block g a ia => simp only [wks, nds]; omega
  | skip | region _ _ _ | exit _ | refuse _ | loop _ _ | scope _ _ | goto _ | ret | label _ => simp only [wks, nds]; omega

theorem len_lay (C : List RI) (r : RE) (pc : Nat) : (C ++ insL (E r pc)).length = C.length + elen r := by simp [E_len]

theorem runC_ok : ∀ (r : RE) (C : List RI) (W : List CK), runC (wks r) ⟨C, ckn r :: W⟩ = ⟨C ++ insL (E r C.length), W⟩ := by
  intro r
  induction r with
  | skip | region _ _ _ | exit _ | refuse _ | loop _ _ | scope _ _ => intro C W; simp [wks, runC, stepC, nodeC, E]
  | goto S => intro C W; simp [wks, runC, stepC, nodeC, E, insR]
  | ret => intro C W; simp [wks, runC, stepC, nodeC, E, insR]
  | label l => intro C W; simp [wks, runC, stepC, nodeC, E, insR]
  | seq a b ia ib =>
    intro C W
    simp only [wks]
    rw [show 1 + wks a + wks b = 1 + (wks a + wks b) by omega, runC_add 1]
    have h1 : runC 1 ⟨C, ckn (.seq a b) :: W⟩ = ⟨C, ckn a :: ckn b :: W⟩ := rfl
    rw [h1, runC_add, ia, ib, len_lay]
    simp [E]
  | cond c a b ia ib =>
    intro C W
    simp only [wks]
    rw [show 3 + wks a + wks b = 1 + (wks a + (1 + (wks b + 1))) by omega, runC_add 1]
    have h1 : runC 1 ⟨C, ckn (.cond c a b) :: W⟩ = ⟨C ++ [⟨1, C.length + 1, -1, 0⟩], ckn a :: ⟨1, C.length, b, 0⟩ :: W⟩ := rfl
    rw [h1, runC_add, ia, runC_add 1]
    have hl : (C ++ [(⟨1, C.length + 1, -1, 0⟩ : RI)] ++ insL (E a (C ++ [(⟨1, C.length + 1, -1, 0⟩ : RI)]).length)).length = C.length + elen a + 1 := by simp [E_len]; omega
    have h2 : ∀ D : List RI, D.length = C.length + elen a + 1 → runC 1 ⟨D, ⟨1, C.length, b, 0⟩ :: W⟩ = ⟨upI (setY ((C.length + elen a + 1 : Nat) + 1)) (D ++ [⟨2, -1, 0, 0⟩]) C.length, ckn b :: ⟨2, C.length + elen a + 1, .skip, 0⟩ :: W⟩ := by
      intro D hD
      show (⟨upI (setY (D.length + 1)) (D ++ [⟨2, -1, 0, 0⟩]) C.length, ckn b :: ⟨2, D.length, .skip, 0⟩ :: W⟩ : CS) = _
      rw [hD]
    rw [h2 _ hl]
    have hu : upI (setY ((C.length + elen a + 1 : Nat) + 1)) (C ++ [(⟨1, C.length + 1, -1, 0⟩ : RI)] ++ insL (E a (C ++ [(⟨1, C.length + 1, -1, 0⟩ : RI)]).length) ++ [⟨2, -1, 0, 0⟩]) C.length = C ++ [⟨1, C.length + 1, C.length + elen a + 2, 0⟩] ++ insL (E a (C.length + 1)) ++ [⟨2, -1, 0, 0⟩] := by
      have := upI_at (setY ((C.length + elen a + 1 : Nat) + 1)) ⟨1, C.length + 1, -1, 0⟩ (insL (E a (C ++ [(⟨1, C.length + 1, -1, 0⟩ : RI)]).length) ++ [⟨2, -1, 0, 0⟩]) C
      simp only [List.append_assoc, List.cons_append, List.nil_append] at this ⊢
      rw [this]
      simp [setY]
      omega
    rw [hu, runC_add, ib]
    have hl2 : (C ++ [(⟨1, C.length + 1, C.length + elen a + 2, 0⟩ : RI)] ++ insL (E a (C.length + 1)) ++ [(⟨2, -1, 0, 0⟩ : RI)]).length = C.length + elen a + 2 := by simp [E_len]; omega
    rw [hl2]
    have h3 : ∀ D : List RI, runC 1 ⟨D, ⟨2, C.length + elen a + 1, .skip, 0⟩ :: W⟩ = ⟨upI (setX D.length) D (C.length + elen a + 1), W⟩ := fun D => rfl
    rw [h3]
    have hl3 : (C ++ [(⟨1, C.length + 1, C.length + elen a + 2, 0⟩ : RI)] ++ insL (E a (C.length + 1)) ++ [(⟨2, -1, 0, 0⟩ : RI)] ++ insL (E b (C.length + elen a + 2))).length = C.length + elen a + elen b + 2 := by simp [E_len]; omega
    rw [hl3]
    have hA : (C ++ [(⟨1, C.length + 1, C.length + elen a + 2, 0⟩ : RI)] ++ insL (E a (C.length + 1))).length = C.length + elen a + 1 := by simp [E_len]; omega
    have hu2 := upI_at (setX ((C.length + elen a + elen b + 2 : Nat) : Int)) ⟨2, -1, 0, 0⟩ (insL (E b (C.length + elen a + 2))) (C ++ [(⟨1, C.length + 1, C.length + elen a + 2, 0⟩ : RI)] ++ insL (E a (C.length + 1)))
    rw [hA] at hu2
    rw [List.append_assoc (C ++ [(⟨1, C.length + 1, C.length + elen a + 2, 0⟩ : RI)] ++ insL (E a (C.length + 1))) [⟨2, -1, 0, 0⟩]]
    rw [show ([⟨2, -1, 0, 0⟩] ++ insL (E b (C.length + elen a + 2)) : List RI) = ⟨2, -1, 0, 0⟩ :: insL (E b (C.length + elen a + 2)) from rfl, hu2]
    simp [E, insR, setX]
  | rangeFunc ff ps x a _ ia =>
    intro C W
    simp only [wks]
    rw [show 2 + wks a = 1 + (wks a + 1) by omega, runC_add 1]
    cases hz : rlz x with
    | true =>
      have h1 : runC 1 ⟨C, ckn (.rangeFunc ff ps x a) :: W⟩ = ⟨C ++ [⟨1, -1, C.length + 1, 0⟩], ckn a :: ⟨3, C.length, .skip, 1⟩ :: W⟩ := by
        show nodeC (.rangeFunc ff ps x a) ⟨C, W⟩ = _
        simp [nodeC, hz]
      rw [h1, runC_add, ia]
      have hl : (C ++ [(⟨1, -1, C.length + 1, 0⟩ : RI)] ++ insL (E a (C ++ [(⟨1, -1, C.length + 1, 0⟩ : RI)]).length)).length = C.length + elen a + 1 := by simp [E_len]; omega
      have h2 : ∀ D : List RI, D.length = C.length + elen a + 1 → runC 1 ⟨D, ⟨3, C.length, .skip, 1⟩ :: W⟩ = ⟨upI (setX ((C.length + elen a + 1 : Nat) + 1)) (D ++ [⟨2, C.length, 0, 0⟩]) C.length, W⟩ := by
        intro D hD
        show (⟨upI (setX (D.length + 1)) (D ++ [⟨2, C.length, 0, 0⟩]) C.length, W⟩ : CS) = _
        rw [hD]
      rw [h2 _ hl]
      have hu := upI_at (setX ((C.length + elen a + 1 : Nat) + 1)) ⟨1, -1, C.length + 1, 0⟩ (insL (E a (C ++ [(⟨1, -1, C.length + 1, 0⟩ : RI)]).length) ++ [⟨2, C.length, 0, 0⟩]) C
      simp only [List.append_assoc, List.cons_append, List.nil_append] at hu ⊢
      rw [hu]
      simp [E, insR, setX, hz]
      omega
    | false =>
      have h1 : runC 1 ⟨C, ckn (.rangeFunc ff ps x a) :: W⟩ = ⟨C ++ [⟨1, C.length + 1, -1, 0⟩], ckn a :: ⟨3, C.length, .skip, 0⟩ :: W⟩ := by
        show nodeC (.rangeFunc ff ps x a) ⟨C, W⟩ = _
        simp [nodeC, hz]
      rw [h1, runC_add, ia]
      have hl : (C ++ [(⟨1, C.length + 1, -1, 0⟩ : RI)] ++ insL (E a (C ++ [(⟨1, C.length + 1, -1, 0⟩ : RI)]).length)).length = C.length + elen a + 1 := by simp [E_len]; omega
      have h2 : ∀ D : List RI, D.length = C.length + elen a + 1 → runC 1 ⟨D, ⟨3, C.length, .skip, 0⟩ :: W⟩ = ⟨upI (setY ((C.length + elen a + 1 : Nat) + 1)) (D ++ [⟨2, C.length, 0, 0⟩]) C.length, W⟩ := by
        intro D hD
        show (⟨upI (setY (D.length + 1)) (D ++ [⟨2, C.length, 0, 0⟩]) C.length, W⟩ : CS) = _
        rw [hD]
      rw [h2 _ hl]
      have hu := upI_at (setY ((C.length + elen a + 1 : Nat) + 1)) ⟨1, C.length + 1, -1, 0⟩ (insL (E a (C ++ [(⟨1, C.length + 1, -1, 0⟩ : RI)]).length) ++ [⟨2, C.length, 0, 0⟩]) C
      simp only [List.append_assoc, List.cons_append, List.nil_append] at hu ⊢
      rw [hu]
      simp [E, insR, setY, hz]
      omega
  | block g a ia =>
    intro C W
    simp only [wks]
    rw [show 2 + wks a = 1 + (wks a + 1) by omega, runC_add 1]
    have h1 : runC 1 ⟨C, ckn (.block g a) :: W⟩ = ⟨C ++ [⟨3, (2 * g : Nat), 0, 0⟩], ckn a :: ⟨4, 2 * g + 1, .skip, 0⟩ :: W⟩ := rfl
    rw [h1, runC_add, ia]
    have h2 : ∀ D : List RI, runC 1 ⟨D, ⟨4, 2 * g + 1, .skip, 0⟩ :: W⟩ = ⟨D ++ [⟨3, (2 * g + 1 : Nat), 0, 0⟩], W⟩ := fun D => rfl
    rw [h2]
    simp [E, insR]

/-- The compiled code. -/
theorem compile_ok {r : RE} (hn : nds r ≤ 31) : ∃ k, k ≤ 93 ∧ runC k ⟨[], [ckn r]⟩ = ⟨insL (E r 0), []⟩ ∧ ∀ C : List RI, C = insL (E r 0) → C ++ [insR .mat] = insL (codeOf r) := by
  refine ⟨wks r, by have := wks_le r; omega, ?_, ?_⟩
  · have := runC_ok r [] []
    rw [this]; simp
  · rintro C rfl
    simp [codeOf]

theorem runC_nil (C : List RI) : ∀ k, runC k ⟨C, []⟩ = ⟨C, []⟩
  | 0 => rfl
  | k + 1 => rfl

/-! ### It is a program -/

/-- The instruction may stand at pc in a program of n. -/
def InsOK (n pc : Nat) : Ins → Prop
  | .inl S => pc + 1 < n
  | .inr (.inl (x, y)) => x < n ∧ y < n
  | .inr (.inr (.inl x)) => x < n
  | .inr (.inr (.inr (.inl k))) => pc + 1 < n ∧ 2 ≤ k ∧ k < 8
  | .inr (.inr (.inr (.inr (.inl ())))) => pc + 1 < n
  | .inr (.inr (.inr (.inr (.inr (.inl ()))))) => pc + 1 < n
  | .inr (.inr (.inr (.inr (.inr (.inr ()))))) => True

theorem E_ok {n : Nat} : ∀ (r : RE) (pc : Nat), (∀ g ∈ gs r, 1 ≤ g ∧ g ≤ 3) → pc + elen r < n → ∀ (k : Nat) (x : Ins), (E r pc)[k]? = some x → InsOK n (pc + k) x := by
  intro r
  induction r with
  | skip | region _ _ _ | exit _ | refuse _ | loop _ _ | scope _ _ => intro pc hg hn k x hx; simp [E] at hx
  | goto S =>
    intro pc hg hn k x hx
    cases k with
    | zero => simp only [E, List.getElem?_cons_zero, Option.some.injEq] at hx; subst hx; exact hn
    | succ k => simp [E] at hx
  | ret =>
    intro pc hg hn k x hx
    cases k with
    | zero => simp only [E, List.getElem?_cons_zero, Option.some.injEq] at hx; subst hx; exact hn
    | succ k => simp [E] at hx
  | label l =>
    intro pc hg hn k x hx
    cases k with
    | zero => simp only [E, List.getElem?_cons_zero, Option.some.injEq] at hx; subst hx; exact hn
    | succ k => simp [E] at hx
  | seq a b ia ib =>
    intro pc hg hn k x hx
    simp only [elen] at hn
    simp only [gs, List.mem_append] at hg
    simp only [E] at hx
    by_cases hk : k < elen a
    · rw [List.getElem?_append_left (by rw [E_len]; exact hk)] at hx
      exact ia pc (fun g h => hg g (.inl h)) (by omega) k x hx
    · rw [List.getElem?_append_right (by rw [E_len]; omega), E_len] at hx
      have := ib (pc + elen a) (fun g h => hg g (.inr h)) (by omega) (k - elen a) x hx
      rw [show pc + elen a + (k - elen a) = pc + k by omega] at this
      exact this
  | cond c a b ia ib =>
    intro pc hg hn k x hx
    simp only [elen] at hn
    simp only [gs, List.mem_append] at hg
    simp only [E] at hx
    cases k with
    | zero => simp only [List.getElem?_cons_zero, Option.some.injEq] at hx; subst hx; exact ⟨by omega, by omega⟩
    | succ k =>
      rw [List.getElem?_cons_succ] at hx
      by_cases hk : k < elen a
      · rw [List.getElem?_append_left (by rw [E_len]; exact hk)] at hx
        have := ia (pc + 1) (fun g h => hg g (.inl h)) (by omega) k x hx
        rw [show pc + 1 + k = pc + (k + 1) by omega] at this
        exact this
      · rw [List.getElem?_append_right (by rw [E_len]; omega), E_len] at hx
        cases hj : k - elen a with
        | zero => rw [hj] at hx; simp only [List.getElem?_cons_zero, Option.some.injEq] at hx; subst hx; show _ < n; omega
        | succ j =>
          rw [hj, List.getElem?_cons_succ] at hx
          have := ib (pc + elen a + 2) (fun g h => hg g (.inr h)) (by omega) j x hx
          rw [show pc + elen a + 2 + j = pc + (k + 1) by omega] at this
          exact this
  | rangeFunc ff ps y a _ ia =>
    intro pc hg hn k x hx
    simp only [elen] at hn
    simp only [gs] at hg
    simp only [E] at hx
    cases k with
    | zero =>
      simp only [List.getElem?_cons_zero, Option.some.injEq] at hx
      subst hx
      cases rlz y
      · exact ⟨by omega, by omega⟩
      · exact ⟨by omega, by omega⟩
    | succ k =>
      rw [List.getElem?_cons_succ] at hx
      by_cases hk : k < elen a
      · rw [List.getElem?_append_left (by rw [E_len]; exact hk)] at hx
        have := ia (pc + 1) hg (by omega) k x hx
        rw [show pc + 1 + k = pc + (k + 1) by omega] at this
        exact this
      · rw [List.getElem?_append_right (by rw [E_len]; omega), E_len] at hx
        cases hj : k - elen a with
        | zero => rw [hj] at hx; simp only [List.getElem?_cons_zero, Option.some.injEq] at hx; subst hx; show _ < n; omega
        | succ j => rw [hj] at hx; simp at hx
  | block g a ia =>
    intro pc hg hn k x hx
    simp only [elen] at hn
    simp only [gs, List.mem_cons] at hg
    have hgg := hg g (.inl rfl)
    simp only [E] at hx
    cases k with
    | zero => simp only [List.getElem?_cons_zero, Option.some.injEq] at hx; subst hx; exact ⟨by omega, by omega, by omega⟩
    | succ k =>
      rw [List.getElem?_cons_succ] at hx
      by_cases hk : k < elen a
      · rw [List.getElem?_append_left (by rw [E_len]; exact hk)] at hx
        have := ia (pc + 1) (fun g h => hg g (.inr h)) (by omega) k x hx
        rw [show pc + 1 + k = pc + (k + 1) by omega] at this
        exact this
      · rw [List.getElem?_append_right (by rw [E_len]; omega), E_len] at hx
        cases hj : k - elen a with
        | zero => rw [hj] at hx; simp only [List.getElem?_cons_zero, Option.some.injEq] at hx; subst hx; exact ⟨by omega, by omega, by omega⟩
        | succ j => rw [hj] at hx; simp at hx

theorem elen_le : ∀ r : RE, elen r ≤ 2 * nds r := by
  intro r
  induction r with
  | seq a b ia ib => simp only [elen, nds]; omega
  | cond _ a b ia ib => simp only [elen, nds]; omega
  | rangeFunc _ _ x a _ ia => simp only [elen, nds]; omega
  | block g a ia => simp only [elen, nds]; omega
  | skip | region _ _ _ | exit _ | refuse _ | loop _ _ | scope _ _ | goto _ | ret | label _ => simp only [elen, nds]; omega

/-- A program. -/
structure PrgOK (p : List Ins) : Prop where
  pos : 0 < p.length
  le : p.length ≤ 64
  ok : ∀ (pc : Nat) (x : Ins), p[pc]? = some x → InsOK p.length pc x

theorem codeOf_prg {r : RE} (hw : WF r) (hn : nds (child r) ≤ 31) : PrgOK (codeOf (child r)) := by
  have hl : (codeOf (child r)).length = elen (child r) + 1 := by simp [codeOf, E_len]
  have he := elen_le (child r)
  refine ⟨by omega, by omega, ?_⟩
  intro pc x hx
  unfold codeOf at hx
  by_cases hk : pc < elen (child r)
  · rw [List.getElem?_append_left (by rw [E_len]; exact hk)] at hx
    have := E_ok (n := (codeOf (child r)).length) (child r) 0 (fun g hg => hw.gs (gs_child hg)) (by omega) pc x hx
    rw [Nat.zero_add] at this
    exact this
  · rw [List.getElem?_append_right (by rw [E_len]; omega), E_len] at hx
    cases hj : pc - elen (child r) with
    | zero => rw [hj] at hx; simp only [List.getElem?_cons_zero, Option.some.injEq] at hx; subst hx; trivial
    | succ j => rw [hj] at hx; simp at hx

end Go.Proofs.Qxb6500567aGreat
