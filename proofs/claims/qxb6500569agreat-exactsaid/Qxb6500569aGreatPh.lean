import Derived.Test.Qxb6500569aGreatPg
/- Plain: the grammar of a text. -/
namespace Go.Proofs.Qxb6500569aGreat
set_option linter.unusedVariables false
set_option linter.unusedSimpArgs false

def pk (t : List UInt8) : UInt8 := t.headD 0
def isUp (c : UInt8) : Bool := decide (65 ≤ c.toNat) && decide (c.toNat ≤ 90)
def isLo (c : UInt8) : Bool := decide (97 ≤ c.toNat) && decide (c.toNat ≤ 122)
def vAdd (vs : List UInt8) (c : UInt8) : List UInt8 := if c ∈ vs then vs else vs ++ [c]

/-- what a reading gives: the code, how many arguments, the text behind, the variables. -/
structure PR4 where
  code : List UInt8
  n : Nat
  rest : List UInt8
  vs : List UInt8

/-- fuel; mode 0: a term; 1: a call; k + 2: arguments behind k. -/
def pX : Nat → Nat → List UInt8 → List UInt8 → Option PR4
  | 0, _, _, _ => none
  | f + 1, 0, t, vs => if isUp (pk t) then some ⟨[UInt8.ofNat (65 + vs.idxOf (pk t))], 0, t.tail, vAdd vs (pk t)⟩ else pX f 1 t vs
  | f + 1, 1, t, vs =>
    if isLo (pk t) then
      if pk t.tail = 40 then
        (pX f 2 t.tail.tail vs).bind (fun r => if pk r.rest = 41 then some ⟨pk t :: UInt8.ofNat (48 + r.n) :: r.code, 0, r.rest.tail, r.vs⟩ else none)
      else some ⟨[pk t, 48], 0, t.tail, vs⟩
    else none
  | f + 1, k + 2, t, vs =>
    (pX f 0 t vs).bind (fun r => if 3 < k + 1 then none else if pk r.rest = 44 then (pX f (k + 3) r.rest.tail r.vs).map (fun q => ⟨r.code ++ q.code, q.n, q.rest, q.vs⟩) else some ⟨r.code, k + 1, r.rest, r.vs⟩)

theorem pX_e0 (f : Nat) (t vs : List UInt8) : pX (f + 1) 0 t vs = if isUp (pk t) then some ⟨[UInt8.ofNat (65 + vs.idxOf (pk t))], 0, t.tail, vAdd vs (pk t)⟩ else pX f 1 t vs := rfl
theorem pX_e1 (f : Nat) (t vs : List UInt8) : pX (f + 1) 1 t vs = if isLo (pk t) then
      if pk t.tail = 40 then
        (pX f 2 t.tail.tail vs).bind (fun r => if pk r.rest = 41 then some ⟨pk t :: UInt8.ofNat (48 + r.n) :: r.code, 0, r.rest.tail, r.vs⟩ else none)
      else some ⟨[pk t, 48], 0, t.tail, vs⟩
    else none := rfl
theorem pX_e2 (f k : Nat) (t vs : List UInt8) : pX (f + 1) (k + 2) t vs = (pX f 0 t vs).bind (fun r => if 3 < k + 1 then none else if pk r.rest = 44 then (pX f (k + 3) r.rest.tail r.vs).map (fun q => ⟨r.code ++ q.code, q.n, q.rest, q.vs⟩) else some ⟨r.code, k + 1, r.rest, r.vs⟩) := rfl

theorem pk_cons {t : List UInt8} {c : UInt8} (h : pk t = c) (hc : c ≠ 0) : ∃ r, t = c :: r := by
  cases t with
  | nil => simp [pk] at h; exact absurd h.symm hc
  | cons x r => simp [pk] at h; subst h; exact ⟨r, rfl⟩

theorem isUp_ne {c : UInt8} (h : isUp c = true) : c ≠ 0 := by intro e; subst e; simp [isUp] at h
theorem isLo_ne {c : UInt8} (h : isLo c = true) : c ≠ 0 := by intro e; subst e; simp [isLo] at h

theorem up_cons {t : List UInt8} (h : isUp (pk t) = true) : ∃ c r, t = c :: r ∧ pk t = c := by
  obtain ⟨r, hr⟩ := pk_cons (t := t) rfl (isUp_ne h)
  exact ⟨_, r, hr, rfl⟩
theorem lo_cons {t : List UInt8} (h : isLo (pk t) = true) : ∃ c r, t = c :: r ∧ pk t = c := by
  obtain ⟨r, hr⟩ := pk_cons (t := t) rfl (isLo_ne h)
  exact ⟨_, r, hr, rfl⟩

theorem tail_len {t : List UInt8} {c : UInt8} (h : pk t = c) (hc : c ≠ 0) : t.tail.length + 1 = t.length := by
  obtain ⟨r, rfl⟩ := pk_cons h hc; simp

theorem pX_rest : ∀ (f m : Nat) (t vs : List UInt8) (r : PR4), pX f m t vs = some r → r.rest.length < t.length
  | 0, m, t, vs, r, h => by simp [pX] at h
  | f + 1, 0, t, vs, r, h => by
    simp only [pX] at h
    split at h
    · rename_i hu
      cases h
      have := tail_len (t := t) rfl (isUp_ne hu)
      simp only; omega
    · exact pX_rest f 1 t vs r h
  | f + 1, 1, t, vs, r, h => by
    simp only [pX] at h
    split at h
    · rename_i hl
      have h1 := tail_len (t := t) rfl (isLo_ne hl)
      split at h
      · rename_i h40
        have h2 := tail_len h40 (by decide)
        cases hq : pX f 2 t.tail.tail vs with
        | none => rw [hq] at h; cases h
        | some q =>
          rw [hq] at h
          simp only [Option.bind_some] at h
          split at h
          · rename_i h41
            cases h
            have h3 := tail_len h41 (by decide)
            have := pX_rest f 2 _ _ q hq
            simp only; omega
          · cases h
      · cases h; simp only; omega
    · cases h
  | f + 1, k + 2, t, vs, r, h => by
    simp only [pX] at h
    cases hq : pX f 0 t vs with
    | none => rw [hq] at h; cases h
    | some q =>
      have h1 := pX_rest f 0 _ _ q hq
      rw [hq] at h
      simp only [Option.bind_some] at h
      split at h
      · cases h
      · split at h
        · rename_i h44
          have h2 := tail_len h44 (by decide)
          cases hz : pX f (k + 3) q.rest.tail q.vs with
          | none => rw [hz] at h; cases h
          | some z =>
            have h3 := pX_rest f _ _ _ z hz
            rw [hz] at h; cases h
            simp only; omega
        · cases h; exact h1

def need (m : Nat) (t : List UInt8) : Nat := 3 * t.length + (match m with | 0 => 2 | 1 => 1 | _ => 3)

theorem pX_fuel : ∀ (f g m : Nat) (t vs : List UInt8), need m t ≤ f → need m t ≤ g → pX f m t vs = pX g m t vs
  | 0, g, m, t, vs, h, _ => by unfold need at h; split at h <;> omega
  | f + 1, 0, m, t, vs, _, h => by unfold need at h; split at h <;> omega
  | f + 1, g + 1, 0, t, vs, hf, hg => by
    simp only [pX]
    split
    · rfl
    · exact pX_fuel f g 1 t vs (by simp [need] at hf ⊢; omega) (by simp [need] at hg ⊢; omega)
  | f + 1, g + 1, 1, t, vs, hf, hg => by
    simp only [pX]
    split
    · rename_i hl
      have h1 := tail_len (t := t) rfl (isLo_ne hl)
      split
      · rename_i h40
        have h2 := tail_len h40 (by decide)
        rw [pX_fuel f g 2 t.tail.tail vs (by simp [need] at hf ⊢; omega) (by simp [need] at hg ⊢; omega)]
      · rfl
    · rfl
  | f + 1, g + 1, k + 2, t, vs, hf, hg => by
    simp only [pX]
    rw [pX_fuel f g 0 t vs (by simp [need] at hf ⊢; omega) (by simp [need] at hg ⊢; omega)]
    cases hq : pX g 0 t vs with
    | none => rfl
    | some q =>
      have h1 := pX_rest g 0 _ _ q hq
      simp only [Option.bind_some]
      split
      · rfl
      · split
        · rename_i h44
          have h2 := tail_len h44 (by decide)
          rw [pX_fuel f g (k + 3) q.rest.tail q.vs (by simp [need] at hf ⊢; omega) (by simp [need] at hg ⊢; omega)]
        · rfl

def Px (m : Nat) (t vs : List UInt8) : Option PR4 := pX (need m t) m t vs

theorem Px_of {f m : Nat} {t vs : List UInt8} (h : need m t ≤ f) : pX f m t vs = Px m t vs := pX_fuel f (need m t) m t vs h (Nat.le_refl _)

theorem Px_rest {m : Nat} {t vs : List UInt8} {r : PR4} (h : Px m t vs = some r) : r.rest.length < t.length := pX_rest _ _ _ _ _ h

theorem Px0 (t vs : List UInt8) : Px 0 t vs = if isUp (pk t) then some ⟨[UInt8.ofNat (65 + vs.idxOf (pk t))], 0, t.tail, vAdd vs (pk t)⟩ else Px 1 t vs := by
  rw [← Px_of (f := need 0 t + 1) (by omega), pX_e0, Px_of (by simp [need])]

theorem Px1 (t vs : List UInt8) : Px 1 t vs = if isLo (pk t) then
      if pk t.tail = 40 then
        (Px 2 t.tail.tail vs).bind (fun r => if pk r.rest = 41 then some ⟨pk t :: UInt8.ofNat (48 + r.n) :: r.code, 0, r.rest.tail, r.vs⟩ else none)
      else some ⟨[pk t, 48], 0, t.tail, vs⟩
    else none := by
  rw [← Px_of (f := (need 1 t + 5) + 1) (by omega), pX_e1]
  split
  · rename_i hl
    have h1 := tail_len (t := t) rfl (isLo_ne hl)
    split
    · rename_i h40
      have h2 := tail_len h40 (by decide)
      rw [Px_of (by simp [need]; omega)]
    · rfl
  · rfl

theorem Px2 (k : Nat) (t vs : List UInt8) : Px (k + 2) t vs = (Px 0 t vs).bind (fun r => if 3 < k + 1 then none else if pk r.rest = 44 then (Px (k + 3) r.rest.tail r.vs).map (fun q => ⟨r.code ++ q.code, q.n, q.rest, q.vs⟩) else some ⟨r.code, k + 1, r.rest, r.vs⟩) := by
  rw [← Px_of (f := (need (k + 2) t + 5) + 1) (by omega), pX_e2, Px_of (by simp [need])]
  cases hq : Px 0 t vs with
  | none => rfl
  | some q =>
    have h1 := Px_rest hq
    simp only [Option.bind_some]
    split
    · rfl
    · split
      · rename_i h44
        have h2 := tail_len h44 (by decide)
        rw [Px_of (by simp [need]; omega)]
      · rfl

end Go.Proofs.Qxb6500569aGreat
