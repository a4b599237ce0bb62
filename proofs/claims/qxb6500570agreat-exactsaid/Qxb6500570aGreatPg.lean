import Derived.Test.Qxb6500570aGreatPf
/- Plain: runs of bytes; the automaton that knows a reference. -/
namespace Go.Proofs.Qxb6500570aGreat
set_option linter.unusedVariables false
set_option linter.unusedSimpArgs false

theorem tw_lt {f : UInt8 → Bool} : ∀ {u : List UInt8} {k : Nat}, k < (u.takeWhile f).length → ∃ c, u[k]? = some c ∧ f c = true ∧ (u.takeWhile f)[k]? = some c
  | [], k, h => by simp at h
  | x :: u, k, h => by
    by_cases hx : f x = true
    · rw [List.takeWhile_cons_of_pos hx] at h ⊢
      cases k with
      | zero => exact ⟨x, by simp, hx, by simp⟩
      | succ k =>
        obtain ⟨c, h1, h2, h3⟩ := tw_lt (u := u) (k := k) (by simpa using h)
        exact ⟨c, by simpa using h1, h2, by simpa using h3⟩
    · rw [List.takeWhile_cons_of_neg hx] at h
      simp at h
theorem tw_end {f : UInt8 → Bool} : ∀ {u : List UInt8} {c : UInt8}, u[(u.takeWhile f).length]? = some c → f c = false
  | [], c, h => by simp at h
  | x :: u, c, h => by
    by_cases hx : f x = true
    · rw [List.takeWhile_cons_of_pos hx] at h
      exact tw_end (u := u) (by simpa using h)
    · rw [List.takeWhile_cons_of_neg hx] at h
      simp at h
      subst h
      simpa using hx
theorem take_snocG {α : Type} {L : List α} {k : Nat} {x : α} (h : L[k]? = some x) : L.take (k + 1) = L.take k ++ [x] := by
  obtain ⟨h1, h2⟩ := List.getElem?_eq_some_iff.1 h
  rw [← h2, List.take_append_getElem]
theorem numF_snoc (d : List UInt8) (c : UInt8) : numF (d ++ [c]) = numF d * 10 + dv c := by
  unfold numF
  rw [List.foldl_append]
  rfl
theorem numF_all {d : List UInt8} (k : Nat) (h : ∀ c ∈ d, dg c = true) (hk : k ≤ 9) : numF (d.take k) ≤ 999999999 :=
  numF_le (fun c hc => h c (List.mem_of_mem_take hc)) (by rw [List.length_take]; omega)

/-- The automaton. -/
def aut (q : Nat) (c : UInt8) : Nat :=
  if q = 0 ∨ q = 1 then (if q = 0 ∧ c = 36 then 1 else if cp c = true then 2 else 6)
  else if q = 2 ∨ q = 3 then (if q = 2 ∧ c = 36 then 3 else if d1 c = true then 4 else 6)
  else if q = 4 then (if dg c = true then 5 else 6)
  else 6
/-- What it notes. -/
def autR (q : Nat) (c : UInt8) (r : Rf) : Rf :=
  if q = 1 then { r with ac := true } else if q = 2 then { r with c := (c.toNat : Int) - 65 } else if q = 3 then { r with ar := true } else if q = 4 ∨ q = 5 then { r with r := r.r * 10 + (dv c : Int) } else r
def autF : Nat → Rf → List UInt8 → Nat × Rf
  | q, r, [] => (q, r)
  | q, r, c :: w => autF (aut q c) (autR (aut q c) c r) w
theorem autF_snoc : ∀ (w : List UInt8) (q : Nat) (r : Rf) (c : UInt8), autF q r (w ++ [c]) = (aut (autF q r w).1 c, autR (aut (autF q r w).1 c) c (autF q r w).2)
  | [], q, r, c => rfl
  | x :: w, q, r, c => autF_snoc w _ _ c
theorem autF6 : ∀ (w : List UInt8) (r : Rf), autF 6 r w = (6, r)
  | [], r => rfl
  | c :: w, r => by
    have : aut 6 c = 6 := rfl
    simp only [autF, this]
    exact autF6 w r
theorem autF5 (r : Rf) (w : List UInt8) : (w = [] ∧ autF 5 r w = (5, r)) ∨ (w ≠ [] ∧ (autF 5 r w).1 = 6) := by
  cases w with
  | nil => exact .inl ⟨rfl, rfl⟩
  | cons c w =>
    right
    have : aut 5 c = 6 := rfl
    simp only [autF, this]
    exact ⟨by simp, by rw [autF6]⟩
/-- Behind the first digit. -/
theorem autF4 (r : Rf) (w : List UInt8) : (w = [] ∧ autF 4 r w = (4, r)) ∨ (∃ e, w = [e] ∧ dg e = true ∧ autF 4 r w = (5, { r with r := r.r * 10 + (dv e : Int) })) ∨ ((w ≠ [] ∧ ∀ e, w = [e] → dg e = false) ∧ (autF 4 r w).1 = 6) := by
  cases w with
  | nil => exact .inl ⟨rfl, rfl⟩
  | cons e w =>
    by_cases he : dg e = true
    · have h5 : aut 4 e = 5 := by simp [aut, he]
      simp only [autF, h5]
      have hr : autR 5 e r = { r with r := r.r * 10 + (dv e : Int) } := by simp [autR]
      rw [hr]
      rcases autF5 { r with r := r.r * 10 + (dv e : Int) } w with ⟨rfl, h⟩ | ⟨hw, h⟩
      · exact .inr (.inl ⟨e, rfl, he, h⟩)
      · refine .inr (.inr ⟨⟨by simp, fun e' h' => ?_⟩, h⟩)
        simp at h'
        exact absurd h'.2 hw
    · have h6 : aut 4 e = 6 := by simp [aut, he]
      simp only [autF, h6]
      refine .inr (.inr ⟨⟨by simp, fun e' h' => ?_⟩, by rw [autF6]⟩)
      simp at h'
      rw [← h'.1]
      simpa using he
def RefIs (x : Nat × Rf) (o : Option Rf) : Prop := match o with
  | some r => (x.1 = 4 ∨ x.1 = 5) ∧ { x.2 with r := x.2.r - 1 } = r
  | none => x.1 ≠ 4 ∧ x.1 ≠ 5
theorem RefIs.no {x : Nat × Rf} (h1 : x.1 ≠ 4) (h2 : x.1 ≠ 5) : RefIs x none := ⟨h1, h2⟩
/-- Behind the letter and its '$', if there is one: a first digit is due. -/
theorem aut3 {q : Nat} (hq : q = 2 ∨ q = 3) {d : UInt8} (hd : d1 d = true) (h36 : d ≠ 36) {c : Int} {ac ar : Bool} (w : List UInt8) :
    RefIs (autF q ⟨c, 0, ac, ar⟩ (d :: w)) (match w with
      | [] => some ⟨c, (dv d : Int) - 1, ac, ar⟩
      | [e] => if dg e = true then some ⟨c, (dv d * 10 + dv e : Int) - 1, ac, ar⟩ else none
      | _ => none) := by
  have h4 : aut q d = 4 := by rcases hq with rfl | rfl <;> simp [aut, hd, h36]
  simp only [autF, h4]
  have hr : autR 4 d ⟨c, 0, ac, ar⟩ = ⟨c, dv d, ac, ar⟩ := by simp [autR]
  rw [hr]
  rcases autF4 ⟨c, dv d, ac, ar⟩ w with ⟨rfl, h⟩ | ⟨e, rfl, he, h⟩ | ⟨⟨h1, h2⟩, h⟩
  · rw [h]; exact ⟨.inl rfl, rfl⟩
  · rw [h]
    simp only [he, if_true]
    exact ⟨.inr rfl, rfl⟩
  · split
    · exact absurd rfl h1
    · rename_i e
      rw [h2 e rfl]
      simp only [Bool.false_eq_true, if_false]
      unfold RefIs
      simp only [h]
      omega
    · unfold RefIs
      simp only [h]
      omega
theorem aut3x {q : Nat} (hq : q = 2 ∨ q = 3) {d : UInt8} (hd : d1 d = false) (h36 : q = 3 ∨ d ≠ 36) (r : Rf) (w : List UInt8) : RefIs (autF q r (d :: w)) none := by
  have h6 : aut q d = 6 := by
    rcases hq with rfl | rfl
    · rcases h36 with h | h
      · omega
      · simp [aut, hd, h]
    · simp [aut, hd]
  simp only [autF, h6]
  rw [autF6]
  exact RefIs.no (by first | (show (6 : Nat) ≠ 4; omega) | (show (2 : Nat) ≠ 4; omega) | (show (3 : Nat) ≠ 4; omega) | decide) (by first | (show (6 : Nat) ≠ 5; omega) | (show (2 : Nat) ≠ 5; omega) | (show (3 : Nat) ≠ 5; omega) | decide)
theorem d1_36 : d1 36 = false := rfl
theorem aut2 (ac : Bool) {l : UInt8} (hl : cp l = true) (w : List UInt8) : RefIs (autF 2 ⟨(l.toNat : Int) - 65, 0, ac, false⟩ w) (refB ac (l :: w)) := by
  unfold refB
  simp only [hl, if_true]
  cases w with
  | nil => exact RefIs.no (by first | (show (6 : Nat) ≠ 4; omega) | (show (2 : Nat) ≠ 4; omega) | (show (3 : Nat) ≠ 4; omega) | decide) (by first | (show (6 : Nat) ≠ 5; omega) | (show (2 : Nat) ≠ 5; omega) | (show (3 : Nat) ≠ 5; omega) | decide)
  | cons x w =>
    by_cases hx : x = 36
    · subst hx
      have h3 : aut 2 36 = 3 := rfl
      have hr : autR 3 36 ⟨(l.toNat : Int) - 65, 0, ac, false⟩ = ⟨(l.toNat : Int) - 65, 0, ac, true⟩ := rfl
      simp only [autF, h3, hr]
      cases w with
      | nil => simp only [d1_36, Bool.false_eq_true, if_false]; exact RefIs.no (by first | (show (6 : Nat) ≠ 4; omega) | (show (2 : Nat) ≠ 4; omega) | (show (3 : Nat) ≠ 4; omega) | decide) (by first | (show (6 : Nat) ≠ 5; omega) | (show (2 : Nat) ≠ 5; omega) | (show (3 : Nat) ≠ 5; omega) | decide)
      | cons d w =>
        by_cases hd : d1 d = true
        · have h36 : d ≠ 36 := by rintro rfl; rw [d1_36] at hd; cases hd
          have := aut3 (.inr rfl) hd h36 (c := (l.toNat : Int) - 65) (ac := ac) (ar := true) w
          match w with
          | [] => simpa [hd] using this
          | [e] => simpa [hd] using this
          | e :: g :: w => simpa using this
        · have hd' : d1 d = false := by simpa using hd
          have := aut3x (.inr rfl) hd' (.inl rfl) ⟨(l.toNat : Int) - 65, 0, ac, true⟩ w
          match w with
          | [] => simpa [hd'] using this
          | [e] => simpa [hd'] using this
          | e :: g :: w => simpa using this
    · by_cases hd : d1 x = true
      · have := aut3 (.inl rfl) hd hx (c := (l.toNat : Int) - 65) (ac := ac) (ar := false) w
        match w with
        | [] => simpa [hd] using this
        | [e] => simpa [hd, hx] using this
        | [e, g] => simpa [hx] using this
        | e :: g :: h :: w => simpa using this
      · have hd' : d1 x = false := by simpa using hd
        have := aut3x (.inl rfl) hd' (.inr hx) ⟨(l.toNat : Int) - 65, 0, ac, false⟩ w
        match w with
        | [] => simpa [hd'] using this
        | [e] => simpa [hd', hx] using this
        | [e, g] => simpa [hx] using this
        | e :: g :: h :: w => simpa using this
theorem cp_36 : cp 36 = false := rfl
theorem refB_ncp {ac : Bool} {l : UInt8} (hl : cp l = false) (w : List UInt8) : refB ac (l :: w) = none := by
  unfold refB
  simp [hl]
/-- The automaton tells what the word is. -/
theorem aut_ok (w : List UInt8) : RefIs (autF 0 zR w) (refOf w) := by
  unfold refOf
  cases w with
  | nil => exact RefIs.no (by first | (show (6 : Nat) ≠ 4; omega) | (show (2 : Nat) ≠ 4; omega) | (show (3 : Nat) ≠ 4; omega) | decide) (by first | (show (6 : Nat) ≠ 5; omega) | (show (2 : Nat) ≠ 5; omega) | (show (3 : Nat) ≠ 5; omega) | decide)
  | cons x w =>
    simp only
    by_cases hx : x = 36
    · subst hx
      have h1 : aut 0 36 = 1 := rfl
      have hr : autR 1 36 zR = ⟨0, 0, true, false⟩ := rfl
      simp only [autF, h1, hr, if_true]
      cases w with
      | nil => exact RefIs.no (by first | (show (6 : Nat) ≠ 4; omega) | (show (2 : Nat) ≠ 4; omega) | (show (3 : Nat) ≠ 4; omega) | decide) (by first | (show (6 : Nat) ≠ 5; omega) | (show (2 : Nat) ≠ 5; omega) | (show (3 : Nat) ≠ 5; omega) | decide)
      | cons l w =>
        by_cases hl : cp l = true
        · have h2 : aut 1 l = 2 := by simp [aut, hl]
          have hr2 : autR 2 l ⟨0, 0, true, false⟩ = ⟨(l.toNat : Int) - 65, 0, true, false⟩ := rfl
          simp only [autF, h2, hr2]
          exact aut2 true hl w
        · have hl' : cp l = false := by simpa using hl
          have h6 : aut 1 l = 6 := by simp [aut, hl']
          simp only [autF, h6]
          rw [autF6, refB_ncp hl']
          exact RefIs.no (by first | (show (6 : Nat) ≠ 4; omega) | (show (2 : Nat) ≠ 4; omega) | (show (3 : Nat) ≠ 4; omega) | decide) (by first | (show (6 : Nat) ≠ 5; omega) | (show (2 : Nat) ≠ 5; omega) | (show (3 : Nat) ≠ 5; omega) | decide)
    · simp only [if_neg hx]
      by_cases hl : cp x = true
      · have h2 : aut 0 x = 2 := by simp [aut, hl, hx]
        have hr2 : autR 2 x zR = ⟨(x.toNat : Int) - 65, 0, false, false⟩ := rfl
        simp only [autF, h2, hr2]
        exact aut2 false hl w
      · have hl' : cp x = false := by simpa using hl
        have h6 : aut 0 x = 6 := by simp [aut, hl', hx]
        simp only [autF, h6]
        rw [autF6, refB_ncp hl']
        exact RefIs.no (by first | (show (6 : Nat) ≠ 4; omega) | (show (2 : Nat) ≠ 4; omega) | (show (3 : Nat) ≠ 4; omega) | decide) (by first | (show (6 : Nat) ≠ 5; omega) | (show (2 : Nat) ≠ 5; omega) | (show (3 : Nat) ≠ 5; omega) | decide)

/-- The automaton's own bounds. -/
theorem aut_le (q : Nat) (c : UInt8) : aut q c ≤ 6 := by
  unfold aut
  repeat' split
  all_goals omega
theorem dv_le (c : UInt8) : dv c < 256 := by
  have : c.toNat < 256 := c.toBitVec.isLt
  unfold dv
  omega
/-- The row noted so far: q counts its digits. -/
def rowB (q : Nat) (r : Rf) : Prop := 0 ≤ r.r ∧ (q ≤ 3 → r.r = 0) ∧ (q = 4 → r.r ≤ 255) ∧ (q = 5 → r.r ≤ 2805) ∧ r.r ≤ 2805
theorem autF_row : ∀ (w : List UInt8) (q : Nat) (r : Rf), q ≤ 6 → rowB q r → rowB (autF q r w).1 (autF q r w).2 ∧ (autF q r w).1 ≤ 6
  | [], q, r, hq, h => ⟨h, hq⟩
  | c :: w, q, r, hq, h => by
    refine autF_row w _ _ (aut_le _ _) ?_
    obtain ⟨h1, h2, h3, h4, h5⟩ := h
    have hd := dv_le c
    have hstep : aut q c = 4 → q = 2 ∨ q = 3 := by
      unfold aut
      repeat' split
      all_goals omega
    have hstep5 : aut q c = 5 → q = 4 := by
      unfold aut
      repeat' split
      all_goals omega
    have hlow : aut q c ≤ 3 → q ≤ 3 := by
      unfold aut
      repeat' split
      all_goals omega
    generalize hn : aut q c = n at *
    unfold autR rowB
    split
    · rename_i hh; exact ⟨h1, fun h => h2 (hlow h), fun h => by omega, fun h => by omega, h5⟩
    · split
      · exact ⟨h1, fun h => h2 (hlow h), fun h => by omega, fun h => by omega, h5⟩
      · split
        · exact ⟨h1, fun h => h2 (hlow h), fun h => by omega, fun h => by omega, h5⟩
        · split
          · rename_i hh
            rcases hh with hh | hh
            · have := hstep hh
              have := h2 (by omega)
              exact ⟨by show 0 ≤ r.r * 10 + (dv c : Int); omega, fun h => by omega, fun _ => by show r.r * 10 + (dv c : Int) ≤ 255; omega, fun h => by omega, by show r.r * 10 + (dv c : Int) ≤ 2805; omega⟩
            · have := h3 (hstep5 hh)
              exact ⟨by show 0 ≤ r.r * 10 + (dv c : Int); omega, fun h => by omega, fun h => by omega, fun _ => by show r.r * 10 + (dv c : Int) ≤ 2805; omega, by show r.r * 10 + (dv c : Int) ≤ 2805; omega⟩
          · exact ⟨h1, fun h => h2 (hlow h), fun h => by omega, fun h => by omega, h5⟩

/-- The functions' names, one behind another. -/
def fnUp (w : List UInt8) : Nat → Nat
  | 0 => 0
  | n + 1 => if fnm (n + 1) = w then n + 1 else fnUp w n
theorem fnUp_eq (w : List UInt8) : fnUp w 10 = fnOf w := by
  unfold fnOf
  by_cases h : ∃ i, i < 10 ∧ fnm (i + 1) = w
  · obtain ⟨i, hi, rfl⟩ := h
    match i, hi with
    | 0, _ => decide
    | 1, _ => decide
    | 2, _ => decide
    | 3, _ => decide
    | 4, _ => decide
    | 5, _ => decide
    | 6, _ => decide
    | 7, _ => decide
    | 8, _ => decide
    | 9, _ => decide
  · have hn : ∀ i, i < 10 → fnm (i + 1) ≠ w := fun i hi he => h ⟨i, hi, he⟩
    have h1 : (List.range 10).findSome? (fun i => if fnm (i + 1) = w then some (i + 1) else none) = none := by
      rw [List.findSome?_eq_none_iff]
      intro i hi
      rw [if_neg (hn i (List.mem_range.1 hi))]
    rw [h1]
    simp only [fnUp]
    rw [if_neg (hn 9 (by omega)), if_neg (hn 8 (by omega)), if_neg (hn 7 (by omega)), if_neg (hn 6 (by omega)), if_neg (hn 5 (by omega)), if_neg (hn 4 (by omega)), if_neg (hn 3 (by omega)), if_neg (hn 2 (by omega)), if_neg (hn 1 (by omega)), if_neg (hn 0 (by omega))]
    rfl

end Go.Proofs.Qxb6500570aGreat
