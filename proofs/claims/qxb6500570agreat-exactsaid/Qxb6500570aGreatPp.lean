import Derived.Test.Qxb6500570aGreatPo
import Derived.Test.Qxb6500570aGreatPr
import Derived.Test.Qxb6500570aGreatPz
/- Plain: the printer's pass: what is there stays; every node but the last has its parent; the whole text. -/
namespace Go.Proofs.Qxb6500570aGreat
set_option linter.unusedVariables false
set_option linter.unusedSimpArgs false

theorem climb_ge (n : List Nd) (N : Nts) : ∀ (f c : Nat) (T : List UInt8), T.length ≤ (climbF n N f c T).length
  | 0, _, T => Nat.le_refl _
  | f + 1, c, T => by
    unfold climbF
    split
    · exact Nat.le_refl _
    · split
      · rw [List.length_append]; omega
      · split
        · rw [List.length_cons]; omega
        · refine Nat.le_trans ?_ (climb_ge n N f _ _)
          simp only [List.length_append]
          omega
theorem turn_ge (n : List Nd) (i : Nat) (N : Nts) (T : List UInt8) : T.length ≤ (turnT n i N T).length := by
  have h : T.length ≤ (if (N i).2 = true ∨ (ndA n i).k = 8 then 41 :: T else T).length := by
    split
    · rw [List.length_cons]; omega
    · exact Nat.le_refl _
  unfold turnT
  split
  · exact h
  · refine Nat.le_trans ?_ (climb_ge n N _ _ _)
    rw [List.length_append]
    omega
theorem fill_ge (n : List Nd) : ∀ (i : Nat) (N : Nts) (T : List UInt8), T.length ≤ (fillF n i N T).length
  | 0, _, T => Nat.le_refl _
  | i + 1, N, T => Nat.le_trans (turn_ge n i N T) (fill_ge n i _ _)

/-- Node j is a child of node p. -/
def isKid (n : List Nd) (p j : Nat) : Prop := (((ndA n (p : Nat)).k = 6 ∨ (ndA n (p : Nat)).k = 7 ∨ (ndA n (p : Nat)).k = 8 ∨ (ndA n (p : Nat)).k = 9) ∧ (ndA n (p : Nat)).a = (j : Int)) ∨ (((ndA n (p : Nat)).k = 7 ∨ (ndA n (p : Nat)).k = 9) ∧ (ndA n (p : Nat)).b = (j : Int))
theorem par_sg {n : List Nd} : ∀ (f : Nat) (lk : Bool) (k lo i : Nat) (arg : Bool), SgF n f lk k lo i arg → ∀ j, lo ≤ j → j < i → ∃ p, j < p ∧ p ≤ i ∧ isKid n p j := by
  intro f
  induction f with
  | zero => intro lk k lo i arg h; exact h.elim
  | succ f ih =>
    intro lk k lo i arg h j h1 h2
    cases lk with
    | false =>
      obtain ⟨x, hx, h⟩ := h
      have hxi := ndA_get hx
      rcases h with h | h | h | h | h | ⟨k1, k2, k3, k4⟩ | ⟨k1, k2, k3, o, m, k4, k5, k6, k7, k8, k9, k10, k11⟩ | ⟨k1, k2, k3, fn, m, k4, k5, k6, k7⟩
      · omega
      · omega
      · omega
      · omega
      · omega
      · by_cases e : j = i - 1
        · exact ⟨i, h2, Nat.le_refl _, .inl ⟨.inl (by rw [hxi]; exact k1), by rw [hxi, k3]; omega⟩⟩
        · obtain ⟨p, a, b, c⟩ := ih _ _ _ _ _ k4 j h1 (by omega)
          exact ⟨p, a, by omega, c⟩
      · by_cases e : j = i - 1
        · exact ⟨i, h2, Nat.le_refl _, .inr ⟨.inl (by rw [hxi]; exact k1), by rw [hxi, k3]; omega⟩⟩
        · by_cases e2 : m ≤ j
          · obtain ⟨p, a, b, c⟩ := ih _ _ _ _ _ k10 j e2 (by omega)
            exact ⟨p, a, by omega, c⟩
          · by_cases e3 : j = m - 1
            · exact ⟨i, h2, Nat.le_refl _, .inl ⟨.inr (.inl (by rw [hxi]; exact k1)), by rw [hxi, k9]; omega⟩⟩
            · obtain ⟨p, a, b, c⟩ := ih _ _ _ _ _ k11 j h1 (by omega)
              exact ⟨p, a, by omega, c⟩
      · by_cases e : j = i - 1
        · exact ⟨i, h2, Nat.le_refl _, .inl ⟨.inr (.inr (.inl (by rw [hxi]; exact k1))), by rw [hxi, k3]; omega⟩⟩
        · obtain ⟨p, a, b, c⟩ := ih _ _ _ _ _ k7 j h1 (by omega)
          exact ⟨p, a, by omega, c⟩
    | true =>
      obtain ⟨x, hx, k1, k2, k3, m, k4, k5, h⟩ := h
      have hxi := ndA_get hx
      by_cases e : j = i - 1
      · exact ⟨i, h2, Nat.le_refl _, .inl ⟨.inr (.inr (.inr (by rw [hxi]; exact k1))), by rw [hxi, k3]; omega⟩⟩
      · by_cases e2 : m ≤ j
        · obtain ⟨p, a, b, c⟩ := ih _ _ _ _ _ k5 j e2 (by omega)
          exact ⟨p, a, by omega, c⟩
        · rcases h with ⟨q1, q2, q3⟩ | ⟨q1, q2, q3, q4⟩
          · omega
          · by_cases e3 : j = m - 1
            · exact ⟨i, h2, Nat.le_refl _, .inr ⟨.inr (by rw [hxi]; exact k1), by rw [hxi, q3]; omega⟩⟩
            · obtain ⟨p, a, b, c⟩ := ih _ _ _ _ _ q4 j h1 (by omega)
              exact ⟨p, a, by omega, c⟩
theorem par_all {n : List Nd} (hD : DoneOK n) {j : Nat} (hj : j + 1 < n.length) : ∃ p, j < p ∧ p < n.length ∧ isKid n p j := by
  obtain ⟨h1, h2, f, hf⟩ := hD
  obtain ⟨p, a, b, c⟩ := par_sg _ _ _ _ _ _ hf j (Nat.zero_le _) (by omega)
  exact ⟨p, a, by omega, c⟩

/-- The whole text. -/
def textF (n : List Nd) : List UInt8 := txF n n.length ((n.length - 1 : Nat) : Int)
theorem text_law {n : List Nd} (hD : DoneOK n) (hA : AOK n) : (textF n).length ≤ 264 ∧ ∀ N : Nts, N (n.length - 1) = (-1, false) → fillF n n.length N [] = textF n := by
  obtain ⟨h1, h2, f, hf⟩ := hD
  have hf' := sg_fuel _ _ _ _ _ _ hf
  obtain ⟨X, hX, hl, hfl⟩ := fill_law (fun x hx => ⟨(hA x hx).1.2.2.2, (hA x hx).2.1.2.2.2⟩) _ _ _ _ _ _ hf'
  have e : textF n = X := hX n.length (by omega)
  rw [e]
  refine ⟨by omega, fun N hN => ?_⟩
  obtain ⟨N', g1, g2, g3, g4⟩ := hfl N [] (fun j hj hl => .inl (by rw [show j = n.length - 1 by omega, hN])) (fun _ => by rw [hN])
  rw [show n.length - 1 + 1 = n.length by omega] at g4
  rw [g4, hN]
  show clm n N' (n.length - 1) (brkT false X ++ []) = X
  rw [List.append_nil]
  show climbF n N' (n.length - (n.length - 1)) (n.length - 1) X = X
  rw [show n.length - (n.length - 1) = 0 + 1 by omega]
  unfold climbF
  rw [g1 (n.length - 1) (Nat.le_refl _), hN]
  rfl

end Go.Proofs.Qxb6500570aGreat
