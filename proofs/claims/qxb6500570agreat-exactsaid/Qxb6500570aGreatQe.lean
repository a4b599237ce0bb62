import Derived.Test.Qxb6500570aGreatQd
/- Plain: a saved text is read cell by cell. -/
namespace Go.Proofs.Qxb6500570aGreat
set_option linter.unusedVariables false
set_option linter.unusedSimpArgs false

def nxR (s : Tx) (p : Nat) (nx : Int) : Int := if nx < 0 ∧ p < s.length then pr2 s p else nx
/-- The walk over the cells and the text side by side: at cell c, at place p of the text. -/
def LdI (s : Tx) (SF : List Tx) (c p : Nat) (nx : Int) : Prop := ∃ (f : Nat) (last : Int) (S' : List Tx), s.length - p < f ∧ ldF f s last p S' = some SF ∧ -1 ≤ last ∧ last < c ∧ TxOK S' ∧ (∀ x : Nat, last < (x : Int) → x < 24 → tF S' x = []) ∧ ((nx = -1 ∧ (p < s.length → last = (c : Int) - 1)) ∨ (p < s.length ∧ nx = pr2 s p ∧ (c : Int) ≤ nx))
theorem LdI.start {s : Tx} {SF : List Tx} {f : Nat} (hf : s.length < f) (h : ldF f s (-1) 0 (List.replicate 24 []) = some SF) : LdI s SF 0 0 (-1) :=
  ⟨f, -1, _, by omega, h, by omega, by omega, TxOK.rep, fun x _ _ => by
    unfold tF
    rw [List.getD_eq_getElem?_getD, List.getElem?_replicate]
    split <;> rfl, .inl ⟨rfl, fun _ => by omega⟩⟩
/-- A piece for cell c. -/
structure PieceAt (s : Tx) (SF : List Tx) (c p n : Nat) : Prop where
  fit : p + 4 + n ≤ s.length
  hn : pr2 s (p + 2) = (n : Int)
  n40 : n ≤ 40
  tx : tF SF c = (s.drop (p + 4)).take n
  nx : LdI s SF (c + 1) (p + 4 + n) (-1)
theorem LdI.read {s : Tx} {SF : List Tx} {c p : Nat} {nx : Int} (h : LdI s SF c p nx) (hc : c < 24) : (nxR s p nx = (c : Int) ∧ ∃ n, PieceAt s SF c p n) ∨ (nxR s p nx ≠ (c : Int) ∧ tF SF c = [] ∧ LdI s SF (c + 1) p (nxR s p nx)) := by
  obtain ⟨f, last, S', hf, hl, h1, h2, hS, hz, hd⟩ := h
  obtain ⟨f, rfl⟩ : ∃ g, f = g + 1 := ⟨f - 1, by omega⟩
  by_cases hp : p < s.length
  · obtain ⟨c', n, hP, hl2⟩ := ld_inv h1 hp hl
    obtain ⟨q1, q2, q3, q4, q5, q6, q7⟩ := hP
    have hr : nxR s p nx = (c' : Int) := by
      unfold nxR
      rcases hd with ⟨e1, e2⟩ | ⟨e1, e2, e3⟩
      · rw [if_pos ⟨by omega, hp⟩, q2]
      · rw [if_neg (by omega), e2, q2]
    have hcc : c ≤ c' := by
      rcases hd with ⟨e1, e2⟩ | ⟨e1, e2, e3⟩
      · have := e2 hp; omega
      · omega
    have hS2 : TxOK (S'.set c' ((s.drop (p + 4)).take n)) := hS.set (by rw [List.length_take]; omega)
    obtain ⟨k1, k2⟩ := ld_ok (by omega) hS2 hl2
    rcases Nat.lt_or_ge c c' with hlt | hge
    · refine .inr ⟨by rw [hr]; omega, ?_, f + 1, last, S', hf, hl, h1, by omega, hS, hz, .inr ⟨hp, by rw [hr, q2], by rw [hr]; omega⟩⟩
      rw [k2 c (by omega), tF_set (by rw [hS.tl]; omega), if_neg (by omega), hz c (by omega) hc]
    · have : c' = c := by omega
      subst this
      refine .inl ⟨hr, n, q1, q3, q7, ?_, f, c', _, by omega, hl2, by omega, by omega, hS2, fun x hx hx2 => ?_, .inl ⟨rfl, fun _ => by omega⟩⟩
      · rw [k2 c' (by omega), tF_set (by rw [hS.tl]; omega), if_pos rfl]
      · rw [tF_set (by rw [hS.tl]; omega), if_neg (by omega), hz x (by omega) hx2]
  · rw [ld_end (by omega)] at hl
    cases hl
    have hnx : nx = -1 := by
      rcases hd with ⟨e1, _⟩ | ⟨e1, _⟩
      · exact e1
      · omega
    have hr : nxR s p nx = -1 := by unfold nxR; rw [if_neg (by omega), hnx]
    refine .inr ⟨by rw [hr]; omega, hz c h2 hc, f + 1, last, SF, hf, ld_end (by omega), h1, by omega, hS, hz, .inl ⟨hr, fun q => absurd q hp⟩⟩
def ldR (s : Tx) : Option (List Tx) := ldF (s.length + 1) s (-1) 0 (List.replicate 24 [])
def ldE (s : Tx) : Int := if 1056 < s.length then 1 else if (ldR s).isSome = true then 0 else 12
def ldS (T : List Tx) (s : Tx) : List Tx := if 1056 < s.length then T else (ldR s).getD T
def ldP (s : Tx) (past : List (List Tx)) : List (List Tx) := if ldE s = 0 then [] else past
theorem ld_err {T : List Tx} {s : Tx} (h : ldE s ≠ 0) : ldS T s = T := by
  unfold ldE at h
  unfold ldS
  split
  · rfl
  · rename_i q
    rw [if_neg q] at h
    cases hr : ldR s with
    | none => rfl
    | some S => rw [hr] at h; exact absurd rfl h
end Go.Proofs.Qxb6500570aGreat
