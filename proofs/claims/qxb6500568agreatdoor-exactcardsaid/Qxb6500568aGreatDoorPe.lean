import Derived.Test.Qxb6500568aGreatDoorPd
namespace Go.Proofs.Qxb6500568aGreatDoor
open Ieee
set_option linter.unusedVariables false
set_option linter.unusedSimpArgs false

/-! Reading numbers, case by case. -/

def AllD (s : List UInt8) : Prop := ∀ c ∈ s, isDg c = true
def Stop (r : List UInt8) : Prop := ∀ c r', r = c :: r' → isDg c = false
theorem AllD.nil : AllD [] := by intro c h; simp at h
theorem AllD.snoc {s : List UInt8} {c : UInt8} (h : AllD s) (hc : isDg c = true) : AllD (s ++ [c]) := by
  intro x hx
  rcases List.mem_append.1 hx with h1 | h1
  · exact h x h1
  · simp at h1; subst h1; exact hc
theorem Stop.nil : Stop [] := by intro c r h; cases h
theorem Stop.cons {c : UInt8} {r : List UInt8} (h : isDg c = false) : Stop (c :: r) := by intro c' r' e; cases e; exact h

theorem dgs_pre {D r : List UInt8} (h : AllD D) : dgs (D ++ r) = D ++ dgs r ∧ aft (D ++ r) = aft r := by
  induction D with
  | nil => exact ⟨rfl, rfl⟩
  | cons c D ih =>
    have hc := h c (by simp)
    obtain ⟨a, b⟩ := ih (fun x hx => h x (by simp [hx]))
    constructor
    · rw [List.cons_append, show dgs (c :: (D ++ r)) = c :: dgs (D ++ r) by simp [dgs, hc], a]; rfl
    · rw [List.cons_append, show aft (c :: (D ++ r)) = aft (D ++ r) by simp [aft, hc], b]
theorem dgs_stop {r : List UInt8} (h : Stop r) : dgs r = [] ∧ aft r = r := by
  cases r with
  | nil => exact ⟨rfl, rfl⟩
  | cons c r =>
    have hc := h c r rfl
    unfold dgs aft
    rw [hc]; simp
theorem dgs_both {D r : List UInt8} (h : AllD D) (hr : Stop r) : dgs (D ++ r) = D ∧ aft (D ++ r) = r := by
  obtain ⟨a, b⟩ := dgs_pre (r := r) h
  obtain ⟨c, d⟩ := dgs_stop hr
  rw [a, b, c, d, List.append_nil]; exact ⟨rfl, rfl⟩

theorem mag_open (t : List UInt8) (h : t ≠ [105, 110, 102]) : magN t = magB t := by unfold magN; rw [if_neg h]

theorem mag_long {t D r : List UInt8} {c : UInt8} (hi : t ≠ [105, 110, 102]) (hD : AllD D) (hc : isDg c = true) (h : t = D ++ c :: r) (hl : 16 ≤ D.length) : magN t = none := by
  rw [mag_open t hi]
  unfold magB
  have : D ++ c :: r = (D ++ [c]) ++ r := by simp
  obtain ⟨a, b⟩ := dgs_pre (r := r) (hD.snoc hc)
  rw [← this, ← h] at a
  dsimp only
  rw [if_pos (.inr (by rw [a]; simp; omega))]
theorem mag_long2 {t D K r : List UInt8} {c : UInt8} (hi : t ≠ [105, 110, 102]) (hD : AllD D) (hK : AllD K) (hc : isDg c = true) (h : t = D ++ 46 :: (K ++ c :: r)) (hl : 16 ≤ D.length + K.length) : magN t = none := by
  rw [mag_open t hi]
  unfold magB
  obtain ⟨a, b⟩ := dgs_both (r := 46 :: (K ++ c :: r)) hD (.cons rfl)
  rw [← h] at a b
  have e : K ++ c :: r = (K ++ [c]) ++ r := by simp
  obtain ⟨a2, b2⟩ := dgs_pre (r := r) (hK.snoc hc)
  dsimp only
  rw [a, b]
  by_cases c1 : D = [] ∨ 16 < D.length
  · rw [if_pos c1]
  · rw [if_neg c1]
    dsimp only
    rw [if_pos rfl, e, a2, if_pos (.inr (.inr (.inl (by simp; omega))))]
theorem mag_zero {t : List UInt8} (hi : t ≠ [105, 110, 102]) (h : Stop t) : magN t = none := by
  rw [mag_open t hi]
  unfold magB
  dsimp only
  rw [(dgs_stop h).1, if_pos (.inl rfl)]
theorem mag_end {t : List UInt8} (hi : t ≠ [105, 110, 102]) (hD : AllD t) (h0 : t ≠ []) (hl : t.length ≤ 16) : magN t = if dvl 0 t ≤ 9007199254740992 then some (double.nearest false (dvl 0 t) 0) else none := by
  rw [mag_open t hi]
  unfold magB
  obtain ⟨a, b⟩ := dgs_both hD Stop.nil
  rw [List.append_nil] at a b
  dsimp only
  rw [a, b, if_neg (by rintro (h | h); exact h0 h; omega)]
theorem mag_dot {t D K r : List UInt8} (hi : t ≠ [105, 110, 102]) (hD : AllD D) (hK : AllD K) (hr : Stop r) (h : t = D ++ 46 :: (K ++ r)) (h0 : D ≠ []) (hl : D.length + K.length ≤ 16) :
    magN t = if K = [] ∨ r ≠ [] ∨ 9007199254740992 < dvl 0 (D ++ K) then none else some (fDiv (double.nearest false (dvl 0 (D ++ K)) 0) (double.nearest false (10 ^ K.length) 0)) := by
  rw [mag_open t hi]
  unfold magB
  obtain ⟨a, b⟩ := dgs_both (r := 46 :: (K ++ r)) hD (.cons rfl)
  rw [← h] at a b
  obtain ⟨a2, b2⟩ := dgs_both hK hr
  dsimp only
  rw [a, b, if_neg (by rintro (h | h); exact h0 h; omega)]
  dsimp only
  rw [if_pos rfl, a2, b2]
  by_cases c : K = [] ∨ r ≠ [] ∨ 9007199254740992 < dvl 0 (D ++ K)
  · rw [if_pos c, if_pos (by rcases c with c | c | c; exact .inl c; exact .inr (.inl c); exact .inr (.inr (.inr c)))]
  · rw [if_neg c, if_neg ?_]
    rintro (h | h | h | h)
    · exact c (.inl h)
    · exact c (.inr (.inl h))
    · omega
    · exact c (.inr (.inr h))
theorem mag_other {t D r : List UInt8} {c : UInt8} (hi : t ≠ [105, 110, 102]) (hD : AllD D) (hc : isDg c = false) (h : t = D ++ c :: r) (h1 : c ≠ 46) (h2 : c ≠ 112) : magN t = none := by
  rw [mag_open t hi]
  unfold magB
  obtain ⟨a, b⟩ := dgs_both (r := c :: r) hD (.cons hc)
  rw [← h] at a b
  dsimp only
  rw [a, b]
  split
  · rfl
  · dsimp only
    rw [if_neg h1, if_neg h2]
theorem mag_p {t D r : List UInt8} {dn : Bool} (hi : t ≠ [105, 110, 102]) (hD : AllD D) (h0 : D ≠ []) (hl : D.length ≤ 16) (h : t = D ++ 112 :: (if dn then 45 :: r else r)) (hdn : dn = false → ∀ c r', r = c :: r' → c ≠ 45) :
    magN t = if dgs r = [] ∨ 4 < (dgs r).length ∨ aft r ≠ [] ∨ 9007199254740992 < dvl 0 D then none else some (double.nearest false (dvl 0 D) (if dn then -(dvl 0 (dgs r) : Int) else dvl 0 (dgs r))) := by
  rw [mag_open t hi]
  unfold magB
  obtain ⟨a, b⟩ := dgs_both (r := 112 :: (if dn then 45 :: r else r)) hD (.cons rfl)
  rw [← h] at a b
  dsimp only
  rw [a, b, if_neg (by rintro (h | h); exact h0 h; omega)]
  dsimp only
  rw [if_neg (by decide), if_pos rfl]
  cases dn
  · simp only [Bool.false_eq_true, if_false]
    cases r with
    | nil => rfl
    | cons c r =>
      have := hdn rfl c r rfl
      simp only [this, if_false]
      rfl
  · simp only [if_true]
theorem mag_big {t D r : List UInt8} (hi : t ≠ [105, 110, 102]) (hD : AllD D) (hr : Stop r) (h : t = D ++ r) (hd : ∀ r', r ≠ 46 :: r') (hb : 9007199254740992 < dvl 0 D) : magN t = none := by
  rw [mag_open t hi]
  unfold magB
  obtain ⟨a, b⟩ := dgs_both hD hr
  rw [← h] at a b
  dsimp only
  rw [a, b]
  split
  · rfl
  · cases r with
    | nil => dsimp only; rw [if_neg (by omega)]
    | cons c r =>
      dsimp only
      rw [if_neg (by intro hh; subst hh; exact hd r rfl)]
      split
      · rw [if_pos (.inr (.inr (.inr hb)))]
      · rfl
theorem parN_mag {s : List UInt8} (hl : s.length ≤ 24) (hn : s ≠ [110, 97, 110]) :
    parN s = parB s := by
  unfold parN; rw [if_neg (by omega), if_neg hn]
theorem mag_nil : magN [] = none := by unfold magN magB; rfl
theorem parN_sg {s : List UInt8} {b : Bool} {i : Nat} (hl : s.length ≤ 24) (hn : s ≠ [110, 97, 110]) (hb : b = true → i = 1 ∧ s[0]? = some 45) (hb2 : b = false → i = 0 ∧ s[0]? ≠ some 45) : parN s = (magN (s.drop i)).map (sgB b + ·) := by
  rw [parN_mag hl hn]
  cases b
  · obtain ⟨rfl, h2⟩ := hb2 rfl
    cases s with
    | nil => rw [List.drop_nil, mag_nil]; rfl
    | cons c r =>
      have : c ≠ 45 := fun h => h2 (by rw [h]; rfl)
      unfold parB
      dsimp only
      rw [if_neg this, List.drop_zero]
      cases magN (c :: r) <;> simp [sgB]
  · obtain ⟨rfl, h2⟩ := hb rfl
    cases s with
    | nil => simp at h2
    | cons c r =>
      have : c = 45 := by simpa using h2
      unfold parB
      dsimp only
      rw [if_pos this]; rfl
theorem dvl_snoc (m : Nat) (s : List UInt8) (c : UInt8) : dvl m (s ++ [c]) = dvl m s * 10 + (c.toNat - 48) := by rw [dvl_app]; rfl
theorem dg_iff {c : UInt8} : isDg c = true ↔ 48 ≤ c.toNat ∧ c.toNat ≤ 57 := by
  unfold isDg
  rw [Bool.and_eq_true, decide_eq_true_eq, decide_eq_true_eq, UInt8.le_iff_toNat_le, UInt8.le_iff_toNat_le]; rfl
theorem AllD.lt {s : List UInt8} (h : AllD s) : dvl 0 s < 10 ^ s.length := by
  have := dvl_lt s h 0 0 (by simp)
  rwa [Nat.zero_add] at this
theorem drop_get {s : List UInt8} {p : Nat} {c : UInt8} (h : s[p]? = some c) : s.drop p = c :: s.drop (p + 1) := by
  obtain ⟨h1, h2⟩ := List.getElem?_eq_some_iff.1 h
  rw [List.drop_eq_getElem_cons h1, h2]
theorem ge_pow {n k : Nat} (h : n ≤ k) : 10 ^ n ≤ 10 ^ k := Nat.pow_le_pow_right (by decide) h
end Go.Proofs.Qxb6500568aGreatDoor
