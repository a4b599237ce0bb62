import Derived.Test.Qxb6500570aGreatQb
/- Plain: the saved text. -/
namespace Go.Proofs.Qxb6500570aGreat
set_option linter.unusedVariables false
set_option linter.unusedSimpArgs false

def d2 (n : Nat) : Tx := [UInt8.ofNat (48 + n / 10), UInt8.ofNat (48 + n % 10)]
def svP (T : List Tx) (c : Nat) : Tx := if tF T c = [] then [] else d2 c ++ (d2 (tF T c).length ++ tF T c)
def svT (T : List Tx) : Nat → Tx
  | 0 => []
  | i + 1 => svT T i ++ svP T i
theorem svT_len {T : List Tx} (h : TxOK T) : ∀ i, (svT T i).length ≤ 44 * i
  | 0 => by simp [svT]
  | i + 1 => by
    have h1 := svT_len h i
    have h2 := h.le i
    show (svT T i ++ svP T i).length ≤ _
    rw [List.length_append]
    unfold svP d2
    split
    · simp; omega
    · simp; omega
def bAt (s : Tx) (i : Nat) : Nat := (s.getD i 0).toNat
def pr2 (s : Tx) (i : Nat) : Int := if bAt s i < 48 ∨ 57 < bAt s i ∨ bAt s (i + 1) < 48 ∨ 57 < bAt s (i + 1) then -1 else ((bAt s i : Int) - 48) * 10 + ((bAt s (i + 1) : Int) - 48)
theorem pr2_bd (s : Tx) (i : Nat) : -1 ≤ pr2 s i ∧ pr2 s i ≤ 99 := by
  unfold pr2
  split
  · omega
  · omega
def ldF : Nat → Tx → Int → Nat → List Tx → Option (List Tx)
  | 0, _, _, _, _ => none
  | f + 1, s, last, i, S => if s.length ≤ i then some S else if s.length - i < 4 then none else if pr2 s i ≤ last ∨ 24 ≤ pr2 s i then none
      else if pr2 s (i + 2) < 1 ∨ 40 < pr2 s (i + 2) ∨ ((s.length : Int) - i - 4 < pr2 s (i + 2)) then none
      else ldF f s (pr2 s i) (i + 4 + (pr2 s (i + 2)).toNat) (S.set (pr2 s i).toNat ((s.drop (i + 4)).take (pr2 s (i + 2)).toNat))
/-- What one more piece is. -/
structure PcOK (s : Tx) (last : Int) (i : Nat) (c n : Nat) : Prop where
  h4 : i + 4 + n ≤ s.length
  hc : pr2 s i = (c : Int)
  hn : pr2 s (i + 2) = (n : Int)
  lc : last < c
  c24 : c < 24
  n1 : 1 ≤ n
  n40 : n ≤ 40
theorem ld_end {f i : Nat} {s : Tx} {last : Int} {S : List Tx} (h : s.length ≤ i) : ldF (f + 1) s last i S = some S := by
  unfold ldF; rw [if_pos h]
theorem ld_step {f i c n : Nat} {s : Tx} {last : Int} {S : List Tx} (h : PcOK s last i c n) : ldF (f + 1) s last i S = ldF f s c (i + 4 + n) (S.set c ((s.drop (i + 4)).take n)) := by
  obtain ⟨h1, h2, h3, h4, h5, h6, h7⟩ := h
  conv => lhs; unfold ldF
  rw [if_neg (by omega), if_neg (by omega), h2, h3, if_neg (by omega), if_neg (by omega)]
  simp only [Int.toNat_natCast]
theorem ld_inv {f i : Nat} {s : Tx} {last : Int} {S SF : List Tx} (hl : -1 ≤ last) (hi : i < s.length) (h : ldF (f + 1) s last i S = some SF) : ∃ c n, PcOK s last i c n ∧ ldF f s c (i + 4 + n) (S.set c ((s.drop (i + 4)).take n)) = some SF := by
  have h0 := h
  unfold ldF at h
  rw [if_neg (by omega)] at h
  split at h
  · cases h
  · rename_i h4
    split at h
    · cases h
    · rename_i hc
      split at h
      · cases h
      · rename_i hn
        have p : PcOK s last i (pr2 s i).toNat (pr2 s (i + 2)).toNat := ⟨by omega, by omega, by omega, by omega, by omega, by omega, by omega⟩
        exact ⟨_, _, p, by rw [← ld_step p]; exact h0⟩
theorem ld_none {f i : Nat} {s : Tx} {last : Int} {S : List Tx} (hi : i < s.length) (h : s.length - i < 4 ∨ (pr2 s i ≤ last ∨ 24 ≤ pr2 s i) ∨ (pr2 s (i + 2) < 1 ∨ 40 < pr2 s (i + 2) ∨ ((s.length : Int) - i - 4 < pr2 s (i + 2)))) : ldF (f + 1) s last i S = none := by
  unfold ldF
  rw [if_neg (by omega)]
  split
  · rfl
  · split
    · rfl
    · split
      · rfl
      · omega
theorem ld_ok : ∀ {f i : Nat} {s : Tx} {last : Int} {S SF : List Tx}, -1 ≤ last → TxOK S → ldF f s last i S = some SF → TxOK SF ∧ ∀ c : Nat, (c : Int) ≤ last → tF SF c = tF S c
  | 0, _, _, _, _, _, _, _, h => by cases h
  | f + 1, i, s, last, S, SF, hl, hS, h => by
    by_cases hi : i < s.length
    · obtain ⟨c, n, p, h2⟩ := ld_inv hl hi h
      obtain ⟨p1, p2, p3, p4, p5, p6, p7⟩ := p
      obtain ⟨q1, q2⟩ := ld_ok (by omega) (hS.set (by rw [List.length_take]; omega)) h2
      refine ⟨q1, fun x hx => ?_⟩
      rw [q2 x (by omega), tF_set (by rw [hS.tl]; omega), if_neg (by omega)]
    · rw [ld_end (by omega)] at h
      cases h
      exact ⟨hS, fun _ _ => rfl⟩
end Go.Proofs.Qxb6500570aGreat
