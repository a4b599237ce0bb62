import Derived.Test.Qxb6500568aGreatDoorPe
namespace Go.Proofs.Qxb6500568aGreatDoor
open Ieee
set_option linter.unusedVariables false
set_option linter.unusedSimpArgs false

/-! Words of normal numbers; whole numbers and back. -/

def mkW (M : Nat) (p : Int) : Nat := (p + 1075).toNat * 4503599627370496 + (M - 4503599627370496)
theorem mkW_law {M : Nat} {p : Int} (h1 : 4503599627370496 ≤ M) (h2 : M < 9007199254740992) (h3 : -1074 ≤ p) (h4 : p ≤ 971) :
    mkW M p < infB ∧ W64 (mkW M p) ∧ ngW (mkW M p) = false ∧ rgW (mkW M p) = mkW M p ∧ pmW (mkW M p) = M ∧ peW (mkW M p) = p := by
  obtain ⟨q, hq⟩ : ∃ q : Nat, (p + 1075).toNat = q := ⟨_, rfl⟩
  have hq1 : 1 ≤ q ∧ q ≤ 2046 := by omega
  have hlt : mkW M p < infB := by unfold mkW infB; rw [hq]; omega
  have hr : rgW (mkW M p) = mkW M p := by unfold rgW; apply Nat.mod_eq_of_lt; unfold infB at hlt; omega
  have hdiv : mkW M p / 4503599627370496 = q := by unfold mkW; rw [hq]; omega
  have hmod : mkW M p % 4503599627370496 = M - 4503599627370496 := by unfold mkW; rw [hq]; omega
  have hge : ¬ mkW M p < 4503599627370496 := by unfold mkW; rw [hq]; omega
  refine ⟨hlt, by unfold W64; unfold infB at hlt; omega, by unfold ngW; simp; unfold infB at hlt; omega, hr, ?_, ?_⟩
  · unfold pmW; rw [hr, if_neg hge, hmod]; omega
  · unfold peW; rw [hr, if_neg hge, hdiv]; omega
theorem nearest_mkW {M : Nat} {p : Int} (h1 : 4503599627370496 ≤ M) (h2 : M < 9007199254740992) (h3 : -1074 ≤ p) (h4 : p ≤ 971) : double.nearest false M p = mkW M p := by
  obtain ⟨a, b, c, d, e, f⟩ := mkW_law h1 h2 h3 h4
  have := nearest_self b (by rw [d]; exact a)
  rw [c, e, f] at this
  exact this

def IEq (m M L : Nat) : Prop := m * 4503599627370496 = M * 2 ^ L
theorem IEq.top {m M : Nat} (h : IEq m M 53) (hm : m ≤ 9007199254740992) (hM : 4503599627370496 ≤ M) : M = 4503599627370496 ∧ m = 9007199254740992 := by
  have e : M * 2 ^ 53 = M * 2 * 4503599627370496 := by rw [Nat.mul_assoc]
  have h2 : m * 4503599627370496 = M * 2 * 4503599627370496 := Eq.trans h e
  have h3 : m = M * 2 := Nat.eq_of_mul_eq_mul_right (by decide) h2
  clear h h2 e
  omega
/-- A whole number up to 2^53. -/
theorem nearest_int {m : Nat} (h0 : 0 < m) (h1 : m ≤ 9007199254740992) : ∃ L M : Nat, L ≤ 53 ∧ 4503599627370496 ≤ M ∧ M < 9007199254740992 ∧ IEq m M L ∧ double.nearest false m 0 = mkW M ((L : Int) - 52) := by
  by_cases c : m = 9007199254740992
  · subst c
    refine ⟨53, 4503599627370496, by omega, by omega, by omega, by unfold IEq; decide, ?_⟩
    rw [← nearest_mkW (by omega) (by omega) (by omega) (by omega)]
    exact nearest_scale false 4503599627370496 1 1 0 (by omega) (by omega)
  · have hne : m ≠ 0 := by omega
    have hL := two_log_le hne
    have hL2 := lt_two_log m
    have hL52 : m.log2 ≤ 52 := by
      have := (Nat.log2_lt hne (k := 53)).2 (by omega)
      omega
    obtain ⟨k, hk⟩ : ∃ k, m.log2 + k = 52 := ⟨52 - m.log2, by omega⟩
    have hkp := Nat.two_pow_pos k
    have e1 : 2 ^ m.log2 * 2 ^ k = 4503599627370496 := by rw [← Nat.pow_add, hk]
    have e2 : 2 ^ (m.log2 + 1) * 2 ^ k = 9007199254740992 := by rw [← Nat.pow_add, show m.log2 + 1 + k = 53 by omega]
    have a1 := Nat.mul_le_mul_right (2 ^ k) hL
    have a2 := Nat.mul_lt_mul_of_pos_right hL2 hkp
    refine ⟨m.log2, m * 2 ^ k, by omega, by omega, by omega, ?_, ?_⟩
    · unfold IEq; rw [Nat.mul_assoc, Nat.mul_comm (2 ^ k), e1]
    · rw [← nearest_mkW (by omega) (by omega) (by omega) (by omega)]
      exact (nearest_scale false m k 0 _ hne (by omega)).symm

theorem int_div {m M L k : Nat} (hm : IEq m M L) (hk : L + k = 52) : M = m * 2 ^ k := by
  have e : 2 ^ k * 2 ^ L = 4503599627370496 := by rw [← Nat.pow_add, show k + L = 52 by omega]
  have h : m * (2 ^ k * 2 ^ L) = M * 2 ^ L := by rw [e]; exact hm
  rw [← Nat.mul_assoc] at h
  exact (Nat.eq_of_mul_eq_mul_right (Nat.two_pow_pos L) h).symm
theorem toN0 {L : Nat} (h : L ≤ 52) : ((L : Int) - 52).toNat = 0 := by omega
theorem toNk {L k : Nat} (h : L + k = 52) : (-((L : Int) - 52)).toNat = k := by omega
theorem toN53 {L : Nat} (h : ¬ L ≤ 52) : (-((L : Int) - 52)).toNat = 0 := by omega
theorem exK {L : Nat} (h : L ≤ 52) : ∃ k, L + k = 52 := ⟨52 - L, by omega⟩
theorem mkW_le {M L : Nat} (hL : L ≤ 53) (hM : M < 9007199254740992) (h : L = 53 → M = 4503599627370496) : mkW M ((L : Int) - 52) ≤ 4845873199050653696 := by
  unfold mkW
  rcases Nat.lt_or_ge L 53 with hl | hl
  · have : ((L : Int) - 52 + 1075).toNat ≤ 1075 := by omega
    generalize ((L : Int) - 52 + 1075).toNat = q at this ⊢
    have h2 : q * 4503599627370496 ≤ 4841369599423283200 := Nat.mul_le_mul_right 4503599627370496 this
    generalize q * 4503599627370496 = y at h2 ⊢
    omega
  · have hL53 : L = 53 := by omega
    have hM := h hL53
    have : ((L : Int) - 52 + 1075).toNat = 1076 := by omega
    rw [this]
    omega
/-! to a whole number -/
theorem cut_zero (neg : Bool) (n d : Nat) : Toward.zero.cut neg n d = n / 2 ^ d := by
  unfold Toward.cut
  simp only [Nat.shiftLeft_eq, Nat.one_mul, Bool.toNat_false, Nat.add_zero]
  by_cases h : d ≤ n.log2 + 2
  · rw [Nat.min_eq_left h]
  · have hg : min d (n.log2 + 2) = n.log2 + 2 := by omega
    rw [hg]
    have hn := lt_two_log n
    have e2 : 2 ^ (n.log2 + 2) = 2 * 2 ^ (n.log2 + 1) := by rw [Nat.pow_succ, Nat.mul_comm]
    have hle : 2 ^ (n.log2 + 2) ≤ 2 ^ d := Nat.pow_le_pow_right (by omega) (by omega)
    rw [Nat.div_eq_of_lt (show n < 2 ^ (n.log2 + 2) by omega), Nat.div_eq_of_lt (show n < 2 ^ d by omega)]

def truW (x : Nat) : Nat := pmW x * 2 ^ (peW x).toNat / 2 ^ (-peW x).toNat
def whoW (x : Nat) : Bool := decide (pmW x * 2 ^ (peW x).toNat % 2 ^ (-peW x).toNat = 0)
def sgI (b : Bool) (n : Nat) : Int := if b then -(n : Int) else (n : Int)
theorem toInt_fin {x : Nat} (h : W64 x) (hf : rgW x < infB) : (double.read x).toInt .zero = some (sgI (ngW x) (truW x)) := by
  rw [read_fin h hf]
  simp only [Datum.toInt, Datum.integral, cut_zero, Nat.shiftLeft_eq]
  rw [signed_eq, Nat.pow_zero, Nat.mul_one]
  rfl
/-- A whole number of magnitude at most 2^53. -/
def toI (x : Nat) : Option Int := if rgW x ≤ 4845873199050653696 ∧ whoW x = true then some (sgI (ngW x) (truW x)) else none

theorem rg53 {x : Nat} (h : rgW x ≤ 4845873199050653696) : truW x ≤ 9007199254740992 := by
  unfold truW
  by_cases c : rgW x = 4845873199050653696
  · have e1 : pmW x = 4503599627370496 := by unfold pmW; rw [c]; decide
    have e2 : peW x = 1 := by unfold peW; rw [c]; decide
    rw [e1, e2]; decide
  · have hpe : peW x ≤ 0 := by unfold peW; split <;> omega
    have e1 : (peW x).toNat = 0 := by omega
    have := pm_lt x
    rw [e1, Nat.pow_zero, Nat.mul_one]
    exact Nat.le_trans (Nat.div_le_self _ _) (by omega)
theorem rg53f {x : Nat} (h : rgW x ≤ 4845873199050653696) : rgW x < infB := by unfold infB; omega

/-- The whole number's word again. -/
theorem back_eq {x : Nat} (h : W64 x) (h1 : rgW x ≤ 4845873199050653696) : okey (double.nearest (decide (sgI (ngW x) (truW x) < 0)) (sgI (ngW x) (truW x)).natAbs 0) = okey x ↔ whoW x = true := by
  have hab : (sgI (ngW x) (truW x)).natAbs = truW x := by unfold sgI; split <;> omega
  rw [hab]
  have hf := rg53f h1
  have ht := rg53 h1
  by_cases t0 : truW x = 0
  · have hk : okey (double.nearest (decide (sgI (ngW x) (truW x) < 0)) (truW x) 0) = 0 := by
      rw [t0, nearest_zero]
      have : decide (sgI (ngW x) 0 < 0) = false := by unfold sgI; split <;> simp
      rw [this]; decide
    rw [hk]
    unfold whoW
    rw [decide_eq_true_eq]
    have hz : (0 = okey x) ↔ pmW x = 0 := by
      rw [pm_zero]; unfold okey; split <;> omega
    rw [hz]
    unfold truW at t0
    have hd := Nat.div_add_mod (pmW x * 2 ^ (peW x).toNat) (2 ^ (-peW x).toNat)
    rw [t0, Nat.mul_zero, Nat.zero_add] at hd
    rw [hd]
    have hp := Nat.two_pow_pos (peW x).toNat
    constructor
    · intro h; rw [h, Nat.zero_mul]
    · intro h; rcases Nat.mul_eq_zero.1 h with h | h
      · exact h
      · omega
  · have hsg : decide (sgI (ngW x) (truW x) < 0) = ngW x := by
      unfold sgI; cases ngW x <;> simp; omega
    rw [hsg]
    constructor
    · intro hk
      obtain ⟨L, M, hL, hM1, hM2, hm, hn⟩ := nearest_int (Nat.pos_of_ne_zero t0) ht
      obtain ⟨a, b, c, d, e, f⟩ := mkW_law (p := (L : Int) - 52) hM1 hM2 (by omega) (by omega)
      have hy : double.nearest (ngW x) (truW x) 0 = sgB (ngW x) + mkW M ((L : Int) - 52) := by
        rw [nearest_rung _ _ _ t0, word_sg]
        rw [nearest_rung _ _ _ t0, word_sg] at hn
        unfold sgB at hn ⊢
        simp only [Bool.false_eq_true, if_false, Nat.zero_add] at hn
        rw [hn]
      rw [hy] at hk
      have hrg : rgW (sgB (ngW x) + mkW M ((L : Int) - 52)) = mkW M ((L : Int) - 52) := by
        unfold infB at a; unfold rgW sgB; split <;> omega
      have hng : ngW (sgB (ngW x) + mkW M ((L : Int) - 52)) = ngW x := by
        unfold infB at a
        cases hx : ngW x
        · unfold ngW sgB; simp; omega
        · unfold ngW sgB; simp
      have hrx : rgW x = mkW M ((L : Int) - 52) := by
        unfold okey at hk
        rw [hng, hrg] at hk
        split at hk <;> omega
      have hpm : pmW x = M := by rw [← e]; unfold pmW; rw [hrx, d]
      have hpe : peW x = (L : Int) - 52 := by rw [← f]; unfold peW; rw [hrx, d]
      unfold whoW
      rw [decide_eq_true_eq, hpm, hpe]
      by_cases cL : L ≤ 52
      · have e1 := toN0 cL
        obtain ⟨k, hk2⟩ := exK cL
        have e2 := toNk hk2
        rw [e1, e2, Nat.pow_zero, Nat.mul_one, int_div hm hk2, Nat.mul_mod_left]
      · have e2 := toN53 cL
        rw [e2, Nat.pow_zero, Nat.mod_one]
    · intro hw
      have : double.nearest (ngW x) (truW x) 0 = x := by
        have hs := nearest_self h hf
        unfold whoW at hw
        rw [decide_eq_true_eq] at hw
        unfold truW at t0 ⊢
        by_cases c : 0 ≤ peW x
        · have e1 : (-peW x).toNat = 0 := by omega
          rw [e1, Nat.pow_zero, Nat.div_one] at t0 ⊢
          have hz : pmW x ≠ 0 := by intro hz; rw [hz, Nat.zero_mul] at t0; exact t0 rfl
          rw [nearest_scale _ _ _ (peW x) 0 hz (by omega)]; exact hs
        · have e1 : (peW x).toNat = 0 := by omega
          rw [e1, Nat.pow_zero, Nat.mul_one] at hw t0 ⊢
          generalize hk : (-peW x).toNat = k at *
          have hq := Nat.div_add_mod (pmW x) (2 ^ k)
          rw [hw, Nat.add_zero, Nat.mul_comm] at hq
          rw [← nearest_scale _ _ k 0 (peW x) t0 (by omega), hq]; exact hs
      rw [this]

theorem toI_z {x : Nat} (hr : rgW x = 0) : toI x = some 0 := by
  have e1 : pmW x = 0 := pm_zero.2 hr
  unfold toI whoW truW
  rw [e1, Nat.zero_mul, Nat.zero_mod, Nat.zero_div, if_pos ⟨by omega, by decide⟩]
  unfold sgI; split <;> rfl
/-- The word of a small whole number comes back. -/
theorem toI_int {n : Nat} (h : n ≤ 9007199254740992) : toI (double.nearest false n 0) = some (n : Int) := by
  by_cases h0 : n = 0
  · subst h0; rw [nearest_zero]; exact toI_z (by decide)
  · obtain ⟨L, M, hL, hM1, hM2, hm, hn⟩ := nearest_int (Nat.pos_of_ne_zero h0) h
    obtain ⟨a, b, c, d, e, f⟩ := mkW_law (p := (L : Int) - 52) hM1 hM2 (by omega) (by omega)
    have hrg : rgW (double.nearest false n 0) ≤ 4845873199050653696 := by
      rw [hn, d]
      exact mkW_le hL hM2 (fun h53 => by subst h53; exact (hm.top h hM1).1)
    have hng : ngW (double.nearest false n 0) = false := by rw [hn]; exact c
    have htr : pmW (double.nearest false n 0) * 2 ^ (peW (double.nearest false n 0)).toNat = n * 2 ^ (-peW (double.nearest false n 0)).toNat := by
      rw [hn, e, f]
      by_cases cL : L ≤ 52
      · obtain ⟨k, hk2⟩ := exK cL
        have e1 := toN0 cL
        have e2 := toNk hk2
        rw [e1, e2, Nat.pow_zero, Nat.mul_one]
        exact int_div hm hk2
      · have hL53 : L = 53 := Nat.le_antisymm hL (Nat.lt_of_not_le cL)
        subst hL53
        have e1 : (((53 : Nat) : Int) - 52).toNat = 1 := by decide
        have e2 : (-(((53 : Nat) : Int) - 52)).toNat = 0 := by decide
        obtain ⟨q1, q2⟩ := hm.top h hM1
        rw [e1, e2, q1, q2]
    unfold toI whoW truW
    rw [htr, hng, Nat.mul_mod_left, Nat.mul_div_cancel _ (Nat.two_pow_pos _), if_pos ⟨hrg, by decide⟩]
    rfl
theorem toI_zero {x : Nat} (h : W64 x) : toI x = some 0 ↔ rgW x = 0 := by
  constructor
  · intro ht
    unfold toI at ht
    split at ht
    · rename_i hc
      have h2 : sgI (ngW x) (truW x) = 0 := Option.some.inj ht
      have h3 : truW x = 0 := by unfold sgI at h2; split at h2 <;> omega
      have h4 := (back_eq h hc.1).2 hc.2
      have hab : (sgI (ngW x) (truW x)).natAbs = 0 := by rw [h2]; rfl
      rw [hab, h2, show decide ((0 : Int) < 0) = false from rfl, nearest_zero] at h4
      have : okey (sgB false) = 0 := by decide
      rw [this] at h4
      unfold okey at h4
      split at h4 <;> omega
    · cases ht
  · exact toI_z
theorem toI_inj {x y : Nat} {i : Int} (hx : W64 x) (hy : W64 y) (h1 : toI x = some i) (h2 : toI y = some i) (h0 : i ≠ 0) : x = y := by
  have key : ∀ z, W64 z → toI z = some i → okey (double.nearest (decide (i < 0)) i.natAbs 0) = okey z := by
    intro z hz ht
    unfold toI at ht
    split at ht
    · rename_i hc
      have h2 : sgI (ngW z) (truW z) = i := Option.some.inj ht
      have h4 := (back_eq hz hc.1).2 hc.2
      rw [h2] at h4; exact h4
    · cases ht
  have ka := key x hx h1
  have kb := key y hy h2
  have hxy := ka.symm.trans kb
  rcases (okey_eq hx hy).1 hxy with h | ⟨h, _⟩
  · exact h
  · exfalso
    have := (toI_zero hx).2 h
    rw [h1] at this
    exact h0 (Option.some.inj this)
theorem toI_bd {x : Nat} {i : Int} (h : toI x = some i) : -9007199254740992 ≤ i ∧ i ≤ 9007199254740992 := by
  unfold toI at h
  split at h
  · rename_i hc
    have h2 : sgI (ngW x) (truW x) = i := Option.some.inj h
    have := rg53 hc.1
    unfold sgI at h2; split at h2 <;> omega
  · cases h
end Go.Proofs.Qxb6500568aGreatDoor
