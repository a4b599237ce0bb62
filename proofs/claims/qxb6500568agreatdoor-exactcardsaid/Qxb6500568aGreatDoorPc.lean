import Derived.Test.Qxb6500568aGreatDoorPb
namespace Go.Proofs.Qxb6500568aGreatDoor
open Ieee
set_option linter.unusedVariables false
set_option linter.unusedSimpArgs false

/-! The model's ways to sums, products, quotients, floors; order. -/

def pkS (sg : Bool) (man : Nat) (ex : Int) (st : Bool) : Nat :=
  if man = 0 then sgB sg else if st then double.nearest sg (2 * man + 1) (ex - 1) else double.nearest sg man ex

theorem pkS_f (sg : Bool) (man : Nat) (ex : Int) : pkS sg man ex false = double.nearest sg man ex := by
  unfold pkS
  by_cases h : man = 0
  · subst h; rw [if_pos rfl, nearest_zero]
  · rw [if_neg h, if_neg (by simp)]
theorem pkS_t (sg : Bool) (man : Nat) (ex : Int) (h : man ≠ 0) : pkS sg man ex true = double.nearest sg (2 * man + 1) (ex - 1) := by
  unfold pkS; rw [if_neg h, if_pos rfl]

def AddP (a b A B : Nat) (ex : Int) (st : Bool) : Prop :=
  ∃ d : Nat, peW a = peW b + d ∧ ((d ≤ 10 ∧ A = pmW a * 2 ^ d ∧ B = pmW b ∧ ex = peW b ∧ st = false) ∨
    (10 < d ∧ 4503599627370496 ≤ pmW a ∧ A = pmW a * 2 ^ 10 ∧ B = pmW b / 2 ^ (d - 10) ∧ ex = peW a - 10 ∧ st = decide (pmW b % 2 ^ (d - 10) ≠ 0)))

theorem AddP.bd {a b A B : Nat} {ex : Int} {st : Bool} (h : AddP a b A B ex st) (ha : rgW a < infB) : A < 9223372036854775808 ∧ B < 9007199254740992 ∧ -1100 ≤ ex ∧ ex ≤ 1000 ∧ (st = true → 4611686018427387904 ≤ A) ∧ (st = true → B < 4503599627370496) := by
  obtain ⟨d, hd, h⟩ := h
  have h1 := pm_lt a
  have h2 := pm_lt b
  have h3 := pe_ge b
  have h4 := pe_ge a
  have h5 := pe_le ha
  rcases h with ⟨hd, rfl, rfl, rfl, rfl⟩ | ⟨hd, h0, rfl, rfl, rfl, rfl⟩
  · have : 2 ^ d ≤ 2 ^ 10 := Nat.pow_le_pow_right (by omega) hd
    have := Nat.mul_le_mul_left (pmW a) this
    refine ⟨by omega, by omega, by omega, by omega, by simp, by simp⟩
  · have : 2 ^ 1 ≤ 2 ^ (d - 10) := Nat.pow_le_pow_right (by omega) (by omega)
    have hle : pmW b / 2 ^ (d - 10) ≤ pmW b / 2 := Nat.div_le_div_left (by omega) (by omega)
    refine ⟨by omega, by omega, by omega, by omega, fun _ => by omega, fun _ => by omega⟩

theorem add_sameP {a b A B : Nat} {ex : Int} {st : Bool} (ha : W64 a) (hb : W64 b) (h : rgW a < infB) (h2 : rgW b < infB) (h3 : rgW a ≠ 0) (hs : ngW a = ngW b) (hP : AddP a b A B ex st) : fAdd a b = pkS (ngW a) (A + B) ex st := by
  have hbd := hP.bd h
  obtain ⟨d, hd, hP⟩ := hP
  rw [add_same ha hb h h2 h3 hs (by omega)]
  have hm : pmW a ≠ 0 := fun c => h3 (pm_zero.1 c)
  have e0 : (peW a - peW b).toNat = d := by omega
  rw [e0]
  rcases hP with ⟨hd1, rfl, rfl, rfl, rfl⟩ | ⟨hd1, h0, rfl, rfl, rfl, rfl⟩
  · rw [pkS_f]
  · obtain ⟨j, rfl⟩ : ∃ j, d = 10 + j := ⟨d - 10, by omega⟩
    rw [show 10 + j - 10 = j by omega] at *
    have hj := Nat.two_pow_pos j
    have hq := Nat.div_add_mod (pmW b) (2 ^ j)
    have hr := Nat.mod_lt (pmW b) hj
    have e1 : pmW a * 2 ^ (10 + j) + pmW b = (pmW a * 2 ^ 10 + pmW b / 2 ^ j) * 2 ^ j + pmW b % 2 ^ j := by
      rw [Nat.add_mul, Nat.pow_add, Nat.mul_assoc, Nat.mul_comm (pmW b / 2 ^ j)]; omega
    rw [e1]
    have hMge : 9007199254740992 ≤ pmW a * 2 ^ 10 + pmW b / 2 ^ j := Nat.le_trans (show 9007199254740992 ≤ pmW a * 2 ^ 10 by omega) (Nat.le_add_right _ _)
    generalize pmW a * 2 ^ 10 + pmW b / 2 ^ j = M at hMge ⊢
    by_cases c : pmW b % 2 ^ j = 0
    · rw [c, Nat.add_zero, show (decide (0 ≠ 0)) = false from rfl, pkS_f]
      exact nearest_scale _ M j _ _ (by omega) (by omega)
    · rw [show (decide (pmW b % 2 ^ j ≠ 0)) = true by simp [c], pkS_t _ _ _ (by omega)]
      exact nearest_below _ M j _ _ _ (by omega) (by omega) hr (by omega)

theorem add_diffP {a b A B : Nat} {ex : Int} {st : Bool} (ha : W64 a) (hb : W64 b) (h : rgW a < infB) (h2 : rgW b < infB) (hs : ngW a ≠ ngW b) (hP : AddP a b A B ex st) :
    fAdd a b = if A = B ∧ st = false then 0 else if A < B then pkS (ngW b) (B - A) ex false else if st then pkS (ngW a) (A - B - 1) ex true else pkS (ngW a) (A - B) ex false := by
  have hbd := hP.bd h
  obtain ⟨d, hd, hP⟩ := hP
  rw [add_diff ha hb h h2 hs (by omega)]
  have e0 : (peW a - peW b).toNat = d := by omega
  dsimp only
  rw [e0]
  rcases hP with ⟨hd1, rfl, rfl, rfl, rfl⟩ | ⟨hd1, h0, rfl, rfl, rfl, rfl⟩
  · simp only [and_true, pkS_f, Bool.false_eq_true, if_false]
  · obtain ⟨j, rfl⟩ : ∃ j, d = 10 + j := ⟨d - 10, by omega⟩
    rw [show 10 + j - 10 = j by omega] at *
    have hj := Nat.two_pow_pos j
    have hq := Nat.div_add_mod (pmW b) (2 ^ j)
    have hr := Nat.mod_lt (pmW b) hj
    have hBlt := pm_lt b
    have hBle : pmW b / 2 ^ j ≤ pmW b := Nat.div_le_self _ _
    have e1 : pmW a * 2 ^ (10 + j) = pmW a * 2 ^ 10 * 2 ^ j := by rw [Nat.pow_add, Nat.mul_assoc]
    rw [e1]
    generalize hA : pmW a * 2 ^ 10 = A at *
    have hAge : 4611686018427387904 ≤ A := by omega
    generalize hB : pmW b / 2 ^ j = B at *
    generalize hb' : pmW b = b' at *
    generalize hr' : b' % 2 ^ j = r at *
    have hm1 : 1 * 2 ^ j ≤ (A - B) * 2 ^ j := Nat.mul_le_mul_right _ (by omega)
    have hm2 : (A - B) * 2 ^ j = A * 2 ^ j - B * 2 ^ j := Nat.sub_mul ..
    rw [Nat.mul_comm (2 ^ j) B] at hq
    rw [if_neg (by omega), if_neg (by omega), if_neg (by omega), if_neg (by omega)]
    by_cases c : r = 0
    · subst c
      rw [show (decide (0 ≠ 0)) = false from rfl, if_neg (by simp), pkS_f]
      have : A * 2 ^ j - b' = (A - B) * 2 ^ j := by omega
      rw [this]
      exact nearest_scale _ _ j _ _ (by omega) (by omega)
    · rw [show (decide (r ≠ 0)) = true by simp [c], if_pos rfl, pkS_t _ _ _ (by omega)]
      have : A * 2 ^ j - b' = (A - B - 1) * 2 ^ j + (2 ^ j - r) := by
        have : (A - B - 1) * 2 ^ j = (A - B) * 2 ^ j - 2 ^ j := by rw [Nat.sub_mul, Nat.one_mul]
        omega
      rw [this]
      exact nearest_below _ _ j _ _ _ (by omega) (by omega) (by omega) (by omega)

/-- Products. -/
theorem mul_pk {a b k : Nat} (ha : W64 a) (hb : W64 b) (h0 : rgW a < infB) (h1 : rgW b < infB) (h2 : rgW a ≠ 0) (h3 : rgW b ≠ 0) (hk : k = 0 ∨ 2 ^ 63 ≤ pmW a * pmW b / 2 ^ k) :
    fMul a b = pkS (ngW a ^^ ngW b) (pmW a * pmW b / 2 ^ k) (peW a + peW b + k) (decide (pmW a * pmW b % 2 ^ k ≠ 0)) := by
  rw [mul_fin ha hb h0 h1]
  have hP : pmW a * pmW b ≠ 0 := Nat.mul_ne_zero (fun c => h2 (pm_zero.1 c)) (fun c => h3 (pm_zero.1 c))
  generalize pmW a * pmW b = X at *
  have hkp := Nat.two_pow_pos k
  have hq := Nat.div_add_mod X (2 ^ k)
  have hr := Nat.mod_lt X hkp
  rcases hk with hk | hk
  · subst hk
    rw [Nat.pow_zero, Nat.div_one, Nat.mod_one, show (decide ((0 : Nat) ≠ 0)) = false from rfl, pkS_f]
    congr 1; omega
  · have hXq : X / 2 ^ k ≠ 0 := by have := Nat.two_pow_pos 63; omega
    by_cases c : X % 2 ^ k = 0
    · rw [c, show (decide ((0 : Nat) ≠ 0)) = false from rfl, pkS_f]
      rw [c, Nat.add_zero, Nat.mul_comm] at hq
      conv => lhs; rw [← hq]
      exact nearest_scale _ _ k _ _ hXq (by omega)
    · rw [show (decide (X % 2 ^ k ≠ 0)) = true by simp [c], pkS_t _ _ _ hXq]
      rw [Nat.mul_comm] at hq
      conv => lhs; rw [← hq]
      have h53 : 2 ^ 53 ≤ 2 ^ 63 := by decide
      exact nearest_below _ _ k _ _ _ (by omega) (by omega) hr (by omega)

theorem mulHL (ma mb : Nat) (h1 : ma < 9007199254740992) (h2 : mb < 9007199254740992) (X Y Z V : Nat) (hX : X = ma % 4294967296 * (mb % 4294967296)) (hY : Y = ma / 4294967296 * (mb % 4294967296)) (hZ : Z = ma % 4294967296 * (mb / 4294967296)) (hV : V = ma / 4294967296 * (mb / 4294967296)) :
    X < 18446744073709551616 ∧ Y < 9007199254740992 ∧ Z < 9007199254740992 ∧ V < 4398046511104 ∧ ma * mb = V * 18446744073709551616 + (Y + Z) * 4294967296 + X := by
  have a1 : ma / 4294967296 < 2097152 := by omega
  have b1 : mb / 4294967296 < 2097152 := by omega
  have a0 : ma % 4294967296 < 4294967296 := Nat.mod_lt _ (by decide)
  have b0 : mb % 4294967296 < 4294967296 := Nat.mod_lt _ (by decide)
  have ea := Nat.div_add_mod ma 4294967296
  have eb := Nat.div_add_mod mb 4294967296
  generalize ma / 4294967296 = x1 at *
  generalize ma % 4294967296 = x0 at *
  generalize mb / 4294967296 = y1 at *
  generalize mb % 4294967296 = y0 at *
  have hXb : X < 18446744073709551616 := by rw [hX]; exact Nat.lt_of_lt_of_le (Nat.mul_lt_mul'' a0 b0) (by decide)
  have hYb : Y < 9007199254740992 := by rw [hY]; exact Nat.lt_of_lt_of_le (Nat.mul_lt_mul'' a1 b0) (by decide)
  have hZb : Z < 9007199254740992 := by rw [hZ]; exact Nat.lt_of_lt_of_le (Nat.mul_lt_mul'' a0 b1) (by decide)
  have hVb : V < 4398046511104 := by rw [hV]; exact Nat.lt_of_lt_of_le (Nat.mul_lt_mul'' a1 b1) (by decide)
  refine ⟨hXb, hYb, hZb, hVb, ?_⟩
  rw [← ea, ← eb, Nat.add_mul, Nat.mul_add, Nat.mul_add, Nat.mul_assoc, Nat.mul_assoc, ← Nat.mul_assoc x1, Nat.mul_comm x1 4294967296, Nat.mul_assoc 4294967296 x1 y1, Nat.mul_left_comm x0 4294967296 y1, ← hX, ← hY, ← hZ, ← hV]
  omega

/-- Floors. -/
theorem cut_down (neg : Bool) (n d : Nat) : Toward.down.cut neg n d = n / 2 ^ d + (if neg = true ∧ n % 2 ^ d ≠ 0 then 1 else 0) := by
  unfold Toward.cut
  simp only [Nat.shiftLeft_eq, Nat.one_mul]
  by_cases h : d ≤ n.log2 + 2
  · rw [Nat.min_eq_left h]
    congr 1
    cases neg <;> by_cases c : n % 2 ^ d = 0 <;> simp [c]
  · have hg : min d (n.log2 + 2) = n.log2 + 2 := by omega
    rw [hg]
    have hn := lt_two_log n
    have e2 : 2 ^ (n.log2 + 2) = 2 * 2 ^ (n.log2 + 1) := by rw [Nat.pow_succ, Nat.mul_comm]
    have hle : 2 ^ (n.log2 + 2) ≤ 2 ^ d := Nat.pow_le_pow_right (by omega) (by omega)
    rw [Nat.div_eq_of_lt (show n < 2 ^ (n.log2 + 2) by omega), Nat.mod_eq_of_lt (show n < 2 ^ (n.log2 + 2) by omega), Nat.div_eq_of_lt (show n < 2 ^ d by omega), Nat.mod_eq_of_lt (show n < 2 ^ d by omega)]
    cases neg <;> by_cases c : n = 0 <;> simp [c]

theorem flr_fin {x : Nat} (h : W64 x) (hf : rgW x < infB) : fFlr x = double.nearest (ngW x) (pmW x * 2 ^ (peW x).toNat / 2 ^ (-peW x).toNat + (if ngW x = true ∧ pmW x * 2 ^ (peW x).toNat % 2 ^ (-peW x).toNat ≠ 0 then 1 else 0)) 0 := by
  unfold fFlr
  have : isNaNW x = false := by unfold isNaNW; simp; omega
  rw [this, if_neg (by simp), read_fin h hf]
  simp only [Datum.integral, Format.write, cut_down, Nat.shiftLeft_eq]

theorem flr_nan {x : Nat} (h : isNaNW x = true) : fFlr x = nanB := by unfold fFlr; rw [if_pos h]

theorem flr_inf {x : Nat} (h : W64 x) (hf : rgW x = infB) : fFlr x = x := by
  unfold fFlr
  have : isNaNW x = false := by unfold isNaNW; simp; omega
  rw [this, if_neg (by simp), read_inf h hf]
  show double.write (.infinity _) = x
  rw [word_inf, ← hf]; exact (split_w h).symm

theorem flr_whole {x : Nat} (h : W64 x) (hf : rgW x < infB) (hw : 0 ≤ peW x ∨ pmW x % 2 ^ (-peW x).toNat = 0) : fFlr x = x := by
  rw [flr_fin h hf]
  have hs := nearest_self h hf
  by_cases c : 0 ≤ peW x
  · have e1 : (-peW x).toNat = 0 := by omega
    rw [e1, Nat.pow_zero, Nat.div_one, Nat.mod_one, if_neg (by simp), Nat.add_zero]
    by_cases hz : pmW x = 0
    · rw [hz, Nat.zero_mul, nearest_zero]
      rw [hz, nearest_zero] at hs
      exact hs
    · rw [nearest_scale _ _ _ (peW x) 0 hz (by omega)]; exact hs
  · have e1 : (peW x).toNat = 0 := by omega
    have hw' := hw.resolve_left c
    rw [e1, Nat.pow_zero, Nat.mul_one, hw', if_neg (by simp), Nat.add_zero]
    generalize hk : (-peW x).toNat = k at *
    have hq := Nat.div_add_mod (pmW x) (2 ^ k)
    rw [hw', Nat.add_zero, Nat.mul_comm] at hq
    by_cases hz : pmW x / 2 ^ k = 0
    · rw [hz, Nat.zero_mul] at hq
      rw [hz, nearest_zero]
      rw [← hq, nearest_zero] at hs
      exact hs
    · rw [← nearest_scale _ _ k 0 (peW x) hz (by omega), hq]; exact hs

theorem flr_small {x : Nat} (h : W64 x) (hf : rgW x < infB) (hz : rgW x ≠ 0) (hw : peW x ≤ -53) : fFlr x = if ngW x then 13830554455654793216 else 0 := by
  rw [flr_fin h hf]
  have e1 : (peW x).toNat = 0 := by omega
  have hm := pm_lt x
  have hne : pmW x ≠ 0 := fun c => hz (pm_zero.1 c)
  have hlt : pmW x < 2 ^ (-peW x).toNat := Nat.lt_of_lt_of_le (show pmW x < 2 ^ 53 by omega) (Nat.pow_le_pow_right (by omega) (by omega))
  rw [e1, Nat.pow_zero, Nat.mul_one, Nat.div_eq_of_lt hlt, Nat.mod_eq_of_lt hlt]
  cases hn : ngW x
  · simp only [Bool.false_eq_true, false_and, if_false]
    exact nearest_zero _ _
  · simp only [hne, ne_eq, not_false_eq_true, and_self, if_true]
    decide

theorem flr_part {x k : Nat} (h : W64 x) (hf : rgW x < infB) (hk : peW x = -(k : Int)) (hr : pmW x % 2 ^ k ≠ 0) : fFlr x = pkS (ngW x) ((pmW x / 2 ^ k + (ngW x).toNat) * 2 ^ k) (peW x) false := by
  rw [flr_fin h hf, pkS_f]
  have e1 : (peW x).toNat = 0 := by omega
  have e2 : (-peW x).toNat = k := by omega
  rw [e1, e2, Nat.pow_zero, Nat.mul_one]
  have : (if ngW x = true ∧ pmW x % 2 ^ k ≠ 0 then 1 else 0) = (ngW x).toNat := by cases ngW x <;> simp [hr]
  rw [this]
  generalize pmW x / 2 ^ k + (ngW x).toNat = Q
  by_cases hQ : Q = 0
  · subst hQ; rw [Nat.zero_mul, nearest_zero, nearest_zero]
  · exact (nearest_scale _ Q k 0 _ hQ (by omega)).symm

theorem andNot_lo {m k : Nat} (h : W64 m) (hk : k ≤ 64) : m &&& (2 ^ 64 - 1 - (2 ^ k - 1)) = m / 2 ^ k * 2 ^ k := by
  have hp := Nat.two_pow_pos k
  have hp2 : 2 ^ 64 = 2 ^ (64 - k) * 2 ^ k := by rw [← Nat.pow_add]; congr 1; omega
  have e0 : 2 ^ 64 - 1 - (2 ^ k - 1) = (2 ^ (64 - k) - 1) * 2 ^ k := by
    rw [Nat.sub_mul, Nat.one_mul, ← hp2]; have := Nat.pow_le_pow_right (n := 2) (by omega) hk; omega
  rw [e0]
  have d1 : (m &&& (2 ^ (64 - k) - 1) * 2 ^ k) / 2 ^ k = m / 2 ^ k &&& (2 ^ (64 - k) - 1) * 2 ^ k / 2 ^ k := Nat.and_div_two_pow
  have d2 : (m &&& (2 ^ (64 - k) - 1) * 2 ^ k) % 2 ^ k = m % 2 ^ k &&& (2 ^ (64 - k) - 1) * 2 ^ k % 2 ^ k := Nat.and_mod_two_pow
  rw [Nat.mul_mod_left, Nat.and_zero] at d2
  rw [Nat.mul_div_cancel _ hp, Nat.and_two_pow_sub_one_eq_mod] at d1
  have hlt : m / 2 ^ k < 2 ^ (64 - k) := by rw [Nat.div_lt_iff_lt_mul hp, ← hp2]; exact h
  rw [Nat.mod_eq_of_lt hlt] at d1
  have := Nat.div_add_mod (m &&& (2 ^ (64 - k) - 1) * 2 ^ k) (2 ^ k)
  rw [d1, d2, Nat.mul_comm] at this
  omega

/-! order -/

/-- The magnitude in units of the last place of all. -/
def valR (r : Nat) : Nat := if r < 4503599627370496 then r else (4503599627370496 + r % 4503599627370496) * 2 ^ (r / 4503599627370496 - 1)

theorem valR_step (r : Nat) : valR r < valR (r + 1) := by
  unfold valR
  by_cases c : r + 1 < 4503599627370496
  · rw [if_pos (by omega), if_pos c]; omega
  · rw [if_neg c]
    by_cases c2 : r < 4503599627370496
    · have e : r + 1 = 4503599627370496 := by omega
      rw [if_pos c2, e]; simp; omega
    · rw [if_neg c2]
      by_cases c3 : r % 4503599627370496 = 4503599627370495
      · have e1 : (r + 1) % 4503599627370496 = 0 := by omega
        have e2 : (r + 1) / 4503599627370496 - 1 = r / 4503599627370496 - 1 + 1 := by omega
        rw [c3, e1, e2, Nat.pow_succ]
        have := Nat.two_pow_pos (r / 4503599627370496 - 1)
        omega
      · have e1 : (r + 1) % 4503599627370496 = r % 4503599627370496 + 1 := by omega
        have e2 : (r + 1) / 4503599627370496 = r / 4503599627370496 := by omega
        rw [e1, e2]
        exact (Nat.mul_lt_mul_right (Nat.two_pow_pos _)).2 (by omega)

theorem valR_mono {r s : Nat} (h : r < s) : valR r < valR s := by
  obtain ⟨d, rfl⟩ : ∃ d, s = r + 1 + d := ⟨s - r - 1, by omega⟩
  induction d with
  | zero => exact valR_step r
  | succ d ih => exact Nat.lt_trans (ih (by omega)) (valR_step _)

theorem valR_pm (x : Nat) : valR (rgW x) = pmW x * 2 ^ (peW x + 1074).toNat := by
  unfold valR pmW peW
  by_cases c : rgW x < 4503599627370496
  · rw [if_pos c, if_pos c, if_pos c]; simp
  · rw [if_neg c, if_neg c, if_neg c]; congr 2; omega

def okey (x : Nat) : Int := if ngW x then -(rgW x : Int) else (rgW x : Int)
def vkey (x : Nat) : Int := if ngW x then -(valR (rgW x) : Int) else (valR (rgW x) : Int)

theorem valR_lt {r s : Nat} : valR r < valR s ↔ r < s := by
  constructor
  · intro h
    rcases Nat.lt_or_ge r s with c | c
    · exact c
    · rcases Nat.eq_or_lt_of_le c with e | e
      · subst e; omega
      · have := valR_mono e; omega
  · exact valR_mono

theorem vkey_lt {a b : Nat} : vkey a < vkey b ↔ okey a < okey b := by
  unfold vkey okey
  have z : ∀ r, valR r = 0 ↔ r = 0 := by
    intro r
    constructor
    · intro h; rcases Nat.eq_zero_or_pos r with c | c
      · exact c
      · have := valR_mono c; have : valR 0 = 0 := rfl; omega
    · rintro rfl; rfl
  have h1 := valR_lt (r := rgW a) (s := rgW b)
  have h2 := valR_lt (r := rgW b) (s := rgW a)
  have za := z (rgW a)
  have zb := z (rgW b)
  cases ngW a <;> cases ngW b <;> simp <;> omega

theorem compare_of {x y u v : Int} (h1 : x < y ↔ u < v) (h2 : y < x ↔ v < u) : compare x y = compare u v := by
  simp only [compare, compareOfLessAndEq]
  by_cases c : u < v
  · rw [if_pos (h1.2 c), if_pos c]
  · rw [if_neg (fun h => c (h1.1 h)), if_neg c]
    by_cases c2 : u = v
    · have : x = y := by
        have h3 : ¬ v < u := by omega
        have h4 := fun h => h3 (h2.1 h)
        have h5 := fun h => c (h1.1 h)
        omega
      rw [if_pos this, if_pos c2]
    · have h3 : v < u := by omega
      have h4 := h2.2 h3
      rw [if_neg (by omega), if_neg c2]

theorem signed_vkey (x : Nat) (base : Int) (h0 : -1074 ≤ base) (h : base ≤ peW x) : vkey x = signed (ngW x) (pmW x) (peW x - base).toNat * ((2 ^ (base + 1074).toNat : Nat) : Int) := by
  unfold vkey
  rw [signed_eq, valR_pm]
  have : (peW x + 1074).toNat = (peW x - base).toNat + (base + 1074).toNat := by omega
  rw [this, Nat.pow_add, ← Nat.mul_assoc]
  split
  · rw [Int.natCast_mul, Int.neg_mul]
  · rw [Int.natCast_mul]

theorem okey_inf (x : Nat) (h : rgW x = infB) : okey x = if ngW x then -(infB : Int) else (infB : Int) := by unfold okey; rw [h]

theorem order_key {a b : Nat} (ha : W64 a) (hb : W64 b) (h1 : rgW a ≤ infB) (h2 : rgW b ≤ infB) : double.order a b = some (compare (okey a) (okey b)) := by
  unfold Format.order
  by_cases c1 : rgW a = infB
  · rw [read_inf ha c1, okey_inf a c1]
    by_cases c2 : rgW b = infB
    · rw [read_inf hb c2, okey_inf b c2]
      cases ngW a <;> cases ngW b <;> decide
    · rw [read_fin hb (by omega)]
      simp only [Datum.order]
      have hb' : -(infB : Int) < okey b ∧ okey b < infB := by unfold okey; split <;> omega
      cases ngW a
      · simp only [Bool.false_eq_true, if_false]
        rw [show compare (infB : Int) (okey b) = .gt by simp only [compare, compareOfLessAndEq]; rw [if_neg (by omega), if_neg (by omega)]]
      · simp only [if_true]
        rw [show compare (-(infB : Int)) (okey b) = .lt by simp only [compare, compareOfLessAndEq]; rw [if_pos (by omega)]]
  · rw [read_fin ha (by omega)]
    have ha' : -(infB : Int) < okey a ∧ okey a < infB := by unfold okey; split <;> omega
    by_cases c2 : rgW b = infB
    · rw [read_inf hb c2, okey_inf b c2]
      simp only [Datum.order]
      cases ngW b
      · simp only [Bool.false_eq_true, if_false]
        rw [show compare (okey a) (infB : Int) = .lt by simp only [compare, compareOfLessAndEq]; rw [if_pos (by omega)]]
      · simp only [if_true]
        rw [show compare (okey a) (-(infB : Int)) = .gt by simp only [compare, compareOfLessAndEq]; rw [if_neg (by omega), if_neg (by omega)]]
    · rw [read_fin hb (by omega)]
      simp only [Datum.order]
      congr 1
      have ga := pe_ge a
      have gb := pe_ge b
      have ea := signed_vkey a (min (peW a) (peW b)) (by omega) (by omega)
      have eb := signed_vkey b (min (peW a) (peW b)) (by omega) (by omega)
      have hp : (0 : Int) < ((2 ^ (min (peW a) (peW b) + 1074).toNat : Nat) : Int) := by have := Nat.two_pow_pos (min (peW a) (peW b) + 1074).toNat; omega
      have l1 := vkey_lt (a := a) (b := b)
      have l2 := vkey_lt (a := b) (b := a)
      rw [ea, eb] at l1 l2
      refine compare_of ?_ ?_
      · rw [← l1]; exact ⟨fun h => Int.mul_lt_mul_of_pos_right h hp, fun h => Int.lt_of_mul_lt_mul_right h (Int.le_of_lt hp)⟩
      · rw [← l2]; exact ⟨fun h => Int.mul_lt_mul_of_pos_right h hp, fun h => Int.lt_of_mul_lt_mul_right h (Int.le_of_lt hp)⟩

theorem order_nan {a b : Nat} (ha : W64 a) (hb : W64 b) (h : infB < rgW a ∨ infB < rgW b) : double.order a b = none := by
  unfold Format.order
  rcases h with h | h
  · rw [read_nan ha h]; rfl
  · rw [read_nan hb h]; cases double.read a <;> rfl

/-- Comparison by the number of the operator. -/
def fCmp (op : Int) (a b : Nat) : Bool :=
  if infB < rgW a ∨ infB < rgW b then op == 2
  else if op = 1 then decide (okey a = okey b) else if op = 2 then decide (okey a ≠ okey b) else if op = 3 then decide (okey a < okey b) else if op = 4 then decide (okey a ≤ okey b)
  else if op = 5 then decide (okey b < okey a) else if op = 6 then decide (okey b ≤ okey a) else false

theorem compare_eq_iff (x y : Int) : (compare x y = .eq) = (x = y) := by
  simp only [compare, compareOfLessAndEq]
  by_cases h : x < y
  · rw [if_pos h]; simp; omega
  · rw [if_neg h]
    by_cases h2 : x = y
    · rw [if_pos h2]; simp [h2]
    · rw [if_neg h2]; simp [h2]
theorem compare_lt_iff (x y : Int) : (compare x y = .lt) = (x < y) := by
  simp only [compare, compareOfLessAndEq]
  by_cases h : x < y
  · rw [if_pos h]; simp [h]
  · rw [if_neg h]
    by_cases h2 : x = y
    · rw [if_pos h2]; simp; omega
    · rw [if_neg h2]; simp; omega
theorem compare_gt_iff (x y : Int) : (compare x y = .gt) = (y < x) := by
  simp only [compare, compareOfLessAndEq]
  by_cases h : x < y
  · rw [if_pos h]; simp; omega
  · rw [if_neg h]
    by_cases h2 : x = y
    · rw [if_pos h2]; simp; omega
    · rw [if_neg h2]; simp; omega

/-- The model's key: a word that rises with the number. -/
def kW (x : Nat) : Nat := if ngW x then 18446744073709551615 - x else x + 9223372036854775808
theorem kW_lt {a b : Nat} (ha : W64 a) (hb : W64 b) (h : ¬ (rgW a = 0 ∧ rgW b = 0)) : (kW a < kW b) ↔ okey a < okey b := by
  have ea := split_w ha
  have eb := split_w hb
  have la := rg_lt a
  have lb := rg_lt b
  unfold kW okey
  unfold sgB at ea eb
  cases hna : ngW a <;> cases hnb : ngW b <;> simp only [hna, hnb, Bool.false_eq_true, if_false, if_true] at * <;> omega
theorem okey_eq {a b : Nat} (ha : W64 a) (hb : W64 b) : okey a = okey b ↔ (a = b ∨ (rgW a = 0 ∧ rgW b = 0)) := by
  have ea := split_w ha
  have eb := split_w hb
  constructor
  · intro h
    unfold okey at h
    unfold sgB at ea eb
    cases hna : ngW a <;> cases hnb : ngW b <;> simp only [hna, hnb, Bool.false_eq_true, if_false, if_true] at * <;> omega
  · rintro (rfl | ⟨h1, h2⟩)
    · rfl
    · unfold okey; rw [h1, h2]; split <;> split <;> rfl
end Go.Proofs.Qxb6500568aGreatDoor
