import Derived.Test.Qxb6500568aGreatDoorPa
namespace Go.Proofs.Qxb6500568aGreatDoor
open Ieee
set_option linter.unusedVariables false
set_option linter.unusedSimpArgs false

/-! Words as sign, magnitude and place; the numbers' plain functions. -/

def nanB : Nat := 9221120237041090561
def infB : Nat := 9218868437227405312
def sgB (b : Bool) : Nat := if b then 9223372036854775808 else 0
def ngW (x : Nat) : Bool := decide (9223372036854775808 ≤ x)
def rgW (x : Nat) : Nat := x % 9223372036854775808
def pmW (x : Nat) : Nat := if rgW x < 4503599627370496 then rgW x else 4503599627370496 + rgW x % 4503599627370496
def peW (x : Nat) : Int := if rgW x < 4503599627370496 then -1074 else (rgW x / 4503599627370496 : Nat) - 1075

abbrev W64 (x : Nat) : Prop := x < 18446744073709551616

theorem word_sg (b : Bool) (r : Nat) : double.word b r = sgB b + r := by
  unfold Format.word sgB
  have : double.signWeight = 9223372036854775808 := by decide
  rw [this]; split <;> simp_all

theorem split_w {x : Nat} (h : W64 x) : x = sgB (ngW x) + rgW x := by
  unfold sgB ngW rgW
  by_cases c : 9223372036854775808 ≤ x
  · simp [c]; omega
  · simp [c]; omega

theorem rg_lt (x : Nat) : rgW x < 9223372036854775808 := Nat.mod_lt _ (by decide)

theorem read_eq {x : Nat} (h : W64 x) : double.read x = if rgW x < infB then .number (ngW x) (pmW x) (peW x) else if rgW x = infB then .infinity (ngW x) else .nan (ngW x) (rgW x - infB) := by
  have e0 : double.signWeight = 9223372036854775808 := by decide
  have e1 : double.leastPlace = -1074 := by decide
  have e2 : double.binade = 4503599627370496 := by decide
  have e3 : double.infRung = 9218868437227405312 := by decide
  unfold Format.read
  rw [e0, e1, e2, e3]
  dsimp only
  have hn : (x / 9223372036854775808 % 2 == 1) = ngW x := by
    unfold ngW
    by_cases c : 9223372036854775808 ≤ x
    · have : x / 9223372036854775808 = 1 := by omega
      simp [this, c]
    · have : x / 9223372036854775808 = 0 := by omega
      simp [this, c]
  rw [hn]
  unfold pmW peW rgW infB
  by_cases c : x % 9223372036854775808 < 4503599627370496
  · have c2 : x % 9223372036854775808 < 9218868437227405312 := by omega
    simp [c, c2]
  · by_cases c2 : x % 9223372036854775808 < 9218868437227405312
    · simp only [c, c2, if_false, if_true]
      congr 1
      omega
    · simp [c, c2]

theorem read_fin {x : Nat} (h : W64 x) (hf : rgW x < infB) : double.read x = .number (ngW x) (pmW x) (peW x) := by rw [read_eq h, if_pos hf]
theorem read_inf {x : Nat} (h : W64 x) (hf : rgW x = infB) : double.read x = .infinity (ngW x) := by rw [read_eq h, if_neg (by omega), if_pos hf]
theorem read_nan {x : Nat} (h : W64 x) (hf : infB < rgW x) : double.read x = .nan (ngW x) (rgW x - infB) := by rw [read_eq h, if_neg (by omega), if_neg (by omega)]

theorem pm_lt (x : Nat) : pmW x < 9007199254740992 := by unfold pmW; split <;> omega
theorem pe_ge (x : Nat) : -1074 ≤ peW x := by unfold peW; split <;> omega
theorem pe_le {x : Nat} (h : rgW x < infB) : peW x ≤ 971 := by unfold peW; unfold infB at h; split <;> omega
theorem pm_norm {x : Nat} (h : -1074 < peW x) : 4503599627370496 ≤ pmW x := by
  unfold peW at h; unfold pmW
  split <;> simp_all
theorem pm_zero {x : Nat} : pmW x = 0 ↔ rgW x = 0 := by unfold pmW; split <;> omega

theorem nearest_zero (b : Bool) (p : Int) : double.nearest b 0 p = sgB b := by
  unfold Format.nearest; rw [if_pos rfl, word_sg]; rfl

/-- The number of a finite word is that word. -/
theorem nearest_self {x : Nat} (h : W64 x) (hf : rgW x < infB) : double.nearest (ngW x) (pmW x) (peW x) = x := by
  by_cases hz : pmW x = 0
  · rw [hz, nearest_zero]
    have := split_w h
    rw [pm_zero.1 hz] at this
    omega
  · rw [nearest_rung _ _ _ hz, word_sg]
    have hr : rungE (pmW x) (peW x) = rgW x := by
      have hr := rg_lt x
      unfold infB at hf
      unfold rungE lastP
      by_cases c : rgW x < 4503599627370496
      · have e1 : pmW x = rgW x := by unfold pmW; rw [if_pos c]
        have e2 : peW x = -1074 := by unfold peW; rw [if_pos c]
        rw [e1] at hz
        rw [e1, e2]
        have : (rgW x).log2 < 52 := (Nat.log2_lt hz).2 (by omega)
        have e3 : max (-1074 + ((rgW x).log2 : Int) - 52) (-1074) = -1074 := by omega
        rw [e3]
        simp only [show ((-1074 : Int) + 1074).toNat = 0 from rfl, show ((-1074 : Int) - -1074).toNat = 0 from rfl, cutE_zero, Nat.zero_mul, Nat.zero_add, Nat.pow_zero, Nat.mul_one]
        exact Nat.min_eq_left (by omega)
      · have e1 : pmW x = 4503599627370496 + rgW x % 4503599627370496 := by unfold pmW; rw [if_neg c]
        have e2 : peW x = (rgW x / 4503599627370496 : Nat) - 1075 := by unfold peW; rw [if_neg c]
        have hl : (pmW x).log2 = 52 := log2_eq (by rw [e1]; omega) (by have := pm_lt x; omega)
        rw [hl]
        have e3 : max (peW x + ((52 : Nat) : Int) - 52) (-1074) = peW x := by rw [e2]; omega
        rw [e3]
        have e4 : (peW x - peW x).toNat = 0 := by omega
        have e5 : (peW x + 1074).toNat = rgW x / 4503599627370496 - 1 := by rw [e2]; omega
        rw [e4, e5, Nat.pow_zero, Nat.mul_one, cutE_zero, e1]
        have h5 : (rgW x / 4503599627370496 - 1) * 2 ^ 52 + (4503599627370496 + rgW x % 4503599627370496) = rgW x := by omega
        rw [h5]
        exact Nat.min_eq_left (by omega)
    rw [hr]
    exact (split_w h).symm

/-! the plain functions -/

def fAdd (a b : Nat) : Nat := (double.add a b).getD nanB
def fSub (a b : Nat) : Nat := (double.sub a b).getD nanB
def fMul (a b : Nat) : Nat := (double.mul a b).getD nanB
def fDiv (a b : Nat) : Nat := (double.div a b).getD nanB
def isNaNW (x : Nat) : Bool := decide (infB < rgW x)
def fNeg (x : Nat) : Nat := if isNaNW x then nanB else if ngW x then x - 9223372036854775808 else x + 9223372036854775808
def fFlr (x : Nat) : Nat := if isNaNW x then nanB else double.write ((double.read x).integral .down)

/-- A NaN among the operands. -/
theorem add_nan {a b : Nat} (ha : W64 a) (hb : W64 b) (h : infB < rgW a ∨ infB < rgW b) : fAdd a b = nanB := by
  unfold fAdd Format.add
  rcases h with h | h
  · rw [read_nan ha h]; rfl
  · rw [read_nan hb h]; cases double.read a <;> rfl
theorem mul_nan {a b : Nat} (ha : W64 a) (hb : W64 b) (h : infB < rgW a ∨ infB < rgW b) : fMul a b = nanB := by
  unfold fMul Format.mul
  rcases h with h | h
  · rw [read_nan ha h]; rfl
  · rw [read_nan hb h]; cases double.read a <;> rfl
theorem div_nan {a b : Nat} (ha : W64 a) (hb : W64 b) (h : infB < rgW a ∨ infB < rgW b) : fDiv a b = nanB := by
  unfold fDiv Format.div
  rcases h with h | h
  · rw [read_nan ha h]; rfl
  · rw [read_nan hb h]; cases double.read a <;> rfl

theorem word_inf (b : Bool) : double.write (.infinity b) = sgB b + infB := by
  show double.word b double.infRung = _
  rw [word_sg]; rfl

theorem add_inf_l {a b : Nat} (ha : W64 a) (hb : W64 b) (h : rgW a = infB) (h2 : rgW b < infB) : fAdd a b = a := by
  unfold fAdd Format.add
  rw [read_inf ha h, read_fin hb h2]
  show double.write (.infinity _) = a
  rw [word_inf, ← h]; exact (split_w ha).symm
theorem add_inf_r {a b : Nat} (ha : W64 a) (hb : W64 b) (h : rgW b = infB) (h2 : rgW a < infB) : fAdd a b = b := by
  unfold fAdd Format.add
  rw [read_inf hb h, read_fin ha h2]
  show double.write (.infinity _) = b
  rw [word_inf, ← h]; exact (split_w hb).symm
theorem add_inf_lr {a b : Nat} (ha : W64 a) (hb : W64 b) (h : rgW a = infB) (h2 : rgW b = infB) : fAdd a b = if a = b then a else nanB := by
  unfold fAdd Format.add
  rw [read_inf ha h, read_inf hb h2]
  have e1 := split_w ha
  have e2 := split_w hb
  by_cases c : ngW a = ngW b
  · have : a = b := by rw [e1, e2, c, h, h2]
    rw [if_pos this]
    simp only [Datum.sum, c, if_true, Option.map, Option.getD]
    rw [word_inf, ← h2, ← e2]
    exact this.symm
  · have : a ≠ b := fun hh => c (by rw [hh])
    rw [if_neg this]
    simp [Datum.sum, c]

/-- The signed total. -/
def totW (a b : Nat) : Int :=
  signed (ngW a) (pmW a) (peW a - min (peW a) (peW b)).toNat + signed (ngW b) (pmW b) (peW b - min (peW a) (peW b)).toNat

theorem add_fin {a b : Nat} (ha : W64 a) (hb : W64 b) (h : rgW a < infB) (h2 : rgW b < infB) :
    fAdd a b = double.nearest (if totW a b = 0 then ngW a && ngW b else decide (totW a b < 0)) (totW a b).natAbs (min (peW a) (peW b)) := by
  unfold fAdd Format.add totW
  rw [read_fin ha h, read_fin hb h2]
  simp only [Datum.sum, Option.map, Option.getD, Format.write]

theorem signed_eq (n : Bool) (m k : Nat) : signed n m k = if n then -((m * 2 ^ k : Nat) : Int) else ((m * 2 ^ k : Nat) : Int) := by
  unfold signed; rw [Nat.shiftLeft_eq]

/-- Both zeros: a & b. -/
theorem add_zero_both {a b : Nat} (ha : W64 a) (hb : W64 b) (h : rgW a = 0) (h2 : rgW b = 0) : fAdd a b = sgB (ngW a && ngW b) := by
  rw [add_fin ha hb (by rw [h]; decide) (by rw [h2]; decide)]
  have e1 := pm_zero.2 h
  have e2 := pm_zero.2 h2
  have : totW a b = 0 := by unfold totW; rw [signed_eq, signed_eq, e1, e2]; simp
  rw [this, if_pos rfl]; exact nearest_zero _ _

theorem add_comm' {a b : Nat} (ha : W64 a) (hb : W64 b) (h : rgW a < infB) (h2 : rgW b < infB) : fAdd a b = fAdd b a := by
  rw [add_fin ha hb h h2, add_fin hb ha h2 h]
  have e : totW a b = totW b a := by unfold totW; rw [Int.min_comm (peW b), Int.add_comm]
  rw [e, Int.min_comm (peW b), Bool.and_comm]

theorem add_zero_l {a b : Nat} (ha : W64 a) (hb : W64 b) (h : rgW a = 0) (h2 : rgW b < infB) (h3 : rgW b ≠ 0) : fAdd a b = b := by
  rw [add_fin ha hb (by rw [h]; decide) h2]
  have e1 := pm_zero.2 h
  have e2 : pmW b ≠ 0 := fun c => h3 (pm_zero.1 c)
  have ep : peW a = -1074 := by unfold peW; rw [h]; rfl
  have hge := pe_ge b
  have em : min (peW a) (peW b) = -1074 := by omega
  have ht : totW a b = signed (ngW b) (pmW b) (peW b + 1074).toNat := by
    unfold totW; rw [em, signed_eq (ngW a), e1]; simp
  rw [ht, em, signed_eq]
  have hp : 0 < pmW b * 2 ^ (peW b + 1074).toNat := Nat.mul_pos (by omega) (Nat.two_pow_pos _)
  generalize hk : (peW b + 1074).toNat = k at *
  have hs : double.nearest (ngW b) (pmW b * 2 ^ k) (-1074) = b := by
    rw [nearest_scale (ngW b) (pmW b) k (peW b) (-1074) e2 (by omega)]
    exact nearest_self hb h2
  generalize hN : pmW b * 2 ^ k = N at *
  cases hn : ngW b
  · rw [hn] at hs
    simp only [Bool.false_eq_true, if_false]
    rw [if_neg (by omega), show decide ((N : Int) < 0) = false by simp, Int.natAbs_natCast]
    exact hs
  · rw [hn] at hs
    simp only [if_true]
    rw [if_neg (by omega), show decide (-(N : Int) < 0) = true by simp; omega, Int.natAbs_neg, Int.natAbs_natCast]
    exact hs

theorem add_zero_r {a b : Nat} (ha : W64 a) (hb : W64 b) (h : rgW b = 0) (h2 : rgW a < infB) (h3 : rgW a ≠ 0) : fAdd a b = a := by
  rw [add_comm' ha hb h2 (by rw [h]; decide)]
  exact add_zero_l hb ha h h2 h3

/-- Same signs. -/
theorem add_same {a b : Nat} (ha : W64 a) (hb : W64 b) (h : rgW a < infB) (h2 : rgW b < infB) (h3 : rgW a ≠ 0) (hs : ngW a = ngW b) (he : peW b ≤ peW a) :
    fAdd a b = double.nearest (ngW a) (pmW a * 2 ^ (peW a - peW b).toNat + pmW b) (peW b) := by
  rw [add_fin ha hb h h2]
  have em : min (peW a) (peW b) = peW b := by omega
  have e2 : pmW a ≠ 0 := fun c => h3 (pm_zero.1 c)
  have ht : totW a b = if ngW a then -((pmW a * 2 ^ (peW a - peW b).toNat + pmW b : Nat) : Int) else ((pmW a * 2 ^ (peW a - peW b).toNat + pmW b : Nat) : Int) := by
    unfold totW; rw [em, signed_eq, signed_eq, ← hs]
    have : (peW b - peW b).toNat = 0 := by omega
    rw [this, Nat.pow_zero, Nat.mul_one]
    split <;> omega
  have hp : 0 < pmW a * 2 ^ (peW a - peW b).toNat + pmW b := by
    have := Nat.mul_pos (Nat.pos_of_ne_zero e2) (Nat.two_pow_pos (peW a - peW b).toNat); omega
  rw [ht, em, ← hs]
  generalize pmW a * 2 ^ (peW a - peW b).toNat + pmW b = N at *
  cases hn : ngW a
  · simp only [Bool.false_eq_true, if_false]
    rw [if_neg (by omega), show decide ((N : Int) < 0) = false by simp, Int.natAbs_natCast]
  · simp only [if_true]
    rw [if_neg (by omega), show decide (-(N : Int) < 0) = true by simp; omega, Int.natAbs_neg, Int.natAbs_natCast]

/-- Other signs. -/
theorem add_diff {a b : Nat} (ha : W64 a) (hb : W64 b) (h : rgW a < infB) (h2 : rgW b < infB) (hs : ngW a ≠ ngW b) (he : peW b ≤ peW a) :
    fAdd a b = let A := pmW a * 2 ^ (peW a - peW b).toNat; if A = pmW b then 0 else if A < pmW b then double.nearest (ngW b) (pmW b - A) (peW b) else double.nearest (ngW a) (A - pmW b) (peW b) := by
  rw [add_fin ha hb h h2]
  have em : min (peW a) (peW b) = peW b := by omega
  have ht : totW a b = if ngW a then ((pmW b : Nat) : Int) - ((pmW a * 2 ^ (peW a - peW b).toNat : Nat) : Int) else ((pmW a * 2 ^ (peW a - peW b).toNat : Nat) : Int) - ((pmW b : Nat) : Int) := by
    unfold totW; rw [em, signed_eq, signed_eq]
    have : (peW b - peW b).toNat = 0 := by omega
    rw [this, Nat.pow_zero, Nat.mul_one]
    cases hn : ngW a <;> cases hm : ngW b <;> simp_all <;> omega
  dsimp only
  rw [ht, em]
  generalize pmW a * 2 ^ (peW a - peW b).toNat = A at *
  generalize pmW b = B at *
  have key : ∀ na nb : Bool, na ≠ nb → double.nearest (if (if na then (B : Int) - A else (A : Int) - B) = 0 then na && nb else decide ((if na then (B : Int) - A else (A : Int) - B) < 0)) (if na then (B : Int) - A else (A : Int) - B).natAbs (peW b) = if A = B then 0 else if A < B then double.nearest nb (B - A) (peW b) else double.nearest na (A - B) (peW b) := by
    intro na nb hne
    by_cases c : A = B
    · subst c
      have : (if na then (A : Int) - A else (A : Int) - A) = 0 := by split <;> omega
      rw [this, if_pos rfl, if_pos rfl]
      have : (na && nb) = false := by cases na <;> cases nb <;> simp_all
      rw [this]; exact nearest_zero _ _
    · rw [if_neg c]
      have h0 : (if na then (B : Int) - A else (A : Int) - B) ≠ 0 := by split <;> omega
      rw [if_neg h0]
      by_cases c2 : A < B
      · rw [if_pos c2]
        have e1 : (if na then (B : Int) - A else (A : Int) - B).natAbs = B - A := by split <;> omega
        have e2 : decide ((if na then (B : Int) - A else (A : Int) - B) < 0) = nb := by
          cases na <;> cases nb <;> simp_all <;> omega
        rw [e1, e2]
      · rw [if_neg c2]
        have e1 : (if na then (B : Int) - A else (A : Int) - B).natAbs = A - B := by split <;> omega
        have e2 : decide ((if na then (B : Int) - A else (A : Int) - B) < 0) = na := by
          cases na <;> cases nb <;> simp_all <;> omega
        rw [e1, e2]
  exact key _ _ hs

/-- The opposite's sum. -/
def negW (x : Nat) : Nat := if ngW x then x - 9223372036854775808 else x + 9223372036854775808
theorem negW_lt {x : Nat} (h : W64 x) : W64 (negW x) := by unfold negW ngW W64; split <;> simp_all <;> omega
theorem rg_negW {x : Nat} (h : W64 x) : rgW (negW x) = rgW x := by unfold negW ngW rgW; unfold W64 at h; split <;> simp_all <;> omega
theorem ng_negW {x : Nat} (h : W64 x) : ngW (negW x) = !ngW x := by
  unfold negW ngW; unfold W64 at h
  by_cases c : 9223372036854775808 ≤ x
  · simp [c]; omega
  · simp [c]
theorem pm_negW {x : Nat} (h : W64 x) : pmW (negW x) = pmW x := by unfold pmW; rw [rg_negW h]
theorem pe_negW {x : Nat} (h : W64 x) : peW (negW x) = peW x := by unfold peW; rw [rg_negW h]
theorem read_negW {x : Nat} (h : W64 x) : double.read (negW x) = (double.read x).opposite := by
  rw [read_eq h, read_eq (negW_lt h), rg_negW h, ng_negW h, pm_negW h, pe_negW h]
  split
  · rfl
  · split <;> rfl
theorem sub_add {a b : Nat} (ha : W64 a) (hb : W64 b) : fSub a b = fAdd a (negW b) := by
  unfold fSub fAdd Format.sub Format.add; rw [read_negW hb]

/-! products and quotients -/

theorem mul_inf {a b : Nat} (ha : W64 a) (hb : W64 b) (h0 : rgW a ≤ infB) (h1 : rgW b ≤ infB) (h : rgW a = infB ∨ rgW b = infB) :
    fMul a b = if rgW a = 0 ∨ rgW b = 0 then nanB else sgB (ngW a ^^ ngW b) + infB := by
  have hi : infB ≠ 0 := by decide
  unfold fMul Format.mul
  by_cases c1 : rgW a = infB
  · rw [read_inf ha c1]
    by_cases c2 : rgW b = infB
    · rw [read_inf hb c2, if_neg (by omega)]
      exact word_inf _
    · rw [read_fin hb (by omega)]
      by_cases c3 : rgW b = 0
      · simp [Datum.product, pm_zero.2 c3, c3]
      · have : pmW b ≠ 0 := fun c => c3 (pm_zero.1 c)
        rw [if_neg (by omega)]
        simp only [Datum.product, this, if_false, Option.map, Option.getD]
        exact word_inf _
  · have c2 : rgW b = infB := by omega
    rw [read_inf hb c2, read_fin ha (by omega)]
    by_cases c3 : rgW a = 0
    · simp [Datum.product, pm_zero.2 c3, c3]
    · have : pmW a ≠ 0 := fun c => c3 (pm_zero.1 c)
      rw [if_neg (by omega)]
      simp only [Datum.product, this, if_false, Option.map, Option.getD]
      rw [Bool.xor_comm]
      exact word_inf _

theorem mul_fin {a b : Nat} (ha : W64 a) (hb : W64 b) (h0 : rgW a < infB) (h1 : rgW b < infB) :
    fMul a b = double.nearest (ngW a ^^ ngW b) (pmW a * pmW b) (peW a + peW b) := by
  unfold fMul Format.mul
  rw [read_fin ha h0, read_fin hb h1]
  rfl

theorem div_inf_l {a b : Nat} (ha : W64 a) (hb : W64 b) (h0 : rgW a = infB) (h1 : rgW b < infB) : fDiv a b = sgB (ngW a ^^ ngW b) + infB := by
  unfold fDiv Format.div
  rw [read_inf ha h0, read_fin hb h1]
  exact word_inf _
theorem div_inf_lr {a b : Nat} (ha : W64 a) (hb : W64 b) (h0 : rgW a = infB) (h1 : rgW b = infB) : fDiv a b = nanB := by
  unfold fDiv Format.div
  rw [read_inf ha h0, read_inf hb h1]
  rfl
theorem div_inf_r {a b : Nat} (ha : W64 a) (hb : W64 b) (h0 : rgW a < infB) (h1 : rgW b = infB) : fDiv a b = sgB (ngW a ^^ ngW b) := by
  unfold fDiv Format.div
  rw [read_fin ha h0, read_inf hb h1]
  exact nearest_zero _ 0
theorem div_zero_r {a b : Nat} (ha : W64 a) (hb : W64 b) (h0 : rgW a < infB) (h1 : rgW b = 0) : fDiv a b = if rgW a = 0 then nanB else sgB (ngW a ^^ ngW b) + infB := by
  unfold fDiv Format.div
  rw [read_fin ha h0, read_fin hb (by rw [h1]; decide)]
  by_cases c : rgW a = 0
  · simp [Datum.quotient, pm_zero.2 h1, pm_zero.2 c, c]
  · have : pmW a ≠ 0 := fun h => c (pm_zero.1 h)
    rw [if_neg c]
    simp only [Datum.quotient, pm_zero.2 h1, if_true, this, if_false, Option.map, Option.getD]
    exact word_inf _
theorem div_zero_l {a b : Nat} (ha : W64 a) (hb : W64 b) (h0 : rgW a = 0) (h1 : rgW b < infB) (h2 : rgW b ≠ 0) : fDiv a b = sgB (ngW a ^^ ngW b) := by
  unfold fDiv Format.div
  rw [read_fin ha (by rw [h0]; decide), read_fin hb h1]
  have : pmW b ≠ 0 := fun h => h2 (pm_zero.1 h)
  simp only [Datum.quotient, pm_zero.2 h0, this, if_false, Option.map, Option.getD, Nat.zero_shiftLeft, Nat.zero_div, Nat.zero_mod]
  exact nearest_zero _ _

/-- The quotient by long division: any number of digits from 54 on, with one for the rest. -/
theorem div_fin {a b : Nat} (ha : W64 a) (hb : W64 b) (h0 : rgW a < infB) (h1 : rgW b < infB) (h2 : rgW a ≠ 0) (h3 : rgW b ≠ 0) (A B j k : Nat) (hA : A = pmW a * 2 ^ j) (hB : B = pmW b * 2 ^ k) (a1 : 4503599627370496 ≤ A) (a2 : A < 9007199254740992) (b1 : 4503599627370496 ≤ B) (b2 : B < 9007199254740992) (e : Int) (he : e = peW a - j - (peW b - k) - 62) :
    fDiv a b = if A * 2 ^ 62 % B = 0 then double.nearest (ngW a ^^ ngW b) (A * 2 ^ 62 / B) e else double.nearest (ngW a ^^ ngW b) (2 * (A * 2 ^ 62 / B) + 1) (e - 1) := by
  unfold fDiv Format.div
  rw [read_fin ha h0, read_fin hb h1]
  have hm : pmW a ≠ 0 := fun h => h2 (pm_zero.1 h)
  have hn : pmW b ≠ 0 := fun h => h3 (pm_zero.1 h)
  simp only [Datum.quotient, hn, if_false, Option.map, Option.getD, Format.write]
  have hf : double.fractionBits + 2 = 54 := by decide
  rw [hf, Nat.shiftLeft_eq]
  generalize pmW a = m at *
  generalize pmW b = n at *
  have la : m.log2 + j = 52 := by
    rw [← log2_scale m j hm, ← hA]; exact log2_eq a1 a2
  have lb : n.log2 + k = 52 := by
    rw [← log2_scale n k hn, ← hB]; exact log2_eq b1 b2
  generalize hmo : 54 + n.log2 - m.log2 = mo
  have hmj : mo + k = 54 + j := by omega
  -- A * 2^62 / B = m * 2^(mo + 8) / n
  have eA : A * 2 ^ 62 = m * 2 ^ mo * 2 ^ 8 * 2 ^ k := by
    rw [hA, Nat.mul_assoc, Nat.mul_assoc, Nat.mul_assoc, ← Nat.pow_add, ← Nat.pow_add, ← Nat.pow_add]
    congr 2; omega
  have hk := Nat.two_pow_pos k
  generalize hX : m * 2 ^ mo = X at *
  have ed : A * 2 ^ 62 / B = X * 2 ^ 8 / n := by rw [eA, hB, Nat.mul_div_mul_right _ _ hk]
  have er : A * 2 ^ 62 % B = X * 2 ^ 8 % n * 2 ^ k := by rw [eA, hB, Nat.mul_mod_mul_right]
  rw [ed, er]
  have hXge : 2 ^ 53 ≤ X / n := by
    rw [Nat.le_div_iff_mul_le (by omega), ← hX]
    have h1 := lt_two_log n
    have h2 := two_log_le hm
    have h3 := Nat.mul_le_mul_right (2 ^ mo) h2
    rw [← Nat.pow_add] at h3
    have h4 : m.log2 + mo = 53 + (n.log2 + 1) := by omega
    rw [h4, Nat.pow_add] at h3
    have h5 := Nat.mul_le_mul_left (2 ^ 53) (Nat.le_of_lt h1)
    omega
  have hq := Nat.div_add_mod X n
  have hlt := Nat.mod_lt X (Nat.pos_of_ne_zero hn)
  generalize X / n = Q at *
  generalize X % n = r at *
  have eQ : X * 2 ^ 8 / n = Q * 2 ^ 8 + r * 2 ^ 8 / n := by
    rw [← hq, Nat.add_mul, Nat.mul_assoc, Nat.add_comm, Nat.add_mul_div_left _ _ (Nat.pos_of_ne_zero hn), Nat.add_comm]
  have eR : X * 2 ^ 8 % n = r * 2 ^ 8 % n := by
    rw [← hq, Nat.add_mul, Nat.mul_assoc, Nat.mul_add_mod]
  rw [eQ, eR]
  by_cases hr : r = 0
  · subst hr
    rw [Nat.zero_mul, Nat.zero_mod, Nat.zero_div, Nat.zero_mul, Nat.add_zero, if_pos rfl, show ((0 : Nat) != 0).toNat = 0 from rfl, Nat.add_zero]
    have hQ0 : Q ≠ 0 := by have := Nat.two_pow_pos 53; omega
    rw [nearest_scale _ Q 8 (peW a - peW b - mo) e hQ0 (by omega)]
    rw [Nat.mul_comm 2 Q]
    exact nearest_scale _ Q 1 (peW a - peW b - mo) _ hQ0 (by omega)
  · have hb1 : (r != 0).toNat = 1 := by simp [hr]
    rw [hb1]
    have ht := Nat.div_add_mod (r * 2 ^ 8) n
    have ht2 := Nat.mod_lt (r * 2 ^ 8) (Nat.pos_of_ne_zero hn)
    have ht3 : r * 2 ^ 8 / n < 2 ^ 8 := by
      rw [Nat.div_lt_iff_lt_mul (Nat.pos_of_ne_zero hn), Nat.mul_comm (2 ^ 8)]
      exact (Nat.mul_lt_mul_right (by decide)).2 hlt
    generalize hT : r * 2 ^ 8 / n = t at ht ht3 ⊢
    generalize hR : r * 2 ^ 8 % n = u at ht ht2 ⊢
    by_cases hu : u = 0
    · subst hu
      have htp : 0 < t := by
        rcases Nat.eq_zero_or_pos t with h | h
        · subst h; rw [Nat.mul_zero] at ht; omega
        · exact h
      rw [Nat.zero_mul, if_pos rfl]
      exact (nearest_below _ Q 8 t e _ hXge htp ht3 (by omega)).symm
    · have hne : u * 2 ^ k ≠ 0 := Nat.mul_ne_zero hu (by omega)
      rw [if_neg hne]
      have e1 : 2 * (Q * 2 ^ 8 + t) + 1 = Q * 2 ^ 9 + (2 * t + 1) := by omega
      rw [e1]
      exact (nearest_below _ Q 9 (2 * t + 1) (e - 1) _ hXge (by omega) (by omega) (by omega)).symm
end Go.Proofs.Qxb6500568aGreatDoor
