import Derived.Test.Qxb6500568aGreatDoorFm
import Derived.Test.Qxb6500568aGreatDoorFv
import Derived.Test.Qxb6500568aGreatDoorFl
import Derived.Test.Qxb6500568aGreatDoorFw
import Derived.Test.Qxb6500568aGreatDoorFk
import Derived.Test.Qxb6500568aGreatDoorPb
/- Rules for words of 64 bits. -/
namespace Go.Proofs.Qxb6500568aGreatDoor
set_option linter.unusedVariables false
set_option linter.unusedSimpArgs false

abbrev icv (x : Int) : Value := .int .i64 x

theorem and_hi (a : Nat) (h : W64 a) : a &&& (2 ^ 64 - 1 - 2 ^ 63) = rgW a := by
  have : (2 ^ 64 - 1 - 2 ^ 63 : Nat) = 2 ^ 63 - 1 := by decide
  rw [this, Nat.and_two_pow_sub_one_eq_mod]; rfl
theorem and_sg (a : Nat) (h : W64 a) : a &&& 9223372036854775808 = sgB (ngW a) := by
  have e1 : (a &&& 2 ^ 63) / 2 ^ 63 = a / 2 ^ 63 &&& 2 ^ 63 / 2 ^ 63 := Nat.and_div_two_pow
  have e2 : (a &&& 2 ^ 63) % 2 ^ 63 = a % 2 ^ 63 &&& 2 ^ 63 % 2 ^ 63 := Nat.and_mod_two_pow
  rw [Nat.mod_self, Nat.and_zero] at e2
  rw [Nat.div_self (by decide)] at e1
  have e3 : (9223372036854775808 : Nat) = 2 ^ 63 := by decide
  have hd := Nat.div_add_mod (a &&& 2 ^ 63) (2 ^ 63)
  rw [e1, e2] at hd
  unfold W64 at h
  rw [e3]
  unfold sgB ngW
  by_cases c : 9223372036854775808 ≤ a
  · have : a / 2 ^ 63 = 1 := by omega
    rw [this, show (1 &&& 1 : Nat) = 1 from rfl] at hd
    simp only [c, decide_true, if_true]; omega
  · have : a / 2 ^ 63 = 0 := by omega
    rw [this, show (0 &&& 1 : Nat) = 0 from rfl] at hd
    simp only [c, decide_false, Bool.false_eq_true, if_false]; omega
theorem xor_sg (a : Nat) (h : W64 a) : a ^^^ 9223372036854775808 = negW a := by
  have e1 : (a ^^^ 2 ^ 63) / 2 ^ 63 = a / 2 ^ 63 ^^^ 2 ^ 63 / 2 ^ 63 := Nat.xor_div_two_pow
  have e2 : (a ^^^ 2 ^ 63) % 2 ^ 63 = a % 2 ^ 63 ^^^ 2 ^ 63 % 2 ^ 63 := Nat.xor_mod_two_pow
  rw [Nat.mod_self, Nat.xor_zero] at e2
  rw [Nat.div_self (by decide)] at e1
  have e3 : (9223372036854775808 : Nat) = 2 ^ 63 := by decide
  have hd := Nat.div_add_mod (a ^^^ 2 ^ 63) (2 ^ 63)
  rw [e1, e2] at hd
  unfold W64 at h
  rw [e3]
  unfold negW ngW
  by_cases c : 9223372036854775808 ≤ a
  · have : a / 2 ^ 63 = 1 := by omega
    rw [this, show (1 ^^^ 1 : Nat) = 0 from rfl] at hd
    simp only [c, decide_true, if_true]; omega
  · have : a / 2 ^ 63 = 0 := by omega
    rw [this, show (0 ^^^ 1 : Nat) = 1 from rfl] at hd
    simp only [c, decide_false, Bool.false_eq_true, if_false]; omega
theorem ng_xor (a b : Nat) (ha : W64 a) (hb : W64 b) : ngW (a ^^^ b) = (ngW a ^^ ngW b) := by
  have e1 : (a ^^^ b) / 2 ^ 63 = a / 2 ^ 63 ^^^ b / 2 ^ 63 := Nat.xor_div_two_pow
  have hx : a ^^^ b < 2 ^ 64 := Nat.xor_lt_two_pow ha hb
  have key : ∀ x, W64 x → ngW x = decide (x / 2 ^ 63 = 1) := by
    intro x hx; unfold ngW; unfold W64 at hx; apply decide_eq_decide.2; omega
  rw [key _ hx, key _ ha, key _ hb, e1]
  unfold W64 at ha hb
  have h1 : a / 2 ^ 63 = 0 ∨ a / 2 ^ 63 = 1 := by omega
  have h2 : b / 2 ^ 63 = 0 ∨ b / 2 ^ 63 = 1 := by omega
  rcases h1 with h1 | h1 <;> rcases h2 with h2 | h2 <;> rw [h1, h2] <;> rfl
theorem or_sg (b : Bool) (r : Nat) (h : r < 9223372036854775808) : sgB b ||| r = sgB b + r := by
  unfold sgB
  cases b
  · simp
  · have := Nat.two_pow_add_eq_or_of_lt (i := 63) (b := r) (by omega) 1
    rw [Nat.mul_one] at this
    exact this.symm
theorem or_52 (m : Nat) (h : m < 4503599627370496) : m ||| 4503599627370496 = m + 4503599627370496 := by
  have := Nat.two_pow_add_eq_or_of_lt (i := 52) (b := m) (by omega) 1
  rw [Nat.mul_one] at this
  rw [Nat.or_comm, Nat.add_comm]
  exact this.symm
theorem and_52 (a : Nat) : a &&& 4503599627370495 = a % 4503599627370496 := Nat.and_two_pow_sub_one_eq_mod a 52
theorem and_lo (a k : Nat) : a &&& (2 ^ k - 1) = a % 2 ^ k := Nat.and_two_pow_sub_one_eq_mod a k
theorem sg_lt (b : Bool) : W64 (sgB b) := by unfold sgB W64; split <;> omega
theorem sg_add {b : Bool} {r : Nat} (h : r < 9223372036854775808) : W64 (sgB b + r) := by unfold sgB W64; split <;> omega

section
variable {P : Program} {n : Nat} {e : Nat → Option Value} {w : World}

theorem ro_andNotU {t t' : TypeId} {x y : Operand} {a b : Nat} (hx : evO n e x = some (u64c a)) (hy : evO n e y = some (u64c b)) (ha : W64 a) (hb : W64 b) : RO P n e w (.binOp .andNot t x y t') (u64c (a &&& (2 ^ 64 - 1 - b))) := by
  refine ro_bits (k := .u64) hx hy ?_
  show some (IntKind.u64.wrap (BitVec.ofInt 64 (a : Int) &&& ~~~ BitVec.ofInt 64 (b : Int)).toNat) = _
  rw [BitVec.toNat_and, BitVec.toNat_not, u64_bv ha, u64_bv hb, u64_wrap (Nat.and_lt_two_pow a (by omega))]
theorem ro_xorUU {t t' : TypeId} {x y : Operand} {a b : Nat} (hx : evO n e x = some (u64c a)) (hy : evO n e y = some (u64c b)) (ha : W64 a) (hb : W64 b) : RO P n e w (.binOp .xor t x y t') (u64c (a ^^^ b)) := by
  intro ds dst ty ps af g
  have h2 : IntKind.u64.wrap (BitVec.ofInt IntKind.u64.bits (a : Int) ^^^ BitVec.ofInt IntKind.u64.bits (b : Int)).toNat = ((a ^^^ b : Nat) : Int) := by
    show IntKind.u64.wrap (BitVec.ofInt 64 (a : Int) ^^^ BitVec.ofInt 64 (b : Int)).toNat = _
    rw [BitVec.toNat_xor, u64_bv ha, u64_bv hb, u64_wrap (Nat.xor_lt_two_pow ha hb)]
  simp only [execOp, evO_eval hx, evO_eval hy, eqGuard, u64c, binOp, Op.intBits]
  rw [h2]
  simp
theorem ro_hi {t t' : TypeId} {x : Operand} {a : Nat} (hx : evO n e x = some (u64c a)) (ha : W64 a) : RO P n e w (.binOp .andNot t x (.const (.int .u64 9223372036854775808)) t') (u64c (rgW a)) := by
  have := ro_andNotU (P := P) (w := w) (t := t) (t' := t') (y := .const (.int .u64 9223372036854775808)) (b := 9223372036854775808) hx rfl ha (by decide)
  rw [show (2 ^ 64 - 1 - 9223372036854775808 : Nat) = 2 ^ 64 - 1 - 2 ^ 63 by decide, and_hi a ha] at this
  exact this
theorem ro_sg {t t' : TypeId} {x : Operand} {a : Nat} (hx : evO n e x = some (u64c a)) (ha : W64 a) : RO P n e w (.binOp .and t x (.const (.int .u64 9223372036854775808)) t') (u64c (sgB (ngW a))) := by
  have := ro_andU (P := P) (w := w) (t := t) (t' := t') (y := .const (.int .u64 9223372036854775808)) (b := 9223372036854775808) hx rfl ha (by decide)
  rw [and_sg a ha] at this
  exact this
theorem ro_flip {t t' : TypeId} {x : Operand} {a : Nat} (hx : evO n e x = some (u64c a)) (ha : W64 a) : RO P n e w (.binOp .xor t x (.const (.int .u64 9223372036854775808)) t') (u64c (negW a)) := by
  have := ro_xorUU (P := P) (w := w) (t := t) (t' := t') (y := .const (.int .u64 9223372036854775808)) (b := 9223372036854775808) hx rfl ha (by decide)
  rw [xor_sg a ha] at this
  exact this
theorem ro_man {t t' : TypeId} {x : Operand} {a : Nat} (hx : evO n e x = some (u64c a)) (ha : W64 a) : RO P n e w (.binOp .and t x (.const (.int .u64 4503599627370495)) t') (u64c (a % 4503599627370496)) := by
  have := ro_andU (P := P) (w := w) (t := t) (t' := t') (y := .const (.int .u64 4503599627370495)) (b := 4503599627370495) hx rfl ha (by decide)
  rw [and_52] at this
  exact this
theorem ro_or52 {t t' : TypeId} {x : Operand} {a : Nat} (hx : evO n e x = some (u64c a)) (ha : a < 4503599627370496) : RO P n e w (.binOp .or t x (.const (.int .u64 4503599627370496)) t') (u64c (a + 4503599627370496)) := by
  have := ro_orU (P := P) (w := w) (t := t) (t' := t') (y := .const (.int .u64 4503599627370496)) (b := 4503599627370496) hx rfl (by omega) (by decide)
  rw [or_52 a ha] at this
  exact this
theorem ro_orSg {t t' : TypeId} {x y : Operand} {b : Bool} {r : Nat} (hx : evO n e x = some (u64c (sgB b))) (hy : evO n e y = some (u64c r)) (hr : r < 9223372036854775808) : RO P n e w (.binOp .or t x y t') (u64c (sgB b + r)) := by
  have := ro_orU (P := P) (w := w) (t := t) (t' := t') hx hy (sg_lt b) (by omega)
  rw [or_sg b r hr] at this
  exact this
theorem ro_lowU {t t' : TypeId} {x y : Operand} {a k : Nat} (hx : evO n e x = some (u64c a)) (hy : evO n e y = some (u64c (2 ^ k - 1))) (ha : W64 a) (hk : k ≤ 64) : RO P n e w (.binOp .and t x y t') (u64c (a % 2 ^ k)) := by
  have h := Nat.pow_le_pow_right (n := 2) (by omega) hk
  have hp := Nat.two_pow_pos k
  have := ro_andU (P := P) (w := w) (t := t) (t' := t') hx hy ha (by omega)
  rw [and_lo] at this
  exact this
/-- and with 1 -/
theorem ro_bit0 {t t' : TypeId} {x : Operand} {a : Nat} (hx : evO n e x = some (u64c a)) (ha : W64 a) : RO P n e w (.binOp .and t x (.const (.int .u64 1)) t') (u64c (a % 2)) := ro_lowU (k := 1) hx rfl ha (by omega)
/-- word arithmetic, wrapping -/
theorem ro_addU {t t' : TypeId} {x y : Operand} {a b : Nat} (hx : evO n e x = some (u64c a)) (hy : evO n e y = some (u64c b)) (h : W64 (a + b)) : RO P n e w (.binOp .add t x y t') (u64c (a + b)) := by
  have : IntKind.u64.wrap ((a : Int) + (b : Int)) = ((a : Int) + (b : Int)) := Go.IntWalk.u64_in _ (by unfold W64 at h; omega)
  exact ro_arith (k := .u64) hx hy rfl this
theorem ro_subU {t t' : TypeId} {x y : Operand} {a b : Nat} (hx : evO n e x = some (u64c a)) (hy : evO n e y = some (u64c b)) (h : b ≤ a) (ha : W64 a) : RO P n e w (.binOp .sub t x y t') (u64c (a - b)) := by
  have h0 : ((a - b : Nat) : Int) = (a : Int) - b := by omega
  unfold u64c
  rw [h0]
  exact ro_arith (k := .u64) hx hy rfl (Go.IntWalk.u64_in _ (by unfold W64 at ha; omega))
theorem ro_mulU {t t' : TypeId} {x y : Operand} {a b : Nat} (hx : evO n e x = some (u64c a)) (hy : evO n e y = some (u64c b)) (h : W64 (a * b)) : RO P n e w (.binOp .mul t x y t') (u64c (a * b)) := by
  unfold u64c
  rw [show ((a * b : Nat) : Int) = (a : Int) * b by simp]
  refine ro_arith (k := .u64) hx hy rfl (Go.IntWalk.u64_in _ ?_)
  rw [← Int.natCast_mul]
  unfold W64 at h
  omega
/-- a shift that loses nothing -/
theorem ro_shlX {t t' : TypeId} {x y : Operand} {k : IntKind} {a b : Nat} (hx : evO n e x = some (u64c a)) (hy : evO n e y = some (.int k (b : Int))) (hb : b ≤ 64) (h : W64 (a * 2 ^ b)) : RO P n e w (.binOp .shl t x y t') (u64c (a * 2 ^ b)) := by
  have := ro_shlU (P := P) (w := w) (t := t) (t' := t') hx hy hb
  rw [Nat.mod_eq_of_lt h] at this
  exact this
theorem ro_shl1 {t t' : TypeId} {y : Operand} {k : IntKind} {b : Nat} (hy : evO n e y = some (.int k (b : Int))) (hb : b < 64) : RO P n e w (.binOp .shl t (.const (.int .u64 1)) y t') (u64c (2 ^ b)) := by
  have h := Nat.pow_lt_pow_right (a := 2) (by omega) hb
  have := ro_shlX (P := P) (n := n) (e := e) (w := w) (t := t) (t' := t') (x := .const (.int .u64 1)) (a := 1) rfl hy (by omega) (by unfold W64; omega)
  rw [Nat.one_mul] at this
  exact this
theorem ro_andLoI {t t' : TypeId} {x y : Operand} {a k : Nat} (hx : evO n e x = some (i64c a)) (hy : evO n e y = some (i64c (2 ^ k - 1))) (ha : a < 2 ^ 63) (hk : k ≤ 63) : RO P n e w (.binOp .and t x y t') (i64c (a % 2 ^ k)) := by
  have h := Nat.pow_le_pow_right (n := 2) (by omega) hk
  have hp := Nat.two_pow_pos k
  have hm := Nat.mod_lt a hp
  refine ro_bits (k := .i64) hx hy ?_
  show some (IntKind.i64.wrap (BitVec.ofInt 64 (a : Int) &&& BitVec.ofInt 64 ((2 ^ k - 1 : Nat) : Int)).toNat) = _
  rw [BitVec.toNat_and, u64_bv (by omega), u64_bv (by omega), Nat.and_two_pow_sub_one_eq_mod, Go.IntWalk.i64_in _ (by omega)]
/-- comparisons of words -/
theorem ro_cmpU {op : BinOp} {t t' : TypeId} {x y : Operand} {a b : Nat} {r : Bool} (hx : evO n e x = some (u64c a)) (hy : evO n e y = some (u64c b))
    (hr : (match op with | .eql => some (decide (a = b)) | .neq => some (decide (a ≠ b)) | .lss => some (decide (a < b)) | .leq => some (decide (a ≤ b)) | .gtr => some (decide (b < a)) | .geq => some (decide (b ≤ a)) | _ => none) = some r) : RO P n e w (.binOp op t x y t') (.bool r) := by
  have e1 : ((a : Int) == (b : Int)) = decide (a = b) := by
    by_cases h : a = b
    · simp [h]
    · have : ¬ (a : Int) = b := by omega
      simp [h, this]
  refine ro_cmp (k := .u64) hx hy ?_
  rw [← hr]
  cases op <;> simp [e1, bne]
end
end Go.Proofs.Qxb6500568aGreatDoor
