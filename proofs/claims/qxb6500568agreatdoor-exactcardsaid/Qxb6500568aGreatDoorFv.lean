import Derived.Test.Qxb6500568aGreatDoorWl
import Derived.Test.Qxb6500568aGreatDoorFa
/- Sums that may wrap; a guard's two ways; sets of cells as 32-bit words. -/
namespace Go.Proofs.Qxb6500568aGreatDoor
set_option linter.unusedVariables false
abbrev u32c (a : Nat) : Value := .int .u32 (a : Int)
/-- What a has and b has not. -/
def dif (a b : Nat) : Nat := a ^^^ (a &&& b)
theorem dif_bit (a b j : Nat) : (dif a b).testBit j = (a.testBit j && !b.testBit j) := by
  unfold dif
  rw [Nat.testBit_xor, Nat.testBit_and]
  cases a.testBit j <;> cases b.testBit j <;> rfl
theorem dif_lt {a b n : Nat} (h : a < 2 ^ n) : dif a b < 2 ^ n := Nat.xor_lt_two_pow h (Nat.lt_of_le_of_lt Nat.and_le_left h)
theorem u32_bv {x : Nat} (h : x < 2 ^ 32) : (BitVec.ofInt 32 (x : Int)).toNat = x := by
  rw [BitVec.ofInt_natCast, BitVec.toNat_ofNat, Nat.mod_eq_of_lt h]
theorem u32_wrap {x : Nat} (h : x < 2 ^ 32) : IntKind.u32.wrap (x : Int) = (x : Int) := Go.IntWalk.u32_in _ (by omega)
theorem bit1 (a c : Nat) : (a / 2 ^ c) &&& 1 = if a.testBit c = true then 1 else 0 := by
  rw [Nat.and_one_is_mod, Nat.testBit_eq_decide_div_mod_eq]
  split
  · rename_i h; simpa using h
  · rename_i h
    have : ¬ a / 2 ^ c % 2 = 1 := by simpa using h
    omega
section
variable {P : Program} {n : Nat} {e : Nat → Option Value} {w : World}

/-- The sum, the difference, the product, wrapped. -/
theorem ro_arithW {op : BinOp} {t t' : TypeId} {x y : Operand} {k : IntKind} {a b r : Int} (hx : evO n e x = some (.int k a)) (hy : evO n e y = some (.int k b))
    (hr : (match op with | .add => some (a + b) | .sub => some (a - b) | .mul => some (a * b) | _ => none) = some r) :
    RO P n e w (.binOp op t x y t') (.int k (k.wrap r)) := by
  intro ds dst ty ps af g
  cases op <;> simp at hr <;> subst hr <;> simp [execOp, evO_eval hx, evO_eval hy, eqGuard, binOp, Op.intArith]

theorem wl_fork {Q : Exit → Act → World → Prop} {ops : Array Oper} {rest : List Oper} {d : Nat} {ty : TypeId} {ps : String} {af : Array Edge} {ds : List Deferred} {x : Operand} {B : Bool} (hx : evO n e x = some (.bool B))
    (k1 : B = true → WL P ops Q rest (Fr n (upd e d (.bool true)) ds) w) (k2 : B = false → WL P ops Q rest (Fr n (upd e d (.bool false)) ds) w) : WL P ops Q (⟨some d, .move x, ty, ps, af, none⟩ :: rest) (Fr n e ds) w := by
  cases B with
  | true => exact wl (ro_move hx) (k1 rfl)
  | false => exact wl (ro_move hx) (k2 rfl)

theorem wlg_fork {Q : Exit → Act → World → Prop} {ops : Array Oper} {rest : List Oper} {d j : Nat} {b : Bool} {ty : TypeId} {ps : String} {af : Array Edge} {ds : List Deferred} {x : Operand} {B : Bool} (hg : gval n e ops j = some b) (hx : evO n e x = some (.bool B))
    (k1 : B = true → WL P ops Q rest (Fr n (upd e d (.bool true)) ds) w) (k2 : B = false → WL P ops Q rest (Fr n (upd e d (.bool false)) ds) w) : WL P ops Q (⟨some d, .move x, ty, ps, af, some (j, b)⟩ :: rest) (Fr n e ds) w := by
  cases B with
  | true => exact wlg_yes hg (ro_move hx) (k1 rfl)
  | false => exact wlg_yes hg (ro_move hx) (k2 rfl)

theorem ro_and32 {t t' : TypeId} {x y : Operand} {a b : Nat} (hx : evO n e x = some (u32c a)) (hy : evO n e y = some (u32c b)) (ha : a < 2 ^ 32) (hb : b < 2 ^ 32) : RO P n e w (.binOp .and t x y t') (u32c (a &&& b)) := by
  refine ro_bits (k := .u32) hx hy ?_
  show some (IntKind.u32.wrap (BitVec.ofInt 32 (a : Int) &&& BitVec.ofInt 32 (b : Int)).toNat) = _
  rw [BitVec.toNat_and, u32_bv ha, u32_bv hb, u32_wrap (Nat.and_lt_two_pow a hb)]
theorem ro_or32 {t t' : TypeId} {x y : Operand} {a b : Nat} (hx : evO n e x = some (u32c a)) (hy : evO n e y = some (u32c b)) (ha : a < 2 ^ 32) (hb : b < 2 ^ 32) : RO P n e w (.binOp .or t x y t') (u32c (a ||| b)) := by
  refine ro_bits (k := .u32) hx hy ?_
  show some (IntKind.u32.wrap (BitVec.ofInt 32 (a : Int) ||| BitVec.ofInt 32 (b : Int)).toNat) = _
  rw [BitVec.toNat_or, u32_bv ha, u32_bv hb, u32_wrap (Nat.or_lt_two_pow ha hb)]
theorem ro_dif32 {t t' : TypeId} {x y : Operand} {a b : Nat} (hx : evO n e x = some (u32c a)) (hy : evO n e y = some (u32c b)) (ha : a < 2 ^ 32) (hb : b < 2 ^ 32) : RO P n e w (.binOp .andNot t x y t') (u32c (dif a b)) := by
  refine ro_bits (k := .u32) hx hy ?_
  show some (IntKind.u32.wrap (BitVec.ofInt 32 (a : Int) &&& ~~~ BitVec.ofInt 32 (b : Int)).toNat) = _
  have h : (BitVec.ofInt 32 (a : Int) &&& ~~~ BitVec.ofInt 32 (b : Int)).toNat = dif a b := by
    rw [BitVec.toNat_and, BitVec.toNat_not, u32_bv ha, u32_bv hb]
    apply Nat.eq_of_testBit_eq
    intro j
    rw [Nat.testBit_and, dif_bit, show 2 ^ 32 - 1 - b = 2 ^ 32 - (b + 1) by omega, Nat.testBit_two_pow_sub_succ hb]
    by_cases hj : j < 32
    · simp [hj]
    · rw [Nat.testBit_lt_two_pow (Nat.lt_of_lt_of_le ha (Nat.pow_le_pow_right (by omega) (by omega)))]
      simp
  rw [h, u32_wrap (dif_lt ha)]
theorem ro_shl32 {t t' : TypeId} {x y : Operand} {k : IntKind} {c : Nat} (hx : evO n e x = some (u32c 1)) (hy : evO n e y = some (.int k (c : Int))) (hc : c < 32) : RO P n e w (.binOp .shl t x y t') (u32c (2 ^ c)) := by
  have h := ro_shl (P := P) (w := w) (t := t) (t' := t') hx hy (by omega)
  have h1 : min ((c : Int)).toNat IntKind.u32.bits = c := by show min ((c : Int)).toNat 32 = c; omega
  have h2 : (((1 : Nat) : Int) * 2 ^ c) = ((2 ^ c : Nat) : Int) := by rw [Int.natCast_pow]; simp
  rw [h1, h2, u32_wrap (Nat.pow_lt_pow_right (by omega) hc)] at h
  exact h
theorem ro_ltS {op : BinOp} {t t' : TypeId} {x y : Operand} {l m : List UInt8} {r : Bool} (hx : evO n e x = some (S l)) (hy : evO n e y = some (S m)) (hr : (match op with | .lss => some (Op.bytesLess l m) | .gtr => some (!(Op.bytesLess l m || l == m)) | _ => none) = some r) :
    RO P n e w (.binOp op t x y t') (.bool r) := by
  intro ds dst ty ps af g
  cases op <;> simp at hr <;> subst hr <;> simp [execOp, evO_eval hx, evO_eval hy, eqGuard, S, binOp, Op.stringOp]
end

end Go.Proofs.Qxb6500568aGreatDoor
