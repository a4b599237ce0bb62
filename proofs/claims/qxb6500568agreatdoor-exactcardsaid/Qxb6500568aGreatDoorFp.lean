import Derived.Test.Qxb6500568aGreatDoorFo
import Derived.Laws.StructEq
namespace Go.Proofs.Qxb6500568aGreatDoor
set_option linter.unusedVariables false
set_option linter.unusedSimpArgs false
section
variable {P : Program} {n : Nat} {e : Nat → Option Value} {w : World}

theorem ro_s2ap {t len et k m c : Nat} {a : Option Addr} {x : Operand} (hx : evO n e x = some (.slice a m c)) (ht : arrB P t len et k = true) (hm : len ≤ m) : RO P n e w (.sliceToArrayPointer t x) (.pointer a) := by
  intro ds dst ty ps af g
  have hu := (arrB_spec ht).1
  have : ¬ m < len := by omega
  simp [execOp, evO_eval hx, Instr.arrayAt, run_underlying hu, this]

theorem eqArr2_run {t et : TypeId} {a b c d : Int} (hu : P.underlying t = some (.array 2 et)) (hs : sizeB P et 1 = true) (hi : P.underlying et = some (.int .u8)) (k : Nat) :
    (Op.equalIn (k + 1 + 1) t (.agg #[.int .u8 a, .int .u8 b]) (.agg #[.int .u8 c, .int .u8 d])).run P w = .ok (a == c && b == d) w := by
  have hag : ∀ w, (isAgg et).run P w = .ok false w := fun w => by unfold isAgg; simp [run_underlying hi]
  have e1 : ∀ (a c : Int), (Op.equalIn (k + 1) et (.int .u8 a) (.int .u8 c)).run P w = .ok (a == c) w := fun a c => Go.run_equalIn_int w k et .u8 .u8 a c hi
  rw [Op.equalIn]
  simp only [Sem.run_bind, run_underlying hu, Result.andThen_ok, run_sizeOf hs]
  simp only [Std.Legacy.Range.forIn_eq_forIn_range', Std.Legacy.Range.size, Nat.sub_zero, Nat.add_one_sub_one, Nat.div_one]
  simp only [show List.range' 0 2 = [0, 1] from rfl]
  by_cases h1 : a = c
  · subst h1
    by_cases h2 : b = d
    · subst h2; simp [part, hag, e1]
    · simp [part, hag, e1, h2]
  · simp [part, hag, e1, h1]

/-- Two bytes against two bytes. -/
theorem ro_eqArr2 {op : BinOp} {t t' et : TypeId} {x y : Operand} {a b c d : Int} {r : Bool} (hx : evO n e x = some (.agg #[.int .u8 a, .int .u8 b])) (hy : evO n e y = some (.agg #[.int .u8 c, .int .u8 d]))
    (ht : arrB P t 2 et 1 = true) (he : intB P et .u8 = true) (hg : P.eqGuardType P.depth t = false)
    (hr : (match op with | .eql => some (a == c && b == d) | .neq => some (!(a == c && b == d)) | _ => none) = some r) : RO P n e w (.binOp op t x y t') (.bool r) := by
  intro ds dst ty ps af g
  obtain ⟨hu, hs⟩ := arrB_spec ht
  have key : (Op.equal t (.agg #[.int .u8 a, .int .u8 b]) (.agg #[.int .u8 c, .int .u8 d])).run P w = .ok (a == c && b == d) w := eqArr2_run hu hs (intB_spec he) 9998
  cases op <;> simp at hr <;> simp [execOp, evO_eval hx, evO_eval hy, eqGuard, hg, binOp, key, hr]

end
end Go.Proofs.Qxb6500568aGreatDoor
