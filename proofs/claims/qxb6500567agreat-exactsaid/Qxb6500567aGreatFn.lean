import Derived.Test.Qxb6500567aGreatFf
import Derived.Test.Qxb6500567aGreatGa
/- Library: captures against the same captures. -/
namespace Go.Proofs.Qxb6500567aGreat
set_option linter.unusedVariables false
set_option linter.unusedSimpArgs false
section
variable {P : Program} {n : Nat} {e : Nat → Option Value} {w : World}

theorem eqArr8_run {t et : TypeId} {a0 a1 a2 a3 a4 a5 a6 a7 : Int} {q : IntKind} (hu : P.underlying t = some (.array 8 et)) (hs : sizeB P et 1 = true) (hi : P.underlying et = some (.int q)) (k : Nat) :
    (Op.equalIn (k + 1 + 1) t (.agg #[.int q a0, .int q a1, .int q a2, .int q a3, .int q a4, .int q a5, .int q a6, .int q a7]) (.agg #[.int q a0, .int q a1, .int q a2, .int q a3, .int q a4, .int q a5, .int q a6, .int q a7])).run P w = .ok true w := by
  have hag : ∀ w, (isAgg et).run P w = .ok false w := fun w => by unfold isAgg; simp [run_underlying hi]
  have e1 : ∀ (a c : Int), (Op.equalIn (k + 1) et (.int q a) (.int q c)).run P w = .ok (a == c) w := fun a c => Go.run_equalIn_int w k et q q a c hi
  rw [Op.equalIn]
  simp only [Sem.run_bind, run_underlying hu, Result.andThen_ok, run_sizeOf hs]
  simp only [Std.Legacy.Range.forIn_eq_forIn_range', Std.Legacy.Range.size, Nat.sub_zero, Nat.add_one_sub_one, Nat.div_one]
  simp only [show List.range' 0 8 = [0, 1, 2, 3, 4, 5, 6, 7] from rfl]
  simp [part, hag, e1]

theorem ro_eqCap {op : BinOp} {t t' et : TypeId} {x y : Operand} {c : List Int} {r : Bool} (hx : evO n e x = some (.agg (capc c).toArray)) (hy : evO n e y = some (.agg (capc c).toArray))
    (ht : arrB P t 8 et 1 = true) (he : intB P et .i64 = true) (hg : P.eqGuardType P.depth t = false)
    (hr : (match op with | .eql => some true | .neq => some false | _ => none) = some r) : RO P n e w (.binOp op t x y t') (.bool r) := by
  intro ds dst ty ps af g
  obtain ⟨hu, hs⟩ := arrB_spec ht
  have key := eqArr8_run (w := w) (a0 := c.getD 0 0) (a1 := c.getD 1 0) (a2 := c.getD 2 0) (a3 := c.getD 3 0) (a4 := c.getD 4 0) (a5 := c.getD 5 0) (a6 := c.getD 6 0) (a7 := c.getD 7 0) hu hs (intB_spec he) 9998
  have key' : (Op.equal t (.agg (capc c).toArray) (.agg (capc c).toArray)).run P w = .ok true w := key
  cases op <;> simp at hr <;> simp [execOp, evO_eval hx, evO_eval hy, eqGuard, hg, binOp, key', hr]

end
end Go.Proofs.Qxb6500567aGreat
