import Derived.Test.Qxb6500567aGreatFp
import Derived.Test.Qxb6500567aGreatFe
namespace Go.Proofs.Qxb6500567aGreat
set_option linter.unusedVariables false
set_option linter.unusedSimpArgs false
section
variable {P : Program} {n : Nat} {e : Nat → Option Value} {w : World}

theorem eqArr4_run {t et : TypeId} {a0 a1 a2 a3 c0 c1 c2 c3 : Int} {q : IntKind} (hu : P.underlying t = some (.array 4 et)) (hs : sizeB P et 1 = true) (hi : P.underlying et = some (.int q)) (k : Nat) :
    (Op.equalIn (k + 1 + 1) t (.agg #[.int q a0, .int q a1, .int q a2, .int q a3]) (.agg #[.int q c0, .int q c1, .int q c2, .int q c3])).run P w = .ok (a0 == c0 && a1 == c1 && a2 == c2 && a3 == c3) w := by
  have hag : ∀ w, (isAgg et).run P w = .ok false w := fun w => by unfold isAgg; simp [run_underlying hi]
  have e1 : ∀ (a c : Int), (Op.equalIn (k + 1) et (.int q a) (.int q c)).run P w = .ok (a == c) w := fun a c => Go.run_equalIn_int w k et q q a c hi
  rw [Op.equalIn]
  simp only [Sem.run_bind, run_underlying hu, Result.andThen_ok, run_sizeOf hs]
  simp only [Std.Legacy.Range.forIn_eq_forIn_range', Std.Legacy.Range.size, Nat.sub_zero, Nat.add_one_sub_one, Nat.div_one]
  simp only [show List.range' 0 4 = [0, 1, 2, 3] from rfl]
  by_cases h0 : a0 = c0
  · by_cases h1 : a1 = c1
    · by_cases h2 : a2 = c2
      · by_cases h3 : a3 = c3
        · simp [part, hag, e1, h0, h1, h2, h3]
        · simp [part, hag, e1, h0, h1, h2, h3]
      · simp [part, hag, e1, h0, h1, h2]
    · simp [part, hag, e1, h0, h1]
  · simp [part, hag, e1, h0]

/-- Four words against four words. -/
theorem ro_eqArr4 {op : BinOp} {t t' et : TypeId} {x y : Operand} {a0 a1 a2 a3 c0 c1 c2 c3 : Int} {q : IntKind} {r : Bool} (hx : evO n e x = some (.agg #[.int q a0, .int q a1, .int q a2, .int q a3])) (hy : evO n e y = some (.agg #[.int q c0, .int q c1, .int q c2, .int q c3]))
    (ht : arrB P t 4 et 1 = true) (he : intB P et q = true) (hg : P.eqGuardType P.depth t = false)
    (hr : (match op with | .eql => some (a0 == c0 && a1 == c1 && a2 == c2 && a3 == c3) | .neq => some (!(a0 == c0 && a1 == c1 && a2 == c2 && a3 == c3)) | _ => none) = some r) : RO P n e w (.binOp op t x y t') (.bool r) := by
  intro ds dst ty ps af g
  obtain ⟨hu, hs⟩ := arrB_spec ht
  have key := eqArr4_run (w := w) (a0 := a0) (a1 := a1) (a2 := a2) (a3 := a3) (c0 := c0) (c1 := c1) (c2 := c2) (c3 := c3) hu hs (intB_spec he) 9998
  have key' : (Op.equal t (.agg #[.int q a0, .int q a1, .int q a2, .int q a3]) (.agg #[.int q c0, .int q c1, .int q c2, .int q c3])).run P w = .ok (a0 == c0 && a1 == c1 && a2 == c2 && a3 == c3) w := key
  cases op <;> simp at hr <;> simp [execOp, evO_eval hx, evO_eval hy, eqGuard, hg, binOp, key', hr]

end
end Go.Proofs.Qxb6500567aGreat
