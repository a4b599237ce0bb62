import Derived.Test.Qxb6500568aGreatDoorBg
import Derived.Laws.FloatArith
import Derived.Laws.Externs
/- Rules for floats. -/
namespace Go.Proofs.Qxb6500568aGreatDoor
open Ieee
set_option linter.unusedVariables false
set_option linter.unusedSimpArgs false

abbrev fl (x : Nat) : Value := .float .f64 x
def nrm (r : Nat) : Nat := if isNaNW r then nanB else r

theorem nrm_lt {r : Nat} (h : W64 r) : W64 (nrm r) := by unfold nrm; split; decide; exact h

/-- What is written of a number or an infinity is no NaN. -/
theorem nearest_noNaN (b : Bool) (m : Nat) (p : Int) : isNaNW (double.nearest b m p) = false := by
  rw [nearest_sg]
  have hp := nearest_pos m p
  unfold isNaNW
  rw [decide_eq_false_iff_not]
  have e : rgW (sgB b + double.nearest false m p) = double.nearest false m p := by unfold rgW sgB; split <;> omega
  rw [e]
  by_cases h : m = 0
  · subst h; rw [nearest_zero]; decide
  · rw [nearest_rung _ _ _ h, word_sg]
    have := Nat.min_le_right ((lastP m p + 1074).toNat * 2 ^ 52 + cutE (m * 2 ^ (p - lastP m p).toNat) (lastP m p - p).toNat) (2047 * 2 ^ 52)
    unfold rungE sgB infB
    simp only [Bool.false_eq_true, if_false]
    omega
theorem inf_noNaN (b : Bool) : isNaNW (double.write (.infinity b)) = false := by cases b <;> decide
def notNan : Datum → Bool
  | .nan .. => false
  | _ => true
theorem write_noNaN {d : Datum} (h : notNan d = true) : isNaNW (double.write d) = false := by
  cases d with
  | number b m p => exact nearest_noNaN b m p
  | infinity b => exact inf_noNaN b
  | nan b t => cases h
theorem sum_noNaN {a b d : Datum} (h : a.sum b = some d) : notNan d = true := by
  cases a <;> cases b <;> simp [Datum.sum] at h
  · subst h; rfl
  · subst h; rfl
  · subst h; rfl
  · obtain ⟨_, h⟩ := h; subst h; rfl
theorem product_noNaN {a b d : Datum} (h : a.product b = some d) : notNan d = true := by
  cases a <;> cases b <;> simp [Datum.product] at h
  · subst h; rfl
  · obtain ⟨_, h⟩ := h; subst h; rfl
  · obtain ⟨_, h⟩ := h; subst h; rfl
  · subst h; rfl
theorem quotient_noNaN {k : Nat} {a b d : Datum} (h : a.quotient k b = some d) : notNan d = true := by
  cases a with
  | number s m i =>
    cases b with
    | number t n j =>
      simp only [Datum.quotient] at h
      by_cases c : n = 0
      · rw [if_pos c] at h
        by_cases c2 : m = 0
        · rw [if_pos c2] at h; cases h
        · rw [if_neg c2] at h; cases h; rfl
      · rw [if_neg c] at h; cases h; rfl
    | infinity t => simp [Datum.quotient] at h; subst h; rfl
    | nan t u => simp [Datum.quotient] at h
  | infinity s => cases b <;> simp [Datum.quotient] at h; subst h; rfl
  | nan s t => simp [Datum.quotient] at h

/-- The plain function of an operator of floats. -/
def fOp : BinOp → Nat → Nat → Nat
  | .add, a, b => fAdd a b
  | .sub, a, b => fSub a b
  | .mul, a, b => fMul a b
  | _, a, b => fDiv a b
def arO : BinOp → Bool
  | .add | .sub | .mul | .quo => true
  | _ => false

theorem fb_some {op : BinOp} {a b r : Nat} (ho : arO op = true) (h : floatBits op .f64 a b = some r) : r = fOp op a b ∧ isNaNW r = false ∧ W64 r := by
  have hw : ∀ d : Option Datum, d.map double.write = some r → (∀ x, d = some x → notNan x = true) → isNaNW r = false ∧ W64 r := by
    intro d hd hn
    cases d with
    | none => cases hd
    | some x =>
      cases hd
      refine ⟨write_noNaN (hn x rfl), ?_⟩
      have := double.write_lt x
      rw [show 2 ^ double.width = 18446744073709551616 by decide] at this
      exact this
  cases op <;> simp [arO] at ho
  · exact ⟨by show r = fAdd a b; unfold fAdd; rw [show double.add a b = some r from h]; rfl, hw _ h (fun x => sum_noNaN)⟩
  · exact ⟨by show r = fSub a b; unfold fSub; rw [show double.sub a b = some r from h]; rfl, hw _ h (fun x => sum_noNaN)⟩
  · exact ⟨by show r = fMul a b; unfold fMul; rw [show double.mul a b = some r from h]; rfl, hw _ h (fun x => product_noNaN)⟩
  · exact ⟨by show r = fDiv a b; unfold fDiv; rw [show double.div a b = some r from h]; rfl, hw _ h (fun x => quotient_noNaN)⟩
theorem fb_none {op : BinOp} {a b : Nat} (ho : arO op = true) (h : floatBits op .f64 a b = none) : fOp op a b = nanB := by
  cases op <;> simp [arO] at ho
  · show fAdd a b = nanB; unfold fAdd; rw [show double.add a b = none from h]; rfl
  · show fSub a b = nanB; unfold fSub; rw [show double.sub a b = none from h]; rfl
  · show fMul a b = nanB; unfold fMul; rw [show double.mul a b = none from h]; rfl
  · show fDiv a b = nanB; unfold fDiv; rw [show double.div a b = none from h]; rfl

theorem cut_nan (x y t : Nat) : isNaNW (Question.cut (.nanBits .f64 x y) t) = true ∧ W64 (Question.cut (.nanBits .f64 x y) t) := by
  show isNaNW ((t % 2) * 2 ^ 63 + 0x7ff0000000000000 + 1 + (t / 2) % (2 ^ 52 - 1)) = true ∧ W64 ((t % 2) * 2 ^ 63 + 0x7ff0000000000000 + 1 + (t / 2) % (2 ^ 52 - 1))
  have h1 : (t / 2) % (2 ^ 52 - 1) < 2 ^ 52 - 1 := Nat.mod_lt _ (by decide)
  generalize (t / 2) % (2 ^ 52 - 1) = y at *
  unfold isNaNW W64 rgW infB
  rw [decide_eq_true_eq]
  omega

section
variable {P : Program} {n : Nat} {e : Nat → Option Value} {w : World} {ops : Array Oper} {Q : Exit → Act → World → Prop} {rest : List Oper} {ty : TypeId} {ps : String} {af : Array Edge} {d : Nat}

theorem ext_call {f : FuncId} {ats : Array TypeId} {x : Operand} {u v : Value} {w1 : World} {ds : List Deferred} {dst : Option Tmp} {g : Option (Nat × Bool)} (hx : evO n e x = some u) (h : (callFunc f #[u]).run P w = .ok (.value v) w1) :
    (execOp (Fr n e ds).eval ⟨dst, .call ⟨.value (.func f), #[x], ats⟩, ty, ps, af, g⟩).run P w = .ok (.value v) w1 := by
  have hm := evArgs_map (n := n) (e := e) (ds := ds) [x] [u] (by simp [evArgs, hx])
  have h' : (callFunc f [u].toArray).run P w = .ok (.value v) w1 := h
  rw [show (#[x] : Array Operand) = [x].toArray from rfl]
  simp [execOp, resolve, Act.eval, Deferred.ofValue, invoke, hm, h]
theorem ro_ext {f : FuncId} {ats : Array TypeId} {x : Operand} {u v : Value} (hx : evO n e x = some u) (h : (callFunc f #[u]).run P w = .ok (.value v) w) : RO P n e w (.call ⟨.value (.func f), #[x], ats⟩) v := by
  intro ds dst ty ps af g
  exact ext_call hx h

end
theorem ext199 (a : Nat) (w : World) : (callFunc 199 #[u64c a]).run Tryz.prog w = .ok (.value (fl a)) w := by
  rw [run_callFunc_extern (e := Extern.MathFloatBits.float64frombits) Tryz.func199 (by kernel_rfl) (by kernel_rfl) (by kernel_rfl) (by kernel_rfl)]
  rfl
theorem ext175 (a : Nat) (w : World) : (callFunc 175 #[fl a]).run Tryz.prog w = .ok (.value (u64c a)) w := by
  rw [run_callFunc_extern (e := Extern.MathFloatBits.float64bits) Tryz.func175 (by kernel_rfl) (by kernel_rfl) (by kernel_rfl) (by kernel_rfl)]
  rfl
theorem ext302 (a : Nat) (w : World) : (callFunc 302 #[fl a]).run Tryz.prog w = ((Extern.MathFloor.toIntegral "math.archFloor" .down #[fl a]).run Tryz.prog w).andThen fun v w' => .ok (.value v) w' := by
  rw [run_callFunc_extern (e := Extern.MathFloor.toIntegral "math.archFloor" .down) Tryz.func302 (by kernel_rfl) (by kernel_rfl) (by kernel_rfl) (by kernel_rfl)]
theorem arch_q : ∃ q : Question, q.forced = false ∧ ∀ a, Extern.MathFloor.toIntegral "math.archFloor" .down #[fl a] = (match FloatKind.f64.decode a with
        | .nan s t => if FloatKind.f64.format.quiet t = t then pure (.float .f64 a) else do
            let kept ← choose q
            pure (.float .f64 (if kept == 1 then a else FloatKind.f64.encode (.nan s (FloatKind.f64.format.quiet t))))
        | dd => pure (.float .f64 (FloatKind.f64.encode (dd.integral .down))) : Sem Value) := by
  apply Exists.intro
  apply And.intro
  rotate_left
  · intro a
    rfl
  · rfl
section
variable {n : Nat} {e : Nat → Option Value} {w : World} {ops : Array Oper} {Q : Exit → Act → World → Prop} {rest : List Oper} {ty : TypeId} {ps : String} {af : Array Edge} {d : Nat}
theorem ro_from {ats : Array TypeId} {x : Operand} {a : Nat} (hx : evO n e x = some (u64c a)) : RO Tryz.prog n e w (.call ⟨.value (.func 199), #[x], ats⟩) (fl a) := ro_ext hx (ext199 a w)
theorem ro_bitsF {ats : Array TypeId} {x : Operand} {a : Nat} (hx : evO n e x = some (fl a)) : RO Tryz.prog n e w (.call ⟨.value (.func 175), #[x], ats⟩) (u64c a) := ro_ext hx (ext175 a w)

/-- Floor by the machine. -/
theorem wl_arch {ats : Array TypeId} {x : Operand} {a : Nat} (hx : evO n e x = some (fl a)) (ha : W64 a)
    (K : ∀ r w1, nrm r = fFlr a → W64 r → Fram none' w w1 → WL Tryz.prog ops Q rest (Fr n (upd e d (fl r)) []) w1) :
    WL Tryz.prog ops Q (⟨some d, .call ⟨.value (.func 302), #[x], ats⟩, ty, ps, af, none⟩ :: rest) (Fr n e []) w := by
  have key : ∃ r w1, (callFunc 302 #[fl a]).run Tryz.prog w = .ok (.value (fl r)) w1 ∧ nrm r = fFlr a ∧ W64 r ∧ Fram none' w w1 := by
    obtain ⟨q0, hf0, hq0⟩ := arch_q
    rw [ext302]
    by_cases hn : isNaNW a = true
    · have hnan : infB < rgW a := by unfold isNaNW at hn; simpa using hn
      have hrd : FloatKind.f64.decode a = .nan (ngW a) (rgW a - infB) := read_nan ha hnan
      have hflr : fFlr a = nanB := flr_nan hn
      have hna : nrm a = nanB := by unfold nrm; rw [if_pos hn]
      rw [hq0 a]
      rw [hrd]
      dsimp only
      by_cases hq : FloatKind.f64.format.quiet (rgW a - infB) = rgW a - infB
      · rw [if_pos hq]
        exact ⟨a, w, rfl, by rw [hna, hflr], ha, Fram.refl _ _⟩
      · rw [if_neg hq]
        refine ⟨if q0.cut (w.tape w.drawn q0) == 1 then a else FloatKind.f64.encode (.nan (ngW a) (FloatKind.f64.format.quiet (rgW a - infB))), w.drew, ?_, ?_, ?_, Fram.drew none' w _⟩
        · simp [Sem.run_bind, Result.andThen, hf0]
        · have hqn : isNaNW (FloatKind.f64.encode (.nan (ngW a) (FloatKind.f64.format.quiet (rgW a - infB)))) = true := by
            show isNaNW (double.word (ngW a) (double.infRung + double.quiet (rgW a - infB) % double.binade)) = true
            rw [word_sg]
            have e1 : double.infRung = infB := by decide
            have e2 : double.binade = 4503599627370496 := by decide
            rw [e1, e2]
            have hr := rg_lt a
            have hlt : rgW a - infB < 4503599627370496 := by unfold infB; omega
            have hq1 : double.quiet (rgW a - infB) < 2 ^ 52 := Nat.or_lt_two_pow (show rgW a - infB < 2 ^ 52 by omega) (by decide)
            have hq2 : 0 < double.quiet (rgW a - infB) := by
              have : rgW a - infB ≤ double.quiet (rgW a - infB) := Nat.left_le_or
              omega
            rw [Nat.mod_eq_of_lt (by omega)]
            unfold isNaNW
            rw [decide_eq_true_eq]
            generalize double.quiet (rgW a - infB) = y at hq1 hq2 ⊢
            have : rgW (sgB (ngW a) + (infB + y)) = infB + y := by
              unfold rgW sgB infB
              split <;> omega
            rw [this]
            omega
          rw [hflr]
          split
          · exact hna
          · unfold nrm; rw [if_pos hqn]
        · split
          · exact ha
          · have := double.write_lt (.nan (ngW a) (double.quiet (rgW a - infB)))
            rw [show 2 ^ double.width = 18446744073709551616 by decide] at this
            exact this
    · have hn' : isNaNW a = false := by simpa using hn
      have hfl : fFlr a = double.write ((double.read a).integral .down) := by unfold fFlr; rw [if_neg hn]
      have hnn : notNan ((double.read a).integral .down) = true := by
        rw [read_eq ha]
        have : rgW a ≤ infB := by unfold isNaNW at hn'; simp at hn'; omega
        by_cases c : rgW a < infB
        · rw [if_pos c]; rfl
        · rw [if_neg c, if_pos (by omega)]; rfl
      refine ⟨fFlr a, w, ?_, ?_, fFlr_lt a, Fram.refl _ _⟩
      · rw [hfl]
        rw [hq0 a]
        have hrd : FloatKind.f64.decode a = double.read a := rfl
        rw [hrd]
        rw [read_eq ha]
        have : rgW a ≤ infB := by unfold isNaNW at hn'; simp at hn'; omega
        by_cases c : rgW a < infB
        · rw [if_pos c]; rfl
        · rw [if_neg c, if_pos (by omega)]; rfl
      · unfold nrm
        rw [hfl, write_noNaN hnn, if_neg (by simp)]
  obtain ⟨r, w1, h, h1, h2, h3⟩ := key
  refine wle (v := fl r) (w1 := w1) ?_ (K r w1 h1 h2 h3)
  intro ds dst ty ps af g
  exact ext_call hx h
end
section
variable {P : Program} {n : Nat} {e : Nat → Option Value} {w : World} {ops : Array Oper} {Q : Exit → Act → World → Prop} {rest : List Oper} {ty : TypeId} {ps : String} {af : Array Edge} {d : Nat}
/-- Arithmetic. -/
theorem wl_far {op : BinOp} {t t' : TypeId} {x y : Operand} {a b : Nat} (hx : evO n e x = some (fl a)) (hy : evO n e y = some (fl b)) (ho : arO op = true)
    (K : ∀ r w1, nrm r = fOp op a b → W64 r → Fram none' w w1 → WL P ops Q rest (Fr n (upd e d (fl r)) []) w1) :
    WL P ops Q (⟨some d, .binOp op t x y t', ty, ps, af, none⟩ :: rest) (Fr n e []) w := by
  have key : ∃ r w1, (binOp op t (fl a) (fl b)).run P w = .ok (fl r) w1 ∧ nrm r = fOp op a b ∧ W64 r ∧ Fram none' w w1 := by
    cases hb : floatBits op .f64 a b with
    | some r =>
      obtain ⟨h1, h2, h3⟩ := fb_some ho hb
      refine ⟨r, w, run_float_arith w op t .f64 a b r hb, ?_, h3, Fram.refl _ _⟩
      unfold nrm; rw [h2, if_neg (by simp)]; exact h1
    | none =>
      obtain ⟨h1, h2⟩ := cut_nan a b (w.tape w.drawn (.nanBits .f64 a b))
      refine ⟨_, w.drew, ?_, ?_, h2, Fram.drew none' w _⟩
      · unfold floatBits at hb
        cases op <;> simp [arO] at ho <;> simp only at hb <;> simp [binOp, Op.floatArith, hb, Question.forced]
      · unfold nrm; rw [if_pos h1, fb_none ho hb]
  obtain ⟨r, w1, h, h1, h2, h3⟩ := key
  refine wle (v := fl r) (w1 := w1) ?_ (K r w1 h1 h2 h3)
  intro ds dst ty ps af g
  have hg : (eqGuard op t x y (fl a) (fl b)).run P w = .ok () w := by unfold eqGuard; cases op <;> simp
  simp [execOp, evO_eval hx, evO_eval hy, hg, h]
theorem ro_fcmp {op : BinOp} {t t' : TypeId} {x y : Operand} {a b : Nat} {r : Bool} (hx : evO n e x = some (fl a)) (hy : evO n e y = some (fl b)) (ha : W64 a) (hb : W64 b)
    (hr : (match op with | .eql => some (fCmp 1 a b) | .neq => some (fCmp 2 a b) | .lss => some (fCmp 3 a b) | .leq => some (fCmp 4 a b) | .gtr => some (fCmp 5 a b) | .geq => some (fCmp 6 a b) | _ => none) = some r) : RO P n e w (.binOp op t x y t') (.bool r) := by
  intro ds dst ty ps af g
  have hg : (eqGuard op t x y (fl a) (fl b)).run P w = .ok () w := by unfold eqGuard; cases op <;> simp
  have key : (binOp op t (fl a) (fl b)).run P w = .ok (.bool r) w := by
    by_cases c : infB < rgW a ∨ infB < rgW b
    · have ho : FloatKind.f64.format.order a b = none := order_nan ha hb c
      unfold fCmp at hr
      cases op <;> simp [c] at hr <;> subst hr <;> simp [binOp, Op.floatCmp, ho]
    · have ho : FloatKind.f64.format.order a b = some (compare (okey a) (okey b)) := order_key ha hb (by omega) (by omega)
      unfold fCmp at hr
      have c1 : ¬ infB < rgW a := fun h => c (.inl h)
      have c2 : ¬ infB < rgW b := fun h => c (.inr h)
      simp only [c1, c2, or_self, if_false] at hr
      cases op <;> first | (cases hr; done) | (have hr' := Option.some.inj hr; subst hr'; simp [binOp, Op.floatCmp, ho])
      all_goals rw [Bool.eq_iff_iff]
      all_goals simp only [beq_iff_eq, bne_iff_ne, Option.some.injEq, Bool.or_eq_true, decide_eq_true_eq, compare_eq_iff, compare_lt_iff, compare_gt_iff, ne_eq, Bool.not_eq_true', decide_eq_false_iff_not]
      all_goals omega
  simp [execOp, evO_eval hx, evO_eval hy, hg, key]
theorem ro_fneg {t : TypeId} {x : Operand} {a : Nat} (hx : evO n e x = some (fl a)) (ha : W64 a) : RO P n e w (.unOp .neg t x) (fl (negW a)) := by
  intro ds dst ty ps af g
  have h : Op.negFloat .f64 a = negW a := xor_sg a ha
  simp [execOp, evO_eval hx, Op.unary, h]
theorem ro_i2f {src dst : TypeId} {x : Operand} {q : IntKind} {m : Int} (hx : evO n e x = some (.int q m)) (hs : scalB P src = true) (hd : P.underlying dst = some (.float .f64)) : RO P n e w (.convert src dst x) (fl (double.nearest (decide (m < 0)) m.natAbs 0)) := by
  intro ds dst' ty ps af g
  have hsome : (P.underlying src).isSome = true := by
    unfold scalB at hs
    cases hu : P.underlying src with
    | none => rw [hu] at hs; cases hs
    | some d => rfl
  have := run_convert_int_float (P := P) w src dst q .f64 m hsome hd
  simp [execOp, evO_eval hx, this]
  rfl
theorem ro_f2i {src dst : TypeId} {x : Operand} {k : IntKind} {a : Nat} {m : Int} (hx : evO n e x = some (fl a)) (hs : (P.underlying src).isSome = true) (hd : intB P dst k = true) (h : floatToIntVal .f64 a k = some m) : RO P n e w (.convert src dst x) (.int k m) := by
  intro ds dst' ty ps af g
  have := run_convert_float_int (P := P) w src dst .f64 k a m hs (intB_spec hd) h
  simp [execOp, evO_eval hx, this]
end
end Go.Proofs.Qxb6500568aGreatDoor
