import Derived.Test.Qxb6500568aGreatDoorFy
import Derived.Test.Qxb6500568aGreatDoorFk
import Derived.Laws.StructEq
/- Library: a structure is equal to itself. -/
namespace Go.Proofs.Qxb6500568aGreatDoor
set_option linter.unusedVariables false
set_option linter.unusedSimpArgs false
section
variable {P : Program} {n : Nat} {e : Nat → Option Value} {w : World}
def EqR (P : Program) (d : Nat) (t : TypeId) (v : Value) : Prop := ∀ w, (Op.equalIn d t v v).run P w = .ok true w
def PtR (P : Program) (t : TypeId) (xs : Array Value) (o : Nat) (v : Value) : Prop := ∀ w, (part t xs o).run P w = .ok v w
theorem eqFields_refl {d : Nat} {xs : Array Value} : ∀ (fs : List Field), (∀ f ∈ fs, ∃ v, PtR P f.type xs f.offset v ∧ EqR P d f.type v) → ∀ w, (Op.eqFields d xs xs fs).run P w = .ok true w
  | [], _, w => by simp [Op.eqFields]
  | f :: fs, h, w => by
    obtain ⟨v, h1, h2⟩ := h f (by simp)
    have ih := eqFields_refl fs (fun g hg => h g (by simp [hg]))
    unfold Op.eqFields
    split
    · simp only [Sem.run_bind, h1 w, Result.andThen_ok, h2 w, Bool.not_true, Bool.false_eq_true, if_false]
      exact ih w
    · exact ih w
def stNB (P : Program) (t : TypeId) (fo : List (TypeId × Nat)) : Bool := (match P.underlying t with | some (.struct _) => true | _ => false) && !P.stoodInHeld t && ((P.fieldsOf t).toList.map (fun f => (f.type, f.offset)) == fo)
theorem eqr_struct {t : TypeId} {fo : List (TypeId × Nat)} {d : Nat} {xs : Array Value} (ht : stNB P t fo = true) (h : ∀ p ∈ fo, ∃ v, PtR P p.1 xs p.2 v ∧ EqR P d p.1 v) : EqR P (d + 1) t (.agg xs) := by
  intro w
  unfold stNB at ht
  simp only [Bool.and_eq_true, Bool.not_eq_true', beq_iff_eq] at ht
  obtain ⟨⟨h1, h2⟩, h3⟩ := ht
  have hu : P.underlying t = some (.struct (P.fieldsOf t)) := by
    unfold Program.fieldsOf
    split at h1
    · rename_i fs hq; rw [hq]
    · cases h1
  rw [run_equalIn_struct w d t xs xs hu h2]
  refine eqFields_refl _ (fun f hf => ?_) w
  exact h (f.type, f.offset) (by rw [← h3]; exact List.mem_map_of_mem hf)
theorem eqr_int {t : TypeId} {k : IntKind} {a : Int} {d : Nat} (ht : intB P t k = true) : EqR P (d + 1) t (.int k a) := fun w => by
  rw [Go.run_equalIn_int w d t k k a a (intB_spec ht)]; simp
theorem eqr_bool {t : TypeId} {a : Bool} {d : Nat} (ht : P.underlying t = some .bool) : EqR P (d + 1) t (.bool a) := fun w => by
  rw [Go.run_equalIn_bool' w d t a a ht]; simp
theorem ptr_scal {t : TypeId} {xs : Array Value} {o : Nat} {v : Value} (ht : (match P.underlying t with | some (.struct _) | some (.array _ _) | none => false | _ => true) = true) (hv : xs[o]? = some v) : PtR P t xs o v := by
  intro w
  split at ht
  · cases ht
  · cases ht
  · cases ht
  · rename_i h1 h2 h3
    cases hu : P.underlying t with
    | none => exact absurd hu h3
    | some d =>
      have hag : (isAgg t).run P w = .ok false w := by
        unfold isAgg
        simp only [Sem.run_bind, run_underlying hu, Result.andThen_ok]
        split
        · exact (h1 _ hu).elim
        · exact (h2 _ _ hu).elim
        · rfl
      simp [part, hag, hv]
theorem ptr_agg {t : TypeId} {xs : Array Value} {o m : Nat} (ht : (match P.underlying t with | some (.struct _) => true | _ => false) = true) (hs : sizeB P t m = true) : PtR P t xs o (.agg (xs.extract o (o + m))) := by
  intro w
  split at ht
  · rename_i fs hu
    have hag : (isAgg t).run P w = .ok true w := by
      unfold isAgg
      simp [run_underlying hu]
    simp [part, hag, run_sizeOf hs]
  · cases ht
theorem ro_neRefl {t t' : TypeId} {x y : Operand} {xs : Array Value} (hx : evO n e x = some (.agg xs)) (hy : evO n e y = some (.agg xs)) (hg : P.eqGuardType P.depth t = false) (h : EqR P 10000 t (.agg xs)) : RO P n e w (.binOp .neq t x y t') (.bool false) := by
  intro ds dst ty ps af g
  have key : (Op.equal t (.agg xs) (.agg xs)).run P w = .ok true w := h w
  simp [execOp, evO_eval hx, evO_eval hy, eqGuard, hg, binOp, key]
end
section
variable {P : Program} {ops : Array Oper} {Q : Exit → Act → World → Prop} {S : World → Prop} {n : Nat} {e : Nat → Option Value} {ds : List Deferred} {w w1 : World} {r : List (Nat × Nat)} {i d : Nat} {ty : TypeId} {ps : String} {af : Array Edge}
theorem pb_put {t t' : TypeId} {x y : Operand} {b j : Nat} {l l' : List Value} {v : Value} (ho : ops[i]? = some ⟨none, .store t x y, ty, ps, af, none⟩) (hx : evO n e x = some (.pointer (some ⟨b, j, none⟩))) (hy : evO n e y = some v) (h1 : v.oneCell' = true) (ht : sizeB P t 1 = true)
    (hB : Blk w.heap b l t') (hi : j < l.length) (hl : l.set j v = l') (k : ∀ w1, Blk w1.heap b l' t' → Fram (one b) w w1 → WB P ops Q S r (Fr n e ds) w1) : WB P ops Q S ((i, 2) :: r) (Fr n e ds) w := by
  subst hl
  exact pb_so ho (so_storeB hx hy h1 ht hB hi) (k _ (hB.set _) (set_fram hB _))
end
end Go.Proofs.Qxb6500568aGreatDoor
