import Derived.Test.Qxb6500568aGreatDoorGh
/- Type assertions, function values. -/
namespace Go.Proofs.Qxb6500568aGreatDoor
set_option linter.unusedVariables false
set_option linter.unusedSimpArgs false

def notIf (P : Program) (t : TypeId) : Bool := match P.underlying t with | some (.interface _) => false | some _ => true | none => false

section
variable {P : Program} {n : Nat} {e : Nat → Option Value} {ds : List Deferred} {w w1 : World} {ops : Array Oper} {Q : Exit → Act → World → Prop} {rest : List Oper}
  {d : Nat} {op : Op} {ty : TypeId} {ps : String} {af : Array Edge} {v : Value}

theorem run_ta {t xt u : TypeId} {v : Value} {ok : Bool} (hn : notIf P t = true) : (Instr.typeAssert (.iface u v) xt t ok).run P w = (if u = t then (pure (if ok then .tuple #[v, .bool true] else v) : Sem Value) else (do if ok then pure (.tuple #[← zeroValue t, .bool false]) else runtimePanic (.typeAssertion (some xt) (some u) t ""))).run P w := by
  unfold notIf at hn
  unfold Instr.typeAssert
  cases hu : P.underlying t with
  | none => rw [hu] at hn; cases hn
  | some x =>
    rw [hu] at hn
    cases x <;> first | (exact Bool.noConfusion hn) | (simp [run_underlying hu])

theorem ro_taY {x : Operand} {t xt : TypeId} {v : Value} (hx : evO n e x = some (.iface t v)) (hn : notIf P t = true) : RO P n e w (.typeAssert x xt t true) (.tuple #[v, .bool true]) := by
  intro ds dst ty ps af g
  simp [execOp, evO_eval hx, run_ta hn]

theorem ro_taY1 {x : Operand} {t xt : TypeId} {v : Value} (hx : evO n e x = some (.iface t v)) (hn : notIf P t = true) : RO P n e w (.typeAssert x xt t false) v := by
  intro ds dst ty ps af g
  simp [execOp, evO_eval hx, run_ta hn]

theorem ro_taN {x : Operand} {u t xt : TypeId} {v z : Value} (hx : evO n e x = some (.iface u v)) (hn : notIf P t = true) (hne : Nat.beq u t = false) (hz : (P.info? t).bind (·.zero) = some z) : RO P n e w (.typeAssert x xt t true) (.tuple #[z, .bool false]) := by
  intro ds dst ty ps af g
  have hne' : ¬ u = t := by intro h; rw [h] at hne; simp at hne
  obtain ⟨i, h1, h2⟩ : ∃ i, P.info? t = some i ∧ i.zero = some z := by
    cases hi : P.info? t with
    | none => rw [hi] at hz; cases hz
    | some i => rw [hi] at hz; exact ⟨i, rfl, hz⟩
  simp [execOp, evO_eval hx, run_ta hn, hne', zeroValue, typeInfo, h1, h2]

theorem ro_makeFunc {f : FuncId} {caps : List Operand} {vs : List Value} (ha : evArgs n e caps = some vs) : RO P n e w (.makeFunc (.func f) #[] caps.toArray) (.func (.func f) #[] vs.toArray) := by
  intro ds dst ty ps af g
  have hm := evArgs_map (ds := ds) caps vs ha
  simp [execOp, Instr.makeFunc, hm]

theorem run_callv {f : FuncId} {x : Operand} {args : List Operand} {ats : Array TypeId} {vs cs : List Value} (hx : evO n e x = some (.func (.func f) #[] cs.toArray)) (ha : evArgs n e args = some vs) (hf : Enters P f) (dst : Option Tmp) (ty : TypeId) (ps : String) (af : Array Edge) (g : Option (Nat × Bool)) :
    (execOp (Fr n e ds).eval ⟨dst, .call ⟨.value x, args.toArray, ats⟩, ty, ps, af, g⟩).run P w = .ok (.enter f (vs ++ cs).toArray) w := by
  have hm := evArgs_map (ds := ds) args vs ha
  have := hf (vs ++ cs).toArray w
  simp [execOp, resolve, evO_eval hx, Deferred.ofValue, invoke, hm]
  simpa using this

theorem wl_callv {f : FuncId} {x : Operand} {args : List Operand} {ats : Array TypeId} {vs cs : List Value} {R : Value → World → Prop} (hx : evO n e x = some (.func (.func f) #[] cs.toArray)) (ha : evArgs n e args = some vs) (hf : Enters P f) (hc : Ret P f (vs ++ cs) w R)
    (k : ∀ v w', R v w' → WL P ops Q rest (Fr n (upd e d v) ds) w') : WL P ops Q (⟨some d, .call ⟨.value x, args.toArray, ats⟩, ty, ps, af, none⟩ :: rest) (Fr n e ds) w := by
  refine ⟨wpList_plain rfl fun K hK => ?_⟩
  unfold Oper.wp
  rw [run_callv hx ha hf]
  simp only [Oper.upon]
  refine Calls.mono hc fun en w' hR => ?_
  obtain ⟨v, rfl, h⟩ := hR
  simp only [put_some]
  exact hK _ _ (k v w' h).out

end
end Go.Proofs.Qxb6500568aGreatDoor
