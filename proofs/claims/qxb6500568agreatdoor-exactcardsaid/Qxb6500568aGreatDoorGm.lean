import Derived.Test.Qxb6500568aGreatDoorGl
import Derived.Test.Qxb6500568aGreatDoorGj
/- Calls that may panic, in regions that draw their order. -/
namespace Go.Proofs.Qxb6500568aGreatDoor
set_option linter.unusedVariables false
set_option linter.unusedSimpArgs false

section
variable {P : Program} {n : Nat} {e : Nat → Option Value} {ds : List Deferred} {w w1 : World} {ops : Array Oper} {Q : Exit → Act → World → Prop} {S : World → Prop} {r : List (Nat × Bool)} {i d last : Nat} {ty : TypeId} {ps : String} {af : Array Edge}
  {f : FuncId} {args : List Operand} {ats : Array TypeId} {vs : List Value} {R E : Value → World → Prop}
theorem pi_callP (hi : ops[i]? = some ⟨some d, .call ⟨.value (.func f), args.toArray, ats⟩, ty, ps, af, none⟩) (ha : evArgs n e args = some vs) (hf : Enters P f) (hc : RetP P f vs w R E) (hp : ∀ pv w', E pv w' → Q (.panic [{ v := pv, recovered := false }]) (Fr n e ds) w')
    (k : ∀ v w', R v w' → S w' ∧ WP P ops Q S r (Fr n (upd e d v) ds) w') : WP P ops Q S ((i, true) :: r) (Fr n e ds) w := by
  refine ⟨?_⟩
  show wpOp P ops Q i _ _ _
  unfold wpOp
  rw [hi]
  simp only [Region.wanted, if_true]
  refine .inl ?_
  unfold Oper.wp
  rw [run_call ha hf]
  simp only [Oper.upon]
  refine Calls.mono hc fun en w' hR => ?_
  rcases hR with ⟨v, rfl, hv⟩ | ⟨pv, rfl, hv⟩
  · simp only [put_some]
    exact ⟨(k v w' hv).1, (k v w' hv).2.out⟩
  · exact hp pv w' hv
theorem ql_callP (hi : ops[i]? = some ⟨some d, .call ⟨.value (.func f), args.toArray, ats⟩, ty, ps, af, none⟩) (ha : evArgs n e args = some vs) (hf : Enters P f) (hc : RetP P f vs w R E) (hp : ∀ pv w', E pv w' → Q (.panic [{ v := pv, recovered := false }]) (Fr n e ds) w')
    (k : ∀ v w', R v w' → S w' ∧ WQ P ops Q S last r (Fr n (upd e d v) ds) w') : WQ P ops Q S last ((i, true) :: r) (Fr n e ds) w := by
  refine ⟨?_⟩
  show wpOp P ops Q i _ _ _
  unfold wpOp
  rw [hi]
  simp only [Region.wanted, if_true]
  refine .inl ?_
  unfold Oper.wp
  rw [run_call ha hf]
  simp only [Oper.upon]
  refine Calls.mono hc fun en w' hR => ?_
  rcases hR with ⟨v, rfl, hv⟩ | ⟨pv, rfl, hv⟩
  · simp only [put_some]
    exact ⟨(k v w' hv).1, (k v w' hv).2.out⟩
  · exact hp pv w' hv
theorem ql_lastCP (hi : ops[last]? = some ⟨some d, .call ⟨.value (.func f), args.toArray, ats⟩, ty, ps, af, none⟩) (ha : evArgs n e args = some vs) (hf : Enters P f) (hc : RetP P f vs w R E) (hp : ∀ pv w', E pv w' → Q (.panic [{ v := pv, recovered := false }]) (Fr n e ds) w')
    (k : ∀ v w', R v w' → Q .normal (Fr n (upd e d v) ds) w') : WQ P ops Q S last [] (Fr n e ds) w := by
  refine ⟨?_⟩
  show wpOp P ops Q last _ _ _
  unfold wpOp
  rw [hi]
  simp only [Region.wanted, if_true]
  refine .inl ?_
  unfold Oper.wp
  rw [run_call ha hf]
  simp only [Oper.upon]
  refine Calls.mono hc fun en w' hR => ?_
  rcases hR with ⟨v, rfl, hv⟩ | ⟨pv, rfl, hv⟩
  · simp only [put_some]
    exact k v w' hv
  · exact hp pv w' hv
/-- a call that returns does not panic. -/
theorem Ret.toP {vs : List Value} (h : Ret P f vs w R) : RetP P f vs w R E := Calls.mono h fun en w' ⟨v, he, hv⟩ => .inl ⟨v, he, hv⟩
end
end Go.Proofs.Qxb6500568aGreatDoor
