import Derived.Test.Qxb6500568aGreatDoorGe
/- Library: guarded calls within regions of any order. -/
namespace Go.Proofs.Qxb6500568aGreatDoor
set_option linter.unusedVariables false
set_option linter.unusedSimpArgs false
section
variable {P : Program} {n : Nat} {e : Nat → Option Value} {w w1 : World} {ds : List Deferred} {ops : Array Oper} {Q : Exit → Act → World → Prop} {S : World → Prop} {last i d j : Nat} {b : Bool} {r : List (Nat × Bool)} {op : Op} {ty : TypeId} {ps : String} {af : Array Edge} {v : Value}

theorem pi_gcall {f : FuncId} {args : List Operand} {ats : Array TypeId} {vs : List Value} {R : Value → World → Prop} (hi : ops[i]? = some ⟨some d, .call ⟨.value (.func f), args.toArray, ats⟩, ty, ps, af, some (j, b)⟩) (hg : gval n e ops j = some b) (ha : evArgs n e args = some vs) (hf : Enters P f) (hc : Ret P f vs w R)
    (k : ∀ v w', R v w' → S w' ∧ WP P ops Q S r (Fr n (upd e d v) ds) w') : WP P ops Q S ((i, true) :: r) (Fr n e ds) w := by
  refine ⟨?_⟩
  show wpOp P ops Q i _ _ _
  unfold wpOp
  rw [hi]
  have hw : Region.wanted ⟨some d, .call ⟨.value (.func f), args.toArray, ats⟩, ty, ps, af, some (j, b)⟩ (yielded ops (Fr n e ds).tmps) = true := by simp [Region.wanted, yielded_fr, hg]
  simp only [hw, if_true]
  refine .inl ?_
  unfold Oper.wp
  rw [run_call ha hf]
  simp only [Oper.upon]
  refine Calls.mono hc fun en w' ⟨v, he, hv⟩ => ?_
  subst he
  simp only [put_some]
  exact ⟨(k v w' hv).1, (k v w' hv).2.out⟩
theorem pi_gnoE (hi : ops[i]? = some ⟨some d, op, ty, ps, af, some (j, b)⟩) (hg' : gno (gval n e ops j) b = true) (hS : S w) (k : WP P ops Q S r (Fr n (upd e d undef) ds) w) : WP P ops Q S ((i, true) :: r) (Fr n e ds) w := by
  refine ⟨?_⟩
  show wpOp P ops Q i _ _ _
  unfold wpOp
  rw [hi]
  have hw : ¬ Region.wanted ⟨some d, op, ty, ps, af, some (j, b)⟩ (yielded ops (Fr n e ds).tmps) = true := by simp only [Region.wanted, yielded_fr, gno_spec hg']; simp
  simp only [hw, if_false, put_some]
  exact ⟨hS, k.out⟩
end
end Go.Proofs.Qxb6500568aGreatDoor
