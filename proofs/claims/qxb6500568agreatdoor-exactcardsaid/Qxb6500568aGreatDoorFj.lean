import Derived.Test.Qxb6500568aGreatDoorFi
/- Library: a store within a region of any order. -/
namespace Go.Proofs.Qxb6500568aGreatDoor
set_option linter.unusedVariables false
section
variable {P : Program} {n : Nat} {e : Nat → Option Value} {w w1 : World} {ops : Array Oper} {ds : List Deferred} {Q : Exit → Act → World → Prop} {S : World → Prop} {last i d : Nat} {r : List (Nat × Bool)} {ty : TypeId} {ps : String} {af : Array Edge} {op : Op}

theorem ql_so (hi : ops[i]? = some ⟨none, op, ty, ps, af, none⟩) (h : SO P n e w op w1) (hS : S w1) (k : WQ P ops Q S last r (Fr n e ds) w1) : WQ P ops Q S last ((i, true) :: r) (Fr n e ds) w := by
  refine ⟨?_⟩
  show wpOp P ops Q i _ _ _
  unfold wpOp
  rw [hi]
  simp only [Region.wanted, if_true]
  refine .inl ?_
  unfold Oper.wp
  rw [h ds]
  simp only [Oper.upon, put_none]
  exact ⟨hS, k.out⟩

theorem ql_putm {t t' : TypeId} {x y : Operand} {b j : Nat} {l l' : List Value} {v : Value} (ho : ops[i]? = some ⟨none, .store t x y, ty, ps, af, none⟩) (hx : evO n e x = some (.pointer (some ⟨b, j, none⟩))) (hy : evO n e y = some v) (h1 : v.oneCell' = true) (ht : sizeB P t 1 = true)
    (hB : Blk w.heap b l t') (hi : j < l.length) (hl : l.set j v = l') (hS : ∀ w1, Blk w1.heap b l' t' → Fram (one b) w w1 → S w1) (k : ∀ w1, Blk w1.heap b l' t' → Fram (one b) w w1 → WQ P ops Q S last r (Fr n e ds) w1) : WQ P ops Q S last ((i, true) :: r) (Fr n e ds) w := by
  subst hl
  exact ql_so ho (so_storeB hx hy h1 ht hB hi) (hS _ (hB.set _) (set_fram hB _)) (k _ (hB.set _) (set_fram hB _))

end
end Go.Proofs.Qxb6500568aGreatDoor
