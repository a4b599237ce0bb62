import Derived.Test.Qxb6500568aGreatDoorFz
/- Library: a structure stored in the middle of a drawn region. -/
namespace Go.Proofs.Qxb6500568aGreatDoor
set_option linter.unusedVariables false
section
variable {P : Program} {ops : Array Oper} {Q : Exit → Act → World → Prop} {S : World → Prop} {n : Nat} {e : Nat → Option Value} {ds : List Deferred} {w : World}
theorem pi_putam {i : Nat} {r : List (Nat × Bool)} {ty : TypeId} {ps : String} {af : Array Edge} {t t' : TypeId} {x y : Operand} {b j m : Nat} {l l' cs : List Value} (ho : ops[i]? = some ⟨none, .store t x y, ty, ps, af, none⟩) (hx : evO n e x = some (.pointer (some ⟨b, j, none⟩))) (hy : evO n e y = some (.agg cs.toArray)) (h1 : ∀ u ∈ cs, u.oneCell' = true) (ht : sizeB P t m = true) (hc : cs.length = m)
    (hB : Blk w.heap b l t') (hi : j + m ≤ l.length) (hl : l.take j ++ cs ++ l.drop (j + m) = l') (hS : ∀ w1, Blk w1.heap b l' t' → Fram (one b) w w1 → S w1) (k : ∀ w1, Blk w1.heap b l' t' → Fram (one b) w w1 → WP P ops Q S r (Fr n e ds) w1) : WP P ops Q S ((i, true) :: r) (Fr n e ds) w := by
  subst hl
  exact pi_so ho (so_storeAggB hx hy h1 ht hc hB hi) (hS _ (hB.set _) (set_fram hB _)) (k _ (hB.set _) (set_fram hB _))
end
end Go.Proofs.Qxb6500568aGreatDoor
