import Derived.Test.Qxb6500568aGreatDoorFe
/- Library: a new block within a region of any order. -/
namespace Go.Proofs.Qxb6500568aGreatDoor
set_option linter.unusedVariables false
section
variable {P : Program} {n : Nat} {e : Nat → Option Value} {w w1 : World} {ops : Array Oper} {ds : List Deferred} {Q : Exit → Act → World → Prop} {S : World → Prop} {last i d : Nat} {r : List (Nat × Bool)} {ty : TypeId} {ps : String} {af : Array Edge}

theorem ql_new {t : TypeId} {z : List Value} (hi : ops[i]? = some ⟨some d, .alloc t, ty, ps, af, none⟩) (hz : zeroB P t z) (hS : ∀ w1, Fram none' w w1 → S w1)
    (k : ∀ b w1, w.heap.size ≤ b → Blk w1.heap b z t → Fram none' w w1 → WQ P ops Q S last r (Fr n (upd e d (ptr b)) ds) w1) : WQ P ops Q S last ((i, true) :: r) (Fr n e ds) w :=
  ql_eo hi (eo_alloc hz) (hS _ (Fram.alloc _ _ _)) (k w.heap.size _ (Nat.le_refl _) (Blk.new w z t) (Fram.alloc none' w _))

theorem pi_copy {t t' et k g od dLen dCap b os sLen sCap m N N2 : Nat} {x y : Operand} {f h : Nat → Value} {t1 t2 : TypeId} (hi : ops[i]? = some ⟨some d, .call ⟨.builtin .copy, #[x, y], #[t, t']⟩, ty, ps, af, none⟩) (hx : evO n e x = some (.slice (some ⟨g, od, none⟩) dLen dCap)) (hy : evO n e y = some (.slice (some ⟨b, os, none⟩) sLen sCap)) (ht : selB P t et k = true)
    (hB : FB w.heap g N f t1) (hB2 : FB w.heap b N2 h t2) (hm : Nat.min sLen dLen = m) (h1 : ∀ j, j < m * k → (h (os + j)).oneCell' = true) (hfit : od + m * k ≤ N) (hs : os + m * k ≤ N2) (hS : ∀ w1, Fram (one g) w w1 → S w1)
    (K : ∀ w1, FB w1.heap g N (cpf f od h os (m * k)) t1 → Fram (one g) w w1 → WP P ops Q S r (Fr n (upd e d (i64c m)) ds) w1) : WP P ops Q S ((i, true) :: r) (Fr n e ds) w :=
  pi_eo hi (eo_copyF hx hy ht hB hB2 hm h1 hfit hs) (hS _ (set_fram hB _)) (K _ (hB.set _) (set_fram hB _))

end

/-! ### Frames of any set -/

theorem Fram.transD {F : Nat → Prop} {a w w2 : World} {d : Nat} (h : Fram F a w) (k : Fram F { w with drawn := d } w2) : Fram F a w2 := (h.thenDrew (k := d)).trans k
theorem Fram.blkF {F : Nat → Prop} {w w1 : World} {b : Nat} {l : List Value} {t : TypeId} (f : Fram F w w1) (h : Blk w.heap b l t) (hn : ¬ F b) : Blk w1.heap b l t := h.fram f hn
theorem Fram.transG {F G : Nat → Prop} {a w w2 : World} {d : Nat} (h : Fram G a w) (k : Fram F { w with drawn := d } w2) (hs : ∀ k, k < a.heap.size → F k → G k) : Fram G a w2 := (h.thenDrew (k := d)).trans' k hs

end Go.Proofs.Qxb6500568aGreatDoor
