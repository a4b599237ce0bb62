import Derived.Test.Qxb6500568aGreatDoorFa
/- Rules by continuation: a store, a new block: the new world is told by what it holds. -/
namespace Go.Proofs.Qxb6500568aGreatDoor
set_option linter.unusedVariables false

/-- The one block. -/
def one (b : Nat) : Nat → Prop := fun c => c = b

theorem Blk.framO {w w1 : World} {b c : Nat} {l : List Value} {t : TypeId} (h : Blk w.heap c l t) (F : Fram (one b) w w1) (hn : c ≠ b) : Blk w1.heap c l t := h.fram F (fun h => hn h)
theorem Blk.framN {w w1 : World} {c : Nat} {l : List Value} {t : TypeId} (h : Blk w.heap c l t) (F : Fram none' w w1) : Blk w1.heap c l t := h.fram F (fun h => h)
theorem Fram.thenO {G : Nat → Prop} {a w w1 : World} {b : Nat} (h : Fram G a w) (F : Fram (one b) w w1) (hb : G b ∨ a.heap.size ≤ b) : Fram G a w1 :=
  h.trans' F (fun k hk he => by cases he; rcases hb with hb | hb; exact hb; omega)
theorem Fram.thenN {G : Nat → Prop} {a w w1 : World} (h : Fram G a w) (F : Fram none' w w1) : Fram G a w1 := h.trans' F (fun k _ he => he.elim)

theorem Fram.blkO {w w1 : World} {b c : Nat} {l : List Value} {t : TypeId} (F : Fram (one b) w w1) (h : Blk w.heap c l t) (hn : c ≠ b) : Blk w1.heap c l t := h.framO F hn
theorem Fram.blkN {w w1 : World} {c : Nat} {l : List Value} {t : TypeId} (F : Fram none' w w1) (h : Blk w.heap c l t) : Blk w1.heap c l t := h.framN F

section
variable {P : Program} {n : Nat} {e : Nat → Option Value} {w : World} {ds : List Deferred} {ops : Array Oper} {Q : Exit → Act → World → Prop} {rest : List Oper} {ty : TypeId} {ps : String} {af : Array Edge} {d : Nat} {S : World → Prop} {last : Nat}

theorem set_fram {b : Nat} {l : List Value} {t : TypeId} (h : Blk w.heap b l t) (l' : List Value) : Fram (one b) w (w.setRow b l'.toArray) := Fram.set w b l'.toArray (.inl rfl)

theorem wl_put {t t' : TypeId} {x y : Operand} {b i : Nat} {l l' : List Value} {v : Value} (hx : evO n e x = some (.pointer (some ⟨b, i, none⟩))) (hy : evO n e y = some v) (h1 : v.oneCell' = true) (ht : sizeB P t 1 = true)
    (hB : Blk w.heap b l t') (hi : i < l.length) (hl : l.set i v = l') (k : ∀ w1, Blk w1.heap b l' t' → Fram (one b) w w1 → WL P ops Q rest (Fr n e ds) w1) :
    WL P ops Q (⟨none, .store t x y, ty, ps, af, none⟩ :: rest) (Fr n e ds) w := by
  subst hl
  exact wls (so_storeB hx hy h1 ht hB hi) (k _ (hB.set _) (set_fram hB _))

theorem wl_puta {t t' : TypeId} {x y : Operand} {b i m : Nat} {l l' cs : List Value} (hx : evO n e x = some (.pointer (some ⟨b, i, none⟩))) (hy : evO n e y = some (.agg cs.toArray)) (h1 : ∀ u ∈ cs, u.oneCell' = true) (ht : sizeB P t m = true) (hm : cs.length = m)
    (hB : Blk w.heap b l t') (hi : i + m ≤ l.length) (hl : l.take i ++ cs ++ l.drop (i + m) = l') (k : ∀ w1, Blk w1.heap b l' t' → Fram (one b) w w1 → WL P ops Q rest (Fr n e ds) w1) :
    WL P ops Q (⟨none, .store t x y, ty, ps, af, none⟩ :: rest) (Fr n e ds) w := by
  subst hl
  exact wls (so_storeAggB hx hy h1 ht hm hB hi) (k _ (hB.set _) (set_fram hB _))

theorem ql_put {t t' : TypeId} {x y : Operand} {b i : Nat} {l l' : List Value} {v : Value} (ho : ops[last]? = some ⟨none, .store t x y, ty, ps, af, none⟩) (hx : evO n e x = some (.pointer (some ⟨b, i, none⟩))) (hy : evO n e y = some v) (h1 : v.oneCell' = true) (ht : sizeB P t 1 = true)
    (hB : Blk w.heap b l t') (hi : i < l.length) (hl : l.set i v = l') (k : ∀ w1, Blk w1.heap b l' t' → Fram (one b) w w1 → Q .normal (Fr n e ds) w1) : WQ P ops Q S last [] (Fr n e ds) w := by
  subst hl
  exact ql_last ho (so_storeB hx hy h1 ht hB hi) (k _ (hB.set _) (set_fram hB _))

theorem ql_puta {t t' : TypeId} {x y : Operand} {b i m : Nat} {l l' cs : List Value} (ho : ops[last]? = some ⟨none, .store t x y, ty, ps, af, none⟩) (hx : evO n e x = some (.pointer (some ⟨b, i, none⟩))) (hy : evO n e y = some (.agg cs.toArray)) (h1 : ∀ u ∈ cs, u.oneCell' = true) (ht : sizeB P t m = true) (hm : cs.length = m)
    (hB : Blk w.heap b l t') (hi : i + m ≤ l.length) (hl : l.take i ++ cs ++ l.drop (i + m) = l') (k : ∀ w1, Blk w1.heap b l' t' → Fram (one b) w w1 → Q .normal (Fr n e ds) w1) : WQ P ops Q S last [] (Fr n e ds) w := by
  subst hl
  exact ql_last ho (so_storeAggB hx hy h1 ht hm hB hi) (k _ (hB.set _) (set_fram hB _))

theorem wl_new {t : TypeId} {z : List Value} (hz : zeroB P t z) (k : ∀ b w1, w.heap.size ≤ b → Blk w1.heap b z t → Fram none' w w1 → WL P ops Q rest (Fr n (upd e d (ptr b)) ds) w1) :
    WL P ops Q (⟨some d, .alloc t, ty, ps, af, none⟩ :: rest) (Fr n e ds) w :=
  wle (eo_alloc hz) (k w.heap.size _ (Nat.le_refl _) (Blk.new w z t) (Fram.alloc none' w _))

theorem wl_box {t : TypeId} {x : Operand} {v : Value} {cs : List Value} (hx : evO n e x = some v) (hv : v.cells = cs.toArray) (k : ∀ b w1, w.heap.size ≤ b → Blk w1.heap b cs t → Fram none' w w1 → WL P ops Q rest (Fr n (upd e d (ptr b)) ds) w1) :
    WL P ops Q (⟨some d, .box t x, ty, ps, af, none⟩ :: rest) (Fr n e ds) w :=
  wle (eo_box hx hv) (k w.heap.size _ (Nat.le_refl _) (Blk.new w cs t) (Fram.alloc none' w _))

end
end Go.Proofs.Qxb6500568aGreatDoor
