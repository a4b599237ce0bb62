import Derived.Test.Qxb6500568aGreatDoorFc
/- New rows of cells. -/
namespace Go.Proofs.Qxb6500568aGreatDoor
set_option linter.unusedVariables false

/-- What a new row holds. -/
def zc (z : List Value) : Nat → Value := fun j => z.getD (j % z.length) undef

theorem made_cel {z : List Value} (hz : z ≠ []) (m : Nat) : madeCells z.toArray m = (cel m (zc z)).toArray := by
  have hp : 0 < z.length := List.length_pos_iff.2 hz
  unfold madeCells
  apply Array.ext
  · simp
  · intro i h1 h2
    have hlt : i % z.length < z.length := Nat.mod_lt _ hp
    simp [cel, zc, List.getD, hlt]

section
variable {P : Program} {n : Nat} {e : Nat → Option Value} {w : World} {ds : List Deferred} {ops : Array Oper} {Q : Exit → Act → World → Prop} {rest : List Oper} {ty : TypeId} {ps : String} {af : Array Edge} {d : Nat}

theorem wl_make {t et k len cap : Nat} {x y : Operand} {q q' : IntKind} {z : List Value} (hx : evO n e x = some (.int q (len : Int))) (hy : evO n e y = some (.int q' (cap : Int))) (ht : selB P t et k = true) (hz : zeroB P et z) (hz0 : z ≠ []) (hlc : len ≤ cap) (hc : cap ≤ 1000000) (hk : Nat.ble k 16 = true) (hby : (P.info? et).any (fun i => Nat.ble i.bytes 1000) = true)
    (K : ∀ b w1, w.heap.size ≤ b → FB w1.heap b (cap * k) (zc z) et → Fram none' w w1 → WL P ops Q rest (Fr n (upd e d (.slice (some ⟨b, 0, none⟩) len cap)) ds) w1) :
    WL P ops Q (⟨some d, .makeSlice t x y, ty, ps, af, none⟩ :: rest) (Fr n e ds) w := by
  refine wle (eo_make hx hy ht hz hlc hc hk hby) ?_
  rw [made_cel hz0]
  exact K w.heap.size _ (Nat.le_refl _) (Blk.new w _ et) (Fram.alloc none' w _)

end
end Go.Proofs.Qxb6500568aGreatDoor
