import Derived.Test.Qxb6500568aGreatDoorKh
import Derived.Lib.ConvBytes
/- Bytes of a string. -/
namespace Go.Proofs.Qxb6500568aGreatDoor
open Ieee
set_option linter.unusedVariables false
set_option linter.unusedSimpArgs false
set_option linter.unusedSectionVars false

section
variable {P : Program} {n : Nat} {e : Nat → Option Value} {ds : List Deferred} {w : World} {ops : Array Oper} {Q : Exit → Act → World → Prop} {rest : List Oper} {d : Nat} {ty : TypeId} {ps : String} {af : Array Edge}
theorem bytes_fram (w : World) (t : TypeId) (s : ByteArray) : Fram none' w (Go.Lib.bytesWorld w t s) := by
  refine ⟨?_, ?_, ?_, by rw [Go.Lib.bytesWorld_size]; omega, fun i hi _ => Go.Lib.bytesWorld_at_old w t s i hi⟩ <;>
    simp [Go.Lib.bytesWorld, World.freeze, World.alloc, World.drew, -World.alloc_eq, -World.drew_eq]
theorem bytes_new (w : World) (t : TypeId) (o : Str) : ∃ l, FzB (Go.Lib.bytesWorld w t ⟨o.toArray⟩).heap w.heap.size l t ∧ l.take o.length = o.map u8c := by
  refine ⟨(Go.Lib.bytesCells w t ⟨o.toArray⟩).toList, ⟨_, by rw [Go.Lib.bytesWorld_at_new, Array.toArray_toList]⟩, ?_⟩
  unfold Go.Lib.bytesCells
  rw [Array.toList_append]
  rw [List.take_append_of_le_length (by simp)]
  simp only [ByteArray.data, Array.toList_map]
  rw [List.take_of_length_le (by simp)]
  rfl
theorem wl_toB {src dst et : Nat} {x : Operand} {o : Str} (hx : evO n e x = some (S o)) (hs : strB P src = true) (hd : selB P dst et 1 = true) (he : P.underlying et = some (.int .u8))
    (K : ∀ b w1 l cap, w.heap.size ≤ b → o.length ≤ cap → FzB w1.heap b l et → l.take o.length = o.map u8c → Fram none' w w1 → WL P ops Q rest (Fr n (upd e d (.slice (some ⟨b, 0, none⟩) o.length cap)) ds) w1) :
    WL P ops Q (⟨some d, .convert src dst x, ty, ps, af, none⟩ :: rest) (Fr n e ds) w := by
  have hs' := strB_spec hs
  obtain ⟨t1, t2⟩ := selB_spec hd
  obtain ⟨l, h1, h2⟩ := bytes_new w et o
  have hrun := Go.Lib.run_convert_string_bytes (P := P) w src dst et ⟨o.toArray⟩ hs' t1 he
  refine wle (v := .slice (some ⟨w.heap.size, 0, none⟩) o.length (grownCap w o.length 0 et)) (w1 := Go.Lib.bytesWorld w et ⟨o.toArray⟩) ?_ (K w.heap.size _ l _ (Nat.le_refl _) ?_ h1 h2 (bytes_fram _ _ _))
  · intro ds dst' ty ps af g
    have hsz : (⟨o.toArray⟩ : ByteArray).size = o.length := by simp [ByteArray.size]
    rw [hsz] at hrun
    have hx' : evO n e x = some (.string ⟨o.toArray⟩) := hx
    simp [execOp, evO_eval hx', hrun]
  · exact grownCap_ge _ _ _ _
end
end Go.Proofs.Qxb6500568aGreatDoor
