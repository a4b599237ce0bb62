import Derived.Test.Qxb6500568aGreatDoorFp
import Derived.Lib.AppendZeros
namespace Go.Proofs.Qxb6500568aGreatDoor
set_option linter.unusedVariables false
set_option linter.unusedSimpArgs false
section
variable {P : Program} {n : Nat} {e : Nat → Option Value} {w : World}

theorem zeroCells_one (z : Value) (k : Nat) : (Builtin.zeroCells #[z] k).toList = List.replicate k z := by
  unfold Builtin.zeroCells
  apply List.ext_getElem
  · simp
  · intro i h1 h2
    simp [Nat.mod_one]

/-- Zeros behind a slice that has room for them. -/
theorem eo_appZ {t et ti g m cap k : Nat} {x y : Operand} {l : List Value} {z : Value} (hx : evO n e x = some (.slice (some ⟨g, 0, none⟩) m cap)) (hy : evO n e y = some (.int .i64 (k : Int))) (ht : selB P t et 1 = true) (hti : intB P ti .i64 = true) (hz : zeroB P et [z])
    (hby : (P.info? et).any (fun i => Nat.ble i.bytes 1000) = true) (hk : k ≤ 1000) (hB : Blk w.heap g l et) (h1 : z.oneCell' = true) (hroom : m + k ≤ cap) (hfit : m + k ≤ l.length) :
    EO P n e w (.call ⟨.builtin .append, #[x, y], #[t, ti]⟩) (.slice (some ⟨g, 0, none⟩) (m + k) cap) (w.setRow g (l.take m ++ List.replicate k z ++ l.drop (m + k)).toArray) := by
  intro ds dst ty ps af gg
  obtain ⟨t1, ts⟩ := selB_spec ht
  obtain ⟨i, zv, z1, z2, z3⟩ := hz
  have hs := ts
  unfold sizeB at ts
  rw [z1] at ts hby
  simp at ts hby
  have hwrap : IntKind.i64.wrap (k : Int) = (k : Int) := Go.IntWalk.i64_in _ (by omega)
  have hb : ¬ (281474976710656 < (k : Int) * (i.bytes : Int)) := by
    have h2 : k * i.bytes ≤ 1000 * 1000 := Nat.mul_le_mul hk hby
    have h3 : ((k * i.bytes : Nat) : Int) ≤ ((1000 * 1000 : Nat) : Int) := Int.ofNat_le.2 h2
    rw [Int.natCast_mul] at h3
    omega
  have hst : ∀ (vs : List Value), vs.length = k → (∀ v ∈ vs, v.oneCell' = true) → (storeCells ⟨g, m, none⟩ vs 0).run P w = .ok () (w.setRow g (l.take m ++ vs ++ l.drop (m + k)).toArray) := by
    intro vs hv hone
    have := run_storeCells_at (P := P) g m et vs 0 l.toArray w hB (by simpa [hv] using hfit) hone
    simpa [hv] using this
  have hzc := zeroCells_one z k
  by_cases hk0 : k = 0
  · subst hk0
    have := hst [] rfl (by simp)
    have hw0 : IntKind.i64.wrap 0 = 0 := rfl
    simp [execOp, resolve, evO_eval hx, evO_eval hy, invoke, builtin, Builtin.append_, run_underlying t1, run_underlying (intB_spec hti), run_sizeOf hs, asInt, asIntOf, hw0, typeInfo, z1, hroom, addr_add]
    simp at this hroom
    simp [this, hroom]
  · have := hst (List.replicate k z) (by simp) (by intro v hv; rw [List.eq_of_mem_replicate hv]; exact h1)
    simp [execOp, resolve, evO_eval hx, evO_eval hy, invoke, builtin, Builtin.append_, run_underlying t1, run_underlying (intB_spec hti), run_sizeOf hs, asInt, asIntOf, hwrap, typeInfo, z1, z2, z3, zeroValue, hb, hk0, show ¬ ((k : Int) < 0) by omega, show ¬ ((k : Int) ≤ 0) by omega, hroom, hzc, addr_add, this]

end
end Go.Proofs.Qxb6500568aGreatDoor
