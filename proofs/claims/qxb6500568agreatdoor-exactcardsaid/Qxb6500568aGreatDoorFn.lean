import Derived.Test.Qxb6500568aGreatDoorFu
/- Library: a string copied into a slice of bytes. -/
namespace Go.Proofs.Qxb6500568aGreatDoor
set_option linter.unusedVariables false
set_option linter.unusedSimpArgs false
section
variable {P : Program} {n : Nat} {e : Nat → Option Value} {w : World} {ds : List Deferred} {ops : Array Oper} {Q : Exit → Act → World → Prop} {rest : List Oper} {ty : TypeId} {ps : String} {af : Array Edge} {d : Nat}
theorem eo_copyS {t t' g od dLen dCap : Nat} {x y : Operand} {s : List UInt8} {l : List Value} {t1 : TypeId} (hx : evO n e x = some (.slice (some ⟨g, od, none⟩) dLen dCap)) (hy : evO n e y = some (S s)) (ht : selB P t 5 1 = true)
    (hB : Blk w.heap g l t1) (hle : s.length ≤ dLen) (hfit : od + s.length ≤ l.length) :
    EO P n e w (.call ⟨.builtin .copy, #[x, y], #[t, t']⟩) (i64c s.length) (w.setRow g (l.take od ++ s.map u8c ++ l.drop (od + s.length)).toArray) := by
  obtain ⟨u1, us⟩ := selB_spec ht
  refine run_cpy hx hy ?_
  intro ty
  unfold sizeB at us
  cases hi : P.info? 5 with
  | none => rw [hi] at us; simp at us
  | some i =>
    rw [hi] at us
    simp at us
    have hst := run_storeCells_at P g od t1 (s.map u8c) 0 l.toArray w hB (by simpa using hfit) (fun v hv => by obtain ⟨y, _, rfl⟩ := List.mem_map.1 hv; rfl)
    simp only [List.length_map, Nat.add_zero] at hst
    have hm : min s.length dLen = s.length := Nat.min_eq_left hle
    have htk : List.take s.length (List.map (fun b : UInt8 => Value.int IntKind.u8 (b.toNat : Int)) s) = s.map u8c := by
      rw [List.take_of_length_le (by simp)]
      rfl
    simp [Builtin.copy_, S, run_underlying u1, Builtin.lenOf, Builtin.firstCells, sizeOf, typeInfo, hi, us, hm, htk, hst, goInt, i64c, ByteArray.size]
theorem wl_copyS {t t' g od dLen dCap : Nat} {x y : Operand} {s : List UInt8} {l l' : List Value} {t1 : TypeId} (hx : evO n e x = some (.slice (some ⟨g, od, none⟩) dLen dCap)) (hy : evO n e y = some (S s)) (ht : selB P t 5 1 = true)
    (hB : Blk w.heap g l t1) (hle : s.length ≤ dLen) (hfit : od + s.length ≤ l.length) (hl : l.take od ++ s.map u8c ++ l.drop (od + s.length) = l')
    (K : ∀ w1, Blk w1.heap g l' t1 → Fram (one g) w w1 → WL P ops Q rest (Fr n (upd e d (i64c s.length)) ds) w1) :
    WL P ops Q (⟨some d, .call ⟨.builtin .copy, #[x, y], #[t, t']⟩, ty, ps, af, none⟩ :: rest) (Fr n e ds) w := by
  subst hl
  exact wle (eo_copyS hx hy ht hB hle hfit) (K _ (hB.set _) (set_fram hB _))
end
end Go.Proofs.Qxb6500568aGreatDoor
