import Derived.Test.Qxb6500568aGreatDoorFe
import Derived.Laws.BytesString
/- Library: bytes to a text; cells in rows. -/
namespace Go.Proofs.Qxb6500568aGreatDoor
set_option linter.unusedVariables false
set_option linter.unusedSimpArgs false
section
variable {P : Program} {n : Nat} {e : Nat → Option Value} {w : World}

theorem fold_bytes : ∀ (o : List UInt8) (r : ByteArray), (o.map (fun b : UInt8 => (b.toNat : Int))).foldl (fun r n => r.push (UInt8.ofNat n.toNat)) r = ⟨r.data ++ o.toArray⟩
  | [], r => by simp
  | b :: o, r => by
    rw [List.map_cons, List.foldl_cons, fold_bytes o]
    simp [ByteArray.push]

theorem ro_toS {src dst b N c : Nat} {x : Operand} {o : List UInt8} {l : List Value} {t : TypeId} (hx : evO n e x = some (.slice (some ⟨b, 0, none⟩) N c)) (hs : selB P src 5 1 = true) (he : P.underlying 5 = some (.int .u8)) (hd : strB P dst = true) (hB : Blk w.heap b l t) (ho : o.length = N) (hl : ∀ (k : Nat) (y : UInt8), o[k]? = some y → l[k]? = some (u8c y)) : RO P n e w (.convert src dst x) (S o) := by
  intro ds dst' ty ps af g
  have hd' := strB_spec hd
  obtain ⟨t1, t2⟩ := selB_spec hs
  subst ho
  have hsrc : ∀ j v, ((o.map (fun y : UInt8 => (y.toNat : Int))).map (Value.int .u8))[j]? = some v → w.cell? ((⟨b, 0, none⟩ : Addr).add j) = some v := by
    intro j v hv
    rw [addr_add, hB.cell, Nat.zero_add]
    rw [List.map_map, List.getElem?_map] at hv
    cases hj : o[j]? with
    | none => rw [hj] at hv; cases hv
    | some y =>
      rw [hj] at hv
      cases hv
      exact hl j y hj
  have hld := run_loadCells_list (P := P) w ⟨b, 0, none⟩ _ hsrc
  rw [List.length_map, List.length_map] at hld
  have h1 := run_bytesToString (P := P) w ⟨b, 0, none⟩ o.length c (o.map (fun y : UInt8 => (y.toNat : Int))) hld
  have h2 := run_convert_bytes_string (P := P) w src dst 5 (some ⟨b, 0, none⟩) o.length c t1 he hd'
  rw [fold_bytes] at h1
  simp [execOp, evO_eval hx, h2, h1, S]
end

section
variable {P : Program} {n : Nat} {e : Nat → Option Value} {w : World} {ds : List Deferred} {ops : Array Oper} {Q : Exit → Act → World → Prop} {rest : List Oper} {ty : TypeId} {ps : String} {af : Array Edge} {d : Nat}
theorem eo_makeB {t et k len cap : Nat} {x y : Operand} {q q' : IntKind} {z : List Value} (hx : evO n e x = some (.int q (len : Int))) (hy : evO n e y = some (.int q' (cap : Int))) (ht : selB P t et k = true) (hz : zeroB P et z) (hlc : len ≤ cap) (hc : cap ≤ 100000000) (hk : Nat.ble k 16 = true) (hby : (P.info? et).any (fun i => Nat.ble i.bytes 1000) = true) :
    EO P n e w (.makeSlice t x y) (.slice (some ⟨w.heap.size, 0, none⟩) len cap) (w.alloc (.cells (madeCells z.toArray (cap * k)) et)) := by
  intro ds dst ty ps af g
  obtain ⟨t1, ts⟩ := selB_spec ht
  obtain ⟨i, zv, z1, z2, z3⟩ := hz
  unfold sizeB at ts
  rw [z1] at ts hby
  simp at ts hby
  subst ts
  have hk' := Nat.le_of_ble_eq_true hk
  have hmul : i.bytes * cap ≤ 1000 * 100000000 := Nat.mul_le_mul hby hc
  have hmul2 : cap * i.size ≤ 100000000 * 16 := Nat.mul_le_mul hc hk'
  have h2 : ((i.bytes * cap : Nat) : Int) ≤ ((1000 * 100000000 : Nat) : Int) := Int.ofNat_le.2 hmul
  rw [Int.natCast_mul] at h2
  have := run_make (P := P) w t et i zv t1 z1 z2 q q' (len : Int) (cap : Int) (by omega) (by omega) (by omega) (by omega)
  rw [Int.toNat_natCast, Int.toNat_natCast] at this
  simp [execOp, evO_eval hx, evO_eval hy, this, z3]
theorem wl_makeB {t et k len cap : Nat} {x y : Operand} {q q' : IntKind} {z : List Value} (hx : evO n e x = some (.int q (len : Int))) (hy : evO n e y = some (.int q' (cap : Int))) (ht : selB P t et k = true) (hz : zeroB P et z) (hz0 : z ≠ []) (hlc : len ≤ cap) (hc : cap ≤ 100000000) (hk : Nat.ble k 16 = true) (hby : (P.info? et).any (fun i => Nat.ble i.bytes 1000) = true)
    (K : ∀ b w1, w.heap.size ≤ b → FB w1.heap b (cap * k) (zc z) et → Fram none' w w1 → WL P ops Q rest (Fr n (upd e d (.slice (some ⟨b, 0, none⟩) len cap)) ds) w1) :
    WL P ops Q (⟨some d, .makeSlice t x y, ty, ps, af, none⟩ :: rest) (Fr n e ds) w := by
  refine wle (eo_makeB hx hy ht hz hlc hc hk hby) ?_
  rw [made_cel hz0]
  exact K w.heap.size _ (Nat.le_refl _) (Blk.new w _ et) (Fram.alloc none' w _)
end

theorem cel_add (a b : Nat) (f : Nat → Value) : cel (a + b) f = cel a f ++ cel b (fun j => f (a + j)) := by
  apply List.ext_getElem?
  intro i
  by_cases h : i < a
  · rw [List.getElem?_append_left (by rw [cel_len]; exact h), cel_get h, cel_get (by omega)]
  · rw [List.getElem?_append_right (by rw [cel_len]; omega), cel_len]
    by_cases h2 : i < a + b
    · rw [cel_get h2, cel_get (by omega), show a + (i - a) = i by omega]
    · rw [List.getElem?_eq_none (by rw [cel_len]; omega), List.getElem?_eq_none (by rw [cel_len]; omega)]

end Go.Proofs.Qxb6500568aGreatDoor
