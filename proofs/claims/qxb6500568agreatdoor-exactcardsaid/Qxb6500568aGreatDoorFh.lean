import Derived.Test.Qxb6500568aGreatDoorFg
/- Library: one element appended. -/
namespace Go.Proofs.Qxb6500568aGreatDoor
set_option linter.unusedVariables false

/-- The block of the slice is the old one, or new. -/
def nob (VN VN' : Value) (w : World) : Prop := ∀ b, VN'.ownBlock = some b → VN.ownBlock = some b ∨ w.heap.size ≤ b

theorem nob.refl (VN : Value) (w : World) : nob VN VN w := fun b h => .inl h
theorem nob.trans {V1 V2 V3 : Value} {w1 w2 : World} {F : Nat → Prop} (h : nob V1 V2 w1) (h' : nob V2 V3 w2) (hf : Fram F w1 w2) : nob V1 V3 w1 := by
  intro b hb
  rcases h' b hb with h'' | h''
  · exact h b h''
  · have := hf.size; exact .inr (by omega)
theorem nob.after {V1 V2 : Value} {w1 w2 : World} {F : Nat → Prop} (h : nob V1 V2 w2) (hf : Fram F w1 w2) : nob V1 V2 w1 := by
  intro b hb
  rcases h b hb with h'' | h''
  · exact .inl h''
  · have := hf.size; exact .inr (by omega)
theorem Own.neblk {H : Array Obj} {v : Value} {e k n b t : Nat} {xs l : List Value} (h : Own H v e k n xs) (hb : Blk H b l t) (ht : e ≠ t) : ∀ g, v.ownBlock = some g → g ≠ b := by
  rintro g hg rfl
  rcases h.2 with ⟨h1, -⟩ | ⟨g', cap, l', h1, h2, -⟩
  · rw [h1] at hg; cases hg
  · rw [h1] at hg; cases hg; exact ht (h2.uniq hb).2

/-- The block that a slice owns. -/
def own1 (v : Value) : Nat → Prop := fun b => v.ownBlock = some b

section
variable {P : Program} {n : Nat} {e : Nat → Option Value} {w w1 : World} {ops : Array Oper} {ds : List Deferred} {Q : Exit → Act → World → Prop} {S : World → Prop} {last i j d1 d2 : Nat} {r : List (Nat × Bool)} {rest : List Oper} {ty1 ty2 : TypeId} {ps1 ps2 : String} {af1 af2 : Array Edge}

theorem app_gr {w w' : World} {cs : List Value} {et : Nat} {v v' : Value} {k m : Nat} {xs : List Value} (hown : Own w.heap v et k m xs) (hg : (w.alloc (.cells cs.toArray et)).grownBy w' v.ownBlock) (hl : v'.ownBlock = v.ownBlock ∨ v'.ownBlock = some (w.alloc (.cells cs.toArray et)).heap.size) : Fram (own1 v) w w' ∧ nob v v' w := by
  refine ⟨(Fram.alloc (own1 v) w _).trans (Fram.grown hg (fun k hk => .inl hk)), ?_⟩
  intro b hb
  rcases hl with h | h
  · rw [h] at hb; exact .inl hb
  · rw [h] at hb; cases hb; exact .inr (Fram.alloc none' w _).size

theorem ql_bsapp {t et k bytes m : Nat} {x y z : Operand} {u v : Value} {cs xs : List Value} (hi : ops[i]? = some ⟨some d1, .buildSlice t 1 #[(0, x)], ty1, ps1, af1, none⟩) (hj : ops[j]? = some ⟨some d2, .call ⟨.builtin .append, #[y, z], #[t, t]⟩, ty2, ps2, af2, none⟩)
    (hx : evO n e x = some u) (hu : u.cells = cs.toArray) (hy : evO n (upd e d1 (.slice (some ⟨w.heap.size, 0, none⟩) 1 1)) y = some v) (hz' : evO n (upd e d1 (.slice (some ⟨w.heap.size, 0, none⟩) 1 1)) z = some (.slice (some ⟨w.heap.size, 0, none⟩) 1 1))
    (ht : selB P t et k = true) (hz : ∃ z, zeroB P et z ∧ z.length = k) (hby : (P.info? et).any (fun i => i.bytes == bytes) = true) (hk : Nat.ble 1 k = true) (h24 : Nat.ble k 1000 = true) (hl : cs.length = k) (h1 : ∀ u ∈ cs, u.oneCell' = true)
    (hown : Own w.heap v et k m xs) (hmax : m + 1 ≤ 9223372036854775807) (hbytes : (m + 1) * bytes ≤ 140737488355328) (hS1 : ∀ w1, Fram none' w w1 → S w1) (hS2 : ∀ w1, Fram (own1 v) w w1 → S w1)
    (K : ∀ v' w1, Own w1.heap v' et k (m + 1) (xs ++ cs) → Fram (own1 v) w w1 → nob v v' w → WQ P ops Q S last r (Fr n (upd (upd e d1 (.slice (some ⟨w.heap.size, 0, none⟩) 1 1)) d2 v') ds) w1) :
    WQ P ops Q S last ((i, true) :: (j, true) :: r) (Fr n e ds) w := by
  refine ql_eo hi (eo_bs1 hx hu ht hz hl hk h24) (hS1 _ (Fram.alloc _ _ _)) ?_
  refine ql_app (news := cs) hj hy hz' ht hz hby hk (hown.alloc _) (Blk.new w cs et) (by rw [List.drop_zero, List.take_of_length_le (by omega)]) (by omega) h1 hmax hbytes ?_
  intro v' w' hon hg hloc
  obtain ⟨f1, f2⟩ := app_gr hown hg hloc
  exact ⟨hS2 _ f1, K v' w' hon f1 f2⟩

theorem pi_bsapp {t et k bytes m : Nat} {x y z : Operand} {u v : Value} {cs xs : List Value} (hi : ops[i]? = some ⟨some d1, .buildSlice t 1 #[(0, x)], ty1, ps1, af1, none⟩) (hj : ops[j]? = some ⟨some d2, .call ⟨.builtin .append, #[y, z], #[t, t]⟩, ty2, ps2, af2, none⟩)
    (hx : evO n e x = some u) (hu : u.cells = cs.toArray) (hy : evO n (upd e d1 (.slice (some ⟨w.heap.size, 0, none⟩) 1 1)) y = some v) (hz' : evO n (upd e d1 (.slice (some ⟨w.heap.size, 0, none⟩) 1 1)) z = some (.slice (some ⟨w.heap.size, 0, none⟩) 1 1))
    (ht : selB P t et k = true) (hz : ∃ z, zeroB P et z ∧ z.length = k) (hby : (P.info? et).any (fun i => i.bytes == bytes) = true) (hk : Nat.ble 1 k = true) (h24 : Nat.ble k 1000 = true) (hl : cs.length = k) (h1 : ∀ u ∈ cs, u.oneCell' = true)
    (hown : Own w.heap v et k m xs) (hmax : m + 1 ≤ 9223372036854775807) (hbytes : (m + 1) * bytes ≤ 140737488355328) (hS1 : ∀ w1, Fram none' w w1 → S w1) (hS2 : ∀ w1, Fram (own1 v) w w1 → S w1)
    (K : ∀ v' w1, Own w1.heap v' et k (m + 1) (xs ++ cs) → Fram (own1 v) w w1 → nob v v' w → WP P ops Q S r (Fr n (upd (upd e d1 (.slice (some ⟨w.heap.size, 0, none⟩) 1 1)) d2 v') ds) w1) :
    WP P ops Q S ((i, true) :: (j, true) :: r) (Fr n e ds) w := by
  refine pi_eo hi (eo_bs1 hx hu ht hz hl hk h24) (hS1 _ (Fram.alloc _ _ _)) ?_
  refine pi_app (news := cs) hj hy hz' ht hz hby hk (hown.alloc _) (Blk.new w cs et) (by rw [List.drop_zero, List.take_of_length_le (by omega)]) (by omega) h1 hmax hbytes ?_
  intro v' w' hon hg hloc
  obtain ⟨f1, f2⟩ := app_gr hown hg hloc
  exact ⟨hS2 _ f1, K v' w' hon f1 f2⟩

theorem wl_bsapp {t et k bytes m : Nat} {x y z : Operand} {u v : Value} {cs xs : List Value}
    (hx : evO n e x = some u) (hu : u.cells = cs.toArray) (hy : evO n (upd e d1 (.slice (some ⟨w.heap.size, 0, none⟩) 1 1)) y = some v) (hz' : evO n (upd e d1 (.slice (some ⟨w.heap.size, 0, none⟩) 1 1)) z = some (.slice (some ⟨w.heap.size, 0, none⟩) 1 1))
    (ht : selB P t et k = true) (hz : ∃ z, zeroB P et z ∧ z.length = k) (hby : (P.info? et).any (fun i => i.bytes == bytes) = true) (hk : Nat.ble 1 k = true) (h24 : Nat.ble k 1000 = true) (hl : cs.length = k) (h1 : ∀ u ∈ cs, u.oneCell' = true)
    (hown : Own w.heap v et k m xs) (hmax : m + 1 ≤ 9223372036854775807) (hbytes : (m + 1) * bytes ≤ 140737488355328)
    (K : ∀ v' w1, Own w1.heap v' et k (m + 1) (xs ++ cs) → Fram (own1 v) w w1 → nob v v' w → WL P ops Q rest (Fr n (upd (upd e d1 (.slice (some ⟨w.heap.size, 0, none⟩) 1 1)) d2 v') ds) w1) :
    WL P ops Q (⟨some d1, .buildSlice t 1 #[(0, x)], ty1, ps1, af1, none⟩ :: ⟨some d2, .call ⟨.builtin .append, #[y, z], #[t, t]⟩, ty2, ps2, af2, none⟩ :: rest) (Fr n e ds) w := by
  refine wle (eo_bs1 hx hu ht hz hl hk h24) ?_
  refine wl_app (news := cs) hy hz' ht hz hby hk (hown.alloc _) (Blk.new w cs et) (by rw [List.drop_zero, List.take_of_length_le (by omega)]) (by omega) h1 hmax hbytes ?_
  intro v' w' hon hg hloc
  obtain ⟨f1, f2⟩ := app_gr hown hg hloc
  exact K v' w' hon f1 f2

end
end Go.Proofs.Qxb6500568aGreatDoor
