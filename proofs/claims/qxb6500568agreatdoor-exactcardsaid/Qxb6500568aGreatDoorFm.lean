import Derived.Test.Qxb6500568aGreatDoorFn
import Derived.Test.Qxb6500568aGreatDoorFh
import Derived.ArgAppend
/- Library: one element appended to a slice that may begin anywhere in its block. -/
namespace Go.Proofs.Qxb6500568aGreatDoor
set_option linter.unusedVariables false
set_option linter.unusedSimpArgs false

/-- 'v' is a slice of the cells 'xs', one an element; it lies somewhere in its block. -/
def OwO (H : Array Obj) (v : Value) (e : Nat) (xs : List Value) : Prop :=
  (v = .slice none 0 0 ∧ xs = []) ∨ ∃ g off cap l, v = .slice (some ⟨g, off, none⟩) xs.length cap ∧ Blk H g l e ∧ xs.length ≤ cap ∧ cap ≤ 9223372036854775807 ∧ off + cap ≤ l.length ∧ (l.drop off).take xs.length = xs
theorem OwO.nil (H : Array Obj) (e : Nat) : OwO H (.slice none 0 0) e [] := .inl ⟨rfl, rfl⟩
theorem OwO.fram {F : Nat → Prop} {w w' : World} {v : Value} {e : Nat} {xs : List Value} (h : OwO w.heap v e xs) (hf : Fram F w w') (hn : ∀ b, v.ownBlock = some b → ¬ F b) : OwO w'.heap v e xs := by
  rcases h with h | ⟨g, off, cap, l, h1, h2, h3⟩
  · exact .inl h
  · exact .inr ⟨g, off, cap, l, h1, hf.blkF h2 (hn g (by rw [h1]; rfl)), h3⟩
theorem OwO.lt {w : World} {v : Value} {e : Nat} {xs : List Value} (h : OwO w.heap v e xs) {b : Nat} (hb : v.ownBlock = some b) : b < w.heap.size := by
  rcases h with ⟨h1, -⟩ | ⟨g, off, cap, l, h1, h2, h3⟩
  · rw [h1] at hb; cases hb
  · rw [h1] at hb; cases hb; exact h2.lt
theorem OwO.ne {w : World} {v : Value} {e : Nat} {xs : List Value} (h : OwO w.heap v e xs) {b t : Nat} {l : List Value} (hB : Blk w.heap b l t) (ht : e ≠ t) : ∀ g, v.ownBlock = some g → g ≠ b := by
  rintro g hg rfl
  rcases h with ⟨h1, -⟩ | ⟨g', off, cap, l', h1, h2, h3⟩
  · rw [h1] at hg; cases hg
  · rw [h1] at hg; cases hg; exact ht (h2.uniq hB).2
theorem OwO.form {H : Array Obj} {v : Value} {e : Nat} {xs : List Value} (h : OwO H v e xs) : ∃ a cap, v = .slice a xs.length cap := by
  rcases h with ⟨h1, h2⟩ | ⟨g, off, cap, l, h1, _⟩
  · exact ⟨none, 0, by rw [h1, h2]; rfl⟩
  · exact ⟨_, _, h1⟩
theorem OwO.one {H : Array Obj} {v : Value} {e : Nat} {xs : List Value} (h : OwO H v e xs) : v.oneCell' = true := by
  obtain ⟨a, cap, rfl⟩ := h.form
  rfl
theorem OwO.of {w : World} {b : Nat} {v : Value} {e n : Nat} {xs : List Value} (h : w.ownsRow b e 1 v n xs) : OwO w.heap v e xs ∧ ∀ g, v.ownBlock = some g → b ≤ g := by
  have hn : xs.length = n := by have := h.1; omega
  subst hn
  rcases h.2 with ⟨h1, h2⟩ | ⟨g, cap, cur, h1, hb, h2, h3, h4, h5, h6⟩
  · exact ⟨.inl ⟨h1, List.eq_nil_of_length_eq_zero h2⟩, fun g hg => by rw [h1] at hg; cases hg⟩
  · refine ⟨.inr ⟨g, 0, cap, cur.toList, h1, by unfold Blk; simpa using h2, h3, by simp only [maxLen] at h4; omega, by simp; omega, by simpa using h6⟩, fun g' hg => ?_⟩
    rw [h1] at hg; cases hg; exact hb
section
variable {P : Program} {n : Nat} {e : Nat → Option Value} {ds : List Deferred} {w : World} {ops : Array Oper} {Q : Exit → Act → World → Prop} {rest : List Oper} {d d1 d2 : Nat} {ty ty1 ty2 : TypeId} {ps ps1 ps2 : String} {af af1 af2 : Array Edge}
theorem app_one {t et bytes g2 : Nat} {x y : Operand} {v u : Value} {xs : List Value} {t2 : TypeId} (hx : evO n e x = some v) (hy : evO n e y = some (.slice (some ⟨g2, 0, none⟩) 1 1)) (ht : selB P t et 1 = true) (hz : ∃ z, zeroB P et z ∧ z.length = 1)
    (hby : (P.info? et).any (fun i => i.bytes == bytes) = true) (hown : OwO w.heap v et xs) (hB2 : Blk w.heap g2 [u] t2) (h1 : u.oneCell' = true) (hmax : xs.length + 1 ≤ 1000000000000) (hbytes : (xs.length + 1) * bytes ≤ 140737488355328) :
    ∃ v' w', EO P n e w (.call ⟨.builtin .append, #[x, y], #[t, t]⟩) v' w' ∧ OwO w'.heap v' et (xs ++ [u]) ∧ Fram (own1 v) w w' ∧ nob v v' w := by
  rcases hown with ⟨rfl, rfl⟩ | ⟨g, off, cap, l, rfl, hB, h3, h4, h5, h6⟩
  · obtain ⟨v', w', q1, q2, q3, q4⟩ := app_own' (P := P) (w := w) (m := 0) (m2 := 1) (xs := []) (news := [u]) hx hy ht hz hby rfl (Own.nil _ _ _) hB2 rfl rfl (fun z hz => by rw [List.mem_singleton.1 hz]; exact h1) (by omega) (by simpa using hbytes)
    refine ⟨v', w', q1, ?_, Fram.grown q3 (fun k hk => .inl hk), fun b hb => ?_⟩
    · exact (OwO.of q2.to).1
    · rcases q4 with q | q
      · rw [q] at hb; exact .inl hb
      · rw [q] at hb; cases hb; exact .inr (Nat.le_refl _)
  · obtain ⟨t1, ts⟩ := selB_spec ht
    obtain ⟨z, ⟨i, zv, z1, z2, z3⟩, zl⟩ := hz
    unfold sizeB at ts
    rw [z1] at ts hby
    simp at ts hby
    have hnews : ∀ j u', [u][j]? = some u' → w.cell? ((⟨g2, 0, none⟩ : Addr).add j) = some u' := by
      intro j u' hu
      rw [addr_add, hB2.cell, Nat.zero_add]
      exact hu
    by_cases hroom : xs.length + 1 ≤ cap
    · have hrun := fun ty => run_append_room_cells (P := P) w t ty et i t1 z1 g off xs.length cap ⟨g2, 0, none⟩ 1 1 [u] (by simp [ts]) hnews (fun z hz => by rw [List.mem_singleton.1 hz]; exact h1) hroom
        (fun j hj => by rw [hB.cell, ts]; simp at hj ⊢; omega) (fun j hj => hB.frozen _)
      have hsc : w.setCells g (off + xs.length * i.size) [u] = w.setRow g (l.set (off + xs.length) u).toArray := by
        rw [ts, Nat.mul_one]
        show w.setCell ⟨g, off + xs.length, none⟩ u = _
        exact setCell_eq_setRow hB u
      refine ⟨.slice (some ⟨g, off, none⟩) (xs.length + 1) cap, w.setRow g (l.set (off + xs.length) u).toArray, run_app hx hy (fun ty => by rw [← hsc]; exact hrun ty), .inr ⟨g, off, cap, l.set (off + xs.length) u, by simp, hB.set _, by simpa using hroom, h4, by rw [List.length_set]; exact h5, ?_⟩, (set_fram hB _).mono (fun k _ hk => by have : k = g := hk; subst this; rfl), fun b hb => .inl hb⟩
      have hlt : off + xs.length < l.length := by omega
      rw [List.set_eq_take_append_cons_drop, if_pos hlt, List.drop_append_of_le_length (by rw [List.length_take]; omega), List.drop_take, show off + xs.length - off = xs.length by omega, h6]
      rw [show xs ++ u :: l.drop (off + xs.length + 1) = (xs ++ [u]) ++ l.drop (off + xs.length + 1) by simp]
      exact List.take_left
    · obtain ⟨v', w', q1, q2, q3⟩ := run_append_arg_grows (P := P) w t 0 et i zv 1 bytes t1 z1 z2 ts hby (by rw [z3]; simpa using zl) (by omega) ⟨g, off, none⟩ xs.length cap xs (by omega) (fun j u' hu => by
        rw [addr_add, hB.cell]
        rw [← h6, List.getElem?_take] at hu
        split at hu
        · rwa [List.getElem?_drop] at hu
        · cases hu) ⟨g2, 0, none⟩ 1 1 [u] rfl hnews (by omega) (by simp only [maxLen]; omega) hbytes
      obtain ⟨q4, q5⟩ := OwO.of q2
      refine ⟨v', w', run_app hx hy (fun ty => q1), q4, Fram.grown q3 (fun k hk => by cases hk), fun b hb => .inr (q5 b hb)⟩
theorem wl_app1 {t et bytes : Nat} {x y z : Operand} {v u : Value} {xs : List Value}
    (hx : evO n e x = some u) (hu : u.cells = #[u]) (hy : evO n (upd e d1 (.slice (some ⟨w.heap.size, 0, none⟩) 1 1)) y = some v) (hz' : evO n (upd e d1 (.slice (some ⟨w.heap.size, 0, none⟩) 1 1)) z = some (.slice (some ⟨w.heap.size, 0, none⟩) 1 1))
    (ht : selB P t et 1 = true) (hz : ∃ z, zeroB P et z ∧ z.length = 1) (hby : (P.info? et).any (fun i => i.bytes == bytes) = true) (h1 : u.oneCell' = true)
    (hown : OwO w.heap v et xs) (hmax : xs.length + 1 ≤ 1000000000000) (hbytes : (xs.length + 1) * bytes ≤ 140737488355328)
    (K : ∀ v' w1, OwO w1.heap v' et (xs ++ [u]) → Fram (own1 v) w w1 → nob v v' w → WL P ops Q rest (Fr n (upd (upd e d1 (.slice (some ⟨w.heap.size, 0, none⟩) 1 1)) d2 v') ds) w1) :
    WL P ops Q (⟨some d1, .buildSlice t 1 #[(0, x)], ty1, ps1, af1, none⟩ :: ⟨some d2, .call ⟨.builtin .append, #[y, z], #[t, t]⟩, ty2, ps2, af2, none⟩ :: rest) (Fr n e ds) w := by
  refine wle (eo_bs1 (cs := [u]) hx hu ht hz rfl rfl rfl) ?_
  obtain ⟨v', w', q1, q2, q3, q4⟩ := app_one (P := P) (w := w.alloc (.cells [u].toArray et)) (n := n) (e := upd e d1 (.slice (some ⟨w.heap.size, 0, none⟩) 1 1)) hy hz' ht hz hby (hown.fram (Fram.alloc none' w _) (fun _ _ h => h)) (Blk.new w [u] et) h1 hmax hbytes
  exact wle q1 (K v' w' q2 ((Fram.alloc (own1 v) w _).trans q3) (q4.after (Fram.alloc none' w _)))
end
end Go.Proofs.Qxb6500568aGreatDoor
