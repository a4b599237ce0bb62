import Derived.Test.Qxb6500568aGreatDoorGm
/- Append, finely: what lies below stays. -/
namespace Go.Proofs.Qxb6500568aGreatDoor
set_option linter.unusedVariables false
set_option linter.unusedSimpArgs false

section
variable {P : Program} {n : Nat} {e : Nat → Option Value} {ds : List Deferred} {w w1 : World} {ops : Array Oper} {Q : Exit → Act → World → Prop} {rest : List Oper} {d : Nat} {ty : TypeId} {ps : String} {af : Array Edge}
theorem EO.uniq {op : Op} {v v' : Value} {u u' : World} (h : EO P n e w op v u) (h' : EO P n e w op v' u') : v' = v ∧ u' = u := by
  have h1 := h [] none 0 "" #[] none
  have h2 := h' [] none 0 "" #[] none
  rw [h1] at h2
  injection h2 with h2 h3
  injection h2 with h2
  exact ⟨h2.symm, h3.symm⟩
/-- There is no room: into a new block. -/
theorem eo_appG {t et k bytes g o m cap b o2 m2 c2 : Nat} {x y : Operand} {l l2 xs news : List Value} {t1' t2 : TypeId} (hx : evO n e x = some (.slice (some ⟨g, o, none⟩) m cap)) (hy : evO n e y = some (.slice (some ⟨b, o2, none⟩) m2 c2)) (ht : selB P t et k = true) (hz : ∃ z, zeroB P et z ∧ z.length = k)
    (hby : (P.info? et).any (fun i => i.bytes == bytes) = true) (hB : Blk w.heap g l t1') (hxs : (l.drop o).take (m * k) = xs) (hxl : xs.length = m * k) (hB2 : Blk w.heap b l2 t2) (hn : (l2.drop o2).take (m2 * k) = news) (hl : news.length = m2 * k)
    (hg : cap < m + m2) (hmax : m + m2 ≤ 9223372036854775807) (hbytes : (m + m2) * bytes ≤ 140737488355328) :
    ∃ c w', EO P n e w (.call ⟨.builtin .append, #[x, y], #[t, t]⟩) (.slice (some ⟨w.heap.size, 0, none⟩) (m + m2) c) w' ∧ Fram none' w w' := by
  obtain ⟨t1, ts⟩ := selB_spec ht
  obtain ⟨z, ⟨i, zv, z1, z2, z3⟩, zl⟩ := hz
  unfold sizeB at ts
  rw [z1] at ts hby
  simp at ts hby
  have hnews : ∀ j u, news[j]? = some u → w.cell? ((⟨b, o2, none⟩ : Addr).add j) = some u := by
    intro j u hu
    rw [addr_add, hB2.cell]
    rw [← hn, List.getElem?_take] at hu
    split at hu
    · rwa [List.getElem?_drop] at hu
    · cases hu
  have holds : ∀ j u, xs[j]? = some u → w.cell? ((⟨g, o, none⟩ : Addr).add j) = some u := by
    intro j u hu
    rw [addr_add, hB.cell]
    rw [← hxs, List.getElem?_take] at hu
    split at hu
    · rwa [List.getElem?_drop] at hu
    · cases hu
  have key : ∀ ty, _ := fun ty => run_append_grow (P := P) w t ty et i zv t1 z1 z2 ⟨g, o, none⟩ m cap xs (by rw [hxl, ts]) holds ⟨b, o2, none⟩ m2 c2 news (by rw [hl, ts]) hnews hg (by omega) (growslice_fits hg (by rw [hby]; exact hbytes))
  refine ⟨_, _, run_app hx hy key, ?_⟩
  exact (Fram.drew none' w (w.drawn + 1)).trans (Fram.alloc none' _ _)
/-- as wl_app; besides: either the block stays the same, or nothing old turns. -/
theorem wl_appF {t et k bytes : Nat} {x y : Operand} {v : Value} {m b o m2 c2 : Nat} {xs l2 news : List Value} {t2 : TypeId} (hx : evO n e x = some v) (hy : evO n e y = some (.slice (some ⟨b, o, none⟩) m2 c2)) (ht : selB P t et k = true) (hz : ∃ z, zeroB P et z ∧ z.length = k)
    (hby : (P.info? et).any (fun i => i.bytes == bytes) = true) (hk : Nat.ble 1 k = true) (hown : Own w.heap v et k m xs) (hB2 : Blk w.heap b l2 t2) (hn : (l2.drop o).take (m2 * k) = news) (hl : news.length = m2 * k) (h1 : ∀ u ∈ news, u.oneCell' = true)
    (hmax : m + m2 ≤ 9223372036854775807) (hbytes : (m + m2) * bytes ≤ 140737488355328)
    (K : ∀ v' w', Own w'.heap v' et k (m + m2) (xs ++ news) → Fram (own1 v) w w' → nob v v' w → (v'.ownBlock = v.ownBlock ∨ Fram none' w w') → WL P ops Q rest (Fr n (upd e d v') ds) w') :
    WL P ops Q (⟨some d, .call ⟨.builtin .append, #[x, y], #[t, t]⟩, ty, ps, af, none⟩ :: rest) (Fr n e ds) w := by
  obtain ⟨v', w', h1', h2', h3', h4'⟩ := app_own' (P := P) (w := w) hx hy ht hz hby hk hown hB2 hn hl h1 hmax hbytes
  refine wle h1' (K v' w' h2' (Fram.grown h3' (fun k q => .inl q)) (fun b q => h4'.elim (fun z => .inl (by rw [← z]; exact q)) (fun z => .inr (by rw [z] at q; injection q with q; omega))) ?_)
  rcases hown.2 with ⟨rfl, -⟩ | ⟨g, cap, l, rfl, hB, q1, q2, q3, q4⟩
  · exact .inr (Fram.grown h3' (fun k q => by cases q))
  · by_cases hc : m + m2 ≤ cap
    · left
      have hfit : m * k + m2 * k ≤ l.length := by rw [q3, ← Nat.add_mul]; exact Nat.mul_le_mul_right k hc
      have := (eo_appR (P := P) (w := w) hx hy ht hB hB2 hn hl h1 hc hfit).uniq h1'
      rw [this.1]
      rfl
    · right
      obtain ⟨c, u, r1, r2⟩ := eo_appG (P := P) (w := w) (l := l) (xs := xs) hx hy ht hz hby hB (by rw [List.drop_zero]; exact q4) (by rw [← q4, List.length_take, q3]; exact Nat.min_eq_left (Nat.mul_le_mul_right k q1)) hB2 hn hl (by omega) hmax hbytes
      rw [(r1.uniq h1').2]
      exact r2
/-- append to a full slice that begins anywhere. -/
theorem wl_appN {t et k bytes g o cap : Nat} {x y : Operand} {m b o2 m2 c2 : Nat} {xs l l2 news : List Value} {t1' t2 : TypeId} (hx : evO n e x = some (.slice (some ⟨g, o, none⟩) m cap)) (hy : evO n e y = some (.slice (some ⟨b, o2, none⟩) m2 c2)) (ht : selB P t et k = true) (hz : ∃ z, zeroB P et z ∧ z.length = k)
    (hby : (P.info? et).any (fun i => i.bytes == bytes) = true) (hk : Nat.ble 1 k = true) (hB : Blk w.heap g l t1') (hxs : (l.drop o).take (m * k) = xs) (hxl : xs.length = m * k) (hx1 : ∀ u ∈ xs, u.oneCell' = true) (hB2 : Blk w.heap b l2 t2) (hn : (l2.drop o2).take (m2 * k) = news) (hl : news.length = m2 * k) (h1 : ∀ u ∈ news, u.oneCell' = true)
    (hg : cap < m + m2) (hmax : m + m2 ≤ 9223372036854775807) (hbytes : (m + m2) * bytes ≤ 140737488355328)
    (K : ∀ v' w', Own w'.heap v' et k (m + m2) (xs ++ news) → Fram none' w w' → (∀ q, v'.ownBlock = some q → w.heap.size ≤ q) → WL P ops Q rest (Fr n (upd e d v') ds) w') :
    WL P ops Q (⟨some d, .call ⟨.builtin .append, #[x, y], #[t, t]⟩, ty, ps, af, none⟩ :: rest) (Fr n e ds) w := by
  obtain ⟨t1, ts⟩ := selB_spec ht
  obtain ⟨z, ⟨i, zv, z1, z2, z3⟩, zl⟩ := hz
  unfold sizeB at ts
  rw [z1] at ts
  have hby' := hby
  rw [z1] at hby'
  simp at ts hby'
  have hnews : ∀ j u, news[j]? = some u → w.cell? ((⟨b, o2, none⟩ : Addr).add j) = some u := by
    intro j u hu
    rw [addr_add, hB2.cell]
    rw [← hn, List.getElem?_take] at hu
    split at hu
    · rwa [List.getElem?_drop] at hu
    · cases hu
  have holds : ∀ j u, xs[j]? = some u → w.cell? ((⟨g, o, none⟩ : Addr).add j) = some u := by
    intro j u hu
    rw [addr_add, hB.cell]
    rw [← hxs, List.getElem?_take] at hu
    split at hu
    · rwa [List.getElem?_drop] at hu
    · cases hu
  have hfit := growslice_fits (bytes := i.bytes) hg (by rw [hby']; exact hbytes)
  have key : ∀ ty, _ := fun ty => run_append_grow (P := P) w t ty et i zv t1 z1 z2 ⟨g, o, none⟩ m cap xs (by rw [hxl, ts]) holds ⟨b, o2, none⟩ m2 c2 news (by rw [hl, ts]) hnews hg (by omega) hfit
  have hcap : m + m2 ≤ grownCap w (m + m2) cap et := grownCap_ge w (m + m2) cap et
  have hcap2 : grownCap w (m + m2) cap et ≤ maxLen := grownCap_le_maxLen w (m + m2) cap et (by simp only [maxLen]; omega)
  have hlen : (xs ++ news).length = (m + m2) * k := by rw [List.length_append, hxl, hl, Nat.add_mul]
  have hown : (w.drew.alloc (.cells (xs.toArray ++ news.toArray ++ Builtin.zeroCells zv.cells (grownCap w (m + m2) cap et - (m + m2))) et)).ownsRow 0 et k (.slice (some ⟨w.heap.size, 0, none⟩) (m + m2) (grownCap w (m + m2) cap et)) (m + m2) (xs ++ news) := by
    refine ⟨hlen, .inr ⟨w.heap.size, _, _, rfl, Nat.zero_le _, heap_alloc_new w.drew _, hcap, hcap2, ?_, ?_⟩⟩
    · have hzs : zv.cells.size = k := by rw [z3]; simpa using zl
      simp only [Array.size_append, List.size_toArray, size_zeroCells, hzs, hxl, hl, ← Nat.add_mul]
      congr 1
      omega
    · simp only [Array.toList_append, List.append_assoc]
      rw [← List.append_assoc, ← hlen]
      exact List.take_left
  exact wle (run_app hx hy key) (K _ _ (Own.of hown) ((Fram.drew none' w (w.drawn + 1)).trans (Fram.alloc none' _ _)) (fun q hq => by cases hq; exact Nat.le_refl _))
end
end Go.Proofs.Qxb6500568aGreatDoor
