import Derived.Test.Qxb6500568aGreatDoorFo
/- Slices of one's own. -/
namespace Go.Proofs.Qxb6500568aGreatDoor
set_option linter.unusedVariables false
set_option linter.unusedSimpArgs false

/-- 'v' is a slice of 'n' elements of 'k' cells each, 'xs' in all; its block holds nothing else. -/
def Own (H : Array Obj) (v : Value) (e k n : Nat) (xs : List Value) : Prop :=
  xs.length = n * k ∧ ((v = .slice none 0 0 ∧ n = 0) ∨ ∃ g cap l, v = .slice (some ⟨g, 0, none⟩) n cap ∧ Blk H g l e ∧ n ≤ cap ∧ cap ≤ 9223372036854775807 ∧ l.length = cap * k ∧ l.take (n * k) = xs)

theorem Own.to {w : World} {v : Value} {e k n : Nat} {xs : List Value} (h : Own w.heap v e k n xs) : w.ownsRow 0 e k v n xs := by
  refine ⟨h.1, ?_⟩
  rcases h.2 with h2 | ⟨g, cap, l, h1, h2, h3, h4, h5, h6⟩
  · exact .inl h2
  · exact .inr ⟨g, cap, l.toArray, h1, Nat.zero_le _, h2, h3, by simp only [maxLen]; omega, by simpa using h5, by simpa using h6⟩

theorem Own.of {w : World} {v : Value} {e k n : Nat} {xs : List Value} (h : w.ownsRow 0 e k v n xs) : Own w.heap v e k n xs := by
  refine ⟨h.1, ?_⟩
  rcases h.2 with h2 | ⟨g, cap, cur, h1, _, h2, h3, h4, h5, h6⟩
  · exact .inl h2
  · exact .inr ⟨g, cap, cur.toList, h1, by unfold Blk; simpa using h2, h3, by simp only [maxLen] at h4; omega, by simpa using h5, by simpa using h6⟩

theorem Own.nil (H : Array Obj) (e k : Nat) : Own H (.slice none 0 0) e k 0 [] := ⟨by simp, .inl ⟨rfl, rfl⟩⟩

theorem Own.bs (w : World) (cs : List Value) (e k m : Nat) (h : cs.length = m * k) (hm : m ≤ 9223372036854775807) : Own (w.alloc (.cells cs.toArray e)).heap (.slice (some ⟨w.heap.size, 0, none⟩) m m) e k m cs :=
  ⟨h, .inr ⟨_, m, cs, rfl, Blk.new w cs e, Nat.le_refl _, hm, h, by rw [← h, List.take_length]⟩⟩

theorem Own.fram {F : Nat → Prop} {w w' : World} {v : Value} {e k n : Nat} {xs : List Value} (h : Own w.heap v e k n xs) (hf : Fram F w w') (hn : ∀ b, v.ownBlock = some b → ¬ F b) : Own w'.heap v e k n xs := by
  refine ⟨h.1, ?_⟩
  rcases h.2 with h2 | ⟨g, cap, l, h1, h2, h3⟩
  · exact .inl h2
  · exact .inr ⟨g, cap, l, h1, h2.fram hf (hn g (by rw [h1]; rfl)), h3⟩

theorem Own.alloc {w : World} {v : Value} {e k n : Nat} {xs : List Value} (h : Own w.heap v e k n xs) (o : Obj) : Own (w.alloc o).heap v e k n xs :=
  h.fram (Fram.alloc none' w o) (fun _ _ h => h)

theorem Own.lt {w : World} {v : Value} {e k n : Nat} {xs : List Value} (h : Own w.heap v e k n xs) {b : Nat} (hb : v.ownBlock = some b) : b < w.heap.size := by
  rcases h.2 with ⟨h2, _⟩ | ⟨g, cap, l, h1, h2, h3⟩
  · rw [h2] at hb; cases hb
  · rw [h1] at hb; cases hb; exact h2.lt

/-- The slice's own form. -/
theorem Own.form {H : Array Obj} {v : Value} {e k n : Nat} {xs : List Value} (h : Own H v e k n xs) : ∃ a cap, v = .slice a n cap := by
  rcases h.2 with ⟨h1, h2⟩ | ⟨g, cap, l, h1, _⟩
  · exact ⟨none, 0, by rw [h1, h2]⟩
  · exact ⟨_, _, h1⟩

theorem Own.pos {H : Array Obj} {v : Value} {e k n : Nat} {xs : List Value} (h : Own H v e k n xs) (hn : 0 < n) : ∃ g cap l, v = .slice (some ⟨g, 0, none⟩) n cap ∧ Blk H g l e ∧ n ≤ cap ∧ cap ≤ 9223372036854775807 ∧ l.length = cap * k ∧ l.take (n * k) = xs := by
  rcases h.2 with ⟨h1, h2⟩ | h1
  · omega
  · exact h1

theorem Own.take {H : Array Obj} {a : Option Addr} {e k n cap m : Nat} {xs : List Value} (h : Own H (.slice a n cap) e k n xs) (hm : m ≤ n) : Own H (.slice a m cap) e k m (xs.take (m * k)) := by
  have hmk : m * k ≤ n * k := Nat.mul_le_mul_right k hm
  refine ⟨by rw [List.length_take, h.1]; omega, ?_⟩
  rcases h.2 with ⟨h1, h2⟩ | ⟨g, cap', l, h1, h2, h3, h4, h5, h6⟩
  · left
    cases h1
    have : m = 0 := by omega
    subst this
    exact ⟨rfl, rfl⟩
  · cases h1
    exact .inr ⟨g, cap, l, rfl, h2, by omega, h4, h5, by rw [← h6, List.take_take, Nat.min_eq_left hmk]⟩

/-- A single cell of it. -/
theorem own_get {l xs : List Value} {m i : Nat} {v : Value} (h : l.take m = xs) (hv : xs[i]? = some v) : l[i]? = some v := by
  rw [← h, List.getElem?_take] at hv
  split at hv
  · exact hv
  · cases hv

section
variable {P : Program} {n : Nat} {e : Nat → Option Value} {ds : List Deferred} {w : World} {ops : Array Oper} {Q : Exit → Act → World → Prop} {rest : List Oper} {d : Nat} {ty : TypeId} {ps : String} {af : Array Edge}

theorem app_own' {t et k bytes : Nat} {x y : Operand} {v : Value} {m b o m2 c2 : Nat} {xs l2 news : List Value} {t2 : TypeId} (hx : evO n e x = some v) (hy : evO n e y = some (.slice (some ⟨b, o, none⟩) m2 c2)) (ht : selB P t et k = true) (hz : ∃ z, zeroB P et z ∧ z.length = k)
    (hby : (P.info? et).any (fun i => i.bytes == bytes) = true) (hk : Nat.ble 1 k = true) (hown : Own w.heap v et k m xs) (hB2 : Blk w.heap b l2 t2) (hn : (l2.drop o).take (m2 * k) = news) (hl : news.length = m2 * k) (h1 : ∀ u ∈ news, u.oneCell' = true)
    (hmax : m + m2 ≤ 9223372036854775807) (hbytes : (m + m2) * bytes ≤ 140737488355328) :
    ∃ v' w', EO P n e w (.call ⟨.builtin .append, #[x, y], #[t, t]⟩) v' w' ∧ Own w'.heap v' et k (m + m2) (xs ++ news) ∧ w.grownBy w' v.ownBlock ∧ (v'.ownBlock = v.ownBlock ∨ v'.ownBlock = some w.heap.size) := by
  obtain ⟨v', w', h1', h2', h3', _, h5'⟩ := app_own (P := P) (w := w) hx hy ht hz hby hk hown.to hB2 hn hl h1 hmax hbytes
  exact ⟨v', w', h1', Own.of h2', h3', h5'⟩

theorem wl_app {t et k bytes : Nat} {x y : Operand} {v : Value} {m b o m2 c2 : Nat} {xs l2 news : List Value} {t2 : TypeId} (hx : evO n e x = some v) (hy : evO n e y = some (.slice (some ⟨b, o, none⟩) m2 c2)) (ht : selB P t et k = true) (hz : ∃ z, zeroB P et z ∧ z.length = k)
    (hby : (P.info? et).any (fun i => i.bytes == bytes) = true) (hk : Nat.ble 1 k = true) (hown : Own w.heap v et k m xs) (hB2 : Blk w.heap b l2 t2) (hn : (l2.drop o).take (m2 * k) = news) (hl : news.length = m2 * k) (h1 : ∀ u ∈ news, u.oneCell' = true)
    (hmax : m + m2 ≤ 9223372036854775807) (hbytes : (m + m2) * bytes ≤ 140737488355328)
    (K : ∀ v' w', Own w'.heap v' et k (m + m2) (xs ++ news) → w.grownBy w' v.ownBlock → (v'.ownBlock = v.ownBlock ∨ v'.ownBlock = some w.heap.size) → WL P ops Q rest (Fr n (upd e d v') ds) w') :
    WL P ops Q (⟨some d, .call ⟨.builtin .append, #[x, y], #[t, t]⟩, ty, ps, af, none⟩ :: rest) (Fr n e ds) w := by
  obtain ⟨v', w', h1', h2', h3', h4'⟩ := app_own' (P := P) (w := w) hx hy ht hz hby hk hown hB2 hn hl h1 hmax hbytes
  exact wle h1' (K v' w' h2' h3' h4')

theorem ql_app {S : World → Prop} {last i : Nat} {r : List (Nat × Bool)} {t et k bytes : Nat} {x y : Operand} {v : Value} {m b o m2 c2 : Nat} {xs l2 news : List Value} {t2 : TypeId} (hi : ops[i]? = some ⟨some d, .call ⟨.builtin .append, #[x, y], #[t, t]⟩, ty, ps, af, none⟩) (hx : evO n e x = some v) (hy : evO n e y = some (.slice (some ⟨b, o, none⟩) m2 c2)) (ht : selB P t et k = true) (hz : ∃ z, zeroB P et z ∧ z.length = k)
    (hby : (P.info? et).any (fun i => i.bytes == bytes) = true) (hk : Nat.ble 1 k = true) (hown : Own w.heap v et k m xs) (hB2 : Blk w.heap b l2 t2) (hn : (l2.drop o).take (m2 * k) = news) (hl : news.length = m2 * k) (h1 : ∀ u ∈ news, u.oneCell' = true)
    (hmax : m + m2 ≤ 9223372036854775807) (hbytes : (m + m2) * bytes ≤ 140737488355328)
    (K : ∀ v' w', Own w'.heap v' et k (m + m2) (xs ++ news) → w.grownBy w' v.ownBlock → (v'.ownBlock = v.ownBlock ∨ v'.ownBlock = some w.heap.size) → S w' ∧ WQ P ops Q S last r (Fr n (upd e d v') ds) w') :
    WQ P ops Q S last ((i, true) :: r) (Fr n e ds) w := by
  obtain ⟨v', w', h1', h2', h3', h4'⟩ := app_own' (P := P) (w := w) hx hy ht hz hby hk hown hB2 hn hl h1 hmax hbytes
  exact ql_eo hi h1' (K v' w' h2' h3' h4').1 (K v' w' h2' h3' h4').2

theorem pi_app {S : World → Prop} {i : Nat} {r : List (Nat × Bool)} {t et k bytes : Nat} {x y : Operand} {v : Value} {m b o m2 c2 : Nat} {xs l2 news : List Value} {t2 : TypeId} (hi : ops[i]? = some ⟨some d, .call ⟨.builtin .append, #[x, y], #[t, t]⟩, ty, ps, af, none⟩) (hx : evO n e x = some v) (hy : evO n e y = some (.slice (some ⟨b, o, none⟩) m2 c2)) (ht : selB P t et k = true) (hz : ∃ z, zeroB P et z ∧ z.length = k)
    (hby : (P.info? et).any (fun i => i.bytes == bytes) = true) (hk : Nat.ble 1 k = true) (hown : Own w.heap v et k m xs) (hB2 : Blk w.heap b l2 t2) (hn : (l2.drop o).take (m2 * k) = news) (hl : news.length = m2 * k) (h1 : ∀ u ∈ news, u.oneCell' = true)
    (hmax : m + m2 ≤ 9223372036854775807) (hbytes : (m + m2) * bytes ≤ 140737488355328)
    (K : ∀ v' w', Own w'.heap v' et k (m + m2) (xs ++ news) → w.grownBy w' v.ownBlock → (v'.ownBlock = v.ownBlock ∨ v'.ownBlock = some w.heap.size) → S w' ∧ WP P ops Q S r (Fr n (upd e d v') ds) w') :
    WP P ops Q S ((i, true) :: r) (Fr n e ds) w := by
  obtain ⟨v', w', h1', h2', h3', h4'⟩ := app_own' (P := P) (w := w) hx hy ht hz hby hk hown hB2 hn hl h1 hmax hbytes
  exact pi_eo hi h1' (K v' w' h2' h3' h4').1 (K v' w' h2' h3' h4').2

end
end Go.Proofs.Qxb6500568aGreatDoor
