import Derived.Test.Qxb6500567aGreatGb
/- The definition of matching: lists without doubles are short; one element changed. -/
namespace Go.Proofs.Qxb6500567aGreat
set_option linter.unusedVariables false
set_option linter.unusedSimpArgs false

/-- So many numbers below m are no more than m. -/
theorem pigeon : ∀ (m : Nat) (l : List Nat), l.Nodup → (∀ e ∈ l, e < m) → l.length ≤ m
  | 0, [], _, _ => by simp
  | 0, x :: l, _, h => absurd (h x (by simp)) (by omega)
  | m + 1, l, hn, h => by
    have ih := pigeon m (l.erase m) (hn.erase m) (fun e he => by
      have h1 := (List.Nodup.mem_erase_iff hn).1 he
      have h2 := h e h1.2
      have h3 := h1.1
      omega)
    have := List.length_erase (l := l) (a := m)
    split at this <;> omega

theorem ddS_nodup : ∀ (L : List Way) (V : List Nat), (ends (ddS V L)).Nodup
  | [], V => by simp [ddS, ends]
  | x :: L, V => by
    simp only [ddS]
    split
    · exact ddS_nodup L V
    · rename_i h
      have := ddS_nodup L (x.1 :: V)
      simp only [ends, List.map_cons, List.nodup_cons] at this ⊢
      refine ⟨fun hm => ?_, this⟩
      have := (ends_ddS (V := x.1 :: V) (L := L) x.1).1 hm
      exact this.2 (by simp)

theorem dd_le {L : List Way} {n : Nat} (h : ∀ x ∈ L, x.1 ≤ n) : (dd L).length ≤ n + 1 := by
  have := pigeon (n + 1) (ends (dd L)) (ddS_nodup L []) (fun e he => by
    simp only [ends, List.mem_map] at he
    obtain ⟨x, hx, rfl⟩ := he
    have := h x (mem_ddS hx).1
    omega)
  simpa [ends] using this

theorem dd_mem {L : List Way} {x : Way} (h : x ∈ dd L) : x ∈ L := (mem_ddS h).1

section
variable {P : Program} {n : Nat} {e : Nat → Option Value} {w w1 : World} {ops : Array Oper} {ds : List Deferred} {Q : Exit → Act → World → Prop} {d : Nat} {rest : List Oper} {ty : TypeId} {ps : String} {af : Array Edge}

/-- A slice of one element. -/
theorem wl_bs1 {t et k : Nat} {x : Operand} {v : Value} {cs : List Value} (hx : evO n e x = some v) (hv : v.cells = cs.toArray) (ht : selB P t et k = true) (hz : ∃ z, zeroB P et z ∧ z.length = k) (hk : cs.length = k) (h0 : Nat.ble 1 k = true) (h24 : Nat.ble k 1000 = true)
    (K : ∀ b w1, w.heap.size ≤ b → b < w1.heap.size → Own w1.heap (.slice (some ⟨b, 0, none⟩) 1 1) et k 1 cs → Fram none' w w1 → WL P ops Q rest (Fr n (upd e d (.slice (some ⟨b, 0, none⟩) 1 1)) ds) w1) :
    WL P ops Q (⟨some d, .buildSlice t 1 #[(0, x)], ty, ps, af, none⟩ :: rest) (Fr n e ds) w :=
  wle (eo_bs1 hx hv ht hz hk h0 h24) (K w.heap.size _ (Nat.le_refl _) (Blk.new w cs et).lt (Own.bs w cs et k 1 (by omega) (by omega)) (Fram.alloc none' w _))
end

theorem wv_one {w w1 : World} {b : Nat} {x : Way} (h : Own w1.heap (.slice (some ⟨b, 0, none⟩) 1 1) 215 9 1 (wcl x)) (h1 : w.heap.size ≤ b) (h2 : b < w1.heap.size) : WV w1 (.slice (some ⟨b, 0, none⟩) 1 1) [x] w.heap.size w1.heap.size :=
  ⟨by rw [wcs_one]; exact h, fun c hc => by simp [Value.ownBlock] at hc; omega, fun c hc => by simp [Value.ownBlock] at hc; omega⟩

theorem capc_set {c : List Int} {j : Nat} {v : Int} (hl : c.length = 8) (hj : j < 8) : capc (c.set j v) = (capc c).set j (icv v) := by
  unfold capc
  rw [cel_set]
  apply cel_congr
  intro i hi
  by_cases h : i = j
  · subst h; rw [pt_same, List.getD, List.getElem?_set_self (by omega)]; rfl
  · rw [pt_ne h, List.getD, List.getElem?_set_ne (fun h' => h h'.symm)]; rfl

theorem wcs_set : ∀ {L : List Way} {k : Nat} {x : Way} {j : Nat} {v : Int}, L[k]? = some x → x.2.length = 8 → j < 8 → wcs (L.set k (x.1, x.2.set j v)) = (wcs L).set (k * 9 + 1 + j) (icv v)
  | y :: L, 0, x, j, v, h, hl, hj => by
    simp only [List.getElem?_cons_zero, Option.some.injEq] at h
    subst h
    have e : ∀ z : Way, wcs (z :: L) = wcl z ++ wcs L := fun z => by simp [wcs]
    rw [List.set_cons_zero, e, e, List.set_append_left _ _ (by rw [wcl_len]; omega)]
    congr 1
    show i64c y.1 :: capc (y.2.set j v) = (i64c y.1 :: capc y.2).set (0 * 9 + 1 + j) (icv v)
    rw [show 0 * 9 + 1 + j = j + 1 by omega, List.set_cons_succ, capc_set hl hj]
  | y :: L, k + 1, x, j, v, h, hl, hj => by
    rw [List.getElem?_cons_succ] at h
    have e : ∀ (z : Way) (M : List Way), wcs (z :: M) = wcl z ++ wcs M := fun z M => by simp [wcs]
    rw [List.set_cons_succ, e, e, wcs_set h hl hj, List.set_append_right _ _ (by rw [wcl_len]; omega), wcl_len]
    congr 2
    omega

/-- One slot of one way is written. -/
theorem WV.put {w w1 : World} {V : Value} {L : List Way} {lo hi k j g cap : Nat} {x : Way} {l : List Value} {v : Int} (h : WV w V L lo hi) (hk : L[k]? = some x) (hl : x.2.length = 8) (hj : j < 8) (hV : V = .slice (some ⟨g, 0, none⟩) L.length cap) (hB : Blk w.heap g l 215) (hB1 : Blk w1.heap g (l.set (0 + k * 9 + 1 + j) (icv v)) 215) : WV w1 V (L.set k (x.1, x.2.set j v)) lo hi := by
  have hkl := (List.getElem?_eq_some_iff.1 hk).1
  obtain ⟨g', cap', l', hV', hB', h1, h2, h3, h4⟩ := h.own.pos (by omega)
  rw [hV] at hV'
  cases hV'
  have := (hB.uniq hB').1
  subst this
  refine ⟨?_, h.lo', h.hi'⟩
  refine ⟨by rw [wcs_len], .inr ⟨g, cap, _, by rw [hV, List.length_set], hB1, by rw [List.length_set]; exact h1, h2, by rw [List.length_set]; exact h3, ?_⟩⟩
  rw [List.length_set, wcs_set hk hl hj, ← h4, List.take_set, show 0 + k * 9 + 1 + j = k * 9 + 1 + j by omega]

end Go.Proofs.Qxb6500567aGreat
