import Derived.Test.Qxb6500568aGreatDoorGa
import Derived.Maps.RangeRun
/- Entries of maps; ranges over maps. -/
namespace Go.Proofs.Qxb6500568aGreatDoor
set_option linter.unusedVariables false
set_option linter.unusedSimpArgs false

section
variable {α : Type} [DecidableEq α] {P : Program} {kt : TypeId} {kv : α → Value}

/-- The map with its entries' stamps. -/
structure MapC (kv : α → Value) (H : Array Obj) (r : Nat) (l : List (α × Value)) (bs : List Nat) (clock : Nat) : Prop where
  ex : ∃ es : Array MapEntry, H[r]? = some (.map es clock) ∧ es.toList.map (fun e => (e.key, e.val)) = l.map (fun p => (kv p.1, p.2)) ∧ es.toList.map (·.born) = bs
  nd : bs.Nodup
  lt : ∀ b ∈ bs, b < clock

set_option linter.unusedSectionVars false in
theorem MapAt.toC {H : Array Obj} {r : Nat} {l : List (α × Value)} (h : MapAt kv H r l) : ∃ bs clock, MapC kv H r l bs clock := by
  obtain ⟨es, c, h1, h2, h3, h4⟩ := h
  exact ⟨_, c, ⟨es, h1, h2, rfl⟩, h3, fun b hb => by obtain ⟨e, he, rfl⟩ := List.mem_map.1 hb; exact h4 e he⟩

set_option linter.unusedSectionVars false in
theorem MapC.at {H : Array Obj} {r : Nat} {l : List (α × Value)} {bs : List Nat} {c : Nat} (h : MapC kv H r l bs c) : MapAt kv H r l := by
  obtain ⟨es, h1, h2, h3⟩ := h.ex
  exact ⟨es, c, h1, h2, by rw [h3]; exact h.nd, fun e he => h.lt _ (by rw [← h3]; exact List.mem_map_of_mem he)⟩

set_option linter.unusedSectionVars false in
theorem MapC.fram {F : Nat → Prop} {w w' : World} {r : Nat} {l : List (α × Value)} {bs : List Nat} {c : Nat} (h : MapC kv w.heap r l bs c) (hf : Fram F w w') (hn : ¬ F r) : MapC kv w'.heap r l bs c := by
  obtain ⟨es, h1, h2, h3⟩ := h.ex
  exact ⟨⟨es, by rw [hf.block r (Array.getElem?_eq_some_iff.1 h1).1 hn]; exact h1, h2, h3⟩, h.nd, h.lt⟩

set_option linter.unusedSectionVars false in
theorem MapC.len {H : Array Obj} {r : Nat} {l : List (α × Value)} {bs : List Nat} {c : Nat} (h : MapC kv H r l bs c) : bs.length = l.length := by
  obtain ⟨es, h1, h2, h3⟩ := h.ex
  have := congrArg List.length h2
  rw [← h3]; simpa using this

theorem lookM_of_get {l : List (α × Value)} (hn : (l.map (·.1)).Nodup) {i : Nat} {a : α} {v : Value} (h : l[i]? = some (a, v)) : lookM l a = some (i, v) := by
  induction l generalizing i with
  | nil => simp at h
  | cons p l ih =>
    simp only [List.map_cons, List.nodup_cons] at hn
    cases i with
    | zero =>
      simp at h; subst h
      simp [lookM]
    | succ i =>
      simp at h
      have hm : a ∈ l.map (·.1) := List.mem_map.2 ⟨(a, v), List.mem_of_getElem? h, rfl⟩
      have hne : ¬ a = p.1 := fun hx => hn.1 (by rw [← hx]; exact hm)
      simp only [lookM]
      rw [if_neg hne, ih hn.2 h]
      rfl

theorem lookM_none {l : List (α × Value)} {a : α} : lookM l a = none ↔ a ∉ l.map (·.1) := by
  induction l with
  | nil => simp [lookM]
  | cons p l ih =>
    simp only [lookM, List.map_cons, List.mem_cons]
    by_cases h : a = p.1
    · simp [h]
    · rw [if_neg h]
      simp [h, ih]

variable {n : Nat} {e : Nat → Option Value} {w : World}

/-- An iterator over the map. -/
def ItAt (H : Array Obj) (ri r since : Nat) (seen : Array Nat) (c0 : Nat) : Prop := H[ri]? = some (.mapIter (some r) since seen c0)

theorem ItAt.fram {F : Nat → Prop} {w w' : World} {ri r since c0 : Nat} {seen : Array Nat} (h : ItAt w.heap ri r since seen c0) (hf : Fram F w w') (hn : ¬ F ri) : ItAt w'.heap ri r since seen c0 := by
  unfold ItAt at h ⊢
  rw [hf.block ri (Array.getElem?_eq_some_iff.1 h).1 hn]; exact h

set_option linter.unusedSectionVars false in
theorem eo_range {t et r : Nat} {x : Operand} {l : List (α × Value)} {bs : List Nat} {c : Nat} (hx : evO n e x = some (.map (some r))) (ht : P.underlying t = some (.map kt et)) (hM : MapC kv w.heap r l bs c) :
    EO P n e w (.range t x) (ptr w.heap.size) (w.alloc (.mapIter (some r) c #[] c)) := by
  intro ds dst ty ps af g
  obtain ⟨es, h1, h2, h3⟩ := hM.ex
  have := run_range_map (P := P) w t kt et r es c ht h1
  simp [execOp, evO_eval hx, this, ptr]

set_option linter.unusedSectionVars false in
theorem next_cases {ri r : Nat} {l : List (α × Value)} {bs : List Nat} {c : Nat} {seen : Array Nat} (hM : MapC kv w.heap r l bs c) (hI : ItAt w.heap ri r c seen c) (ty : TypeId) :
    ((∀ b ∈ bs, b ∈ seen) ∧ (Instr.next (ptr ri) false ty).run P w = .ok (.tuple #[.bool false]) w) ∨
    ∃ (i : Nat) (k : α) (v : Value) (b : Nat) (w1 : World), l[i]? = some (k, v) ∧ bs[i]? = some b ∧ b ∉ seen ∧ (Instr.next (ptr ri) false ty).run P w = .ok (.tuple #[.bool true, kv k, v]) w1 ∧ ItAt w1.heap ri r c (seen.push b) c ∧ Fram (fun x => x = ri) w w1 := by
  obtain ⟨es, h1, h2, h3⟩ := hM.ex
  have hri := (Array.getElem?_eq_some_iff.1 hI).1
  have hold : ∀ x ∈ es.toList, x.born < c := fun x hx => hM.lt _ (by rw [← h3]; exact List.mem_map_of_mem hx)
  rcases run_next_at (P := P) w ty ri r c c seen es c hI h1 hold (Nat.le_refl _) with ⟨h4, h5⟩ | ⟨x, hx, w1, hw1, h5⟩
  · refine .inl ⟨?_, h5⟩
    intro b hb
    rw [← h3] at hb
    obtain ⟨x, hx, rfl⟩ := List.mem_map.1 hb
    have h6 : leftOf es seen = #[] := Array.eq_empty_of_size_eq_zero h4
    unfold leftOf at h6
    rw [Array.filter_eq_empty_iff] at h6
    have := h6 x (by simpa using hx)
    simpa using this
  · right
    unfold leftOf at hx
    simp at hx
    obtain ⟨hxe, hxs⟩ := hx
    obtain ⟨i, hi, rfl⟩ := Array.getElem_of_mem hxe
    have hlen : es.size = l.length := by have := congrArg List.length h2; simpa using this
    obtain ⟨⟨k, v⟩, hkv⟩ : ∃ p, l[i]? = some p := ⟨_, List.getElem?_eq_getElem (by omega)⟩
    have hek : es[i].key = kv k ∧ es[i].val = v := by
      have := congrArg (·[i]?) h2
      simp [hkv, hi] at this
      exact this
    refine ⟨i, k, v, es[i].born, Go.ChangeMaps.setBlock w1 ri (.mapIter (some r) c (seen.push es[i].born) c), hkv, by rw [← h3]; simp [hi], by simpa using hxs, ?_, ?_, ?_⟩
    · rw [← hek.1, ← hek.2]; exact h5
    · have : ri < w1.heap.size := by rcases hw1 with rfl | rfl <;> exact hri
      simp [ItAt, Go.ChangeMaps.setBlock, this]
    · rcases hw1 with rfl | rfl
      · exact setM_fram _ ri _
      · exact (Fram.drew _ w (w.drawn + 1)).trans (setM_fram _ ri _)

set_option linter.unusedSectionVars false in
theorem ro_entry {ri r i b : Nat} {x : Operand} {l : List (α × Value)} {bs : List Nat} {c : Nat} {seen : Array Nat} {k : α} {v : Value} (hx : evO n e x = some (ptr ri)) (hM : MapC kv w.heap r l bs c) (hI : ItAt w.heap ri r c (seen.push b) c) (hl : l[i]? = some (k, v)) (hb : bs[i]? = some b) :
    RO P n e w (.entry x) (.tuple #[kv k, v]) := by
  intro ds dst ty ps af g
  obtain ⟨es, h1, h2, h3⟩ := hM.ex
  have hlen : es.size = l.length := by have := congrArg List.length h2; simpa using this
  have hi : i < es.size := by have := (List.getElem?_eq_some_iff.1 hl).1; omega
  have hek : es[i].key = kv k ∧ es[i].val = v := by
    have := congrArg (·[i]?) h2
    simp [hl, hi] at this
    exact this
  have hborn : es[i].born = b := by
    rw [← h3] at hb
    simp [hi] at hb
    exact hb
  have := run_entry_at (P := P) w ri r c seen es c es[i] (by rw [hborn]; exact hI) h1 (by simp) (by rw [h3]; exact hM.nd)
  rw [hek.1, hek.2] at this
  simp only [ptr] at hx
  simp [execOp, evO_eval hx, this]

end

section
variable {α : Type} [DecidableEq α] {P : Program} {kt : TypeId} {kv : α → Value} {n : Nat} {e : Nat → Option Value} {ds : List Deferred} {w w1 : World} {ops : Array Oper} {Q : Exit → Act → World → Prop} {rest : List Oper}
  {d : Nat} {op : Op} {ty : TypeId} {ps : String} {af : Array Edge} {v : Value}

set_option linter.unusedSectionVars false in
theorem wl_next {ri r : Nat} {x : Operand} {l : List (α × Value)} {bs : List Nat} {c : Nat} {seen : Array Nat} (hx : evO n e x = some (ptr ri)) (hM : MapC kv w.heap r l bs c) (hI : ItAt w.heap ri r c seen c)
    (k1 : (∀ b ∈ bs, b ∈ seen) → WL P ops Q rest (Fr n (upd e d (.tuple #[.bool false])) ds) w)
    (k2 : ∀ (i : Nat) (k : α) (v : Value) (b : Nat) (w1 : World), l[i]? = some (k, v) → bs[i]? = some b → b ∉ seen → ItAt w1.heap ri r c (seen.push b) c → Fram (fun x => x = ri) w w1 → WL P ops Q rest (Fr n (upd e d (.tuple #[.bool true, kv k, v])) ds) w1) :
    WL P ops Q (⟨some d, .next x false, ty, ps, af, none⟩ :: rest) (Fr n e ds) w := by
  rcases next_cases (P := P) hM hI ty with ⟨h1, h2⟩ | ⟨i, k, v, b, w1, h1, h2, h3, h4, h5, h6⟩
  · refine ⟨wpList_plain rfl fun K hK => ?_⟩
    unfold Oper.wp
    have : (execOp (Fr n e ds).eval ⟨some d, .next x false, ty, ps, af, none⟩).run P w = .ok (.value (.tuple #[.bool false])) w := by
      simp [execOp, evO_eval hx, h2]
    rw [this]
    simp only [Oper.upon, put_some]
    exact hK _ _ (k1 h1).out
  · refine ⟨wpList_plain rfl fun K hK => ?_⟩
    unfold Oper.wp
    have : (execOp (Fr n e ds).eval ⟨some d, .next x false, ty, ps, af, none⟩).run P w = .ok (.value (.tuple #[.bool true, kv k, v])) w1 := by
      simp [execOp, evO_eval hx, h4]
    rw [this]
    simp only [Oper.upon, put_some]
    exact hK _ _ (k2 i k v b w1 h1 h2 h3 h5 h6).out

end
end Go.Proofs.Qxb6500568aGreatDoor
