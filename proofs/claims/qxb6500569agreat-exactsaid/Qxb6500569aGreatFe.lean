import Derived.Test.Qxb6500569aGreatFk
import Derived.Maps.RangeRun
/- Entries of maps; ranges over maps. -/
namespace Go.Proofs.Qxb6500569aGreat
set_option linter.unusedVariables false
set_option linter.unusedSimpArgs false

section
variable {α : Type} [DecidableEq α] {P : Program} {kt : TypeId} {kv : α → Value}

/-- The map with its entries' stamps. -/
structure MapC (kv : α → Value) (H : Array Obj) (r : Nat) (l : List (α × Value)) (bs : List Nat) (clock : Nat) : Prop where
  ex : ∃ es : Array MapEntry, H[r]? = some (.map es clock) ∧ es.toList.map (fun e => (e.key, e.val)) = l.map (fun p => (kv p.1, p.2)) ∧ es.toList.map (·.born) = bs
  nd : bs.Nodup
  lt : ∀ b ∈ bs, b < clock

set_option linter.unusedSectionVars false in
theorem MapAt.toC {H : Array Obj} {r : Nat} {l : List (α × Value)} (h : MapAt kv H r l) : ∃ bs clock, MapC kv H r l bs clock := by
  obtain ⟨es, c, h1, h2, h3, h4⟩ := h
  exact ⟨_, c, ⟨es, h1, h2, rfl⟩, h3, fun b hb => by obtain ⟨e, he, rfl⟩ := List.mem_map.1 hb; exact h4 e he⟩

set_option linter.unusedSectionVars false in
theorem MapC.at {H : Array Obj} {r : Nat} {l : List (α × Value)} {bs : List Nat} {c : Nat} (h : MapC kv H r l bs c) : MapAt kv H r l := by
  obtain ⟨es, h1, h2, h3⟩ := h.ex
  exact ⟨es, c, h1, h2, by rw [h3]; exact h.nd, fun e he => h.lt _ (by rw [← h3]; exact List.mem_map_of_mem he)⟩

set_option linter.unusedSectionVars false in
theorem MapC.fram {F : Nat → Prop} {w w' : World} {r : Nat} {l : List (α × Value)} {bs : List Nat} {c : Nat} (h : MapC kv w.heap r l bs c) (hf : Fram F w w') (hn : ¬ F r) : MapC kv w'.heap r l bs c := by
  obtain ⟨es, h1, h2, h3⟩ := h.ex
  exact ⟨⟨es, by rw [hf.block r (Array.getElem?_eq_some_iff.1 h1).1 hn]; exact h1, h2, h3⟩, h.nd, h.lt⟩

set_option linter.unusedSectionVars false in
theorem MapC.len {H : Array Obj} {r : Nat} {l : List (α × Value)} {bs : List Nat} {c : Nat} (h : MapC kv H r l bs c) : bs.length = l.length := by
  obtain ⟨es, h1, h2, h3⟩ := h.ex
  have := congrArg List.length h2
  rw [← h3]; simpa using this

theorem look_of_get {l : List (α × Value)} (hn : (l.map (·.1)).Nodup) {i : Nat} {a : α} {v : Value} (h : l[i]? = some (a, v)) : look l a = some (i, v) := by
  induction l generalizing i with
  | nil => simp at h
  | cons p l ih =>
    simp only [List.map_cons, List.nodup_cons] at hn
    cases i with
    | zero =>
      simp at h; subst h
      simp [look]
    | succ i =>
      simp at h
      have hm : a ∈ l.map (·.1) := List.mem_map.2 ⟨(a, v), List.mem_of_getElem? h, rfl⟩
      have hne : ¬ a = p.1 := fun hx => hn.1 (by rw [← hx]; exact hm)
      simp only [look]
      rw [if_neg hne, ih hn.2 h]
      rfl

theorem look_none {l : List (α × Value)} {a : α} : look l a = none ↔ a ∉ l.map (·.1) := by
  induction l with
  | nil => simp [look]
  | cons p l ih =>
    simp only [look, List.map_cons, List.mem_cons]
    by_cases h : a = p.1
    · simp [h]
    · rw [if_neg h]
      simp [h, ih]

variable {n : Nat} {e : Nat → Option Value} {w : World}

/-- A store to a key that is there. -/
theorem so_mapUpC {t et r i : Nat} {x y z : Operand} {a : α} {v v0 : Value} {l : List (α × Value)} {bs : List Nat} {c : Nat} (hK : KeyT P kt kv) (hx : evO n e x = some (.map (some r))) (hy : evO n e y = some (kv a)) (hz : evO n e z = some v) (ht : P.underlying t = some (.map kt et)) (hM : MapC kv w.heap r l bs c) (hl : look l a = some (i, v0)) :
    ∃ w1, SO P n e w (.mapUpdate t x y z) w1 ∧ MapC kv w1.heap r (l.set i (a, v)) bs c ∧ Fram (fun b => b = r) w w1 := by
  obtain ⟨es, h1, h2, h3⟩ := hM.ex
  have hr := (Array.getElem?_eq_some_iff.1 h1).1
  have hli := look_spec l a i v0 hl
  have hil := (List.getElem?_eq_some_iff.1 hli).1
  have hlen : es.toList.length = l.length := by have := congrArg List.length h2; simpa using this
  have hie : i < es.size := by simpa using (show i < es.toList.length by omega)
  have hkey : es[i].key = kv a := by
    have := congrArg (·[i]?) h2
    simp only [List.getElem?_map, hli, Option.map_some] at this
    rw [Array.getElem?_toList, Array.getElem?_eq_getElem hie] at this
    simp at this
    exact this.1
  refine ⟨setM w r (.map (es.modify i fun e => { e with key := kv a, val := v }) c), ?_, ⟨⟨es.modify i fun e => { e with key := kv a, val := v }, ?_, ?_, ?_⟩, hM.nd, hM.lt⟩, setM_fram w r _⟩
  · intro ds dst ty ps af g
    have hget : (getObj r).run P w = .ok (.map es c) w := run_getObjM h1
    have hset : ∀ o, (setObj r o).run P w = .ok () (setM w r o) := fun o => run_setObjM h1 o
    simp [execOp, evO_eval hx, evO_eval hy, evO_eval hz, Instr.mapUpdate, run_underlying ht, hget, hK.chk, hK.find a es.toList l w h2, hl, hie, hkey, hK.stay, hset]
  · simp only [setM]
    rw [Array.getElem?_setIfInBounds]
    simp [hr]
  · apply List.ext_getElem?
    intro j
    have hj := congrArg (·[j]?) h2
    simp only [List.getElem?_map, Array.getElem?_toList] at hj ⊢
    rw [Array.getElem?_modify, List.getElem?_set]
    by_cases hij : i = j
    · subst hij
      simp [hie, hil]
    · rw [if_neg hij, if_neg hij]; exact hj
  · rw [← h3]
    apply List.ext_getElem?
    intro j
    simp only [List.getElem?_map, Array.getElem?_toList]
    rw [Array.getElem?_modify]
    by_cases hij : i = j
    · subst hij
      rw [if_pos rfl]
      cases es[i]? <;> rfl
    · rw [if_neg hij]

/-- An entry is got, for a store to it. -/
theorem eo_mapEntry {t et r : Nat} {x y : Operand} {a : α} {z : Value} {l : List (α × Value)} (hK : KeyT P kt kv) (hx : evO n e x = some (.map (some r))) (hy : evO n e y = some (kv a)) (ht : P.underlying t = some (.map kt et)) (hz : (P.info? et).bind (·.zero) = some z) (hM : MapAt kv w.heap r l) :
    ∃ w1 st i l1, EO P n e w (.mapEntry t x y) (.tuple #[(lookV l a).getD z, .int .i64 (st : Nat)]) w1 ∧ (∃ bs c, MapC kv w1.heap r l1 bs c ∧ bs[i]? = some st) ∧ l1[i]? = some (a, (lookV l a).getD z) ∧ (∀ v, l1.set i (a, v) = ups l a v) ∧ Fram (fun b => b = r) w w1 := by
  obtain ⟨es, c, h1, h2, h3, h4⟩ := hM
  have hr := (Array.getElem?_eq_some_iff.1 h1).1
  have hget : (getObj r).run P w = .ok (.map es c) w := run_getObjM h1
  have hset : ∀ o, (setObj r o).run P w = .ok () (setM w r o) := fun o => run_setObjM h1 o
  have hlen : es.toList.length = l.length := by have := congrArg List.length h2; simpa using this
  cases hl : look l a with
  | none =>
    obtain ⟨inf, hi1, hi2⟩ : ∃ i, P.info? et = some i ∧ i.zero = some z := by
      cases hi : P.info? et with
      | none => rw [hi] at hz; cases hz
      | some i => rw [hi] at hz; exact ⟨i, rfl, hz⟩
    refine ⟨setM w r (.map (es.push { key := kv a, val := z, born := c }) (c + 1)), c, l.length, l ++ [(a, z)], ?_, ⟨es.toList.map (·.born) ++ [c], c + 1, ⟨⟨es.push { key := kv a, val := z, born := c }, ?_, ?_, ?_⟩, ?_, ?_⟩, ?_⟩, ?_, ?_, setM_fram w r _⟩
    · intro ds dst ty ps af g
      simp [execOp, evO_eval hx, evO_eval hy, Instr.mapEntry, run_underlying ht, hget, hK.chk, hK.find a es.toList l w h2, hl, lookV, zeroValue, typeInfo, hi1, hi2, hset, goInt]
    · simp only [setM]; rw [Array.getElem?_setIfInBounds]; simp [hr]
    · simp [h2]
    · simp
    · rw [List.nodup_append]
      refine ⟨h3, by simp, ?_⟩
      intro b hb b' hb'
      obtain ⟨e, he, rfl⟩ := List.mem_map.1 hb
      have := h4 e he
      simp at hb'
      omega
    · intro b hb
      rcases List.mem_append.1 hb with hb | hb
      · obtain ⟨e, he, rfl⟩ := List.mem_map.1 hb
        have := h4 e he; omega
      · simp at hb; omega
    · rw [List.getElem?_append_right (by rw [List.length_map]; omega)]
      simp only [List.length_map]
      rw [hlen, Nat.sub_self]; rfl
    · simp [lookV, hl]
    · intro v
      simp [ups, hl]
  | some q =>
    obtain ⟨i, v0⟩ := q
    have hli := look_spec l a i v0 hl
    have hil := (List.getElem?_eq_some_iff.1 hli).1
    have hie : i < es.size := by simpa using (show i < es.toList.length by omega)
    have hkey : es[i].key = kv a := by
      have := congrArg (·[i]?) h2
      simp only [List.getElem?_map, hli, Option.map_some] at this
      rw [Array.getElem?_toList, Array.getElem?_eq_getElem hie] at this
      simp at this
      exact this.1
    refine ⟨setM w r (.map (es.modify i fun e => { e with key := kv a }) c), es[i].born, i, l, ?_, ⟨es.toList.map (·.born), c, ⟨⟨es.modify i fun e => { e with key := kv a }, ?_, ?_, ?_⟩, h3, ?_⟩, ?_⟩, ?_, ?_, setM_fram w r _⟩
    · intro ds dst ty ps af g
      simp [execOp, evO_eval hx, evO_eval hy, Instr.mapEntry, run_underlying ht, hget, hK.chk, hK.find a es.toList l w h2, hl, lookV, hset, goInt, hie, hkey, hK.stay]
    · simp only [setM]; rw [Array.getElem?_setIfInBounds]; simp [hr]
    · apply List.ext_getElem?
      intro j
      have hj := congrArg (·[j]?) h2
      simp only [List.getElem?_map, Array.getElem?_toList] at hj ⊢
      rw [Array.getElem?_modify]
      by_cases hij : i = j
      · subst hij
        rw [if_pos rfl, ← hj]
        simp [hie, hkey]
      · rw [if_neg hij]; exact hj
    · apply List.ext_getElem?
      intro j
      simp only [List.getElem?_map, Array.getElem?_toList]
      rw [Array.getElem?_modify]
      by_cases hij : i = j
      · subst hij
        rw [if_pos rfl]
        cases es[i]? <;> rfl
      · rw [if_neg hij]
    · intro b hb
      obtain ⟨e, he, rfl⟩ := List.mem_map.1 hb
      exact h4 e he
    · simp [hie]
    · simp [lookV, hl, hli]
    · intro v
      simp [ups, hl]

set_option linter.unusedSectionVars false in
theorem so_entryStore {t r i st : Nat} {x y z : Operand} {a : α} {v v0 : Value} {l : List (α × Value)} {bs : List Nat} {c : Nat} (hx : evO n e x = some (.map (some r))) (hy : evO n e y = some (.int .i64 (st : Nat))) (hz : evO n e z = some v) (hM : MapC kv w.heap r l bs c) (hb : bs[i]? = some st) (hl : l[i]? = some (a, v0)) :
    ∃ w1, SO P n e w (.entryStore t x y z) w1 ∧ MapC kv w1.heap r (l.set i (a, v)) bs c ∧ Fram (fun b => b = r) w w1 := by
  obtain ⟨es, h1, h2, h3⟩ := hM.ex
  have hr := (Array.getElem?_eq_some_iff.1 h1).1
  have hlen : es.toList.length = l.length := by have := congrArg List.length h2; simpa using this
  have hil := (List.getElem?_eq_some_iff.1 hl).1
  have hie : i < es.size := by simpa using (show i < es.toList.length by omega)
  have hkey : es[i].key = kv a := by
    have := congrArg (·[i]?) h2
    simp only [List.getElem?_map, hl, Option.map_some] at this
    rw [Array.getElem?_toList, Array.getElem?_eq_getElem hie] at this
    simp at this
    exact this.1
  have hborn : es[i].born = st := by
    rw [← h3] at hb
    simp only [List.getElem?_map, Array.getElem?_toList, Array.getElem?_eq_getElem hie, Option.map_some] at hb
    exact Option.some.inj hb
  have hnd := hM.nd
  rw [← h3] at hnd
  have hfind : es.findIdx? (fun e => (e.born : Int) == (st : Int)) = some i := by
    rw [Array.findIdx?_eq_some_iff_getElem]
    refine ⟨hie, by simp [hborn], ?_⟩
    intro j hj
    simp
    intro hx
    have h5 := (List.pairwise_iff_getElem.1 hnd) j i (by simp; omega) (by simpa using hie) hj
    simp only [List.getElem_map, Array.getElem_toList] at h5
    apply h5
    rw [hborn]
    omega
  refine ⟨setM w r (.map (es.modify i fun e => { e with val := v }) c), ?_, ⟨⟨es.modify i fun e => { e with val := v }, ?_, ?_, ?_⟩, hM.nd, hM.lt⟩, setM_fram w r _⟩
  · intro ds dst ty ps af g
    have hget : (getObj r).run P w = .ok (.map es c) w := run_getObjM h1
    have hset : ∀ o, (setObj r o).run P w = .ok () (setM w r o) := fun o => run_setObjM h1 o
    simp [execOp, evO_eval hx, evO_eval hy, evO_eval hz, Instr.entryStore, hget, asInt, asIntOf, hfind, hset]
  · simp only [setM]; rw [Array.getElem?_setIfInBounds]; simp [hr]
  · apply List.ext_getElem?
    intro j
    have hj := congrArg (·[j]?) h2
    simp only [List.getElem?_map, Array.getElem?_toList] at hj ⊢
    rw [Array.getElem?_modify, List.getElem?_set]
    by_cases hij : i = j
    · subst hij
      simp [hie, hil, hkey]
    · rw [if_neg hij, if_neg hij]; exact hj
  · rw [← h3]
    apply List.ext_getElem?
    intro j
    simp only [List.getElem?_map, Array.getElem?_toList]
    rw [Array.getElem?_modify]
    by_cases hij : i = j
    · subst hij
      rw [if_pos rfl]
      cases es[i]? <;> rfl
    · rw [if_neg hij]

/-- An iterator over the map. -/
def ItAt (H : Array Obj) (ri r since : Nat) (seen : Array Nat) (c0 : Nat) : Prop := H[ri]? = some (.mapIter (some r) since seen c0)

theorem ItAt.fram {F : Nat → Prop} {w w' : World} {ri r since c0 : Nat} {seen : Array Nat} (h : ItAt w.heap ri r since seen c0) (hf : Fram F w w') (hn : ¬ F ri) : ItAt w'.heap ri r since seen c0 := by
  unfold ItAt at h ⊢
  rw [hf.block ri (Array.getElem?_eq_some_iff.1 h).1 hn]; exact h

set_option linter.unusedSectionVars false in
theorem eo_range {t et r : Nat} {x : Operand} {l : List (α × Value)} {bs : List Nat} {c : Nat} (hx : evO n e x = some (.map (some r))) (ht : P.underlying t = some (.map kt et)) (hM : MapC kv w.heap r l bs c) :
    EO P n e w (.range t x) (ptr w.heap.size) (w.alloc (.mapIter (some r) c #[] c)) := by
  intro ds dst ty ps af g
  obtain ⟨es, h1, h2, h3⟩ := hM.ex
  have := run_range_map (P := P) w t kt et r es c ht h1
  simp [execOp, evO_eval hx, this, ptr]

set_option linter.unusedSectionVars false in
theorem next_cases {ri r : Nat} {l : List (α × Value)} {bs : List Nat} {c : Nat} {seen : Array Nat} (hM : MapC kv w.heap r l bs c) (hI : ItAt w.heap ri r c seen c) (ty : TypeId) :
    ((∀ b ∈ bs, b ∈ seen) ∧ (Instr.next (ptr ri) false ty).run P w = .ok (.tuple #[.bool false]) w) ∨
    ∃ (i : Nat) (k : α) (v : Value) (b : Nat) (w1 : World), l[i]? = some (k, v) ∧ bs[i]? = some b ∧ b ∉ seen ∧ (Instr.next (ptr ri) false ty).run P w = .ok (.tuple #[.bool true, kv k, v]) w1 ∧ ItAt w1.heap ri r c (seen.push b) c ∧ Fram (fun x => x = ri) w w1 := by
  obtain ⟨es, h1, h2, h3⟩ := hM.ex
  have hri := (Array.getElem?_eq_some_iff.1 hI).1
  have hold : ∀ x ∈ es.toList, x.born < c := fun x hx => hM.lt _ (by rw [← h3]; exact List.mem_map_of_mem hx)
  rcases run_next_at (P := P) w ty ri r c c seen es c hI h1 hold (Nat.le_refl _) with ⟨h4, h5⟩ | ⟨x, hx, w1, hw1, h5⟩
  · refine .inl ⟨?_, h5⟩
    intro b hb
    rw [← h3] at hb
    obtain ⟨x, hx, rfl⟩ := List.mem_map.1 hb
    have h6 : leftOf es seen = #[] := Array.eq_empty_of_size_eq_zero h4
    unfold leftOf at h6
    rw [Array.filter_eq_empty_iff] at h6
    have := h6 x (by simpa using hx)
    simpa using this
  · right
    unfold leftOf at hx
    simp at hx
    obtain ⟨hxe, hxs⟩ := hx
    obtain ⟨i, hi, rfl⟩ := Array.getElem_of_mem hxe
    have hlen : es.size = l.length := by have := congrArg List.length h2; simpa using this
    obtain ⟨⟨k, v⟩, hkv⟩ : ∃ p, l[i]? = some p := ⟨_, List.getElem?_eq_getElem (by omega)⟩
    have hek : es[i].key = kv k ∧ es[i].val = v := by
      have := congrArg (·[i]?) h2
      simp [hkv, hi] at this
      exact this
    refine ⟨i, k, v, es[i].born, Go.ChangeMaps.setBlock w1 ri (.mapIter (some r) c (seen.push es[i].born) c), hkv, by rw [← h3]; simp [hi], by simpa using hxs, ?_, ?_, ?_⟩
    · rw [← hek.1, ← hek.2]; exact h5
    · have : ri < w1.heap.size := by rcases hw1 with rfl | rfl <;> exact hri
      simp [ItAt, Go.ChangeMaps.setBlock, this]
    · rcases hw1 with rfl | rfl
      · exact setM_fram _ ri _
      · exact (Fram.drew _ w (w.drawn + 1)).trans (setM_fram _ ri _)

set_option linter.unusedSectionVars false in
theorem ro_entry {ri r i b : Nat} {x : Operand} {l : List (α × Value)} {bs : List Nat} {c : Nat} {seen : Array Nat} {k : α} {v : Value} (hx : evO n e x = some (ptr ri)) (hM : MapC kv w.heap r l bs c) (hI : ItAt w.heap ri r c (seen.push b) c) (hl : l[i]? = some (k, v)) (hb : bs[i]? = some b) :
    RO P n e w (.entry x) (.tuple #[kv k, v]) := by
  intro ds dst ty ps af g
  obtain ⟨es, h1, h2, h3⟩ := hM.ex
  have hlen : es.size = l.length := by have := congrArg List.length h2; simpa using this
  have hi : i < es.size := by have := (List.getElem?_eq_some_iff.1 hl).1; omega
  have hek : es[i].key = kv k ∧ es[i].val = v := by
    have := congrArg (·[i]?) h2
    simp [hl, hi] at this
    exact this
  have hborn : es[i].born = b := by
    rw [← h3] at hb
    simp [hi] at hb
    exact hb
  have := run_entry_at (P := P) w ri r c seen es c es[i] (by rw [hborn]; exact hI) h1 (by simp) (by rw [h3]; exact hM.nd)
  rw [hek.1, hek.2] at this
  simp only [ptr] at hx
  simp [execOp, evO_eval hx, this]

end

section
variable {α : Type} [DecidableEq α] {P : Program} {kt : TypeId} {kv : α → Value} {n : Nat} {e : Nat → Option Value} {ds : List Deferred} {w w1 : World} {ops : Array Oper} {Q : Exit → Act → World → Prop} {rest : List Oper}
  {d : Nat} {op : Op} {ty : TypeId} {ps : String} {af : Array Edge} {v : Value}

set_option linter.unusedSectionVars false in
theorem wl_next {ri r : Nat} {x : Operand} {l : List (α × Value)} {bs : List Nat} {c : Nat} {seen : Array Nat} (hx : evO n e x = some (ptr ri)) (hM : MapC kv w.heap r l bs c) (hI : ItAt w.heap ri r c seen c)
    (k1 : (∀ b ∈ bs, b ∈ seen) → WL P ops Q rest (Fr n (upd e d (.tuple #[.bool false])) ds) w)
    (k2 : ∀ (i : Nat) (k : α) (v : Value) (b : Nat) (w1 : World), l[i]? = some (k, v) → bs[i]? = some b → b ∉ seen → ItAt w1.heap ri r c (seen.push b) c → Fram (fun x => x = ri) w w1 → WL P ops Q rest (Fr n (upd e d (.tuple #[.bool true, kv k, v])) ds) w1) :
    WL P ops Q (⟨some d, .next x false, ty, ps, af, none⟩ :: rest) (Fr n e ds) w := by
  rcases next_cases (P := P) hM hI ty with ⟨h1, h2⟩ | ⟨i, k, v, b, w1, h1, h2, h3, h4, h5, h6⟩
  · refine ⟨wpList_plain rfl fun K hK => ?_⟩
    unfold Oper.wp
    have : (execOp (Fr n e ds).eval ⟨some d, .next x false, ty, ps, af, none⟩).run P w = .ok (.value (.tuple #[.bool false])) w := by
      simp [execOp, evO_eval hx, h2]
    rw [this]
    simp only [Oper.upon, put_some]
    exact hK _ _ (k1 h1).out
  · refine ⟨wpList_plain rfl fun K hK => ?_⟩
    unfold Oper.wp
    have : (execOp (Fr n e ds).eval ⟨some d, .next x false, ty, ps, af, none⟩).run P w = .ok (.value (.tuple #[.bool true, kv k, v])) w1 := by
      simp [execOp, evO_eval hx, h4]
    rw [this]
    simp only [Oper.upon, put_some]
    exact hK _ _ (k2 i k v b w1 h1 h2 h3 h5 h6).out

end
end Go.Proofs.Qxb6500569aGreat
