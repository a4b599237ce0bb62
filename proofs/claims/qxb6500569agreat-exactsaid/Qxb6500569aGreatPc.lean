import Derived.Test.Qxb6500569aGreatPb
/- Plain: unwinding, marks. -/
namespace Go.Proofs.Qxb6500569aGreat
set_option linter.unusedVariables false
set_option linter.unusedSimpArgs false

theorem unb_nil (t : List Nat) : unb t [] = t := rfl
theorem unb_cons (t : List Nat) (v : Nat) (vs : List Nat) : unb t (v :: vs) = (unb t vs).set v 0 := rfl
theorem unb_append (t : List Nat) (a b : List Nat) : unb t (a ++ b) = unb (unb t b) a := by simp [unb, List.foldr_append]
theorem unb_length (t vs : List Nat) : (unb t vs).length = t.length := by
  induction vs with
  | nil => rfl
  | cons v vs ih => rw [unb_cons, List.length_set, ih]
theorem unb_take (n : Nat) (t vs : List Nat) : unb (t.take n) vs = (unb t vs).take n := by
  induction vs with
  | nil => rfl
  | cons v vs ih =>
    rw [unb_cons, unb_cons, ih]
    apply List.ext_getElem?
    intro i
    simp only [List.getElem?_set, List.getElem?_take, List.length_take]
    by_cases h : v = i
    · subst h
      by_cases h1 : v < n
      · by_cases h2 : v < (unb t vs).length
        · simp [h1, h2]; omega
        · simp [h1, h2]; omega
      · simp [h1]; omega
    · simp [h]
theorem unb_app (t u vs : List Nat) (h : ∀ v ∈ vs, v < t.length) : unb (t ++ u) vs = unb t vs ++ u := by
  induction vs with
  | nil => rfl
  | cons v vs ih =>
    rw [unb_cons, unb_cons, ih (fun x hx => h x (by simp [hx])), List.set_append_left _ _ (by rw [unb_length]; exact h v (by simp))]
theorem unb_get (t vs : List Nat) (a : Nat) : (unb t vs)[a]? = if a ∈ vs ∧ a < t.length then some 0 else t[a]? := by
  induction vs with
  | nil => simp [unb]
  | cons v vs ih =>
    rw [unb_cons, List.getElem?_set, unb_length, ih]
    by_cases h : v = a
    · subst h
      by_cases hl : v < t.length
      · simp [hl]
      · simp [hl]
    · have : ¬ a = v := fun e => h e.symm
      simp [h, this]

/-- The words of unbound variables are of no meaning. -/
theorem wfc_word {R : RH} (w : WFc R) {ws : List Nat} (hl : ws.length = R.word.length) (ha : ∀ a : Nat, (R.tags[a]? = some 1 ∨ R.tags[a]? = some 2) → ws[a]? = R.word[a]?) : WFc { R with word := ws } := by
  constructor
  · exact hl.trans w.len1
  · exact w.len2
  · exact w.size
  · exact w.tag
  · intro a h; obtain ⟨x, h1, h2, h3⟩ := w.bnd a h; exact ⟨x, by rw [ha a (.inr h)]; exact h1, h2, h3⟩
  · intro a h; obtain ⟨o, d, h1, h2⟩ := w.str a h; exact ⟨o, d, by rw [ha a (.inl h)]; exact h1, h2⟩
  · exact w.arg
  · exact w.acap
  · exact w.trl
  · exact w.tmem

theorem node_word {R : RH} (w : WFc R) {ws : List Nat} (ha : ∀ a : Nat, (R.tags[a]? = some 1 ∨ R.tags[a]? = some 2) → ws[a]? = R.word[a]?) (a : Nat) (hl : a < R.tags.length) : ({ R with word := ws } : RH).node a = R.node a := by
  rcases tag_cases w hl with ht | ht | ht
  · rw [node_var ht, node_var (R := { R with word := ws }) ht]
  · obtain ⟨o, f, d, h1, h2, h3, _⟩ := str_full w ht
    rw [node_str ht h1 h2 h3, node_str (R := { R with word := ws }) ht (by rw [ha a (.inl ht)]; exact h1) h2 h3]
  · obtain ⟨x, h1, _⟩ := w.bnd a ht
    rw [node_bnd ht h1, node_bnd (R := { R with word := ws }) ht (by rw [ha a (.inr ht)]; exact h1)]

theorem abs_word {R : RH} (w : WFc R) {ws : List Nat} (ha : ∀ a : Nat, (R.tags[a]? = some 1 ∨ R.tags[a]? = some 2) → ws[a]? = R.word[a]?) : ({ R with word := ws } : RH).abs = R.abs := by
  unfold RH.abs
  refine List.map_congr_left ?_
  intro a h
  exact node_word w ha a (by simpa using h)

def RH.snaps (R : RH) : List (List Nd) := R.marks.map (fun m => (R.undo m).abs)

/-- R' is R behind some bindings. -/
structure Ext (R R' : RH) : Prop where
  heads : R'.heads = R.heads
  args : R'.args = R.args
  marks : R'.marks = R.marks
  wlen : R'.word.length = R.word.length
  trail : ∃ vs, R'.trail = R.trail ++ vs ∧ unb R'.tags vs = R.tags
  word : ∀ a : Nat, (R.tags[a]? = some 1 ∨ R.tags[a]? = some 2) → R'.word[a]? = R.word[a]?

theorem Ext.refl (R : RH) : Ext R R := ⟨rfl, rfl, rfl, rfl, ⟨[], by simp, rfl⟩, fun _ _ => rfl⟩

theorem Ext.tlen {R R' : RH} (h : Ext R R') : R'.tags.length = R.tags.length := by
  obtain ⟨vs, _, h2⟩ := h.trail
  rw [← h2, unb_length]

theorem Ext.bind {R R' : RH} (h : Ext R R') {v t : Nat} (hv : R'.tags[v]? = some 0) : Ext R (R'.bind v t) := by
  have hvl := (List.getElem?_eq_some_iff.1 hv).1
  obtain ⟨vs, h1, h2⟩ := h.trail
  refine ⟨h.heads, h.args, h.marks, by simpa [RH.bind] using h.wlen, ⟨vs ++ [v], by simp [RH.bind, h1], ?_⟩, ?_⟩
  · rw [unb_append]
    have : unb (R'.bind v t).tags [v] = R'.tags := by
      show (R'.tags.set v 2).set v 0 = R'.tags
      rw [List.set_set]
      apply List.ext_getElem?
      intro i
      rw [List.getElem?_set]
      split
      · rename_i e; subst e; rw [hv]
      · rfl
    rw [this, h2]
  · intro a ha
    have hne : v ≠ a := by
      intro e; subst e
      have : R.tags[v]? = some 0 := by
        rw [← h2, unb_get]
        split
        · rfl
        · exact hv
      rw [this] at ha; simp at ha
    show (R'.word.set v t)[a]? = _
    rw [List.getElem?_set, if_neg hne]
    exact h.word a ha

theorem undo_ext {R R' : RH} (h : Ext R R') {m : Nat × Nat × Nat} (hm : m.2.2 ≤ R.trail.length) : R'.undo m = { R.undo m with word := R'.word.take m.1 } := by
  obtain ⟨vs, h1, h2⟩ := h.trail
  unfold RH.undo
  have e1 : R'.trail.drop m.2.2 = R.trail.drop m.2.2 ++ vs := by rw [h1, List.drop_append_of_le_length hm]
  have e2 : R'.trail.take m.2.2 = R.trail.take m.2.2 := by rw [h1, List.take_append_of_le_length hm]
  simp only [h.heads, h.args, h.marks, e1, e2, unb_append, h2]

theorem undo_word_ok {R R' : RH} (h : Ext R R') (m : Nat × Nat × Nat) : ∀ a : Nat, ((R.undo m).tags[a]? = some 1 ∨ (R.undo m).tags[a]? = some 2) → (R'.word.take m.1)[a]? = (R.undo m).word[a]? := by
  intro a ha
  simp only [RH.undo, List.getElem?_take] at ha ⊢
  split at ha
  · rename_i hlt
    rw [unb_get] at ha
    rw [if_pos hlt, if_pos hlt]
    split at ha
    · simp at ha
    · exact h.word a ha
  · simp at ha

theorem snaps_ext {R R' : RH} (w : WF R) (h : Ext R R') : R'.snaps = R.snaps := by
  unfold RH.snaps
  rw [h.marks]
  refine List.map_congr_left ?_
  intro m hm
  obtain ⟨_, _, h3, h4⟩ := w.mks m hm
  rw [undo_ext h h3]
  exact abs_word h4 (undo_word_ok h m)

theorem wf_ext {R R' : RH} (w : WF R) (h : Ext R R') (hc : WFc R') : WF R' := by
  refine ⟨hc, ?_, by rw [h.marks]; exact w.mono, by rw [h.marks]; exact w.mcap⟩
  intro m hm
  rw [h.marks] at hm
  obtain ⟨h1, h2, h3, h4⟩ := w.mks m hm
  obtain ⟨vs, t1, _⟩ := h.trail
  refine ⟨by rw [h.tlen]; exact h1, by rw [h.args]; exact h2, by rw [t1]; simp; omega, ?_⟩
  rw [undo_ext h h3]
  exact wfc_word h4 (by simp [RH.undo, h.wlen]) (undo_word_ok h m)

def RH.unw (R : RH) (k : Nat) : RH := { R with tags := unb R.tags (R.trail.drop k), trail := R.trail.take k }

theorem unw_ext {R R' : RH} (w : WF R) (h : Ext R R') : R'.unw R.trail.length = { R with word := R'.word } := by
  obtain ⟨vs, h1, h2⟩ := h.trail
  unfold RH.unw
  simp [h1, h2, h.heads, h.args, h.marks]

/-- Behind the unwinding all is as it was. -/
theorem wf_unw {R R' : RH} (w : WF R) (h : Ext R R') : WF (R'.unw R.trail.length) ∧ (R'.unw R.trail.length).abs = R.abs ∧ (R'.unw R.trail.length).snaps = R.snaps := by
  rw [unw_ext w h]
  have hE : Ext R { R with word := R'.word } := ⟨rfl, rfl, rfl, h.wlen, ⟨[], by simp, rfl⟩, h.word⟩
  have hc : WFc { R with word := R'.word } := wfc_word w.core h.wlen h.word
  exact ⟨wf_ext w hE hc, abs_word w.core h.word, snaps_ext w hE⟩

/-! ### a new mark, the undoing, the cut -/

def RH.push (R : RH) : RH := { R with marks := R.marks ++ [(R.tags.length, R.args.length, R.trail.length)] }

theorem undo_now (R R' : RH) (w : WFc R) (h : R'.tags = R.tags ∧ R'.word = R.word ∧ R'.heads = R.heads ∧ R'.args = R.args ∧ R'.trail = R.trail) : R'.undo (R.tags.length, R.args.length, R.trail.length) = R' := by
  obtain ⟨h1, h2, h3, h4, h5⟩ := h
  unfold RH.undo
  cases R'
  simp only at h1 h2 h3 h4 h5
  subst h1 h2 h3 h4 h5
  have a1 := w.len1
  have a2 := w.len2
  simp only [List.drop_length, unb_nil, RH.mk.injEq, List.take_length, and_true, true_and]
  exact ⟨by rw [← a1, List.take_length], by rw [← a2, List.take_length]⟩

theorem undo_marks (R : RH) (ms : List (Nat × Nat × Nat)) (m : Nat × Nat × Nat) : ({ R with marks := ms } : RH).undo m = { R.undo m with marks := ms } := rfl

theorem wfc_marks {R : RH} (w : WFc R) (ms : List (Nat × Nat × Nat)) : WFc { R with marks := ms } := ⟨w.len1, w.len2, w.size, w.tag, w.bnd, w.str, w.arg, w.acap, w.trl, w.tmem⟩

theorem abs_marks (R : RH) (ms : List (Nat × Nat × Nat)) : ({ R with marks := ms } : RH).abs = R.abs := rfl

theorem wf_push {R : RH} (w : WF R) (hm : R.marks.length < 26) : WF R.push ∧ R.push.abs = R.abs ∧ R.push.snaps = R.snaps ++ [R.abs] := by
  refine ⟨⟨wfc_marks w.core _, ?_, ?_, ?_⟩, rfl, ?_⟩
  · intro m h
    simp only [RH.push, List.mem_append, List.mem_singleton] at h
    rcases h with h | h
    · obtain ⟨h1, h2, h3, h4⟩ := w.mks m h
      exact ⟨h1, h2, h3, wfc_marks h4 _⟩
    · subst h
      refine ⟨Nat.le_refl _, Nat.le_refl _, Nat.le_refl _, ?_⟩
      rw [undo_now R R.push w.core ⟨rfl, rfl, rfl, rfl, rfl⟩]
      exact wfc_marks w.core _
  · intro i j m m' hij hi hj
    simp only [RH.push] at hi hj
    by_cases hj' : j < R.marks.length
    · rw [List.getElem?_append_left (by omega)] at hi
      rw [List.getElem?_append_left hj'] at hj
      exact w.mono i j m m' hij hi hj
    · have hj2 := (List.getElem?_eq_some_iff.1 hj).1
      simp at hj2
      have : j = R.marks.length := by omega
      subst this
      simp at hj
      subst hj
      by_cases hi' : i < R.marks.length
      · rw [List.getElem?_append_left hi'] at hi
        have hmem := List.mem_of_getElem? hi
        obtain ⟨h1, h2, h3, _⟩ := w.mks m hmem
        exact ⟨h1, h2, h3⟩
      · have : i = R.marks.length := by omega
        subst this
        simp at hi
        subst hi
        exact ⟨Nat.le_refl _, Nat.le_refl _, Nat.le_refl _⟩
  · simp [RH.push]; omega
  · simp only [RH.snaps, RH.push, List.map_append, List.map_cons, List.map_nil]
    congr 1
    have := undo_now R R.push w.core ⟨rfl, rfl, rfl, rfl, rfl⟩
    show [(R.push.undo (R.tags.length, R.args.length, R.trail.length)).abs] = [R.abs]
    rw [this]
    rfl

theorem undo_undo (R : RH) (m m' : Nat × Nat × Nat) (h : m'.1 ≤ m.1 ∧ m'.2.1 ≤ m.2.1 ∧ m'.2.2 ≤ m.2.2) (hm : m.2.2 ≤ R.trail.length) : (R.undo m).undo m' = R.undo m' := by
  obtain ⟨h1, h2, h3⟩ := h
  unfold RH.undo
  have e1 : R.trail.drop m'.2.2 = (R.trail.take m.2.2).drop m'.2.2 ++ R.trail.drop m.2.2 := by
    conv => lhs; rw [← List.take_append_drop m.2.2 R.trail]
    rw [List.drop_append_of_le_length (by simp; omega)]
  simp only [RH.mk.injEq, and_true]
  refine ⟨?_, ?_, ?_, ?_, ?_⟩
  · rw [unb_take, e1, unb_append, List.take_take, Nat.min_eq_left h1]
  · rw [List.take_take, Nat.min_eq_left h1]
  · rw [List.take_take, Nat.min_eq_left (by omega)]
  · rw [List.take_take, Nat.min_eq_left h2]
  · rw [List.take_take, Nat.min_eq_left h3]

theorem wf_undo {R : RH} (w : WF R) {m : Nat × Nat × Nat} (hm : R.marks.getLast? = some m) : WF (R.undo m) ∧ (R.undo m).snaps = R.snaps ∧ R.snaps.getLast? = some (R.undo m).abs := by
  have hmem : m ∈ R.marks := List.mem_of_getLast? hm
  obtain ⟨h1, h2, h3, h4⟩ := w.mks m hmem
  have hlast : ∃ j, j + 1 = R.marks.length ∧ R.marks[j]? = some m := by
    rw [List.getLast?_eq_getElem?] at hm
    exact ⟨R.marks.length - 1, by have := (List.getElem?_eq_some_iff.1 hm).1; omega, hm⟩
  obtain ⟨j, hj1, hj2⟩ := hlast
  have le : ∀ m' ∈ R.marks, m'.1 ≤ m.1 ∧ m'.2.1 ≤ m.2.1 ∧ m'.2.2 ≤ m.2.2 := by
    intro m' hm'
    obtain ⟨i, hi⟩ := List.getElem?_of_mem hm'
    have := (List.getElem?_eq_some_iff.1 hi).1
    exact w.mono i j m' m (by omega) hi hj2
  refine ⟨⟨h4, ?_, w.mono, w.mcap⟩, ?_, ?_⟩
  · intro m' hm'
    have hle := le m' hm'
    obtain ⟨k1, k2, k3, k4⟩ := w.mks m' hm'
    refine ⟨?_, ?_, ?_, ?_⟩
    · simp [RH.undo, unb_length]; omega
    · simp [RH.undo]; omega
    · simp [RH.undo]; omega
    · rw [undo_undo R m m' hle h3]; exact k4
  · unfold RH.snaps
    show R.marks.map _ = _
    refine List.map_congr_left ?_
    intro m' hm'
    rw [undo_undo R m m' (le m' hm') h3]
  · unfold RH.snaps
    rw [List.getLast?_map, hm]
    rfl

def RH.cut (R : RH) (k : Nat) : RH := { R with marks := R.marks.take k }

theorem wf_cut {R : RH} (w : WF R) (k : Nat) : WF (R.cut k) ∧ (R.cut k).abs = R.abs ∧ (R.cut k).snaps = R.snaps.take k := by
  refine ⟨⟨wfc_marks w.core _, ?_, ?_, ?_⟩, rfl, ?_⟩
  · intro m h
    obtain ⟨h1, h2, h3, h4⟩ := w.mks m (List.mem_of_mem_take h)
    exact ⟨h1, h2, h3, wfc_marks h4 _⟩
  · intro i j m m' hij hi hj
    simp only [RH.cut, List.getElem?_take] at hi hj
    split at hi
    · split at hj
      · exact w.mono i j m m' hij hi hj
      · cases hj
    · cases hi
  · simp [RH.cut]; have := w.mcap; omega
  · simp [RH.snaps, RH.cut, List.map_take]
    rfl

/-! ### new nodes behind the old -/

/-- R' has R's rows at their heads; trail and marks are R's. -/
structure Longer (R R' : RH) : Prop where
  tags : ∃ l, R'.tags = R.tags ++ l
  word : ∃ l, R'.word = R.word ++ l
  heads : ∃ l, R'.heads = R.heads ++ l
  args : ∃ l, R'.args = R.args ++ l
  trail : R'.trail = R.trail
  marks : R'.marks = R.marks

theorem undo_longer {R R' : RH} (w : WF R) (h : Longer R R') {m : Nat × Nat × Nat} (hm : m ∈ R.marks) : R'.undo m = R.undo m := by
  obtain ⟨h1, h2, h3, h4⟩ := w.mks m hm
  obtain ⟨l1, e1⟩ := h.tags
  obtain ⟨l2, e2⟩ := h.word
  obtain ⟨l3, e3⟩ := h.heads
  obtain ⟨l4, e4⟩ := h.args
  unfold RH.undo
  simp only [RH.mk.injEq]
  refine ⟨?_, ?_, ?_, ?_, ?_, h.marks⟩
  · rw [e1, h.trail, unb_app _ _ _ (fun v hv => (List.getElem?_eq_some_iff.1 (w.core.tmem v (List.mem_of_mem_drop hv))).1), List.take_append_of_le_length (by rw [unb_length]; exact h1)]
  · rw [e2, List.take_append_of_le_length (by rw [w.core.len1]; exact h1)]
  · rw [e3, List.take_append_of_le_length (by rw [w.core.len2]; omega)]
  · rw [e4, List.take_append_of_le_length h2]
  · rw [h.trail]

theorem wf_longer {R R' : RH} (w : WF R) (h : Longer R R') (hc : WFc R') : WF R' ∧ R'.snaps = R.snaps := by
  obtain ⟨l1, e1⟩ := h.tags
  obtain ⟨l4, e4⟩ := h.args
  refine ⟨⟨hc, ?_, by rw [h.marks]; exact w.mono, by rw [h.marks]; exact w.mcap⟩, ?_⟩
  · intro m hm
    rw [h.marks] at hm
    obtain ⟨h1, h2, h3, h4⟩ := w.mks m hm
    refine ⟨by rw [e1]; simp; omega, by rw [e4]; simp; omega, by rw [h.trail]; exact h3, ?_⟩
    rw [undo_longer w h hm]; exact h4
  · unfold RH.snaps
    rw [h.marks]
    refine List.map_congr_left ?_
    intro m hm
    rw [undo_longer w h hm]

def RH.empty : RH := ⟨[], [], [], [], [], []⟩

theorem wf_empty : WF RH.empty := by
  refine ⟨⟨rfl, rfl, by simp [RH.empty], ?_, ?_, ?_, ?_, by simp [RH.empty], rfl, ?_⟩, ?_, ?_, by simp [RH.empty]⟩ <;> simp [RH.empty]

end Go.Proofs.Qxb6500569aGreat
