import Derived.Test.Qxb6500569aGreatPa
/- Plain: the heap as it lies in parallel lists; its reading as nodes; binding, unwinding, marks. -/
namespace Go.Proofs.Qxb6500569aGreat
set_option linter.unusedVariables false
set_option linter.unusedSimpArgs false

structure RH where
  tags : List Nat
  word : List Nat
  heads : List UInt8
  args : List Nat
  trail : List Nat
  marks : List (Nat × Nat × Nat)

def pad4 (l : List Nat) : List Nat := (l ++ [0, 0, 0, 0]).take 4

def RH.ary (R : RH) (a : Nat) : Nat := (R.heads.getD (2 * a + 1) 0).toNat - 48

def RH.node (R : RH) (a : Nat) : Nd :=
  if R.tags.getD a 0 = 1 then ⟨[R.heads.getD (2 * a) 0, R.heads.getD (2 * a + 1) 0], 0, pad4 ((R.args.drop (R.word.getD a 0)).take (R.ary a))⟩
  else ⟨[], if R.tags.getD a 0 = 2 then R.word.getD a 0 else a, [0, 0, 0, 0]⟩

def RH.abs (R : RH) : List Nd := (List.range R.tags.length).map R.node

/-- The store is sound (the marks apart). -/
structure WFc (R : RH) : Prop where
  len1 : R.word.length = R.tags.length
  len2 : R.heads.length = 2 * R.tags.length
  size : R.tags.length ≤ 64
  tag : ∀ (a x : Nat), R.tags[a]? = some x → x ≤ 2
  bnd : ∀ (a : Nat), R.tags[a]? = some 2 → ∃ x : Nat, R.word[a]? = some x ∧ x < R.tags.length ∧ (R.tags[x]? = some 1 ∨ x < a)
  str : ∀ (a : Nat), R.tags[a]? = some 1 → ∃ (o : Nat) (d : UInt8), R.word[a]? = some o ∧ R.heads[2 * a + 1]? = some d ∧ 48 ≤ d.toNat ∧ d.toNat ≤ 52 ∧ o + (d.toNat - 48) ≤ R.args.length
  arg : ∀ (i x : Nat), R.args[i]? = some x → x < R.tags.length
  acap : R.args.length ≤ 4 * R.tags.length
  trl : R.trail.length = R.tags.count 2
  tmem : ∀ (v : Nat), v ∈ R.trail → R.tags[v]? = some 2

def unb (tags : List Nat) (vs : List Nat) : List Nat := vs.foldr (fun v t => t.set v 0) tags

def RH.undo (R : RH) (m : Nat × Nat × Nat) : RH :=
  { R with tags := (unb R.tags (R.trail.drop m.2.2)).take m.1, word := R.word.take m.1, heads := R.heads.take (2 * m.1), args := R.args.take m.2.1, trail := R.trail.take m.2.2 }

structure WF (R : RH) : Prop where
  core : WFc R
  mks : ∀ (m : Nat × Nat × Nat), m ∈ R.marks → m.1 ≤ R.tags.length ∧ m.2.1 ≤ R.args.length ∧ m.2.2 ≤ R.trail.length ∧ WFc (R.undo m)
  mono : ∀ (i j : Nat) (m m' : Nat × Nat × Nat), i ≤ j → R.marks[i]? = some m → R.marks[j]? = some m' → m.1 ≤ m'.1 ∧ m.2.1 ≤ m'.2.1 ∧ m.2.2 ≤ m'.2.2
  mcap : R.marks.length ≤ 26

theorem abs_length (R : RH) : R.abs.length = R.tags.length := by simp [RH.abs]

theorem abs_get (R : RH) (a : Nat) (h : a < R.tags.length) : R.abs[a]? = some (R.node a) := by simp [RH.abs, h]

theorem node_var {R : RH} {a : Nat} (h : R.tags[a]? = some 0) : R.node a = ⟨[], a, [0, 0, 0, 0]⟩ := by simp [RH.node, List.getD, h]

theorem node_bnd {R : RH} {a x : Nat} (h : R.tags[a]? = some 2) (hw : R.word[a]? = some x) : R.node a = ⟨[], x, [0, 0, 0, 0]⟩ := by simp [RH.node, List.getD, h, hw]

theorem node_str {R : RH} {a o : Nat} {f d : UInt8} (h : R.tags[a]? = some 1) (hw : R.word[a]? = some o) (h1 : R.heads[2 * a]? = some f) (h2 : R.heads[2 * a + 1]? = some d) :
    R.node a = ⟨[f, d], 0, pad4 ((R.args.drop o).take (d.toNat - 48))⟩ := by simp [RH.node, RH.ary, List.getD, h, hw, h1, h2]

theorem abs_some {R : RH} {a : Nat} {nd : Nd} (h : R.abs[a]? = some nd) : a < R.tags.length ∧ nd = R.node a := by
  have ha : a < R.tags.length := by
    have := (List.getElem?_eq_some_iff.1 h).1
    rwa [abs_length] at this
  rw [abs_get R a ha] at h
  exact ⟨ha, by simpa using h.symm⟩

theorem tag_cases {R : RH} (w : WFc R) {a : Nat} (h : a < R.tags.length) : R.tags[a]? = some 0 ∨ R.tags[a]? = some 1 ∨ R.tags[a]? = some 2 := by
  have hx := List.getElem?_eq_getElem h
  have := w.tag a _ hx
  rw [hx]
  simp only [Option.some.injEq]
  omega

theorem str_full {R : RH} (w : WFc R) {a : Nat} (h : R.tags[a]? = some 1) : ∃ (o : Nat) (f d : UInt8), R.word[a]? = some o ∧ R.heads[2 * a]? = some f ∧ R.heads[2 * a + 1]? = some d ∧ 48 ≤ d.toNat ∧ d.toNat ≤ 52 ∧ o + (d.toNat - 48) ≤ R.args.length := by
  obtain ⟨o, d, h1, h2, h3, h4, h5⟩ := w.str a h
  have : 2 * a < R.heads.length := by have := (List.getElem?_eq_some_iff.1 h2).1; omega
  exact ⟨o, _, d, h1, List.getElem?_eq_getElem this, h2, h3, h4, h5⟩

theorem pad4_length (l : List Nat) : (pad4 l).length = 4 := by simp [pad4]

theorem pad4_get {l : List Nat} {i : Nat} (h : i < l.length) (h4 : l.length ≤ 4) : (pad4 l)[i]? = l[i]? := by
  unfold pad4
  rw [List.getElem?_take, if_pos (by omega), List.getElem?_append_left h]

theorem wfh_abs {R : RH} (w : WFc R) : WFH R.abs := by
  constructor
  · intro a nd h hv
    obtain ⟨ha, rfl⟩ := abs_some h
    rw [abs_length]
    rcases tag_cases w ha with ht | ht | ht
    · rw [node_var ht]; exact ⟨ha, .inl (Nat.le_refl _)⟩
    · obtain ⟨o, f, d, h1, h2, h3, _⟩ := str_full w ht
      rw [node_str ht h1 h2 h3] at hv; simp at hv
    · obtain ⟨x, h1, h2, h3⟩ := w.bnd a ht
      rw [node_bnd ht h1]
      refine ⟨h2, ?_⟩
      rcases h3 with h3 | h3
      · right
        obtain ⟨o, f, d, k1, k2, k3, _⟩ := str_full w h3
        exact ⟨_, abs_get R x h2, by rw [node_str h3 k1 k2 k3]; simp⟩
      · left; exact Nat.le_of_lt h3
  · intro a nd h hv
    obtain ⟨ha, rfl⟩ := abs_some h
    rcases tag_cases w ha with ht | ht | ht
    · rw [node_var ht] at hv; simp at hv
    · obtain ⟨o, f, d, h1, h2, h3, h4, h5, h6⟩ := str_full w ht
      rw [node_str ht h1 h2 h3]
      refine ⟨⟨f, d, rfl, h4, h5⟩, pad4_length _, ?_⟩
      intro i x hx hi
      simp only [ar] at hi
      have hl : ((R.args.drop o).take (d.toNat - 48)).length = d.toNat - 48 := by simp; omega
      rw [pad4_get (by rw [hl]; exact hi) (by rw [hl]; omega)] at hx
      rw [List.getElem?_take, if_pos hi, List.getElem?_drop] at hx
      rw [abs_length]
      exact w.arg _ _ hx
    · obtain ⟨x, h1, h2, h3⟩ := w.bnd a ht
      rw [node_bnd ht h1] at hv; simp at hv

/-- What node a is, off the abstract heap. -/
theorem abs_of_str {R : RH} (w : WFc R) {a : Nat} (ht : R.tags[a]? = some 1) : ∃ (o : Nat) (f d : UInt8), R.word[a]? = some o ∧ R.heads[2 * a]? = some f ∧ R.heads[2 * a + 1]? = some d ∧ 48 ≤ d.toNat ∧ d.toNat ≤ 52 ∧ o + (d.toNat - 48) ≤ R.args.length ∧ R.abs[a]? = some ⟨[f, d], 0, pad4 ((R.args.drop o).take (d.toNat - 48))⟩ := by
  obtain ⟨o, f, d, h1, h2, h3, h4, h5, h6⟩ := str_full w ht
  refine ⟨o, f, d, h1, h2, h3, h4, h5, h6, ?_⟩
  rw [abs_get R a (List.getElem?_eq_some_iff.1 ht).1, node_str ht h1 h2 h3]

theorem abs_of_var {R : RH} {a : Nat} (ht : R.tags[a]? = some 0) : R.abs[a]? = some ⟨[], a, [0, 0, 0, 0]⟩ := by
  rw [abs_get R a (List.getElem?_eq_some_iff.1 ht).1, node_var ht]

theorem abs_of_bnd {R : RH} {a x : Nat} (ht : R.tags[a]? = some 2) (hw : R.word[a]? = some x) : R.abs[a]? = some ⟨[], x, [0, 0, 0, 0]⟩ := by
  rw [abs_get R a (List.getElem?_eq_some_iff.1 ht).1, node_bnd ht hw]

/-- A chain's end is no bound variable. -/
theorem deref_tag {R : RH} (w : WFc R) {a : Nat} (ha : a < R.tags.length) : deref R.abs a < R.tags.length ∧ (R.tags[deref R.abs a]? = some 0 ∨ R.tags[deref R.abs a]? = some 1) := by
  have hw := wfh_abs w
  have hl := deref_lt hw (a := a) (by rw [abs_length]; exact ha)
  rw [abs_length] at hl
  refine ⟨hl, ?_⟩
  obtain ⟨nd, hx, hn⟩ := deref_spec hw (a := a) (by rw [abs_length]; exact ha)
  rcases tag_cases w hl with ht | ht | ht
  · exact .inl ht
  · exact .inr ht
  · obtain ⟨x, h1, h2, h3⟩ := w.bnd _ ht
    rw [abs_of_bnd ht h1] at hx
    simp only [Option.some.injEq] at hx
    subst hx
    simp at hn
    exfalso
    rcases h3 with h3 | h3
    · rw [← hn] at ht; rw [ht] at h3; simp at h3
    · omega

/-! ### binding -/

def RH.bind (R : RH) (v t : Nat) : RH := { R with word := R.word.set v t, tags := R.tags.set v 2, trail := R.trail ++ [v] }

theorem wfc_bind {R : RH} (w : WFc R) {v t : Nat} (hv : R.tags[v]? = some 0) (ht : t < R.tags.length) (hd : R.tags[t]? = some 1 ∨ t < v) : WFc (R.bind v t) := by
  have hvl := (List.getElem?_eq_some_iff.1 hv).1
  constructor
  · simp [RH.bind, w.len1]
  · simp [RH.bind, w.len2]
  · simp [RH.bind, w.size]
  · intro a x h
    simp only [RH.bind, List.getElem?_set] at h
    split at h
    · simp [hvl] at h; omega
    · exact w.tag a x h
  · intro a h
    simp only [RH.bind, List.getElem?_set, List.length_set] at h ⊢
    by_cases ha : v = a
    · subst ha
      refine ⟨t, by simp [w.len1, hvl], ht, ?_⟩
      by_cases htv : v = t
      · subst htv; rcases hd with hd | hd
        · rw [hv] at hd; simp at hd
        · omega
      · simp [htv]; exact hd
    · simp only [ha, if_false] at h ⊢
      obtain ⟨x, h1, h2, h3⟩ := w.bnd a h
      refine ⟨x, h1, h2, ?_⟩
      by_cases hx : v = x
      · subst hx
        rcases h3 with h3 | h3
        · rw [hv] at h3; simp at h3
        · exact .inr h3
      · simp [hx]; exact h3
  · intro a h
    simp only [RH.bind, List.getElem?_set] at h ⊢
    by_cases ha : v = a
    · subst ha; simp [hvl] at h
    · simp only [ha, if_false] at h ⊢
      exact w.str a h
  · intro i x h; simp only [RH.bind, List.length_set] at h ⊢; exact w.arg i x h
  · simp [RH.bind, w.acap]
  · have : (R.tags.set v 2).count 2 = R.tags.count 2 + 1 := by
      rw [List.count_set (by exact hvl)]
      have : R.tags[v] = 0 := by rw [List.getElem?_eq_getElem hvl] at hv; simpa using hv
      simp [this]
    simp [RH.bind, this, w.trl]
  · intro u hu
    simp only [RH.bind, List.mem_append, List.mem_singleton, List.getElem?_set] at hu ⊢
    by_cases ha : v = u
    · subst ha; simp [hvl]
    · simp only [ha, if_false]
      rcases hu with hu | hu
      · exact w.tmem u hu
      · exact absurd hu.symm ha

theorem abs_bind {R : RH} (w : WFc R) {v t : Nat} (hv : R.tags[v]? = some 0) : (R.bind v t).abs = R.abs.set v ⟨[], t, [0, 0, 0, 0]⟩ := by
  have hvl := (List.getElem?_eq_some_iff.1 hv).1
  apply List.ext_getElem?
  intro i
  by_cases hi : i < R.tags.length
  · rw [abs_get _ i (by simpa [RH.bind] using hi)]
    by_cases hiv : v = i
    · subst hiv
      rw [List.getElem?_set, if_pos rfl, if_pos (by rw [abs_length]; exact hi)]
      rw [node_bnd (x := t)]
      · simp [RH.bind, hvl]
      · simp [RH.bind, w.len1, hvl]
    · rw [List.getElem?_set, if_neg hiv, abs_get R i hi]
      have e1 : (R.bind v t).tags.getD i 0 = R.tags.getD i 0 := by simp [RH.bind, List.getD, List.getElem?_set, hiv]
      have e2 : (R.bind v t).word.getD i 0 = R.word.getD i 0 := by simp [RH.bind, List.getD, List.getElem?_set, hiv]
      simp only [RH.node, RH.ary, e1, e2]
      rfl
  · rw [List.getElem?_eq_none (by rw [abs_length]; simpa [RH.bind] using hi), List.getElem?_eq_none (by rw [List.length_set, abs_length]; omega)]

end Go.Proofs.Qxb6500569aGreat
