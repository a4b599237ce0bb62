import Derived.Test.Qxb6500569aGreatPe
/- Plain: the laying of a term, slot by slot. -/
namespace Go.Proofs.Qxb6500569aGreat
set_option linter.unusedVariables false
set_option linter.unusedSimpArgs false

def fillA (args : List Nat) : List Nat → List Nat → List Nat
  | s :: ss, k :: ks => fillA (args.set s k) ss ks
  | _, _ => args

theorem fillA_length : ∀ (ss ks args : List Nat), (fillA args ss ks).length = args.length
  | [], _, args => by simp [fillA]
  | s :: ss, [], args => by simp [fillA]
  | s :: ss, k :: ks, args => by simp [fillA, fillA_length ss ks]

theorem fillA_app : ∀ (ss ks args l : List Nat), (∀ s ∈ ss, s < args.length) → fillA (args ++ l) ss ks = fillA args ss ks ++ l
  | [], _, args, l, _ => by simp [fillA]
  | s :: ss, [], args, l, _ => by simp [fillA]
  | s :: ss, k :: ks, args, l, h => by
    simp only [fillA]
    rw [List.set_append_left _ _ (h s (by simp)), fillA_app ss ks _ l (fun x hx => by rw [List.length_set]; exact h x (by simp [hx]))]

theorem fillA_low : ∀ (ss ks args : List Nat) (m : Nat), (∀ s ∈ ss, m ≤ s) → ∀ i, i < m → (fillA args ss ks)[i]? = args[i]?
  | [], _, args, m, _, i, _ => by simp [fillA]
  | s :: ss, [], args, m, _, i, _ => by simp [fillA]
  | s :: ss, k :: ks, args, m, h, i, hi => by
    simp only [fillA]
    rw [fillA_low ss ks _ m (fun x hx => h x (by simp [hx])) i hi, List.getElem?_set, if_neg (by have := h s (by simp); omega)]

/-- The slots of a fresh window. -/
theorem fillA_new : ∀ (kids args ss ks : List Nat), fillA (args ++ List.replicate kids.length 0) (List.range' args.length kids.length ++ ss) (kids ++ ks) = fillA (args ++ kids) ss ks
  | [], args, ss, ks => by simp
  | k :: kids, args, ss, ks => by
    simp only [List.length_cons, List.range'_succ, List.cons_append, fillA, List.replicate_succ]
    have e : (args ++ 0 :: List.replicate kids.length 0).set args.length k = (args ++ [k]) ++ List.replicate kids.length 0 := by
      rw [List.set_append_right _ _ (by omega)]; simp
    rw [e]
    have := fillA_new kids (args ++ [k]) ss ks
    simp only [List.length_append, List.length_singleton, List.append_assoc, List.singleton_append] at this
    simp only [List.append_assoc, List.singleton_append]
    exact this

def RH.fill (P : RH) (ss ks : List Nat) : RH := { P with args := fillA P.args ss ks }

structure LayP (R P : RH) (T : Nat) (ss ks : List Nat) (E ns : List Nd) : Prop where
  lng : Longer R P
  len1 : P.word.length = P.tags.length
  len2 : P.heads.length = 2 * P.tags.length
  tag : ∀ (a x : Nat), P.tags[a]? = some x → x ≤ 2
  bnd : ∀ (a : Nat), P.tags[a]? = some 2 → ∃ x : Nat, P.word[a]? = some x ∧ x < P.tags.length ∧ (P.tags[x]? = some 1 ∨ x < a)
  str : ∀ (a : Nat), P.tags[a]? = some 1 → ∃ (o : Nat) (d : UInt8), P.word[a]? = some o ∧ P.heads[2 * a + 1]? = some d ∧ 48 ≤ d.toNat ∧ d.toNat ≤ 52 ∧ o + (d.toNat - 48) ≤ P.args.length
  argT : ∀ (i x : Nat), (fillA P.args ss ks)[i]? = some x → x < T
  acap : P.args.length ≤ 4 * P.tags.length
  trl : P.trail.length = P.tags.count 2
  tmem : ∀ (v : Nat), v ∈ P.trail → P.tags[v]? = some 2
  sl : ∀ s ∈ ss, R.args.length ≤ s ∧ s < P.args.length
  tot : P.tags.length + ns.length = T
  cap : T ≤ 64
  abs : (P.fill ss ks).abs ++ ns = E

theorem layP_start {R : RH} (w : WFc R) {ns : List Nd} (hT : R.tags.length + ns.length ≤ 64) : LayP R R (R.tags.length + ns.length) [] [] (R.abs ++ ns) ns :=
  ⟨⟨⟨[], by simp⟩, ⟨[], by simp⟩, ⟨[], by simp⟩, ⟨[], by simp⟩, rfl, rfl⟩, w.len1, w.len2, w.tag, w.bnd, w.str, fun i x h => by have := w.arg i x (by simpa [fillA] using h); omega, w.acap, w.trl, w.tmem, by simp, rfl, hT, by simp [RH.fill, fillA]⟩

theorem layP_end {R P : RH} {T : Nat} {E : List Nd} (h : LayP R P T [] [] E []) : WFc P ∧ P.abs = E ∧ Longer R P := by
  have ht := h.tot
  simp at ht
  refine ⟨⟨h.len1, h.len2, by have := h.cap; omega, h.tag, h.bnd, h.str, fun i x hx => by have := h.argT i x (by simpa [fillA] using hx); omega, h.acap, h.trl, h.tmem⟩, ?_, h.lng⟩
  have := h.abs
  simpa [RH.fill, fillA] using this

theorem layP_old {R P : RH} {T s a : Nat} {ss ks : List Nat} {E ns : List Nd} (h : LayP R P T (s :: ss) (a :: ks) E ns) : LayP R { P with args := P.args.set s a } T ss ks E ns := by
  obtain ⟨hs1, hs2⟩ := h.sl s (by simp)
  refine ⟨?_, h.len1, h.len2, h.tag, h.bnd, ?_, fun i x hx => h.argT i x hx, by simpa using h.acap, h.trl, h.tmem, ?_, h.tot, h.cap, h.abs⟩
  · obtain ⟨l, hl⟩ := h.lng.args
    refine ⟨h.lng.tags, h.lng.word, h.lng.heads, ⟨l.set (s - R.args.length) a, ?_⟩, h.lng.trail, h.lng.marks⟩
    show P.args.set s a = _
    rw [hl, List.set_append_right _ _ hs1]
  · intro b hb
    obtain ⟨o, d, h1, h2, h3, h4, h5⟩ := h.str b hb
    exact ⟨o, d, h1, h2, h3, h4, by simpa using h5⟩
  · intro x hx
    have := h.sl x (by simp [hx])
    simpa using this

/-- Old nodes are as they were. -/
theorem node_grow {P : RH} (len1 : P.word.length = P.tags.length) (len2 : P.heads.length = 2 * P.tags.length) {A : List Nat} (hs : ∀ (a : Nat), P.tags[a]? = some 1 → ∃ (o : Nat) (d : UInt8), P.word[a]? = some o ∧ P.heads[2 * a + 1]? = some d ∧ 48 ≤ d.toNat ∧ d.toNat ≤ 52 ∧ o + (d.toNat - 48) ≤ A.length)
    {t : List Nat} {wd : List Nat} {hd : List UInt8} {l tr : List Nat} {mk : List (Nat × Nat × Nat)} {a : Nat} (ha : a < P.tags.length) :
    (⟨P.tags ++ t, P.word ++ wd, P.heads ++ hd, A ++ l, tr, mk⟩ : RH).node a = ({ P with args := A } : RH).node a := by
  have e1 : (P.tags ++ t).getD a 0 = P.tags.getD a 0 := by simp [List.getD, List.getElem?_append_left ha]
  have e2 : (P.word ++ wd).getD a 0 = P.word.getD a 0 := by simp [List.getD, List.getElem?_append_left (show a < P.word.length by omega)]
  have e3 : (P.heads ++ hd).getD (2 * a) 0 = P.heads.getD (2 * a) 0 := by simp [List.getD, List.getElem?_append_left (show 2 * a < P.heads.length by omega)]
  have e4 : (P.heads ++ hd).getD (2 * a + 1) 0 = P.heads.getD (2 * a + 1) 0 := by simp [List.getD, List.getElem?_append_left (show 2 * a + 1 < P.heads.length by omega)]
  simp only [RH.node, RH.ary, e1, e2, e3, e4]
  by_cases h1 : P.tags.getD a 0 = 1
  · simp only [h1, if_true]
    have h1' : P.tags[a]? = some 1 := by
      rw [List.getElem?_eq_getElem ha]
      simp [List.getD, List.getElem?_eq_getElem ha] at h1
      simp [h1]
    obtain ⟨o, d, g1, g2, g3, g4, g5⟩ := hs a h1'
    have k1 : P.word.getD a 0 = o := by simp [List.getD, g1]
    have k2 : P.heads.getD (2 * a + 1) 0 = d := by simp [List.getD, g2]
    rw [k1, k2, List.drop_append_of_le_length (by omega), List.take_append_of_le_length (by simp; omega)]
  · simp only [h1, if_false]

theorem abs_grow {P : RH} (len1 : P.word.length = P.tags.length) (len2 : P.heads.length = 2 * P.tags.length) {A : List Nat} (hs : ∀ (a : Nat), P.tags[a]? = some 1 → ∃ (o : Nat) (d : UInt8), P.word[a]? = some o ∧ P.heads[2 * a + 1]? = some d ∧ 48 ≤ d.toNat ∧ d.toNat ≤ 52 ∧ o + (d.toNat - 48) ≤ A.length)
    {t x : Nat} {hd : List UInt8} {l tr : List Nat} {mk : List (Nat × Nat × Nat)} :
    (⟨P.tags ++ [t], P.word ++ [x], P.heads ++ hd, A ++ l, tr, mk⟩ : RH).abs = ({ P with args := A } : RH).abs ++ [(⟨P.tags ++ [t], P.word ++ [x], P.heads ++ hd, A ++ l, tr, mk⟩ : RH).node P.tags.length] := by
  unfold RH.abs
  rw [show (P.tags ++ [t]).length = P.tags.length + 1 by simp, List.range_succ, List.map_append]
  congr 1
  refine List.map_congr_left ?_
  intro a ha
  exact node_grow len1 len2 hs (by simpa using ha)

theorem layP_var {R P : RH} {T : Nat} {ss ks : List Nat} {E ns : List Nd} (h : LayP R P T ss ks E (vnd P.tags.length :: ns)) :
    LayP R { P with tags := P.tags ++ [0], word := P.word ++ [P.tags.length], heads := P.heads ++ [0, 0] } T ss ks E ns := by
  obtain ⟨l1, e1⟩ := h.lng.tags
  obtain ⟨l2, e2⟩ := h.lng.word
  obtain ⟨l3, e3⟩ := h.lng.heads
  have hl1 := h.len1
  have hl2 := h.len2
  refine ⟨⟨⟨l1 ++ [0], by simp [e1]⟩, ⟨l2 ++ [P.tags.length], by simp [e2]⟩, ⟨l3 ++ [0, 0], by simp [e3]⟩, h.lng.args, h.lng.trail, h.lng.marks⟩, by simp [hl1], by simp [hl2]; omega, ?_, ?_, ?_, h.argT, ?_, ?_, ?_, h.sl, ?_, h.cap, ?_⟩
  · intro a x hx
    simp only [List.getElem?_append] at hx
    split at hx
    · exact h.tag a x hx
    · have : x = 0 := by
        rcases hk : a - P.tags.length with _ | k
        · rw [hk] at hx; simpa using hx.symm
        · rw [hk] at hx; simp at hx
      omega
  · intro a ha
    simp only [List.getElem?_append] at ha
    split at ha
    · rename_i hal
      obtain ⟨x, g1, g2, g3⟩ := h.bnd a ha
      refine ⟨x, by rw [List.getElem?_append_left (by omega)]; exact g1, by simp; omega, ?_⟩
      rcases g3 with g3 | g3
      · left; rw [List.getElem?_append_left g2]; exact g3
      · exact .inr g3
    · rcases hk : a - P.tags.length with _ | k
      · rw [hk] at ha; simp at ha
      · rw [hk] at ha; simp at ha
  · intro a ha
    simp only [List.getElem?_append] at ha
    split at ha
    · rename_i hal
      obtain ⟨o, d, g1, g2, g3, g4, g5⟩ := h.str a ha
      exact ⟨o, d, by rw [List.getElem?_append_left (by omega)]; exact g1, by rw [List.getElem?_append_left (by omega)]; exact g2, g3, g4, g5⟩
    · rcases hk : a - P.tags.length with _ | k
      · rw [hk] at ha; simp at ha
      · rw [hk] at ha; simp at ha
  · have := h.acap; simp; omega
  · have := h.trl; simp [this]
  · intro v hv
    have := h.tmem v hv
    rw [List.getElem?_append_left (List.getElem?_eq_some_iff.1 this).1]; exact this
  · have := h.tot; simp at this ⊢; omega
  · have hab := h.abs
    have hg := abs_grow (P := P) hl1 hl2 (A := fillA P.args ss ks) (by intro a ha; rw [fillA_length]; exact h.str a ha) (t := 0) (x := P.tags.length) (hd := [0, 0]) (l := []) (tr := P.trail) (mk := P.marks)
    have hn : (⟨P.tags ++ [0], P.word ++ [P.tags.length], P.heads ++ [0, 0], fillA P.args ss ks ++ [], P.trail, P.marks⟩ : RH).node P.tags.length = vnd P.tags.length := by
      rw [node_var (by simp)]; rfl
    rw [hn] at hg
    simp only [List.append_nil] at hg
    show (⟨P.tags ++ [0], P.word ++ [P.tags.length], P.heads ++ [0, 0], fillA P.args ss ks, P.trail, P.marks⟩ : RH).abs ++ ns = E
    rw [hg, List.append_assoc]
    exact hab

theorem layP_str {R P : RH} {T : Nat} {ss ks kids : List Nat} {E ns : List Nd} {c d : UInt8} (h : LayP R P T ss ks E (⟨[c, d], 0, pad4 kids⟩ :: ns)) (hd : 48 ≤ d.toNat ∧ d.toNat ≤ 52) (hk : kids.length = d.toNat - 48) (hkT : ∀ k ∈ kids, k < T) :
    LayP R { P with tags := P.tags ++ [1], word := P.word ++ [P.args.length], heads := P.heads ++ [c, d], args := P.args ++ List.replicate kids.length 0 } T (List.range' P.args.length kids.length ++ ss) (kids ++ ks) E ns := by
  obtain ⟨l1, e1⟩ := h.lng.tags
  obtain ⟨l2, e2⟩ := h.lng.word
  obtain ⟨l3, e3⟩ := h.lng.heads
  obtain ⟨l4, e4⟩ := h.lng.args
  have hl1 := h.len1
  have hl2 := h.len2
  have hfill : fillA (P.args ++ List.replicate kids.length 0) (List.range' P.args.length kids.length ++ ss) (kids ++ ks) = fillA P.args ss ks ++ kids := by
    rw [fillA_new, fillA_app _ _ _ _ (fun s hs => (h.sl s hs).2)]
  refine ⟨⟨⟨l1 ++ [1], by simp [e1]⟩, ⟨l2 ++ [P.args.length], by simp [e2]⟩, ⟨l3 ++ [c, d], by simp [e3]⟩, ⟨l4 ++ List.replicate kids.length 0, by simp [e4]⟩, h.lng.trail, h.lng.marks⟩, by simp [hl1], by simp [hl2]; omega, ?_, ?_, ?_, ?_, ?_, ?_, ?_, ?_, ?_, h.cap, ?_⟩
  · intro a x hx
    simp only [List.getElem?_append] at hx
    split at hx
    · exact h.tag a x hx
    · have : x = 1 := by
        rcases hk : a - P.tags.length with _ | k
        · rw [hk] at hx; simpa using hx.symm
        · rw [hk] at hx; simp at hx
      omega
  · intro a ha
    simp only [List.getElem?_append] at ha
    split at ha
    · rename_i hal
      obtain ⟨x, g1, g2, g3⟩ := h.bnd a ha
      refine ⟨x, by rw [List.getElem?_append_left (by omega)]; exact g1, by simp; omega, ?_⟩
      rcases g3 with g3 | g3
      · left; rw [List.getElem?_append_left g2]; exact g3
      · exact .inr g3
    · rcases hk : a - P.tags.length with _ | k
      · rw [hk] at ha; simp at ha
      · rw [hk] at ha; simp at ha
  · intro a ha
    simp only [List.getElem?_append] at ha
    split at ha
    · rename_i hal
      obtain ⟨o, d, g1, g2, g3, g4, g5⟩ := h.str a ha
      exact ⟨o, d, by rw [List.getElem?_append_left (by omega)]; exact g1, by rw [List.getElem?_append_left (by omega)]; exact g2, g3, g4, by simp; omega⟩
    · have : a = P.tags.length := by
        rcases hk : a - P.tags.length with _ | k
        · omega
        · rw [hk] at ha; simp at ha
      subst this
      refine ⟨P.args.length, d, by rw [← hl1]; simp, ?_, hd.1, hd.2, by simp; omega⟩
      rw [← hl2, List.getElem?_append_right (by omega)]
      simp
  · intro i x hx
    rw [hfill, List.getElem?_append] at hx
    split at hx
    · exact h.argT i x hx
    · exact hkT x (List.mem_of_getElem? hx)
  · have := h.acap; simp; omega
  · have := h.trl; simp [this]
  · intro v hv
    have := h.tmem v hv
    rw [List.getElem?_append_left (List.getElem?_eq_some_iff.1 this).1]; exact this
  · intro s hs
    rcases List.mem_append.1 hs with hs | hs
    · rw [List.mem_range'_1] at hs
      have : R.args.length ≤ P.args.length := by rw [e4]; simp
      simp; omega
    · have := h.sl s hs
      simp; omega
  · have := h.tot; simp at this ⊢; omega
  · have hab := h.abs
    have hg := abs_grow (P := P) hl1 hl2 (A := fillA P.args ss ks) (by intro a ha; rw [fillA_length]; exact h.str a ha) (t := 1) (x := P.args.length) (hd := [c, d]) (l := kids) (tr := P.trail) (mk := P.marks)
    have hn : (⟨P.tags ++ [1], P.word ++ [P.args.length], P.heads ++ [c, d], fillA P.args ss ks ++ kids, P.trail, P.marks⟩ : RH).node P.tags.length = ⟨[c, d], 0, pad4 kids⟩ := by
      rw [node_str (o := P.args.length) (f := c) (d := d) (by simp) (by rw [← hl1]; simp) (by rw [← hl2]; simp) (by rw [← hl2, List.getElem?_append_right (by omega)]; simp)]
      congr 2
      have : P.args.length = (fillA P.args ss ks).length := (fillA_length _ _ _).symm
      rw [this, List.drop_left, ← hk, List.take_length]
    rw [hn] at hg
    show (⟨P.tags ++ [1], P.word ++ [P.args.length], P.heads ++ [c, d], fillA (P.args ++ List.replicate kids.length 0) (List.range' P.args.length kids.length ++ ss) (kids ++ ks), P.trail, P.marks⟩ : RH).abs ++ ns = E
    rw [hfill, hg, List.append_assoc]
    exact hab

end Go.Proofs.Qxb6500569aGreat
