import Derived.Test.Qxb6500568aGreatDoorTq
/- The things of the world, each with what it owns. -/
namespace Go.Proofs.Qxb6500568aGreatDoor
open Ieee
set_option linter.unusedVariables false
set_option linter.unusedSimpArgs false
set_option linter.unusedSectionVars false

section
variable {w w' : World} {n0 cb sb db mb tb nb xb bb bb' mc : Nat} {oc ov oc' ov' : Nat → Nat} {s : Str} {fuel : Int} {t : Tr} {k : Nat} {G O O' : Nat → Prop}
theorem TwR.lt (h : TwR n0 w cb sb db mb tb nb xb bb oc ov) {b : Nat} (q : towO oc ov db nb bb b) : b < w.heap.size := by
  rcases q with q | q
  · refine Nat.lt_of_not_le fun z => ?_
    rw [h.df b z] at q
    exact tc66 q
  · exact h.dr.lt q
theorem drO.old (x : Xt w ov ov') (hb : bb' = bb ∨ w.heap.size ≤ bb') {b : Nat} (q : drO ov' db nb bb' b) : drO ov db nb bb b ∨ w.heap.size ≤ b := by
  by_cases hl : b < w.heap.size
  · refine .inl ?_
    rcases q with q | q | q | q
    · rw [x b hl] at q; exact .inl q
    · exact .inr (.inl q)
    · exact .inr (.inr (.inl q))
    · rcases hb with z | z
      · exact .inr (.inr (.inr (by rw [q, z])))
      · omega
  · exact .inr (by omega)
theorem towO.old (x : Xt w oc oc') (y : Xt w ov ov') (hb : bb' = bb ∨ w.heap.size ≤ bb') {b : Nat} (q : towO oc' ov' db nb bb' b) : towO oc ov db nb bb b ∨ w.heap.size ≤ b := by
  rcases q with q | q
  · by_cases hl : b < w.heap.size
    · rw [x b hl] at q; exact .inl (.inl q)
    · exact .inr (by omega)
  · exact (drO.old y hb q).imp_left .inr
/-- a tower; O: what it owns. -/
def TEn (n0 cb : Nat) (w : World) (O : Nat → Prop) : Prop := ∃ sb db mb tb nb xb bb oc ov, TwR n0 w cb sb db mb tb nb xb bb oc ov ∧ ∀ b, towO oc ov db nb bb b → O b
/-- a driver. -/
def DEn (db : Nat) (w : World) (O : Nat → Prop) : Prop := ∃ mb tb nb xb bb ov, DrR w db mb tb nb xb bb ov ∧ ∀ b, drO ov db nb bb b → O b
/-- a model. -/
def MEn (mc : Nat) (w : World) (O : Nat → Prop) : Prop := ∃ nn mt ms om T, Blk w.heap mc [ptr nn, ptr mt, ptr ms] 53 ∧ Blk w.heap ms [ptr nn] 101 ∧ MTV w om (ptr nn) mt T ∧ (∀ b, w.heap.size ≤ b → om b = 66) ∧ (¬ mtag (om mc) ∧ ¬ mtag (om ms)) ∧ (O mc ∧ O ms) ∧ ∀ b, mtag (om b) → O b
theorem TEn.own (h : TEn n0 cb w O) (hO : ∀ b, b < w.heap.size → O b → O' b) : TEn n0 cb w O' := by
  obtain ⟨sb, db, mb, tb, nb, xb, bb, oc, ov, h1, h2⟩ := h
  exact ⟨sb, db, mb, tb, nb, xb, bb, oc, ov, h1, fun b q => hO b (h1.lt q) (h2 b q)⟩
theorem DEn.own (h : DEn db w O) (hO : ∀ b, b < w.heap.size → O b → O' b) : DEn db w O' := by
  obtain ⟨mb, tb, nb, xb, bb, ov, h1, h2⟩ := h
  exact ⟨mb, tb, nb, xb, bb, ov, h1, fun b q => hO b (h1.lt q) (h2 b q)⟩
theorem MEn.own (h : MEn mc w O) (hO : ∀ b, b < w.heap.size → O b → O' b) : MEn mc w O' := by
  obtain ⟨nn, mt, ms, om, T, h1, h2, h3, h4, h5, ⟨h6, h7⟩, h8⟩ := h
  refine ⟨nn, mt, ms, om, T, h1, h2, h3, h4, h5, ⟨hO _ h1.lt h6, hO _ h2.lt h7⟩, fun b q => hO b ?_ (h8 b q)⟩
  refine Nat.lt_of_not_le fun z => ?_
  rw [h4 b z] at q
  exact nm66 q
theorem TEn.far (h : TEn n0 cb w O) (f : Fram G w w') (hn : ∀ b, b < w.heap.size → O b → ¬ G b) : TEn n0 cb w' O := by
  obtain ⟨sb, db, mb, tb, nb, xb, bb, oc, ov, h1, h2⟩ := h
  exact ⟨sb, db, mb, tb, nb, xb, bb, oc, ov, h1.far f (fun b l q => hn b l (h2 b q)), h2⟩
theorem DEn.far (h : DEn db w O) (f : Fram G w w') (hn : ∀ b, b < w.heap.size → O b → ¬ G b) : DEn db w' O := by
  obtain ⟨mb, tb, nb, xb, bb, ov, h1, h2⟩ := h
  exact ⟨mb, tb, nb, xb, bb, ov, h1.far f (fun b l q => hn b l (h2 b q)), h2⟩
theorem MEn.far (h : MEn mc w O) (f : Fram G w w') (hn : ∀ b, b < w.heap.size → O b → ¬ G b) : MEn mc w' O := by
  obtain ⟨nn, mt, ms, om, T, h1, h2, h3, h4, h5, ⟨h6, h7⟩, h8⟩ := h
  exact ⟨nn, mt, ms, om, T, h1.fram f (hn _ h1.lt h6), h2.fram f (hn _ h2.lt h7), h3.far f (fun b q l => hn b l (h8 b q)) (Xt.refl _ _), fun b hb => h4 b (by have := f.size; omega), h5, ⟨h6, h7⟩, h8⟩
theorem TEn.img (h : TEn n0 cb w O) (h0 : n0 ≤ w.heap.size) (hG : GV w (o9n n0)) : Ret Tryz.prog 24 [ptr cb, S s] w (fun r w' => ImgR s r ∧ Fram O w w' ∧ TEn n0 cb w' (fun b => O b ∨ w.heap.size ≤ b)) := by
  obtain ⟨sb, db, mb, tb, nb, xb, bb, oc, ov, h1, h2⟩ := h
  refine (h1.image (s := s) h0 hG).mono ?_
  rintro r w' ⟨hI, f, oc', ov', bb', k1, k2, k3, k4⟩
  exact ⟨hI, f.mono (fun b _ q => h2 b q), sb, db, mb, tb, nb, xb, bb', oc', ov', k1, fun b q => (towO.old k2 k3 k4 q).imp_left (h2 b)⟩
theorem TEn.run (h : TEn n0 cb w O) (h0 : n0 ≤ w.heap.size) (hG : GV w (o9n n0)) (hfu : fuel < 9223372036854775808) : Ret Tryz.prog 22 [ptr cb, S s, icv fuel] w (fun r w' => RunR s fuel.toNat r ∧ Fram O w w' ∧ TEn n0 cb w' (fun b => O b ∨ w.heap.size ≤ b)) := by
  obtain ⟨sb, db, mb, tb, nb, xb, bb, oc, ov, h1, h2⟩ := h
  refine (h1.run (s := s) h0 hG hfu).mono ?_
  rintro r w' ⟨hI, f, oc', ov', bb', k1, k2, k3, k4⟩
  exact ⟨hI, f.mono (fun b _ q => h2 b q), sb, db, mb, tb, nb, xb, bb', oc', ov', k1, fun b q => (towO.old k2 k3 k4 q).imp_left (h2 b)⟩
theorem TEn.check (h : TEn n0 cb w O) : Ret Tryz.prog 47 [ptr cb] w (fun r w' => r = .bool true ∧ Fram none' w w') := by
  obtain ⟨sb, db, mb, tb, nb, xb, bb, oc, ov, h1, h2⟩ := h
  exact h1.check
theorem TEn.left (h : TEn n0 cb w O) : Ret Tryz.prog 45 [ptr cb] w (fun r w' => r = i64c 0 ∧ Fram none' w w') := by
  obtain ⟨sb, db, mb, tb, nb, xb, bb, oc, ov, h1, h2⟩ := h
  exact h1.left
theorem TEn.new (h0 : n0 ≤ w.heap.size) : Ret Tryz.prog 5 [] w (fun v w' => ∃ cb, v = ptr cb ∧ TEn n0 cb w' (fun b => w.heap.size ≤ b) ∧ Fram none' w w') := by
  refine (New5r h0).mono ?_
  rintro r w' ⟨cb, sb, db, mb, tb, nb, xb, bb, oc, ov, rfl, h1, h2, f⟩
  exact ⟨cb, rfl, ⟨sb, db, mb, tb, nb, xb, bb, oc, ov, h1, h2⟩, f⟩
theorem DEn.run (h : DEn db w O) (hp : prsV s = .inr (t, k)) (hfu : fuel < 9223372036854775808) :
    Ret Tryz.prog 25 [ptr db, S (img (progF t (k + 1))), icv fuel] w (fun r w' => RunR s fuel.toNat r ∧ Fram O w w' ∧ DEn db w' (fun b => O b ∨ w.heap.size ≤ b)) := by
  obtain ⟨mb, tb, nb, xb, bb, ov, h1, h2⟩ := h
  refine (h1.run hp hfu).mono ?_
  rintro r w' ⟨hI, f, ov', bb', k1, k2, k3⟩
  exact ⟨hI, f.mono (fun b _ q => h2 b q), mb, tb, nb, xb, bb', ov', k2, fun b q => (drO.old k1 k3 q).imp_left (h2 b)⟩
theorem DEn.left (h : DEn db w O) : Ret Tryz.prog 44 [ptr db] w (fun r w' => r = i64c 0 ∧ Fram none' w w') := by
  obtain ⟨mb, tb, nb, xb, bb, ov, h1, h2⟩ := h
  exact h1.left
theorem DEn.new : Ret Tryz.prog 9 [] w (fun v w' => ∃ db, v = ptr db ∧ DEn db w' (fun b => w.heap.size ≤ b) ∧ Fram none' w w') := by
  refine New9r.mono ?_
  rintro r w' ⟨db, mb, tb, nb, xb, bb, ov, rfl, h1, h2, f⟩
  exact ⟨db, rfl, ⟨mb, tb, nb, xb, bb, ov, h1, h2⟩, f⟩
theorem MEn.run (h : MEn mc w O) (hfu : fuel < 9223372036854775808) : Ret Tryz.prog 23 [ptr mc, S s, icv fuel] w (fun r w' => RunR s fuel.toNat r ∧ Fram O w w' ∧ MEn mc w' (fun b => O b ∨ w.heap.size ≤ b)) := by
  obtain ⟨nn, mt, ms, om, T, h1, h2, h3, h4, ⟨h9, h10⟩, ⟨h6, h7⟩, h8⟩ := h
  refine (Run23 (s := s) h1 h2 h3 hfu).mono ?_
  rintro r w' ⟨hr, om', T', x, hm, f⟩
  have hz := f.size
  have e : ∀ b, b < w.heap.size → cut66 w' om' b = om b := fun b hb => by rw [cut66_xt w' om' b (by omega)]; exact x b hb
  refine ⟨hr, f.mono (fun b _ q => h8 b q), nn, mt, ms, cut66 w' om', T', h1.fram f h9, h2.fram f h10, hm.far (Fram.refl none' _) (fun _ _ _ q => q) (cut66_xt w' om'), cut66_df _ _, ⟨by rw [e _ h1.lt]; exact h9, by rw [e _ h2.lt]; exact h10⟩, ⟨.inl h6, .inl h7⟩, fun b q => ?_⟩
  by_cases hl : b < w.heap.size
  · rw [e b hl] at q; exact .inl (h8 b q)
  · exact .inr (by omega)
theorem MEn.new : Ret Tryz.prog 6 [] w (fun v w' => ∃ mc, v = ptr mc ∧ MEn mc w' (fun b => w.heap.size ≤ b) ∧ Fram none' w w') := by
  refine New6.mono ?_
  rintro r w' ⟨mc, nn, mt, ms, rfl, ⟨n1, n2, n3⟩, q1, q2, q3, f⟩
  have hm := q3 (moS mt) (ot_self _ _ _)
  obtain ⟨V, rows, k1, -⟩ := hm.ex
  have e1 : mc ≠ mt := fun e => by rw [e] at q1; exact absurd (q1.uniq k1).2 (by decide)
  have e2 : ms ≠ mt := fun e => by rw [e] at q2; exact absurd (q2.uniq k1).2 (by decide)
  refine ⟨mc, rfl, ⟨nn, mt, ms, moS mt, [], q1, q2, hm, fun b hb => ot_old (by have := k1.lt; omega), ⟨fun q => e1 (moS_m q), fun q => e2 (moS_m q)⟩, ⟨n2, n3⟩, fun b q => by rw [moS_m q]; exact n1⟩, f⟩
end
section
variable {w0 w w' w1 w2 : World} {n0 id : Nat} {W W' : Nat → Nat} {Lx Lm Ld : List Nat} {Li : List (Str × Str)} {G O O' : Nat → Prop} {Vx Vm Vd Vi V' : Value} {wb c : Nat}
/-- who is number id. -/
def ENm (n0 : Nat) (Lx Lm Ld : List Nat) (id : Nat) (w : World) (O : Nat → Prop) : Prop := (∀ i cb, id = 3 * i + 1 → Lx[i]? = some cb → TEn n0 cb w O) ∧ (∀ i mc, id = 3 * i + 2 → Lm[i]? = some mc → MEn mc w O) ∧ ∀ i db, id = 3 * i + 3 → Ld[i]? = some db → DEn db w O
theorem ENm.own (h : ENm n0 Lx Lm Ld id w O) (hO : ∀ b, b < w.heap.size → O b → O' b) : ENm n0 Lx Lm Ld id w O' := ⟨fun i c e q => (h.1 i c e q).own hO, fun i c e q => (h.2.1 i c e q).own hO, fun i c e q => (h.2.2 i c e q).own hO⟩
theorem ENm.far (h : ENm n0 Lx Lm Ld id w O) (f : Fram G w w') (hn : ∀ b, b < w.heap.size → O b → ¬ G b) : ENm n0 Lx Lm Ld id w' O := ⟨fun i c e q => (h.1 i c e q).far f hn, fun i c e q => (h.2.1 i c e q).far f hn, fun i c e q => (h.2.2 i c e q).far f hn⟩
def owU (ow : Nat → Nat) (w : World) (n : Nat) : Nat → Nat := fun b => if b < w.heap.size then ow b else n
theorem owU_lt {ow : Nat → Nat} {w : World} {n b : Nat} (h : b < w.heap.size) : owU ow w n b = ow b := if_pos h
theorem owU_ge {ow : Nat → Nat} {w : World} {n b : Nat} (h : w.heap.size ≤ b) : owU ow w n b = n := if_neg (by omega)
/-- the things of the world. -/
structure WEn (n0 : Nat) (w : World) (W : Nat → Nat) (Lx Lm Ld : List Nat) : Prop where
  en : ∀ id, id ≠ 0 → ENm n0 Lx Lm Ld id w (fun b => W b = id)
  lw : ∀ b, b < n0 → W b = 0
  n0 : n0 ≤ w.heap.size
theorem WEn.far (h : WEn n0 w W Lx Lm Ld) (f : Fram G w w') (hn : ∀ b, b < w.heap.size → W b ≠ 0 → ¬ G b) (hE : ∀ b, b < w.heap.size → W' b = W b) : WEn n0 w' W' Lx Lm Ld :=
  ⟨fun id hi => ((h.en id hi).own (O' := fun b => b < w.heap.size ∧ W b = id) (fun b l q => ⟨l, q⟩) |>.far f (fun b l q => hn b l (by rw [q.2]; exact hi))).own (fun b _ q => by show W' b = id; rw [hE b q.1]; exact q.2), fun b hb => by rw [hE b (by have := h.n0; omega)]; exact h.lw b hb, Nat.le_trans h.n0 f.size⟩
/-- number id has gone on. -/
theorem WEn.go (h : WEn n0 w W Lx Lm Ld) (hi : id ≠ 0) (f : Fram (fun b => W b = id) w w') (hE : ENm n0 Lx Lm Ld id w' (fun b => W b = id ∨ w.heap.size ≤ b)) : WEn n0 w' (owU W w id) Lx Lm Ld := by
  refine ⟨fun j hj => ?_, fun b hb => by rw [owU_lt (by have := h.n0; omega)]; exact h.lw b hb, Nat.le_trans h.n0 f.size⟩
  by_cases e : j = id
  · subst e
    refine hE.own fun b _ q => ?_
    by_cases hl : b < w.heap.size
    · show owU W w j b = j
      rw [owU_lt hl]
      rcases q with q | q
      · exact q
      · omega
    · exact owU_ge (by omega)
  · exact ((h.en j hj).own (O' := fun b => b < w.heap.size ∧ W b = j) (fun b l q => ⟨l, q⟩) |>.far f (fun b l q z => e (q.2.symm.trans z))).own (fun b _ q => by show owU W w id b = j; rw [owU_lt q.1]; exact q.2)
theorem snoc_get {α : Type} {L : List α} {c x : α} {i : Nat} (h : (L ++ [c])[i]? = some x) : L[i]? = some x ∨ (i = L.length ∧ x = c) := by
  rcases Nat.lt_or_ge i L.length with q | q
  · rw [List.getElem?_append_left q] at h; exact .inl h
  · have hlt := (List.getElem?_eq_some_iff.1 h).1
    have : i = L.length := by simp at hlt; omega
    subst this
    rw [List.getElem?_append_right (by omega)] at h
    simp at h
    exact .inr ⟨rfl, h.symm⟩
theorem WEn.newX (h : WEn n0 w W Lx Lm Ld) (f : Fram none' w w') (hE : TEn n0 c w' (fun b => w.heap.size ≤ b)) : WEn n0 w' (owU W w (3 * Lx.length + 1)) (Lx ++ [c]) Lm Ld := by
  have hf := h.far f (fun _ _ _ q => q) (W' := owU W w (3 * Lx.length + 1)) (fun b hb => owU_lt hb)
  refine ⟨fun j hj => ⟨fun i cb e q => ?_, (hf.en j hj).2.1, (hf.en j hj).2.2⟩, hf.lw, hf.n0⟩
  rcases snoc_get q with q | ⟨q1, q2⟩
  · exact (hf.en j hj).1 i cb e q
  · subst q1 q2
    exact hE.own fun b _ q => by show owU W w _ b = j; rw [owU_ge q, e]
theorem WEn.newM (h : WEn n0 w W Lx Lm Ld) (f : Fram none' w w') (hE : MEn c w' (fun b => w.heap.size ≤ b)) : WEn n0 w' (owU W w (3 * Lm.length + 2)) Lx (Lm ++ [c]) Ld := by
  have hf := h.far f (fun _ _ _ q => q) (W' := owU W w (3 * Lm.length + 2)) (fun b hb => owU_lt hb)
  refine ⟨fun j hj => ⟨(hf.en j hj).1, fun i cb e q => ?_, (hf.en j hj).2.2⟩, hf.lw, hf.n0⟩
  rcases snoc_get q with q | ⟨q1, q2⟩
  · exact (hf.en j hj).2.1 i cb e q
  · subst q1 q2
    exact hE.own fun b _ q => by show owU W w _ b = j; rw [owU_ge q, e]
theorem WEn.newD (h : WEn n0 w W Lx Lm Ld) (f : Fram none' w w') (hE : DEn c w' (fun b => w.heap.size ≤ b)) : WEn n0 w' (owU W w (3 * Ld.length + 3)) Lx Lm (Ld ++ [c]) := by
  have hf := h.far f (fun _ _ _ q => q) (W' := owU W w (3 * Ld.length + 3)) (fun b hb => owU_lt hb)
  refine ⟨fun j hj => ⟨(hf.en j hj).1, (hf.en j hj).2.1, fun i cb e q => ?_⟩, hf.lw, hf.n0⟩
  rcases snoc_get q with q | ⟨q1, q2⟩
  · exact (hf.en j hj).2.2 i cb e q
  · subst q1 q2
    exact hE.own fun b _ q => by show owU W w _ b = j; rw [owU_ge q, e]
end
end Go.Proofs.Qxb6500568aGreatDoor
