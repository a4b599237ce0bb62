import Derived.Test.Qxb6500568aGreatDoorQu
import Derived.Test.Qxb6500568aGreatDoorTo
import Derived.Test.Qxb6500568aGreatDoorTj
/- The things of the world: towers, models, drivers. -/
namespace Go.Proofs.Qxb6500568aGreatDoor
open Ieee
set_option linter.unusedVariables false
set_option linter.unusedSimpArgs false
set_option linter.unusedSectionVars false

def o9n (n0 : Nat) : Nat → Nat := fun b => if b < n0 then 9 else 66
theorem o9n_lt {n0 b : Nat} (h : b < n0) : o9n n0 b = 9 := if_pos h
theorem o9n_9 {n0 b : Nat} (h : o9n n0 b = 9) : b < n0 := by
  unfold o9n at h
  split at h
  · assumption
  · cases h
theorem GS.rg {w : World} {ow ow' : Nat → Nat} {g n k : Nat} {rows : List (List Value)} (h : GS w ow g n k rows) (hE : ∀ b, ow b = 9 → ow' b = 9) : GS w ow' g n k rows := by
  obtain ⟨b, o, cap, h1, h2, h3, h4, h5, h6⟩ := h.ex
  exact ⟨⟨b, o, cap, h1, h2, h3, h4, hE _ h5, hE _ h6⟩, h.len⟩
theorem GV.rg {w : World} {ow ow' : Nat → Nat} (h : GV w ow) (hE : ∀ b, ow b = 9 → ow' b = 9) : GV w ow' := ⟨h.kw.rg hE, h.sg.rg hE, h.bi.rg hE⟩
theorem ck0 : Ck vl0 [] := ⟨⟨0, [], rfl, rfl, by decide⟩, .inl ⟨21, fun i _ _ => rfl, rfl, rfl, by decide⟩⟩
/-- a driver at rest. -/
structure DrR (w : World) (db mb tb nb xb bb : Nat) (ov : Nat → Nat) : Prop where
  m : ∃ L T, VT ⟨mb, tb, ptr nb, ptr xb⟩ nb xb w ov L T ∧ Ck L T
  n1 : Blk w.heap nb [.slice (some ⟨bb, 0, none⟩) 24 24] 72
  n2 : ∃ l, Blk w.heap bb l 5 ∧ l.length = 24
  tn : ov nb = 66 ∧ ov bb = 66 ∧ ov db = 66
  d : ∃ f : Nat, f < 5 ∧ Blk w.heap db [ptr mb, i64c f, .int .i64 0] 91
  no : ∀ b, ov b ≠ 412 ∧ ov b ≠ 413
def drO (ov : Nat → Nat) (db nb bb b : Nat) : Prop := vtT (ov b) ∨ b = db ∨ b = nb ∨ b = bb
section
variable {w w' : World} {n0 cb sb db mb tb nb xb bb : Nat} {oc ov : Nat → Nat} {s : Str} {fuel : Int} {t : Tr} {k : Nat} {G O O' : Nat → Prop}
theorem DrR.df (h : DrR w db mb tb nb xb bb ov) : ∀ b, w.heap.size ≤ b → ov b = 66 := by
  obtain ⟨L, T, q, -⟩ := h.m
  obtain ⟨V, U, op⟩ := q.m
  exact op.df
theorem DrR.lt (h : DrR w db mb tb nb xb bb ov) {b : Nat} (q : drO ov db nb bb b) : b < w.heap.size := by
  rcases q with q | q | q | q
  · refine Nat.lt_of_not_le fun z => ?_
    rw [h.df b z] at q
    exact vt66 q
  · obtain ⟨f, -, z⟩ := h.d; rw [q]; exact z.lt
  · rw [q]; exact h.n1.lt
  · obtain ⟨l, z, -⟩ := h.n2; rw [q]; exact z.lt
theorem DrR.far (h : DrR w db mb tb nb xb bb ov) (f : Fram G w w') (hn : ∀ b, b < w.heap.size → drO ov db nb bb b → ¬ G b) : DrR w' db mb tb nb xb bb ov := by
  obtain ⟨L, T, q1, q2⟩ := h.m
  obtain ⟨l, l1, l2⟩ := h.n2
  obtain ⟨f0, d1, d2⟩ := h.d
  have hs := f.size
  exact ⟨⟨L, T, ⟨q1.m.far f (fun b z l => hn b l (.inl (.inl z))) (Xt.refl _ _) (fun b hb => h.df b (by omega)), q1.t.far f (fun b z l => hn b l (.inl (.inr z))) (Xt.refl _ _)⟩, q2⟩,
    h.n1.fram f (hn _ h.n1.lt (.inr (.inr (.inl rfl)))), ⟨l, l1.fram f (hn _ l1.lt (.inr (.inr (.inr rfl)))), l2⟩, h.tn, ⟨f0, d1, d2.fram f (hn _ d2.lt (.inr (.inl rfl)))⟩, h.no⟩
theorem DrR.run (h : DrR w db mb tb nb xb bb ov) (hp : prsV s = .inr (t, k)) (hfu : fuel < 9223372036854775808) :
    Ret Tryz.prog 25 [ptr db, S (img (progF t (k + 1))), icv fuel] w (fun r w' => RunR s fuel.toNat r ∧ Fram (drO ov db nb bb) w w' ∧ ∃ ov' bb', Xt w ov ov' ∧ DrR w' db mb tb nb xb bb' ov' ∧ (bb' = bb ∨ w.heap.size ≤ bb')) := by
  obtain ⟨L, T, q, -⟩ := h.m
  obtain ⟨lN, l1, l2⟩ := h.n2
  obtain ⟨f0, d1, d2⟩ := h.d
  obtain ⟨n, b, hg, hb, hi⟩ := run_ends hp fuel.toNat
  obtain ⟨q1, q2, q3, q4, q5, q6⟩ := prog_all hp
  refine (Run25 q h.n1 l1 l2 h.tn.1 h.tn.2.1 d2 h.tn.2.2 q1 q2 q3 q4 ⟨q5, q6⟩ hfu hg hb h.no).mono ?_
  rintro r w' ⟨rfl, f, ow', L', T', f', bb', l', x, hno, hv, hck, ⟨k1, k2, k3⟩, ⟨k4, k5⟩, k6, k7, k8, k9⟩
  refine ⟨?_, f, ow', bb', x, ⟨⟨L', T', hv, hck⟩, k1, ⟨l', k2, k3⟩, ⟨k4, k5, k7⟩, ⟨f', k9, k8⟩, hno⟩, k6⟩
  unfold RunR
  rw [hp]
  exact ⟨_, hi, rfl⟩
theorem DrR.check (h : DrR w db mb tb nb xb bb ov) : ∀ u, Fram none' w u → Ret Tryz.prog 95 [ptr db] u (fun r w' => r = .bool true ∧ Fram none' u w') := fun u f => by
  have h := h.far f (fun _ _ _ q => q)
  obtain ⟨L, T, q1, q2⟩ := h.m
  obtain ⟨l, l1, l2⟩ := h.n2
  obtain ⟨f0, d1, d2⟩ := h.d
  exact coCheck95 q1 q2 ⟨bb, l, h.n1, l1, l2, h.tn.1, h.tn.2.1⟩ d2 d1
theorem New9r : Ret Tryz.prog 9 [] w (fun v w' => ∃ db mb tb nb xb bb ov, v = ptr db ∧ DrR w' db mb tb nb xb bb ov ∧ (∀ b, drO ov db nb bb b → w.heap.size ≤ b) ∧ Fram none' w w') := by
  refine New9.mono ?_
  rintro r w' ⟨db, mb, tb, nb, xb, bb, ov, rfl, hV, hN1, hN2, ⟨k1, k2, k3⟩, hC, ho, l1, l2, l3, F⟩
  obtain ⟨⟨V, U, op⟩, ht⟩ := hV
  have hrt : ∀ b, vtT (rt66 ov b) → vtT (ov b) := fun b q => by
    unfold rt66 at q
    split at q
    · exact absurd q vt66
    · exact q
  refine ⟨db, mb, tb, nb, xb, bb, rt66 ov, rfl, ⟨⟨_, _, vt_rt op ht, ck0⟩, hN1, hN2, ⟨rt66_66 k1, rt66_66 k2, rt66_66 k3⟩, ⟨0, by decide, hC⟩, rt66_no ov⟩, fun b q => ?_, F⟩
  rcases q with q | q | q | q
  · refine Nat.le_of_not_lt fun z => ?_
    have := hrt b q
    rw [ho b z] at this
    exact vt66 this
  · omega
  · omega
  · omega
/-- a tower at rest. -/
structure TwR (n0 : Nat) (w : World) (cb sb db mb tb nb xb bb : Nat) (oc ov : Nat → Nat) : Prop where
  dr : DrR w db mb tb nb xb bb ov
  c : CpR w oc cb (ptr sb) (ptr db)
  s : SyV w oc sb
  cn : ¬ tcT (oc nb) ∧ ¬ tcT (oc bb) ∧ ¬ tcT (oc db)
  sep : ∀ b, vtT (ov b) → ¬ tcT (oc b)
  df : ∀ b, w.heap.size ≤ b → oc b = 66
  g9 : ∀ b, b < n0 → oc b = 9
def towO (oc ov : Nat → Nat) (db nb bb b : Nat) : Prop := tcT (oc b) ∨ drO ov db nb bb b
theorem TwR.sep' (h : TwR n0 w cb sb db mb tb nb xb bb oc ov) {b : Nat} (q : drO ov db nb bb b) : ¬ tcT (oc b) := by
  rcases q with q | q | q | q
  · exact h.sep b q
  · rw [q]; exact h.cn.2.2
  · rw [q]; exact h.cn.1
  · rw [q]; exact h.cn.2.1
theorem TwR.far (h : TwR n0 w cb sb db mb tb nb xb bb oc ov) (f : Fram G w w') (hn : ∀ b, b < w.heap.size → towO oc ov db nb bb b → ¬ G b) : TwR n0 w' cb sb db mb tb nb xb bb oc ov :=
  ⟨h.dr.far f (fun b l q => hn b l (.inr q)), h.c.far f (fun b q l => hn b l (.inl (by rcases q with q | q | q; exact .inl q; exact .inr (.inl q); exact .inr (.inr (.inl q))))) (Xt.refl _ _), h.s.far f (fun b q l => hn b l (.inl (.inr (.inr (.inr q))))) (Xt.refl _ _), h.cn, h.sep, fun b hb => h.df b (by have := f.size; omega), h.g9⟩
theorem TwR.gv (h : TwR n0 w cb sb db mb tb nb xb bb oc ov) (hG : GV w (o9n n0)) : GV w oc := hG.rg fun b q => h.g9 b (o9n_9 q)
/-- the compiler has gone on. -/
theorem TwR.comp (h : TwR n0 w cb sb db mb tb nb xb bb oc ov) (h0 : n0 ≤ w.heap.size) {oc' : Nat → Nat} (x : Xt w oc oc') (hc : CpR w' oc' cb (ptr sb) (ptr db)) (hs : SyV w' oc' sb) (f : Fram (tg oc imT) w w') : TwR n0 w' cb sb db mb tb nb xb bb (cut66 w' oc') ov := by
  have hz := f.size
  have xc := cut66_xt w' oc'
  have e : ∀ b, b < w.heap.size → cut66 w' oc' b = oc b := fun b hb => by rw [xc b (by omega)]; exact x b hb
  have hl := fun b (q : drO ov db nb bb b) => h.dr.lt q
  refine ⟨h.dr.far f (fun b l q z => h.sep' q (im_tc z)), hc.far (Fram.refl none' _) (fun _ _ _ q => q) xc, hs.far (Fram.refl none' _) (fun _ _ _ q => q) xc, ⟨?_, ?_, ?_⟩, fun b q => ?_, cut66_df _ _, fun b hb => ?_⟩
  · rw [e _ (hl _ (.inr (.inr (.inl rfl))))]; exact h.cn.1
  · rw [e _ (hl _ (.inr (.inr (.inr rfl))))]; exact h.cn.2.1
  · rw [e _ (hl _ (.inr (.inl rfl)))]; exact h.cn.2.2
  · rw [e _ (hl _ (.inl q))]; exact h.sep b q
  · rw [e b (by omega)]; exact h.g9 b hb
/-- the driver has gone on. -/
theorem TwR.drive (h : TwR n0 w cb sb db mb tb nb xb bb oc ov) {ov' : Nat → Nat} {bb' : Nat} (x : Xt w ov ov') (hd : DrR w' db mb tb nb xb bb' ov') (hb : bb' = bb ∨ w.heap.size ≤ bb') (f : Fram (drO ov db nb bb) w w') : TwR n0 w' cb sb db mb tb nb xb bb' oc ov' := by
  have hz := f.size
  refine ⟨hd, h.c.far f (fun b q l z => h.sep' z (by rcases q with q | q | q; exact .inl q; exact .inr (.inl q); exact .inr (.inr (.inl q)))) (Xt.refl _ _), h.s.far f (fun b q l z => h.sep' z (.inr (.inr (.inr q)))) (Xt.refl _ _), ⟨h.cn.1, ?_, h.cn.2.2⟩, fun b q => ?_, fun b hb => h.df b (by omega), h.g9⟩
  · rcases hb with rfl | hb
    · exact h.cn.2.1
    · rw [h.df _ hb]; exact tc66
  · by_cases hl : b < w.heap.size
    · rw [x b hl] at q; exact h.sep b q
    · rw [h.df b (by omega)]; exact tc66
/-- what a tower's run may write, and what it owns afterwards. -/
def TwP (n0 : Nat) (w w' : World) (cb sb db mb tb nb xb bb : Nat) (oc ov : Nat → Nat) : Prop := Fram (towO oc ov db nb bb) w w' ∧ ∃ oc' ov' bb', TwR n0 w' cb sb db mb tb nb xb bb' oc' ov' ∧ Xt w oc oc' ∧ Xt w ov ov' ∧ (bb' = bb ∨ w.heap.size ≤ bb')
theorem TwR.image (h : TwR n0 w cb sb db mb tb nb xb bb oc ov) (h0 : n0 ≤ w.heap.size) (hG : GV w (o9n n0)) : Ret Tryz.prog 24 [ptr cb, S s] w (fun r w' => ImgR s r ∧ TwP n0 w w' cb sb db mb tb nb xb bb oc ov) := by
  refine (Image24 (s := s) h.c h.s (h.gv hG)).mono ?_
  rintro r w' ⟨hI, oc', x, hc, hs, f⟩
  exact ⟨hI, f.mono (fun b _ q => .inl (im_tc q)), _, _, _, h.comp h0 x hc hs f, fun b hb => by rw [cut66_xt w' oc' b (by have := f.size; omega)]; exact x b hb, Xt.refl _ _, .inl rfl⟩
theorem TwR.check (h : TwR n0 w cb sb db mb tb nb xb bb oc ov) : Ret Tryz.prog 47 [ptr cb] w (fun r w' => r = .bool true ∧ Fram none' w w') := compCheck47 h.c h.s h.dr.check
theorem TwR.left (h : TwR n0 w cb sb db mb tb nb xb bb oc ov) : Ret Tryz.prog 45 [ptr cb] w (fun r w' => r = i64c 0 ∧ Fram none' w w') := by
  obtain ⟨gb, bv, npv, n0, xs0, R, o, hC, -⟩ := h.c.ex
  obtain ⟨f0, d1, d2⟩ := h.dr.d
  exact compLeft45 hC d2
theorem DrR.left (h : DrR w db mb tb nb xb bb ov) : Ret Tryz.prog 44 [ptr db] w (fun r w' => r = i64c 0 ∧ Fram none' w w') := by
  obtain ⟨f0, d1, d2⟩ := h.d
  exact coLeft44 d2
theorem New5r (h0 : n0 ≤ w.heap.size) : Ret Tryz.prog 5 [] w (fun v w' => ∃ cb sb db mb tb nb xb bb oc ov, v = ptr cb ∧ TwR n0 w' cb sb db mb tb nb xb bb oc ov ∧ (∀ b, towO oc ov db nb bb b → w.heap.size ≤ b) ∧ Fram none' w w') := by
  refine (New5 (ow := o9n n0) (fun b => by unfold o9n; split; exact .inl rfl; exact .inr rfl) (fun b hb => if_neg (by omega))).mono ?_
  rintro r w' ⟨cb, sb, db, mb, tb, nb, xb, bb, oc, ov, rfl, hT, hxo, hdd, hov, hl1, hl2, hl3, F⟩
  obtain ⟨⟨V, U, op⟩, ht⟩ := hT.m
  have hrt : ∀ b, vtT (rt66 ov b) → vtT (ov b) := fun b q => by
    unfold rt66 at q
    split at q
    · exact absurd q vt66
    · exact q
  obtain ⟨k1, k2, k3⟩ := hT.tn
  obtain ⟨c1, c2, c3⟩ := hT.cn
  refine ⟨cb, sb, db, mb, tb, nb, xb, bb, oc, rt66 ov, rfl, ⟨⟨⟨_, _, vt_rt op ht, ck0⟩, hT.n1, hT.n2, ⟨rt66_66 k1, rt66_66 k2, rt66_66 k3⟩, ⟨0, by decide, hT.d⟩, rt66_no ov⟩, hT.c, hT.s, ⟨c1, c2, c3⟩, fun b q => hT.sep b (hrt b q), fun b hb => (hdd b hb).1, fun b hb => by rw [hxo b (by omega)]; exact o9n_lt hb⟩, fun b q => ?_, F⟩
  rcases q with q | q | q | q | q
  · refine Nat.le_of_not_lt fun z => ?_
    rw [hxo b z] at q
    unfold o9n at q
    split at q
    · exact tc9 q
    · exact tc66 q
  · refine Nat.le_of_not_lt fun z => ?_
    have := hrt b q
    rw [hov b z] at this
    exact vt66 this
  · omega
  · omega
  · omega
end
end Go.Proofs.Qxb6500568aGreatDoor
