import Derived.Test.Qxb6500567aGreatNa
/- The law: the four calls, side by side. -/
namespace Go.Proofs.Qxb6500567aGreat
set_option linter.unusedVariables false
set_option linter.unusedSimpArgs false

theorem EBo.lo {E : EB} (h : EBo E) {k : Nat} (hk : eset E k ∨ k = E.P.nn) : E.B.xb ≤ k := by
  obtain ⟨d1, d2, d3, d4, d5, d6⟩ := h.d7
  have hn := h.nn'
  rcases hk with (rfl | hk | hk | hk) | rfl
  · omega
  · rcases hk with rfl | rfl | rfl | rfl | rfl | rfl | rfl <;> omega
  · have := h.pk' (.inl hk); omega
  · have := h.df' hk; omega
  · omega
theorem FKo.lo {F : FK} (h : FKo F) {k : Nat} (hk : kset F k ∨ k = F.E.P.nn) : F.E.B.xb ≤ k := by
  have h1 := h.ef
  have h2 := h.fx
  have h3 := h.xp
  have h4 : F.E.B.xb ≤ F.E.eb := h.eo.lo (.inl (.inl rfl))
  rcases hk with (rfl | rfl | rfl | hk) | rfl
  · omega
  · omega
  · omega
  · exact h.eo.lo (.inl hk)
  · exact h.eo.lo (.inr rfl)

theorem MEV.no {H : Array Obj} {E : MB} {n : Nat} (V : MEV H E n) : ∀ b l, Blk H b l 175 → ¬ mset E b := by
  obtain ⟨a, b, c, d, h', h1, h2, h3, h4, h5, h6, h7, h8⟩ := V
  intro b l hb h
  rcases h with rfl | rfl | rfl | rfl
  · exact absurd (hb.uniq h5).2 (by decide)
  · exact absurd (hb.uniq h6).2 (by decide)
  · exact absurd (hb.uniq h7).2 (by decide)
  · exact absurd (hb.uniq h8).2 (by decide)

theorem FRV.fram {w w' : World} {F : FK} {cn d : Nat} {G : Nat → Prop} (V : FRV w F cn) (f : Fram G { w with drawn := d } w') (hn : ∀ b, kset F b ∨ b = F.E.P.nn → ¬ G b) (h175 : ∀ b l, Blk w.heap b l 175 → ¬ G b) : FRV w' F cn := by
  obtain ⟨L, P, sf, pf, hB, hX, hP, hsv, hpv, ⟨m0, m1, V⟩, hch, hpk, hpn⟩ := V
  exact ⟨L, P, sf, pf, Blk.fram (w := { w with drawn := d }) hB f (hn _ (.inl (.inl rfl))), Blk.fram (w := { w with drawn := d }) hX f (hn _ (.inl (.inr (.inl rfl)))), Blk.fram (w := { w with drawn := d }) hP f (hn _ (.inl (.inr (.inr (.inl rfl))))), hsv, hpv, ⟨m0, m1, V.framS f (fun b hb => hn b (hb.elim (fun h => .inl (.inr (.inr (.inr h)))) .inr)) h175⟩, hch, hpk, hpn⟩
theorem FRV.framN {w w' : World} {F : FK} {cn d : Nat} (V : FRV w F cn) (f : Fram none' { w with drawn := d } w') : FRV w' F cn := V.fram f (fun _ _ h => h) (fun _ _ _ h => h)
theorem FRV.lt {w : World} {F : FK} {cn : Nat} (V : FRV w F cn) (ho : FKo F) : ∀ k, kset F k → k < w.heap.size := by
  obtain ⟨L, P, sf, pf, hB, hX, hP, hsv, hpv, V, hch, hpk, hpn⟩ := V
  have b1 := hP.lt
  have h1 := ho.ef
  have h2 := ho.fx
  have h3 := ho.xp
  rintro k (rfl | rfl | rfl | hk)
  · omega
  · omega
  · omega
  · have := ho.eo.all hk; omega
theorem FRV.framB {w w' : World} {F : FK} {cn d b : Nat} {l : List Value} {t : TypeId} (V : FRV w F cn) (ho : FKo F) (f : Fram (one b) { w with drawn := d } w') (hb : Blk w.heap b l t) (ht : t ≠ 175) (hlt : F.ps < b) : FRV w' F cn := by
  have h1 := ho.ef
  have h2 := ho.fx
  have h3 := ho.xp
  refine V.fram f ?_ ?_
  · intro k hk h
    have h' : k = b := h
    subst h'
    rcases hk with (rfl | rfl | rfl | hk) | rfl
    · omega
    · omega
    · omega
    · have := ho.eo.all hk; omega
    · have := ho.eo.nn'; omega
  · intro b' l' hb' h
    have h' : b' = b := h
    subst h'
    exact ht (hb.uniq hb').2

theorem FKo.hi {F : FK} (h : FKo F) {k : Nat} (hk : kset F k ∨ k = F.E.P.nn) : k ≤ F.ps := by
  have h1 := h.ef
  have h2 := h.fx
  have h3 := h.xp
  rcases hk with (rfl | rfl | rfl | hk) | rfl
  · omega
  · omega
  · omega
  · have := h.eo.all hk; omega
  · have := h.eo.nn'; omega

/-- Both finders. -/
structure Pr (w : World) (F : FK) (cn : Nat) (gb : Nat) (E : MB) (n : Nat) : Prop where
  x : FRV w F cn
  m : FMV w gb E n
  ho : FKo F
  dj : ∀ k, k = gb ∨ mset E k → ¬ (kset F k ∨ k = F.E.P.nn)

/-- What the two touch. -/
def bset2 (F : FK) (E : MB) : Nat → Prop := fun k => kset F k ∨ mset E k

theorem FMV.mlo {w : World} {gb : Nat} {E : MB} {n : Nat} (V : FMV w gb E n) : ∀ k, mset E k → E.pb ≤ k ∧ k < gb := by
  obtain ⟨d1, d2, d3⟩ := V.ord
  have := V.ef
  rintro k (rfl | rfl | rfl | rfl) <;> omega
/-- The model's blocks were made first. -/
theorem Pr.mk1 {w : World} {F : FK} {cn gb : Nat} {E : MB} {n : Nat} (x : FRV w F cn) (m : FMV w gb E n) (ho : FKo F) (lo : gb < F.E.B.xb) : Pr w F cn gb E n :=
  ⟨x, m, ho, fun k hk h => by
    have h1 := ho.lo h
    rcases hk with rfl | hk
    · omega
    · have := m.mlo k hk; omega⟩
/-- The model's blocks were made last. -/
theorem Pr.mk2 {w : World} {F : FK} {cn gb : Nat} {E : MB} {n : Nat} (x : FRV w F cn) (m : FMV w gb E n) (ho : FKo F) (lo : F.ps < E.pb) : Pr w F cn gb E n :=
  ⟨x, m, ho, fun k hk h => by
    have h1 := ho.hi h
    have h2 := m.mlo E.pb (.inr (.inl rfl))
    rcases hk with rfl | hk
    · omega
    · have := m.mlo k hk; omega⟩
theorem Pr.byX {w w' : World} {F : FK} {cn cm gb d : Nat} {E : MB} {n : Nat} (V : Pr w F cn gb E n) (f : Fram (kset F) { w with drawn := d } w') (h : FRV w' F cm) : Pr w' F cm gb E n :=
  ⟨h, FMV.fram (w := { w with drawn := d }) ⟨V.m.blk, V.m.eng, V.m.ord, V.m.ef⟩ f (fun hk => V.dj _ (.inl rfl) (.inl hk)) (fun k hk hk' => V.dj k (.inr hk) (.inl hk')), V.ho, V.dj⟩
theorem Pr.byM {w w' : World} {F : FK} {cn gb d : Nat} {E : MB} {n m : Nat} (V : Pr w F cn gb E n) (f : Fram (mset E) { w with drawn := d } w') (h : FMV w' gb E m) : Pr w' F cn gb E m :=
  ⟨V.x.fram f (fun b hb h => V.dj b (.inr h) hb) V.m.eng.no, h, V.ho, V.dj⟩
theorem Pr.framN {w w' : World} {F : FK} {cn gb d : Nat} {E : MB} {n : Nat} (V : Pr w F cn gb E n) (f : Fram none' { w with drawn := d } w') : Pr w' F cn gb E n :=
  ⟨V.x.framN f, FMV.fram (w := { w with drawn := d }) ⟨V.m.blk, V.m.eng, V.m.ord, V.m.ef⟩ f (fun h => h) (fun _ _ h => h), V.ho, V.dj⟩
theorem Pr.framB {w w' : World} {F : FK} {cn gb d b : Nat} {E : MB} {n : Nat} {l : List Value} {t : TypeId} (V : Pr w F cn gb E n) (f : Fram (one b) { w with drawn := d } w') (hb : Blk w.heap b l t) (ht : t ≠ 175) (hlt : F.ps < b) (hlg : gb < b) : Pr w' F cn gb E n :=
  ⟨V.x.framB V.ho f hb ht hlt, FMV.fram (w := { w with drawn := d }) ⟨V.m.blk, V.m.eng, V.m.ord, V.m.ef⟩ f (fun h => by have h' : gb = b := h; omega) (fun k hk h => by have h' : k = b := h; have := V.m.mlo k hk; omega), V.ho, V.dj⟩
theorem Pr.plt {w : World} {F : FK} {cn gb : Nat} {E : MB} {n : Nat} (V : Pr w F cn gb E n) : F.ps < w.heap.size := V.x.lt V.ho _ (.inr (.inr (.inl rfl)))
theorem Pr.glt {w : World} {F : FK} {cn gb : Nat} {E : MB} {n : Nat} (V : Pr w F cn gb E n) : gb < w.heap.size := V.m.blk.lt

theorem found7 {w : World} {F : FK} {cn gb n : Nat} {E : MB} {p s : List UInt8} (V : Pr w F cn gb E n) (hcn : cn ≤ 50000000000000000) (hn : n < 100000000000000) (hpm : p.length ≤ 9223372036854775807) (hsm : s.length ≤ 9223372036854775807) :
    Ret Tryz.prog 7 [ptr F.fb, ptr gb, S p, S s] w (fun v w' => v = .bool true ∧ Pr w' F (cn + 300000) gb E (n + 2) ∧ Fram (bset2 F E) w w') := by
  have hF : Fram (bset2 F E) w w := Fram.refl _ _
  obtain ⟨e5, p5, ok5, c5, h5⟩ := engc_form p s 0
  have hlk : ∀ k, bset2 F E k → k < w.heap.size := by
    rintro k (hk | hk)
    · exact V.x.lt V.ho k hk
    · exact V.m.eng.lt k hk
  refine ret_of Tryz.func7 rfl Tryz.ntmps7 rfl ?_
  refine c_seq (fun K1 hK1 => ?_)
  refine c_reg ?_ -- region 0 law.go:87
  refine wl (ro_assign rfl) ?_
  refine wl_nil (x_then (hK1 _ _ ?_))
  clear hK1 K1
  refine forget [(0, _), (1, _), (2, _), (3, _)] ⟨rfl, rfl, rfl, rfl, trivial⟩ (fun e => ?_)
  refine c_seq (fun K2 hK2 => ?_)
  have hc1 := Find20 (p := p) (s := s) V.ho V.x (by omega) hpm hsm
  rw [h5] at hc1
  refine c_reg ?_ -- region 1 law.go:88
  refine wl (ro_move rfl) ?_
  refine wl (ro_move rfl) ?_
  refine wl (ro_move rfl) ?_
  refine wl_call rfl en_20 (hc1) ?_
  rintro _ w1 ⟨rfl, X1, F1⟩
  replace V := V.byX (d := World.drawn _) F1 X1
  replace hF := hF.trans' F1 (fun k _ h ↦ .inl h)
  have hp1 := V.plt
  have hg1 := V.glt
  refine wl_new (ze_57) (fun ab w1 hbab hA F1 => ?_)
  have hbsab := Nat.le_trans hF.size hbab
  replace hF := hF.thenDrew.thenN F1
  replace V := V.framN (d := World.drawn _) F1
  have hA0 := hA
  refine wl_puta rfl rfl ((fdc_cells e5 p5 ok5 c5)) sz_57 (rfl) hA ((by simp)) ((show _ = fdc e5 p5 ok5 c5 from rfl)) (fun w2 hA F2 => ?_)
  replace hF := hF.thenDrew.thenO F2 (by first | exact .inr (by omega) | exact .inl rfl | exact .inl (by assumption))
  replace V := V.framB (d := World.drawn _) F2 hA0 (by decide) (by omega) (by omega)
  refine wl_nil (x_then (hK2 _ _ ?_))
  clear hK2 K2
  refine forget [(1, _), (2, _), (3, _), (9, _)] ⟨rfl, rfl, rfl, rfl, trivial⟩ (fun e => ?_)
  refine c_seq (fun K3 hK3 => ?_)
  have hc2 := Find21 (p := p) (s := s) V.m (by omega) hpm hsm
  rw [h5] at hc2
  refine c_reg ?_ -- region 2 law.go:89
  refine wl (ro_move rfl) ?_
  refine wl (ro_move rfl) ?_
  refine wl (ro_move rfl) ?_
  refine wl_call rfl en_21 (hc2) ?_
  rintro _ w2 ⟨rfl, X2, F2⟩
  have hab := hA.lt
  replace hA := F2.blkF hA (fun h => by have := hlk ab (.inr h); omega)
  replace V := V.byM (d := World.drawn _) F2 X2
  replace hF := hF.trans' F2 (fun k _ h ↦ .inr h)
  have hp2 := V.plt
  have hg2 := V.glt
  refine wl_new (ze_57) (fun bb w3 hbbb hB F3 => ?_)
  have hbsbb := Nat.le_trans hF.size hbbb
  have hneabbb : ab < bb := Nat.lt_of_lt_of_le hA.lt hbbb
  replace hF := hF.thenDrew.thenN F3
  replace hA := F3.blkN hA
  replace V := V.framN (d := World.drawn _) F3
  have hB0 := hB
  refine wl_puta rfl rfl ((fdc_cells e5 p5 ok5 c5)) sz_57 (rfl) hB ((by simp)) ((show _ = fdc e5 p5 ok5 c5 from rfl)) (fun w4 hB F4 => ?_)
  replace hF := hF.thenDrew.thenO F4 (by first | exact .inr (by omega) | exact .inl rfl | exact .inl (by assumption))
  replace hA := F4.blkO hA (by omega)
  replace V := V.framB (d := World.drawn _) F4 hB0 (by decide) (by omega) (by omega)
  refine wl_nil (x_then (hK3 _ _ ?_))
  clear hK3 K3
  refine forget [(9, _), (10, _)] ⟨rfl, rfl, trivial⟩ (fun e => ?_)
  refine c_seq (fun K4 hK4 => ?_)
  refine c_reg ?_ -- region 3 law.go:90
  refine wl (ro_loadAggB rfl ag_57 (hA) (rfl) (rfl)) ?_
  refine wl (ro_loadAggB rfl ag_57 (hB) (rfl) (rfl)) ?_
  refine wl_call rfl en_22 (sameFound22) ?_
  rintro _ w3 ⟨rfl, F3⟩
  replace V := V.framN (d := World.drawn _) F3
  replace hF := hF.trans' F3 (fun k _ h ↦ h.elim)
  refine wl (ro_assign rfl) ?_
  refine wl_nil (x_then (hK4 _ _ ?_))
  clear hK4 K4
  refine c_ret ?_
  refine bp_ret Tryz.results7 rfl ?_
  exact ⟨rfl, V, hF⟩

theorem replaced9 {w : World} {F : FK} {cn gb n : Nat} {E : MB} {p s t : List UInt8} (V : Pr w F cn gb E n) (hcn : cn ≤ 50000000000000000) (hn : n < 100000000000000) (hpm : p.length ≤ 9223372036854775807) (hsm : s.length ≤ 9223372036854775807) (htm : t.length ≤ 9223372036854775807) :
    Ret Tryz.prog 9 [ptr F.fb, ptr gb, S p, S s, S t] w (fun v w' => v = .bool true ∧ Pr w' F (cn + 300000) gb E (n + 600) ∧ Fram (bset2 F E) w w') := by
  have hF : Fram (bset2 F E) w w := Fram.refl _ _
  generalize hrt : repT p s t = rr
  obtain ⟨ra, rb, rc⟩ := rr
  refine ret_of Tryz.func9 rfl Tryz.ntmps9 rfl ?_
  refine c_seq (fun K1 hK1 => ?_)
  refine c_reg ?_ -- region 0 law.go:102
  refine wl (ro_assign rfl) ?_
  refine wl_nil (x_then (hK1 _ _ ?_))
  clear hK1 K1
  refine forget [(0, _), (1, _), (2, _), (3, _), (4, _)] ⟨rfl, rfl, rfl, rfl, rfl, trivial⟩ (fun e => ?_)
  refine c_seq (fun K2 hK2 => ?_)
  have hc1 := Replace26 (p := p) (s := s) (t := t) V.ho V.x (by omega) hpm hsm htm
  rw [hrt] at hc1
  refine c_reg ?_ -- region 1 law.go:103
  refine wl (ro_move rfl) ?_
  refine wl (ro_move rfl) ?_
  refine wl (ro_move rfl) ?_
  refine wl (ro_move rfl) ?_
  refine wl_call rfl en_26 (hc1) ?_
  rintro _ w1 ⟨rfl, X1, F1⟩
  replace V := V.byX (d := World.drawn _) F1 X1
  replace hF := hF.trans' F1 (fun k _ h ↦ .inl h)
  refine wl (ro_move rfl) ?_
  refine wl (ro_extract rfl rfl) ?_
  refine wl (ro_extract rfl rfl) ?_
  refine wl (ro_extract rfl rfl) ?_
  refine wl (ro_assign rfl) ?_
  refine wl (ro_assign rfl) ?_
  refine wl (ro_assign rfl) ?_
  refine wl_nil (x_then (hK2 _ _ ?_))
  clear hK2 K2
  refine forget [(1, _), (2, _), (3, _), (4, _), (11, _), (12, _), (13, _)] ⟨rfl, rfl, rfl, rfl, rfl, rfl, rfl, trivial⟩ (fun e => ?_)
  refine c_seq (fun K3 hK3 => ?_)
  have hc2 := Replace27 (p := p) (s := s) (t := t) V.m (by omega) hpm hsm htm
  rw [hrt] at hc2
  refine c_reg ?_ -- region 2 law.go:104
  refine wl (ro_move rfl) ?_
  refine wl (ro_move rfl) ?_
  refine wl (ro_move rfl) ?_
  refine wl (ro_move rfl) ?_
  refine wl_call rfl en_27 (hc2) ?_
  rintro _ w2 ⟨rfl, X2, F2⟩
  replace V := V.byM (d := World.drawn _) F2 X2
  replace hF := hF.trans' F2 (fun k _ h ↦ .inr h)
  refine wl (ro_move rfl) ?_
  refine wl (ro_extract rfl rfl) ?_
  refine wl (ro_extract rfl rfl) ?_
  refine wl (ro_extract rfl rfl) ?_
  refine wl (ro_assign rfl) ?_
  refine wl (ro_assign rfl) ?_
  refine wl (ro_assign rfl) ?_
  refine wl_nil (x_then (hK3 _ _ ?_))
  clear hK3 K3
  refine forget [(11, _), (12, _), (13, _), (14, _), (15, _), (16, _)] ⟨rfl, rfl, rfl, rfl, rfl, rfl, trivial⟩ (fun e => ?_)
  refine c_seq (fun K4 hK4 => ?_)
  refine c_reg ?_ -- region 3 law.go:105
  refine wl (ro_move rfl) ?_
  refine wl (ro_move rfl) ?_
  refine wl (ro_eqS (l := ra) (m := ra) (r := true) rfl rfl (congrArg some (by simp))) ?_
  refine wl (ro_move rfl) ?_
  refine wlg_yes rfl (ro_move rfl) ?_
  refine wlg_yes rfl (ro_move rfl) ?_
  refine wlg_yes rfl (ro_cmp (r := true) rfl rfl (congrArg some (by simp))) ?_
  refine wl (ro_pick rfl rfl rfl) ?_
  refine wl (ro_move rfl) ?_
  refine wlg_yes rfl (ro_move rfl) ?_
  refine wlg_yes rfl (ro_move rfl) ?_
  refine wlg_yes rfl (ro_cmp (r := true) rfl rfl (congrArg some (by simp))) ?_
  refine wl (ro_pick rfl rfl rfl) ?_
  refine wl (ro_assign rfl) ?_
  refine wl_nil (x_then (hK4 _ _ ?_))
  clear hK4 K4
  refine c_ret ?_
  refine bp_ret Tryz.results9 rfl ?_
  exact ⟨rfl, V, hF⟩

end Go.Proofs.Qxb6500567aGreat
