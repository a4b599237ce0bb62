import Derived.Test.Qxb6500568aGreatDoorYp
/- The interpreter: stmt. -/
namespace Go.Proofs.Qxb6500568aGreatDoor
open Ieee
set_option linter.unusedVariables false
set_option linter.unusedSimpArgs false
set_option linter.unusedSectionVars false

/-- what a statement needs. -/
structure StP (G : Arena) (n : Nat) (s : IS) : Prop where
  l : n < G.length
  k : 1 ≤ (nd G n).K ∧ (nd G n).K ≤ 11
  a : (nd G n).K = 4 ∨ (nd G n).K = 8 → (nd G n).A < G.length
  a2 : (nd G n).K = 8 → (nd G (nd G n).A).Nx < G.length
  b : (nd G n).K = 2 → (nd G n).B < G.length ∧ ∃ zs, IsEL G (nd G (nd G n).B).B zs
  x : (nd G n).K = 11 → ∀ t r, brkL s.th.tasks = some (t, r) → t.x ≤ s.th.vals.length
set_option maxHeartbeats 16000000 in
theorem stmt56 {G : Arena} {root : Nat} {np : Value} {tb rb : Nat} {nv : Value} {w : World} {ow : Nat → Nat} {β τ : List Nat} {m : Nat} {s : IS} (hR : RM G root np tb rb nv w ow β τ m s) {n ev : Nat} {o : Option Addr} (he : EP β ev o) (hE : StP G n s) (hm : m ≤ 19980) :
    Ret Tryz.prog 56 [ptr rb, i64c n, .pointer o] w (fun r w' => r = .tuple #[] ∧ ∃ bs, RP G root np tb rb nv w ow (β ++ bs) τ (m + 8) (istmt G n ev s) w') := by
  have hF : Fram (tg ow cmT) w w := Fram.refl _ _
  have hX : Xt w ow ow := Xt.refl _ _
  have hG : 0 < G.length := by have := hE.l; omega
  obtain ⟨gn, capn, ln, rfl, hN, khN, hcapn, hrow⟩ := hR.nodes hG
  obtain ⟨pn, hpn⟩ := hrow n hE.l
  have hEn := hE.l
  have hel := he.2
  have heo := he.1
  subst heo
  have hev : ev ≤ s.envs.length := by rw [← hR.el]; exact hel
  have hkr := hE.k
  have hlast : (inew (nd G n).S vNil ev s).last = β.length + 1 := by show (inew (nd G n).S vNil ev s).envs.length = _; rw [new_len, hR.el]
  have hcl0 := hR.cl
  have hxb : (nd G n).K = 11 → ∀ t r, brkL (ido 1 (nd G n).Nx 0 ev s).th.tasks = some (t, r) → t.x ≤ (ido 1 (nd G n).Nx 0 ev s).th.vals.length := by
    intro h11 t r h
    unfold ido at h ⊢
    rw [th_setT hcl0] at h ⊢
    rw [brkL, if_neg (show ¬ (1 : Nat) = 4 by decide)] at h
    exact hE.x h11 t r h
  have hfin : ∀ {u : World} {ow' : Nat → Nat} {m' : Nat} {s' : IS}, Xt w ow ow' → Fram (tg ow cmT) w u → RM G root np tb rb (.slice (some ⟨gn, 0, none⟩) G.length capn) u ow' β τ m' s' → m' ≤ m + 8 → ∃ bs, RP G root np tb rb (.slice (some ⟨gn, 0, none⟩) G.length capn) w ow (β ++ bs) τ (m + 8) s' u := fun h1 h2 h3 h4 => ⟨[], _, h1, h2, by rw [List.append_nil]; exact h3.le h4⟩
  unfold istmt
  dsimp only
  refine ret_of Tryz.func56 rfl Tryz.ntmps56 rfl ?_
  refine c_seq (fun K1 hK1 => ?_)
  obtain ⟨cv, hv_, a0, a1, a2, a3, a4, hXr, hq2, hq3, hq4⟩ := hR.r
  unfold rnc at hXr
  have hk70 := hR.t70
  refine c_reg ?_ -- region 0 compm.go:282
  refine wl (ro_move rfl) ?_
  refine wl (ro_nilCheck rfl) ?_
  refine wl (ro_fieldAddr (k := 2) rfl fo_112_2) ?_
  refine wl (ro_loadB rfl sc_77 (by assumption) rfl) ?_
  refine wl (ro_move rfl) ?_
  refine wl (ro_indexAddr (et := 148) (k := 8) rfl rfl se_77 rfl (by omega)) ?_
  refine wl (ro_loadAggB rfl ag_148 (hN) (rfl) (hpn)) ?_
  refine wl_new (ze_148) (fun b6 w1 hbb6 h6 F1 => ?_)
  have hbsb6 := Nat.le_trans hF.size hbb6
  have hnegnb6 : gn < b6 := Nat.lt_of_lt_of_le hN.lt hbb6
  have hnerbb6 : rb < b6 := Nat.lt_of_lt_of_le hXr.lt hbb6
  have kh6 := hR.df b6 hbb6
  replace hF := hF.thenDrew.thenN F1
  replace hR := hR.thruN ((Fram.refl none' _).thenDrew.thenN F1)
  replace hN := F1.blkN hN
  replace hXr := F1.blkN hXr
  refine wl_puta rfl rfl ((ndc_one _)) sz_148 (rfl) h6 ((by simp)) (rfl) (fun w2 h6 F2 => ?_)
  replace hF := hF.thenDrew.thenO F2 (by first | exact .inr (by omega) | exact .inl rfl | exact .inl (by assumption) | assumption)
  replace hR := hR.hbput ((Fram.refl (one b6) _).thenDrew.thenO F2 (.inl rfl))
  replace hN := F2.blkO hN (by first | omega | exact ow_ne (by assumption) (by assumption) (by omega))
  replace hXr := F2.blkO hXr (by first | omega | exact ow_ne (by assumption) (by assumption) (by omega))
  refine wl_nil (x_then (hK1 _ _ ?_))
  clear hK1 K1
  refine c_seq (fun K2 hK2 => ?_)
  refine c_seq (fun K3 hK3 => ?_)
  refine c_reg ?_ -- region 1 compm.go:283
  refine wl (ro_fieldAddr (k := 0) rfl fo_148_0) ?_
  refine wl (ro_loadB rfl sc_3 (by assumption) rfl) ?_
  refine wl_nil (x_then (hK3 _ _ ?_))
  clear hK3 K3
  refine c_block ?_
  refine forget [(0, _), (1, _), (2, _), (6, _), (22, _)] ⟨rfl, rfl, rfl, rfl, rfl, trivial⟩ (fun e => ?_)
  refine c_seq (fun K4 hK4 => ?_)
  refine c_reg ?_ -- region 2 compm.go:284
  refine wl (ro_cmp rfl rfl rfl) ?_
  refine wl (ro_assign rfl) ?_
  refine wl_nil (x_then (hK4 _ _ ?_))
  clear hK4 K4
  refine wc_cond rfl (fun hc23 => ?_) (fun hc23 => ?_)
  · try simp only [decide_eq_true_eq, decide_eq_false_iff_not, Bool.not_eq_true', Bool.not_eq_false', Bool.not_eq_eq_eq_not, Bool.not_true, Bool.not_false, beq_iff_eq, bne_iff_ne, ne_eq, beq_eq_false_iff_ne, bne_eq_false_iff_eq, gt_iff_lt, ge_iff_le, Int.not_lt, Int.not_le] at hc23
    refine c_seq (fun K5 hK5 => ?_)
    refine c_reg ?_ -- region 3 compm.go:285
    refine wl (ro_move rfl) ?_
    refine wl (ro_move rfl) ?_
    refine wl (ro_move rfl) ?_
    refine wl_call rfl en_55 (do55 (k := 6) (n := n) (x := 0) hR.dr he (by omega)) ?_
    rintro _ u3 ⟨rfl, ow3, x3, f3, r3⟩
    obtain ⟨hN, khN⟩ := cm_loc x3 f3 hN khN
    obtain ⟨h6, kh6⟩ := cm_loc x3 f3 h6 kh6
    have hs3 := hF.size
    replace hF := cm_trans hX hF f3
    replace hX := hX.trans hs3 x3
    replace hR := r3
    refine wl_nil (x_then (hK5 _ _ ?_))
    clear hK5 K5
    refine c_seq (fun K6 hK6 => ?_)
    refine c_seq (fun K7 hK7 => ?_)
    refine c_reg ?_ -- region 4 compm.go:286
    refine wl (ro_fieldAddr (k := 1) rfl fo_148_1) ?_
    refine wl (ro_loadB rfl sc_3 (by assumption) rfl) ?_
    refine wl (ro_cmp rfl rfl rfl) ?_
    refine wl_nil (x_then (hK7 _ _ ?_))
    clear hK7 K7
    refine wc_cond rfl (fun hc31 => ?_) (fun hc31 => ?_)
    · try simp only [decide_eq_true_eq, decide_eq_false_iff_not, Bool.not_eq_true', Bool.not_eq_false', Bool.not_eq_eq_eq_not, Bool.not_true, Bool.not_false, beq_iff_eq, bne_iff_ne, ne_eq, beq_eq_false_iff_ne, bne_eq_false_iff_eq, gt_iff_lt, ge_iff_le, Int.not_lt, Int.not_le] at hc31
      refine c_reg ?_ -- region 5 compm.go:287
      refine wl (ro_move rfl) ?_
      refine wl (ro_fieldAddr (k := 1) rfl fo_148_1) ?_
      refine wl (ro_loadB rfl sc_3 (by assumption) rfl) ?_
      refine wl (ro_move rfl) ?_
      refine wl_call rfl en_55 (do55 (k := 2) (n := (nd G n).A) (x := 0) hR.dr he (by omega)) ?_
      rintro _ u4 ⟨rfl, ow4, x4, f4, r4⟩
      obtain ⟨hN, khN⟩ := cm_loc x4 f4 hN khN
      obtain ⟨h6, kh6⟩ := cm_loc x4 f4 h6 kh6
      have hs4 := hF.size
      replace hF := cm_trans hX hF f4
      replace hX := hX.trans hs4 x4
      replace hR := r4
      refine wl_nil (x_then (hK6 _ _ ?_))
      clear hK6 K6
      refine c_ret (x_blkR (x_thenR ?_))
      refine bp_ret Tryz.results56 rfl ?_
      refine ⟨rfl, ?_⟩
      try dsimp only at *
      first
      | (exfalso; omega)
      | (repeat (first | rw [if_pos (by omega)] | rw [if_neg (by omega)])
         first
         | exact hfin hX hF hR (by omega)
         | (rw [he30]; exact hfin hX hF hR (by omega))
         | (rw [hbk]
            exact hfin hX hF (RM.thrT hclT hR hbT hkb (y' := { s1.th with tasks := r, vals := cutTo t.x s1.th.vals }) htr (hvs.cutTo hxt) hQ hB hte' ⟨by show r.length ≤ m + 1; omega, by show (cutTo t.x s1.th.vals).length ≤ m + 1; rw [cut_len hxt]; omega⟩) (by omega))
         | (rw [← hbrk]; exact hfin hX hF hR (by omega))
         | (rw [hlast]; exact ⟨_, _, hX, hF, hR.le (by omega)⟩))
    · try simp only [decide_eq_true_eq, decide_eq_false_iff_not, Bool.not_eq_true', Bool.not_eq_false', Bool.not_eq_eq_eq_not, Bool.not_true, Bool.not_false, beq_iff_eq, bne_iff_ne, ne_eq, beq_eq_false_iff_ne, bne_eq_false_iff_eq, gt_iff_lt, ge_iff_le, Int.not_lt, Int.not_le] at hc31
      refine c_reg ?_ -- region 6 compm.go:289
      refine wl (ro_move rfl) ?_
      refine wl (ro_build rfl bld_119) ?_
      refine wl_call rfl en_67 (push67 (v := vNil) hR.dr (by omega)) ?_
      rintro _ u5 ⟨rfl, ow5, x5, f5, r5⟩
      obtain ⟨hN, khN⟩ := cm_loc x5 f5 hN khN
      obtain ⟨h6, kh6⟩ := cm_loc x5 f5 h6 kh6
      have hs5 := hF.size
      replace hF := cm_trans hX hF f5
      replace hX := hX.trans hs5 x5
      replace hR := r5
      refine wl_nil (x_then (hK6 _ _ ?_))
      clear hK6 K6
      refine c_ret (x_blkR (x_thenR ?_))
      refine bp_ret Tryz.results56 rfl ?_
      refine ⟨rfl, ?_⟩
      try dsimp only at *
      first
      | (exfalso; omega)
      | (repeat (first | rw [if_pos (by omega)] | rw [if_neg (by omega)])
         first
         | exact hfin hX hF hR (by omega)
         | (rw [he30]; exact hfin hX hF hR (by omega))
         | (rw [hbk]
            exact hfin hX hF (RM.thrT hclT hR hbT hkb (y' := { s1.th with tasks := r, vals := cutTo t.x s1.th.vals }) htr (hvs.cutTo hxt) hQ hB hte' ⟨by show r.length ≤ m + 1; omega, by show (cutTo t.x s1.th.vals).length ≤ m + 1; rw [cut_len hxt]; omega⟩) (by omega))
         | (rw [← hbrk]; exact hfin hX hF hR (by omega))
         | (rw [hlast]; exact ⟨_, _, hX, hF, hR.le (by omega)⟩))
  · try simp only [decide_eq_true_eq, decide_eq_false_iff_not, Bool.not_eq_true', Bool.not_eq_false', Bool.not_eq_eq_eq_not, Bool.not_true, Bool.not_false, beq_iff_eq, bne_iff_ne, ne_eq, beq_eq_false_iff_ne, bne_eq_false_iff_eq, gt_iff_lt, ge_iff_le, Int.not_lt, Int.not_le] at hc23
    refine c_seq (fun K8 hK8 => ?_)
    refine c_reg ?_ -- region 7 compm.go:292
    refine wl (ro_cmp rfl rfl rfl) ?_
    refine wl (ro_assign rfl) ?_
    refine wl_nil (x_then (hK8 _ _ ?_))
    clear hK8 K8
    refine wc_cond rfl (fun hc40 => ?_) (fun hc40 => ?_)
    · try simp only [decide_eq_true_eq, decide_eq_false_iff_not, Bool.not_eq_true', Bool.not_eq_false', Bool.not_eq_eq_eq_not, Bool.not_true, Bool.not_false, beq_iff_eq, bne_iff_ne, ne_eq, beq_eq_false_iff_ne, bne_eq_false_iff_eq, gt_iff_lt, ge_iff_le, Int.not_lt, Int.not_le] at hc40
      obtain ⟨hBl, zs, hz⟩ := hE.b (by omega)
      refine c_seq (fun K9 hK9 => ?_)
      refine c_reg ?_ -- region 8 compm.go:293
      refine wl (ro_move rfl) ?_
      refine wl (ro_move rfl) ?_
      refine wl (ro_move rfl) ?_
      refine wl_call rfl en_55 (do55 (k := 7) (n := n) (x := 0) hR.dr he (by omega)) ?_
      rintro _ u6 ⟨rfl, ow6, x6, f6, r6⟩
      obtain ⟨hN, khN⟩ := cm_loc x6 f6 hN khN
      obtain ⟨h6, kh6⟩ := cm_loc x6 f6 h6 kh6
      have hs6 := hF.size
      replace hF := cm_trans hX hF f6
      replace hX := hX.trans hs6 x6
      replace hR := r6
      refine wl_nil (x_then (hK9 _ _ ?_))
      clear hK9 K9
      refine forget [(0, _), (2, _), (6, _)] ⟨rfl, rfl, rfl, trivial⟩ (fun e => ?_)
      refine c_seq (fun K10 hK10 => ?_)
      refine c_reg ?_ -- region 9 compm.go:294
      refine wl (ro_move rfl) ?_
      refine wl (ro_fieldAddr (k := 2) rfl fo_148_2) ?_
      refine wl (ro_loadB rfl sc_3 (by assumption) rfl) ?_
      refine wl (ro_move rfl) ?_
      refine wl_call rfl en_107 (call107 (n := (nd G n).B) hR.dr hG he hBl hz (by omega)) ?_
      rintro _ u7 ⟨rfl, ow7, x7, f7, r7⟩
      obtain ⟨hN, khN⟩ := cm_loc x7 f7 hN khN
      obtain ⟨h6, kh6⟩ := cm_loc x7 f7 h6 kh6
      have hs7 := hF.size
      replace hF := cm_trans hX hF f7
      replace hX := hX.trans hs7 x7
      replace hR := r7
      refine wl_nil (x_then (hK10 _ _ ?_))
      clear hK10 K10
      refine c_ret (x_blkR (x_thenR ?_))
      refine bp_ret Tryz.results56 rfl ?_
      refine ⟨rfl, ?_⟩
      try dsimp only at *
      first
      | (exfalso; omega)
      | (repeat (first | rw [if_pos (by omega)] | rw [if_neg (by omega)])
         first
         | exact hfin hX hF hR (by omega)
         | (rw [he30]; exact hfin hX hF hR (by omega))
         | (rw [hbk]
            exact hfin hX hF (RM.thrT hclT hR hbT hkb (y' := { s1.th with tasks := r, vals := cutTo t.x s1.th.vals }) htr (hvs.cutTo hxt) hQ hB hte' ⟨by show r.length ≤ m + 1; omega, by show (cutTo t.x s1.th.vals).length ≤ m + 1; rw [cut_len hxt]; omega⟩) (by omega))
         | (rw [← hbrk]; exact hfin hX hF hR (by omega))
         | (rw [hlast]; exact ⟨_, _, hX, hF, hR.le (by omega)⟩))
    · try simp only [decide_eq_true_eq, decide_eq_false_iff_not, Bool.not_eq_true', Bool.not_eq_false', Bool.not_eq_eq_eq_not, Bool.not_true, Bool.not_false, beq_iff_eq, bne_iff_ne, ne_eq, beq_eq_false_iff_ne, bne_eq_false_iff_eq, gt_iff_lt, ge_iff_le, Int.not_lt, Int.not_le] at hc40
      refine c_seq (fun K11 hK11 => ?_)
      refine c_reg ?_ -- region 10 compm.go:296
      refine wl (ro_cmp rfl rfl rfl) ?_
      refine wl (ro_assign rfl) ?_
      refine wl_nil (x_then (hK11 _ _ ?_))
      clear hK11 K11
      refine wc_cond rfl (fun hc51 => ?_) (fun hc51 => ?_)
      · try simp only [decide_eq_true_eq, decide_eq_false_iff_not, Bool.not_eq_true', Bool.not_eq_false', Bool.not_eq_eq_eq_not, Bool.not_true, Bool.not_false, beq_iff_eq, bne_iff_ne, ne_eq, beq_eq_false_iff_ne, bne_eq_false_iff_eq, gt_iff_lt, ge_iff_le, Int.not_lt, Int.not_le] at hc51
        refine c_seq (fun K12 hK12 => ?_)
        refine c_reg ?_ -- region 11 compm.go:297
        refine wl (ro_fieldAddr (k := 6) rfl fo_148_6) ?_
        refine wl (ro_loadB rfl sc_9 (by assumption) rfl) ?_
        refine wl (ro_move rfl) ?_
        refine wl (ro_build rfl bld_159_0_2) ?_
        refine wl_box (cs := (evc β ⟨(nd G n).S, vNil, ev⟩)) rfl rfl (fun b57 w8 hbb57 h57 F8 => ?_)
        have hbsb57 := Nat.le_trans hF.size hbb57
        have hnegnb57 : gn < b57 := Nat.lt_of_lt_of_le hN.lt hbb57
        have hnerbb57 : rb < b57 := Nat.lt_of_lt_of_le hXr.lt hbb57
        have hneb6b57 : b6 < b57 := Nat.lt_of_lt_of_le h6.lt hbb57
        have kh57 := hR.df b57 hbb57
        replace hF := hF.thenDrew.thenN F8
        replace hR := hR.thruN ((Fram.refl none' _).thenDrew.thenN F8)
        replace hN := F8.blkN hN
        replace hXr := F8.blkN hXr
        replace h6 := F8.blkN h6
        refine wl (ro_assign rfl) ?_
        refine wl_nil (x_then (hK12 _ _ ?_))
        clear hK12 K12
        refine forget [(0, _), (1, _), (6, _), (7, _)] ⟨rfl, rfl, rfl, rfl, trivial⟩ (fun e => ?_)
        refine c_seq (fun K13 hK13 => ?_)
        have hRn := hR.newE (z := ⟨(nd G n).S, vNil, ev⟩) h57 (hev)
        replace khN := ot_kR hRn khN (by first | omega | exact ow_ne (by assumption) (by assumption) (by omega))
        replace kh6 := ot_kR hRn kh6 (by first | omega | exact ow_ne (by assumption) (by assumption) (by omega))
        replace hX := ot_xR hRn hX (by omega)
        replace hR := hRn
        refine c_reg ?_ -- region 12 compm.go:298
        refine wl (ro_move rfl) ?_
        refine wl (ro_move rfl) ?_
        refine wl (ro_move rfl) ?_
        refine wl_call rfl en_55 (do55 (k := 8) (n := n) (x := 0) hR.dr (EP.new _ _) (by omega)) ?_
        rintro _ u9 ⟨rfl, ow9, x9, f9, r9⟩
        obtain ⟨hN, khN⟩ := cm_loc x9 f9 hN khN
        obtain ⟨h6, kh6⟩ := cm_loc x9 f9 h6 kh6
        have hs9 := hF.size
        replace hF := cm_trans hX hF f9
        replace hX := hX.trans hs9 x9
        replace hR := r9
        refine wl_nil (x_then (hK13 _ _ ?_))
        clear hK13 K13
        refine forget [(0, _), (6, _), (7, _)] ⟨rfl, rfl, rfl, trivial⟩ (fun e => ?_)
        refine c_seq (fun K14 hK14 => ?_)
        refine c_reg ?_ -- region 13 compm.go:299
        refine wl (ro_move rfl) ?_
        refine wl (ro_fieldAddr (k := 1) rfl fo_148_1) ?_
        refine wl (ro_loadB rfl sc_3 (by assumption) rfl) ?_
        refine wl (ro_move rfl) ?_
        refine wl_call rfl en_55 (do55 (k := 2) (n := (nd G n).A) (x := 0) hR.dr (EP.new _ _) (by omega)) ?_
        rintro _ u10 ⟨rfl, ow10, x10, f10, r10⟩
        obtain ⟨hN, khN⟩ := cm_loc x10 f10 hN khN
        obtain ⟨h6, kh6⟩ := cm_loc x10 f10 h6 kh6
        have hs10 := hF.size
        replace hF := cm_trans hX hF f10
        replace hX := hX.trans hs10 x10
        replace hR := r10
        refine wl_nil (x_then (hK14 _ _ ?_))
        clear hK14 K14
        refine c_ret (x_blkR (x_thenR ?_))
        refine bp_ret Tryz.results56 rfl ?_
        refine ⟨rfl, ?_⟩
        try dsimp only at *
        first
        | (exfalso; omega)
        | (repeat (first | rw [if_pos (by omega)] | rw [if_neg (by omega)])
           first
           | exact hfin hX hF hR (by omega)
           | (rw [he30]; exact hfin hX hF hR (by omega))
           | (rw [hbk]
              exact hfin hX hF (RM.thrT hclT hR hbT hkb (y' := { s1.th with tasks := r, vals := cutTo t.x s1.th.vals }) htr (hvs.cutTo hxt) hQ hB hte' ⟨by show r.length ≤ m + 1; omega, by show (cutTo t.x s1.th.vals).length ≤ m + 1; rw [cut_len hxt]; omega⟩) (by omega))
           | (rw [← hbrk]; exact hfin hX hF hR (by omega))
           | (rw [hlast]; exact ⟨_, _, hX, hF, hR.le (by omega)⟩))
      · try simp only [decide_eq_true_eq, decide_eq_false_iff_not, Bool.not_eq_true', Bool.not_eq_false', Bool.not_eq_eq_eq_not, Bool.not_true, Bool.not_false, beq_iff_eq, bne_iff_ne, ne_eq, beq_eq_false_iff_ne, bne_eq_false_iff_eq, gt_iff_lt, ge_iff_le, Int.not_lt, Int.not_le] at hc51
        refine c_skip (x_blk (x_then (hK2 _ _ ?_)))
        clear hK2 K2
        refine forget [(0, _), (1, _), (2, _), (6, _)] ⟨rfl, rfl, rfl, rfl, trivial⟩ (fun e => ?_)
        refine c_seq (fun K15 hK15 => ?_)
        refine c_reg ?_ -- region 14 compm.go:302
        refine wl (ro_move rfl) ?_
        refine wl (ro_fieldAddr (k := 4) rfl fo_148_4) ?_
        refine wl (ro_loadB rfl sc_3 (by assumption) rfl) ?_
        refine wl (ro_move rfl) ?_
        refine wl_call rfl en_55 (do55 (k := 1) (n := (nd G n).Nx) (x := 0) hR.dr he (by omega)) ?_
        rintro _ u11 ⟨rfl, ow11, x11, f11, r11⟩
        obtain ⟨hN, khN⟩ := cm_loc x11 f11 hN khN
        obtain ⟨h6, kh6⟩ := cm_loc x11 f11 h6 kh6
        have hs11 := hF.size
        replace hF := cm_trans hX hF f11
        replace hX := hX.trans hs11 x11
        replace hR := r11
        refine wl_nil (x_then (hK15 _ _ ?_))
        clear hK15 K15
        refine forget [(0, _), (1, _), (2, _), (6, _)] ⟨rfl, rfl, rfl, rfl, trivial⟩ (fun e => ?_)
        refine c_seq (fun K16 hK16 => ?_)
        obtain ⟨cv, a0, a1, a2, a3, a4, gT, capT, lT, bT, tvT, vvT, hXr, hO, hlT, hcapT, hbT, hTh, hgT⟩ := hR.open
        have hB := hTh.k
        have hkb := hTh.t
        have hclT := hR.cl
        unfold rnc at hXr
        have hk70 := hR.t70
        obtain ⟨va, vc, rfl⟩ := hTh.vs.form
        refine c_pi [(0, false), (1, false), (2, false), (3, false), (4, false), (5, false), (6, false), (7, false), (8, false), (9, false), (10, false), (11, false), (12, false), (13, false), (14, false)] (SameH _) mixed (by kernel_rfl) rfl (by kernel_rfl) (po_then (po_bp)) (sameH_now _ _) ?_ -- region 15 compm.go:303
        refine pi_ro rfl (fun w hS => ro_move rfl) ?_
        refine pi_ro rfl (fun w hS => ro_nilCheck rfl) ?_
        refine pi_ro rfl (fun w hS => ro_fieldAddr (k := 5) rfl fo_112_5) ?_
        refine pi_ro rfl (fun w hS => ro_loadB rfl sc_109 (Blk.of_heap (by assumption) hS) rfl) ?_
        refine pi_ro rfl (fun w hS => ro_move rfl) ?_
        refine pi_ro rfl (fun w hS => ro_nilCheck rfl) ?_
        refine pi_ro rfl (fun w hS => ro_fieldAddr (k := 12) rfl fo_112_8) ?_
        refine pi_ro rfl (fun w hS => ro_loadB rfl sc_3 (Blk.of_heap (by assumption) hS) rfl) ?_
        refine pi_ro rfl (fun w hS => ro_indexAddr (et := 123) (k := 1) rfl rfl se_109 rfl (by omega)) ?_
        refine pi_ro rfl (fun w hS => ro_loadB rfl sc_123 (Blk.of_heap hO hS) (hlT)) ?_
        refine pi_ro rfl (fun w hS => ro_nilCheck rfl) ?_
        refine pi_ro rfl (fun w hS => ro_fieldAddr (k := 4) rfl fo_126_4) ?_
        refine pi_ro rfl (fun w hS => ro_loadB rfl sc_83 (Blk.of_heap (by assumption) hS) rfl) ?_
        refine pi_ro rfl (fun w hS => ro_lenL rfl se_83) ?_
        refine pi_ro rfl (fun w hS => ro_assign rfl) ?_
        refine pi_nil (x_then (hK16 _ _ ?_))
        clear hK16 K16
        refine forget [(0, _), (1, _), (2, _), (6, _), (8, _)] ⟨rfl, rfl, rfl, rfl, rfl, trivial⟩ (fun e => ?_)
        refine c_seq (fun K17 hK17 => ?_)
        refine c_reg ?_ -- region 16 compm.go:304
        refine wl (ro_fieldAddr (k := 0) rfl fo_148_0) ?_
        refine wl (ro_loadB rfl sc_3 (by assumption) rfl) ?_
        refine wl_nil (x_then (hK17 _ _ ?_))
        clear hK17 K17
        refine c_block ?_
        refine forget [(0, _), (1, _), (2, _), (6, _), (8, _), (87, _)] ⟨rfl, rfl, rfl, rfl, rfl, rfl, trivial⟩ (fun e => ?_)
        refine c_seq (fun K18 hK18 => ?_)
        refine c_reg ?_ -- region 17 compm.go:305
        refine wl (ro_cmp rfl rfl rfl) ?_
        refine wl (ro_assign rfl) ?_
        refine wl_nil (x_then (hK18 _ _ ?_))
        clear hK18 K18
        refine wc_cond rfl (fun hc88 => ?_) (fun hc88 => ?_)
        · try simp only [decide_eq_true_eq, decide_eq_false_iff_not, Bool.not_eq_true', Bool.not_eq_false', Bool.not_eq_eq_eq_not, Bool.not_true, Bool.not_false, beq_iff_eq, bne_iff_ne, ne_eq, beq_eq_false_iff_ne, bne_eq_false_iff_eq, gt_iff_lt, ge_iff_le, Int.not_lt, Int.not_le] at hc88
          have hAl : (nd G n).A < G.length := hE.a (by omega)
          obtain ⟨pA, hpA⟩ := hrow _ hAl
          refine c_seq (fun K19 hK19 => ?_)
          refine c_piL 9 [(0, false), (1, false), (2, false), (3, false), (4, false), (5, false), (6, false), (7, false), (8, true)] (La gn _ _ (La b6 _ _ (Lz rb _ _ _))) mixed (by kernel_rfl) rfl (by kernel_rfl) (po_then (po_blk (po_bp))) (⟨hN, h6, hR.rz⟩) ?_ -- region 18 compm.go:306
          refine ql_ro rfl (fun w hS => ro_move rfl) ?_
          refine ql_ro rfl (fun w hS => ro_nilCheck rfl) ?_
          refine ql_ro rfl (fun w hS => ro_fieldAddr (k := 2) rfl fo_112_2) ?_
          refine ql_ro rfl (fun w hS => let ⟨_, hc⟩ := hS.2.2; ro_loadB rfl sc_77 hc rfl) ?_
          refine ql_ro rfl (fun w hS => ro_fieldAddr (k := 1) rfl fo_148_1) ?_
          refine ql_ro rfl (fun w hS => ro_loadB rfl sc_3 (hS.2.1) rfl) ?_
          refine ql_ro rfl (fun w hS => ro_indexAddr (et := 148) (k := 8) rfl rfl se_77 (rfl) (hAl)) ?_
          refine ql_ro rfl (fun w hS => ro_loadAggB rfl ag_148 (hS.1) (rfl) (hpA)) ?_
          refine ql_new rfl ze_148 (fun w1 F ↦ ⟨F.blkN hN, F.blkN h6, (hR.dr.thruN F).rz⟩) ?_
          intro b9 w12 hbb9 h9 F12
          have hbsb9 := Nat.le_trans hF.size hbb9
          have hnegnb9 : gn < b9 := Nat.lt_of_lt_of_le hN.lt hbb9
          have hneb6b9 : b6 < b9 := Nat.lt_of_lt_of_le h6.lt hbb9
          have hnegTb9 : gT < b9 := Nat.lt_of_lt_of_le hO.lt hbb9
          have hnebTb9 : bT < b9 := Nat.lt_of_lt_of_le hB.lt hbb9
          have hnerbb9 : rb < b9 := Nat.lt_of_lt_of_le hXr.lt hbb9
          have kh9 := hR.df b9 hbb9
          replace hF := hF.thenDrew.thenN F12
          replace hR := hR.thruN ((Fram.refl none' _).thenDrew.thenN F12)
          replace hN := F12.blkN hN
          replace h6 := F12.blkN h6
          replace hO := F12.blkN hO
          replace hB := F12.blkN hB
          replace hXr := F12.blkN hXr
          refine ql_puta rfl rfl rfl ((ndc_one _)) sz_148 (rfl) h9 ((by simp)) (rfl) (fun w13 h9 F13 => ?_)
          replace hF := hF.thenDrew.thenO F13 (by first | exact .inr (by omega) | exact .inl rfl | exact .inl (by assumption) | assumption)
          replace hR := hR.hbput ((Fram.refl (one b9) _).thenDrew.thenO F13 (.inl rfl))
          replace hN := F13.blkO hN (by first | omega | exact ow_ne (by assumption) (by assumption) (by omega))
          replace h6 := F13.blkO h6 (by first | omega | exact ow_ne (by assumption) (by assumption) (by omega))
          replace hO := F13.blkO hO (by first | omega | exact ow_ne (by assumption) (by assumption) (by omega))
          replace hB := F13.blkO hB (by first | omega | exact ow_ne (by assumption) (by assumption) (by omega))
          replace hXr := F13.blkO hXr (by first | omega | exact ow_ne (by assumption) (by assumption) (by omega))
          refine x_then (hK19 _ _ ?_)
          clear hK19 K19
          refine forget [(0, _), (2, _), (6, _), (9, _)] ⟨rfl, rfl, rfl, rfl, trivial⟩ (fun e => ?_)
          refine c_seq (fun K20 hK20 => ?_)
          refine c_reg ?_ -- region 19 compm.go:307
          refine wl (ro_fieldAddr (k := 0) rfl fo_148_0) ?_
          refine wl (ro_loadB rfl sc_3 (by assumption) rfl) ?_
          refine wl (ro_cmp rfl rfl rfl) ?_
          refine wl_nil (x_then (hK20 _ _ ?_))
          clear hK20 K20
          refine wc_cond rfl (fun hc100 => ?_) (fun hc100 => ?_)
          · try simp only [decide_eq_true_eq, decide_eq_false_iff_not, Bool.not_eq_true', Bool.not_eq_false', Bool.not_eq_eq_eq_not, Bool.not_true, Bool.not_false, beq_iff_eq, bne_iff_ne, ne_eq, beq_eq_false_iff_ne, bne_eq_false_iff_eq, gt_iff_lt, ge_iff_le, Int.not_lt, Int.not_le] at hc100
            refine c_seq (fun K21 hK21 => ?_)
            refine c_reg ?_ -- region 20 compm.go:308
            refine wl (ro_move rfl) ?_
            refine wl (ro_fieldAddr (k := 1) rfl fo_148_1) ?_
            refine wl (ro_loadB rfl sc_3 (by assumption) rfl) ?_
            refine wl (ro_move rfl) ?_
            refine wl_call rfl en_55 (do55 (k := 9) (n := (nd G n).A) (x := 0) hR.dr he (by omega)) ?_
            rintro _ u14 ⟨rfl, ow14, x14, f14, r14⟩
            obtain ⟨hN, khN⟩ := cm_loc x14 f14 hN khN
            obtain ⟨h6, kh6⟩ := cm_loc x14 f14 h6 kh6
            obtain ⟨h9, kh9⟩ := cm_loc x14 f14 h9 kh9
            have hs14 := hF.size
            replace hF := cm_trans hX hF f14
            replace hX := hX.trans hs14 x14
            replace hR := r14
            refine wl_nil (x_then (hK21 _ _ ?_))
            clear hK21 K21
            refine c_reg ?_ -- region 21 compm.go:309
            refine wl (ro_move rfl) ?_
            refine wl (ro_fieldAddr (k := 2) rfl fo_148_2) ?_
            refine wl (ro_loadB rfl sc_3 (by assumption) rfl) ?_
            refine wl (ro_move rfl) ?_
            refine wl_call rfl en_55 (do55 (k := 2) (n := (nd G n).B) (x := 0) hR.dr he (by omega)) ?_
            rintro _ u15 ⟨rfl, ow15, x15, f15, r15⟩
            obtain ⟨hN, khN⟩ := cm_loc x15 f15 hN khN
            obtain ⟨h6, kh6⟩ := cm_loc x15 f15 h6 kh6
            obtain ⟨h9, kh9⟩ := cm_loc x15 f15 h9 kh9
            have hs15 := hF.size
            replace hF := cm_trans hX hF f15
            replace hX := hX.trans hs15 x15
            replace hR := r15
            refine wl_nil (x_blk ?_)
            refine bp_end Tryz.results56 rfl ?_
            refine ⟨rfl, ?_⟩
            try dsimp only at *
            first
            | (exfalso; omega)
            | (repeat (first | rw [if_pos (by omega)] | rw [if_neg (by omega)])
               first
               | exact hfin hX hF hR (by omega)
               | (rw [he30]; exact hfin hX hF hR (by omega))
               | (rw [hbk]
                  exact hfin hX hF (RM.thrT hclT hR hbT hkb (y' := { s1.th with tasks := r, vals := cutTo t.x s1.th.vals }) htr (hvs.cutTo hxt) hQ hB hte' ⟨by show r.length ≤ m + 1; omega, by show (cutTo t.x s1.th.vals).length ≤ m + 1; rw [cut_len hxt]; omega⟩) (by omega))
               | (rw [← hbrk]; exact hfin hX hF hR (by omega))
               | (rw [hlast]; exact ⟨_, _, hX, hF, hR.le (by omega)⟩))
          · try simp only [decide_eq_true_eq, decide_eq_false_iff_not, Bool.not_eq_true', Bool.not_eq_false', Bool.not_eq_eq_eq_not, Bool.not_true, Bool.not_false, beq_iff_eq, bne_iff_ne, ne_eq, beq_eq_false_iff_ne, bne_eq_false_iff_eq, gt_iff_lt, ge_iff_le, Int.not_lt, Int.not_le] at hc100
            refine c_seq (fun K22 hK22 => ?_)
            refine c_reg ?_ -- region 22 compm.go:311
            refine wl (ro_move rfl) ?_
            refine wl (ro_move rfl) ?_
            refine wl_call rfl en_55 (do55 (k := 10) (n := 0) (x := 0) hR.dr he (by omega)) ?_
            rintro _ u16 ⟨rfl, ow16, x16, f16, r16⟩
            obtain ⟨hN, khN⟩ := cm_loc x16 f16 hN khN
            obtain ⟨h6, kh6⟩ := cm_loc x16 f16 h6 kh6
            obtain ⟨h9, kh9⟩ := cm_loc x16 f16 h9 kh9
            have hs16 := hF.size
            replace hF := cm_trans hX hF f16
            replace hX := hX.trans hs16 x16
            replace hR := r16
            refine wl_nil (x_then (hK22 _ _ ?_))
            clear hK22 K22
            refine forget [(0, _), (2, _), (6, _), (9, _)] ⟨rfl, rfl, rfl, rfl, trivial⟩ (fun e => ?_)
            refine c_seq (fun K23 hK23 => ?_)
            refine c_reg ?_ -- region 23 compm.go:312
            refine wl (ro_move rfl) ?_
            refine wl (ro_fieldAddr (k := 2) rfl fo_148_2) ?_
            refine wl (ro_loadB rfl sc_3 (by assumption) rfl) ?_
            refine wl (ro_move rfl) ?_
            refine wl_call rfl en_55 (do55 (k := 2) (n := (nd G n).B) (x := 0) hR.dr he (by omega)) ?_
            rintro _ u17 ⟨rfl, ow17, x17, f17, r17⟩
            obtain ⟨hN, khN⟩ := cm_loc x17 f17 hN khN
            obtain ⟨h6, kh6⟩ := cm_loc x17 f17 h6 kh6
            obtain ⟨h9, kh9⟩ := cm_loc x17 f17 h9 kh9
            have hs17 := hF.size
            replace hF := cm_trans hX hF f17
            replace hX := hX.trans hs17 x17
            replace hR := r17
            refine wl_nil (x_then (hK23 _ _ ?_))
            clear hK23 K23
            refine forget [(0, _), (2, _), (9, _)] ⟨rfl, rfl, rfl, trivial⟩ (fun e => ?_)
            refine c_seq (fun K24 hK24 => ?_)
            refine c_reg ?_ -- region 24 compm.go:313
            refine wl (ro_move rfl) ?_
            refine wl (ro_fieldAddr (k := 2) rfl fo_148_2) ?_
            refine wl (ro_loadB rfl sc_3 (by assumption) rfl) ?_
            refine wl (ro_move rfl) ?_
            refine wl_call rfl en_55 (do55 (k := 2) (n := (nd G (nd G n).A).B) (x := 0) hR.dr he (by omega)) ?_
            rintro _ u18 ⟨rfl, ow18, x18, f18, r18⟩
            obtain ⟨hN, khN⟩ := cm_loc x18 f18 hN khN
            obtain ⟨h6, kh6⟩ := cm_loc x18 f18 h6 kh6
            obtain ⟨h9, kh9⟩ := cm_loc x18 f18 h9 kh9
            have hs18 := hF.size
            replace hF := cm_trans hX hF f18
            replace hX := hX.trans hs18 x18
            replace hR := r18
            refine wl_nil (x_then (hK24 _ _ ?_))
            clear hK24 K24
            refine c_reg ?_ -- region 25 compm.go:314
            refine wl (ro_move rfl) ?_
            refine wl (ro_fieldAddr (k := 1) rfl fo_148_1) ?_
            refine wl (ro_loadB rfl sc_3 (by assumption) rfl) ?_
            refine wl (ro_move rfl) ?_
            refine wl_call rfl en_55 (do55 (k := 2) (n := (nd G (nd G n).A).A) (x := 0) hR.dr he (by omega)) ?_
            rintro _ u19 ⟨rfl, ow19, x19, f19, r19⟩
            obtain ⟨hN, khN⟩ := cm_loc x19 f19 hN khN
            obtain ⟨h6, kh6⟩ := cm_loc x19 f19 h6 kh6
            obtain ⟨h9, kh9⟩ := cm_loc x19 f19 h9 kh9
            have hs19 := hF.size
            replace hF := cm_trans hX hF f19
            replace hX := hX.trans hs19 x19
            replace hR := r19
            refine wl_nil (x_blk ?_)
            refine bp_end Tryz.results56 rfl ?_
            refine ⟨rfl, ?_⟩
            try dsimp only at *
            first
            | (exfalso; omega)
            | (repeat (first | rw [if_pos (by omega)] | rw [if_neg (by omega)])
               first
               | exact hfin hX hF hR (by omega)
               | (rw [he30]; exact hfin hX hF hR (by omega))
               | (rw [hbk]
                  exact hfin hX hF (RM.thrT hclT hR hbT hkb (y' := { s1.th with tasks := r, vals := cutTo t.x s1.th.vals }) htr (hvs.cutTo hxt) hQ hB hte' ⟨by show r.length ≤ m + 1; omega, by show (cutTo t.x s1.th.vals).length ≤ m + 1; rw [cut_len hxt]; omega⟩) (by omega))
               | (rw [← hbrk]; exact hfin hX hF hR (by omega))
               | (rw [hlast]; exact ⟨_, _, hX, hF, hR.le (by omega)⟩))
        · try simp only [decide_eq_true_eq, decide_eq_false_iff_not, Bool.not_eq_true', Bool.not_eq_false', Bool.not_eq_eq_eq_not, Bool.not_true, Bool.not_false, beq_iff_eq, bne_iff_ne, ne_eq, beq_eq_false_iff_ne, bne_eq_false_iff_eq, gt_iff_lt, ge_iff_le, Int.not_lt, Int.not_le] at hc88
          refine c_seq (fun K25 hK25 => ?_)
          refine c_reg ?_ -- region 26 compm.go:316
          refine wl (ro_cmp rfl rfl rfl) ?_
          refine wl (ro_assign rfl) ?_
          refine wl_nil (x_then (hK25 _ _ ?_))
          clear hK25 K25
          refine wc_cond rfl (fun hc129 => ?_) (fun hc129 => ?_)
          · try simp only [decide_eq_true_eq, decide_eq_false_iff_not, Bool.not_eq_true', Bool.not_eq_false', Bool.not_eq_eq_eq_not, Bool.not_true, Bool.not_false, beq_iff_eq, bne_iff_ne, ne_eq, beq_eq_false_iff_ne, bne_eq_false_iff_eq, gt_iff_lt, ge_iff_le, Int.not_lt, Int.not_le] at hc129
            refine c_seq (fun K26 hK26 => ?_)
            refine c_reg ?_ -- region 27 compm.go:317
            refine wl (ro_move rfl) ?_
            refine wl_call rfl en_55 (do55 (k := 5) (n := 0) (x := 0) (e := 0) hR.dr (EP.nil _) (by omega)) ?_
            rintro _ u20 ⟨rfl, ow20, x20, f20, r20⟩
            obtain ⟨hN, khN⟩ := cm_loc x20 f20 hN khN
            obtain ⟨h6, kh6⟩ := cm_loc x20 f20 h6 kh6
            have hs20 := hF.size
            replace hF := cm_trans hX hF f20
            replace hX := hX.trans hs20 x20
            replace hR := r20
            refine wl_nil (x_then (hK26 _ _ ?_))
            clear hK26 K26
            refine c_reg ?_ -- region 28 compm.go:318
            refine wl (ro_move rfl) ?_
            refine wl (ro_fieldAddr (k := 1) rfl fo_148_1) ?_
            refine wl (ro_loadB rfl sc_3 (by assumption) rfl) ?_
            refine wl (ro_move rfl) ?_
            refine wl_call rfl en_55 (do55 (k := 2) (n := (nd G n).A) (x := 0) hR.dr he (by omega)) ?_
            rintro _ u21 ⟨rfl, ow21, x21, f21, r21⟩
            obtain ⟨hN, khN⟩ := cm_loc x21 f21 hN khN
            obtain ⟨h6, kh6⟩ := cm_loc x21 f21 h6 kh6
            have hs21 := hF.size
            replace hF := cm_trans hX hF f21
            replace hX := hX.trans hs21 x21
            replace hR := r21
            refine wl_nil (x_blk ?_)
            refine bp_end Tryz.results56 rfl ?_
            refine ⟨rfl, ?_⟩
            try dsimp only at *
            first
            | (exfalso; omega)
            | (repeat (first | rw [if_pos (by omega)] | rw [if_neg (by omega)])
               first
               | exact hfin hX hF hR (by omega)
               | (rw [he30]; exact hfin hX hF hR (by omega))
               | (rw [hbk]
                  exact hfin hX hF (RM.thrT hclT hR hbT hkb (y' := { s1.th with tasks := r, vals := cutTo t.x s1.th.vals }) htr (hvs.cutTo hxt) hQ hB hte' ⟨by show r.length ≤ m + 1; omega, by show (cutTo t.x s1.th.vals).length ≤ m + 1; rw [cut_len hxt]; omega⟩) (by omega))
               | (rw [← hbrk]; exact hfin hX hF hR (by omega))
               | (rw [hlast]; exact ⟨_, _, hX, hF, hR.le (by omega)⟩))
          · try simp only [decide_eq_true_eq, decide_eq_false_iff_not, Bool.not_eq_true', Bool.not_eq_false', Bool.not_eq_eq_eq_not, Bool.not_true, Bool.not_false, beq_iff_eq, bne_iff_ne, ne_eq, beq_eq_false_iff_ne, bne_eq_false_iff_eq, gt_iff_lt, ge_iff_le, Int.not_lt, Int.not_le] at hc129
            refine c_seq (fun K27 hK27 => ?_)
            refine c_reg ?_ -- region 29 compm.go:319
            refine wl (ro_cmp rfl rfl rfl) ?_
            refine wl (ro_assign rfl) ?_
            refine wl_nil (x_then (hK27 _ _ ?_))
            clear hK27 K27
            refine wc_cond rfl (fun hc138 => ?_) (fun hc138 => ?_)
            · try simp only [decide_eq_true_eq, decide_eq_false_iff_not, Bool.not_eq_true', Bool.not_eq_false', Bool.not_eq_eq_eq_not, Bool.not_true, Bool.not_false, beq_iff_eq, bne_iff_ne, ne_eq, beq_eq_false_iff_ne, bne_eq_false_iff_eq, gt_iff_lt, ge_iff_le, Int.not_lt, Int.not_le] at hc138
              refine c_seq (fun K28 hK28 => ?_)
              refine c_reg ?_ -- region 30 compm.go:320
              refine wl (ro_move rfl) ?_
              refine wl (ro_move rfl) ?_
              refine wl (ro_move rfl) ?_
              refine wl_call rfl en_55 (do55 (k := 11) (n := n) (x := 0) hR.dr he (by omega)) ?_
              rintro _ u22 ⟨rfl, ow22, x22, f22, r22⟩
              obtain ⟨hN, khN⟩ := cm_loc x22 f22 hN khN
              obtain ⟨h6, kh6⟩ := cm_loc x22 f22 h6 kh6
              have hs22 := hF.size
              replace hF := cm_trans hX hF f22
              replace hX := hX.trans hs22 x22
              replace hR := r22
              refine wl_nil (x_then (hK28 _ _ ?_))
              clear hK28 K28
              refine c_reg ?_ -- region 31 compm.go:321
              refine wl (ro_move rfl) ?_
              refine wl (ro_fieldAddr (k := 1) rfl fo_148_1) ?_
              refine wl (ro_loadB rfl sc_3 (by assumption) rfl) ?_
              refine wl (ro_move rfl) ?_
              refine wl_call rfl en_55 (do55 (k := 2) (n := (nd G n).A) (x := 0) hR.dr he (by omega)) ?_
              rintro _ u23 ⟨rfl, ow23, x23, f23, r23⟩
              obtain ⟨hN, khN⟩ := cm_loc x23 f23 hN khN
              obtain ⟨h6, kh6⟩ := cm_loc x23 f23 h6 kh6
              have hs23 := hF.size
              replace hF := cm_trans hX hF f23
              replace hX := hX.trans hs23 x23
              replace hR := r23
              refine wl_nil (x_blk ?_)
              refine bp_end Tryz.results56 rfl ?_
              refine ⟨rfl, ?_⟩
              try dsimp only at *
              first
              | (exfalso; omega)
              | (repeat (first | rw [if_pos (by omega)] | rw [if_neg (by omega)])
                 first
                 | exact hfin hX hF hR (by omega)
                 | (rw [he30]; exact hfin hX hF hR (by omega))
                 | (rw [hbk]
                    exact hfin hX hF (RM.thrT hclT hR hbT hkb (y' := { s1.th with tasks := r, vals := cutTo t.x s1.th.vals }) htr (hvs.cutTo hxt) hQ hB hte' ⟨by show r.length ≤ m + 1; omega, by show (cutTo t.x s1.th.vals).length ≤ m + 1; rw [cut_len hxt]; omega⟩) (by omega))
                 | (rw [← hbrk]; exact hfin hX hF hR (by omega))
                 | (rw [hlast]; exact ⟨_, _, hX, hF, hR.le (by omega)⟩))
            · try simp only [decide_eq_true_eq, decide_eq_false_iff_not, Bool.not_eq_true', Bool.not_eq_false', Bool.not_eq_eq_eq_not, Bool.not_true, Bool.not_false, beq_iff_eq, bne_iff_ne, ne_eq, beq_eq_false_iff_ne, bne_eq_false_iff_eq, gt_iff_lt, ge_iff_le, Int.not_lt, Int.not_le] at hc138
              refine c_seq (fun K29 hK29 => ?_)
              refine c_reg ?_ -- region 32 compm.go:322
              refine wl (ro_cmp rfl rfl rfl) ?_
              refine wl (ro_assign rfl) ?_
              refine wl_nil (x_then (hK29 _ _ ?_))
              clear hK29 K29
              refine wc_cond rfl (fun hc149 => ?_) (fun hc149 => ?_)
              · try simp only [decide_eq_true_eq, decide_eq_false_iff_not, Bool.not_eq_true', Bool.not_eq_false', Bool.not_eq_eq_eq_not, Bool.not_true, Bool.not_false, beq_iff_eq, bne_iff_ne, ne_eq, beq_eq_false_iff_ne, bne_eq_false_iff_eq, gt_iff_lt, ge_iff_le, Int.not_lt, Int.not_le] at hc149
                refine c_seq (fun K30 hK30 => ?_)
                refine c_reg ?_ -- region 33 compm.go:323
                refine wl (ro_move rfl) ?_
                refine wl (ro_move rfl) ?_
                refine wl_call rfl en_55 (do55 (k := 4) (n := 0) (x := (ido 1 (nd G n).Nx 0 ev s).th.vals.length) (e := 0) hR.dr (EP.nil _) (by omega)) ?_
                rintro _ u24 ⟨rfl, ow24, x24, f24, r24⟩
                obtain ⟨hN, khN⟩ := cm_loc x24 f24 hN khN
                obtain ⟨h6, kh6⟩ := cm_loc x24 f24 h6 kh6
                have hs24 := hF.size
                replace hF := cm_trans hX hF f24
                replace hX := hX.trans hs24 x24
                replace hR := r24
                refine wl_nil (x_then (hK30 _ _ ?_))
                clear hK30 K30
                refine c_reg ?_ -- region 34 compm.go:324
                refine wl (ro_move rfl) ?_
                refine wl (ro_move rfl) ?_
                refine wl (ro_move rfl) ?_
                refine wl_call rfl en_55 (do55 (k := 12) (n := n) (x := 0) hR.dr he (by omega)) ?_
                rintro _ u25 ⟨rfl, ow25, x25, f25, r25⟩
                obtain ⟨hN, khN⟩ := cm_loc x25 f25 hN khN
                obtain ⟨h6, kh6⟩ := cm_loc x25 f25 h6 kh6
                have hs25 := hF.size
                replace hF := cm_trans hX hF f25
                replace hX := hX.trans hs25 x25
                replace hR := r25
                refine wl_nil (x_blk ?_)
                refine bp_end Tryz.results56 rfl ?_
                refine ⟨rfl, ?_⟩
                try dsimp only at *
                first
                | (exfalso; omega)
                | (repeat (first | rw [if_pos (by omega)] | rw [if_neg (by omega)])
                   first
                   | exact hfin hX hF hR (by omega)
                   | (rw [he30]; exact hfin hX hF hR (by omega))
                   | (rw [hbk]
                      exact hfin hX hF (RM.thrT hclT hR hbT hkb (y' := { s1.th with tasks := r, vals := cutTo t.x s1.th.vals }) htr (hvs.cutTo hxt) hQ hB hte' ⟨by show r.length ≤ m + 1; omega, by show (cutTo t.x s1.th.vals).length ≤ m + 1; rw [cut_len hxt]; omega⟩) (by omega))
                   | (rw [← hbrk]; exact hfin hX hF hR (by omega))
                   | (rw [hlast]; exact ⟨_, _, hX, hF, hR.le (by omega)⟩))
              · try simp only [decide_eq_true_eq, decide_eq_false_iff_not, Bool.not_eq_true', Bool.not_eq_false', Bool.not_eq_eq_eq_not, Bool.not_true, Bool.not_false, beq_iff_eq, bne_iff_ne, ne_eq, beq_eq_false_iff_ne, bne_eq_false_iff_eq, gt_iff_lt, ge_iff_le, Int.not_lt, Int.not_le] at hc149
                refine c_seq (fun K31 hK31 => ?_)
                refine c_reg ?_ -- region 35 compm.go:325
                refine wl (ro_cmp rfl rfl rfl) ?_
                refine wl (ro_assign rfl) ?_
                refine wl_nil (x_then (hK31 _ _ ?_))
                clear hK31 K31
                refine wc_cond rfl (fun hc158 => ?_) (fun hc158 => ?_)
                · try simp only [decide_eq_true_eq, decide_eq_false_iff_not, Bool.not_eq_true', Bool.not_eq_false', Bool.not_eq_eq_eq_not, Bool.not_true, Bool.not_false, beq_iff_eq, bne_iff_ne, ne_eq, beq_eq_false_iff_ne, bne_eq_false_iff_eq, gt_iff_lt, ge_iff_le, Int.not_lt, Int.not_le] at hc158
                  refine c_seq (fun K32 hK32 => ?_)
                  refine c_reg ?_ -- region 36 compm.go:326
                  refine wl (ro_move rfl) ?_
                  refine wl (ro_move rfl) ?_
                  refine wl_call rfl en_55 (do55 (k := 4) (n := 0) (x := (ido 1 (nd G n).Nx 0 ev s).th.vals.length) (e := 0) hR.dr (EP.nil _) (by omega)) ?_
                  rintro _ u26 ⟨rfl, ow26, x26, f26, r26⟩
                  obtain ⟨hN, khN⟩ := cm_loc x26 f26 hN khN
                  obtain ⟨h6, kh6⟩ := cm_loc x26 f26 h6 kh6
                  have hs26 := hF.size
                  replace hF := cm_trans hX hF f26
                  replace hX := hX.trans hs26 x26
                  replace hR := r26
                  refine wl_nil (x_then (hK32 _ _ ?_))
                  clear hK32 K32
                  refine forget [(0, _), (1, _), (2, _), (6, _)] ⟨rfl, rfl, rfl, rfl, trivial⟩ (fun e => ?_)
                  refine c_seq (fun K33 hK33 => ?_)
                  refine c_reg ?_ -- region 37 compm.go:327
                  refine wl (ro_move rfl) ?_
                  refine wl (ro_move rfl) ?_
                  refine wl (ro_move rfl) ?_
                  refine wl_call rfl en_55 (do55 (k := 15) (n := n) (x := 0) hR.dr he (by omega)) ?_
                  rintro _ u27 ⟨rfl, ow27, x27, f27, r27⟩
                  obtain ⟨hN, khN⟩ := cm_loc x27 f27 hN khN
                  obtain ⟨h6, kh6⟩ := cm_loc x27 f27 h6 kh6
                  have hs27 := hF.size
                  replace hF := cm_trans hX hF f27
                  replace hX := hX.trans hs27 x27
                  replace hR := r27
                  refine wl_nil (x_then (hK33 _ _ ?_))
                  clear hK33 K33
                  refine forget [(0, _), (2, _), (6, _)] ⟨rfl, rfl, rfl, trivial⟩ (fun e => ?_)
                  refine c_seq (fun K34 hK34 => ?_)
                  obtain ⟨cv, hv_, a0, a1, a2, a3, a4, hXr, hq2, hq3, hq4⟩ := hR.r
                  unfold rnc at hXr
                  have hk70 := hR.t70
                  have hAl : (nd G n).A < G.length := hE.a (by omega)
                  obtain ⟨pA, hpA⟩ := hrow _ hAl
                  have hAl2 := hE.a2 (by omega)
                  obtain ⟨pA2, hpA2⟩ := hrow _ hAl2
                  refine c_pi [(0, false), (1, false), (2, false), (3, false), (4, false), (5, false), (6, false), (7, false), (8, false), (9, false)] (SameH _) mixed (by kernel_rfl) rfl (by kernel_rfl) (po_then (po_blk (po_bp))) (sameH_now _ _) ?_ -- region 38 compm.go:328
                  refine pi_ro rfl (fun w hS => ro_move rfl) ?_
                  refine pi_ro rfl (fun w hS => ro_nilCheck rfl) ?_
                  refine pi_ro rfl (fun w hS => ro_fieldAddr (k := 2) rfl fo_112_2) ?_
                  refine pi_ro rfl (fun w hS => ro_loadB rfl sc_77 (Blk.of_heap (by assumption) hS) rfl) ?_
                  refine pi_ro rfl (fun w hS => ro_fieldAddr (k := 1) rfl fo_148_1) ?_
                  refine pi_ro rfl (fun w hS => ro_loadB rfl sc_3 (Blk.of_heap (by assumption) hS) rfl) ?_
                  refine pi_ro rfl (fun w hS => ro_indexAddr (et := 148) (k := 8) rfl rfl se_77 (rfl) (hAl)) ?_
                  refine pi_ro rfl (fun w hS => ro_fieldAddr (k := 4) rfl fo_148_4) ?_
                  refine pi_ro rfl (fun w hS => ro_loadB rfl sc_3 (Blk.of_heap hN hS) (row_get hpA (by decide))) ?_
                  refine pi_ro rfl (fun w hS => ro_assign rfl) ?_
                  refine pi_nil (x_then (hK34 _ _ ?_))
                  clear hK34 K34
                  refine forget [(0, _), (2, _), (6, _), (10, _)] ⟨rfl, rfl, rfl, rfl, trivial⟩ (fun e => ?_)
                  refine c_seq (fun K35 hK35 => ?_)
                  refine c_reg ?_ -- region 39 compm.go:329
                  refine wl (ro_move rfl) ?_
                  refine wl (ro_nilCheck rfl) ?_
                  refine wl (ro_fieldAddr (k := 2) rfl fo_112_2) ?_
                  refine wl (ro_loadB rfl sc_77 (by assumption) rfl) ?_
                  refine wl (ro_move rfl) ?_
                  refine wl (ro_indexAddr (et := 148) (k := 8) rfl rfl se_77 (rfl) (hAl2)) ?_
                  refine wl (ro_fieldAddr (k := 4) rfl fo_148_4) ?_
                  refine wl (ro_loadB rfl sc_3 (hN) (row_get hpA2 (by decide))) ?_
                  refine wl (ro_assign rfl) ?_
                  refine wl_nil (x_then (hK35 _ _ ?_))
                  clear hK35 K35
                  refine c_seq (fun K36 hK36 => ?_)
                  refine c_seq (fun K37 hK37 => ?_)
                  refine c_reg ?_ -- region 40 compm.go:330
                  refine wl (ro_move rfl) ?_
                  refine wl (ro_cmp rfl rfl rfl) ?_
                  refine wl_nil (x_then (hK37 _ _ ?_))
                  clear hK37 K37
                  refine wc_cond rfl (fun hc185 => ?_) (fun hc185 => ?_)
                  · try simp only [decide_eq_true_eq, decide_eq_false_iff_not, Bool.not_eq_true', Bool.not_eq_false', Bool.not_eq_eq_eq_not, Bool.not_true, Bool.not_false, beq_iff_eq, bne_iff_ne, ne_eq, beq_eq_false_iff_ne, bne_eq_false_iff_eq, gt_iff_lt, ge_iff_le, Int.not_lt, Int.not_le] at hc185
                    refine c_reg ?_ -- region 41 compm.go:331
                    refine wl (ro_move rfl) ?_
                    refine wl (ro_move rfl) ?_
                    refine wl (ro_move rfl) ?_
                    refine wl_call rfl en_55 (do55 (k := 2) (n := (nd G (nd G (nd G n).A).Nx).Nx) (x := 0) hR.dr he (by omega)) ?_
                    rintro _ u28 ⟨rfl, ow28, x28, f28, r28⟩
                    obtain ⟨hN, khN⟩ := cm_loc x28 f28 hN khN
                    obtain ⟨h6, kh6⟩ := cm_loc x28 f28 h6 kh6
                    have hs28 := hF.size
                    replace hF := cm_trans hX hF f28
                    replace hX := hX.trans hs28 x28
                    replace hR := r28
                    refine wl_nil (x_then (hK36 _ _ ?_))
                    clear hK36 K36
                    refine forget [(0, _), (2, _), (6, _), (10, _)] ⟨rfl, rfl, rfl, rfl, trivial⟩ (fun e => ?_)
                    refine c_seq (fun K38 hK38 => ?_)
                    refine c_reg ?_ -- region 43 compm.go:335
                    refine wl (ro_move rfl) ?_
                    refine wl (ro_move rfl) ?_
                    refine wl (ro_move rfl) ?_
                    refine wl_call rfl en_55 (do55 (k := 2) (n := (nd G (nd G n).A).Nx) (x := 0) hR.dr he (by omega)) ?_
                    rintro _ u29 ⟨rfl, ow29, x29, f29, r29⟩
                    obtain ⟨hN, khN⟩ := cm_loc x29 f29 hN khN
                    obtain ⟨h6, kh6⟩ := cm_loc x29 f29 h6 kh6
                    have hs29 := hF.size
                    replace hF := cm_trans hX hF f29
                    replace hX := hX.trans hs29 x29
                    replace hR := r29
                    refine wl_nil (x_then (hK38 _ _ ?_))
                    clear hK38 K38
                    refine c_reg ?_ -- region 44 compm.go:336
                    refine wl (ro_move rfl) ?_
                    refine wl (ro_fieldAddr (k := 1) rfl fo_148_1) ?_
                    refine wl (ro_loadB rfl sc_3 (by assumption) rfl) ?_
                    refine wl (ro_move rfl) ?_
                    refine wl_call rfl en_55 (do55 (k := 2) (n := (nd G n).A) (x := 0) hR.dr he (by omega)) ?_
                    rintro _ u30 ⟨rfl, ow30, x30, f30, r30⟩
                    obtain ⟨hN, khN⟩ := cm_loc x30 f30 hN khN
                    obtain ⟨h6, kh6⟩ := cm_loc x30 f30 h6 kh6
                    have hs30 := hF.size
                    replace hF := cm_trans hX hF f30
                    replace hX := hX.trans hs30 x30
                    replace hR := r30
                    refine wl_nil (x_blk ?_)
                    refine bp_end Tryz.results56 rfl ?_
                    refine ⟨rfl, ?_⟩
                    try dsimp only at *
                    first
                    | (exfalso; omega)
                    | (repeat (first | rw [if_pos (by omega)] | rw [if_neg (by omega)])
                       first
                       | exact hfin hX hF hR (by omega)
                       | (rw [he30]; exact hfin hX hF hR (by omega))
                       | (rw [hbk]
                          exact hfin hX hF (RM.thrT hclT hR hbT hkb (y' := { s1.th with tasks := r, vals := cutTo t.x s1.th.vals }) htr (hvs.cutTo hxt) hQ hB hte' ⟨by show r.length ≤ m + 1; omega, by show (cutTo t.x s1.th.vals).length ≤ m + 1; rw [cut_len hxt]; omega⟩) (by omega))
                       | (rw [← hbrk]; exact hfin hX hF hR (by omega))
                       | (rw [hlast]; exact ⟨_, _, hX, hF, hR.le (by omega)⟩))
                  · try simp only [decide_eq_true_eq, decide_eq_false_iff_not, Bool.not_eq_true', Bool.not_eq_false', Bool.not_eq_eq_eq_not, Bool.not_true, Bool.not_false, beq_iff_eq, bne_iff_ne, ne_eq, beq_eq_false_iff_ne, bne_eq_false_iff_eq, gt_iff_lt, ge_iff_le, Int.not_lt, Int.not_le] at hc185
                    have he30 : (nd G (nd G (nd G n).A).Nx).Nx = 0 := by omega
                    refine c_reg ?_ -- region 42 compm.go:333
                    refine wl (ro_move rfl) ?_
                    refine wl (ro_move rfl) ?_
                    refine wl_call rfl en_55 (do55 (k := 2) (n := 0) (x := 1) hR.dr he (by omega)) ?_
                    rintro _ u31 ⟨rfl, ow31, x31, f31, r31⟩
                    obtain ⟨hN, khN⟩ := cm_loc x31 f31 hN khN
                    obtain ⟨h6, kh6⟩ := cm_loc x31 f31 h6 kh6
                    have hs31 := hF.size
                    replace hF := cm_trans hX hF f31
                    replace hX := hX.trans hs31 x31
                    replace hR := r31
                    refine wl_nil (x_then (hK36 _ _ ?_))
                    clear hK36 K36
                    refine forget [(0, _), (2, _), (6, _), (10, _)] ⟨rfl, rfl, rfl, rfl, trivial⟩ (fun e => ?_)
                    refine c_seq (fun K39 hK39 => ?_)
                    refine c_reg ?_ -- region 43 compm.go:335
                    refine wl (ro_move rfl) ?_
                    refine wl (ro_move rfl) ?_
                    refine wl (ro_move rfl) ?_
                    refine wl_call rfl en_55 (do55 (k := 2) (n := (nd G (nd G n).A).Nx) (x := 0) hR.dr he (by omega)) ?_
                    rintro _ u32 ⟨rfl, ow32, x32, f32, r32⟩
                    obtain ⟨hN, khN⟩ := cm_loc x32 f32 hN khN
                    obtain ⟨h6, kh6⟩ := cm_loc x32 f32 h6 kh6
                    have hs32 := hF.size
                    replace hF := cm_trans hX hF f32
                    replace hX := hX.trans hs32 x32
                    replace hR := r32
                    refine wl_nil (x_then (hK39 _ _ ?_))
                    clear hK39 K39
                    refine c_reg ?_ -- region 44 compm.go:336
                    refine wl (ro_move rfl) ?_
                    refine wl (ro_fieldAddr (k := 1) rfl fo_148_1) ?_
                    refine wl (ro_loadB rfl sc_3 (by assumption) rfl) ?_
                    refine wl (ro_move rfl) ?_
                    refine wl_call rfl en_55 (do55 (k := 2) (n := (nd G n).A) (x := 0) hR.dr he (by omega)) ?_
                    rintro _ u33 ⟨rfl, ow33, x33, f33, r33⟩
                    obtain ⟨hN, khN⟩ := cm_loc x33 f33 hN khN
                    obtain ⟨h6, kh6⟩ := cm_loc x33 f33 h6 kh6
                    have hs33 := hF.size
                    replace hF := cm_trans hX hF f33
                    replace hX := hX.trans hs33 x33
                    replace hR := r33
                    refine wl_nil (x_blk ?_)
                    refine bp_end Tryz.results56 rfl ?_
                    refine ⟨rfl, ?_⟩
                    try dsimp only at *
                    first
                    | (exfalso; omega)
                    | (repeat (first | rw [if_pos (by omega)] | rw [if_neg (by omega)])
                       first
                       | exact hfin hX hF hR (by omega)
                       | (rw [he30]; exact hfin hX hF hR (by omega))
                       | (rw [hbk]
                          exact hfin hX hF (RM.thrT hclT hR hbT hkb (y' := { s1.th with tasks := r, vals := cutTo t.x s1.th.vals }) htr (hvs.cutTo hxt) hQ hB hte' ⟨by show r.length ≤ m + 1; omega, by show (cutTo t.x s1.th.vals).length ≤ m + 1; rw [cut_len hxt]; omega⟩) (by omega))
                       | (rw [← hbrk]; exact hfin hX hF hR (by omega))
                       | (rw [hlast]; exact ⟨_, _, hX, hF, hR.le (by omega)⟩))
                · try simp only [decide_eq_true_eq, decide_eq_false_iff_not, Bool.not_eq_true', Bool.not_eq_false', Bool.not_eq_eq_eq_not, Bool.not_true, Bool.not_false, beq_iff_eq, bne_iff_ne, ne_eq, beq_eq_false_iff_ne, bne_eq_false_iff_eq, gt_iff_lt, ge_iff_le, Int.not_lt, Int.not_le] at hc158
                  refine c_seq (fun K40 hK40 => ?_)
                  refine c_reg ?_ -- region 45 compm.go:337
                  refine wl (ro_cmp rfl rfl rfl) ?_
                  refine wl (ro_assign rfl) ?_
                  refine wl_nil (x_then (hK40 _ _ ?_))
                  clear hK40 K40
                  refine wc_cond rfl (fun hc202 => ?_) (fun hc202 => ?_)
                  · try simp only [decide_eq_true_eq, decide_eq_false_iff_not, Bool.not_eq_true', Bool.not_eq_false', Bool.not_eq_eq_eq_not, Bool.not_true, Bool.not_false, beq_iff_eq, bne_iff_ne, ne_eq, beq_eq_false_iff_ne, bne_eq_false_iff_eq, gt_iff_lt, ge_iff_le, Int.not_lt, Int.not_le] at hc202
                    refine c_seq (fun K41 hK41 => ?_)
                    refine c_reg ?_ -- region 46 compm.go:338
                    refine wl (ro_move rfl) ?_
                    refine wl (ro_move rfl) ?_
                    refine wl_call rfl en_55 (do55 (k := 4) (n := 0) (x := (ido 1 (nd G n).Nx 0 ev s).th.vals.length) (e := 0) hR.dr (EP.nil _) (by omega)) ?_
                    rintro _ u34 ⟨rfl, ow34, x34, f34, r34⟩
                    obtain ⟨hN, khN⟩ := cm_loc x34 f34 hN khN
                    obtain ⟨h6, kh6⟩ := cm_loc x34 f34 h6 kh6
                    have hs34 := hF.size
                    replace hF := cm_trans hX hF f34
                    replace hX := hX.trans hs34 x34
                    replace hR := r34
                    refine wl_nil (x_then (hK41 _ _ ?_))
                    clear hK41 K41
                    refine forget [(0, _), (1, _), (2, _), (6, _)] ⟨rfl, rfl, rfl, rfl, trivial⟩ (fun e => ?_)
                    refine c_seq (fun K42 hK42 => ?_)
                    refine c_reg ?_ -- region 47 compm.go:339
                    refine wl (ro_move rfl) ?_
                    refine wl (ro_move rfl) ?_
                    refine wl (ro_move rfl) ?_
                    refine wl_call rfl en_55 (do55 (k := 18) (n := n) (x := 0) hR.dr he (by omega)) ?_
                    rintro _ u35 ⟨rfl, ow35, x35, f35, r35⟩
                    obtain ⟨hN, khN⟩ := cm_loc x35 f35 hN khN
                    obtain ⟨h6, kh6⟩ := cm_loc x35 f35 h6 kh6
                    have hs35 := hF.size
                    replace hF := cm_trans hX hF f35
                    replace hX := hX.trans hs35 x35
                    replace hR := r35
                    refine wl_nil (x_then (hK42 _ _ ?_))
                    clear hK42 K42
                    refine c_reg ?_ -- region 48 compm.go:340
                    refine wl (ro_move rfl) ?_
                    refine wl (ro_fieldAddr (k := 2) rfl fo_148_2) ?_
                    refine wl (ro_loadB rfl sc_3 (by assumption) rfl) ?_
                    refine wl (ro_move rfl) ?_
                    refine wl_call rfl en_55 (do55 (k := 2) (n := (nd G n).B) (x := 0) hR.dr he (by omega)) ?_
                    rintro _ u36 ⟨rfl, ow36, x36, f36, r36⟩
                    obtain ⟨hN, khN⟩ := cm_loc x36 f36 hN khN
                    obtain ⟨h6, kh6⟩ := cm_loc x36 f36 h6 kh6
                    have hs36 := hF.size
                    replace hF := cm_trans hX hF f36
                    replace hX := hX.trans hs36 x36
                    replace hR := r36
                    refine wl_nil (x_blk ?_)
                    refine bp_end Tryz.results56 rfl ?_
                    refine ⟨rfl, ?_⟩
                    try dsimp only at *
                    first
                    | (exfalso; omega)
                    | (repeat (first | rw [if_pos (by omega)] | rw [if_neg (by omega)])
                       first
                       | exact hfin hX hF hR (by omega)
                       | (rw [he30]; exact hfin hX hF hR (by omega))
                       | (rw [hbk]
                          exact hfin hX hF (RM.thrT hclT hR hbT hkb (y' := { s1.th with tasks := r, vals := cutTo t.x s1.th.vals }) htr (hvs.cutTo hxt) hQ hB hte' ⟨by show r.length ≤ m + 1; omega, by show (cutTo t.x s1.th.vals).length ≤ m + 1; rw [cut_len hxt]; omega⟩) (by omega))
                       | (rw [← hbrk]; exact hfin hX hF hR (by omega))
                       | (rw [hlast]; exact ⟨_, _, hX, hF, hR.le (by omega)⟩))
                  · try simp only [decide_eq_true_eq, decide_eq_false_iff_not, Bool.not_eq_true', Bool.not_eq_false', Bool.not_eq_eq_eq_not, Bool.not_true, Bool.not_false, beq_iff_eq, bne_iff_ne, ne_eq, beq_eq_false_iff_ne, bne_eq_false_iff_eq, gt_iff_lt, ge_iff_le, Int.not_lt, Int.not_le] at hc202
                    refine c_seq (fun K43 hK43 => ?_)
                    refine c_reg ?_ -- region 49 compm.go:341
                    refine wl (ro_cmp rfl rfl rfl) ?_
                    refine wl (ro_assign rfl) ?_
                    refine wl_nil (x_then (hK43 _ _ ?_))
                    clear hK43 K43
                    refine wc_cond rfl (fun hc216 => ?_) (fun hc216 => ?_)
                    · try simp only [decide_eq_true_eq, decide_eq_false_iff_not, Bool.not_eq_true', Bool.not_eq_false', Bool.not_eq_eq_eq_not, Bool.not_true, Bool.not_false, beq_iff_eq, bne_iff_ne, ne_eq, beq_eq_false_iff_ne, bne_eq_false_iff_eq, gt_iff_lt, ge_iff_le, Int.not_lt, Int.not_le] at hc216
                      refine c_seq (fun K44 hK44 => ?_)
                      refine c_reg ?_ -- region 50 compm.go:342
                      refine wl (ro_move rfl) ?_
                      refine wl_call rfl en_55 (do55 (k := 21) (n := 0) (x := 0) (e := 0) hR.dr (EP.nil _) (by omega)) ?_
                      rintro _ u37 ⟨rfl, ow37, x37, f37, r37⟩
                      obtain ⟨hN, khN⟩ := cm_loc x37 f37 hN khN
                      obtain ⟨h6, kh6⟩ := cm_loc x37 f37 h6 kh6
                      have hs37 := hF.size
                      replace hF := cm_trans hX hF f37
                      replace hX := hX.trans hs37 x37
                      replace hR := r37
                      refine wl_nil (x_then (hK44 _ _ ?_))
                      clear hK44 K44
                      refine forget [(0, _), (2, _), (6, _)] ⟨rfl, rfl, rfl, trivial⟩ (fun e => ?_)
                      refine c_seq (fun K45 hK45 => ?_)
                      refine c_reg ?_ -- region 51 compm.go:343
                      refine wl (ro_move rfl) ?_
                      refine wl (ro_fieldAddr (k := 2) rfl fo_148_2) ?_
                      refine wl (ro_loadB rfl sc_3 (by assumption) rfl) ?_
                      refine wl (ro_move rfl) ?_
                      refine wl_call rfl en_55 (do55 (k := 2) (n := (nd G n).B) (x := 0) hR.dr he (by omega)) ?_
                      rintro _ u38 ⟨rfl, ow38, x38, f38, r38⟩
                      obtain ⟨hN, khN⟩ := cm_loc x38 f38 hN khN
                      obtain ⟨h6, kh6⟩ := cm_loc x38 f38 h6 kh6
                      have hs38 := hF.size
                      replace hF := cm_trans hX hF f38
                      replace hX := hX.trans hs38 x38
                      replace hR := r38
                      refine wl_nil (x_then (hK45 _ _ ?_))
                      clear hK45 K45
                      refine c_reg ?_ -- region 52 compm.go:344
                      refine wl (ro_move rfl) ?_
                      refine wl (ro_fieldAddr (k := 1) rfl fo_148_1) ?_
                      refine wl (ro_loadB rfl sc_3 (by assumption) rfl) ?_
                      refine wl (ro_move rfl) ?_
                      refine wl_call rfl en_55 (do55 (k := 2) (n := (nd G n).A) (x := 0) hR.dr he (by omega)) ?_
                      rintro _ u39 ⟨rfl, ow39, x39, f39, r39⟩
                      obtain ⟨hN, khN⟩ := cm_loc x39 f39 hN khN
                      obtain ⟨h6, kh6⟩ := cm_loc x39 f39 h6 kh6
                      have hs39 := hF.size
                      replace hF := cm_trans hX hF f39
                      replace hX := hX.trans hs39 x39
                      replace hR := r39
                      refine wl_nil (x_blk ?_)
                      refine bp_end Tryz.results56 rfl ?_
                      refine ⟨rfl, ?_⟩
                      try dsimp only at *
                      first
                      | (exfalso; omega)
                      | (repeat (first | rw [if_pos (by omega)] | rw [if_neg (by omega)])
                         first
                         | exact hfin hX hF hR (by omega)
                         | (rw [he30]; exact hfin hX hF hR (by omega))
                         | (rw [hbk]
                            exact hfin hX hF (RM.thrT hclT hR hbT hkb (y' := { s1.th with tasks := r, vals := cutTo t.x s1.th.vals }) htr (hvs.cutTo hxt) hQ hB hte' ⟨by show r.length ≤ m + 1; omega, by show (cutTo t.x s1.th.vals).length ≤ m + 1; rw [cut_len hxt]; omega⟩) (by omega))
                         | (rw [← hbrk]; exact hfin hX hF hR (by omega))
                         | (rw [hlast]; exact ⟨_, _, hX, hF, hR.le (by omega)⟩))
                    · try simp only [decide_eq_true_eq, decide_eq_false_iff_not, Bool.not_eq_true', Bool.not_eq_false', Bool.not_eq_eq_eq_not, Bool.not_true, Bool.not_false, beq_iff_eq, bne_iff_ne, ne_eq, beq_eq_false_iff_ne, bne_eq_false_iff_eq, gt_iff_lt, ge_iff_le, Int.not_lt, Int.not_le] at hc216
                      refine c_seq (fun K46 hK46 => ?_)
                      refine c_reg ?_ -- region 53 compm.go:345
                      refine wl (ro_cmp rfl rfl rfl) ?_
                      refine wl (ro_assign rfl) ?_
                      refine wl_nil (x_then (hK46 _ _ ?_))
                      clear hK46 K46
                      refine wc_cond rfl (fun hc230 => ?_) (fun hc230 => ?_)
                      · try simp only [decide_eq_true_eq, decide_eq_false_iff_not, Bool.not_eq_true', Bool.not_eq_false', Bool.not_eq_eq_eq_not, Bool.not_true, Bool.not_false, beq_iff_eq, bne_iff_ne, ne_eq, beq_eq_false_iff_ne, bne_eq_false_iff_eq, gt_iff_lt, ge_iff_le, Int.not_lt, Int.not_le] at hc230
                        refine c_seq (fun K47 hK47 => ?_)
                        obtain ⟨gb0, tv0, vv0⟩ := hTh
                        have hmb := hR.mem_b hR.cl hkb
                        have hbm := hR.bdm
                        have hmb0 : tg ow cmT bT ∨ w.heap.size ≤ bT := by
                          rcases Nat.lt_or_ge bT w.heap.size with hlt | hge
                          · exact .inl (by show cmT (ow bT); rw [← hX bT hlt]; exact hmb)
                          · exact .inr hge
                        replace hxb := hxb (by omega)
                        generalize hs1 : ido 1 (nd G n).Nx 0 ev s = s1 at *
                        refine c_pi [(0, false), (1, false), (2, false), (3, false), (4, false), (5, false), (6, false), (7, false), (8, false), (9, false), (10, false)] (SameH _) mixed (by kernel_rfl) rfl (by kernel_rfl) (po_then (po_blk (po_bp))) (sameH_now _ _) ?_ -- region 54 compm.go:346
                        refine pi_ro rfl (fun w hS => ro_move rfl) ?_
                        refine pi_ro rfl (fun w hS => ro_nilCheck rfl) ?_
                        refine pi_ro rfl (fun w hS => ro_fieldAddr (k := 5) rfl fo_112_5) ?_
                        refine pi_ro rfl (fun w hS => ro_loadB rfl sc_109 (Blk.of_heap (by assumption) hS) rfl) ?_
                        refine pi_ro rfl (fun w hS => ro_move rfl) ?_
                        refine pi_ro rfl (fun w hS => ro_nilCheck rfl) ?_
                        refine pi_ro rfl (fun w hS => ro_fieldAddr (k := 12) rfl fo_112_8) ?_
                        refine pi_ro rfl (fun w hS => ro_loadB rfl sc_3 (Blk.of_heap (by assumption) hS) rfl) ?_
                        refine pi_ro rfl (fun w hS => ro_indexAddr (et := 123) (k := 1) rfl rfl se_109 rfl (by omega)) ?_
                        refine pi_ro rfl (fun w hS => ro_loadB rfl sc_123 (Blk.of_heap hO hS) (hlT)) ?_
                        refine pi_ro rfl (fun w hS => ro_assign rfl) ?_
                        refine pi_nil (x_then (hK47 _ _ ?_))
                        clear hK47 K47
                        refine c_block ?_
                        -- loop@r55: live slots [12]
                        refine c_loopG (fun mm a' w' => ∃ T, mm = T.length ∧ brkL T = brkL s1.th.tasks ∧ (∀ t ∈ T, t.e ≤ s1.envs.length) ∧ T.length ≤ m + 1 ∧ Fram (tg ow cmT) w w' ∧ RM G root np tb rb (.slice (some ⟨gn, 0, none⟩) G.length capn) w' ow11 β τ (m + 1) (s1.setT { s1.th with tasks := T }) ∧ ∃ e, a' = Fr 287 (upds e [(12, ptr bT)]) []) s1.th.tasks.length ⟨s1.th.tasks, rfl, rfl, hR.tem, hbm.1, hF.thenDrew, by rw [show ({ s1.th with tasks := s1.th.tasks } : ITh) = s1.th from rfl, setT_self hclT]; exact hR.dr, kp _ ⟨rfl, trivial⟩⟩ ?_
                        clear hR hN h6 kh6 khN hF hXr hO hB
                        rintro mm a' u1 ⟨T, rfl, hbrk, hte, hTm, hF, hR, e, rfl⟩
                        obtain ⟨tv, vv, hT⟩ := RM.thbT hclT hR hbT
                        have hB : Blk u1.heap bT [i64c s1.th.st, i64c s1.th.fn, i64c s1.th.depth, tv, vv] 126 := hT.k
                        have hts : OwT u1 ow11 (80 + s1.cur) tv 161 4 T.length (rws (tsc β) T.reverse) := hT.ts
                        have hvs : OwT u1 ow11 (85 + s1.cur) vv 119 3 s1.th.vals.length (rws pvc s1.th.vals.reverse) := hT.vs
                        clear hT
                        have hQ := Fram.refl (one bT) u1
                        obtain ⟨ta, tc, rfl⟩ := hts.form
                        obtain ⟨va', vc', rfl⟩ := hvs.form
                        have hvc := hvs.capge
                        refine c_seq (fun K48 hK48 => ?_)
                        refine c_seq (fun K49 hK49 => ?_)
                        refine c_reg ?_ -- region 55 compm.go:347
                        refine wl (ro_move rfl) ?_
                        refine wl (ro_nilCheck rfl) ?_
                        refine wl (ro_fieldAddr (k := 3) rfl fo_126_3) ?_
                        refine wl (ro_loadB rfl sc_124 (by assumption) rfl) ?_
                        refine wl (ro_lenL rfl se_124) ?_
                        refine wl (ro_cmp rfl rfl rfl) ?_
                        refine wl_nil (x_then (hK49 _ _ ?_))
                        clear hK49 K49
                        refine wc_cond rfl (fun hc247 => ?_) (fun hc247 => ?_)
                        · try simp only [decide_eq_true_eq, decide_eq_false_iff_not, Bool.not_eq_true', Bool.not_eq_false', Bool.not_eq_eq_eq_not, Bool.not_true, Bool.not_false, beq_iff_eq, bne_iff_ne, ne_eq, beq_eq_false_iff_ne, bne_eq_false_iff_eq, gt_iff_lt, ge_iff_le, Int.not_lt, Int.not_le] at hc247
                          obtain ⟨t, r, rfl⟩ : ∃ t r, T = t :: r := by
                            cases T with
                            | nil => simp at hc247
                            | cons t r => exact ⟨t, r, rfl⟩
                          obtain ⟨gt, capt, lt, e1, hV, q1, q2, q3, q4⟩ := hts.atR (tsc_len β) (j := 0) rfl
                          cases e1
                          have htr : OwT u1 ow11 (80 + s1.cur) (.slice (some ⟨gt, 0, none⟩) r.length tc) 161 4 r.length (rws (tsc β) r.reverse) := hts.dropR (tsc_len β) 1
                          have hrl : (t :: r).length = r.length + 1 := rfl
                          have hte' : ∀ z ∈ r, z.e ≤ s1.envs.length := fun z hz => hte z (List.mem_cons_of_mem _ hz)
                          refine c_skip (x_then (hK48 _ _ ?_))
                          clear hK48 K48
                          refine c_block ?_
                          refine forget [(12, _)] ⟨rfl, trivial⟩ (fun e => ?_)
                          refine c_seq (fun K50 hK50 => ?_)
                          refine c_piL 13 [(0, false), (1, false), (2, false), (3, false), (4, false), (5, false), (6, false), (7, false), (8, false), (9, false), (10, false), (11, false), (12, true)] (fun u => Blk u.heap bT [i64c s1.th.st, i64c s1.th.fn, i64c s1.th.depth, .slice (some ⟨gt, 0, none⟩) (t :: r).length tc, .slice va' s1.th.vals.length vc'] 126 ∧ Blk u.heap gt lt 161) mixed (by kernel_rfl) rfl (by kernel_rfl) (po_then (po_blk (po_then (po_blk (po_blk (po_bp)))))) (⟨hB, hV⟩) ?_ -- region 56 compm.go:348
                          refine ql_ro rfl (fun w hS => ro_move rfl) ?_
                          refine ql_ro rfl (fun w hS => ro_nilCheck rfl) ?_
                          refine ql_ro rfl (fun w hS => ro_fieldAddr (k := 3) rfl fo_126_3) ?_
                          refine ql_ro rfl (fun w hS => ro_loadB rfl sc_124 (hS.1) rfl) ?_
                          refine ql_ro rfl (fun w hS => ro_move rfl) ?_
                          refine ql_ro rfl (fun w hS => ro_nilCheck rfl) ?_
                          refine ql_ro rfl (fun w hS => ro_fieldAddr (k := 3) rfl fo_126_3) ?_
                          refine ql_ro rfl (fun w hS => ro_loadB rfl sc_124 (hS.1) rfl) ?_
                          refine ql_ro rfl (fun w hS => ro_lenL rfl se_124) ?_
                          refine ql_ro rfl (fun w hS => ro_arith rfl rfl rfl (Go.IntWalk.i64_in _ (by omega))) ?_
                          refine ql_ro rfl (fun w hS => ro_indexAddr (et := 161) (k := 4) rfl rfl se_124 ((show (((t :: r).length : Int) - 1) = (((t :: r).length - 1 - 0 : Nat) : Int) by omega)) ((by omega))) ?_
                          refine ql_ro rfl (fun w hS => ro_loadAggB rfl ag_161 (hS.2) (rfl) (q4)) ?_
                          refine ql_new rfl ze_161 (fun w1 F ↦ ⟨F.blkN hB, F.blkN hV⟩) ?_
                          intro b13 w40 hbb13 h13 F40
                          have hbsb13 := Nat.le_trans hF.size hbb13
                          have hbsb13 := Nat.le_trans hQ.size hbb13
                          have hnebTb13 : bT < b13 := Nat.lt_of_lt_of_le hB.lt hbb13
                          have hnegtb13 : gt < b13 := Nat.lt_of_lt_of_le hV.lt hbb13
                          replace hF := hF.thenDrew.thenN F40
                          replace hQ := hQ.thenDrew.thenN F40
                          replace hB := F40.blkN hB
                          replace hV := F40.blkN hV
                          refine ql_puta rfl rfl rfl ((tsc_one _ _)) sz_161 (rfl) h13 ((by simp)) (rfl) (fun w41 h13 F41 => ?_)
                          replace hF := hF.thenDrew.thenO F41 (by first | exact .inr (by omega) | exact .inl rfl | exact .inl (by assumption) | assumption)
                          replace hQ := hQ.thenDrew.thenO F41 (by first | exact .inr (by omega) | exact .inl rfl | exact .inl (by assumption) | assumption)
                          replace hB := F41.blkO hB (by first | omega | exact ow_ne (by assumption) (by assumption) (by omega))
                          replace hV := F41.blkO hV (by first | omega | exact ow_ne (by assumption) (by assumption) (by omega))
                          refine x_then (hK50 _ _ ?_)
                          clear hK50 K50
                          refine forget [(12, _), (13, _)] ⟨rfl, rfl, trivial⟩ (fun e => ?_)
                          refine c_seq (fun K51 hK51 => ?_)
                          refine c_piL 14 [(0, false), (1, false), (2, false), (3, false), (4, false), (5, false), (6, false), (7, false), (8, false), (9, false), (10, false), (11, false), (12, false), (13, false)] (SameH _) mixed (by kernel_rfl) rfl (by kernel_rfl) (po_then (po_blk (po_then (po_blk (po_blk (po_bp)))))) (sameH_now _ _) ?_ -- region 57 compm.go:349
                          refine ql_ro rfl (fun w hS => ro_move rfl) ?_
                          refine ql_ro rfl (fun w hS => ro_move rfl) ?_
                          refine ql_ro rfl (fun w hS => ro_nilCheck rfl) ?_
                          refine ql_ro rfl (fun w hS => ro_fieldAddr (k := 3) rfl fo_126_3) ?_
                          refine ql_ro rfl (fun w hS => ro_loadB rfl sc_124 (Blk.of_heap (by assumption) hS) rfl) ?_
                          refine ql_ro rfl (fun w hS => ro_move rfl) ?_
                          refine ql_ro rfl (fun w hS => ro_nilCheck rfl) ?_
                          refine ql_ro rfl (fun w hS => ro_fieldAddr (k := 3) rfl fo_126_3) ?_
                          refine ql_ro rfl (fun w hS => ro_loadB rfl sc_124 (Blk.of_heap (by assumption) hS) rfl) ?_
                          refine ql_ro rfl (fun w hS => ro_lenL rfl se_124) ?_
                          refine ql_ro rfl (fun w hS => ro_arith rfl rfl rfl (Go.IntWalk.i64_in _ (by omega))) ?_
                          refine ql_ro rfl (fun w hS => ro_sliceH (h := r.length) rfl rfl se_124 (by omega) (by omega)) ?_
                          refine ql_ro rfl (fun w hS => ro_nilCheck rfl) ?_
                          refine ql_ro rfl (fun w hS => ro_fieldAddr (k := 3) rfl fo_126_3) ?_
                          refine ql_put rfl rfl rfl rfl sz_124 hB ((by simp)) (rfl) (fun w42 hB F42 => ?_)
                          replace hF := hF.thenDrew.thenO F42 (by first | exact .inr (by omega) | exact .inl rfl | exact .inl (by assumption) | assumption)
                          replace hQ := hQ.thenDrew.thenO F42 (by first | exact .inr (by omega) | exact .inl rfl | exact .inl (by assumption) | assumption)
                          replace h13 := F42.blkO h13 (by first | omega | exact ow_ne (by assumption) (by assumption) (by omega))
                          refine x_then (hK51 _ _ ?_)
                          clear hK51 K51
                          refine forget [(12, _), (13, _)] ⟨rfl, rfl, trivial⟩ (fun e => ?_)
                          refine c_seq (fun K52 hK52 => ?_)
                          refine c_reg ?_ -- region 58 compm.go:350
                          refine wl (ro_fieldAddr (k := 0) rfl fo_161_0) ?_
                          refine wl (ro_loadB rfl sc_3 (by assumption) rfl) ?_
                          refine wl (ro_cmp rfl rfl rfl) ?_
                          refine wl_nil (x_then (hK52 _ _ ?_))
                          clear hK52 K52
                          refine wc_cond rfl (fun hc276 => ?_) (fun hc276 => ?_)
                          · try simp only [decide_eq_true_eq, decide_eq_false_iff_not, Bool.not_eq_true', Bool.not_eq_false', Bool.not_eq_eq_eq_not, Bool.not_true, Bool.not_false, beq_iff_eq, bne_iff_ne, ne_eq, beq_eq_false_iff_ne, bne_eq_false_iff_eq, gt_iff_lt, ge_iff_le, Int.not_lt, Int.not_le] at hc276
                            have hk4 : t.k = 4 := by omega
                            have hbk : brkL s1.th.tasks = some (t, r) := by rw [← hbrk, brkL, if_pos hk4]
                            have hxt : t.x ≤ s1.th.vals.length := hxb t r hbk
                            refine c_seq (fun K53 hK53 => ?_)
                            refine c_piL 10 [(0, false), (1, false), (2, false), (3, false), (4, false), (5, false), (6, false), (7, false), (8, false), (9, false)] (SameH _) mixed (by kernel_rfl) rfl (by kernel_rfl) (po_then (po_blk (po_then (po_blk (po_blk (po_bp)))))) (sameH_now _ _) ?_ -- region 59 compm.go:351
                            refine ql_ro rfl (fun w hS => ro_move rfl) ?_
                            refine ql_ro rfl (fun w hS => ro_move rfl) ?_
                            refine ql_ro rfl (fun w hS => ro_nilCheck rfl) ?_
                            refine ql_ro rfl (fun w hS => ro_fieldAddr (k := 4) rfl fo_126_4) ?_
                            refine ql_ro rfl (fun w hS => ro_loadB rfl sc_83 (Blk.of_heap (by assumption) hS) rfl) ?_
                            refine ql_ro rfl (fun w hS => ro_fieldAddr (k := 2) rfl fo_161_2) ?_
                            refine ql_ro rfl (fun w hS => ro_loadB rfl sc_3 (Blk.of_heap (by assumption) hS) rfl) ?_
                            refine ql_ro rfl (fun w hS => ro_sliceH (h := t.x) rfl rfl se_83 rfl (by omega)) ?_
                            refine ql_ro rfl (fun w hS => ro_nilCheck rfl) ?_
                            refine ql_ro rfl (fun w hS => ro_fieldAddr (k := 4) rfl fo_126_4) ?_
                            refine ql_put rfl rfl rfl rfl sz_83 hB ((by simp)) (rfl) (fun w43 hB F43 => ?_)
                            replace hF := hF.thenDrew.thenO F43 (by first | exact .inr (by omega) | exact .inl rfl | exact .inl (by assumption) | assumption)
                            replace hQ := hQ.thenDrew.thenO F43 (by first | exact .inr (by omega) | exact .inl rfl | exact .inl (by assumption) | assumption)
                            replace h13 := F43.blkO h13 (by first | omega | exact ow_ne (by assumption) (by assumption) (by omega))
                            refine x_then (hK53 _ _ ?_)
                            clear hK53 K53
                            refine c_ret (x_blkR (x_thenR (x_blkR (x_blkR ?_))))
                            refine bp_ret Tryz.results56 rfl ?_
                            refine ⟨rfl, ?_⟩
                            try dsimp only at *
                            first
                            | (exfalso; omega)
                            | (repeat (first | rw [if_pos (by omega)] | rw [if_neg (by omega)])
                               first
                               | exact hfin hX hF hR (by omega)
                               | (rw [he30]; exact hfin hX hF hR (by omega))
                               | (rw [hbk]
                                  exact hfin hX hF (RM.thrT hclT hR hbT hkb (y' := { s1.th with tasks := r, vals := cutTo t.x s1.th.vals }) htr (hvs.cutTo hxt) hQ hB hte' ⟨by show r.length ≤ m + 1; omega, by show (cutTo t.x s1.th.vals).length ≤ m + 1; rw [cut_len hxt]; omega⟩) (by omega))
                               | (rw [← hbrk]; exact hfin hX hF hR (by omega))
                               | (rw [hlast]; exact ⟨_, _, hX, hF, hR.le (by omega)⟩))
                          · try simp only [decide_eq_true_eq, decide_eq_false_iff_not, Bool.not_eq_true', Bool.not_eq_false', Bool.not_eq_eq_eq_not, Bool.not_true, Bool.not_false, beq_iff_eq, bne_iff_ne, ne_eq, beq_eq_false_iff_ne, bne_eq_false_iff_eq, gt_iff_lt, ge_iff_le, Int.not_lt, Int.not_le] at hc276
                            have hk4 : ¬ t.k = 4 := by omega
                            refine c_skip (x_blk (x_then ?_))
                            refine ⟨r.length, by omega, r, rfl, ?_, hte', by omega, hF, RM.thrT hclT hR hbT hkb (y' := { s1.th with tasks := r }) htr hvs hQ hB hte' ⟨by show r.length ≤ m + 1; omega, hbm.2⟩, kp _ ⟨rfl, trivial⟩⟩
                            rw [← hbrk, brkL, if_neg hk4]
                        · try simp only [decide_eq_true_eq, decide_eq_false_iff_not, Bool.not_eq_true', Bool.not_eq_false', Bool.not_eq_eq_eq_not, Bool.not_true, Bool.not_false, beq_iff_eq, bne_iff_ne, ne_eq, beq_eq_false_iff_ne, bne_eq_false_iff_eq, gt_iff_lt, ge_iff_le, Int.not_lt, Int.not_le] at hc247
                          have hT0 : T = [] := List.eq_nil_of_length_eq_zero (by omega)
                          subst hT0
                          refine c_exit (x_thenX (x_thenX (x_blkX (x_blk ?_))))
                          refine bp_end Tryz.results56 rfl ?_
                          refine ⟨rfl, ?_⟩
                          try dsimp only at *
                          first
                          | (exfalso; omega)
                          | (repeat (first | rw [if_pos (by omega)] | rw [if_neg (by omega)])
                             first
                             | exact hfin hX hF hR (by omega)
                             | (rw [he30]; exact hfin hX hF hR (by omega))
                             | (rw [hbk]
                                exact hfin hX hF (RM.thrT hclT hR hbT hkb (y' := { s1.th with tasks := r, vals := cutTo t.x s1.th.vals }) htr (hvs.cutTo hxt) hQ hB hte' ⟨by show r.length ≤ m + 1; omega, by show (cutTo t.x s1.th.vals).length ≤ m + 1; rw [cut_len hxt]; omega⟩) (by omega))
                             | (rw [← hbrk]; exact hfin hX hF hR (by omega))
                             | (rw [hlast]; exact ⟨_, _, hX, hF, hR.le (by omega)⟩))
                      · try simp only [decide_eq_true_eq, decide_eq_false_iff_not, Bool.not_eq_true', Bool.not_eq_false', Bool.not_eq_eq_eq_not, Bool.not_true, Bool.not_false, beq_iff_eq, bne_iff_ne, ne_eq, beq_eq_false_iff_ne, bne_eq_false_iff_eq, gt_iff_lt, ge_iff_le, Int.not_lt, Int.not_le] at hc230
                        refine c_skip (x_blk ?_)
                        refine bp_end Tryz.results56 rfl ?_
                        refine ⟨rfl, ?_⟩
                        try dsimp only at *
                        first
                        | (exfalso; omega)
                        | (repeat (first | rw [if_pos (by omega)] | rw [if_neg (by omega)])
                           first
                           | exact hfin hX hF hR (by omega)
                           | (rw [he30]; exact hfin hX hF hR (by omega))
                           | (rw [hbk]
                              exact hfin hX hF (RM.thrT hclT hR hbT hkb (y' := { s1.th with tasks := r, vals := cutTo t.x s1.th.vals }) htr (hvs.cutTo hxt) hQ hB hte' ⟨by show r.length ≤ m + 1; omega, by show (cutTo t.x s1.th.vals).length ≤ m + 1; rw [cut_len hxt]; omega⟩) (by omega))
                           | (rw [← hbrk]; exact hfin hX hF hR (by omega))
                           | (rw [hlast]; exact ⟨_, _, hX, hF, hR.le (by omega)⟩))

end Go.Proofs.Qxb6500568aGreatDoor
