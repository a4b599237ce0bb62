import Derived.Test.Qxb6500570aGreatDj
/- The model's arithmetic of values. -/
namespace Go.Proofs.Qxb6500570aGreat
set_option linter.unusedVariables false
set_option linter.unusedSimpArgs false

theorem number226 {w : World} {x : Vl} : Ret Tryz.prog 226 [vlA x] w (fun v w' => v = .tuple #[icv (amt x), .bool (cntV x)] ∧ Fram none' w w') := by
  have hF : Fram none' w w := Fram.refl _ _
  refine ret_of Tryz.func226 rfl Tryz.ntmps226 rfl ?_
  refine c_seq (fun K1 hK1 => ?_)
  refine c_reg ?_ -- region 0 eval.go:139
  refine wl_box rfl rfl (fun b1 w1 hbb1 h1 F1 => ?_)
  have hbsb1 := Nat.le_trans hF.size hbb1
  replace hF := hF.thenDrew.thenN F1
  refine wl (ro_assign rfl) ?_
  refine wl (ro_assign rfl) ?_
  refine wl_nil (x_then (hK1 _ _ ?_))
  clear hK1 K1
  refine c_seq (fun K2 hK2 => ?_)
  refine c_seq (fun K3 hK3 => ?_)
  refine c_reg ?_ -- region 1 eval.go:140
  refine wl (ro_fieldAddr (k := 0) rfl fo_104_0) ?_
  refine wl (ro_loadB rfl sc_3 (by assumption) rfl) ?_
  refine wl (ro_cmp rfl rfl rfl) ?_
  refine wl_nil (x_then (hK3 _ _ ?_))
  clear hK3 K3
  refine wc_cond rfl (fun hc6 => ?_) (fun hc6 => ?_)
  · try simp only [decide_eq_true_eq, decide_eq_false_iff_not, Bool.not_eq_true', Bool.not_eq_false', Bool.not_eq_eq_eq_not, Bool.not_true, Bool.not_false, beq_iff_eq, bne_iff_ne, ne_eq, beq_eq_false_iff_ne, bne_eq_false_iff_eq, gt_iff_lt, ge_iff_le, Int.not_lt, Int.not_le] at hc6
    refine c_seq (fun K4 hK4 => ?_)
    refine c_reg ?_ -- region 2 eval.go:141
    refine wl (ro_fieldAddr (k := 1) rfl fo_104_1) ?_
    refine wl (ro_loadB rfl sc_3 (by assumption) rfl) ?_
    refine wl (ro_assign rfl) ?_
    refine wl (ro_assign rfl) ?_
    refine wl_nil (x_then (hK4 _ _ ?_))
    clear hK4 K4
    refine c_ret (x_thenR ?_)
    refine bp_ret Tryz.results226 rfl ?_
    refine ⟨?_, hF⟩
    unfold amt cntV
    rw [if_pos hc6]
    simp [hc6]
  · try simp only [decide_eq_true_eq, decide_eq_false_iff_not, Bool.not_eq_true', Bool.not_eq_false', Bool.not_eq_eq_eq_not, Bool.not_true, Bool.not_false, beq_iff_eq, bne_iff_ne, ne_eq, beq_eq_false_iff_ne, bne_eq_false_iff_eq, gt_iff_lt, ge_iff_le, Int.not_lt, Int.not_le] at hc6
    refine c_skip (x_then (hK2 _ _ ?_))
    clear hK2 K2
    refine forget [(1, _)] ⟨rfl, trivial⟩ (fun e => ?_)
    refine c_seq (fun K5 hK5 => ?_)
    refine c_pi [(0, false), (1, false), (2, false), (3, false), (4, false)] (SameH _) mixed (by kernel_rfl) rfl (by kernel_rfl) (po_then (po_bp)) (sameH_now _ _) ?_ -- region 3 eval.go:143
    refine pi_ro rfl (fun w hS => ro_fieldAddr (k := 0) rfl fo_104_0) ?_
    refine pi_ro rfl (fun w hS => ro_loadB rfl sc_3 (Blk.of_heap (by assumption) hS) rfl) ?_
    refine pi_ro rfl (fun w hS => ro_cmp rfl rfl rfl) ?_
    refine pi_ro rfl (fun w hS => ro_assign rfl) ?_
    refine pi_ro rfl (fun w hS => ro_assign rfl) ?_
    refine pi_nil (x_then (hK5 _ _ ?_))
    clear hK5 K5
    refine c_ret ?_
    refine bp_ret Tryz.results226 rfl ?_
    refine ⟨?_, hF.thenDrew⟩
    unfold amt cntV
    rw [if_neg hc6]
    by_cases h0 : x.k = 0 <;> simp [h0, hc6]
set_option maxHeartbeats 1000000 in
theorem Unary213 {w : World} {f : Nat} {x : Vl} (hx : Lw x) : Ret Tryz.prog 213 [i64c f, vlA x] w (fun v w' => v = vlA (unV f x) ∧ Fram none' w w') := by
  have hF : Fram none' w w := Fram.refl _ _
  have hb := hx.bd
  have ha := amt_bd hx
  have hwd : wdV x = true ↔ (x.k = 2 ∨ x.k = 0) := by unfold wdV; simp
  refine ret_of Tryz.func213 rfl Tryz.ntmps213 rfl ?_
  refine c_seq (fun K1 hK1 => ?_)
  refine c_reg ?_ -- region 0 eval.go:275
  refine wl_box rfl rfl (fun b3 w1 hbb3 h3 F1 => ?_)
  have hbsb3 := Nat.le_trans hF.size hbb3
  replace hF := hF.thenDrew.thenN F1
  refine wl_new (ze_104) (fun b4 w2 hbb4 h4 F2 => ?_)
  have hbsb4 := Nat.le_trans hF.size hbb4
  have hneb3b4 : b3 < b4 := Nat.lt_of_lt_of_le h3.lt hbb4
  replace hF := hF.thenDrew.thenN F2
  replace h3 := F2.blkN h3
  refine wl_nil (x_then (hK1 _ _ ?_))
  clear hK1 K1
  refine c_seq (fun K2 hK2 => ?_)
  refine c_seq (fun K3 hK3 => ?_)
  refine c_reg ?_ -- region 1 eval.go:276
  refine wl (ro_fieldAddr (k := 0) rfl fo_104_0) ?_
  refine wl (ro_loadB rfl sc_3 (by assumption) rfl) ?_
  refine wl (ro_cmp rfl rfl rfl) ?_
  refine wl_nil (x_then (hK3 _ _ ?_))
  clear hK3 K3
  refine wc_cond rfl (fun hc9 => ?_) (fun hc9 => ?_)
  · try simp only [decide_eq_true_eq, decide_eq_false_iff_not, Bool.not_eq_true', Bool.not_eq_false', Bool.not_eq_eq_eq_not, Bool.not_true, Bool.not_false, beq_iff_eq, bne_iff_ne, ne_eq, beq_eq_false_iff_ne, bne_eq_false_iff_eq, gt_iff_lt, ge_iff_le, Int.not_lt, Int.not_le] at hc9
    refine c_seq (fun K4 hK4 => ?_)
    refine c_reg ?_ -- region 2 eval.go:277
    refine wl (ro_loadAggB rfl ag_104 (by assumption) rfl rfl) ?_
    refine wl_puta rfl rfl ((by (try exact vlc_cells _); all_goals simp [Value.oneCell', i64c, icv, u64c, u8c, ptr, S])) sz_104 (rfl) h4 ((by simp)) (rfl) (fun w3 h4 F3 => ?_)
    replace hF := hF.thenDrew.thenO F3 (by first | exact .inr (by omega) | exact .inl rfl | exact .inl (by assumption))
    replace h3 := F3.blkO h3 (by omega)
    refine wl_nil (x_then (hK4 _ _ ?_))
    clear hK4 K4
    refine c_ret (x_thenR ?_)
    refine bq_ret (res1 Tryz.results213 (rv_c rfl ag_104 (h4) rfl)) ?_
    refine ⟨?_, hF⟩
    unfold unV
    repeat first | rw [if_pos (by omega)] | rw [if_neg (by omega)] | rw [if_pos (by assumption)] | rw [if_neg (by rw [Bool.not_eq_true]; assumption)] | rw [if_pos (hwd.2 (by omega))] | rw [if_neg (fun h => absurd (hwd.1 h) (by omega))]
    rfl
  · try simp only [decide_eq_true_eq, decide_eq_false_iff_not, Bool.not_eq_true', Bool.not_eq_false', Bool.not_eq_eq_eq_not, Bool.not_true, Bool.not_false, beq_iff_eq, bne_iff_ne, ne_eq, beq_eq_false_iff_ne, bne_eq_false_iff_eq, gt_iff_lt, ge_iff_le, Int.not_lt, Int.not_le] at hc9
    refine c_skip (x_then (hK2 _ _ ?_))
    clear hK2 K2
    refine forget [(0, _), (3, _), (4, _)] ⟨rfl, rfl, rfl, trivial⟩ (fun e => ?_)
    refine c_seq (fun K5 hK5 => ?_)
    refine c_reg ?_ -- region 3 eval.go:279
    refine wl (ro_loadAggB rfl ag_104 (by assumption) rfl rfl) ?_
    refine wl_call rfl en_226 (number226) ?_
    rintro _ w4 ⟨rfl, F4⟩
    replace hF := hF.thenDrew.thenN F4
    replace h3 := F4.blkN h3
    replace h4 := F4.blkN h4
    refine wl (ro_move rfl) ?_
    refine wl (ro_extract rfl rfl) ?_
    refine wl (ro_extract rfl rfl) ?_
    refine wl (ro_assign rfl) ?_
    refine wl (ro_assign rfl) ?_
    refine wl_nil (x_then (hK5 _ _ ?_))
    clear hK5 K5
    refine c_seq (fun K6 hK6 => ?_)
    refine c_seq (fun K7 hK7 => ?_)
    refine c_reg ?_ -- region 4 eval.go:280
    refine wl (ro_move rfl) ?_
    refine wl_nil (x_then (hK7 _ _ ?_))
    clear hK7 K7
    refine c_block ?_
    refine forget [(0, _), (3, _), (4, _), (5, _), (6, _), (16, _)] ⟨rfl, rfl, rfl, rfl, rfl, rfl, trivial⟩ (fun e => ?_)
    refine c_seq (fun K8 hK8 => ?_)
    refine c_reg ?_ -- region 5 eval.go:281
    refine wl (ro_cmp rfl rfl rfl) ?_
    refine wl (ro_assign rfl) ?_
    refine wl_nil (x_then (hK8 _ _ ?_))
    clear hK8 K8
    refine wc_cond rfl (fun hc17 => ?_) (fun hc17 => ?_)
    · try simp only [decide_eq_true_eq, decide_eq_false_iff_not, Bool.not_eq_true', Bool.not_eq_false', Bool.not_eq_eq_eq_not, Bool.not_true, Bool.not_false, beq_iff_eq, bne_iff_ne, ne_eq, beq_eq_false_iff_ne, bne_eq_false_iff_eq, gt_iff_lt, ge_iff_le, Int.not_lt, Int.not_le] at hc17
      refine c_seq (fun K9 hK9 => ?_)
      refine c_seq (fun K10 hK10 => ?_)
      refine c_reg ?_ -- region 6 eval.go:282
      refine wl (ro_fieldAddr (k := 0) rfl fo_104_0) ?_
      refine wl (ro_loadB rfl sc_3 (by assumption) rfl) ?_
      refine wl (ro_cmp rfl rfl rfl) ?_
      refine wl_nil (x_then (hK10 _ _ ?_))
      clear hK10 K10
      refine wc_cond rfl (fun hc21 => ?_) (fun hc21 => ?_)
      · try simp only [decide_eq_true_eq, decide_eq_false_iff_not, Bool.not_eq_true', Bool.not_eq_false', Bool.not_eq_eq_eq_not, Bool.not_true, Bool.not_false, beq_iff_eq, bne_iff_ne, ne_eq, beq_eq_false_iff_ne, bne_eq_false_iff_eq, gt_iff_lt, ge_iff_le, Int.not_lt, Int.not_le] at hc21
        refine c_seq (fun K11 hK11 => ?_)
        refine c_reg ?_ -- region 7 eval.go:283
        refine wl_call rfl en_116 (Err116) ?_
        rintro _ w5 ⟨rfl, F5⟩
        replace hF := hF.thenDrew.thenN F5
        replace h3 := F5.blkN h3
        replace h4 := F5.blkN h4
        refine wl_puta rfl rfl ((by (try exact vlc_cells _); all_goals simp [Value.oneCell', i64c, icv, u64c, u8c, ptr, S])) sz_104 (rfl) h4 ((by simp)) (rfl) (fun w6 h4 F6 => ?_)
        replace hF := hF.thenDrew.thenO F6 (by first | exact .inr (by omega) | exact .inl rfl | exact .inl (by assumption))
        replace h3 := F6.blkO h3 (by omega)
        refine wl_nil (x_then (hK11 _ _ ?_))
        clear hK11 K11
        refine c_ret (x_thenR (x_blkR (x_thenR ?_)))
        refine bq_ret (res1 Tryz.results213 (rv_c rfl ag_104 (h4) rfl)) ?_
        refine ⟨?_, hF⟩
        unfold unV
        repeat first | rw [if_pos (by omega)] | rw [if_neg (by omega)] | rw [if_pos (by assumption)] | rw [if_neg (by rw [Bool.not_eq_true]; assumption)] | rw [if_pos (hwd.2 (by omega))] | rw [if_neg (fun h => absurd (hwd.1 h) (by omega))]
        rfl
      · try simp only [decide_eq_true_eq, decide_eq_false_iff_not, Bool.not_eq_true', Bool.not_eq_false', Bool.not_eq_eq_eq_not, Bool.not_true, Bool.not_false, beq_iff_eq, bne_iff_ne, ne_eq, beq_eq_false_iff_ne, bne_eq_false_iff_eq, gt_iff_lt, ge_iff_le, Int.not_lt, Int.not_le] at hc21
        refine c_skip (x_then (hK9 _ _ ?_))
        clear hK9 K9
        refine forget [(3, _), (4, _)] ⟨rfl, rfl, trivial⟩ (fun e => ?_)
        refine c_seq (fun K12 hK12 => ?_)
        refine c_reg ?_ -- region 8 eval.go:285
        refine wl (ro_fieldAddr (k := 1) rfl fo_104_1) ?_
        refine wl (ro_loadB rfl sc_3 (by assumption) rfl) ?_
        refine wl (ro_cmp rfl rfl rfl) ?_
        refine wl_call rfl en_219 (Bool219) ?_
        rintro _ w7 ⟨rfl, F7⟩
        replace hF := hF.thenDrew.thenN F7
        replace h3 := F7.blkN h3
        replace h4 := F7.blkN h4
        refine wl_puta rfl rfl ((by (try exact vlc_cells _); all_goals simp [Value.oneCell', i64c, icv, u64c, u8c, ptr, S])) sz_104 (rfl) h4 ((by simp)) (rfl) (fun w8 h4 F8 => ?_)
        replace hF := hF.thenDrew.thenO F8 (by first | exact .inr (by omega) | exact .inl rfl | exact .inl (by assumption))
        replace h3 := F8.blkO h3 (by omega)
        refine wl_nil (x_then (hK12 _ _ ?_))
        clear hK12 K12
        refine c_ret (x_blkR (x_thenR ?_))
        refine bq_ret (res1 Tryz.results213 (rv_c rfl ag_104 (h4) rfl)) ?_
        refine ⟨?_, hF⟩
        unfold unV
        repeat first | rw [if_pos (by omega)] | rw [if_neg (by omega)] | rw [if_pos (by assumption)] | rw [if_neg (by rw [Bool.not_eq_true]; assumption)] | rw [if_pos (hwd.2 (by omega))] | rw [if_neg (fun h => absurd (hwd.1 h) (by omega))]
        rfl
    · try simp only [decide_eq_true_eq, decide_eq_false_iff_not, Bool.not_eq_true', Bool.not_eq_false', Bool.not_eq_eq_eq_not, Bool.not_true, Bool.not_false, beq_iff_eq, bne_iff_ne, ne_eq, beq_eq_false_iff_ne, bne_eq_false_iff_eq, gt_iff_lt, ge_iff_le, Int.not_lt, Int.not_le] at hc17
      refine c_seq (fun K13 hK13 => ?_)
      refine c_reg ?_ -- region 9 eval.go:286
      refine wl (ro_cmp rfl rfl rfl) ?_
      refine wl (ro_assign rfl) ?_
      refine wl_nil (x_then (hK13 _ _ ?_))
      clear hK13 K13
      refine wc_cond rfl (fun hc27 => ?_) (fun hc27 => ?_)
      · try simp only [decide_eq_true_eq, decide_eq_false_iff_not, Bool.not_eq_true', Bool.not_eq_false', Bool.not_eq_eq_eq_not, Bool.not_true, Bool.not_false, beq_iff_eq, bne_iff_ne, ne_eq, beq_eq_false_iff_ne, bne_eq_false_iff_eq, gt_iff_lt, ge_iff_le, Int.not_lt, Int.not_le] at hc27
        refine c_seq (fun K14 hK14 => ?_)
        refine c_seq (fun K15 hK15 => ?_)
        refine c_reg ?_ -- region 10 eval.go:287
        refine wl (ro_fieldAddr (k := 0) rfl fo_104_0) ?_
        refine wl (ro_loadB rfl sc_3 (by assumption) rfl) ?_
        refine wl (ro_cmp rfl rfl rfl) ?_
        refine wl_fork rfl (fun hg32 => ?_) (fun hg32 => ?_)
        · try simp only [decide_eq_true_eq, decide_eq_false_iff_not, Bool.not_eq_true', Bool.not_eq_false', Bool.not_eq_eq_eq_not, Bool.not_true, Bool.not_false, beq_iff_eq, bne_iff_ne, ne_eq, beq_eq_false_iff_ne, bne_eq_false_iff_eq, gt_iff_lt, ge_iff_le, Int.not_lt, Int.not_le] at hg32
          refine wlg_yes rfl (ro_fieldAddr (k := 0) rfl fo_104_0) ?_
          refine wlg_yes rfl (ro_loadB rfl sc_3 (by assumption) rfl) ?_
          refine wlg_yes rfl (ro_cmp rfl rfl rfl) ?_
          refine wl (ro_pick rfl rfl rfl) ?_
          refine wl_nil (x_then (hK15 _ _ ?_))
          clear hK15 K15
          refine wc_cond rfl (fun hc36 => ?_) (fun hc36 => ?_)
          · try simp only [decide_eq_true_eq, decide_eq_false_iff_not, Bool.not_eq_true', Bool.not_eq_false', Bool.not_eq_eq_eq_not, Bool.not_true, Bool.not_false, beq_iff_eq, bne_iff_ne, ne_eq, beq_eq_false_iff_ne, bne_eq_false_iff_eq, gt_iff_lt, ge_iff_le, Int.not_lt, Int.not_le] at hc36
            refine c_seq (fun K16 hK16 => ?_)
            refine c_reg ?_ -- region 11 eval.go:288
            refine wl_call rfl en_116 (Err116) ?_
            rintro _ w9 ⟨rfl, F9⟩
            replace hF := hF.thenDrew.thenN F9
            replace h3 := F9.blkN h3
            replace h4 := F9.blkN h4
            refine wl_puta rfl rfl ((by (try exact vlc_cells _); all_goals simp [Value.oneCell', i64c, icv, u64c, u8c, ptr, S])) sz_104 (rfl) h4 ((by simp)) (rfl) (fun w10 h4 F10 => ?_)
            replace hF := hF.thenDrew.thenO F10 (by first | exact .inr (by omega) | exact .inl rfl | exact .inl (by assumption))
            replace h3 := F10.blkO h3 (by omega)
            refine wl_nil (x_then (hK16 _ _ ?_))
            clear hK16 K16
            refine c_ret (x_thenR (x_blkR (x_thenR ?_)))
            refine bq_ret (res1 Tryz.results213 (rv_c rfl ag_104 (h4) rfl)) ?_
            refine ⟨?_, hF⟩
            unfold unV
            repeat first | rw [if_pos (by omega)] | rw [if_neg (by omega)] | rw [if_pos (by assumption)] | rw [if_neg (by rw [Bool.not_eq_true]; assumption)] | rw [if_pos (hwd.2 (by omega))] | rw [if_neg (fun h => absurd (hwd.1 h) (by omega))]
            rfl
          · try simp only [decide_eq_true_eq, decide_eq_false_iff_not, Bool.not_eq_true', Bool.not_eq_false', Bool.not_eq_eq_eq_not, Bool.not_true, Bool.not_false, beq_iff_eq, bne_iff_ne, ne_eq, beq_eq_false_iff_ne, bne_eq_false_iff_eq, gt_iff_lt, ge_iff_le, Int.not_lt, Int.not_le] at hc36
            refine c_skip (x_then (hK14 _ _ ?_))
            clear hK14 K14
            refine forget [(3, _), (4, _)] ⟨rfl, rfl, trivial⟩ (fun e => ?_)
            refine c_seq (fun K17 hK17 => ?_)
            refine c_reg ?_ -- region 12 eval.go:290
            refine wl (ro_fieldAddr (k := 2) rfl fo_104_2) ?_
            refine wl (ro_loadB rfl sc_9 (by assumption) rfl) ?_
            refine wl (ro_lenS rfl st_9) ?_
            refine wl_call rfl en_187 (Int187) ?_
            rintro _ w11 ⟨rfl, F11⟩
            replace hF := hF.thenDrew.thenN F11
            replace h3 := F11.blkN h3
            replace h4 := F11.blkN h4
            refine wl_puta rfl rfl ((by (try exact vlc_cells _); all_goals simp [Value.oneCell', i64c, icv, u64c, u8c, ptr, S])) sz_104 (rfl) h4 ((by simp)) (rfl) (fun w12 h4 F12 => ?_)
            replace hF := hF.thenDrew.thenO F12 (by first | exact .inr (by omega) | exact .inl rfl | exact .inl (by assumption))
            replace h3 := F12.blkO h3 (by omega)
            refine wl_nil (x_then (hK17 _ _ ?_))
            clear hK17 K17
            refine c_ret (x_blkR (x_thenR ?_))
            refine bq_ret (res1 Tryz.results213 (rv_c rfl ag_104 (h4) rfl)) ?_
            refine ⟨?_, hF⟩
            unfold unV
            repeat first | rw [if_pos (by omega)] | rw [if_neg (by omega)] | rw [if_pos (by assumption)] | rw [if_neg (by rw [Bool.not_eq_true]; assumption)] | rw [if_pos (hwd.2 (by omega))] | rw [if_neg (fun h => absurd (hwd.1 h) (by omega))]
            rfl
        · try simp only [decide_eq_true_eq, decide_eq_false_iff_not, Bool.not_eq_true', Bool.not_eq_false', Bool.not_eq_eq_eq_not, Bool.not_true, Bool.not_false, beq_iff_eq, bne_iff_ne, ne_eq, beq_eq_false_iff_ne, bne_eq_false_iff_eq, gt_iff_lt, ge_iff_le, Int.not_lt, Int.not_le] at hg32
          refine wlg_no rfl ?_
          refine wlg_no rfl ?_
          refine wlg_no rfl ?_
          refine wl (ro_pick rfl rfl rfl) ?_
          refine wl_nil (x_then (hK15 _ _ ?_))
          clear hK15 K15
          refine wc_condF rfl ?_
          refine c_skip (x_then (hK14 _ _ ?_))
          clear hK14 K14
          refine forget [(3, _), (4, _)] ⟨rfl, rfl, trivial⟩ (fun e => ?_)
          refine c_seq (fun K18 hK18 => ?_)
          refine c_reg ?_ -- region 12 eval.go:290
          refine wl (ro_fieldAddr (k := 2) rfl fo_104_2) ?_
          refine wl (ro_loadB rfl sc_9 (by assumption) rfl) ?_
          refine wl (ro_lenS rfl st_9) ?_
          refine wl_call rfl en_187 (Int187) ?_
          rintro _ w13 ⟨rfl, F13⟩
          replace hF := hF.thenDrew.thenN F13
          replace h3 := F13.blkN h3
          replace h4 := F13.blkN h4
          refine wl_puta rfl rfl ((by (try exact vlc_cells _); all_goals simp [Value.oneCell', i64c, icv, u64c, u8c, ptr, S])) sz_104 (rfl) h4 ((by simp)) (rfl) (fun w14 h4 F14 => ?_)
          replace hF := hF.thenDrew.thenO F14 (by first | exact .inr (by omega) | exact .inl rfl | exact .inl (by assumption))
          replace h3 := F14.blkO h3 (by omega)
          refine wl_nil (x_then (hK18 _ _ ?_))
          clear hK18 K18
          refine c_ret (x_blkR (x_thenR ?_))
          refine bq_ret (res1 Tryz.results213 (rv_c rfl ag_104 (h4) rfl)) ?_
          refine ⟨?_, hF⟩
          unfold unV
          repeat first | rw [if_pos (by omega)] | rw [if_neg (by omega)] | rw [if_pos (by assumption)] | rw [if_neg (by rw [Bool.not_eq_true]; assumption)] | rw [if_pos (hwd.2 (by omega))] | rw [if_neg (fun h => absurd (hwd.1 h) (by omega))]
          rfl
      · try simp only [decide_eq_true_eq, decide_eq_false_iff_not, Bool.not_eq_true', Bool.not_eq_false', Bool.not_eq_eq_eq_not, Bool.not_true, Bool.not_false, beq_iff_eq, bne_iff_ne, ne_eq, beq_eq_false_iff_ne, bne_eq_false_iff_eq, gt_iff_lt, ge_iff_le, Int.not_lt, Int.not_le] at hc27
        refine c_skip (x_blk (x_then (hK6 _ _ ?_)))
        clear hK6 K6
        refine c_seq (fun K19 hK19 => ?_)
        refine c_seq (fun K20 hK20 => ?_)
        refine c_reg ?_ -- region 13 eval.go:292
        refine wl (ro_move rfl) ?_
        refine wl (ro_not rfl) ?_
        refine wl_nil (x_then (hK20 _ _ ?_))
        clear hK20 K20
        refine wc_cond rfl (fun hc43 => ?_) (fun hc43 => ?_)
        · try simp only [decide_eq_true_eq, decide_eq_false_iff_not, Bool.not_eq_true', Bool.not_eq_false', Bool.not_eq_eq_eq_not, Bool.not_true, Bool.not_false, beq_iff_eq, bne_iff_ne, ne_eq, beq_eq_false_iff_ne, bne_eq_false_iff_eq, gt_iff_lt, ge_iff_le, Int.not_lt, Int.not_le] at hc43
          refine c_seq (fun K21 hK21 => ?_)
          refine c_reg ?_ -- region 14 eval.go:293
          refine wl_call rfl en_116 (Err116) ?_
          rintro _ w15 ⟨rfl, F15⟩
          replace hF := hF.thenDrew.thenN F15
          replace h3 := F15.blkN h3
          replace h4 := F15.blkN h4
          refine wl_puta rfl rfl ((by (try exact vlc_cells _); all_goals simp [Value.oneCell', i64c, icv, u64c, u8c, ptr, S])) sz_104 (rfl) h4 ((by simp)) (rfl) (fun w16 h4 F16 => ?_)
          replace hF := hF.thenDrew.thenO F16 (by first | exact .inr (by omega) | exact .inl rfl | exact .inl (by assumption))
          replace h3 := F16.blkO h3 (by omega)
          refine wl_nil (x_then (hK21 _ _ ?_))
          clear hK21 K21
          refine c_ret (x_thenR ?_)
          refine bq_ret (res1 Tryz.results213 (rv_c rfl ag_104 (h4) rfl)) ?_
          refine ⟨?_, hF⟩
          unfold unV
          repeat first | rw [if_pos (by omega)] | rw [if_neg (by omega)] | rw [if_pos (by assumption)] | rw [if_neg (by rw [Bool.not_eq_true]; assumption)] | rw [if_pos (hwd.2 (by omega))] | rw [if_neg (fun h => absurd (hwd.1 h) (by omega))]
          rfl
        · try simp only [decide_eq_true_eq, decide_eq_false_iff_not, Bool.not_eq_true', Bool.not_eq_false', Bool.not_eq_eq_eq_not, Bool.not_true, Bool.not_false, beq_iff_eq, bne_iff_ne, ne_eq, beq_eq_false_iff_ne, bne_eq_false_iff_eq, gt_iff_lt, ge_iff_le, Int.not_lt, Int.not_le] at hc43
          refine c_skip (x_then (hK19 _ _ ?_))
          clear hK19 K19
          refine c_seq (fun K22 hK22 => ?_)
          refine c_seq (fun K23 hK23 => ?_)
          refine c_reg ?_ -- region 15 eval.go:295
          refine wl (ro_move rfl) ?_
          refine wl (ro_cmp rfl rfl rfl) ?_
          refine wl_fork rfl (fun hg47 => ?_) (fun hg47 => ?_)
          · try simp only [decide_eq_true_eq, decide_eq_false_iff_not, Bool.not_eq_true', Bool.not_eq_false', Bool.not_eq_eq_eq_not, Bool.not_true, Bool.not_false, beq_iff_eq, bne_iff_ne, ne_eq, beq_eq_false_iff_ne, bne_eq_false_iff_eq, gt_iff_lt, ge_iff_le, Int.not_lt, Int.not_le] at hg47
            refine wlg_yes rfl (ro_move rfl) ?_
            refine wlg_yes rfl (ro_cmp rfl rfl rfl) ?_
            refine wl (ro_pick rfl rfl rfl) ?_
            refine wl_nil (x_then (hK23 _ _ ?_))
            clear hK23 K23
            refine wc_cond rfl (fun hc50 => ?_) (fun hc50 => ?_)
            · try simp only [decide_eq_true_eq, decide_eq_false_iff_not, Bool.not_eq_true', Bool.not_eq_false', Bool.not_eq_eq_eq_not, Bool.not_true, Bool.not_false, beq_iff_eq, bne_iff_ne, ne_eq, beq_eq_false_iff_ne, bne_eq_false_iff_eq, gt_iff_lt, ge_iff_le, Int.not_lt, Int.not_le] at hc50
              refine c_seq (fun K24 hK24 => ?_)
              refine c_reg ?_ -- region 16 eval.go:296
              refine wl (ro_move rfl) ?_
              refine wl_call rfl en_187 (Int187) ?_
              rintro _ w17 ⟨rfl, F17⟩
              replace hF := hF.thenDrew.thenN F17
              replace h3 := F17.blkN h3
              replace h4 := F17.blkN h4
              refine wl_puta rfl rfl ((by (try exact vlc_cells _); all_goals simp [Value.oneCell', i64c, icv, u64c, u8c, ptr, S])) sz_104 (rfl) h4 ((by simp)) (rfl) (fun w18 h4 F18 => ?_)
              replace hF := hF.thenDrew.thenO F18 (by first | exact .inr (by omega) | exact .inl rfl | exact .inl (by assumption))
              replace h3 := F18.blkO h3 (by omega)
              refine wl_nil (x_then (hK24 _ _ ?_))
              clear hK24 K24
              refine c_ret (x_thenR ?_)
              refine bq_ret (res1 Tryz.results213 (rv_c rfl ag_104 (h4) rfl)) ?_
              refine ⟨?_, hF⟩
              unfold unV
              repeat first | rw [if_pos (by omega)] | rw [if_neg (by omega)] | rw [if_pos (by assumption)] | rw [if_neg (by rw [Bool.not_eq_true]; assumption)] | rw [if_pos (hwd.2 (by omega))] | rw [if_neg (fun h => absurd (hwd.1 h) (by omega))]
              rfl
            · try simp only [decide_eq_true_eq, decide_eq_false_iff_not, Bool.not_eq_true', Bool.not_eq_false', Bool.not_eq_eq_eq_not, Bool.not_true, Bool.not_false, beq_iff_eq, bne_iff_ne, ne_eq, beq_eq_false_iff_ne, bne_eq_false_iff_eq, gt_iff_lt, ge_iff_le, Int.not_lt, Int.not_le] at hc50
              refine c_skip (x_then (hK22 _ _ ?_))
              clear hK22 K22
              refine forget [(4, _), (5, _)] ⟨rfl, rfl, trivial⟩ (fun e => ?_)
              refine c_seq (fun K25 hK25 => ?_)
              refine c_reg ?_ -- region 17 eval.go:298
              refine wl (ro_move rfl) ?_
              refine wl (ro_neg rfl (by omega)) ?_
              refine wl_call rfl en_187 (Int187) ?_
              rintro _ w19 ⟨rfl, F19⟩
              replace hF := hF.thenDrew.thenN F19
              replace h3 := F19.blkN h3
              replace h4 := F19.blkN h4
              refine wl_puta rfl rfl ((by (try exact vlc_cells _); all_goals simp [Value.oneCell', i64c, icv, u64c, u8c, ptr, S])) sz_104 (rfl) h4 ((by simp)) (rfl) (fun w20 h4 F20 => ?_)
              replace hF := hF.thenDrew.thenO F20 (by first | exact .inr (by omega) | exact .inl rfl | exact .inl (by assumption))
              replace h3 := F20.blkO h3 (by omega)
              refine wl_nil (x_then (hK25 _ _ ?_))
              clear hK25 K25
              refine c_ret ?_
              refine bq_ret (res1 Tryz.results213 (rv_c rfl ag_104 (h4) rfl)) ?_
              refine ⟨?_, hF⟩
              unfold unV
              repeat first | rw [if_pos (by omega)] | rw [if_neg (by omega)] | rw [if_pos (by assumption)] | rw [if_neg (by rw [Bool.not_eq_true]; assumption)] | rw [if_pos (hwd.2 (by omega))] | rw [if_neg (fun h => absurd (hwd.1 h) (by omega))]
              rfl
          · try simp only [decide_eq_true_eq, decide_eq_false_iff_not, Bool.not_eq_true', Bool.not_eq_false', Bool.not_eq_eq_eq_not, Bool.not_true, Bool.not_false, beq_iff_eq, bne_iff_ne, ne_eq, beq_eq_false_iff_ne, bne_eq_false_iff_eq, gt_iff_lt, ge_iff_le, Int.not_lt, Int.not_le] at hg47
            refine wlg_no rfl ?_
            refine wlg_no rfl ?_
            refine wl (ro_pick rfl rfl rfl) ?_
            refine wl_nil (x_then (hK23 _ _ ?_))
            clear hK23 K23
            refine wc_condF rfl ?_
            refine c_skip (x_then (hK22 _ _ ?_))
            clear hK22 K22
            refine forget [(4, _), (5, _)] ⟨rfl, rfl, trivial⟩ (fun e => ?_)
            refine c_seq (fun K26 hK26 => ?_)
            refine c_reg ?_ -- region 17 eval.go:298
            refine wl (ro_move rfl) ?_
            refine wl (ro_neg rfl (by omega)) ?_
            refine wl_call rfl en_187 (Int187) ?_
            rintro _ w21 ⟨rfl, F21⟩
            replace hF := hF.thenDrew.thenN F21
            replace h3 := F21.blkN h3
            replace h4 := F21.blkN h4
            refine wl_puta rfl rfl ((by (try exact vlc_cells _); all_goals simp [Value.oneCell', i64c, icv, u64c, u8c, ptr, S])) sz_104 (rfl) h4 ((by simp)) (rfl) (fun w22 h4 F22 => ?_)
            replace hF := hF.thenDrew.thenO F22 (by first | exact .inr (by omega) | exact .inl rfl | exact .inl (by assumption))
            replace h3 := F22.blkO h3 (by omega)
            refine wl_nil (x_then (hK26 _ _ ?_))
            clear hK26 K26
            refine c_ret ?_
            refine bq_ret (res1 Tryz.results213 (rv_c rfl ag_104 (h4) rfl)) ?_
            refine ⟨?_, hF⟩
            unfold unV
            repeat first | rw [if_pos (by omega)] | rw [if_neg (by omega)] | rw [if_pos (by assumption)] | rw [if_neg (by rw [Bool.not_eq_true]; assumption)] | rw [if_pos (hwd.2 (by omega))] | rw [if_neg (fun h => absurd (hwd.1 h) (by omega))]
            rfl
set_option maxHeartbeats 2000000 in
theorem Choose215 {w : World} {c x y : Vl} : Ret Tryz.prog 215 [vlA c, vlA x, vlA y] w (fun v w' => v = vlA (chV c x y) ∧ Fram none' w w') := by
  have hF : Fram none' w w := Fram.refl _ _
  refine ret_of Tryz.func215 rfl Tryz.ntmps215 rfl ?_
  refine c_seq (fun K1 hK1 => ?_)
  refine c_reg ?_ -- region 0 eval.go:302
  refine wl_box rfl rfl (fun b3 w1 hbb3 h3 F1 => ?_)
  have hbsb3 := Nat.le_trans hF.size hbb3
  replace hF := hF.thenDrew.thenN F1
  refine wl_box rfl rfl (fun b4 w2 hbb4 h4 F2 => ?_)
  have hbsb4 := Nat.le_trans hF.size hbb4
  have hneb3b4 : b3 < b4 := Nat.lt_of_lt_of_le h3.lt hbb4
  replace hF := hF.thenDrew.thenN F2
  replace h3 := F2.blkN h3
  refine wl_box rfl rfl (fun b5 w3 hbb5 h5 F3 => ?_)
  have hbsb5 := Nat.le_trans hF.size hbb5
  have hneb3b5 : b3 < b5 := Nat.lt_of_lt_of_le h3.lt hbb5
  have hneb4b5 : b4 < b5 := Nat.lt_of_lt_of_le h4.lt hbb5
  replace hF := hF.thenDrew.thenN F3
  replace h3 := F3.blkN h3
  replace h4 := F3.blkN h4
  refine wl_new (ze_104) (fun b6 w4 hbb6 h6 F4 => ?_)
  have hbsb6 := Nat.le_trans hF.size hbb6
  have hneb3b6 : b3 < b6 := Nat.lt_of_lt_of_le h3.lt hbb6
  have hneb4b6 : b4 < b6 := Nat.lt_of_lt_of_le h4.lt hbb6
  have hneb5b6 : b5 < b6 := Nat.lt_of_lt_of_le h5.lt hbb6
  replace hF := hF.thenDrew.thenN F4
  replace h3 := F4.blkN h3
  replace h4 := F4.blkN h4
  replace h5 := F4.blkN h5
  refine wl_nil (x_then (hK1 _ _ ?_))
  clear hK1 K1
  refine c_seq (fun K2 hK2 => ?_)
  refine c_seq (fun K3 hK3 => ?_)
  refine c_reg ?_ -- region 1 eval.go:303
  refine wl (ro_fieldAddr (k := 0) rfl fo_104_0) ?_
  refine wl (ro_loadB rfl sc_3 (by assumption) rfl) ?_
  refine wl (ro_cmp rfl rfl rfl) ?_
  refine wl_nil (x_then (hK3 _ _ ?_))
  clear hK3 K3
  refine wc_cond rfl (fun hc9 => ?_) (fun hc9 => ?_)
  · try simp only [decide_eq_true_eq, decide_eq_false_iff_not, Bool.not_eq_true', Bool.not_eq_false', Bool.not_eq_eq_eq_not, Bool.not_true, Bool.not_false, beq_iff_eq, bne_iff_ne, ne_eq, beq_eq_false_iff_ne, bne_eq_false_iff_eq, gt_iff_lt, ge_iff_le, Int.not_lt, Int.not_le] at hc9
    refine c_seq (fun K4 hK4 => ?_)
    refine c_reg ?_ -- region 2 eval.go:304
    refine wl (ro_loadAggB rfl ag_104 (by assumption) rfl rfl) ?_
    refine wl_puta rfl rfl ((by (try exact vlc_cells _); all_goals simp [Value.oneCell', i64c, icv, u64c, u8c, ptr, S])) sz_104 (rfl) h6 ((by simp)) (rfl) (fun w5 h6 F5 => ?_)
    replace hF := hF.thenDrew.thenO F5 (by first | exact .inr (by omega) | exact .inl rfl | exact .inl (by assumption))
    replace h3 := F5.blkO h3 (by omega)
    replace h4 := F5.blkO h4 (by omega)
    replace h5 := F5.blkO h5 (by omega)
    refine wl_nil (x_then (hK4 _ _ ?_))
    clear hK4 K4
    refine c_ret (x_thenR ?_)
    refine bq_ret (res1 Tryz.results215 (rv_c rfl ag_104 (h6) rfl)) ?_
    refine ⟨?_, hF⟩
    unfold chV
    repeat first | rw [if_pos (by omega)] | rw [if_neg (by omega)]
    rfl
  · try simp only [decide_eq_true_eq, decide_eq_false_iff_not, Bool.not_eq_true', Bool.not_eq_false', Bool.not_eq_eq_eq_not, Bool.not_true, Bool.not_false, beq_iff_eq, bne_iff_ne, ne_eq, beq_eq_false_iff_ne, bne_eq_false_iff_eq, gt_iff_lt, ge_iff_le, Int.not_lt, Int.not_le] at hc9
    refine c_skip (x_then (hK2 _ _ ?_))
    clear hK2 K2
    refine c_seq (fun K5 hK5 => ?_)
    refine c_seq (fun K6 hK6 => ?_)
    refine c_reg ?_ -- region 3 eval.go:306
    refine wl (ro_fieldAddr (k := 0) rfl fo_104_0) ?_
    refine wl (ro_loadB rfl sc_3 (by assumption) rfl) ?_
    refine wl (ro_cmp rfl rfl rfl) ?_
    refine wl_nil (x_then (hK6 _ _ ?_))
    clear hK6 K6
    refine wc_cond rfl (fun hc13 => ?_) (fun hc13 => ?_)
    · try simp only [decide_eq_true_eq, decide_eq_false_iff_not, Bool.not_eq_true', Bool.not_eq_false', Bool.not_eq_eq_eq_not, Bool.not_true, Bool.not_false, beq_iff_eq, bne_iff_ne, ne_eq, beq_eq_false_iff_ne, bne_eq_false_iff_eq, gt_iff_lt, ge_iff_le, Int.not_lt, Int.not_le] at hc13
      refine c_seq (fun K7 hK7 => ?_)
      refine c_reg ?_ -- region 4 eval.go:307
      refine wl_call rfl en_116 (Err116) ?_
      rintro _ w6 ⟨rfl, F6⟩
      replace hF := hF.thenDrew.thenN F6
      replace h3 := F6.blkN h3
      replace h4 := F6.blkN h4
      replace h5 := F6.blkN h5
      replace h6 := F6.blkN h6
      refine wl_puta rfl rfl ((by (try exact vlc_cells _); all_goals simp [Value.oneCell', i64c, icv, u64c, u8c, ptr, S])) sz_104 (rfl) h6 ((by simp)) (rfl) (fun w7 h6 F7 => ?_)
      replace hF := hF.thenDrew.thenO F7 (by first | exact .inr (by omega) | exact .inl rfl | exact .inl (by assumption))
      replace h3 := F7.blkO h3 (by omega)
      replace h4 := F7.blkO h4 (by omega)
      replace h5 := F7.blkO h5 (by omega)
      refine wl_nil (x_then (hK7 _ _ ?_))
      clear hK7 K7
      refine c_ret (x_thenR ?_)
      refine bq_ret (res1 Tryz.results215 (rv_c rfl ag_104 (h6) rfl)) ?_
      refine ⟨?_, hF⟩
      unfold chV
      repeat first | rw [if_pos (by omega)] | rw [if_neg (by omega)]
      rfl
    · try simp only [decide_eq_true_eq, decide_eq_false_iff_not, Bool.not_eq_true', Bool.not_eq_false', Bool.not_eq_eq_eq_not, Bool.not_true, Bool.not_false, beq_iff_eq, bne_iff_ne, ne_eq, beq_eq_false_iff_ne, bne_eq_false_iff_eq, gt_iff_lt, ge_iff_le, Int.not_lt, Int.not_le] at hc13
      refine c_skip (x_then (hK5 _ _ ?_))
      clear hK5 K5
      refine c_seq (fun K8 hK8 => ?_)
      refine c_seq (fun K9 hK9 => ?_)
      refine c_reg ?_ -- region 5 eval.go:309
      refine wl (ro_fieldAddr (k := 1) rfl fo_104_1) ?_
      refine wl (ro_loadB rfl sc_3 (by assumption) rfl) ?_
      refine wl (ro_cmp rfl rfl rfl) ?_
      refine wl_nil (x_then (hK9 _ _ ?_))
      clear hK9 K9
      refine wc_cond rfl (fun hc17 => ?_) (fun hc17 => ?_)
      · try simp only [decide_eq_true_eq, decide_eq_false_iff_not, Bool.not_eq_true', Bool.not_eq_false', Bool.not_eq_eq_eq_not, Bool.not_true, Bool.not_false, beq_iff_eq, bne_iff_ne, ne_eq, beq_eq_false_iff_ne, bne_eq_false_iff_eq, gt_iff_lt, ge_iff_le, Int.not_lt, Int.not_le] at hc17
        refine c_seq (fun K10 hK10 => ?_)
        refine c_reg ?_ -- region 6 eval.go:310
        refine wl (ro_loadAggB rfl ag_104 (by assumption) rfl rfl) ?_
        refine wl_puta rfl rfl ((by (try exact vlc_cells _); all_goals simp [Value.oneCell', i64c, icv, u64c, u8c, ptr, S])) sz_104 (rfl) h6 ((by simp)) (rfl) (fun w8 h6 F8 => ?_)
        replace hF := hF.thenDrew.thenO F8 (by first | exact .inr (by omega) | exact .inl rfl | exact .inl (by assumption))
        replace h3 := F8.blkO h3 (by omega)
        replace h4 := F8.blkO h4 (by omega)
        replace h5 := F8.blkO h5 (by omega)
        refine wl_nil (x_then (hK10 _ _ ?_))
        clear hK10 K10
        refine c_ret (x_thenR ?_)
        refine bq_ret (res1 Tryz.results215 (rv_c rfl ag_104 (h6) rfl)) ?_
        refine ⟨?_, hF⟩
        unfold chV
        repeat first | rw [if_pos (by omega)] | rw [if_neg (by omega)]
        rfl
      · try simp only [decide_eq_true_eq, decide_eq_false_iff_not, Bool.not_eq_true', Bool.not_eq_false', Bool.not_eq_eq_eq_not, Bool.not_true, Bool.not_false, beq_iff_eq, bne_iff_ne, ne_eq, beq_eq_false_iff_ne, bne_eq_false_iff_eq, gt_iff_lt, ge_iff_le, Int.not_lt, Int.not_le] at hc17
        refine c_skip (x_then (hK8 _ _ ?_))
        clear hK8 K8
        refine forget [(5, _), (6, _)] ⟨rfl, rfl, trivial⟩ (fun e => ?_)
        refine c_seq (fun K11 hK11 => ?_)
        refine c_reg ?_ -- region 7 eval.go:312
        refine wl (ro_loadAggB rfl ag_104 (by assumption) rfl rfl) ?_
        refine wl_puta rfl rfl ((by (try exact vlc_cells _); all_goals simp [Value.oneCell', i64c, icv, u64c, u8c, ptr, S])) sz_104 (rfl) h6 ((by simp)) (rfl) (fun w9 h6 F9 => ?_)
        replace hF := hF.thenDrew.thenO F9 (by first | exact .inr (by omega) | exact .inl rfl | exact .inl (by assumption))
        replace h3 := F9.blkO h3 (by omega)
        replace h4 := F9.blkO h4 (by omega)
        replace h5 := F9.blkO h5 (by omega)
        refine wl_nil (x_then (hK11 _ _ ?_))
        clear hK11 K11
        refine c_ret ?_
        refine bq_ret (res1 Tryz.results215 (rv_c rfl ag_104 (h6) rfl)) ?_
        refine ⟨?_, hF⟩
        unfold chV
        repeat first | rw [if_pos (by omega)] | rw [if_neg (by omega)]
        rfl

/-- The model's fold. -/
structure Fd where
  bad : Vl
  sum : Int
  mn : Int
  mx : Int
  cnt : Int
  al : Bool
  so : Bool
abbrev fdc (s : Fd) : List Value := [icv s.bad.k, icv s.bad.n, S s.bad.s, icv s.sum, icv s.mn, icv s.mx, icv s.cnt, .bool s.al, .bool s.so]
abbrev fdA (s : Fd) : Value := .agg (fdc s).toArray
theorem fdc_cells (s : Fd) : ∀ u ∈ fdc s, u.oneCell' = true := by
  intro u hu
  simp only [fdc, List.mem_cons, List.not_mem_nil, or_false] at hu
  rcases hu with rfl | rfl | rfl | rfl | rfl | rfl | rfl | rfl | rfl <;> rfl
def takeD (f : Nat) (v : Vl) (inR : Bool) (s : Fd) : Fd :=
  if s.bad.k = 4 then s
  else if v.k = 4 then { s with bad := v }
  else if f = 6 ∨ f = 7 then (if v.k = 3 then { s with al := s.al && decide (v.n = 1), so := s.so || decide (v.n = 1) } else { s with bad := vE 5 })
  else if v.k = 0 then s
  else if v.k = 1 then ⟨s.bad, s.sum + v.n, (if s.cnt = 0 ∨ v.n < s.mn then v.n else s.mn), (if s.cnt = 0 ∨ v.n > s.mx then v.n else s.mx), s.cnt + 1, s.al, s.so⟩
  else if inR = true then s else { s with bad := vE 5 }
/-- The two folds tell the same. -/
structure FdR (f : Nat) (s : Fd) (t : Ty) : Prop where
  bad : s.bad = t.bad
  cnt : s.cnt = t.cnt
  r1 : f = 1 → s.sum = t.acc
  r2 : f = 2 → s.mn = t.acc
  r3 : f = 3 → s.mx = t.acc
  r6 : f = 6 → s.al = decide (t.acc ≠ 1)
  r7 : f = 7 → s.so = decide (t.acc = 1)
def FdOK (b : Nat) (s : Fd) : Prop := 0 ≤ s.cnt ∧ s.cnt ≤ b ∧ -999999999 * s.cnt ≤ s.sum ∧ s.sum ≤ 999999999 * s.cnt
abbrev fdZ : Fd := ⟨vZ, 0, 0, 0, 0, true, false⟩
theorem FdR.z (f : Nat) : FdR f fdZ tyZ := ⟨rfl, rfl, fun _ => rfl, fun _ => rfl, fun _ => rfl, fun _ => rfl, fun _ => rfl⟩
theorem FdOK.z : FdOK 0 fdZ := by refine ⟨?_, ?_, ?_, ?_⟩ <;> decide
theorem FdOK.up {b c : Nat} {s : Fd} (h : FdOK b s) (hb : b ≤ c) : FdOK c s := ⟨h.1, by have := h.2.1; omega, h.2.2⟩
theorem FdOK.take {b f : Nat} {v : Vl} {s : Fd} (inR : Bool) (h : FdOK b s) (hv : Lw v) : FdOK (b + 1) (takeD f v inR s) := by
  have h0 := h.up (Nat.le_succ b)
  have hb := hv.bd
  obtain ⟨h1, h2, h3, h4⟩ := h
  unfold takeD
  split
  · exact h0
  · split
    · exact h0
    · split
      · split <;> exact h0
      · split
        · exact h0
        · split
          · exact ⟨by show 0 ≤ s.cnt + 1; omega, by show s.cnt + 1 ≤ ((b + 1 : Nat) : Int); omega, by show -999999999 * (s.cnt + 1) ≤ s.sum + v.n; omega, by show s.sum + v.n ≤ 999999999 * (s.cnt + 1); omega⟩
          · split <;> exact h0
theorem FdR.take {f : Nat} {v : Vl} {s : Fd} {t : Ty} (inR : Bool) (h : FdR f s t) : FdR f (takeD f v inR s) (takeT f v inR t) := by
  unfold takeD takeT
  have hbd := h.bad
  by_cases c1 : t.bad.k = 4
  · rw [if_pos c1, if_pos (by rw [hbd]; exact c1)]; exact h
  · rw [if_neg c1, if_neg (by rw [hbd]; exact c1)]
    by_cases c2 : v.k = 4
    · rw [if_pos c2, if_pos c2]; exact ⟨rfl, h.cnt, h.r1, h.r2, h.r3, h.r6, h.r7⟩
    · rw [if_neg c2, if_neg c2]
      by_cases c3 : f = 6 ∨ f = 7
      · rw [if_pos c3, if_pos c3]
        by_cases c4 : v.k = 3
        · rw [if_pos c4, if_pos c4]
          refine ⟨?_, ?_, by omega, by omega, by omega, fun h6 => ?_, fun h7 => ?_⟩
          · split <;> exact h.bad
          · split <;> exact h.cnt
          · have e := h.r6 h6
            subst h6
            by_cases c5 : v.n = 1
            · simp [c5, e]
            · simp [c5]
          · have e := h.r7 h7
            subst h7
            by_cases c5 : v.n = 1
            · simp [c5]
            · simp [c5, e]
        · rw [if_neg c4, if_neg c4]; exact ⟨rfl, h.cnt, h.r1, h.r2, h.r3, h.r6, h.r7⟩
      · rw [if_neg c3, if_neg c3]
        by_cases c4 : v.k = 0
        · rw [if_pos c4, if_pos c4]; exact h
        · rw [if_neg c4, if_neg c4]
          by_cases c5 : v.k = 1
          · rw [if_pos c5, if_pos c5]
            refine ⟨h.bad, by show s.cnt + 1 = t.cnt + 1; rw [h.cnt], fun e => ?_, fun e => ?_, fun e => ?_, by omega, by omega⟩
            · have e1 := h.r1 e
              subst e
              simp [e1]
            · have e1 := h.r2 e
              have e2 := h.cnt
              subst e
              simp [e1, e2]
            · have e1 := h.r3 e
              have e2 := h.cnt
              subst e
              simp [e1, e2]
          · rw [if_neg c5, if_neg c5]
            by_cases c6 : inR = true
            · rw [if_pos c6, if_pos c6]; exact h
            · rw [if_neg c6, if_neg c6]; exact ⟨rfl, h.cnt, h.r1, h.r2, h.r3, h.r6, h.r7⟩

set_option maxHeartbeats 4000000 in
theorem Take227 {w : World} {f b : Nat} {x : Vl} {s : Fd} {inR : Bool} (hx : Lw x) (hs : FdOK b s) (hb9 : b ≤ 100000) : Ret Tryz.prog 227 [fdA s, i64c f, vlA x, .bool inR] w (fun v w' => v = fdA (takeD f x inR s) ∧ Fram none' w w') := by
  have hF : Fram none' w w := Fram.refl _ _
  have hb := hx.bd
  obtain ⟨q1, q2, q3, q4⟩ := hs
  refine ret_of Tryz.func227 rfl Tryz.ntmps227 rfl ?_
  refine c_seq (fun K1 hK1 => ?_)
  refine c_reg ?_ -- region 0 eval.go:217
  refine wl_box rfl rfl (fun b4 w1 hbb4 h4 F1 => ?_)
  have hbsb4 := Nat.le_trans hF.size hbb4
  replace hF := hF.thenDrew.thenN F1
  refine wl_box rfl rfl (fun b6 w2 hbb6 h6 F2 => ?_)
  have hbsb6 := Nat.le_trans hF.size hbb6
  have hneb4b6 : b4 < b6 := Nat.lt_of_lt_of_le h4.lt hbb6
  replace hF := hF.thenDrew.thenN F2
  replace h4 := F2.blkN h4
  refine wl_new (ze_232) (fun b8 w3 hbb8 h8 F3 => ?_)
  have hbsb8 := Nat.le_trans hF.size hbb8
  have hneb4b8 : b4 < b8 := Nat.lt_of_lt_of_le h4.lt hbb8
  have hneb6b8 : b6 < b8 := Nat.lt_of_lt_of_le h6.lt hbb8
  replace hF := hF.thenDrew.thenN F3
  replace h4 := F3.blkN h4
  replace h6 := F3.blkN h6
  refine wl_nil (x_then (hK1 _ _ ?_))
  clear hK1 K1
  refine c_seq (fun K2 hK2 => ?_)
  refine c_seq (fun K3 hK3 => ?_)
  refine c_reg ?_ -- region 1 eval.go:218
  refine wl (ro_fieldAddr (k := 0) rfl fo_232_0) ?_
  refine wl (ro_fieldAddr (k := 0) rfl fo_104_0) ?_
  refine wl (ro_loadB rfl sc_3 (by assumption) rfl) ?_
  refine wl (ro_cmp rfl rfl rfl) ?_
  refine wl_nil (x_then (hK3 _ _ ?_))
  clear hK3 K3
  refine wc_cond rfl (fun hc12 => ?_) (fun hc12 => ?_)
  · try simp only [decide_eq_true_eq, decide_eq_false_iff_not, Bool.not_eq_true', Bool.not_eq_false', Bool.not_eq_eq_eq_not, Bool.not_true, Bool.not_false, beq_iff_eq, bne_iff_ne, ne_eq, beq_eq_false_iff_ne, bne_eq_false_iff_eq, gt_iff_lt, ge_iff_le, Int.not_lt, Int.not_le] at hc12
    refine c_seq (fun K4 hK4 => ?_)
    refine c_reg ?_ -- region 2 eval.go:219
    refine wl (ro_loadAggB rfl ag_232 (by assumption) rfl rfl) ?_
    refine wl_puta rfl rfl ((fdc_cells s)) sz_232 (rfl) h8 ((by simp)) ((show _ = fdc s from rfl)) (fun w4 h8 F4 => ?_)
    replace hF := hF.thenDrew.thenO F4 (by first | exact .inr (by omega) | exact .inl rfl | exact .inl (by assumption))
    replace h4 := F4.blkO h4 (by omega)
    replace h6 := F4.blkO h6 (by omega)
    refine wl_nil (x_then (hK4 _ _ ?_))
    clear hK4 K4
    refine c_ret (x_thenR ?_)
    refine bq_ret (res1 Tryz.results227 (rv_c rfl ag_232 (h8) rfl)) ?_
    refine ⟨?_, hF⟩
    unfold takeD
    repeat first | rw [if_pos (by omega)] | rw [if_neg (by omega)] | rw [if_pos (by assumption)] | rw [if_neg (by rw [Bool.not_eq_true]; assumption)]
    all_goals first
      | rfl
      | (simp_all; done)
      | (simp_all; rfl)
      | (simp_all; exact ⟨rfl, rfl⟩)
  · try simp only [decide_eq_true_eq, decide_eq_false_iff_not, Bool.not_eq_true', Bool.not_eq_false', Bool.not_eq_eq_eq_not, Bool.not_true, Bool.not_false, beq_iff_eq, bne_iff_ne, ne_eq, beq_eq_false_iff_ne, bne_eq_false_iff_eq, gt_iff_lt, ge_iff_le, Int.not_lt, Int.not_le] at hc12
    refine c_skip (x_then (hK2 _ _ ?_))
    clear hK2 K2
    refine c_seq (fun K5 hK5 => ?_)
    refine c_seq (fun K6 hK6 => ?_)
    refine c_reg ?_ -- region 3 eval.go:221
    refine wl (ro_fieldAddr (k := 0) rfl fo_104_0) ?_
    refine wl (ro_loadB rfl sc_3 (by assumption) rfl) ?_
    refine wl (ro_cmp rfl rfl rfl) ?_
    refine wl_nil (x_then (hK6 _ _ ?_))
    clear hK6 K6
    refine wc_cond rfl (fun hc16 => ?_) (fun hc16 => ?_)
    · try simp only [decide_eq_true_eq, decide_eq_false_iff_not, Bool.not_eq_true', Bool.not_eq_false', Bool.not_eq_eq_eq_not, Bool.not_true, Bool.not_false, beq_iff_eq, bne_iff_ne, ne_eq, beq_eq_false_iff_ne, bne_eq_false_iff_eq, gt_iff_lt, ge_iff_le, Int.not_lt, Int.not_le] at hc16
      refine c_seq (fun K7 hK7 => ?_)
      refine c_reg ?_ -- region 4 eval.go:222
      refine wl (ro_loadAggB rfl ag_104 (by assumption) rfl rfl) ?_
      refine wl (ro_fieldAddr (k := 0) rfl fo_232_0) ?_
      refine wl_puta rfl rfl ((vlc_cells _)) sz_104 (rfl) h4 ((by simp)) ((show _ = fdc { s with bad := x } from rfl)) (fun w5 h4 F5 => ?_)
      replace hF := hF.thenDrew.thenO F5 (by first | exact .inr (by omega) | exact .inl rfl | exact .inl (by assumption))
      replace h6 := F5.blkO h6 (by omega)
      replace h8 := F5.blkO h8 (by omega)
      refine wl_nil (x_then (hK7 _ _ ?_))
      clear hK7 K7
      refine forget [(4, _), (8, _)] ⟨rfl, rfl, trivial⟩ (fun e => ?_)
      refine c_seq (fun K8 hK8 => ?_)
      refine c_reg ?_ -- region 5 eval.go:223
      refine wl (ro_loadAggB rfl ag_232 (by assumption) rfl rfl) ?_
      refine wl_puta rfl rfl ((by (try exact vlc_cells _); all_goals simp [Value.oneCell', i64c, icv, u64c, u8c, ptr, S])) sz_232 (rfl) h8 ((by simp)) (rfl) (fun w6 h8 F6 => ?_)
      replace hF := hF.thenDrew.thenO F6 (by first | exact .inr (by omega) | exact .inl rfl | exact .inl (by assumption))
      replace h4 := F6.blkO h4 (by omega)
      replace h6 := F6.blkO h6 (by omega)
      refine wl_nil (x_then (hK8 _ _ ?_))
      clear hK8 K8
      refine c_ret (x_thenR ?_)
      refine bq_ret (res1 Tryz.results227 (rv_c rfl ag_232 (h8) rfl)) ?_
      refine ⟨?_, hF⟩
      unfold takeD
      repeat first | rw [if_pos (by omega)] | rw [if_neg (by omega)] | rw [if_pos (by assumption)] | rw [if_neg (by rw [Bool.not_eq_true]; assumption)]
      all_goals first
        | rfl
        | (simp_all; done)
        | (simp_all; rfl)
        | (simp_all; exact ⟨rfl, rfl⟩)
    · try simp only [decide_eq_true_eq, decide_eq_false_iff_not, Bool.not_eq_true', Bool.not_eq_false', Bool.not_eq_eq_eq_not, Bool.not_true, Bool.not_false, beq_iff_eq, bne_iff_ne, ne_eq, beq_eq_false_iff_ne, bne_eq_false_iff_eq, gt_iff_lt, ge_iff_le, Int.not_lt, Int.not_le] at hc16
      refine c_skip (x_then (hK5 _ _ ?_))
      clear hK5 K5
      refine c_seq (fun K9 hK9 => ?_)
      refine c_seq (fun K10 hK10 => ?_)
      refine c_reg ?_ -- region 6 eval.go:225
      refine wl (ro_move rfl) ?_
      refine wl (ro_cmp rfl rfl rfl) ?_
      refine wl_fork rfl (fun hg22 => ?_) (fun hg22 => ?_)
      · try simp only [decide_eq_true_eq, decide_eq_false_iff_not, Bool.not_eq_true', Bool.not_eq_false', Bool.not_eq_eq_eq_not, Bool.not_true, Bool.not_false, beq_iff_eq, bne_iff_ne, ne_eq, beq_eq_false_iff_ne, bne_eq_false_iff_eq, gt_iff_lt, ge_iff_le, Int.not_lt, Int.not_le] at hg22
        refine wlg_no rfl ?_
        refine wlg_no rfl ?_
        refine wl (ro_pick rfl rfl rfl) ?_
        refine wl_nil (x_then (hK10 _ _ ?_))
        clear hK10 K10
        refine wc_condT rfl ?_
        refine c_seq (fun K11 hK11 => ?_)
        refine c_seq (fun K12 hK12 => ?_)
        refine c_reg ?_ -- region 7 eval.go:226
        refine wl (ro_fieldAddr (k := 0) rfl fo_104_0) ?_
        refine wl (ro_loadB rfl sc_3 (by assumption) rfl) ?_
        refine wl (ro_cmp rfl rfl rfl) ?_
        refine wl_nil (x_then (hK12 _ _ ?_))
        clear hK12 K12
        refine wc_cond rfl (fun hc28 => ?_) (fun hc28 => ?_)
        · try simp only [decide_eq_true_eq, decide_eq_false_iff_not, Bool.not_eq_true', Bool.not_eq_false', Bool.not_eq_eq_eq_not, Bool.not_true, Bool.not_false, beq_iff_eq, bne_iff_ne, ne_eq, beq_eq_false_iff_ne, bne_eq_false_iff_eq, gt_iff_lt, ge_iff_le, Int.not_lt, Int.not_le] at hc28
          refine c_seq (fun K13 hK13 => ?_)
          refine c_reg ?_ -- region 8 eval.go:227
          refine wl_call rfl en_116 (Err116) ?_
          rintro _ w7 ⟨rfl, F7⟩
          replace hF := hF.thenDrew.thenN F7
          replace h4 := F7.blkN h4
          replace h6 := F7.blkN h6
          replace h8 := F7.blkN h8
          refine wl (ro_fieldAddr (k := 0) rfl fo_232_0) ?_
          refine wl_puta rfl rfl ((vlc_cells _)) sz_104 (rfl) h4 ((by simp)) ((show _ = fdc { s with bad := vE 5 } from rfl)) (fun w8 h4 F8 => ?_)
          replace hF := hF.thenDrew.thenO F8 (by first | exact .inr (by omega) | exact .inl rfl | exact .inl (by assumption))
          replace h6 := F8.blkO h6 (by omega)
          replace h8 := F8.blkO h8 (by omega)
          refine wl_nil (x_then (hK13 _ _ ?_))
          clear hK13 K13
          refine forget [(4, _), (8, _)] ⟨rfl, rfl, trivial⟩ (fun e => ?_)
          refine c_seq (fun K14 hK14 => ?_)
          refine c_reg ?_ -- region 9 eval.go:228
          refine wl (ro_loadAggB rfl ag_232 (by assumption) rfl rfl) ?_
          refine wl_puta rfl rfl ((by (try exact vlc_cells _); all_goals simp [Value.oneCell', i64c, icv, u64c, u8c, ptr, S])) sz_232 (rfl) h8 ((by simp)) (rfl) (fun w9 h8 F9 => ?_)
          replace hF := hF.thenDrew.thenO F9 (by first | exact .inr (by omega) | exact .inl rfl | exact .inl (by assumption))
          replace h4 := F9.blkO h4 (by omega)
          replace h6 := F9.blkO h6 (by omega)
          refine wl_nil (x_then (hK14 _ _ ?_))
          clear hK14 K14
          refine c_ret (x_thenR (x_thenR ?_))
          refine bq_ret (res1 Tryz.results227 (rv_c rfl ag_232 (h8) rfl)) ?_
          refine ⟨?_, hF⟩
          unfold takeD
          repeat first | rw [if_pos (by omega)] | rw [if_neg (by omega)] | rw [if_pos (by assumption)] | rw [if_neg (by rw [Bool.not_eq_true]; assumption)]
          all_goals first
            | rfl
            | (simp_all; done)
            | (simp_all; rfl)
            | (simp_all; exact ⟨rfl, rfl⟩)
        · try simp only [decide_eq_true_eq, decide_eq_false_iff_not, Bool.not_eq_true', Bool.not_eq_false', Bool.not_eq_eq_eq_not, Bool.not_true, Bool.not_false, beq_iff_eq, bne_iff_ne, ne_eq, beq_eq_false_iff_ne, bne_eq_false_iff_eq, gt_iff_lt, ge_iff_le, Int.not_lt, Int.not_le] at hc28
          refine c_skip (x_then (hK11 _ _ ?_))
          clear hK11 K11
          refine forget [(4, _), (6, _), (8, _)] ⟨rfl, rfl, rfl, trivial⟩ (fun e => ?_)
          refine c_seq (fun K15 hK15 => ?_)
          refine c_reg ?_ -- region 10 eval.go:230
          refine wl (ro_fieldAddr (k := 7) rfl fo_232_5) ?_
          refine wl (ro_loadB rfl sc_4 (by assumption) rfl) ?_
          refine wl_fork rfl (fun hg34 => ?_) (fun hg34 => ?_)
          · try simp only [decide_eq_true_eq, decide_eq_false_iff_not, Bool.not_eq_true', Bool.not_eq_false', Bool.not_eq_eq_eq_not, Bool.not_true, Bool.not_false, beq_iff_eq, bne_iff_ne, ne_eq, beq_eq_false_iff_ne, bne_eq_false_iff_eq, gt_iff_lt, ge_iff_le, Int.not_lt, Int.not_le] at hg34
            refine wlg_yes rfl (ro_fieldAddr (k := 1) rfl fo_104_1) ?_
            refine wlg_yes rfl (ro_loadB rfl sc_3 (by assumption) rfl) ?_
            refine wlg_yes rfl (ro_cmp rfl rfl rfl) ?_
            refine wl (ro_pick rfl rfl rfl) ?_
            refine wl (ro_fieldAddr (k := 7) rfl fo_232_5) ?_
            refine wl_put rfl rfl rfl sz_4 h4 (by simp) (rfl) (fun w10 h4 F10 => ?_)
            replace hF := hF.thenDrew.thenO F10 (by first | exact .inr (by omega) | exact .inl rfl | exact .inl (by assumption))
            replace h6 := F10.blkO h6 (by omega)
            replace h8 := F10.blkO h8 (by omega)
            refine wl_nil (x_then (hK15 _ _ ?_))
            clear hK15 K15
            refine forget [(4, _), (6, _), (8, _)] ⟨rfl, rfl, rfl, trivial⟩ (fun e => ?_)
            refine c_seq (fun K16 hK16 => ?_)
            refine c_reg ?_ -- region 11 eval.go:231
            refine wl (ro_fieldAddr (k := 8) rfl fo_232_6) ?_
            refine wl (ro_loadB rfl sc_4 (by assumption) rfl) ?_
            refine wl_fork rfl (fun hg42 => ?_) (fun hg42 => ?_)
            · try simp only [decide_eq_true_eq, decide_eq_false_iff_not, Bool.not_eq_true', Bool.not_eq_false', Bool.not_eq_eq_eq_not, Bool.not_true, Bool.not_false, beq_iff_eq, bne_iff_ne, ne_eq, beq_eq_false_iff_ne, bne_eq_false_iff_eq, gt_iff_lt, ge_iff_le, Int.not_lt, Int.not_le] at hg42
              refine wlg_no rfl ?_
              refine wlg_no rfl ?_
              refine wlg_no rfl ?_
              refine wl (ro_pick rfl rfl rfl) ?_
              refine wl (ro_fieldAddr (k := 8) rfl fo_232_6) ?_
              refine wl_put rfl rfl rfl sz_4 h4 (by simp) (rfl) (fun w11 h4 F11 => ?_)
              replace hF := hF.thenDrew.thenO F11 (by first | exact .inr (by omega) | exact .inl rfl | exact .inl (by assumption))
              replace h6 := F11.blkO h6 (by omega)
              replace h8 := F11.blkO h8 (by omega)
              refine wl_nil (x_then (hK16 _ _ ?_))
              clear hK16 K16
              refine forget [(4, _), (8, _)] ⟨rfl, rfl, trivial⟩ (fun e => ?_)
              refine c_seq (fun K17 hK17 => ?_)
              refine c_reg ?_ -- region 12 eval.go:232
              refine wl (ro_loadAggB rfl ag_232 (by assumption) rfl rfl) ?_
              refine wl_puta rfl rfl ((by (try exact vlc_cells _); all_goals simp [Value.oneCell', i64c, icv, u64c, u8c, ptr, S])) sz_232 (rfl) h8 ((by simp)) (rfl) (fun w12 h8 F12 => ?_)
              replace hF := hF.thenDrew.thenO F12 (by first | exact .inr (by omega) | exact .inl rfl | exact .inl (by assumption))
              replace h4 := F12.blkO h4 (by omega)
              replace h6 := F12.blkO h6 (by omega)
              refine wl_nil (x_then (hK17 _ _ ?_))
              clear hK17 K17
              refine c_ret (x_thenR ?_)
              refine bq_ret (res1 Tryz.results227 (rv_c rfl ag_232 (h8) rfl)) ?_
              refine ⟨?_, hF⟩
              unfold takeD
              repeat first | rw [if_pos (by omega)] | rw [if_neg (by omega)] | rw [if_pos (by assumption)] | rw [if_neg (by rw [Bool.not_eq_true]; assumption)]
              all_goals first
                | rfl
                | (simp_all; done)
                | (simp_all; rfl)
                | (simp_all; exact ⟨rfl, rfl⟩)
            · try simp only [decide_eq_true_eq, decide_eq_false_iff_not, Bool.not_eq_true', Bool.not_eq_false', Bool.not_eq_eq_eq_not, Bool.not_true, Bool.not_false, beq_iff_eq, bne_iff_ne, ne_eq, beq_eq_false_iff_ne, bne_eq_false_iff_eq, gt_iff_lt, ge_iff_le, Int.not_lt, Int.not_le] at hg42
              refine wlg_yes rfl (ro_fieldAddr (k := 1) rfl fo_104_1) ?_
              refine wlg_yes rfl (ro_loadB rfl sc_3 (by assumption) rfl) ?_
              refine wlg_yes rfl (ro_cmp rfl rfl rfl) ?_
              refine wl (ro_pick rfl rfl rfl) ?_
              refine wl (ro_fieldAddr (k := 8) rfl fo_232_6) ?_
              refine wl_put rfl rfl rfl sz_4 h4 (by simp) (rfl) (fun w13 h4 F13 => ?_)
              replace hF := hF.thenDrew.thenO F13 (by first | exact .inr (by omega) | exact .inl rfl | exact .inl (by assumption))
              replace h6 := F13.blkO h6 (by omega)
              replace h8 := F13.blkO h8 (by omega)
              refine wl_nil (x_then (hK16 _ _ ?_))
              clear hK16 K16
              refine forget [(4, _), (8, _)] ⟨rfl, rfl, trivial⟩ (fun e => ?_)
              refine c_seq (fun K18 hK18 => ?_)
              refine c_reg ?_ -- region 12 eval.go:232
              refine wl (ro_loadAggB rfl ag_232 (by assumption) rfl rfl) ?_
              refine wl_puta rfl rfl ((by (try exact vlc_cells _); all_goals simp [Value.oneCell', i64c, icv, u64c, u8c, ptr, S])) sz_232 (rfl) h8 ((by simp)) (rfl) (fun w14 h8 F14 => ?_)
              replace hF := hF.thenDrew.thenO F14 (by first | exact .inr (by omega) | exact .inl rfl | exact .inl (by assumption))
              replace h4 := F14.blkO h4 (by omega)
              replace h6 := F14.blkO h6 (by omega)
              refine wl_nil (x_then (hK18 _ _ ?_))
              clear hK18 K18
              refine c_ret (x_thenR ?_)
              refine bq_ret (res1 Tryz.results227 (rv_c rfl ag_232 (h8) rfl)) ?_
              refine ⟨?_, hF⟩
              unfold takeD
              repeat first | rw [if_pos (by omega)] | rw [if_neg (by omega)] | rw [if_pos (by assumption)] | rw [if_neg (by rw [Bool.not_eq_true]; assumption)]
              all_goals first
                | rfl
                | (simp_all; done)
                | (simp_all; rfl)
                | (simp_all; exact ⟨rfl, rfl⟩)
          · try simp only [decide_eq_true_eq, decide_eq_false_iff_not, Bool.not_eq_true', Bool.not_eq_false', Bool.not_eq_eq_eq_not, Bool.not_true, Bool.not_false, beq_iff_eq, bne_iff_ne, ne_eq, beq_eq_false_iff_ne, bne_eq_false_iff_eq, gt_iff_lt, ge_iff_le, Int.not_lt, Int.not_le] at hg34
            refine wlg_no rfl ?_
            refine wlg_no rfl ?_
            refine wlg_no rfl ?_
            refine wl (ro_pick rfl rfl rfl) ?_
            refine wl (ro_fieldAddr (k := 7) rfl fo_232_5) ?_
            refine wl_put rfl rfl rfl sz_4 h4 (by simp) (rfl) (fun w15 h4 F15 => ?_)
            replace hF := hF.thenDrew.thenO F15 (by first | exact .inr (by omega) | exact .inl rfl | exact .inl (by assumption))
            replace h6 := F15.blkO h6 (by omega)
            replace h8 := F15.blkO h8 (by omega)
            refine wl_nil (x_then (hK15 _ _ ?_))
            clear hK15 K15
            refine forget [(4, _), (6, _), (8, _)] ⟨rfl, rfl, rfl, trivial⟩ (fun e => ?_)
            refine c_seq (fun K19 hK19 => ?_)
            refine c_reg ?_ -- region 11 eval.go:231
            refine wl (ro_fieldAddr (k := 8) rfl fo_232_6) ?_
            refine wl (ro_loadB rfl sc_4 (by assumption) rfl) ?_
            refine wl_fork rfl (fun hg42 => ?_) (fun hg42 => ?_)
            · try simp only [decide_eq_true_eq, decide_eq_false_iff_not, Bool.not_eq_true', Bool.not_eq_false', Bool.not_eq_eq_eq_not, Bool.not_true, Bool.not_false, beq_iff_eq, bne_iff_ne, ne_eq, beq_eq_false_iff_ne, bne_eq_false_iff_eq, gt_iff_lt, ge_iff_le, Int.not_lt, Int.not_le] at hg42
              refine wlg_no rfl ?_
              refine wlg_no rfl ?_
              refine wlg_no rfl ?_
              refine wl (ro_pick rfl rfl rfl) ?_
              refine wl (ro_fieldAddr (k := 8) rfl fo_232_6) ?_
              refine wl_put rfl rfl rfl sz_4 h4 (by simp) (rfl) (fun w16 h4 F16 => ?_)
              replace hF := hF.thenDrew.thenO F16 (by first | exact .inr (by omega) | exact .inl rfl | exact .inl (by assumption))
              replace h6 := F16.blkO h6 (by omega)
              replace h8 := F16.blkO h8 (by omega)
              refine wl_nil (x_then (hK19 _ _ ?_))
              clear hK19 K19
              refine forget [(4, _), (8, _)] ⟨rfl, rfl, trivial⟩ (fun e => ?_)
              refine c_seq (fun K20 hK20 => ?_)
              refine c_reg ?_ -- region 12 eval.go:232
              refine wl (ro_loadAggB rfl ag_232 (by assumption) rfl rfl) ?_
              refine wl_puta rfl rfl ((by (try exact vlc_cells _); all_goals simp [Value.oneCell', i64c, icv, u64c, u8c, ptr, S])) sz_232 (rfl) h8 ((by simp)) (rfl) (fun w17 h8 F17 => ?_)
              replace hF := hF.thenDrew.thenO F17 (by first | exact .inr (by omega) | exact .inl rfl | exact .inl (by assumption))
              replace h4 := F17.blkO h4 (by omega)
              replace h6 := F17.blkO h6 (by omega)
              refine wl_nil (x_then (hK20 _ _ ?_))
              clear hK20 K20
              refine c_ret (x_thenR ?_)
              refine bq_ret (res1 Tryz.results227 (rv_c rfl ag_232 (h8) rfl)) ?_
              refine ⟨?_, hF⟩
              unfold takeD
              repeat first | rw [if_pos (by omega)] | rw [if_neg (by omega)] | rw [if_pos (by assumption)] | rw [if_neg (by rw [Bool.not_eq_true]; assumption)]
              all_goals first
                | rfl
                | (simp_all; done)
                | (simp_all; rfl)
                | (simp_all; exact ⟨rfl, rfl⟩)
            · try simp only [decide_eq_true_eq, decide_eq_false_iff_not, Bool.not_eq_true', Bool.not_eq_false', Bool.not_eq_eq_eq_not, Bool.not_true, Bool.not_false, beq_iff_eq, bne_iff_ne, ne_eq, beq_eq_false_iff_ne, bne_eq_false_iff_eq, gt_iff_lt, ge_iff_le, Int.not_lt, Int.not_le] at hg42
              refine wlg_yes rfl (ro_fieldAddr (k := 1) rfl fo_104_1) ?_
              refine wlg_yes rfl (ro_loadB rfl sc_3 (by assumption) rfl) ?_
              refine wlg_yes rfl (ro_cmp rfl rfl rfl) ?_
              refine wl (ro_pick rfl rfl rfl) ?_
              refine wl (ro_fieldAddr (k := 8) rfl fo_232_6) ?_
              refine wl_put rfl rfl rfl sz_4 h4 (by simp) (rfl) (fun w18 h4 F18 => ?_)
              replace hF := hF.thenDrew.thenO F18 (by first | exact .inr (by omega) | exact .inl rfl | exact .inl (by assumption))
              replace h6 := F18.blkO h6 (by omega)
              replace h8 := F18.blkO h8 (by omega)
              refine wl_nil (x_then (hK19 _ _ ?_))
              clear hK19 K19
              refine forget [(4, _), (8, _)] ⟨rfl, rfl, trivial⟩ (fun e => ?_)
              refine c_seq (fun K21 hK21 => ?_)
              refine c_reg ?_ -- region 12 eval.go:232
              refine wl (ro_loadAggB rfl ag_232 (by assumption) rfl rfl) ?_
              refine wl_puta rfl rfl ((by (try exact vlc_cells _); all_goals simp [Value.oneCell', i64c, icv, u64c, u8c, ptr, S])) sz_232 (rfl) h8 ((by simp)) (rfl) (fun w19 h8 F19 => ?_)
              replace hF := hF.thenDrew.thenO F19 (by first | exact .inr (by omega) | exact .inl rfl | exact .inl (by assumption))
              replace h4 := F19.blkO h4 (by omega)
              replace h6 := F19.blkO h6 (by omega)
              refine wl_nil (x_then (hK21 _ _ ?_))
              clear hK21 K21
              refine c_ret (x_thenR ?_)
              refine bq_ret (res1 Tryz.results227 (rv_c rfl ag_232 (h8) rfl)) ?_
              refine ⟨?_, hF⟩
              unfold takeD
              repeat first | rw [if_pos (by omega)] | rw [if_neg (by omega)] | rw [if_pos (by assumption)] | rw [if_neg (by rw [Bool.not_eq_true]; assumption)]
              all_goals first
                | rfl
                | (simp_all; done)
                | (simp_all; rfl)
                | (simp_all; exact ⟨rfl, rfl⟩)
      · try simp only [decide_eq_true_eq, decide_eq_false_iff_not, Bool.not_eq_true', Bool.not_eq_false', Bool.not_eq_eq_eq_not, Bool.not_true, Bool.not_false, beq_iff_eq, bne_iff_ne, ne_eq, beq_eq_false_iff_ne, bne_eq_false_iff_eq, gt_iff_lt, ge_iff_le, Int.not_lt, Int.not_le] at hg22
        refine wlg_yes rfl (ro_move rfl) ?_
        refine wlg_yes rfl (ro_cmp rfl rfl rfl) ?_
        refine wl (ro_pick rfl rfl rfl) ?_
        refine wl_nil (x_then (hK10 _ _ ?_))
        clear hK10 K10
        refine wc_cond rfl (fun hc25 => ?_) (fun hc25 => ?_)
        · try simp only [decide_eq_true_eq, decide_eq_false_iff_not, Bool.not_eq_true', Bool.not_eq_false', Bool.not_eq_eq_eq_not, Bool.not_true, Bool.not_false, beq_iff_eq, bne_iff_ne, ne_eq, beq_eq_false_iff_ne, bne_eq_false_iff_eq, gt_iff_lt, ge_iff_le, Int.not_lt, Int.not_le] at hc25
          refine c_seq (fun K22 hK22 => ?_)
          refine c_seq (fun K23 hK23 => ?_)
          refine c_reg ?_ -- region 7 eval.go:226
          refine wl (ro_fieldAddr (k := 0) rfl fo_104_0) ?_
          refine wl (ro_loadB rfl sc_3 (by assumption) rfl) ?_
          refine wl (ro_cmp rfl rfl rfl) ?_
          refine wl_nil (x_then (hK23 _ _ ?_))
          clear hK23 K23
          refine wc_cond rfl (fun hc28 => ?_) (fun hc28 => ?_)
          · try simp only [decide_eq_true_eq, decide_eq_false_iff_not, Bool.not_eq_true', Bool.not_eq_false', Bool.not_eq_eq_eq_not, Bool.not_true, Bool.not_false, beq_iff_eq, bne_iff_ne, ne_eq, beq_eq_false_iff_ne, bne_eq_false_iff_eq, gt_iff_lt, ge_iff_le, Int.not_lt, Int.not_le] at hc28
            refine c_seq (fun K24 hK24 => ?_)
            refine c_reg ?_ -- region 8 eval.go:227
            refine wl_call rfl en_116 (Err116) ?_
            rintro _ w20 ⟨rfl, F20⟩
            replace hF := hF.thenDrew.thenN F20
            replace h4 := F20.blkN h4
            replace h6 := F20.blkN h6
            replace h8 := F20.blkN h8
            refine wl (ro_fieldAddr (k := 0) rfl fo_232_0) ?_
            refine wl_puta rfl rfl ((vlc_cells _)) sz_104 (rfl) h4 ((by simp)) ((show _ = fdc { s with bad := vE 5 } from rfl)) (fun w21 h4 F21 => ?_)
            replace hF := hF.thenDrew.thenO F21 (by first | exact .inr (by omega) | exact .inl rfl | exact .inl (by assumption))
            replace h6 := F21.blkO h6 (by omega)
            replace h8 := F21.blkO h8 (by omega)
            refine wl_nil (x_then (hK24 _ _ ?_))
            clear hK24 K24
            refine forget [(4, _), (8, _)] ⟨rfl, rfl, trivial⟩ (fun e => ?_)
            refine c_seq (fun K25 hK25 => ?_)
            refine c_reg ?_ -- region 9 eval.go:228
            refine wl (ro_loadAggB rfl ag_232 (by assumption) rfl rfl) ?_
            refine wl_puta rfl rfl ((by (try exact vlc_cells _); all_goals simp [Value.oneCell', i64c, icv, u64c, u8c, ptr, S])) sz_232 (rfl) h8 ((by simp)) (rfl) (fun w22 h8 F22 => ?_)
            replace hF := hF.thenDrew.thenO F22 (by first | exact .inr (by omega) | exact .inl rfl | exact .inl (by assumption))
            replace h4 := F22.blkO h4 (by omega)
            replace h6 := F22.blkO h6 (by omega)
            refine wl_nil (x_then (hK25 _ _ ?_))
            clear hK25 K25
            refine c_ret (x_thenR (x_thenR ?_))
            refine bq_ret (res1 Tryz.results227 (rv_c rfl ag_232 (h8) rfl)) ?_
            refine ⟨?_, hF⟩
            unfold takeD
            repeat first | rw [if_pos (by omega)] | rw [if_neg (by omega)] | rw [if_pos (by assumption)] | rw [if_neg (by rw [Bool.not_eq_true]; assumption)]
            all_goals first
              | rfl
              | (simp_all; done)
              | (simp_all; rfl)
              | (simp_all; exact ⟨rfl, rfl⟩)
          · try simp only [decide_eq_true_eq, decide_eq_false_iff_not, Bool.not_eq_true', Bool.not_eq_false', Bool.not_eq_eq_eq_not, Bool.not_true, Bool.not_false, beq_iff_eq, bne_iff_ne, ne_eq, beq_eq_false_iff_ne, bne_eq_false_iff_eq, gt_iff_lt, ge_iff_le, Int.not_lt, Int.not_le] at hc28
            refine c_skip (x_then (hK22 _ _ ?_))
            clear hK22 K22
            refine forget [(4, _), (6, _), (8, _)] ⟨rfl, rfl, rfl, trivial⟩ (fun e => ?_)
            refine c_seq (fun K26 hK26 => ?_)
            refine c_reg ?_ -- region 10 eval.go:230
            refine wl (ro_fieldAddr (k := 7) rfl fo_232_5) ?_
            refine wl (ro_loadB rfl sc_4 (by assumption) rfl) ?_
            refine wl_fork rfl (fun hg34 => ?_) (fun hg34 => ?_)
            · try simp only [decide_eq_true_eq, decide_eq_false_iff_not, Bool.not_eq_true', Bool.not_eq_false', Bool.not_eq_eq_eq_not, Bool.not_true, Bool.not_false, beq_iff_eq, bne_iff_ne, ne_eq, beq_eq_false_iff_ne, bne_eq_false_iff_eq, gt_iff_lt, ge_iff_le, Int.not_lt, Int.not_le] at hg34
              refine wlg_yes rfl (ro_fieldAddr (k := 1) rfl fo_104_1) ?_
              refine wlg_yes rfl (ro_loadB rfl sc_3 (by assumption) rfl) ?_
              refine wlg_yes rfl (ro_cmp rfl rfl rfl) ?_
              refine wl (ro_pick rfl rfl rfl) ?_
              refine wl (ro_fieldAddr (k := 7) rfl fo_232_5) ?_
              refine wl_put rfl rfl rfl sz_4 h4 (by simp) (rfl) (fun w23 h4 F23 => ?_)
              replace hF := hF.thenDrew.thenO F23 (by first | exact .inr (by omega) | exact .inl rfl | exact .inl (by assumption))
              replace h6 := F23.blkO h6 (by omega)
              replace h8 := F23.blkO h8 (by omega)
              refine wl_nil (x_then (hK26 _ _ ?_))
              clear hK26 K26
              refine forget [(4, _), (6, _), (8, _)] ⟨rfl, rfl, rfl, trivial⟩ (fun e => ?_)
              refine c_seq (fun K27 hK27 => ?_)
              refine c_reg ?_ -- region 11 eval.go:231
              refine wl (ro_fieldAddr (k := 8) rfl fo_232_6) ?_
              refine wl (ro_loadB rfl sc_4 (by assumption) rfl) ?_
              refine wl_fork rfl (fun hg42 => ?_) (fun hg42 => ?_)
              · try simp only [decide_eq_true_eq, decide_eq_false_iff_not, Bool.not_eq_true', Bool.not_eq_false', Bool.not_eq_eq_eq_not, Bool.not_true, Bool.not_false, beq_iff_eq, bne_iff_ne, ne_eq, beq_eq_false_iff_ne, bne_eq_false_iff_eq, gt_iff_lt, ge_iff_le, Int.not_lt, Int.not_le] at hg42
                refine wlg_no rfl ?_
                refine wlg_no rfl ?_
                refine wlg_no rfl ?_
                refine wl (ro_pick rfl rfl rfl) ?_
                refine wl (ro_fieldAddr (k := 8) rfl fo_232_6) ?_
                refine wl_put rfl rfl rfl sz_4 h4 (by simp) (rfl) (fun w24 h4 F24 => ?_)
                replace hF := hF.thenDrew.thenO F24 (by first | exact .inr (by omega) | exact .inl rfl | exact .inl (by assumption))
                replace h6 := F24.blkO h6 (by omega)
                replace h8 := F24.blkO h8 (by omega)
                refine wl_nil (x_then (hK27 _ _ ?_))
                clear hK27 K27
                refine forget [(4, _), (8, _)] ⟨rfl, rfl, trivial⟩ (fun e => ?_)
                refine c_seq (fun K28 hK28 => ?_)
                refine c_reg ?_ -- region 12 eval.go:232
                refine wl (ro_loadAggB rfl ag_232 (by assumption) rfl rfl) ?_
                refine wl_puta rfl rfl ((by (try exact vlc_cells _); all_goals simp [Value.oneCell', i64c, icv, u64c, u8c, ptr, S])) sz_232 (rfl) h8 ((by simp)) (rfl) (fun w25 h8 F25 => ?_)
                replace hF := hF.thenDrew.thenO F25 (by first | exact .inr (by omega) | exact .inl rfl | exact .inl (by assumption))
                replace h4 := F25.blkO h4 (by omega)
                replace h6 := F25.blkO h6 (by omega)
                refine wl_nil (x_then (hK28 _ _ ?_))
                clear hK28 K28
                refine c_ret (x_thenR ?_)
                refine bq_ret (res1 Tryz.results227 (rv_c rfl ag_232 (h8) rfl)) ?_
                refine ⟨?_, hF⟩
                unfold takeD
                repeat first | rw [if_pos (by omega)] | rw [if_neg (by omega)] | rw [if_pos (by assumption)] | rw [if_neg (by rw [Bool.not_eq_true]; assumption)]
                all_goals first
                  | rfl
                  | (simp_all; done)
                  | (simp_all; rfl)
                  | (simp_all; exact ⟨rfl, rfl⟩)
              · try simp only [decide_eq_true_eq, decide_eq_false_iff_not, Bool.not_eq_true', Bool.not_eq_false', Bool.not_eq_eq_eq_not, Bool.not_true, Bool.not_false, beq_iff_eq, bne_iff_ne, ne_eq, beq_eq_false_iff_ne, bne_eq_false_iff_eq, gt_iff_lt, ge_iff_le, Int.not_lt, Int.not_le] at hg42
                refine wlg_yes rfl (ro_fieldAddr (k := 1) rfl fo_104_1) ?_
                refine wlg_yes rfl (ro_loadB rfl sc_3 (by assumption) rfl) ?_
                refine wlg_yes rfl (ro_cmp rfl rfl rfl) ?_
                refine wl (ro_pick rfl rfl rfl) ?_
                refine wl (ro_fieldAddr (k := 8) rfl fo_232_6) ?_
                refine wl_put rfl rfl rfl sz_4 h4 (by simp) (rfl) (fun w26 h4 F26 => ?_)
                replace hF := hF.thenDrew.thenO F26 (by first | exact .inr (by omega) | exact .inl rfl | exact .inl (by assumption))
                replace h6 := F26.blkO h6 (by omega)
                replace h8 := F26.blkO h8 (by omega)
                refine wl_nil (x_then (hK27 _ _ ?_))
                clear hK27 K27
                refine forget [(4, _), (8, _)] ⟨rfl, rfl, trivial⟩ (fun e => ?_)
                refine c_seq (fun K29 hK29 => ?_)
                refine c_reg ?_ -- region 12 eval.go:232
                refine wl (ro_loadAggB rfl ag_232 (by assumption) rfl rfl) ?_
                refine wl_puta rfl rfl ((by (try exact vlc_cells _); all_goals simp [Value.oneCell', i64c, icv, u64c, u8c, ptr, S])) sz_232 (rfl) h8 ((by simp)) (rfl) (fun w27 h8 F27 => ?_)
                replace hF := hF.thenDrew.thenO F27 (by first | exact .inr (by omega) | exact .inl rfl | exact .inl (by assumption))
                replace h4 := F27.blkO h4 (by omega)
                replace h6 := F27.blkO h6 (by omega)
                refine wl_nil (x_then (hK29 _ _ ?_))
                clear hK29 K29
                refine c_ret (x_thenR ?_)
                refine bq_ret (res1 Tryz.results227 (rv_c rfl ag_232 (h8) rfl)) ?_
                refine ⟨?_, hF⟩
                unfold takeD
                repeat first | rw [if_pos (by omega)] | rw [if_neg (by omega)] | rw [if_pos (by assumption)] | rw [if_neg (by rw [Bool.not_eq_true]; assumption)]
                all_goals first
                  | rfl
                  | (simp_all; done)
                  | (simp_all; rfl)
                  | (simp_all; exact ⟨rfl, rfl⟩)
            · try simp only [decide_eq_true_eq, decide_eq_false_iff_not, Bool.not_eq_true', Bool.not_eq_false', Bool.not_eq_eq_eq_not, Bool.not_true, Bool.not_false, beq_iff_eq, bne_iff_ne, ne_eq, beq_eq_false_iff_ne, bne_eq_false_iff_eq, gt_iff_lt, ge_iff_le, Int.not_lt, Int.not_le] at hg34
              refine wlg_no rfl ?_
              refine wlg_no rfl ?_
              refine wlg_no rfl ?_
              refine wl (ro_pick rfl rfl rfl) ?_
              refine wl (ro_fieldAddr (k := 7) rfl fo_232_5) ?_
              refine wl_put rfl rfl rfl sz_4 h4 (by simp) (rfl) (fun w28 h4 F28 => ?_)
              replace hF := hF.thenDrew.thenO F28 (by first | exact .inr (by omega) | exact .inl rfl | exact .inl (by assumption))
              replace h6 := F28.blkO h6 (by omega)
              replace h8 := F28.blkO h8 (by omega)
              refine wl_nil (x_then (hK26 _ _ ?_))
              clear hK26 K26
              refine forget [(4, _), (6, _), (8, _)] ⟨rfl, rfl, rfl, trivial⟩ (fun e => ?_)
              refine c_seq (fun K30 hK30 => ?_)
              refine c_reg ?_ -- region 11 eval.go:231
              refine wl (ro_fieldAddr (k := 8) rfl fo_232_6) ?_
              refine wl (ro_loadB rfl sc_4 (by assumption) rfl) ?_
              refine wl_fork rfl (fun hg42 => ?_) (fun hg42 => ?_)
              · try simp only [decide_eq_true_eq, decide_eq_false_iff_not, Bool.not_eq_true', Bool.not_eq_false', Bool.not_eq_eq_eq_not, Bool.not_true, Bool.not_false, beq_iff_eq, bne_iff_ne, ne_eq, beq_eq_false_iff_ne, bne_eq_false_iff_eq, gt_iff_lt, ge_iff_le, Int.not_lt, Int.not_le] at hg42
                refine wlg_no rfl ?_
                refine wlg_no rfl ?_
                refine wlg_no rfl ?_
                refine wl (ro_pick rfl rfl rfl) ?_
                refine wl (ro_fieldAddr (k := 8) rfl fo_232_6) ?_
                refine wl_put rfl rfl rfl sz_4 h4 (by simp) (rfl) (fun w29 h4 F29 => ?_)
                replace hF := hF.thenDrew.thenO F29 (by first | exact .inr (by omega) | exact .inl rfl | exact .inl (by assumption))
                replace h6 := F29.blkO h6 (by omega)
                replace h8 := F29.blkO h8 (by omega)
                refine wl_nil (x_then (hK30 _ _ ?_))
                clear hK30 K30
                refine forget [(4, _), (8, _)] ⟨rfl, rfl, trivial⟩ (fun e => ?_)
                refine c_seq (fun K31 hK31 => ?_)
                refine c_reg ?_ -- region 12 eval.go:232
                refine wl (ro_loadAggB rfl ag_232 (by assumption) rfl rfl) ?_
                refine wl_puta rfl rfl ((by (try exact vlc_cells _); all_goals simp [Value.oneCell', i64c, icv, u64c, u8c, ptr, S])) sz_232 (rfl) h8 ((by simp)) (rfl) (fun w30 h8 F30 => ?_)
                replace hF := hF.thenDrew.thenO F30 (by first | exact .inr (by omega) | exact .inl rfl | exact .inl (by assumption))
                replace h4 := F30.blkO h4 (by omega)
                replace h6 := F30.blkO h6 (by omega)
                refine wl_nil (x_then (hK31 _ _ ?_))
                clear hK31 K31
                refine c_ret (x_thenR ?_)
                refine bq_ret (res1 Tryz.results227 (rv_c rfl ag_232 (h8) rfl)) ?_
                refine ⟨?_, hF⟩
                unfold takeD
                repeat first | rw [if_pos (by omega)] | rw [if_neg (by omega)] | rw [if_pos (by assumption)] | rw [if_neg (by rw [Bool.not_eq_true]; assumption)]
                all_goals first
                  | rfl
                  | (simp_all; done)
                  | (simp_all; rfl)
                  | (simp_all; exact ⟨rfl, rfl⟩)
              · try simp only [decide_eq_true_eq, decide_eq_false_iff_not, Bool.not_eq_true', Bool.not_eq_false', Bool.not_eq_eq_eq_not, Bool.not_true, Bool.not_false, beq_iff_eq, bne_iff_ne, ne_eq, beq_eq_false_iff_ne, bne_eq_false_iff_eq, gt_iff_lt, ge_iff_le, Int.not_lt, Int.not_le] at hg42
                refine wlg_yes rfl (ro_fieldAddr (k := 1) rfl fo_104_1) ?_
                refine wlg_yes rfl (ro_loadB rfl sc_3 (by assumption) rfl) ?_
                refine wlg_yes rfl (ro_cmp rfl rfl rfl) ?_
                refine wl (ro_pick rfl rfl rfl) ?_
                refine wl (ro_fieldAddr (k := 8) rfl fo_232_6) ?_
                refine wl_put rfl rfl rfl sz_4 h4 (by simp) (rfl) (fun w31 h4 F31 => ?_)
                replace hF := hF.thenDrew.thenO F31 (by first | exact .inr (by omega) | exact .inl rfl | exact .inl (by assumption))
                replace h6 := F31.blkO h6 (by omega)
                replace h8 := F31.blkO h8 (by omega)
                refine wl_nil (x_then (hK30 _ _ ?_))
                clear hK30 K30
                refine forget [(4, _), (8, _)] ⟨rfl, rfl, trivial⟩ (fun e => ?_)
                refine c_seq (fun K32 hK32 => ?_)
                refine c_reg ?_ -- region 12 eval.go:232
                refine wl (ro_loadAggB rfl ag_232 (by assumption) rfl rfl) ?_
                refine wl_puta rfl rfl ((by (try exact vlc_cells _); all_goals simp [Value.oneCell', i64c, icv, u64c, u8c, ptr, S])) sz_232 (rfl) h8 ((by simp)) (rfl) (fun w32 h8 F32 => ?_)
                replace hF := hF.thenDrew.thenO F32 (by first | exact .inr (by omega) | exact .inl rfl | exact .inl (by assumption))
                replace h4 := F32.blkO h4 (by omega)
                replace h6 := F32.blkO h6 (by omega)
                refine wl_nil (x_then (hK32 _ _ ?_))
                clear hK32 K32
                refine c_ret (x_thenR ?_)
                refine bq_ret (res1 Tryz.results227 (rv_c rfl ag_232 (h8) rfl)) ?_
                refine ⟨?_, hF⟩
                unfold takeD
                repeat first | rw [if_pos (by omega)] | rw [if_neg (by omega)] | rw [if_pos (by assumption)] | rw [if_neg (by rw [Bool.not_eq_true]; assumption)]
                all_goals first
                  | rfl
                  | (simp_all; done)
                  | (simp_all; rfl)
                  | (simp_all; exact ⟨rfl, rfl⟩)
        · try simp only [decide_eq_true_eq, decide_eq_false_iff_not, Bool.not_eq_true', Bool.not_eq_false', Bool.not_eq_eq_eq_not, Bool.not_true, Bool.not_false, beq_iff_eq, bne_iff_ne, ne_eq, beq_eq_false_iff_ne, bne_eq_false_iff_eq, gt_iff_lt, ge_iff_le, Int.not_lt, Int.not_le] at hc25
          refine c_skip (x_then (hK9 _ _ ?_))
          clear hK9 K9
          refine c_seq (fun K33 hK33 => ?_)
          refine c_seq (fun K34 hK34 => ?_)
          refine c_reg ?_ -- region 13 eval.go:234
          refine wl (ro_fieldAddr (k := 0) rfl fo_104_0) ?_
          refine wl (ro_loadB rfl sc_3 (by assumption) rfl) ?_
          refine wl (ro_cmp rfl rfl rfl) ?_
          refine wl_nil (x_then (hK34 _ _ ?_))
          clear hK34 K34
          refine wc_cond rfl (fun hc51 => ?_) (fun hc51 => ?_)
          · try simp only [decide_eq_true_eq, decide_eq_false_iff_not, Bool.not_eq_true', Bool.not_eq_false', Bool.not_eq_eq_eq_not, Bool.not_true, Bool.not_false, beq_iff_eq, bne_iff_ne, ne_eq, beq_eq_false_iff_ne, bne_eq_false_iff_eq, gt_iff_lt, ge_iff_le, Int.not_lt, Int.not_le] at hc51
            refine c_seq (fun K35 hK35 => ?_)
            refine c_reg ?_ -- region 14 eval.go:235
            refine wl (ro_loadAggB rfl ag_232 (by assumption) rfl rfl) ?_
            refine wl_puta rfl rfl ((by (try exact vlc_cells _); all_goals simp [Value.oneCell', i64c, icv, u64c, u8c, ptr, S])) sz_232 (rfl) h8 ((by simp)) (rfl) (fun w33 h8 F33 => ?_)
            replace hF := hF.thenDrew.thenO F33 (by first | exact .inr (by omega) | exact .inl rfl | exact .inl (by assumption))
            replace h4 := F33.blkO h4 (by omega)
            replace h6 := F33.blkO h6 (by omega)
            refine wl_nil (x_then (hK35 _ _ ?_))
            clear hK35 K35
            refine c_ret (x_thenR ?_)
            refine bq_ret (res1 Tryz.results227 (rv_c rfl ag_232 (h8) rfl)) ?_
            refine ⟨?_, hF⟩
            unfold takeD
            repeat first | rw [if_pos (by omega)] | rw [if_neg (by omega)] | rw [if_pos (by assumption)] | rw [if_neg (by rw [Bool.not_eq_true]; assumption)]
            all_goals first
              | rfl
              | (simp_all; done)
              | (simp_all; rfl)
              | (simp_all; exact ⟨rfl, rfl⟩)
          · try simp only [decide_eq_true_eq, decide_eq_false_iff_not, Bool.not_eq_true', Bool.not_eq_false', Bool.not_eq_eq_eq_not, Bool.not_true, Bool.not_false, beq_iff_eq, bne_iff_ne, ne_eq, beq_eq_false_iff_ne, bne_eq_false_iff_eq, gt_iff_lt, ge_iff_le, Int.not_lt, Int.not_le] at hc51
            refine c_skip (x_then (hK33 _ _ ?_))
            clear hK33 K33
            refine c_seq (fun K36 hK36 => ?_)
            refine c_seq (fun K37 hK37 => ?_)
            refine c_reg ?_ -- region 15 eval.go:237
            refine wl (ro_fieldAddr (k := 0) rfl fo_104_0) ?_
            refine wl (ro_loadB rfl sc_3 (by assumption) rfl) ?_
            refine wl (ro_cmp rfl rfl rfl) ?_
            refine wl_nil (x_then (hK37 _ _ ?_))
            clear hK37 K37
            refine wc_cond rfl (fun hc55 => ?_) (fun hc55 => ?_)
            · try simp only [decide_eq_true_eq, decide_eq_false_iff_not, Bool.not_eq_true', Bool.not_eq_false', Bool.not_eq_eq_eq_not, Bool.not_true, Bool.not_false, beq_iff_eq, bne_iff_ne, ne_eq, beq_eq_false_iff_ne, bne_eq_false_iff_eq, gt_iff_lt, ge_iff_le, Int.not_lt, Int.not_le] at hc55
              refine c_seq (fun K38 hK38 => ?_)
              refine c_seq (fun K39 hK39 => ?_)
              refine c_reg ?_ -- region 16 eval.go:238
              refine wl (ro_move rfl) ?_
              refine wl (ro_not rfl) ?_
              refine wl_nil (x_then (hK39 _ _ ?_))
              clear hK39 K39
              refine wc_cond rfl (fun hc57 => ?_) (fun hc57 => ?_)
              · try simp only [decide_eq_true_eq, decide_eq_false_iff_not, Bool.not_eq_true', Bool.not_eq_false', Bool.not_eq_eq_eq_not, Bool.not_true, Bool.not_false, beq_iff_eq, bne_iff_ne, ne_eq, beq_eq_false_iff_ne, bne_eq_false_iff_eq, gt_iff_lt, ge_iff_le, Int.not_lt, Int.not_le] at hc57
                refine c_reg ?_ -- region 17 eval.go:239
                refine wl_call rfl en_116 (Err116) ?_
                rintro _ w34 ⟨rfl, F34⟩
                replace hF := hF.thenDrew.thenN F34
                replace h4 := F34.blkN h4
                replace h6 := F34.blkN h6
                replace h8 := F34.blkN h8
                refine wl (ro_fieldAddr (k := 0) rfl fo_232_0) ?_
                refine wl_puta rfl rfl ((vlc_cells _)) sz_104 (rfl) h4 ((by simp)) ((show _ = fdc { s with bad := vE 5 } from rfl)) (fun w35 h4 F35 => ?_)
                replace hF := hF.thenDrew.thenO F35 (by first | exact .inr (by omega) | exact .inl rfl | exact .inl (by assumption))
                replace h6 := F35.blkO h6 (by omega)
                replace h8 := F35.blkO h8 (by omega)
                refine wl_nil (x_then (hK38 _ _ ?_))
                clear hK38 K38
                refine forget [(4, _), (8, _)] ⟨rfl, rfl, trivial⟩ (fun e => ?_)
                refine c_seq (fun K40 hK40 => ?_)
                refine c_reg ?_ -- region 18 eval.go:241
                refine wl (ro_loadAggB rfl ag_232 (by assumption) rfl rfl) ?_
                refine wl_puta rfl rfl ((by (try exact vlc_cells _); all_goals simp [Value.oneCell', i64c, icv, u64c, u8c, ptr, S])) sz_232 (rfl) h8 ((by simp)) (rfl) (fun w36 h8 F36 => ?_)
                replace hF := hF.thenDrew.thenO F36 (by first | exact .inr (by omega) | exact .inl rfl | exact .inl (by assumption))
                replace h4 := F36.blkO h4 (by omega)
                replace h6 := F36.blkO h6 (by omega)
                refine wl_nil (x_then (hK40 _ _ ?_))
                clear hK40 K40
                refine c_ret (x_thenR ?_)
                refine bq_ret (res1 Tryz.results227 (rv_c rfl ag_232 (h8) rfl)) ?_
                refine ⟨?_, hF⟩
                unfold takeD
                repeat first | rw [if_pos (by omega)] | rw [if_neg (by omega)] | rw [if_pos (by assumption)] | rw [if_neg (by rw [Bool.not_eq_true]; assumption)]
                all_goals first
                  | rfl
                  | (simp_all; done)
                  | (simp_all; rfl)
                  | (simp_all; exact ⟨rfl, rfl⟩)
              · try simp only [decide_eq_true_eq, decide_eq_false_iff_not, Bool.not_eq_true', Bool.not_eq_false', Bool.not_eq_eq_eq_not, Bool.not_true, Bool.not_false, beq_iff_eq, bne_iff_ne, ne_eq, beq_eq_false_iff_ne, bne_eq_false_iff_eq, gt_iff_lt, ge_iff_le, Int.not_lt, Int.not_le] at hc57
                refine c_skip (x_then (hK38 _ _ ?_))
                clear hK38 K38
                refine forget [(4, _), (8, _)] ⟨rfl, rfl, trivial⟩ (fun e => ?_)
                refine c_seq (fun K41 hK41 => ?_)
                refine c_reg ?_ -- region 18 eval.go:241
                refine wl (ro_loadAggB rfl ag_232 (by assumption) rfl rfl) ?_
                refine wl_puta rfl rfl ((by (try exact vlc_cells _); all_goals simp [Value.oneCell', i64c, icv, u64c, u8c, ptr, S])) sz_232 (rfl) h8 ((by simp)) (rfl) (fun w37 h8 F37 => ?_)
                replace hF := hF.thenDrew.thenO F37 (by first | exact .inr (by omega) | exact .inl rfl | exact .inl (by assumption))
                replace h4 := F37.blkO h4 (by omega)
                replace h6 := F37.blkO h6 (by omega)
                refine wl_nil (x_then (hK41 _ _ ?_))
                clear hK41 K41
                refine c_ret (x_thenR ?_)
                refine bq_ret (res1 Tryz.results227 (rv_c rfl ag_232 (h8) rfl)) ?_
                refine ⟨?_, hF⟩
                unfold takeD
                repeat first | rw [if_pos (by omega)] | rw [if_neg (by omega)] | rw [if_pos (by assumption)] | rw [if_neg (by rw [Bool.not_eq_true]; assumption)]
                all_goals first
                  | rfl
                  | (simp_all; done)
                  | (simp_all; rfl)
                  | (simp_all; exact ⟨rfl, rfl⟩)
            · try simp only [decide_eq_true_eq, decide_eq_false_iff_not, Bool.not_eq_true', Bool.not_eq_false', Bool.not_eq_eq_eq_not, Bool.not_true, Bool.not_false, beq_iff_eq, bne_iff_ne, ne_eq, beq_eq_false_iff_ne, bne_eq_false_iff_eq, gt_iff_lt, ge_iff_le, Int.not_lt, Int.not_le] at hc55
              refine c_skip (x_then (hK36 _ _ ?_))
              clear hK36 K36
              refine c_seq (fun K42 hK42 => ?_)
              refine c_seq (fun K43 hK43 => ?_)
              refine c_reg ?_ -- region 19 eval.go:243
              refine wl (ro_fieldAddr (k := 6) rfl fo_232_4) ?_
              refine wl (ro_loadB rfl sc_3 (by assumption) rfl) ?_
              refine wl (ro_cmp rfl rfl rfl) ?_
              refine wl_fork rfl (fun hg64 => ?_) (fun hg64 => ?_)
              · try simp only [decide_eq_true_eq, decide_eq_false_iff_not, Bool.not_eq_true', Bool.not_eq_false', Bool.not_eq_eq_eq_not, Bool.not_true, Bool.not_false, beq_iff_eq, bne_iff_ne, ne_eq, beq_eq_false_iff_ne, bne_eq_false_iff_eq, gt_iff_lt, ge_iff_le, Int.not_lt, Int.not_le] at hg64
                refine wlg_no rfl ?_
                refine wlg_no rfl ?_
                refine wlg_no rfl ?_
                refine wlg_no rfl ?_
                refine wlg_no rfl ?_
                refine wl (ro_pick rfl rfl rfl) ?_
                refine wl_nil (x_then (hK43 _ _ ?_))
                clear hK43 K43
                refine wc_condT rfl ?_
                refine c_reg ?_ -- region 20 eval.go:244
                refine wl (ro_fieldAddr (k := 1) rfl fo_104_1) ?_
                refine wl (ro_loadB rfl sc_3 (by assumption) rfl) ?_
                refine wl (ro_fieldAddr (k := 4) rfl fo_232_2) ?_
                refine wl_put rfl rfl rfl sz_3 h4 (by simp) (rfl) (fun w38 h4 F38 => ?_)
                replace hF := hF.thenDrew.thenO F38 (by first | exact .inr (by omega) | exact .inl rfl | exact .inl (by assumption))
                replace h6 := F38.blkO h6 (by omega)
                replace h8 := F38.blkO h8 (by omega)
                refine wl_nil (x_then (hK42 _ _ ?_))
                clear hK42 K42
                refine c_seq (fun K44 hK44 => ?_)
                refine c_seq (fun K45 hK45 => ?_)
                refine c_reg ?_ -- region 21 eval.go:246
                refine wl (ro_fieldAddr (k := 6) rfl fo_232_4) ?_
                refine wl (ro_loadB rfl sc_3 (by assumption) rfl) ?_
                refine wl (ro_cmp rfl rfl rfl) ?_
                refine wl_fork rfl (fun hg77 => ?_) (fun hg77 => ?_)
                · try simp only [decide_eq_true_eq, decide_eq_false_iff_not, Bool.not_eq_true', Bool.not_eq_false', Bool.not_eq_eq_eq_not, Bool.not_true, Bool.not_false, beq_iff_eq, bne_iff_ne, ne_eq, beq_eq_false_iff_ne, bne_eq_false_iff_eq, gt_iff_lt, ge_iff_le, Int.not_lt, Int.not_le] at hg77
                  refine wlg_no rfl ?_
                  refine wlg_no rfl ?_
                  refine wlg_no rfl ?_
                  refine wlg_no rfl ?_
                  refine wlg_no rfl ?_
                  refine wl (ro_pick rfl rfl rfl) ?_
                  refine wl_nil (x_then (hK45 _ _ ?_))
                  clear hK45 K45
                  refine wc_condT rfl ?_
                  refine c_reg ?_ -- region 22 eval.go:247
                  refine wl (ro_fieldAddr (k := 1) rfl fo_104_1) ?_
                  refine wl (ro_loadB rfl sc_3 (by assumption) rfl) ?_
                  refine wl (ro_fieldAddr (k := 5) rfl fo_232_3) ?_
                  refine wl_put rfl rfl rfl sz_3 h4 (by simp) (rfl) (fun w39 h4 F39 => ?_)
                  replace hF := hF.thenDrew.thenO F39 (by first | exact .inr (by omega) | exact .inl rfl | exact .inl (by assumption))
                  replace h6 := F39.blkO h6 (by omega)
                  replace h8 := F39.blkO h8 (by omega)
                  refine wl_nil (x_then (hK44 _ _ ?_))
                  clear hK44 K44
                  refine forget [(4, _), (6, _), (8, _)] ⟨rfl, rfl, rfl, trivial⟩ (fun e => ?_)
                  refine c_seq (fun K46 hK46 => ?_)
                  refine c_reg ?_ -- region 23 eval.go:249
                  refine wl (ro_fieldAddr (k := 3) rfl fo_232_1) ?_
                  refine wl (ro_loadB rfl sc_3 (by assumption) rfl) ?_
                  refine wl (ro_fieldAddr (k := 1) rfl fo_104_1) ?_
                  refine wl (ro_loadB rfl sc_3 (by assumption) rfl) ?_
                  refine wl (ro_arith rfl rfl rfl (Go.IntWalk.i64_in _ (by omega))) ?_
                  refine wl (ro_fieldAddr (k := 3) rfl fo_232_1) ?_
                  refine wl_put rfl rfl rfl sz_3 h4 (by simp) (rfl) (fun w40 h4 F40 => ?_)
                  replace hF := hF.thenDrew.thenO F40 (by first | exact .inr (by omega) | exact .inl rfl | exact .inl (by assumption))
                  replace h6 := F40.blkO h6 (by omega)
                  replace h8 := F40.blkO h8 (by omega)
                  refine wl_nil (x_then (hK46 _ _ ?_))
                  clear hK46 K46
                  refine forget [(4, _), (8, _)] ⟨rfl, rfl, trivial⟩ (fun e => ?_)
                  refine c_seq (fun K47 hK47 => ?_)
                  refine c_reg ?_ -- region 24 eval.go:250
                  refine wl (ro_fieldAddr (k := 6) rfl fo_232_4) ?_
                  refine wl (ro_loadB rfl sc_3 (by assumption) rfl) ?_
                  refine wl (ro_arith rfl rfl rfl (Go.IntWalk.i64_in _ (by omega))) ?_
                  refine wl (ro_fieldAddr (k := 6) rfl fo_232_4) ?_
                  refine wl_put rfl rfl rfl sz_3 h4 (by simp) (rfl) (fun w41 h4 F41 => ?_)
                  replace hF := hF.thenDrew.thenO F41 (by first | exact .inr (by omega) | exact .inl rfl | exact .inl (by assumption))
                  replace h6 := F41.blkO h6 (by omega)
                  replace h8 := F41.blkO h8 (by omega)
                  refine wl_nil (x_then (hK47 _ _ ?_))
                  clear hK47 K47
                  refine forget [(4, _), (8, _)] ⟨rfl, rfl, trivial⟩ (fun e => ?_)
                  refine c_seq (fun K48 hK48 => ?_)
                  refine c_reg ?_ -- region 25 eval.go:251
                  refine wl (ro_loadAggB rfl ag_232 (by assumption) rfl rfl) ?_
                  refine wl_puta rfl rfl ((by (try exact vlc_cells _); all_goals simp [Value.oneCell', i64c, icv, u64c, u8c, ptr, S])) sz_232 (rfl) h8 ((by simp)) (rfl) (fun w42 h8 F42 => ?_)
                  replace hF := hF.thenDrew.thenO F42 (by first | exact .inr (by omega) | exact .inl rfl | exact .inl (by assumption))
                  replace h4 := F42.blkO h4 (by omega)
                  replace h6 := F42.blkO h6 (by omega)
                  refine wl_nil (x_then (hK48 _ _ ?_))
                  clear hK48 K48
                  refine c_ret ?_
                  refine bq_ret (res1 Tryz.results227 (rv_c rfl ag_232 (h8) rfl)) ?_
                  refine ⟨?_, hF⟩
                  unfold takeD
                  repeat first | rw [if_pos (by omega)] | rw [if_neg (by omega)] | rw [if_pos (by assumption)] | rw [if_neg (by rw [Bool.not_eq_true]; assumption)]
                  all_goals first
                    | rfl
                    | (simp_all; done)
                    | (simp_all; rfl)
                    | (simp_all; exact ⟨rfl, rfl⟩)
                · try simp only [decide_eq_true_eq, decide_eq_false_iff_not, Bool.not_eq_true', Bool.not_eq_false', Bool.not_eq_eq_eq_not, Bool.not_true, Bool.not_false, beq_iff_eq, bne_iff_ne, ne_eq, beq_eq_false_iff_ne, bne_eq_false_iff_eq, gt_iff_lt, ge_iff_le, Int.not_lt, Int.not_le] at hg77
                  refine wlg_yes rfl (ro_fieldAddr (k := 1) rfl fo_104_1) ?_
                  refine wlg_yes rfl (ro_loadB rfl sc_3 (by assumption) rfl) ?_
                  refine wlg_yes rfl (ro_fieldAddr (k := 5) rfl fo_232_3) ?_
                  refine wlg_yes rfl (ro_loadB rfl sc_3 (by assumption) rfl) ?_
                  refine wlg_yes rfl (ro_cmp rfl rfl rfl) ?_
                  refine wl (ro_pick rfl rfl rfl) ?_
                  refine wl_nil (x_then (hK45 _ _ ?_))
                  clear hK45 K45
                  refine wc_cond rfl (fun hc83 => ?_) (fun hc83 => ?_)
                  · try simp only [decide_eq_true_eq, decide_eq_false_iff_not, Bool.not_eq_true', Bool.not_eq_false', Bool.not_eq_eq_eq_not, Bool.not_true, Bool.not_false, beq_iff_eq, bne_iff_ne, ne_eq, beq_eq_false_iff_ne, bne_eq_false_iff_eq, gt_iff_lt, ge_iff_le, Int.not_lt, Int.not_le] at hc83
                    refine c_reg ?_ -- region 22 eval.go:247
                    refine wl (ro_fieldAddr (k := 1) rfl fo_104_1) ?_
                    refine wl (ro_loadB rfl sc_3 (by assumption) rfl) ?_
                    refine wl (ro_fieldAddr (k := 5) rfl fo_232_3) ?_
                    refine wl_put rfl rfl rfl sz_3 h4 (by simp) (rfl) (fun w43 h4 F43 => ?_)
                    replace hF := hF.thenDrew.thenO F43 (by first | exact .inr (by omega) | exact .inl rfl | exact .inl (by assumption))
                    replace h6 := F43.blkO h6 (by omega)
                    replace h8 := F43.blkO h8 (by omega)
                    refine wl_nil (x_then (hK44 _ _ ?_))
                    clear hK44 K44
                    refine forget [(4, _), (6, _), (8, _)] ⟨rfl, rfl, rfl, trivial⟩ (fun e => ?_)
                    refine c_seq (fun K49 hK49 => ?_)
                    refine c_reg ?_ -- region 23 eval.go:249
                    refine wl (ro_fieldAddr (k := 3) rfl fo_232_1) ?_
                    refine wl (ro_loadB rfl sc_3 (by assumption) rfl) ?_
                    refine wl (ro_fieldAddr (k := 1) rfl fo_104_1) ?_
                    refine wl (ro_loadB rfl sc_3 (by assumption) rfl) ?_
                    refine wl (ro_arith rfl rfl rfl (Go.IntWalk.i64_in _ (by omega))) ?_
                    refine wl (ro_fieldAddr (k := 3) rfl fo_232_1) ?_
                    refine wl_put rfl rfl rfl sz_3 h4 (by simp) (rfl) (fun w44 h4 F44 => ?_)
                    replace hF := hF.thenDrew.thenO F44 (by first | exact .inr (by omega) | exact .inl rfl | exact .inl (by assumption))
                    replace h6 := F44.blkO h6 (by omega)
                    replace h8 := F44.blkO h8 (by omega)
                    refine wl_nil (x_then (hK49 _ _ ?_))
                    clear hK49 K49
                    refine forget [(4, _), (8, _)] ⟨rfl, rfl, trivial⟩ (fun e => ?_)
                    refine c_seq (fun K50 hK50 => ?_)
                    refine c_reg ?_ -- region 24 eval.go:250
                    refine wl (ro_fieldAddr (k := 6) rfl fo_232_4) ?_
                    refine wl (ro_loadB rfl sc_3 (by assumption) rfl) ?_
                    refine wl (ro_arith rfl rfl rfl (Go.IntWalk.i64_in _ (by omega))) ?_
                    refine wl (ro_fieldAddr (k := 6) rfl fo_232_4) ?_
                    refine wl_put rfl rfl rfl sz_3 h4 (by simp) (rfl) (fun w45 h4 F45 => ?_)
                    replace hF := hF.thenDrew.thenO F45 (by first | exact .inr (by omega) | exact .inl rfl | exact .inl (by assumption))
                    replace h6 := F45.blkO h6 (by omega)
                    replace h8 := F45.blkO h8 (by omega)
                    refine wl_nil (x_then (hK50 _ _ ?_))
                    clear hK50 K50
                    refine forget [(4, _), (8, _)] ⟨rfl, rfl, trivial⟩ (fun e => ?_)
                    refine c_seq (fun K51 hK51 => ?_)
                    refine c_reg ?_ -- region 25 eval.go:251
                    refine wl (ro_loadAggB rfl ag_232 (by assumption) rfl rfl) ?_
                    refine wl_puta rfl rfl ((by (try exact vlc_cells _); all_goals simp [Value.oneCell', i64c, icv, u64c, u8c, ptr, S])) sz_232 (rfl) h8 ((by simp)) (rfl) (fun w46 h8 F46 => ?_)
                    replace hF := hF.thenDrew.thenO F46 (by first | exact .inr (by omega) | exact .inl rfl | exact .inl (by assumption))
                    replace h4 := F46.blkO h4 (by omega)
                    replace h6 := F46.blkO h6 (by omega)
                    refine wl_nil (x_then (hK51 _ _ ?_))
                    clear hK51 K51
                    refine c_ret ?_
                    refine bq_ret (res1 Tryz.results227 (rv_c rfl ag_232 (h8) rfl)) ?_
                    refine ⟨?_, hF⟩
                    unfold takeD
                    repeat first | rw [if_pos (by omega)] | rw [if_neg (by omega)] | rw [if_pos (by assumption)] | rw [if_neg (by rw [Bool.not_eq_true]; assumption)]
                    all_goals first
                      | rfl
                      | (simp_all; done)
                      | (simp_all; rfl)
                      | (simp_all; exact ⟨rfl, rfl⟩)
                  · try simp only [decide_eq_true_eq, decide_eq_false_iff_not, Bool.not_eq_true', Bool.not_eq_false', Bool.not_eq_eq_eq_not, Bool.not_true, Bool.not_false, beq_iff_eq, bne_iff_ne, ne_eq, beq_eq_false_iff_ne, bne_eq_false_iff_eq, gt_iff_lt, ge_iff_le, Int.not_lt, Int.not_le] at hc83
                    refine c_skip (x_then (hK44 _ _ ?_))
                    clear hK44 K44
                    refine forget [(4, _), (6, _), (8, _)] ⟨rfl, rfl, rfl, trivial⟩ (fun e => ?_)
                    refine c_seq (fun K52 hK52 => ?_)
                    refine c_reg ?_ -- region 23 eval.go:249
                    refine wl (ro_fieldAddr (k := 3) rfl fo_232_1) ?_
                    refine wl (ro_loadB rfl sc_3 (by assumption) rfl) ?_
                    refine wl (ro_fieldAddr (k := 1) rfl fo_104_1) ?_
                    refine wl (ro_loadB rfl sc_3 (by assumption) rfl) ?_
                    refine wl (ro_arith rfl rfl rfl (Go.IntWalk.i64_in _ (by omega))) ?_
                    refine wl (ro_fieldAddr (k := 3) rfl fo_232_1) ?_
                    refine wl_put rfl rfl rfl sz_3 h4 (by simp) (rfl) (fun w47 h4 F47 => ?_)
                    replace hF := hF.thenDrew.thenO F47 (by first | exact .inr (by omega) | exact .inl rfl | exact .inl (by assumption))
                    replace h6 := F47.blkO h6 (by omega)
                    replace h8 := F47.blkO h8 (by omega)
                    refine wl_nil (x_then (hK52 _ _ ?_))
                    clear hK52 K52
                    refine forget [(4, _), (8, _)] ⟨rfl, rfl, trivial⟩ (fun e => ?_)
                    refine c_seq (fun K53 hK53 => ?_)
                    refine c_reg ?_ -- region 24 eval.go:250
                    refine wl (ro_fieldAddr (k := 6) rfl fo_232_4) ?_
                    refine wl (ro_loadB rfl sc_3 (by assumption) rfl) ?_
                    refine wl (ro_arith rfl rfl rfl (Go.IntWalk.i64_in _ (by omega))) ?_
                    refine wl (ro_fieldAddr (k := 6) rfl fo_232_4) ?_
                    refine wl_put rfl rfl rfl sz_3 h4 (by simp) (rfl) (fun w48 h4 F48 => ?_)
                    replace hF := hF.thenDrew.thenO F48 (by first | exact .inr (by omega) | exact .inl rfl | exact .inl (by assumption))
                    replace h6 := F48.blkO h6 (by omega)
                    replace h8 := F48.blkO h8 (by omega)
                    refine wl_nil (x_then (hK53 _ _ ?_))
                    clear hK53 K53
                    refine forget [(4, _), (8, _)] ⟨rfl, rfl, trivial⟩ (fun e => ?_)
                    refine c_seq (fun K54 hK54 => ?_)
                    refine c_reg ?_ -- region 25 eval.go:251
                    refine wl (ro_loadAggB rfl ag_232 (by assumption) rfl rfl) ?_
                    refine wl_puta rfl rfl ((by (try exact vlc_cells _); all_goals simp [Value.oneCell', i64c, icv, u64c, u8c, ptr, S])) sz_232 (rfl) h8 ((by simp)) (rfl) (fun w49 h8 F49 => ?_)
                    replace hF := hF.thenDrew.thenO F49 (by first | exact .inr (by omega) | exact .inl rfl | exact .inl (by assumption))
                    replace h4 := F49.blkO h4 (by omega)
                    replace h6 := F49.blkO h6 (by omega)
                    refine wl_nil (x_then (hK54 _ _ ?_))
                    clear hK54 K54
                    refine c_ret ?_
                    refine bq_ret (res1 Tryz.results227 (rv_c rfl ag_232 (h8) rfl)) ?_
                    refine ⟨?_, hF⟩
                    unfold takeD
                    repeat first | rw [if_pos (by omega)] | rw [if_neg (by omega)] | rw [if_pos (by assumption)] | rw [if_neg (by rw [Bool.not_eq_true]; assumption)]
                    all_goals first
                      | rfl
                      | (simp_all; done)
                      | (simp_all; rfl)
                      | (simp_all; exact ⟨rfl, rfl⟩)
              · try simp only [decide_eq_true_eq, decide_eq_false_iff_not, Bool.not_eq_true', Bool.not_eq_false', Bool.not_eq_eq_eq_not, Bool.not_true, Bool.not_false, beq_iff_eq, bne_iff_ne, ne_eq, beq_eq_false_iff_ne, bne_eq_false_iff_eq, gt_iff_lt, ge_iff_le, Int.not_lt, Int.not_le] at hg64
                refine wlg_yes rfl (ro_fieldAddr (k := 1) rfl fo_104_1) ?_
                refine wlg_yes rfl (ro_loadB rfl sc_3 (by assumption) rfl) ?_
                refine wlg_yes rfl (ro_fieldAddr (k := 4) rfl fo_232_2) ?_
                refine wlg_yes rfl (ro_loadB rfl sc_3 (by assumption) rfl) ?_
                refine wlg_yes rfl (ro_cmp rfl rfl rfl) ?_
                refine wl (ro_pick rfl rfl rfl) ?_
                refine wl_nil (x_then (hK43 _ _ ?_))
                clear hK43 K43
                refine wc_cond rfl (fun hc70 => ?_) (fun hc70 => ?_)
                · try simp only [decide_eq_true_eq, decide_eq_false_iff_not, Bool.not_eq_true', Bool.not_eq_false', Bool.not_eq_eq_eq_not, Bool.not_true, Bool.not_false, beq_iff_eq, bne_iff_ne, ne_eq, beq_eq_false_iff_ne, bne_eq_false_iff_eq, gt_iff_lt, ge_iff_le, Int.not_lt, Int.not_le] at hc70
                  refine c_reg ?_ -- region 20 eval.go:244
                  refine wl (ro_fieldAddr (k := 1) rfl fo_104_1) ?_
                  refine wl (ro_loadB rfl sc_3 (by assumption) rfl) ?_
                  refine wl (ro_fieldAddr (k := 4) rfl fo_232_2) ?_
                  refine wl_put rfl rfl rfl sz_3 h4 (by simp) (rfl) (fun w50 h4 F50 => ?_)
                  replace hF := hF.thenDrew.thenO F50 (by first | exact .inr (by omega) | exact .inl rfl | exact .inl (by assumption))
                  replace h6 := F50.blkO h6 (by omega)
                  replace h8 := F50.blkO h8 (by omega)
                  refine wl_nil (x_then (hK42 _ _ ?_))
                  clear hK42 K42
                  refine c_seq (fun K55 hK55 => ?_)
                  refine c_seq (fun K56 hK56 => ?_)
                  refine c_reg ?_ -- region 21 eval.go:246
                  refine wl (ro_fieldAddr (k := 6) rfl fo_232_4) ?_
                  refine wl (ro_loadB rfl sc_3 (by assumption) rfl) ?_
                  refine wl (ro_cmp rfl rfl rfl) ?_
                  refine wl_fork rfl (fun hg77 => ?_) (fun hg77 => ?_)
                  · try simp only [decide_eq_true_eq, decide_eq_false_iff_not, Bool.not_eq_true', Bool.not_eq_false', Bool.not_eq_eq_eq_not, Bool.not_true, Bool.not_false, beq_iff_eq, bne_iff_ne, ne_eq, beq_eq_false_iff_ne, bne_eq_false_iff_eq, gt_iff_lt, ge_iff_le, Int.not_lt, Int.not_le] at hg77
                    refine wlg_no rfl ?_
                    refine wlg_no rfl ?_
                    refine wlg_no rfl ?_
                    refine wlg_no rfl ?_
                    refine wlg_no rfl ?_
                    refine wl (ro_pick rfl rfl rfl) ?_
                    refine wl_nil (x_then (hK56 _ _ ?_))
                    clear hK56 K56
                    refine wc_condT rfl ?_
                    refine c_reg ?_ -- region 22 eval.go:247
                    refine wl (ro_fieldAddr (k := 1) rfl fo_104_1) ?_
                    refine wl (ro_loadB rfl sc_3 (by assumption) rfl) ?_
                    refine wl (ro_fieldAddr (k := 5) rfl fo_232_3) ?_
                    refine wl_put rfl rfl rfl sz_3 h4 (by simp) (rfl) (fun w51 h4 F51 => ?_)
                    replace hF := hF.thenDrew.thenO F51 (by first | exact .inr (by omega) | exact .inl rfl | exact .inl (by assumption))
                    replace h6 := F51.blkO h6 (by omega)
                    replace h8 := F51.blkO h8 (by omega)
                    refine wl_nil (x_then (hK55 _ _ ?_))
                    clear hK55 K55
                    refine forget [(4, _), (6, _), (8, _)] ⟨rfl, rfl, rfl, trivial⟩ (fun e => ?_)
                    refine c_seq (fun K57 hK57 => ?_)
                    refine c_reg ?_ -- region 23 eval.go:249
                    refine wl (ro_fieldAddr (k := 3) rfl fo_232_1) ?_
                    refine wl (ro_loadB rfl sc_3 (by assumption) rfl) ?_
                    refine wl (ro_fieldAddr (k := 1) rfl fo_104_1) ?_
                    refine wl (ro_loadB rfl sc_3 (by assumption) rfl) ?_
                    refine wl (ro_arith rfl rfl rfl (Go.IntWalk.i64_in _ (by omega))) ?_
                    refine wl (ro_fieldAddr (k := 3) rfl fo_232_1) ?_
                    refine wl_put rfl rfl rfl sz_3 h4 (by simp) (rfl) (fun w52 h4 F52 => ?_)
                    replace hF := hF.thenDrew.thenO F52 (by first | exact .inr (by omega) | exact .inl rfl | exact .inl (by assumption))
                    replace h6 := F52.blkO h6 (by omega)
                    replace h8 := F52.blkO h8 (by omega)
                    refine wl_nil (x_then (hK57 _ _ ?_))
                    clear hK57 K57
                    refine forget [(4, _), (8, _)] ⟨rfl, rfl, trivial⟩ (fun e => ?_)
                    refine c_seq (fun K58 hK58 => ?_)
                    refine c_reg ?_ -- region 24 eval.go:250
                    refine wl (ro_fieldAddr (k := 6) rfl fo_232_4) ?_
                    refine wl (ro_loadB rfl sc_3 (by assumption) rfl) ?_
                    refine wl (ro_arith rfl rfl rfl (Go.IntWalk.i64_in _ (by omega))) ?_
                    refine wl (ro_fieldAddr (k := 6) rfl fo_232_4) ?_
                    refine wl_put rfl rfl rfl sz_3 h4 (by simp) (rfl) (fun w53 h4 F53 => ?_)
                    replace hF := hF.thenDrew.thenO F53 (by first | exact .inr (by omega) | exact .inl rfl | exact .inl (by assumption))
                    replace h6 := F53.blkO h6 (by omega)
                    replace h8 := F53.blkO h8 (by omega)
                    refine wl_nil (x_then (hK58 _ _ ?_))
                    clear hK58 K58
                    refine forget [(4, _), (8, _)] ⟨rfl, rfl, trivial⟩ (fun e => ?_)
                    refine c_seq (fun K59 hK59 => ?_)
                    refine c_reg ?_ -- region 25 eval.go:251
                    refine wl (ro_loadAggB rfl ag_232 (by assumption) rfl rfl) ?_
                    refine wl_puta rfl rfl ((by (try exact vlc_cells _); all_goals simp [Value.oneCell', i64c, icv, u64c, u8c, ptr, S])) sz_232 (rfl) h8 ((by simp)) (rfl) (fun w54 h8 F54 => ?_)
                    replace hF := hF.thenDrew.thenO F54 (by first | exact .inr (by omega) | exact .inl rfl | exact .inl (by assumption))
                    replace h4 := F54.blkO h4 (by omega)
                    replace h6 := F54.blkO h6 (by omega)
                    refine wl_nil (x_then (hK59 _ _ ?_))
                    clear hK59 K59
                    refine c_ret ?_
                    refine bq_ret (res1 Tryz.results227 (rv_c rfl ag_232 (h8) rfl)) ?_
                    refine ⟨?_, hF⟩
                    unfold takeD
                    repeat first | rw [if_pos (by omega)] | rw [if_neg (by omega)] | rw [if_pos (by assumption)] | rw [if_neg (by rw [Bool.not_eq_true]; assumption)]
                    all_goals first
                      | rfl
                      | (simp_all; done)
                      | (simp_all; rfl)
                      | (simp_all; exact ⟨rfl, rfl⟩)
                  · try simp only [decide_eq_true_eq, decide_eq_false_iff_not, Bool.not_eq_true', Bool.not_eq_false', Bool.not_eq_eq_eq_not, Bool.not_true, Bool.not_false, beq_iff_eq, bne_iff_ne, ne_eq, beq_eq_false_iff_ne, bne_eq_false_iff_eq, gt_iff_lt, ge_iff_le, Int.not_lt, Int.not_le] at hg77
                    refine wlg_yes rfl (ro_fieldAddr (k := 1) rfl fo_104_1) ?_
                    refine wlg_yes rfl (ro_loadB rfl sc_3 (by assumption) rfl) ?_
                    refine wlg_yes rfl (ro_fieldAddr (k := 5) rfl fo_232_3) ?_
                    refine wlg_yes rfl (ro_loadB rfl sc_3 (by assumption) rfl) ?_
                    refine wlg_yes rfl (ro_cmp rfl rfl rfl) ?_
                    refine wl (ro_pick rfl rfl rfl) ?_
                    refine wl_nil (x_then (hK56 _ _ ?_))
                    clear hK56 K56
                    refine wc_cond rfl (fun hc83 => ?_) (fun hc83 => ?_)
                    · try simp only [decide_eq_true_eq, decide_eq_false_iff_not, Bool.not_eq_true', Bool.not_eq_false', Bool.not_eq_eq_eq_not, Bool.not_true, Bool.not_false, beq_iff_eq, bne_iff_ne, ne_eq, beq_eq_false_iff_ne, bne_eq_false_iff_eq, gt_iff_lt, ge_iff_le, Int.not_lt, Int.not_le] at hc83
                      refine c_reg ?_ -- region 22 eval.go:247
                      refine wl (ro_fieldAddr (k := 1) rfl fo_104_1) ?_
                      refine wl (ro_loadB rfl sc_3 (by assumption) rfl) ?_
                      refine wl (ro_fieldAddr (k := 5) rfl fo_232_3) ?_
                      refine wl_put rfl rfl rfl sz_3 h4 (by simp) (rfl) (fun w55 h4 F55 => ?_)
                      replace hF := hF.thenDrew.thenO F55 (by first | exact .inr (by omega) | exact .inl rfl | exact .inl (by assumption))
                      replace h6 := F55.blkO h6 (by omega)
                      replace h8 := F55.blkO h8 (by omega)
                      refine wl_nil (x_then (hK55 _ _ ?_))
                      clear hK55 K55
                      refine forget [(4, _), (6, _), (8, _)] ⟨rfl, rfl, rfl, trivial⟩ (fun e => ?_)
                      refine c_seq (fun K60 hK60 => ?_)
                      refine c_reg ?_ -- region 23 eval.go:249
                      refine wl (ro_fieldAddr (k := 3) rfl fo_232_1) ?_
                      refine wl (ro_loadB rfl sc_3 (by assumption) rfl) ?_
                      refine wl (ro_fieldAddr (k := 1) rfl fo_104_1) ?_
                      refine wl (ro_loadB rfl sc_3 (by assumption) rfl) ?_
                      refine wl (ro_arith rfl rfl rfl (Go.IntWalk.i64_in _ (by omega))) ?_
                      refine wl (ro_fieldAddr (k := 3) rfl fo_232_1) ?_
                      refine wl_put rfl rfl rfl sz_3 h4 (by simp) (rfl) (fun w56 h4 F56 => ?_)
                      replace hF := hF.thenDrew.thenO F56 (by first | exact .inr (by omega) | exact .inl rfl | exact .inl (by assumption))
                      replace h6 := F56.blkO h6 (by omega)
                      replace h8 := F56.blkO h8 (by omega)
                      refine wl_nil (x_then (hK60 _ _ ?_))
                      clear hK60 K60
                      refine forget [(4, _), (8, _)] ⟨rfl, rfl, trivial⟩ (fun e => ?_)
                      refine c_seq (fun K61 hK61 => ?_)
                      refine c_reg ?_ -- region 24 eval.go:250
                      refine wl (ro_fieldAddr (k := 6) rfl fo_232_4) ?_
                      refine wl (ro_loadB rfl sc_3 (by assumption) rfl) ?_
                      refine wl (ro_arith rfl rfl rfl (Go.IntWalk.i64_in _ (by omega))) ?_
                      refine wl (ro_fieldAddr (k := 6) rfl fo_232_4) ?_
                      refine wl_put rfl rfl rfl sz_3 h4 (by simp) (rfl) (fun w57 h4 F57 => ?_)
                      replace hF := hF.thenDrew.thenO F57 (by first | exact .inr (by omega) | exact .inl rfl | exact .inl (by assumption))
                      replace h6 := F57.blkO h6 (by omega)
                      replace h8 := F57.blkO h8 (by omega)
                      refine wl_nil (x_then (hK61 _ _ ?_))
                      clear hK61 K61
                      refine forget [(4, _), (8, _)] ⟨rfl, rfl, trivial⟩ (fun e => ?_)
                      refine c_seq (fun K62 hK62 => ?_)
                      refine c_reg ?_ -- region 25 eval.go:251
                      refine wl (ro_loadAggB rfl ag_232 (by assumption) rfl rfl) ?_
                      refine wl_puta rfl rfl ((by (try exact vlc_cells _); all_goals simp [Value.oneCell', i64c, icv, u64c, u8c, ptr, S])) sz_232 (rfl) h8 ((by simp)) (rfl) (fun w58 h8 F58 => ?_)
                      replace hF := hF.thenDrew.thenO F58 (by first | exact .inr (by omega) | exact .inl rfl | exact .inl (by assumption))
                      replace h4 := F58.blkO h4 (by omega)
                      replace h6 := F58.blkO h6 (by omega)
                      refine wl_nil (x_then (hK62 _ _ ?_))
                      clear hK62 K62
                      refine c_ret ?_
                      refine bq_ret (res1 Tryz.results227 (rv_c rfl ag_232 (h8) rfl)) ?_
                      refine ⟨?_, hF⟩
                      unfold takeD
                      repeat first | rw [if_pos (by omega)] | rw [if_neg (by omega)] | rw [if_pos (by assumption)] | rw [if_neg (by rw [Bool.not_eq_true]; assumption)]
                      all_goals first
                        | rfl
                        | (simp_all; done)
                        | (simp_all; rfl)
                        | (simp_all; exact ⟨rfl, rfl⟩)
                    · try simp only [decide_eq_true_eq, decide_eq_false_iff_not, Bool.not_eq_true', Bool.not_eq_false', Bool.not_eq_eq_eq_not, Bool.not_true, Bool.not_false, beq_iff_eq, bne_iff_ne, ne_eq, beq_eq_false_iff_ne, bne_eq_false_iff_eq, gt_iff_lt, ge_iff_le, Int.not_lt, Int.not_le] at hc83
                      refine c_skip (x_then (hK55 _ _ ?_))
                      clear hK55 K55
                      refine forget [(4, _), (6, _), (8, _)] ⟨rfl, rfl, rfl, trivial⟩ (fun e => ?_)
                      refine c_seq (fun K63 hK63 => ?_)
                      refine c_reg ?_ -- region 23 eval.go:249
                      refine wl (ro_fieldAddr (k := 3) rfl fo_232_1) ?_
                      refine wl (ro_loadB rfl sc_3 (by assumption) rfl) ?_
                      refine wl (ro_fieldAddr (k := 1) rfl fo_104_1) ?_
                      refine wl (ro_loadB rfl sc_3 (by assumption) rfl) ?_
                      refine wl (ro_arith rfl rfl rfl (Go.IntWalk.i64_in _ (by omega))) ?_
                      refine wl (ro_fieldAddr (k := 3) rfl fo_232_1) ?_
                      refine wl_put rfl rfl rfl sz_3 h4 (by simp) (rfl) (fun w59 h4 F59 => ?_)
                      replace hF := hF.thenDrew.thenO F59 (by first | exact .inr (by omega) | exact .inl rfl | exact .inl (by assumption))
                      replace h6 := F59.blkO h6 (by omega)
                      replace h8 := F59.blkO h8 (by omega)
                      refine wl_nil (x_then (hK63 _ _ ?_))
                      clear hK63 K63
                      refine forget [(4, _), (8, _)] ⟨rfl, rfl, trivial⟩ (fun e => ?_)
                      refine c_seq (fun K64 hK64 => ?_)
                      refine c_reg ?_ -- region 24 eval.go:250
                      refine wl (ro_fieldAddr (k := 6) rfl fo_232_4) ?_
                      refine wl (ro_loadB rfl sc_3 (by assumption) rfl) ?_
                      refine wl (ro_arith rfl rfl rfl (Go.IntWalk.i64_in _ (by omega))) ?_
                      refine wl (ro_fieldAddr (k := 6) rfl fo_232_4) ?_
                      refine wl_put rfl rfl rfl sz_3 h4 (by simp) (rfl) (fun w60 h4 F60 => ?_)
                      replace hF := hF.thenDrew.thenO F60 (by first | exact .inr (by omega) | exact .inl rfl | exact .inl (by assumption))
                      replace h6 := F60.blkO h6 (by omega)
                      replace h8 := F60.blkO h8 (by omega)
                      refine wl_nil (x_then (hK64 _ _ ?_))
                      clear hK64 K64
                      refine forget [(4, _), (8, _)] ⟨rfl, rfl, trivial⟩ (fun e => ?_)
                      refine c_seq (fun K65 hK65 => ?_)
                      refine c_reg ?_ -- region 25 eval.go:251
                      refine wl (ro_loadAggB rfl ag_232 (by assumption) rfl rfl) ?_
                      refine wl_puta rfl rfl ((by (try exact vlc_cells _); all_goals simp [Value.oneCell', i64c, icv, u64c, u8c, ptr, S])) sz_232 (rfl) h8 ((by simp)) (rfl) (fun w61 h8 F61 => ?_)
                      replace hF := hF.thenDrew.thenO F61 (by first | exact .inr (by omega) | exact .inl rfl | exact .inl (by assumption))
                      replace h4 := F61.blkO h4 (by omega)
                      replace h6 := F61.blkO h6 (by omega)
                      refine wl_nil (x_then (hK65 _ _ ?_))
                      clear hK65 K65
                      refine c_ret ?_
                      refine bq_ret (res1 Tryz.results227 (rv_c rfl ag_232 (h8) rfl)) ?_
                      refine ⟨?_, hF⟩
                      unfold takeD
                      repeat first | rw [if_pos (by omega)] | rw [if_neg (by omega)] | rw [if_pos (by assumption)] | rw [if_neg (by rw [Bool.not_eq_true]; assumption)]
                      all_goals first
                        | rfl
                        | (simp_all; done)
                        | (simp_all; rfl)
                        | (simp_all; exact ⟨rfl, rfl⟩)
                · try simp only [decide_eq_true_eq, decide_eq_false_iff_not, Bool.not_eq_true', Bool.not_eq_false', Bool.not_eq_eq_eq_not, Bool.not_true, Bool.not_false, beq_iff_eq, bne_iff_ne, ne_eq, beq_eq_false_iff_ne, bne_eq_false_iff_eq, gt_iff_lt, ge_iff_le, Int.not_lt, Int.not_le] at hc70
                  refine c_skip (x_then (hK42 _ _ ?_))
                  clear hK42 K42
                  refine c_seq (fun K66 hK66 => ?_)
                  refine c_seq (fun K67 hK67 => ?_)
                  refine c_reg ?_ -- region 21 eval.go:246
                  refine wl (ro_fieldAddr (k := 6) rfl fo_232_4) ?_
                  refine wl (ro_loadB rfl sc_3 (by assumption) rfl) ?_
                  refine wl (ro_cmp rfl rfl rfl) ?_
                  refine wl_fork rfl (fun hg77 => ?_) (fun hg77 => ?_)
                  · try simp only [decide_eq_true_eq, decide_eq_false_iff_not, Bool.not_eq_true', Bool.not_eq_false', Bool.not_eq_eq_eq_not, Bool.not_true, Bool.not_false, beq_iff_eq, bne_iff_ne, ne_eq, beq_eq_false_iff_ne, bne_eq_false_iff_eq, gt_iff_lt, ge_iff_le, Int.not_lt, Int.not_le] at hg77
                    refine wlg_no rfl ?_
                    refine wlg_no rfl ?_
                    refine wlg_no rfl ?_
                    refine wlg_no rfl ?_
                    refine wlg_no rfl ?_
                    refine wl (ro_pick rfl rfl rfl) ?_
                    refine wl_nil (x_then (hK67 _ _ ?_))
                    clear hK67 K67
                    refine wc_condT rfl ?_
                    refine c_reg ?_ -- region 22 eval.go:247
                    refine wl (ro_fieldAddr (k := 1) rfl fo_104_1) ?_
                    refine wl (ro_loadB rfl sc_3 (by assumption) rfl) ?_
                    refine wl (ro_fieldAddr (k := 5) rfl fo_232_3) ?_
                    refine wl_put rfl rfl rfl sz_3 h4 (by simp) (rfl) (fun w62 h4 F62 => ?_)
                    replace hF := hF.thenDrew.thenO F62 (by first | exact .inr (by omega) | exact .inl rfl | exact .inl (by assumption))
                    replace h6 := F62.blkO h6 (by omega)
                    replace h8 := F62.blkO h8 (by omega)
                    refine wl_nil (x_then (hK66 _ _ ?_))
                    clear hK66 K66
                    refine forget [(4, _), (6, _), (8, _)] ⟨rfl, rfl, rfl, trivial⟩ (fun e => ?_)
                    refine c_seq (fun K68 hK68 => ?_)
                    refine c_reg ?_ -- region 23 eval.go:249
                    refine wl (ro_fieldAddr (k := 3) rfl fo_232_1) ?_
                    refine wl (ro_loadB rfl sc_3 (by assumption) rfl) ?_
                    refine wl (ro_fieldAddr (k := 1) rfl fo_104_1) ?_
                    refine wl (ro_loadB rfl sc_3 (by assumption) rfl) ?_
                    refine wl (ro_arith rfl rfl rfl (Go.IntWalk.i64_in _ (by omega))) ?_
                    refine wl (ro_fieldAddr (k := 3) rfl fo_232_1) ?_
                    refine wl_put rfl rfl rfl sz_3 h4 (by simp) (rfl) (fun w63 h4 F63 => ?_)
                    replace hF := hF.thenDrew.thenO F63 (by first | exact .inr (by omega) | exact .inl rfl | exact .inl (by assumption))
                    replace h6 := F63.blkO h6 (by omega)
                    replace h8 := F63.blkO h8 (by omega)
                    refine wl_nil (x_then (hK68 _ _ ?_))
                    clear hK68 K68
                    refine forget [(4, _), (8, _)] ⟨rfl, rfl, trivial⟩ (fun e => ?_)
                    refine c_seq (fun K69 hK69 => ?_)
                    refine c_reg ?_ -- region 24 eval.go:250
                    refine wl (ro_fieldAddr (k := 6) rfl fo_232_4) ?_
                    refine wl (ro_loadB rfl sc_3 (by assumption) rfl) ?_
                    refine wl (ro_arith rfl rfl rfl (Go.IntWalk.i64_in _ (by omega))) ?_
                    refine wl (ro_fieldAddr (k := 6) rfl fo_232_4) ?_
                    refine wl_put rfl rfl rfl sz_3 h4 (by simp) (rfl) (fun w64 h4 F64 => ?_)
                    replace hF := hF.thenDrew.thenO F64 (by first | exact .inr (by omega) | exact .inl rfl | exact .inl (by assumption))
                    replace h6 := F64.blkO h6 (by omega)
                    replace h8 := F64.blkO h8 (by omega)
                    refine wl_nil (x_then (hK69 _ _ ?_))
                    clear hK69 K69
                    refine forget [(4, _), (8, _)] ⟨rfl, rfl, trivial⟩ (fun e => ?_)
                    refine c_seq (fun K70 hK70 => ?_)
                    refine c_reg ?_ -- region 25 eval.go:251
                    refine wl (ro_loadAggB rfl ag_232 (by assumption) rfl rfl) ?_
                    refine wl_puta rfl rfl ((by (try exact vlc_cells _); all_goals simp [Value.oneCell', i64c, icv, u64c, u8c, ptr, S])) sz_232 (rfl) h8 ((by simp)) (rfl) (fun w65 h8 F65 => ?_)
                    replace hF := hF.thenDrew.thenO F65 (by first | exact .inr (by omega) | exact .inl rfl | exact .inl (by assumption))
                    replace h4 := F65.blkO h4 (by omega)
                    replace h6 := F65.blkO h6 (by omega)
                    refine wl_nil (x_then (hK70 _ _ ?_))
                    clear hK70 K70
                    refine c_ret ?_
                    refine bq_ret (res1 Tryz.results227 (rv_c rfl ag_232 (h8) rfl)) ?_
                    refine ⟨?_, hF⟩
                    unfold takeD
                    repeat first | rw [if_pos (by omega)] | rw [if_neg (by omega)] | rw [if_pos (by assumption)] | rw [if_neg (by rw [Bool.not_eq_true]; assumption)]
                    all_goals first
                      | rfl
                      | (simp_all; done)
                      | (simp_all; rfl)
                      | (simp_all; exact ⟨rfl, rfl⟩)
                  · try simp only [decide_eq_true_eq, decide_eq_false_iff_not, Bool.not_eq_true', Bool.not_eq_false', Bool.not_eq_eq_eq_not, Bool.not_true, Bool.not_false, beq_iff_eq, bne_iff_ne, ne_eq, beq_eq_false_iff_ne, bne_eq_false_iff_eq, gt_iff_lt, ge_iff_le, Int.not_lt, Int.not_le] at hg77
                    refine wlg_yes rfl (ro_fieldAddr (k := 1) rfl fo_104_1) ?_
                    refine wlg_yes rfl (ro_loadB rfl sc_3 (by assumption) rfl) ?_
                    refine wlg_yes rfl (ro_fieldAddr (k := 5) rfl fo_232_3) ?_
                    refine wlg_yes rfl (ro_loadB rfl sc_3 (by assumption) rfl) ?_
                    refine wlg_yes rfl (ro_cmp rfl rfl rfl) ?_
                    refine wl (ro_pick rfl rfl rfl) ?_
                    refine wl_nil (x_then (hK67 _ _ ?_))
                    clear hK67 K67
                    refine wc_cond rfl (fun hc83 => ?_) (fun hc83 => ?_)
                    · try simp only [decide_eq_true_eq, decide_eq_false_iff_not, Bool.not_eq_true', Bool.not_eq_false', Bool.not_eq_eq_eq_not, Bool.not_true, Bool.not_false, beq_iff_eq, bne_iff_ne, ne_eq, beq_eq_false_iff_ne, bne_eq_false_iff_eq, gt_iff_lt, ge_iff_le, Int.not_lt, Int.not_le] at hc83
                      refine c_reg ?_ -- region 22 eval.go:247
                      refine wl (ro_fieldAddr (k := 1) rfl fo_104_1) ?_
                      refine wl (ro_loadB rfl sc_3 (by assumption) rfl) ?_
                      refine wl (ro_fieldAddr (k := 5) rfl fo_232_3) ?_
                      refine wl_put rfl rfl rfl sz_3 h4 (by simp) (rfl) (fun w66 h4 F66 => ?_)
                      replace hF := hF.thenDrew.thenO F66 (by first | exact .inr (by omega) | exact .inl rfl | exact .inl (by assumption))
                      replace h6 := F66.blkO h6 (by omega)
                      replace h8 := F66.blkO h8 (by omega)
                      refine wl_nil (x_then (hK66 _ _ ?_))
                      clear hK66 K66
                      refine forget [(4, _), (6, _), (8, _)] ⟨rfl, rfl, rfl, trivial⟩ (fun e => ?_)
                      refine c_seq (fun K71 hK71 => ?_)
                      refine c_reg ?_ -- region 23 eval.go:249
                      refine wl (ro_fieldAddr (k := 3) rfl fo_232_1) ?_
                      refine wl (ro_loadB rfl sc_3 (by assumption) rfl) ?_
                      refine wl (ro_fieldAddr (k := 1) rfl fo_104_1) ?_
                      refine wl (ro_loadB rfl sc_3 (by assumption) rfl) ?_
                      refine wl (ro_arith rfl rfl rfl (Go.IntWalk.i64_in _ (by omega))) ?_
                      refine wl (ro_fieldAddr (k := 3) rfl fo_232_1) ?_
                      refine wl_put rfl rfl rfl sz_3 h4 (by simp) (rfl) (fun w67 h4 F67 => ?_)
                      replace hF := hF.thenDrew.thenO F67 (by first | exact .inr (by omega) | exact .inl rfl | exact .inl (by assumption))
                      replace h6 := F67.blkO h6 (by omega)
                      replace h8 := F67.blkO h8 (by omega)
                      refine wl_nil (x_then (hK71 _ _ ?_))
                      clear hK71 K71
                      refine forget [(4, _), (8, _)] ⟨rfl, rfl, trivial⟩ (fun e => ?_)
                      refine c_seq (fun K72 hK72 => ?_)
                      refine c_reg ?_ -- region 24 eval.go:250
                      refine wl (ro_fieldAddr (k := 6) rfl fo_232_4) ?_
                      refine wl (ro_loadB rfl sc_3 (by assumption) rfl) ?_
                      refine wl (ro_arith rfl rfl rfl (Go.IntWalk.i64_in _ (by omega))) ?_
                      refine wl (ro_fieldAddr (k := 6) rfl fo_232_4) ?_
                      refine wl_put rfl rfl rfl sz_3 h4 (by simp) (rfl) (fun w68 h4 F68 => ?_)
                      replace hF := hF.thenDrew.thenO F68 (by first | exact .inr (by omega) | exact .inl rfl | exact .inl (by assumption))
                      replace h6 := F68.blkO h6 (by omega)
                      replace h8 := F68.blkO h8 (by omega)
                      refine wl_nil (x_then (hK72 _ _ ?_))
                      clear hK72 K72
                      refine forget [(4, _), (8, _)] ⟨rfl, rfl, trivial⟩ (fun e => ?_)
                      refine c_seq (fun K73 hK73 => ?_)
                      refine c_reg ?_ -- region 25 eval.go:251
                      refine wl (ro_loadAggB rfl ag_232 (by assumption) rfl rfl) ?_
                      refine wl_puta rfl rfl ((by (try exact vlc_cells _); all_goals simp [Value.oneCell', i64c, icv, u64c, u8c, ptr, S])) sz_232 (rfl) h8 ((by simp)) (rfl) (fun w69 h8 F69 => ?_)
                      replace hF := hF.thenDrew.thenO F69 (by first | exact .inr (by omega) | exact .inl rfl | exact .inl (by assumption))
                      replace h4 := F69.blkO h4 (by omega)
                      replace h6 := F69.blkO h6 (by omega)
                      refine wl_nil (x_then (hK73 _ _ ?_))
                      clear hK73 K73
                      refine c_ret ?_
                      refine bq_ret (res1 Tryz.results227 (rv_c rfl ag_232 (h8) rfl)) ?_
                      refine ⟨?_, hF⟩
                      unfold takeD
                      repeat first | rw [if_pos (by omega)] | rw [if_neg (by omega)] | rw [if_pos (by assumption)] | rw [if_neg (by rw [Bool.not_eq_true]; assumption)]
                      all_goals first
                        | rfl
                        | (simp_all; done)
                        | (simp_all; rfl)
                        | (simp_all; exact ⟨rfl, rfl⟩)
                    · try simp only [decide_eq_true_eq, decide_eq_false_iff_not, Bool.not_eq_true', Bool.not_eq_false', Bool.not_eq_eq_eq_not, Bool.not_true, Bool.not_false, beq_iff_eq, bne_iff_ne, ne_eq, beq_eq_false_iff_ne, bne_eq_false_iff_eq, gt_iff_lt, ge_iff_le, Int.not_lt, Int.not_le] at hc83
                      refine c_skip (x_then (hK66 _ _ ?_))
                      clear hK66 K66
                      refine forget [(4, _), (6, _), (8, _)] ⟨rfl, rfl, rfl, trivial⟩ (fun e => ?_)
                      refine c_seq (fun K74 hK74 => ?_)
                      refine c_reg ?_ -- region 23 eval.go:249
                      refine wl (ro_fieldAddr (k := 3) rfl fo_232_1) ?_
                      refine wl (ro_loadB rfl sc_3 (by assumption) rfl) ?_
                      refine wl (ro_fieldAddr (k := 1) rfl fo_104_1) ?_
                      refine wl (ro_loadB rfl sc_3 (by assumption) rfl) ?_
                      refine wl (ro_arith rfl rfl rfl (Go.IntWalk.i64_in _ (by omega))) ?_
                      refine wl (ro_fieldAddr (k := 3) rfl fo_232_1) ?_
                      refine wl_put rfl rfl rfl sz_3 h4 (by simp) (rfl) (fun w70 h4 F70 => ?_)
                      replace hF := hF.thenDrew.thenO F70 (by first | exact .inr (by omega) | exact .inl rfl | exact .inl (by assumption))
                      replace h6 := F70.blkO h6 (by omega)
                      replace h8 := F70.blkO h8 (by omega)
                      refine wl_nil (x_then (hK74 _ _ ?_))
                      clear hK74 K74
                      refine forget [(4, _), (8, _)] ⟨rfl, rfl, trivial⟩ (fun e => ?_)
                      refine c_seq (fun K75 hK75 => ?_)
                      refine c_reg ?_ -- region 24 eval.go:250
                      refine wl (ro_fieldAddr (k := 6) rfl fo_232_4) ?_
                      refine wl (ro_loadB rfl sc_3 (by assumption) rfl) ?_
                      refine wl (ro_arith rfl rfl rfl (Go.IntWalk.i64_in _ (by omega))) ?_
                      refine wl (ro_fieldAddr (k := 6) rfl fo_232_4) ?_
                      refine wl_put rfl rfl rfl sz_3 h4 (by simp) (rfl) (fun w71 h4 F71 => ?_)
                      replace hF := hF.thenDrew.thenO F71 (by first | exact .inr (by omega) | exact .inl rfl | exact .inl (by assumption))
                      replace h6 := F71.blkO h6 (by omega)
                      replace h8 := F71.blkO h8 (by omega)
                      refine wl_nil (x_then (hK75 _ _ ?_))
                      clear hK75 K75
                      refine forget [(4, _), (8, _)] ⟨rfl, rfl, trivial⟩ (fun e => ?_)
                      refine c_seq (fun K76 hK76 => ?_)
                      refine c_reg ?_ -- region 25 eval.go:251
                      refine wl (ro_loadAggB rfl ag_232 (by assumption) rfl rfl) ?_
                      refine wl_puta rfl rfl ((by (try exact vlc_cells _); all_goals simp [Value.oneCell', i64c, icv, u64c, u8c, ptr, S])) sz_232 (rfl) h8 ((by simp)) (rfl) (fun w72 h8 F72 => ?_)
                      replace hF := hF.thenDrew.thenO F72 (by first | exact .inr (by omega) | exact .inl rfl | exact .inl (by assumption))
                      replace h4 := F72.blkO h4 (by omega)
                      replace h6 := F72.blkO h6 (by omega)
                      refine wl_nil (x_then (hK76 _ _ ?_))
                      clear hK76 K76
                      refine c_ret ?_
                      refine bq_ret (res1 Tryz.results227 (rv_c rfl ag_232 (h8) rfl)) ?_
                      refine ⟨?_, hF⟩
                      unfold takeD
                      repeat first | rw [if_pos (by omega)] | rw [if_neg (by omega)] | rw [if_pos (by assumption)] | rw [if_neg (by rw [Bool.not_eq_true]; assumption)]
                      all_goals first
                        | rfl
                        | (simp_all; done)
                        | (simp_all; rfl)
                        | (simp_all; exact ⟨rfl, rfl⟩)
/-- What the fold is worth. -/
def foldedD (f : Nat) (s : Fd) : Vl := if s.bad.k = 4 then s.bad else if f = 1 then vNum s.sum else if f = 2 then vI s.mn else if f = 3 then vI s.mx else if f = 4 then vI s.cnt else if f = 6 then vB s.al else vB s.so
theorem FdR.shut {f : Nat} {s : Fd} {t : Ty} (h : FdR f s t) (hf : tallF f = true) (h1 : 1 ≤ f) : foldedD f s = shutT f t := by
  have := tall_lt hf
  have hbd := h.bad
  unfold foldedD shutT
  by_cases c1 : t.bad.k = 4
  · rw [if_pos c1, if_pos (by rw [hbd]; exact c1), hbd]
  · rw [if_neg c1, if_neg (by rw [hbd]; exact c1)]
    have hf' : f = 1 ∨ f = 2 ∨ f = 3 ∨ f = 4 ∨ f = 6 ∨ f = 7 := by omega
    rcases hf' with rfl | rfl | rfl | rfl | rfl | rfl
    · simp [h.r1 rfl]
    · simp [h.r2 rfl]
    · simp [h.r3 rfl]
    · simp [h.cnt]
    · have e := h.r6 rfl
      by_cases c : t.acc = 1 <;> simp [e, c]
    · have e := h.r7 rfl
      by_cases c : t.acc = 1 <;> simp [e, c]
set_option maxHeartbeats 2000000 in
theorem Folded217 {w : World} {f : Nat} {s : Fd} : Ret Tryz.prog 217 [fdA s, i64c f] w (fun v w' => v = vlA (foldedD f s) ∧ Fram none' w w') := by
  have hF : Fram none' w w := Fram.refl _ _
  refine ret_of Tryz.func217 rfl Tryz.ntmps217 rfl ?_
  refine c_seq (fun K1 hK1 => ?_)
  refine c_reg ?_ -- region 0 eval.go:255
  refine wl_box rfl rfl (fun b2 w1 hbb2 h2 F1 => ?_)
  have hbsb2 := Nat.le_trans hF.size hbb2
  replace hF := hF.thenDrew.thenN F1
  refine wl_new (ze_104) (fun b4 w2 hbb4 h4 F2 => ?_)
  have hbsb4 := Nat.le_trans hF.size hbb4
  have hneb2b4 : b2 < b4 := Nat.lt_of_lt_of_le h2.lt hbb4
  replace hF := hF.thenDrew.thenN F2
  replace h2 := F2.blkN h2
  refine wl_nil (x_then (hK1 _ _ ?_))
  clear hK1 K1
  refine c_seq (fun K2 hK2 => ?_)
  refine c_seq (fun K3 hK3 => ?_)
  refine c_reg ?_ -- region 1 eval.go:256
  refine wl (ro_fieldAddr (k := 0) rfl fo_232_0) ?_
  refine wl (ro_fieldAddr (k := 0) rfl fo_104_0) ?_
  refine wl (ro_loadB rfl sc_3 (by assumption) rfl) ?_
  refine wl (ro_cmp rfl rfl rfl) ?_
  refine wl_nil (x_then (hK3 _ _ ?_))
  clear hK3 K3
  refine wc_cond rfl (fun hc8 => ?_) (fun hc8 => ?_)
  · try simp only [decide_eq_true_eq, decide_eq_false_iff_not, Bool.not_eq_true', Bool.not_eq_false', Bool.not_eq_eq_eq_not, Bool.not_true, Bool.not_false, beq_iff_eq, bne_iff_ne, ne_eq, beq_eq_false_iff_ne, bne_eq_false_iff_eq, gt_iff_lt, ge_iff_le, Int.not_lt, Int.not_le] at hc8
    refine c_seq (fun K4 hK4 => ?_)
    refine c_reg ?_ -- region 2 eval.go:257
    refine wl (ro_fieldAddr (k := 0) rfl fo_232_0) ?_
    refine wl (ro_loadAggB rfl ag_104 (by assumption) rfl rfl) ?_
    refine wl_puta rfl rfl ((by (try exact vlc_cells _); all_goals simp [Value.oneCell', i64c, icv, u64c, u8c, ptr, S])) sz_104 (rfl) h4 ((by simp)) (rfl) (fun w3 h4 F3 => ?_)
    replace hF := hF.thenDrew.thenO F3 (by first | exact .inr (by omega) | exact .inl rfl | exact .inl (by assumption))
    replace h2 := F3.blkO h2 (by omega)
    refine wl_nil (x_then (hK4 _ _ ?_))
    clear hK4 K4
    refine c_ret (x_thenR ?_)
    refine bq_ret (res1 Tryz.results217 (rv_c rfl ag_104 (h4) rfl)) ?_
    refine ⟨?_, hF⟩
    unfold foldedD
    repeat first | rw [if_pos (by omega)] | rw [if_neg (by omega)]
    rfl
  · try simp only [decide_eq_true_eq, decide_eq_false_iff_not, Bool.not_eq_true', Bool.not_eq_false', Bool.not_eq_eq_eq_not, Bool.not_true, Bool.not_false, beq_iff_eq, bne_iff_ne, ne_eq, beq_eq_false_iff_ne, bne_eq_false_iff_eq, gt_iff_lt, ge_iff_le, Int.not_lt, Int.not_le] at hc8
    refine c_skip (x_then (hK2 _ _ ?_))
    clear hK2 K2
    refine c_seq (fun K5 hK5 => ?_)
    refine c_seq (fun K6 hK6 => ?_)
    refine c_reg ?_ -- region 3 eval.go:259
    refine wl (ro_move rfl) ?_
    refine wl_nil (x_then (hK6 _ _ ?_))
    clear hK6 K6
    refine c_block ?_
    refine forget [(2, _), (4, _), (11, _)] ⟨rfl, rfl, rfl, trivial⟩ (fun e => ?_)
    refine c_seq (fun K7 hK7 => ?_)
    refine c_reg ?_ -- region 4 eval.go:260
    refine wl (ro_cmp rfl rfl rfl) ?_
    refine wl (ro_assign rfl) ?_
    refine wl_nil (x_then (hK7 _ _ ?_))
    clear hK7 K7
    refine wc_cond rfl (fun hc12 => ?_) (fun hc12 => ?_)
    · try simp only [decide_eq_true_eq, decide_eq_false_iff_not, Bool.not_eq_true', Bool.not_eq_false', Bool.not_eq_eq_eq_not, Bool.not_true, Bool.not_false, beq_iff_eq, bne_iff_ne, ne_eq, beq_eq_false_iff_ne, bne_eq_false_iff_eq, gt_iff_lt, ge_iff_le, Int.not_lt, Int.not_le] at hc12
      refine c_seq (fun K8 hK8 => ?_)
      refine c_reg ?_ -- region 5 eval.go:261
      refine wl (ro_fieldAddr (k := 3) rfl fo_232_1) ?_
      refine wl (ro_loadB rfl sc_3 (by assumption) rfl) ?_
      refine wl_call rfl en_225 (Num225) ?_
      rintro _ w4 ⟨rfl, F4⟩
      replace hF := hF.thenDrew.thenN F4
      replace h2 := F4.blkN h2
      replace h4 := F4.blkN h4
      refine wl_puta rfl rfl ((by (try exact vlc_cells _); all_goals simp [Value.oneCell', i64c, icv, u64c, u8c, ptr, S])) sz_104 (rfl) h4 ((by simp)) (rfl) (fun w5 h4 F5 => ?_)
      replace hF := hF.thenDrew.thenO F5 (by first | exact .inr (by omega) | exact .inl rfl | exact .inl (by assumption))
      replace h2 := F5.blkO h2 (by omega)
      refine wl_nil (x_then (hK8 _ _ ?_))
      clear hK8 K8
      refine c_ret (x_blkR (x_thenR ?_))
      refine bq_ret (res1 Tryz.results217 (rv_c rfl ag_104 (h4) rfl)) ?_
      refine ⟨?_, hF⟩
      unfold foldedD
      repeat first | rw [if_pos (by omega)] | rw [if_neg (by omega)]
      rfl
    · try simp only [decide_eq_true_eq, decide_eq_false_iff_not, Bool.not_eq_true', Bool.not_eq_false', Bool.not_eq_eq_eq_not, Bool.not_true, Bool.not_false, beq_iff_eq, bne_iff_ne, ne_eq, beq_eq_false_iff_ne, bne_eq_false_iff_eq, gt_iff_lt, ge_iff_le, Int.not_lt, Int.not_le] at hc12
      refine c_seq (fun K9 hK9 => ?_)
      refine c_reg ?_ -- region 6 eval.go:262
      refine wl (ro_cmp rfl rfl rfl) ?_
      refine wl (ro_assign rfl) ?_
      refine wl_nil (x_then (hK9 _ _ ?_))
      clear hK9 K9
      refine wc_cond rfl (fun hc17 => ?_) (fun hc17 => ?_)
      · try simp only [decide_eq_true_eq, decide_eq_false_iff_not, Bool.not_eq_true', Bool.not_eq_false', Bool.not_eq_eq_eq_not, Bool.not_true, Bool.not_false, beq_iff_eq, bne_iff_ne, ne_eq, beq_eq_false_iff_ne, bne_eq_false_iff_eq, gt_iff_lt, ge_iff_le, Int.not_lt, Int.not_le] at hc17
        refine c_seq (fun K10 hK10 => ?_)
        refine c_reg ?_ -- region 7 eval.go:263
        refine wl (ro_fieldAddr (k := 4) rfl fo_232_2) ?_
        refine wl (ro_loadB rfl sc_3 (by assumption) rfl) ?_
        refine wl_call rfl en_187 (Int187) ?_
        rintro _ w6 ⟨rfl, F6⟩
        replace hF := hF.thenDrew.thenN F6
        replace h2 := F6.blkN h2
        replace h4 := F6.blkN h4
        refine wl_puta rfl rfl ((by (try exact vlc_cells _); all_goals simp [Value.oneCell', i64c, icv, u64c, u8c, ptr, S])) sz_104 (rfl) h4 ((by simp)) (rfl) (fun w7 h4 F7 => ?_)
        replace hF := hF.thenDrew.thenO F7 (by first | exact .inr (by omega) | exact .inl rfl | exact .inl (by assumption))
        replace h2 := F7.blkO h2 (by omega)
        refine wl_nil (x_then (hK10 _ _ ?_))
        clear hK10 K10
        refine c_ret (x_blkR (x_thenR ?_))
        refine bq_ret (res1 Tryz.results217 (rv_c rfl ag_104 (h4) rfl)) ?_
        refine ⟨?_, hF⟩
        unfold foldedD
        repeat first | rw [if_pos (by omega)] | rw [if_neg (by omega)]
        rfl
      · try simp only [decide_eq_true_eq, decide_eq_false_iff_not, Bool.not_eq_true', Bool.not_eq_false', Bool.not_eq_eq_eq_not, Bool.not_true, Bool.not_false, beq_iff_eq, bne_iff_ne, ne_eq, beq_eq_false_iff_ne, bne_eq_false_iff_eq, gt_iff_lt, ge_iff_le, Int.not_lt, Int.not_le] at hc17
        refine c_seq (fun K11 hK11 => ?_)
        refine c_reg ?_ -- region 8 eval.go:264
        refine wl (ro_cmp rfl rfl rfl) ?_
        refine wl (ro_assign rfl) ?_
        refine wl_nil (x_then (hK11 _ _ ?_))
        clear hK11 K11
        refine wc_cond rfl (fun hc22 => ?_) (fun hc22 => ?_)
        · try simp only [decide_eq_true_eq, decide_eq_false_iff_not, Bool.not_eq_true', Bool.not_eq_false', Bool.not_eq_eq_eq_not, Bool.not_true, Bool.not_false, beq_iff_eq, bne_iff_ne, ne_eq, beq_eq_false_iff_ne, bne_eq_false_iff_eq, gt_iff_lt, ge_iff_le, Int.not_lt, Int.not_le] at hc22
          refine c_seq (fun K12 hK12 => ?_)
          refine c_reg ?_ -- region 9 eval.go:265
          refine wl (ro_fieldAddr (k := 5) rfl fo_232_3) ?_
          refine wl (ro_loadB rfl sc_3 (by assumption) rfl) ?_
          refine wl_call rfl en_187 (Int187) ?_
          rintro _ w8 ⟨rfl, F8⟩
          replace hF := hF.thenDrew.thenN F8
          replace h2 := F8.blkN h2
          replace h4 := F8.blkN h4
          refine wl_puta rfl rfl ((by (try exact vlc_cells _); all_goals simp [Value.oneCell', i64c, icv, u64c, u8c, ptr, S])) sz_104 (rfl) h4 ((by simp)) (rfl) (fun w9 h4 F9 => ?_)
          replace hF := hF.thenDrew.thenO F9 (by first | exact .inr (by omega) | exact .inl rfl | exact .inl (by assumption))
          replace h2 := F9.blkO h2 (by omega)
          refine wl_nil (x_then (hK12 _ _ ?_))
          clear hK12 K12
          refine c_ret (x_blkR (x_thenR ?_))
          refine bq_ret (res1 Tryz.results217 (rv_c rfl ag_104 (h4) rfl)) ?_
          refine ⟨?_, hF⟩
          unfold foldedD
          repeat first | rw [if_pos (by omega)] | rw [if_neg (by omega)]
          rfl
        · try simp only [decide_eq_true_eq, decide_eq_false_iff_not, Bool.not_eq_true', Bool.not_eq_false', Bool.not_eq_eq_eq_not, Bool.not_true, Bool.not_false, beq_iff_eq, bne_iff_ne, ne_eq, beq_eq_false_iff_ne, bne_eq_false_iff_eq, gt_iff_lt, ge_iff_le, Int.not_lt, Int.not_le] at hc22
          refine c_seq (fun K13 hK13 => ?_)
          refine c_reg ?_ -- region 10 eval.go:266
          refine wl (ro_cmp rfl rfl rfl) ?_
          refine wl (ro_assign rfl) ?_
          refine wl_nil (x_then (hK13 _ _ ?_))
          clear hK13 K13
          refine wc_cond rfl (fun hc27 => ?_) (fun hc27 => ?_)
          · try simp only [decide_eq_true_eq, decide_eq_false_iff_not, Bool.not_eq_true', Bool.not_eq_false', Bool.not_eq_eq_eq_not, Bool.not_true, Bool.not_false, beq_iff_eq, bne_iff_ne, ne_eq, beq_eq_false_iff_ne, bne_eq_false_iff_eq, gt_iff_lt, ge_iff_le, Int.not_lt, Int.not_le] at hc27
            refine c_seq (fun K14 hK14 => ?_)
            refine c_reg ?_ -- region 11 eval.go:267
            refine wl (ro_fieldAddr (k := 6) rfl fo_232_4) ?_
            refine wl (ro_loadB rfl sc_3 (by assumption) rfl) ?_
            refine wl_call rfl en_187 (Int187) ?_
            rintro _ w10 ⟨rfl, F10⟩
            replace hF := hF.thenDrew.thenN F10
            replace h2 := F10.blkN h2
            replace h4 := F10.blkN h4
            refine wl_puta rfl rfl ((by (try exact vlc_cells _); all_goals simp [Value.oneCell', i64c, icv, u64c, u8c, ptr, S])) sz_104 (rfl) h4 ((by simp)) (rfl) (fun w11 h4 F11 => ?_)
            replace hF := hF.thenDrew.thenO F11 (by first | exact .inr (by omega) | exact .inl rfl | exact .inl (by assumption))
            replace h2 := F11.blkO h2 (by omega)
            refine wl_nil (x_then (hK14 _ _ ?_))
            clear hK14 K14
            refine c_ret (x_blkR (x_thenR ?_))
            refine bq_ret (res1 Tryz.results217 (rv_c rfl ag_104 (h4) rfl)) ?_
            refine ⟨?_, hF⟩
            unfold foldedD
            repeat first | rw [if_pos (by omega)] | rw [if_neg (by omega)]
            rfl
          · try simp only [decide_eq_true_eq, decide_eq_false_iff_not, Bool.not_eq_true', Bool.not_eq_false', Bool.not_eq_eq_eq_not, Bool.not_true, Bool.not_false, beq_iff_eq, bne_iff_ne, ne_eq, beq_eq_false_iff_ne, bne_eq_false_iff_eq, gt_iff_lt, ge_iff_le, Int.not_lt, Int.not_le] at hc27
            refine c_seq (fun K15 hK15 => ?_)
            refine c_reg ?_ -- region 12 eval.go:268
            refine wl (ro_cmp rfl rfl rfl) ?_
            refine wl (ro_assign rfl) ?_
            refine wl_nil (x_then (hK15 _ _ ?_))
            clear hK15 K15
            refine wc_cond rfl (fun hc32 => ?_) (fun hc32 => ?_)
            · try simp only [decide_eq_true_eq, decide_eq_false_iff_not, Bool.not_eq_true', Bool.not_eq_false', Bool.not_eq_eq_eq_not, Bool.not_true, Bool.not_false, beq_iff_eq, bne_iff_ne, ne_eq, beq_eq_false_iff_ne, bne_eq_false_iff_eq, gt_iff_lt, ge_iff_le, Int.not_lt, Int.not_le] at hc32
              refine c_seq (fun K16 hK16 => ?_)
              refine c_reg ?_ -- region 13 eval.go:269
              refine wl (ro_fieldAddr (k := 7) rfl fo_232_5) ?_
              refine wl (ro_loadB rfl sc_4 (by assumption) rfl) ?_
              refine wl_call rfl en_219 (Bool219) ?_
              rintro _ w12 ⟨rfl, F12⟩
              replace hF := hF.thenDrew.thenN F12
              replace h2 := F12.blkN h2
              replace h4 := F12.blkN h4
              refine wl_puta rfl rfl ((by (try exact vlc_cells _); all_goals simp [Value.oneCell', i64c, icv, u64c, u8c, ptr, S])) sz_104 (rfl) h4 ((by simp)) (rfl) (fun w13 h4 F13 => ?_)
              replace hF := hF.thenDrew.thenO F13 (by first | exact .inr (by omega) | exact .inl rfl | exact .inl (by assumption))
              replace h2 := F13.blkO h2 (by omega)
              refine wl_nil (x_then (hK16 _ _ ?_))
              clear hK16 K16
              refine c_ret (x_blkR (x_thenR ?_))
              refine bq_ret (res1 Tryz.results217 (rv_c rfl ag_104 (h4) rfl)) ?_
              refine ⟨?_, hF⟩
              unfold foldedD
              repeat first | rw [if_pos (by omega)] | rw [if_neg (by omega)]
              rfl
            · try simp only [decide_eq_true_eq, decide_eq_false_iff_not, Bool.not_eq_true', Bool.not_eq_false', Bool.not_eq_eq_eq_not, Bool.not_true, Bool.not_false, beq_iff_eq, bne_iff_ne, ne_eq, beq_eq_false_iff_ne, bne_eq_false_iff_eq, gt_iff_lt, ge_iff_le, Int.not_lt, Int.not_le] at hc32
              refine c_skip (x_blk (x_then (hK5 _ _ ?_)))
              clear hK5 K5
              refine forget [(2, _), (4, _)] ⟨rfl, rfl, trivial⟩ (fun e => ?_)
              refine c_seq (fun K17 hK17 => ?_)
              refine c_reg ?_ -- region 14 eval.go:271
              refine wl (ro_fieldAddr (k := 8) rfl fo_232_6) ?_
              refine wl (ro_loadB rfl sc_4 (by assumption) rfl) ?_
              refine wl_call rfl en_219 (Bool219) ?_
              rintro _ w14 ⟨rfl, F14⟩
              replace hF := hF.thenDrew.thenN F14
              replace h2 := F14.blkN h2
              replace h4 := F14.blkN h4
              refine wl_puta rfl rfl ((by (try exact vlc_cells _); all_goals simp [Value.oneCell', i64c, icv, u64c, u8c, ptr, S])) sz_104 (rfl) h4 ((by simp)) (rfl) (fun w15 h4 F15 => ?_)
              replace hF := hF.thenDrew.thenO F15 (by first | exact .inr (by omega) | exact .inl rfl | exact .inl (by assumption))
              replace h2 := F15.blkO h2 (by omega)
              refine wl_nil (x_then (hK17 _ _ ?_))
              clear hK17 K17
              refine c_ret ?_
              refine bq_ret (res1 Tryz.results217 (rv_c rfl ag_104 (h4) rfl)) ?_
              refine ⟨?_, hF⟩
              unfold foldedD
              repeat first | rw [if_pos (by omega)] | rw [if_neg (by omega)]
              rfl

end Go.Proofs.Qxb6500570aGreat
