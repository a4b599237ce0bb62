import Derived.Test.Qxb6500570aGreatDa
/- Values: two operands; what a cell can show; blocks of cells; plain texts. -/
namespace Go.Proofs.Qxb6500570aGreat
set_option linter.unusedVariables false
set_option linter.unusedSimpArgs false

theorem cmpI_lt {a b : Int} (h : a < b) : cmpI a b = -1 := by unfold cmpI; rw [if_pos h]
theorem cmpI_gt {a b : Int} (h : b < a) : cmpI a b = 1 := by unfold cmpI; rw [if_neg (by omega), if_pos (by omega)]
theorem cmpI_eq {a b : Int} (h1 : ¬ a < b) (h2 : ¬ b < a) : cmpI a b = 0 := by unfold cmpI; rw [if_neg h1, if_neg (by omega)]
theorem cmpS_lt {a b : List UInt8} (h : Go.Op.bytesLess a b = true) : cmpS a b = -1 := by unfold cmpS; rw [if_pos h]
theorem cmpS_gt {a b : List UInt8} (h1 : Go.Op.bytesLess a b = false) (h : a ≠ b) : cmpS a b = 1 := by unfold cmpS; rw [if_neg (by rw [h1]; decide), if_neg h]
theorem cmpS_eq {a b : List UInt8} (h1 : Go.Op.bytesLess a b = false) (h : a = b) : cmpS a b = 0 := by unfold cmpS; rw [if_neg (by rw [h1]; decide), if_pos h]
theorem binV_num {op : Nat} {x y : Vl} (h1 : ¬ x.k = 4) (h2 : ¬ y.k = 4) (hx : cntV x = true) (hy : cntV y = true) : binV op x y = if 7 ≤ op then reckon op (amt x) (amt y) else judge op (cmpI (amt x) (amt y)) := by unfold binV; rw [if_neg h1, if_neg h2, if_pos ⟨hx, hy⟩]
theorem binV_not {op : Nat} {x y : Vl} (h1 : ¬ x.k = 4) (h2 : ¬ y.k = 4) (h : cntV x = false ∨ cntV y = false) : binV op x y = if 7 ≤ op then vE 5 else if wdV x = true ∧ wdV y = true then judge op (cmpS x.s y.s) else if x.k = 3 ∧ y.k = 3 then judge op (x.n - y.n) else vE 5 := by
  unfold binV
  rw [if_neg h1, if_neg h2, if_neg]
  rintro ⟨a, b⟩
  rw [a, b] at h
  simp at h
theorem binV_no {op : Nat} {x y : Vl} (h1 : ¬ x.k = 4) (h2 : ¬ y.k = 4) (h : cntV x = false ∨ cntV y = false) (ho : op < 7) (hw : wdV x = false ∨ wdV y = false) : binV op x y = if x.k = 3 ∧ y.k = 3 then judge op (x.n - y.n) else vE 5 := by
  rw [binV_not h1 h2 h, if_neg (by omega), if_neg]
  rintro ⟨a, b⟩
  rw [a, b] at hw
  simp at hw
set_option maxHeartbeats 4000000 in
theorem binary208 {w : World} {op : Nat} {x y : Vl} (hx : Lw x) (hy : Lw y) (ho : op ≤ 10) : Ret Tryz.prog 208 [i64c op, vlA x, vlA y] w (fun v w' => v = vlA (binV op x y) ∧ Fram none' w w') := by
  have hF : Fram none' w w := Fram.refl _ _
  have hbx := hx.bd
  have hby := hy.bd
  have hax := amt_bd hx
  have hay := amt_bd hy
  refine ret_of Tryz.func208 rfl Tryz.ntmps208 rfl ?_
  refine c_seq (fun K1 hK1 => ?_)
  refine c_reg ?_ -- region 0 worth.go:21
  refine wl_box rfl rfl (fun b4 w1 hbb4 h4 F1 => ?_)
  have hbsb4 := Nat.le_trans hF.size hbb4
  replace hF := hF.thenDrew.thenN F1
  refine wl_box rfl rfl (fun b5 w2 hbb5 h5 F2 => ?_)
  have hbsb5 := Nat.le_trans hF.size hbb5
  have hneb4b5 : b4 < b5 := Nat.lt_of_lt_of_le h4.lt hbb5
  replace hF := hF.thenDrew.thenN F2
  replace h4 := F2.blkN h4
  refine wl_new (ze_104) (fun b6 w3 hbb6 h6 F3 => ?_)
  have hbsb6 := Nat.le_trans hF.size hbb6
  have hneb4b6 : b4 < b6 := Nat.lt_of_lt_of_le h4.lt hbb6
  have hneb5b6 : b5 < b6 := Nat.lt_of_lt_of_le h5.lt hbb6
  replace hF := hF.thenDrew.thenN F3
  replace h4 := F3.blkN h4
  replace h5 := F3.blkN h5
  refine wl_nil (x_then (hK1 _ _ ?_))
  clear hK1 K1
  refine c_seq (fun K2 hK2 => ?_)
  refine c_seq (fun K3 hK3 => ?_)
  refine c_reg ?_ -- region 1 worth.go:22
  refine wl (ro_fieldAddr (k := 0) rfl fo_104_0) ?_
  refine wl (ro_loadB rfl sc_3 (by assumption) rfl) ?_
  refine wl (ro_cmp rfl rfl rfl) ?_
  refine wl_nil (x_then (hK3 _ _ ?_))
  clear hK3 K3
  refine wc_cond rfl (fun hc17 => ?_) (fun hc17 => ?_)
  · try simp only [decide_eq_true_eq, decide_eq_false_iff_not, Bool.not_eq_true', Bool.not_eq_false', Bool.not_eq_eq_eq_not, Bool.not_true, Bool.not_false, beq_iff_eq, bne_iff_ne, ne_eq, beq_eq_false_iff_ne, bne_eq_false_iff_eq, gt_iff_lt, ge_iff_le, Int.not_lt, Int.not_le] at hc17
    refine c_seq (fun K4 hK4 => ?_)
    refine c_reg ?_ -- region 2 worth.go:23
    refine wl (ro_loadAggB rfl ag_104 (by assumption) rfl rfl) ?_
    refine wl_puta rfl rfl ((by (try exact vlc_cells _); all_goals simp [Value.oneCell', i64c, icv, u64c, u8c, ptr, S])) sz_104 (rfl) h6 ((by simp)) (rfl) (fun w4 h6 F4 => ?_)
    replace hF := hF.thenDrew.thenO F4 (by first | exact .inr (by omega) | exact .inl rfl | exact .inl (by assumption))
    replace h4 := F4.blkO h4 (by omega)
    replace h5 := F4.blkO h5 (by omega)
    refine wl_nil (x_then (hK4 _ _ ?_))
    clear hK4 K4
    refine c_ret (x_thenR ?_)
    refine bq_ret (res1 Tryz.results208 (rv_c rfl ag_104 (h6) rfl)) ?_
    exact ⟨by unfold binV; rw [if_pos (by omega)]; rfl, hF⟩
  · try simp only [decide_eq_true_eq, decide_eq_false_iff_not, Bool.not_eq_true', Bool.not_eq_false', Bool.not_eq_eq_eq_not, Bool.not_true, Bool.not_false, beq_iff_eq, bne_iff_ne, ne_eq, beq_eq_false_iff_ne, bne_eq_false_iff_eq, gt_iff_lt, ge_iff_le, Int.not_lt, Int.not_le] at hc17
    refine c_skip (x_then (hK2 _ _ ?_))
    clear hK2 K2
    refine c_seq (fun K5 hK5 => ?_)
    refine c_seq (fun K6 hK6 => ?_)
    refine c_reg ?_ -- region 3 worth.go:25
    refine wl (ro_fieldAddr (k := 0) rfl fo_104_0) ?_
    refine wl (ro_loadB rfl sc_3 (by assumption) rfl) ?_
    refine wl (ro_cmp rfl rfl rfl) ?_
    refine wl_nil (x_then (hK6 _ _ ?_))
    clear hK6 K6
    refine wc_cond rfl (fun hc21 => ?_) (fun hc21 => ?_)
    · try simp only [decide_eq_true_eq, decide_eq_false_iff_not, Bool.not_eq_true', Bool.not_eq_false', Bool.not_eq_eq_eq_not, Bool.not_true, Bool.not_false, beq_iff_eq, bne_iff_ne, ne_eq, beq_eq_false_iff_ne, bne_eq_false_iff_eq, gt_iff_lt, ge_iff_le, Int.not_lt, Int.not_le] at hc21
      refine c_seq (fun K7 hK7 => ?_)
      refine c_reg ?_ -- region 4 worth.go:26
      refine wl (ro_loadAggB rfl ag_104 (by assumption) rfl rfl) ?_
      refine wl_puta rfl rfl ((by (try exact vlc_cells _); all_goals simp [Value.oneCell', i64c, icv, u64c, u8c, ptr, S])) sz_104 (rfl) h6 ((by simp)) (rfl) (fun w5 h6 F5 => ?_)
      replace hF := hF.thenDrew.thenO F5 (by first | exact .inr (by omega) | exact .inl rfl | exact .inl (by assumption))
      replace h4 := F5.blkO h4 (by omega)
      replace h5 := F5.blkO h5 (by omega)
      refine wl_nil (x_then (hK7 _ _ ?_))
      clear hK7 K7
      refine c_ret (x_thenR ?_)
      refine bq_ret (res1 Tryz.results208 (rv_c rfl ag_104 (h6) rfl)) ?_
      exact ⟨by unfold binV; rw [if_neg (by omega), if_pos (by omega)]; rfl, hF⟩
    · try simp only [decide_eq_true_eq, decide_eq_false_iff_not, Bool.not_eq_true', Bool.not_eq_false', Bool.not_eq_eq_eq_not, Bool.not_true, Bool.not_false, beq_iff_eq, bne_iff_ne, ne_eq, beq_eq_false_iff_ne, bne_eq_false_iff_eq, gt_iff_lt, ge_iff_le, Int.not_lt, Int.not_le] at hc21
      refine c_skip (x_then (hK5 _ _ ?_))
      clear hK5 K5
      refine forget [(0, _), (4, _), (5, _), (6, _)] ⟨rfl, rfl, rfl, rfl, trivial⟩ (fun e => ?_)
      refine c_seq (fun K8 hK8 => ?_)
      refine c_reg ?_ -- region 5 worth.go:28
      refine wl (ro_loadAggB rfl ag_104 (by assumption) rfl rfl) ?_
      refine wl_call rfl en_221 (counts221) ?_
      rintro _ w6 ⟨rfl, F6⟩
      replace hF := hF.thenDrew.thenN F6
      replace h4 := F6.blkN h4
      replace h5 := F6.blkN h5
      replace h6 := F6.blkN h6
      refine wl (ro_assign rfl) ?_
      refine wl_nil (x_then (hK8 _ _ ?_))
      clear hK8 K8
      refine forget [(0, _), (4, _), (5, _), (6, _), (7, _)] ⟨rfl, rfl, rfl, rfl, rfl, trivial⟩ (fun e => ?_)
      refine c_seq (fun K9 hK9 => ?_)
      refine c_reg ?_ -- region 6 worth.go:29
      refine wl (ro_loadAggB rfl ag_104 (by assumption) rfl rfl) ?_
      refine wl_call rfl en_221 (counts221) ?_
      rintro _ w7 ⟨rfl, F7⟩
      replace hF := hF.thenDrew.thenN F7
      replace h4 := F7.blkN h4
      replace h5 := F7.blkN h5
      replace h6 := F7.blkN h6
      refine wl (ro_assign rfl) ?_
      refine wl_nil (x_then (hK9 _ _ ?_))
      clear hK9 K9
      refine c_seq (fun K10 hK10 => ?_)
      refine c_seq (fun K11 hK11 => ?_)
      refine c_reg ?_ -- region 7 worth.go:30
      refine wl (ro_move rfl) ?_
      refine wl_fork rfl (fun hg28 => ?_) (fun hg28 => ?_)
      · try simp only [decide_eq_true_eq, decide_eq_false_iff_not, Bool.not_eq_true', Bool.not_eq_false', Bool.not_eq_eq_eq_not, Bool.not_true, Bool.not_false, beq_iff_eq, bne_iff_ne, ne_eq, beq_eq_false_iff_ne, bne_eq_false_iff_eq, gt_iff_lt, ge_iff_le, Int.not_lt, Int.not_le] at hg28
        refine wlg_yes rfl (ro_move rfl) ?_
        refine wl (ro_pick rfl rfl rfl) ?_
        refine wl_nil (x_then (hK11 _ _ ?_))
        clear hK11 K11
        refine wc_cond rfl (fun hc30 => ?_) (fun hc30 => ?_)
        · try simp only [decide_eq_true_eq, decide_eq_false_iff_not, Bool.not_eq_true', Bool.not_eq_false', Bool.not_eq_eq_eq_not, Bool.not_true, Bool.not_false, beq_iff_eq, bne_iff_ne, ne_eq, beq_eq_false_iff_ne, bne_eq_false_iff_eq, gt_iff_lt, ge_iff_le, Int.not_lt, Int.not_le] at hc30
          refine c_seq (fun K12 hK12 => ?_)
          refine c_reg ?_ -- region 8 worth.go:31
          refine wl (ro_loadAggB rfl ag_104 (by assumption) rfl rfl) ?_
          refine wl_call rfl en_222 (amount222) ?_
          rintro _ w8 ⟨rfl, F8⟩
          replace hF := hF.thenDrew.thenN F8
          replace h4 := F8.blkN h4
          replace h5 := F8.blkN h5
          replace h6 := F8.blkN h6
          refine wl (ro_assign rfl) ?_
          refine wl_nil (x_then (hK12 _ _ ?_))
          clear hK12 K12
          refine forget [(0, _), (5, _), (6, _), (9, _)] ⟨rfl, rfl, rfl, rfl, trivial⟩ (fun e => ?_)
          refine c_seq (fun K13 hK13 => ?_)
          refine c_reg ?_ -- region 9 worth.go:32
          refine wl (ro_loadAggB rfl ag_104 (by assumption) rfl rfl) ?_
          refine wl_call rfl en_222 (amount222) ?_
          rintro _ w9 ⟨rfl, F9⟩
          replace hF := hF.thenDrew.thenN F9
          replace h4 := F9.blkN h4
          replace h5 := F9.blkN h5
          replace h6 := F9.blkN h6
          refine wl (ro_assign rfl) ?_
          refine wl_nil (x_then (hK13 _ _ ?_))
          clear hK13 K13
          refine c_seq (fun K14 hK14 => ?_)
          refine c_seq (fun K15 hK15 => ?_)
          refine c_reg ?_ -- region 10 worth.go:33
          refine wl (ro_move rfl) ?_
          refine wl (ro_cmp rfl rfl rfl) ?_
          refine wl_nil (x_then (hK15 _ _ ?_))
          clear hK15 K15
          refine wc_cond rfl (fun hc36 => ?_) (fun hc36 => ?_)
          · try simp only [decide_eq_true_eq, decide_eq_false_iff_not, Bool.not_eq_true', Bool.not_eq_false', Bool.not_eq_eq_eq_not, Bool.not_true, Bool.not_false, beq_iff_eq, bne_iff_ne, ne_eq, beq_eq_false_iff_ne, bne_eq_false_iff_eq, gt_iff_lt, ge_iff_le, Int.not_lt, Int.not_le] at hc36
            refine c_seq (fun K16 hK16 => ?_)
            refine c_reg ?_ -- region 11 worth.go:34
            refine wl (ro_move rfl) ?_
            refine wl (ro_move rfl) ?_
            refine wl (ro_move rfl) ?_
            refine wl_call rfl en_223 (reckon223 hax hay ho) ?_
            rintro _ w10 ⟨rfl, F10⟩
            replace hF := hF.thenDrew.thenN F10
            replace h4 := F10.blkN h4
            replace h5 := F10.blkN h5
            replace h6 := F10.blkN h6
            refine wl_puta rfl rfl ((by (try exact vlc_cells _); all_goals simp [Value.oneCell', i64c, icv, u64c, u8c, ptr, S])) sz_104 (rfl) h6 ((by simp)) (rfl) (fun w11 h6 F11 => ?_)
            replace hF := hF.thenDrew.thenO F11 (by first | exact .inr (by omega) | exact .inl rfl | exact .inl (by assumption))
            replace h4 := F11.blkO h4 (by omega)
            replace h5 := F11.blkO h5 (by omega)
            refine wl_nil (x_then (hK16 _ _ ?_))
            clear hK16 K16
            refine c_ret (x_thenR (x_thenR ?_))
            refine bq_ret (res1 Tryz.results208 (rv_c rfl ag_104 (h6) rfl)) ?_
            exact ⟨by rw [binV_num (by omega) (by omega) (by assumption) (by assumption), if_pos (by omega)]; rfl, hF⟩
          · try simp only [decide_eq_true_eq, decide_eq_false_iff_not, Bool.not_eq_true', Bool.not_eq_false', Bool.not_eq_eq_eq_not, Bool.not_true, Bool.not_false, beq_iff_eq, bne_iff_ne, ne_eq, beq_eq_false_iff_ne, bne_eq_false_iff_eq, gt_iff_lt, ge_iff_le, Int.not_lt, Int.not_le] at hc36
            refine c_skip (x_then (hK14 _ _ ?_))
            clear hK14 K14
            refine forget [(0, _), (6, _), (9, _), (10, _)] ⟨rfl, rfl, rfl, rfl, trivial⟩ (fun e => ?_)
            refine c_seq (fun K17 hK17 => ?_)
            refine c_reg ?_ -- region 12 worth.go:36
            refine wl (ro_assign rfl) ?_
            refine wl_nil (x_then (hK17 _ _ ?_))
            clear hK17 K17
            refine c_seq (fun K18 hK18 => ?_)
            refine c_seq (fun K19 hK19 => ?_)
            refine c_reg ?_ -- region 13 worth.go:37
            refine wl (ro_move rfl) ?_
            refine wl (ro_move rfl) ?_
            refine wl (ro_cmp rfl rfl rfl) ?_
            refine wl_nil (x_then (hK19 _ _ ?_))
            clear hK19 K19
            refine wc_cond rfl (fun hc43 => ?_) (fun hc43 => ?_)
            · try simp only [decide_eq_true_eq, decide_eq_false_iff_not, Bool.not_eq_true', Bool.not_eq_false', Bool.not_eq_eq_eq_not, Bool.not_true, Bool.not_false, beq_iff_eq, bne_iff_ne, ne_eq, beq_eq_false_iff_ne, bne_eq_false_iff_eq, gt_iff_lt, ge_iff_le, Int.not_lt, Int.not_le] at hc43
              refine c_reg ?_ -- region 14 worth.go:38
              refine wl (ro_assign rfl) ?_
              refine wl_nil (x_then (hK18 _ _ ?_))
              clear hK18 K18
              refine c_seq (fun K20 hK20 => ?_)
              refine c_seq (fun K21 hK21 => ?_)
              refine c_reg ?_ -- region 15 worth.go:40
              refine wl (ro_move rfl) ?_
              refine wl (ro_move rfl) ?_
              refine wl (ro_cmp rfl rfl rfl) ?_
              refine wl_nil (x_then (hK21 _ _ ?_))
              clear hK21 K21
              refine wc_cond rfl (fun hc46 => ?_) (fun hc46 => ?_)
              · try simp only [decide_eq_true_eq, decide_eq_false_iff_not, Bool.not_eq_true', Bool.not_eq_false', Bool.not_eq_eq_eq_not, Bool.not_true, Bool.not_false, beq_iff_eq, bne_iff_ne, ne_eq, beq_eq_false_iff_ne, bne_eq_false_iff_eq, gt_iff_lt, ge_iff_le, Int.not_lt, Int.not_le] at hc46
                refine c_reg ?_ -- region 16 worth.go:41
                refine wl (ro_assign rfl) ?_
                refine wl_nil (x_then (hK20 _ _ ?_))
                clear hK20 K20
                refine forget [(0, _), (6, _), (11, _)] ⟨rfl, rfl, rfl, trivial⟩ (fun e => ?_)
                refine c_seq (fun K22 hK22 => ?_)
                refine c_reg ?_ -- region 17 worth.go:43
                refine wl (ro_move rfl) ?_
                refine wl (ro_move rfl) ?_
                refine wl_call rfl en_224 (judge224) ?_
                rintro _ w12 ⟨rfl, F12⟩
                replace hF := hF.thenDrew.thenN F12
                replace h4 := F12.blkN h4
                replace h5 := F12.blkN h5
                replace h6 := F12.blkN h6
                refine wl_puta rfl rfl ((by (try exact vlc_cells _); all_goals simp [Value.oneCell', i64c, icv, u64c, u8c, ptr, S])) sz_104 (rfl) h6 ((by simp)) (rfl) (fun w13 h6 F13 => ?_)
                replace hF := hF.thenDrew.thenO F13 (by first | exact .inr (by omega) | exact .inl rfl | exact .inl (by assumption))
                replace h4 := F13.blkO h4 (by omega)
                replace h5 := F13.blkO h5 (by omega)
                refine wl_nil (x_then (hK22 _ _ ?_))
                clear hK22 K22
                refine c_ret (x_thenR ?_)
                refine bq_ret (res1 Tryz.results208 (rv_c rfl ag_104 (h6) rfl)) ?_
                exact absurd hc43 (by omega)
              · try simp only [decide_eq_true_eq, decide_eq_false_iff_not, Bool.not_eq_true', Bool.not_eq_false', Bool.not_eq_eq_eq_not, Bool.not_true, Bool.not_false, beq_iff_eq, bne_iff_ne, ne_eq, beq_eq_false_iff_ne, bne_eq_false_iff_eq, gt_iff_lt, ge_iff_le, Int.not_lt, Int.not_le] at hc46
                refine c_skip (x_then (hK20 _ _ ?_))
                clear hK20 K20
                refine forget [(0, _), (6, _), (11, _)] ⟨rfl, rfl, rfl, trivial⟩ (fun e => ?_)
                refine c_seq (fun K23 hK23 => ?_)
                refine c_reg ?_ -- region 17 worth.go:43
                refine wl (ro_move rfl) ?_
                refine wl (ro_move rfl) ?_
                refine wl_call rfl en_224 (judge224) ?_
                rintro _ w14 ⟨rfl, F14⟩
                replace hF := hF.thenDrew.thenN F14
                replace h4 := F14.blkN h4
                replace h5 := F14.blkN h5
                replace h6 := F14.blkN h6
                refine wl_puta rfl rfl ((by (try exact vlc_cells _); all_goals simp [Value.oneCell', i64c, icv, u64c, u8c, ptr, S])) sz_104 (rfl) h6 ((by simp)) (rfl) (fun w15 h6 F15 => ?_)
                replace hF := hF.thenDrew.thenO F15 (by first | exact .inr (by omega) | exact .inl rfl | exact .inl (by assumption))
                replace h4 := F15.blkO h4 (by omega)
                replace h5 := F15.blkO h5 (by omega)
                refine wl_nil (x_then (hK23 _ _ ?_))
                clear hK23 K23
                refine c_ret (x_thenR ?_)
                refine bq_ret (res1 Tryz.results208 (rv_c rfl ag_104 (h6) rfl)) ?_
                exact ⟨by rw [binV_num (by omega) (by omega) (by assumption) (by assumption), if_neg (by omega), cmpI_lt (by omega)]; rfl, hF⟩
            · try simp only [decide_eq_true_eq, decide_eq_false_iff_not, Bool.not_eq_true', Bool.not_eq_false', Bool.not_eq_eq_eq_not, Bool.not_true, Bool.not_false, beq_iff_eq, bne_iff_ne, ne_eq, beq_eq_false_iff_ne, bne_eq_false_iff_eq, gt_iff_lt, ge_iff_le, Int.not_lt, Int.not_le] at hc43
              refine c_skip (x_then (hK18 _ _ ?_))
              clear hK18 K18
              refine c_seq (fun K24 hK24 => ?_)
              refine c_seq (fun K25 hK25 => ?_)
              refine c_reg ?_ -- region 15 worth.go:40
              refine wl (ro_move rfl) ?_
              refine wl (ro_move rfl) ?_
              refine wl (ro_cmp rfl rfl rfl) ?_
              refine wl_nil (x_then (hK25 _ _ ?_))
              clear hK25 K25
              refine wc_cond rfl (fun hc46 => ?_) (fun hc46 => ?_)
              · try simp only [decide_eq_true_eq, decide_eq_false_iff_not, Bool.not_eq_true', Bool.not_eq_false', Bool.not_eq_eq_eq_not, Bool.not_true, Bool.not_false, beq_iff_eq, bne_iff_ne, ne_eq, beq_eq_false_iff_ne, bne_eq_false_iff_eq, gt_iff_lt, ge_iff_le, Int.not_lt, Int.not_le] at hc46
                refine c_reg ?_ -- region 16 worth.go:41
                refine wl (ro_assign rfl) ?_
                refine wl_nil (x_then (hK24 _ _ ?_))
                clear hK24 K24
                refine forget [(0, _), (6, _), (11, _)] ⟨rfl, rfl, rfl, trivial⟩ (fun e => ?_)
                refine c_seq (fun K26 hK26 => ?_)
                refine c_reg ?_ -- region 17 worth.go:43
                refine wl (ro_move rfl) ?_
                refine wl (ro_move rfl) ?_
                refine wl_call rfl en_224 (judge224) ?_
                rintro _ w16 ⟨rfl, F16⟩
                replace hF := hF.thenDrew.thenN F16
                replace h4 := F16.blkN h4
                replace h5 := F16.blkN h5
                replace h6 := F16.blkN h6
                refine wl_puta rfl rfl ((by (try exact vlc_cells _); all_goals simp [Value.oneCell', i64c, icv, u64c, u8c, ptr, S])) sz_104 (rfl) h6 ((by simp)) (rfl) (fun w17 h6 F17 => ?_)
                replace hF := hF.thenDrew.thenO F17 (by first | exact .inr (by omega) | exact .inl rfl | exact .inl (by assumption))
                replace h4 := F17.blkO h4 (by omega)
                replace h5 := F17.blkO h5 (by omega)
                refine wl_nil (x_then (hK26 _ _ ?_))
                clear hK26 K26
                refine c_ret (x_thenR ?_)
                refine bq_ret (res1 Tryz.results208 (rv_c rfl ag_104 (h6) rfl)) ?_
                exact ⟨by rw [binV_num (by omega) (by omega) (by assumption) (by assumption), if_neg (by omega), cmpI_gt (by omega)]; rfl, hF⟩
              · try simp only [decide_eq_true_eq, decide_eq_false_iff_not, Bool.not_eq_true', Bool.not_eq_false', Bool.not_eq_eq_eq_not, Bool.not_true, Bool.not_false, beq_iff_eq, bne_iff_ne, ne_eq, beq_eq_false_iff_ne, bne_eq_false_iff_eq, gt_iff_lt, ge_iff_le, Int.not_lt, Int.not_le] at hc46
                refine c_skip (x_then (hK24 _ _ ?_))
                clear hK24 K24
                refine forget [(0, _), (6, _), (11, _)] ⟨rfl, rfl, rfl, trivial⟩ (fun e => ?_)
                refine c_seq (fun K27 hK27 => ?_)
                refine c_reg ?_ -- region 17 worth.go:43
                refine wl (ro_move rfl) ?_
                refine wl (ro_move rfl) ?_
                refine wl_call rfl en_224 (judge224) ?_
                rintro _ w18 ⟨rfl, F18⟩
                replace hF := hF.thenDrew.thenN F18
                replace h4 := F18.blkN h4
                replace h5 := F18.blkN h5
                replace h6 := F18.blkN h6
                refine wl_puta rfl rfl ((by (try exact vlc_cells _); all_goals simp [Value.oneCell', i64c, icv, u64c, u8c, ptr, S])) sz_104 (rfl) h6 ((by simp)) (rfl) (fun w19 h6 F19 => ?_)
                replace hF := hF.thenDrew.thenO F19 (by first | exact .inr (by omega) | exact .inl rfl | exact .inl (by assumption))
                replace h4 := F19.blkO h4 (by omega)
                replace h5 := F19.blkO h5 (by omega)
                refine wl_nil (x_then (hK27 _ _ ?_))
                clear hK27 K27
                refine c_ret (x_thenR ?_)
                refine bq_ret (res1 Tryz.results208 (rv_c rfl ag_104 (h6) rfl)) ?_
                exact ⟨by rw [binV_num (by omega) (by omega) (by assumption) (by assumption), if_neg (by omega), cmpI_eq (by omega) (by omega)]; rfl, hF⟩
        · try simp only [decide_eq_true_eq, decide_eq_false_iff_not, Bool.not_eq_true', Bool.not_eq_false', Bool.not_eq_eq_eq_not, Bool.not_true, Bool.not_false, beq_iff_eq, bne_iff_ne, ne_eq, beq_eq_false_iff_ne, bne_eq_false_iff_eq, gt_iff_lt, ge_iff_le, Int.not_lt, Int.not_le] at hc30
          refine c_skip (x_then (hK10 _ _ ?_))
          clear hK10 K10
          refine c_seq (fun K28 hK28 => ?_)
          refine c_seq (fun K29 hK29 => ?_)
          refine c_reg ?_ -- region 18 worth.go:45
          refine wl (ro_move rfl) ?_
          refine wl (ro_cmp rfl rfl rfl) ?_
          refine wl_nil (x_then (hK29 _ _ ?_))
          clear hK29 K29
          refine wc_cond rfl (fun hc51 => ?_) (fun hc51 => ?_)
          · try simp only [decide_eq_true_eq, decide_eq_false_iff_not, Bool.not_eq_true', Bool.not_eq_false', Bool.not_eq_eq_eq_not, Bool.not_true, Bool.not_false, beq_iff_eq, bne_iff_ne, ne_eq, beq_eq_false_iff_ne, bne_eq_false_iff_eq, gt_iff_lt, ge_iff_le, Int.not_lt, Int.not_le] at hc51
            refine c_seq (fun K30 hK30 => ?_)
            refine c_reg ?_ -- region 19 worth.go:46
            refine wl_call rfl en_116 (Err116) ?_
            rintro _ w20 ⟨rfl, F20⟩
            replace hF := hF.thenDrew.thenN F20
            replace h4 := F20.blkN h4
            replace h5 := F20.blkN h5
            replace h6 := F20.blkN h6
            refine wl_puta rfl rfl ((by (try exact vlc_cells _); all_goals simp [Value.oneCell', i64c, icv, u64c, u8c, ptr, S])) sz_104 (rfl) h6 ((by simp)) (rfl) (fun w21 h6 F21 => ?_)
            replace hF := hF.thenDrew.thenO F21 (by first | exact .inr (by omega) | exact .inl rfl | exact .inl (by assumption))
            replace h4 := F21.blkO h4 (by omega)
            replace h5 := F21.blkO h5 (by omega)
            refine wl_nil (x_then (hK30 _ _ ?_))
            clear hK30 K30
            refine c_ret (x_thenR ?_)
            refine bq_ret (res1 Tryz.results208 (rv_c rfl ag_104 (h6) rfl)) ?_
            refine ⟨?_, hF⟩
            have hcn : cntV x = false ∨ cntV y = false := by first | exact .inl (by assumption) | exact .inr (by assumption)
            first
              | (rw [binV_not (by omega) (by omega) hcn, if_pos (by omega)]; rfl)
              | (have hwd : wdV x = false ∨ wdV y = false := by first | exact .inl (by assumption) | exact .inr (by assumption)
                 rw [binV_no (by omega) (by omega) hcn (by omega) hwd]
                 first
                   | (rw [if_pos (by omega)]; rfl)
                   | (rw [if_neg (by omega)]; rfl))
              | (have hw1 : wdV x = true := by assumption
                 have hw2 : wdV y = true := by assumption
                 rw [binV_not (by omega) (by omega) hcn, if_neg (by omega), if_pos ⟨hw1, hw2⟩]
                 have hc70' := hc70
                 simp only [hc65, Bool.true_or, Bool.false_or, beq_iff_eq, beq_eq_false_iff_ne, Bool.true_eq_false, Bool.false_eq_true] at hc70'
                 all_goals first
                   | (rw [cmpS_lt hc65]; rfl)
                   | (rw [cmpS_gt hc65 hc70']; rfl)
                   | (rw [cmpS_eq hc65 hc70']; rfl))
          · try simp only [decide_eq_true_eq, decide_eq_false_iff_not, Bool.not_eq_true', Bool.not_eq_false', Bool.not_eq_eq_eq_not, Bool.not_true, Bool.not_false, beq_iff_eq, bne_iff_ne, ne_eq, beq_eq_false_iff_ne, bne_eq_false_iff_eq, gt_iff_lt, ge_iff_le, Int.not_lt, Int.not_le] at hc51
            refine c_skip (x_then (hK28 _ _ ?_))
            clear hK28 K28
            refine forget [(0, _), (4, _), (5, _), (6, _)] ⟨rfl, rfl, rfl, rfl, trivial⟩ (fun e => ?_)
            refine c_seq (fun K31 hK31 => ?_)
            refine c_reg ?_ -- region 20 worth.go:48
            refine wl (ro_loadAggB rfl ag_104 (by assumption) rfl rfl) ?_
            refine wl_call rfl en_220 (wordy220) ?_
            rintro _ w22 ⟨rfl, F22⟩
            replace hF := hF.thenDrew.thenN F22
            replace h4 := F22.blkN h4
            replace h5 := F22.blkN h5
            replace h6 := F22.blkN h6
            refine wl (ro_assign rfl) ?_
            refine wl_nil (x_then (hK31 _ _ ?_))
            clear hK31 K31
            refine forget [(0, _), (4, _), (5, _), (6, _), (12, _)] ⟨rfl, rfl, rfl, rfl, rfl, trivial⟩ (fun e => ?_)
            refine c_seq (fun K32 hK32 => ?_)
            refine c_reg ?_ -- region 21 worth.go:49
            refine wl (ro_loadAggB rfl ag_104 (by assumption) rfl rfl) ?_
            refine wl_call rfl en_220 (wordy220) ?_
            rintro _ w23 ⟨rfl, F23⟩
            replace hF := hF.thenDrew.thenN F23
            replace h4 := F23.blkN h4
            replace h5 := F23.blkN h5
            replace h6 := F23.blkN h6
            refine wl (ro_assign rfl) ?_
            refine wl_nil (x_then (hK32 _ _ ?_))
            clear hK32 K32
            refine c_seq (fun K33 hK33 => ?_)
            refine c_seq (fun K34 hK34 => ?_)
            refine c_reg ?_ -- region 22 worth.go:50
            refine wl (ro_move rfl) ?_
            refine wl_fork rfl (fun hg58 => ?_) (fun hg58 => ?_)
            · try simp only [decide_eq_true_eq, decide_eq_false_iff_not, Bool.not_eq_true', Bool.not_eq_false', Bool.not_eq_eq_eq_not, Bool.not_true, Bool.not_false, beq_iff_eq, bne_iff_ne, ne_eq, beq_eq_false_iff_ne, bne_eq_false_iff_eq, gt_iff_lt, ge_iff_le, Int.not_lt, Int.not_le] at hg58
              refine wlg_yes rfl (ro_move rfl) ?_
              refine wl (ro_pick rfl rfl rfl) ?_
              refine wl_nil (x_then (hK34 _ _ ?_))
              clear hK34 K34
              refine wc_cond rfl (fun hc60 => ?_) (fun hc60 => ?_)
              · try simp only [decide_eq_true_eq, decide_eq_false_iff_not, Bool.not_eq_true', Bool.not_eq_false', Bool.not_eq_eq_eq_not, Bool.not_true, Bool.not_false, beq_iff_eq, bne_iff_ne, ne_eq, beq_eq_false_iff_ne, bne_eq_false_iff_eq, gt_iff_lt, ge_iff_le, Int.not_lt, Int.not_le] at hc60
                refine c_seq (fun K35 hK35 => ?_)
                refine c_reg ?_ -- region 23 worth.go:51
                refine wl (ro_assign rfl) ?_
                refine wl_nil (x_then (hK35 _ _ ?_))
                clear hK35 K35
                refine c_seq (fun K36 hK36 => ?_)
                refine c_seq (fun K37 hK37 => ?_)
                refine c_reg ?_ -- region 24 worth.go:52
                refine wl (ro_fieldAddr (k := 2) rfl fo_104_2) ?_
                refine wl (ro_loadB rfl sc_9 (by assumption) rfl) ?_
                refine wl (ro_fieldAddr (k := 2) rfl fo_104_2) ?_
                refine wl (ro_loadB rfl sc_9 (by assumption) rfl) ?_
                refine wl (ro_ltS rfl rfl rfl) ?_
                refine wl_nil (x_then (hK37 _ _ ?_))
                clear hK37 K37
                refine wc_cond rfl (fun hc65 => ?_) (fun hc65 => ?_)
                · try simp only [decide_eq_true_eq, decide_eq_false_iff_not, Bool.not_eq_true', Bool.not_eq_false', Bool.not_eq_eq_eq_not, Bool.not_true, Bool.not_false, beq_iff_eq, bne_iff_ne, ne_eq, beq_eq_false_iff_ne, bne_eq_false_iff_eq, gt_iff_lt, ge_iff_le, Int.not_lt, Int.not_le] at hc65
                  refine c_reg ?_ -- region 25 worth.go:53
                  refine wl (ro_assign rfl) ?_
                  refine wl_nil (x_then (hK36 _ _ ?_))
                  clear hK36 K36
                  refine c_seq (fun K38 hK38 => ?_)
                  refine c_seq (fun K39 hK39 => ?_)
                  refine c_reg ?_ -- region 26 worth.go:55
                  refine wl (ro_fieldAddr (k := 2) rfl fo_104_2) ?_
                  refine wl (ro_loadB rfl sc_9 (by assumption) rfl) ?_
                  refine wl (ro_fieldAddr (k := 2) rfl fo_104_2) ?_
                  refine wl (ro_loadB rfl sc_9 (by assumption) rfl) ?_
                  refine wl (ro_ltS rfl rfl rfl) ?_
                  refine wl_nil (x_then (hK39 _ _ ?_))
                  clear hK39 K39
                  refine wc_cond rfl (fun hc70 => ?_) (fun hc70 => ?_)
                  · try simp only [decide_eq_true_eq, decide_eq_false_iff_not, Bool.not_eq_true', Bool.not_eq_false', Bool.not_eq_eq_eq_not, Bool.not_true, Bool.not_false, beq_iff_eq, bne_iff_ne, ne_eq, beq_eq_false_iff_ne, bne_eq_false_iff_eq, gt_iff_lt, ge_iff_le, Int.not_lt, Int.not_le] at hc70
                    refine c_reg ?_ -- region 27 worth.go:56
                    refine wl (ro_assign rfl) ?_
                    refine wl_nil (x_then (hK38 _ _ ?_))
                    clear hK38 K38
                    refine forget [(0, _), (6, _), (14, _)] ⟨rfl, rfl, rfl, trivial⟩ (fun e => ?_)
                    refine c_seq (fun K40 hK40 => ?_)
                    refine c_reg ?_ -- region 28 worth.go:58
                    refine wl (ro_move rfl) ?_
                    refine wl (ro_move rfl) ?_
                    refine wl_call rfl en_224 (judge224) ?_
                    rintro _ w24 ⟨rfl, F24⟩
                    replace hF := hF.thenDrew.thenN F24
                    replace h4 := F24.blkN h4
                    replace h5 := F24.blkN h5
                    replace h6 := F24.blkN h6
                    refine wl_puta rfl rfl ((by (try exact vlc_cells _); all_goals simp [Value.oneCell', i64c, icv, u64c, u8c, ptr, S])) sz_104 (rfl) h6 ((by simp)) (rfl) (fun w25 h6 F25 => ?_)
                    replace hF := hF.thenDrew.thenO F25 (by first | exact .inr (by omega) | exact .inl rfl | exact .inl (by assumption))
                    replace h4 := F25.blkO h4 (by omega)
                    replace h5 := F25.blkO h5 (by omega)
                    refine wl_nil (x_then (hK40 _ _ ?_))
                    clear hK40 K40
                    refine c_ret (x_thenR ?_)
                    refine bq_ret (res1 Tryz.results208 (rv_c rfl ag_104 (h6) rfl)) ?_
                    refine ⟨?_, hF⟩
                    have hcn : cntV x = false ∨ cntV y = false := by first | exact .inl (by assumption) | exact .inr (by assumption)
                    first
                      | (rw [binV_not (by omega) (by omega) hcn, if_pos (by omega)]; rfl)
                      | (have hwd : wdV x = false ∨ wdV y = false := by first | exact .inl (by assumption) | exact .inr (by assumption)
                         rw [binV_no (by omega) (by omega) hcn (by omega) hwd]
                         first
                           | (rw [if_pos (by omega)]; rfl)
                           | (rw [if_neg (by omega)]; rfl))
                      | (have hw1 : wdV x = true := by assumption
                         have hw2 : wdV y = true := by assumption
                         rw [binV_not (by omega) (by omega) hcn, if_neg (by omega), if_pos ⟨hw1, hw2⟩]
                         have hc70' := hc70
                         simp only [hc65, Bool.true_or, Bool.false_or, beq_iff_eq, beq_eq_false_iff_ne, Bool.true_eq_false, Bool.false_eq_true] at hc70'
                         all_goals first
                           | (rw [cmpS_lt hc65]; rfl)
                           | (rw [cmpS_gt hc65 hc70']; rfl)
                           | (rw [cmpS_eq hc65 hc70']; rfl))
                  · try simp only [decide_eq_true_eq, decide_eq_false_iff_not, Bool.not_eq_true', Bool.not_eq_false', Bool.not_eq_eq_eq_not, Bool.not_true, Bool.not_false, beq_iff_eq, bne_iff_ne, ne_eq, beq_eq_false_iff_ne, bne_eq_false_iff_eq, gt_iff_lt, ge_iff_le, Int.not_lt, Int.not_le] at hc70
                    refine c_skip (x_then (hK38 _ _ ?_))
                    clear hK38 K38
                    refine forget [(0, _), (6, _), (14, _)] ⟨rfl, rfl, rfl, trivial⟩ (fun e => ?_)
                    refine c_seq (fun K41 hK41 => ?_)
                    refine c_reg ?_ -- region 28 worth.go:58
                    refine wl (ro_move rfl) ?_
                    refine wl (ro_move rfl) ?_
                    refine wl_call rfl en_224 (judge224) ?_
                    rintro _ w26 ⟨rfl, F26⟩
                    replace hF := hF.thenDrew.thenN F26
                    replace h4 := F26.blkN h4
                    replace h5 := F26.blkN h5
                    replace h6 := F26.blkN h6
                    refine wl_puta rfl rfl ((by (try exact vlc_cells _); all_goals simp [Value.oneCell', i64c, icv, u64c, u8c, ptr, S])) sz_104 (rfl) h6 ((by simp)) (rfl) (fun w27 h6 F27 => ?_)
                    replace hF := hF.thenDrew.thenO F27 (by first | exact .inr (by omega) | exact .inl rfl | exact .inl (by assumption))
                    replace h4 := F27.blkO h4 (by omega)
                    replace h5 := F27.blkO h5 (by omega)
                    refine wl_nil (x_then (hK41 _ _ ?_))
                    clear hK41 K41
                    refine c_ret (x_thenR ?_)
                    refine bq_ret (res1 Tryz.results208 (rv_c rfl ag_104 (h6) rfl)) ?_
                    refine ⟨?_, hF⟩
                    have hcn : cntV x = false ∨ cntV y = false := by first | exact .inl (by assumption) | exact .inr (by assumption)
                    first
                      | (rw [binV_not (by omega) (by omega) hcn, if_pos (by omega)]; rfl)
                      | (have hwd : wdV x = false ∨ wdV y = false := by first | exact .inl (by assumption) | exact .inr (by assumption)
                         rw [binV_no (by omega) (by omega) hcn (by omega) hwd]
                         first
                           | (rw [if_pos (by omega)]; rfl)
                           | (rw [if_neg (by omega)]; rfl))
                      | (have hw1 : wdV x = true := by assumption
                         have hw2 : wdV y = true := by assumption
                         rw [binV_not (by omega) (by omega) hcn, if_neg (by omega), if_pos ⟨hw1, hw2⟩]
                         have hc70' := hc70
                         simp only [hc65, Bool.true_or, Bool.false_or, beq_iff_eq, beq_eq_false_iff_ne, Bool.true_eq_false, Bool.false_eq_true] at hc70'
                         all_goals first
                           | (rw [cmpS_lt hc65]; rfl)
                           | (rw [cmpS_gt hc65 hc70']; rfl)
                           | (rw [cmpS_eq hc65 hc70']; rfl))
                · try simp only [decide_eq_true_eq, decide_eq_false_iff_not, Bool.not_eq_true', Bool.not_eq_false', Bool.not_eq_eq_eq_not, Bool.not_true, Bool.not_false, beq_iff_eq, bne_iff_ne, ne_eq, beq_eq_false_iff_ne, bne_eq_false_iff_eq, gt_iff_lt, ge_iff_le, Int.not_lt, Int.not_le] at hc65
                  refine c_skip (x_then (hK36 _ _ ?_))
                  clear hK36 K36
                  refine c_seq (fun K42 hK42 => ?_)
                  refine c_seq (fun K43 hK43 => ?_)
                  refine c_reg ?_ -- region 26 worth.go:55
                  refine wl (ro_fieldAddr (k := 2) rfl fo_104_2) ?_
                  refine wl (ro_loadB rfl sc_9 (by assumption) rfl) ?_
                  refine wl (ro_fieldAddr (k := 2) rfl fo_104_2) ?_
                  refine wl (ro_loadB rfl sc_9 (by assumption) rfl) ?_
                  refine wl (ro_ltS rfl rfl rfl) ?_
                  refine wl_nil (x_then (hK43 _ _ ?_))
                  clear hK43 K43
                  refine wc_cond rfl (fun hc70 => ?_) (fun hc70 => ?_)
                  · try simp only [decide_eq_true_eq, decide_eq_false_iff_not, Bool.not_eq_true', Bool.not_eq_false', Bool.not_eq_eq_eq_not, Bool.not_true, Bool.not_false, beq_iff_eq, bne_iff_ne, ne_eq, beq_eq_false_iff_ne, bne_eq_false_iff_eq, gt_iff_lt, ge_iff_le, Int.not_lt, Int.not_le] at hc70
                    refine c_reg ?_ -- region 27 worth.go:56
                    refine wl (ro_assign rfl) ?_
                    refine wl_nil (x_then (hK42 _ _ ?_))
                    clear hK42 K42
                    refine forget [(0, _), (6, _), (14, _)] ⟨rfl, rfl, rfl, trivial⟩ (fun e => ?_)
                    refine c_seq (fun K44 hK44 => ?_)
                    refine c_reg ?_ -- region 28 worth.go:58
                    refine wl (ro_move rfl) ?_
                    refine wl (ro_move rfl) ?_
                    refine wl_call rfl en_224 (judge224) ?_
                    rintro _ w28 ⟨rfl, F28⟩
                    replace hF := hF.thenDrew.thenN F28
                    replace h4 := F28.blkN h4
                    replace h5 := F28.blkN h5
                    replace h6 := F28.blkN h6
                    refine wl_puta rfl rfl ((by (try exact vlc_cells _); all_goals simp [Value.oneCell', i64c, icv, u64c, u8c, ptr, S])) sz_104 (rfl) h6 ((by simp)) (rfl) (fun w29 h6 F29 => ?_)
                    replace hF := hF.thenDrew.thenO F29 (by first | exact .inr (by omega) | exact .inl rfl | exact .inl (by assumption))
                    replace h4 := F29.blkO h4 (by omega)
                    replace h5 := F29.blkO h5 (by omega)
                    refine wl_nil (x_then (hK44 _ _ ?_))
                    clear hK44 K44
                    refine c_ret (x_thenR ?_)
                    refine bq_ret (res1 Tryz.results208 (rv_c rfl ag_104 (h6) rfl)) ?_
                    refine ⟨?_, hF⟩
                    have hcn : cntV x = false ∨ cntV y = false := by first | exact .inl (by assumption) | exact .inr (by assumption)
                    first
                      | (rw [binV_not (by omega) (by omega) hcn, if_pos (by omega)]; rfl)
                      | (have hwd : wdV x = false ∨ wdV y = false := by first | exact .inl (by assumption) | exact .inr (by assumption)
                         rw [binV_no (by omega) (by omega) hcn (by omega) hwd]
                         first
                           | (rw [if_pos (by omega)]; rfl)
                           | (rw [if_neg (by omega)]; rfl))
                      | (have hw1 : wdV x = true := by assumption
                         have hw2 : wdV y = true := by assumption
                         rw [binV_not (by omega) (by omega) hcn, if_neg (by omega), if_pos ⟨hw1, hw2⟩]
                         have hc70' := hc70
                         simp only [hc65, Bool.true_or, Bool.false_or, beq_iff_eq, beq_eq_false_iff_ne, Bool.true_eq_false, Bool.false_eq_true] at hc70'
                         all_goals first
                           | (rw [cmpS_lt hc65]; rfl)
                           | (rw [cmpS_gt hc65 hc70']; rfl)
                           | (rw [cmpS_eq hc65 hc70']; rfl))
                  · try simp only [decide_eq_true_eq, decide_eq_false_iff_not, Bool.not_eq_true', Bool.not_eq_false', Bool.not_eq_eq_eq_not, Bool.not_true, Bool.not_false, beq_iff_eq, bne_iff_ne, ne_eq, beq_eq_false_iff_ne, bne_eq_false_iff_eq, gt_iff_lt, ge_iff_le, Int.not_lt, Int.not_le] at hc70
                    refine c_skip (x_then (hK42 _ _ ?_))
                    clear hK42 K42
                    refine forget [(0, _), (6, _), (14, _)] ⟨rfl, rfl, rfl, trivial⟩ (fun e => ?_)
                    refine c_seq (fun K45 hK45 => ?_)
                    refine c_reg ?_ -- region 28 worth.go:58
                    refine wl (ro_move rfl) ?_
                    refine wl (ro_move rfl) ?_
                    refine wl_call rfl en_224 (judge224) ?_
                    rintro _ w30 ⟨rfl, F30⟩
                    replace hF := hF.thenDrew.thenN F30
                    replace h4 := F30.blkN h4
                    replace h5 := F30.blkN h5
                    replace h6 := F30.blkN h6
                    refine wl_puta rfl rfl ((by (try exact vlc_cells _); all_goals simp [Value.oneCell', i64c, icv, u64c, u8c, ptr, S])) sz_104 (rfl) h6 ((by simp)) (rfl) (fun w31 h6 F31 => ?_)
                    replace hF := hF.thenDrew.thenO F31 (by first | exact .inr (by omega) | exact .inl rfl | exact .inl (by assumption))
                    replace h4 := F31.blkO h4 (by omega)
                    replace h5 := F31.blkO h5 (by omega)
                    refine wl_nil (x_then (hK45 _ _ ?_))
                    clear hK45 K45
                    refine c_ret (x_thenR ?_)
                    refine bq_ret (res1 Tryz.results208 (rv_c rfl ag_104 (h6) rfl)) ?_
                    refine ⟨?_, hF⟩
                    have hcn : cntV x = false ∨ cntV y = false := by first | exact .inl (by assumption) | exact .inr (by assumption)
                    first
                      | (rw [binV_not (by omega) (by omega) hcn, if_pos (by omega)]; rfl)
                      | (have hwd : wdV x = false ∨ wdV y = false := by first | exact .inl (by assumption) | exact .inr (by assumption)
                         rw [binV_no (by omega) (by omega) hcn (by omega) hwd]
                         first
                           | (rw [if_pos (by omega)]; rfl)
                           | (rw [if_neg (by omega)]; rfl))
                      | (have hw1 : wdV x = true := by assumption
                         have hw2 : wdV y = true := by assumption
                         rw [binV_not (by omega) (by omega) hcn, if_neg (by omega), if_pos ⟨hw1, hw2⟩]
                         have hc70' := hc70
                         simp only [hc65, Bool.true_or, Bool.false_or, beq_iff_eq, beq_eq_false_iff_ne, Bool.true_eq_false, Bool.false_eq_true] at hc70'
                         all_goals first
                           | (rw [cmpS_lt hc65]; rfl)
                           | (rw [cmpS_gt hc65 hc70']; rfl)
                           | (rw [cmpS_eq hc65 hc70']; rfl))
              · try simp only [decide_eq_true_eq, decide_eq_false_iff_not, Bool.not_eq_true', Bool.not_eq_false', Bool.not_eq_eq_eq_not, Bool.not_true, Bool.not_false, beq_iff_eq, bne_iff_ne, ne_eq, beq_eq_false_iff_ne, bne_eq_false_iff_eq, gt_iff_lt, ge_iff_le, Int.not_lt, Int.not_le] at hc60
                refine c_skip (x_then (hK33 _ _ ?_))
                clear hK33 K33
                refine c_seq (fun K46 hK46 => ?_)
                refine c_seq (fun K47 hK47 => ?_)
                refine c_reg ?_ -- region 29 worth.go:60
                refine wl (ro_fieldAddr (k := 0) rfl fo_104_0) ?_
                refine wl (ro_loadB rfl sc_3 (by assumption) rfl) ?_
                refine wl (ro_cmp rfl rfl rfl) ?_
                refine wl_fork rfl (fun hg77 => ?_) (fun hg77 => ?_)
                · try simp only [decide_eq_true_eq, decide_eq_false_iff_not, Bool.not_eq_true', Bool.not_eq_false', Bool.not_eq_eq_eq_not, Bool.not_true, Bool.not_false, beq_iff_eq, bne_iff_ne, ne_eq, beq_eq_false_iff_ne, bne_eq_false_iff_eq, gt_iff_lt, ge_iff_le, Int.not_lt, Int.not_le] at hg77
                  refine wlg_yes rfl (ro_fieldAddr (k := 0) rfl fo_104_0) ?_
                  refine wlg_yes rfl (ro_loadB rfl sc_3 (by assumption) rfl) ?_
                  refine wlg_yes rfl (ro_cmp rfl rfl rfl) ?_
                  refine wl (ro_pick rfl rfl rfl) ?_
                  refine wl_nil (x_then (hK47 _ _ ?_))
                  clear hK47 K47
                  refine wc_cond rfl (fun hc81 => ?_) (fun hc81 => ?_)
                  · try simp only [decide_eq_true_eq, decide_eq_false_iff_not, Bool.not_eq_true', Bool.not_eq_false', Bool.not_eq_eq_eq_not, Bool.not_true, Bool.not_false, beq_iff_eq, bne_iff_ne, ne_eq, beq_eq_false_iff_ne, bne_eq_false_iff_eq, gt_iff_lt, ge_iff_le, Int.not_lt, Int.not_le] at hc81
                    refine c_seq (fun K48 hK48 => ?_)
                    refine c_reg ?_ -- region 30 worth.go:61
                    refine wl (ro_move rfl) ?_
                    refine wl (ro_fieldAddr (k := 1) rfl fo_104_1) ?_
                    refine wl (ro_loadB rfl sc_3 (by assumption) rfl) ?_
                    refine wl (ro_fieldAddr (k := 1) rfl fo_104_1) ?_
                    refine wl (ro_loadB rfl sc_3 (by assumption) rfl) ?_
                    refine wl (ro_arith rfl rfl rfl (Go.IntWalk.i64_in _ (by omega))) ?_
                    refine wl_call rfl en_224 (judge224) ?_
                    rintro _ w32 ⟨rfl, F32⟩
                    replace hF := hF.thenDrew.thenN F32
                    replace h4 := F32.blkN h4
                    replace h5 := F32.blkN h5
                    replace h6 := F32.blkN h6
                    refine wl_puta rfl rfl ((by (try exact vlc_cells _); all_goals simp [Value.oneCell', i64c, icv, u64c, u8c, ptr, S])) sz_104 (rfl) h6 ((by simp)) (rfl) (fun w33 h6 F33 => ?_)
                    replace hF := hF.thenDrew.thenO F33 (by first | exact .inr (by omega) | exact .inl rfl | exact .inl (by assumption))
                    replace h4 := F33.blkO h4 (by omega)
                    replace h5 := F33.blkO h5 (by omega)
                    refine wl_nil (x_then (hK48 _ _ ?_))
                    clear hK48 K48
                    refine c_ret (x_thenR ?_)
                    refine bq_ret (res1 Tryz.results208 (rv_c rfl ag_104 (h6) rfl)) ?_
                    refine ⟨?_, hF⟩
                    have hcn : cntV x = false ∨ cntV y = false := by first | exact .inl (by assumption) | exact .inr (by assumption)
                    first
                      | (rw [binV_not (by omega) (by omega) hcn, if_pos (by omega)]; rfl)
                      | (have hwd : wdV x = false ∨ wdV y = false := by first | exact .inl (by assumption) | exact .inr (by assumption)
                         rw [binV_no (by omega) (by omega) hcn (by omega) hwd]
                         first
                           | (rw [if_pos (by omega)]; rfl)
                           | (rw [if_neg (by omega)]; rfl))
                      | (have hw1 : wdV x = true := by assumption
                         have hw2 : wdV y = true := by assumption
                         rw [binV_not (by omega) (by omega) hcn, if_neg (by omega), if_pos ⟨hw1, hw2⟩]
                         have hc70' := hc70
                         simp only [hc65, Bool.true_or, Bool.false_or, beq_iff_eq, beq_eq_false_iff_ne, Bool.true_eq_false, Bool.false_eq_true] at hc70'
                         all_goals first
                           | (rw [cmpS_lt hc65]; rfl)
                           | (rw [cmpS_gt hc65 hc70']; rfl)
                           | (rw [cmpS_eq hc65 hc70']; rfl))
                  · try simp only [decide_eq_true_eq, decide_eq_false_iff_not, Bool.not_eq_true', Bool.not_eq_false', Bool.not_eq_eq_eq_not, Bool.not_true, Bool.not_false, beq_iff_eq, bne_iff_ne, ne_eq, beq_eq_false_iff_ne, bne_eq_false_iff_eq, gt_iff_lt, ge_iff_le, Int.not_lt, Int.not_le] at hc81
                    refine c_skip (x_then (hK46 _ _ ?_))
                    clear hK46 K46
                    refine forget [(6, _)] ⟨rfl, trivial⟩ (fun e => ?_)
                    refine c_seq (fun K49 hK49 => ?_)
                    refine c_reg ?_ -- region 31 worth.go:63
                    refine wl_call rfl en_116 (Err116) ?_
                    rintro _ w34 ⟨rfl, F34⟩
                    replace hF := hF.thenDrew.thenN F34
                    replace h4 := F34.blkN h4
                    replace h5 := F34.blkN h5
                    replace h6 := F34.blkN h6
                    refine wl_puta rfl rfl ((by (try exact vlc_cells _); all_goals simp [Value.oneCell', i64c, icv, u64c, u8c, ptr, S])) sz_104 (rfl) h6 ((by simp)) (rfl) (fun w35 h6 F35 => ?_)
                    replace hF := hF.thenDrew.thenO F35 (by first | exact .inr (by omega) | exact .inl rfl | exact .inl (by assumption))
                    replace h4 := F35.blkO h4 (by omega)
                    replace h5 := F35.blkO h5 (by omega)
                    refine wl_nil (x_then (hK49 _ _ ?_))
                    clear hK49 K49
                    refine c_ret ?_
                    refine bq_ret (res1 Tryz.results208 (rv_c rfl ag_104 (h6) rfl)) ?_
                    refine ⟨?_, hF⟩
                    have hcn : cntV x = false ∨ cntV y = false := by first | exact .inl (by assumption) | exact .inr (by assumption)
                    first
                      | (rw [binV_not (by omega) (by omega) hcn, if_pos (by omega)]; rfl)
                      | (have hwd : wdV x = false ∨ wdV y = false := by first | exact .inl (by assumption) | exact .inr (by assumption)
                         rw [binV_no (by omega) (by omega) hcn (by omega) hwd]
                         first
                           | (rw [if_pos (by omega)]; rfl)
                           | (rw [if_neg (by omega)]; rfl))
                      | (have hw1 : wdV x = true := by assumption
                         have hw2 : wdV y = true := by assumption
                         rw [binV_not (by omega) (by omega) hcn, if_neg (by omega), if_pos ⟨hw1, hw2⟩]
                         have hc70' := hc70
                         simp only [hc65, Bool.true_or, Bool.false_or, beq_iff_eq, beq_eq_false_iff_ne, Bool.true_eq_false, Bool.false_eq_true] at hc70'
                         all_goals first
                           | (rw [cmpS_lt hc65]; rfl)
                           | (rw [cmpS_gt hc65 hc70']; rfl)
                           | (rw [cmpS_eq hc65 hc70']; rfl))
                · try simp only [decide_eq_true_eq, decide_eq_false_iff_not, Bool.not_eq_true', Bool.not_eq_false', Bool.not_eq_eq_eq_not, Bool.not_true, Bool.not_false, beq_iff_eq, bne_iff_ne, ne_eq, beq_eq_false_iff_ne, bne_eq_false_iff_eq, gt_iff_lt, ge_iff_le, Int.not_lt, Int.not_le] at hg77
                  refine wlg_no rfl ?_
                  refine wlg_no rfl ?_
                  refine wlg_no rfl ?_
                  refine wl (ro_pick rfl rfl rfl) ?_
                  refine wl_nil (x_then (hK47 _ _ ?_))
                  clear hK47 K47
                  refine wc_condF rfl ?_
                  refine c_skip (x_then (hK46 _ _ ?_))
                  clear hK46 K46
                  refine forget [(6, _)] ⟨rfl, trivial⟩ (fun e => ?_)
                  refine c_seq (fun K50 hK50 => ?_)
                  refine c_reg ?_ -- region 31 worth.go:63
                  refine wl_call rfl en_116 (Err116) ?_
                  rintro _ w36 ⟨rfl, F36⟩
                  replace hF := hF.thenDrew.thenN F36
                  replace h4 := F36.blkN h4
                  replace h5 := F36.blkN h5
                  replace h6 := F36.blkN h6
                  refine wl_puta rfl rfl ((by (try exact vlc_cells _); all_goals simp [Value.oneCell', i64c, icv, u64c, u8c, ptr, S])) sz_104 (rfl) h6 ((by simp)) (rfl) (fun w37 h6 F37 => ?_)
                  replace hF := hF.thenDrew.thenO F37 (by first | exact .inr (by omega) | exact .inl rfl | exact .inl (by assumption))
                  replace h4 := F37.blkO h4 (by omega)
                  replace h5 := F37.blkO h5 (by omega)
                  refine wl_nil (x_then (hK50 _ _ ?_))
                  clear hK50 K50
                  refine c_ret ?_
                  refine bq_ret (res1 Tryz.results208 (rv_c rfl ag_104 (h6) rfl)) ?_
                  refine ⟨?_, hF⟩
                  have hcn : cntV x = false ∨ cntV y = false := by first | exact .inl (by assumption) | exact .inr (by assumption)
                  first
                    | (rw [binV_not (by omega) (by omega) hcn, if_pos (by omega)]; rfl)
                    | (have hwd : wdV x = false ∨ wdV y = false := by first | exact .inl (by assumption) | exact .inr (by assumption)
                       rw [binV_no (by omega) (by omega) hcn (by omega) hwd]
                       first
                         | (rw [if_pos (by omega)]; rfl)
                         | (rw [if_neg (by omega)]; rfl))
                    | (have hw1 : wdV x = true := by assumption
                       have hw2 : wdV y = true := by assumption
                       rw [binV_not (by omega) (by omega) hcn, if_neg (by omega), if_pos ⟨hw1, hw2⟩]
                       have hc70' := hc70
                       simp only [hc65, Bool.true_or, Bool.false_or, beq_iff_eq, beq_eq_false_iff_ne, Bool.true_eq_false, Bool.false_eq_true] at hc70'
                       all_goals first
                         | (rw [cmpS_lt hc65]; rfl)
                         | (rw [cmpS_gt hc65 hc70']; rfl)
                         | (rw [cmpS_eq hc65 hc70']; rfl))
            · try simp only [decide_eq_true_eq, decide_eq_false_iff_not, Bool.not_eq_true', Bool.not_eq_false', Bool.not_eq_eq_eq_not, Bool.not_true, Bool.not_false, beq_iff_eq, bne_iff_ne, ne_eq, beq_eq_false_iff_ne, bne_eq_false_iff_eq, gt_iff_lt, ge_iff_le, Int.not_lt, Int.not_le] at hg58
              refine wlg_no rfl ?_
              refine wl (ro_pick rfl rfl rfl) ?_
              refine wl_nil (x_then (hK34 _ _ ?_))
              clear hK34 K34
              refine wc_condF rfl ?_
              refine c_skip (x_then (hK33 _ _ ?_))
              clear hK33 K33
              refine c_seq (fun K51 hK51 => ?_)
              refine c_seq (fun K52 hK52 => ?_)
              refine c_reg ?_ -- region 29 worth.go:60
              refine wl (ro_fieldAddr (k := 0) rfl fo_104_0) ?_
              refine wl (ro_loadB rfl sc_3 (by assumption) rfl) ?_
              refine wl (ro_cmp rfl rfl rfl) ?_
              refine wl_fork rfl (fun hg77 => ?_) (fun hg77 => ?_)
              · try simp only [decide_eq_true_eq, decide_eq_false_iff_not, Bool.not_eq_true', Bool.not_eq_false', Bool.not_eq_eq_eq_not, Bool.not_true, Bool.not_false, beq_iff_eq, bne_iff_ne, ne_eq, beq_eq_false_iff_ne, bne_eq_false_iff_eq, gt_iff_lt, ge_iff_le, Int.not_lt, Int.not_le] at hg77
                refine wlg_yes rfl (ro_fieldAddr (k := 0) rfl fo_104_0) ?_
                refine wlg_yes rfl (ro_loadB rfl sc_3 (by assumption) rfl) ?_
                refine wlg_yes rfl (ro_cmp rfl rfl rfl) ?_
                refine wl (ro_pick rfl rfl rfl) ?_
                refine wl_nil (x_then (hK52 _ _ ?_))
                clear hK52 K52
                refine wc_cond rfl (fun hc81 => ?_) (fun hc81 => ?_)
                · try simp only [decide_eq_true_eq, decide_eq_false_iff_not, Bool.not_eq_true', Bool.not_eq_false', Bool.not_eq_eq_eq_not, Bool.not_true, Bool.not_false, beq_iff_eq, bne_iff_ne, ne_eq, beq_eq_false_iff_ne, bne_eq_false_iff_eq, gt_iff_lt, ge_iff_le, Int.not_lt, Int.not_le] at hc81
                  refine c_seq (fun K53 hK53 => ?_)
                  refine c_reg ?_ -- region 30 worth.go:61
                  refine wl (ro_move rfl) ?_
                  refine wl (ro_fieldAddr (k := 1) rfl fo_104_1) ?_
                  refine wl (ro_loadB rfl sc_3 (by assumption) rfl) ?_
                  refine wl (ro_fieldAddr (k := 1) rfl fo_104_1) ?_
                  refine wl (ro_loadB rfl sc_3 (by assumption) rfl) ?_
                  refine wl (ro_arith rfl rfl rfl (Go.IntWalk.i64_in _ (by omega))) ?_
                  refine wl_call rfl en_224 (judge224) ?_
                  rintro _ w38 ⟨rfl, F38⟩
                  replace hF := hF.thenDrew.thenN F38
                  replace h4 := F38.blkN h4
                  replace h5 := F38.blkN h5
                  replace h6 := F38.blkN h6
                  refine wl_puta rfl rfl ((by (try exact vlc_cells _); all_goals simp [Value.oneCell', i64c, icv, u64c, u8c, ptr, S])) sz_104 (rfl) h6 ((by simp)) (rfl) (fun w39 h6 F39 => ?_)
                  replace hF := hF.thenDrew.thenO F39 (by first | exact .inr (by omega) | exact .inl rfl | exact .inl (by assumption))
                  replace h4 := F39.blkO h4 (by omega)
                  replace h5 := F39.blkO h5 (by omega)
                  refine wl_nil (x_then (hK53 _ _ ?_))
                  clear hK53 K53
                  refine c_ret (x_thenR ?_)
                  refine bq_ret (res1 Tryz.results208 (rv_c rfl ag_104 (h6) rfl)) ?_
                  refine ⟨?_, hF⟩
                  have hcn : cntV x = false ∨ cntV y = false := by first | exact .inl (by assumption) | exact .inr (by assumption)
                  first
                    | (rw [binV_not (by omega) (by omega) hcn, if_pos (by omega)]; rfl)
                    | (have hwd : wdV x = false ∨ wdV y = false := by first | exact .inl (by assumption) | exact .inr (by assumption)
                       rw [binV_no (by omega) (by omega) hcn (by omega) hwd]
                       first
                         | (rw [if_pos (by omega)]; rfl)
                         | (rw [if_neg (by omega)]; rfl))
                    | (have hw1 : wdV x = true := by assumption
                       have hw2 : wdV y = true := by assumption
                       rw [binV_not (by omega) (by omega) hcn, if_neg (by omega), if_pos ⟨hw1, hw2⟩]
                       have hc70' := hc70
                       simp only [hc65, Bool.true_or, Bool.false_or, beq_iff_eq, beq_eq_false_iff_ne, Bool.true_eq_false, Bool.false_eq_true] at hc70'
                       all_goals first
                         | (rw [cmpS_lt hc65]; rfl)
                         | (rw [cmpS_gt hc65 hc70']; rfl)
                         | (rw [cmpS_eq hc65 hc70']; rfl))
                · try simp only [decide_eq_true_eq, decide_eq_false_iff_not, Bool.not_eq_true', Bool.not_eq_false', Bool.not_eq_eq_eq_not, Bool.not_true, Bool.not_false, beq_iff_eq, bne_iff_ne, ne_eq, beq_eq_false_iff_ne, bne_eq_false_iff_eq, gt_iff_lt, ge_iff_le, Int.not_lt, Int.not_le] at hc81
                  refine c_skip (x_then (hK51 _ _ ?_))
                  clear hK51 K51
                  refine forget [(6, _)] ⟨rfl, trivial⟩ (fun e => ?_)
                  refine c_seq (fun K54 hK54 => ?_)
                  refine c_reg ?_ -- region 31 worth.go:63
                  refine wl_call rfl en_116 (Err116) ?_
                  rintro _ w40 ⟨rfl, F40⟩
                  replace hF := hF.thenDrew.thenN F40
                  replace h4 := F40.blkN h4
                  replace h5 := F40.blkN h5
                  replace h6 := F40.blkN h6
                  refine wl_puta rfl rfl ((by (try exact vlc_cells _); all_goals simp [Value.oneCell', i64c, icv, u64c, u8c, ptr, S])) sz_104 (rfl) h6 ((by simp)) (rfl) (fun w41 h6 F41 => ?_)
                  replace hF := hF.thenDrew.thenO F41 (by first | exact .inr (by omega) | exact .inl rfl | exact .inl (by assumption))
                  replace h4 := F41.blkO h4 (by omega)
                  replace h5 := F41.blkO h5 (by omega)
                  refine wl_nil (x_then (hK54 _ _ ?_))
                  clear hK54 K54
                  refine c_ret ?_
                  refine bq_ret (res1 Tryz.results208 (rv_c rfl ag_104 (h6) rfl)) ?_
                  refine ⟨?_, hF⟩
                  have hcn : cntV x = false ∨ cntV y = false := by first | exact .inl (by assumption) | exact .inr (by assumption)
                  first
                    | (rw [binV_not (by omega) (by omega) hcn, if_pos (by omega)]; rfl)
                    | (have hwd : wdV x = false ∨ wdV y = false := by first | exact .inl (by assumption) | exact .inr (by assumption)
                       rw [binV_no (by omega) (by omega) hcn (by omega) hwd]
                       first
                         | (rw [if_pos (by omega)]; rfl)
                         | (rw [if_neg (by omega)]; rfl))
                    | (have hw1 : wdV x = true := by assumption
                       have hw2 : wdV y = true := by assumption
                       rw [binV_not (by omega) (by omega) hcn, if_neg (by omega), if_pos ⟨hw1, hw2⟩]
                       have hc70' := hc70
                       simp only [hc65, Bool.true_or, Bool.false_or, beq_iff_eq, beq_eq_false_iff_ne, Bool.true_eq_false, Bool.false_eq_true] at hc70'
                       all_goals first
                         | (rw [cmpS_lt hc65]; rfl)
                         | (rw [cmpS_gt hc65 hc70']; rfl)
                         | (rw [cmpS_eq hc65 hc70']; rfl))
              · try simp only [decide_eq_true_eq, decide_eq_false_iff_not, Bool.not_eq_true', Bool.not_eq_false', Bool.not_eq_eq_eq_not, Bool.not_true, Bool.not_false, beq_iff_eq, bne_iff_ne, ne_eq, beq_eq_false_iff_ne, bne_eq_false_iff_eq, gt_iff_lt, ge_iff_le, Int.not_lt, Int.not_le] at hg77
                refine wlg_no rfl ?_
                refine wlg_no rfl ?_
                refine wlg_no rfl ?_
                refine wl (ro_pick rfl rfl rfl) ?_
                refine wl_nil (x_then (hK52 _ _ ?_))
                clear hK52 K52
                refine wc_condF rfl ?_
                refine c_skip (x_then (hK51 _ _ ?_))
                clear hK51 K51
                refine forget [(6, _)] ⟨rfl, trivial⟩ (fun e => ?_)
                refine c_seq (fun K55 hK55 => ?_)
                refine c_reg ?_ -- region 31 worth.go:63
                refine wl_call rfl en_116 (Err116) ?_
                rintro _ w42 ⟨rfl, F42⟩
                replace hF := hF.thenDrew.thenN F42
                replace h4 := F42.blkN h4
                replace h5 := F42.blkN h5
                replace h6 := F42.blkN h6
                refine wl_puta rfl rfl ((by (try exact vlc_cells _); all_goals simp [Value.oneCell', i64c, icv, u64c, u8c, ptr, S])) sz_104 (rfl) h6 ((by simp)) (rfl) (fun w43 h6 F43 => ?_)
                replace hF := hF.thenDrew.thenO F43 (by first | exact .inr (by omega) | exact .inl rfl | exact .inl (by assumption))
                replace h4 := F43.blkO h4 (by omega)
                replace h5 := F43.blkO h5 (by omega)
                refine wl_nil (x_then (hK55 _ _ ?_))
                clear hK55 K55
                refine c_ret ?_
                refine bq_ret (res1 Tryz.results208 (rv_c rfl ag_104 (h6) rfl)) ?_
                refine ⟨?_, hF⟩
                have hcn : cntV x = false ∨ cntV y = false := by first | exact .inl (by assumption) | exact .inr (by assumption)
                first
                  | (rw [binV_not (by omega) (by omega) hcn, if_pos (by omega)]; rfl)
                  | (have hwd : wdV x = false ∨ wdV y = false := by first | exact .inl (by assumption) | exact .inr (by assumption)
                     rw [binV_no (by omega) (by omega) hcn (by omega) hwd]
                     first
                       | (rw [if_pos (by omega)]; rfl)
                       | (rw [if_neg (by omega)]; rfl))
                  | (have hw1 : wdV x = true := by assumption
                     have hw2 : wdV y = true := by assumption
                     rw [binV_not (by omega) (by omega) hcn, if_neg (by omega), if_pos ⟨hw1, hw2⟩]
                     have hc70' := hc70
                     simp only [hc65, Bool.true_or, Bool.false_or, beq_iff_eq, beq_eq_false_iff_ne, Bool.true_eq_false, Bool.false_eq_true] at hc70'
                     all_goals first
                       | (rw [cmpS_lt hc65]; rfl)
                       | (rw [cmpS_gt hc65 hc70']; rfl)
                       | (rw [cmpS_eq hc65 hc70']; rfl))
      · try simp only [decide_eq_true_eq, decide_eq_false_iff_not, Bool.not_eq_true', Bool.not_eq_false', Bool.not_eq_eq_eq_not, Bool.not_true, Bool.not_false, beq_iff_eq, bne_iff_ne, ne_eq, beq_eq_false_iff_ne, bne_eq_false_iff_eq, gt_iff_lt, ge_iff_le, Int.not_lt, Int.not_le] at hg28
        refine wlg_no rfl ?_
        refine wl (ro_pick rfl rfl rfl) ?_
        refine wl_nil (x_then (hK11 _ _ ?_))
        clear hK11 K11
        refine wc_condF rfl ?_
        refine c_skip (x_then (hK10 _ _ ?_))
        clear hK10 K10
        refine c_seq (fun K56 hK56 => ?_)
        refine c_seq (fun K57 hK57 => ?_)
        refine c_reg ?_ -- region 18 worth.go:45
        refine wl (ro_move rfl) ?_
        refine wl (ro_cmp rfl rfl rfl) ?_
        refine wl_nil (x_then (hK57 _ _ ?_))
        clear hK57 K57
        refine wc_cond rfl (fun hc51 => ?_) (fun hc51 => ?_)
        · try simp only [decide_eq_true_eq, decide_eq_false_iff_not, Bool.not_eq_true', Bool.not_eq_false', Bool.not_eq_eq_eq_not, Bool.not_true, Bool.not_false, beq_iff_eq, bne_iff_ne, ne_eq, beq_eq_false_iff_ne, bne_eq_false_iff_eq, gt_iff_lt, ge_iff_le, Int.not_lt, Int.not_le] at hc51
          refine c_seq (fun K58 hK58 => ?_)
          refine c_reg ?_ -- region 19 worth.go:46
          refine wl_call rfl en_116 (Err116) ?_
          rintro _ w44 ⟨rfl, F44⟩
          replace hF := hF.thenDrew.thenN F44
          replace h4 := F44.blkN h4
          replace h5 := F44.blkN h5
          replace h6 := F44.blkN h6
          refine wl_puta rfl rfl ((by (try exact vlc_cells _); all_goals simp [Value.oneCell', i64c, icv, u64c, u8c, ptr, S])) sz_104 (rfl) h6 ((by simp)) (rfl) (fun w45 h6 F45 => ?_)
          replace hF := hF.thenDrew.thenO F45 (by first | exact .inr (by omega) | exact .inl rfl | exact .inl (by assumption))
          replace h4 := F45.blkO h4 (by omega)
          replace h5 := F45.blkO h5 (by omega)
          refine wl_nil (x_then (hK58 _ _ ?_))
          clear hK58 K58
          refine c_ret (x_thenR ?_)
          refine bq_ret (res1 Tryz.results208 (rv_c rfl ag_104 (h6) rfl)) ?_
          refine ⟨?_, hF⟩
          have hcn : cntV x = false ∨ cntV y = false := by first | exact .inl (by assumption) | exact .inr (by assumption)
          first
            | (rw [binV_not (by omega) (by omega) hcn, if_pos (by omega)]; rfl)
            | (have hwd : wdV x = false ∨ wdV y = false := by first | exact .inl (by assumption) | exact .inr (by assumption)
               rw [binV_no (by omega) (by omega) hcn (by omega) hwd]
               first
                 | (rw [if_pos (by omega)]; rfl)
                 | (rw [if_neg (by omega)]; rfl))
            | (have hw1 : wdV x = true := by assumption
               have hw2 : wdV y = true := by assumption
               rw [binV_not (by omega) (by omega) hcn, if_neg (by omega), if_pos ⟨hw1, hw2⟩]
               have hc70' := hc70
               simp only [hc65, Bool.true_or, Bool.false_or, beq_iff_eq, beq_eq_false_iff_ne, Bool.true_eq_false, Bool.false_eq_true] at hc70'
               all_goals first
                 | (rw [cmpS_lt hc65]; rfl)
                 | (rw [cmpS_gt hc65 hc70']; rfl)
                 | (rw [cmpS_eq hc65 hc70']; rfl))
        · try simp only [decide_eq_true_eq, decide_eq_false_iff_not, Bool.not_eq_true', Bool.not_eq_false', Bool.not_eq_eq_eq_not, Bool.not_true, Bool.not_false, beq_iff_eq, bne_iff_ne, ne_eq, beq_eq_false_iff_ne, bne_eq_false_iff_eq, gt_iff_lt, ge_iff_le, Int.not_lt, Int.not_le] at hc51
          refine c_skip (x_then (hK56 _ _ ?_))
          clear hK56 K56
          refine forget [(0, _), (4, _), (5, _), (6, _)] ⟨rfl, rfl, rfl, rfl, trivial⟩ (fun e => ?_)
          refine c_seq (fun K59 hK59 => ?_)
          refine c_reg ?_ -- region 20 worth.go:48
          refine wl (ro_loadAggB rfl ag_104 (by assumption) rfl rfl) ?_
          refine wl_call rfl en_220 (wordy220) ?_
          rintro _ w46 ⟨rfl, F46⟩
          replace hF := hF.thenDrew.thenN F46
          replace h4 := F46.blkN h4
          replace h5 := F46.blkN h5
          replace h6 := F46.blkN h6
          refine wl (ro_assign rfl) ?_
          refine wl_nil (x_then (hK59 _ _ ?_))
          clear hK59 K59
          refine forget [(0, _), (4, _), (5, _), (6, _), (12, _)] ⟨rfl, rfl, rfl, rfl, rfl, trivial⟩ (fun e => ?_)
          refine c_seq (fun K60 hK60 => ?_)
          refine c_reg ?_ -- region 21 worth.go:49
          refine wl (ro_loadAggB rfl ag_104 (by assumption) rfl rfl) ?_
          refine wl_call rfl en_220 (wordy220) ?_
          rintro _ w47 ⟨rfl, F47⟩
          replace hF := hF.thenDrew.thenN F47
          replace h4 := F47.blkN h4
          replace h5 := F47.blkN h5
          replace h6 := F47.blkN h6
          refine wl (ro_assign rfl) ?_
          refine wl_nil (x_then (hK60 _ _ ?_))
          clear hK60 K60
          refine c_seq (fun K61 hK61 => ?_)
          refine c_seq (fun K62 hK62 => ?_)
          refine c_reg ?_ -- region 22 worth.go:50
          refine wl (ro_move rfl) ?_
          refine wl_fork rfl (fun hg58 => ?_) (fun hg58 => ?_)
          · try simp only [decide_eq_true_eq, decide_eq_false_iff_not, Bool.not_eq_true', Bool.not_eq_false', Bool.not_eq_eq_eq_not, Bool.not_true, Bool.not_false, beq_iff_eq, bne_iff_ne, ne_eq, beq_eq_false_iff_ne, bne_eq_false_iff_eq, gt_iff_lt, ge_iff_le, Int.not_lt, Int.not_le] at hg58
            refine wlg_yes rfl (ro_move rfl) ?_
            refine wl (ro_pick rfl rfl rfl) ?_
            refine wl_nil (x_then (hK62 _ _ ?_))
            clear hK62 K62
            refine wc_cond rfl (fun hc60 => ?_) (fun hc60 => ?_)
            · try simp only [decide_eq_true_eq, decide_eq_false_iff_not, Bool.not_eq_true', Bool.not_eq_false', Bool.not_eq_eq_eq_not, Bool.not_true, Bool.not_false, beq_iff_eq, bne_iff_ne, ne_eq, beq_eq_false_iff_ne, bne_eq_false_iff_eq, gt_iff_lt, ge_iff_le, Int.not_lt, Int.not_le] at hc60
              refine c_seq (fun K63 hK63 => ?_)
              refine c_reg ?_ -- region 23 worth.go:51
              refine wl (ro_assign rfl) ?_
              refine wl_nil (x_then (hK63 _ _ ?_))
              clear hK63 K63
              refine c_seq (fun K64 hK64 => ?_)
              refine c_seq (fun K65 hK65 => ?_)
              refine c_reg ?_ -- region 24 worth.go:52
              refine wl (ro_fieldAddr (k := 2) rfl fo_104_2) ?_
              refine wl (ro_loadB rfl sc_9 (by assumption) rfl) ?_
              refine wl (ro_fieldAddr (k := 2) rfl fo_104_2) ?_
              refine wl (ro_loadB rfl sc_9 (by assumption) rfl) ?_
              refine wl (ro_ltS rfl rfl rfl) ?_
              refine wl_nil (x_then (hK65 _ _ ?_))
              clear hK65 K65
              refine wc_cond rfl (fun hc65 => ?_) (fun hc65 => ?_)
              · try simp only [decide_eq_true_eq, decide_eq_false_iff_not, Bool.not_eq_true', Bool.not_eq_false', Bool.not_eq_eq_eq_not, Bool.not_true, Bool.not_false, beq_iff_eq, bne_iff_ne, ne_eq, beq_eq_false_iff_ne, bne_eq_false_iff_eq, gt_iff_lt, ge_iff_le, Int.not_lt, Int.not_le] at hc65
                refine c_reg ?_ -- region 25 worth.go:53
                refine wl (ro_assign rfl) ?_
                refine wl_nil (x_then (hK64 _ _ ?_))
                clear hK64 K64
                refine c_seq (fun K66 hK66 => ?_)
                refine c_seq (fun K67 hK67 => ?_)
                refine c_reg ?_ -- region 26 worth.go:55
                refine wl (ro_fieldAddr (k := 2) rfl fo_104_2) ?_
                refine wl (ro_loadB rfl sc_9 (by assumption) rfl) ?_
                refine wl (ro_fieldAddr (k := 2) rfl fo_104_2) ?_
                refine wl (ro_loadB rfl sc_9 (by assumption) rfl) ?_
                refine wl (ro_ltS rfl rfl rfl) ?_
                refine wl_nil (x_then (hK67 _ _ ?_))
                clear hK67 K67
                refine wc_cond rfl (fun hc70 => ?_) (fun hc70 => ?_)
                · try simp only [decide_eq_true_eq, decide_eq_false_iff_not, Bool.not_eq_true', Bool.not_eq_false', Bool.not_eq_eq_eq_not, Bool.not_true, Bool.not_false, beq_iff_eq, bne_iff_ne, ne_eq, beq_eq_false_iff_ne, bne_eq_false_iff_eq, gt_iff_lt, ge_iff_le, Int.not_lt, Int.not_le] at hc70
                  refine c_reg ?_ -- region 27 worth.go:56
                  refine wl (ro_assign rfl) ?_
                  refine wl_nil (x_then (hK66 _ _ ?_))
                  clear hK66 K66
                  refine forget [(0, _), (6, _), (14, _)] ⟨rfl, rfl, rfl, trivial⟩ (fun e => ?_)
                  refine c_seq (fun K68 hK68 => ?_)
                  refine c_reg ?_ -- region 28 worth.go:58
                  refine wl (ro_move rfl) ?_
                  refine wl (ro_move rfl) ?_
                  refine wl_call rfl en_224 (judge224) ?_
                  rintro _ w48 ⟨rfl, F48⟩
                  replace hF := hF.thenDrew.thenN F48
                  replace h4 := F48.blkN h4
                  replace h5 := F48.blkN h5
                  replace h6 := F48.blkN h6
                  refine wl_puta rfl rfl ((by (try exact vlc_cells _); all_goals simp [Value.oneCell', i64c, icv, u64c, u8c, ptr, S])) sz_104 (rfl) h6 ((by simp)) (rfl) (fun w49 h6 F49 => ?_)
                  replace hF := hF.thenDrew.thenO F49 (by first | exact .inr (by omega) | exact .inl rfl | exact .inl (by assumption))
                  replace h4 := F49.blkO h4 (by omega)
                  replace h5 := F49.blkO h5 (by omega)
                  refine wl_nil (x_then (hK68 _ _ ?_))
                  clear hK68 K68
                  refine c_ret (x_thenR ?_)
                  refine bq_ret (res1 Tryz.results208 (rv_c rfl ag_104 (h6) rfl)) ?_
                  refine ⟨?_, hF⟩
                  have hcn : cntV x = false ∨ cntV y = false := by first | exact .inl (by assumption) | exact .inr (by assumption)
                  first
                    | (rw [binV_not (by omega) (by omega) hcn, if_pos (by omega)]; rfl)
                    | (have hwd : wdV x = false ∨ wdV y = false := by first | exact .inl (by assumption) | exact .inr (by assumption)
                       rw [binV_no (by omega) (by omega) hcn (by omega) hwd]
                       first
                         | (rw [if_pos (by omega)]; rfl)
                         | (rw [if_neg (by omega)]; rfl))
                    | (have hw1 : wdV x = true := by assumption
                       have hw2 : wdV y = true := by assumption
                       rw [binV_not (by omega) (by omega) hcn, if_neg (by omega), if_pos ⟨hw1, hw2⟩]
                       have hc70' := hc70
                       simp only [hc65, Bool.true_or, Bool.false_or, beq_iff_eq, beq_eq_false_iff_ne, Bool.true_eq_false, Bool.false_eq_true] at hc70'
                       all_goals first
                         | (rw [cmpS_lt hc65]; rfl)
                         | (rw [cmpS_gt hc65 hc70']; rfl)
                         | (rw [cmpS_eq hc65 hc70']; rfl))
                · try simp only [decide_eq_true_eq, decide_eq_false_iff_not, Bool.not_eq_true', Bool.not_eq_false', Bool.not_eq_eq_eq_not, Bool.not_true, Bool.not_false, beq_iff_eq, bne_iff_ne, ne_eq, beq_eq_false_iff_ne, bne_eq_false_iff_eq, gt_iff_lt, ge_iff_le, Int.not_lt, Int.not_le] at hc70
                  refine c_skip (x_then (hK66 _ _ ?_))
                  clear hK66 K66
                  refine forget [(0, _), (6, _), (14, _)] ⟨rfl, rfl, rfl, trivial⟩ (fun e => ?_)
                  refine c_seq (fun K69 hK69 => ?_)
                  refine c_reg ?_ -- region 28 worth.go:58
                  refine wl (ro_move rfl) ?_
                  refine wl (ro_move rfl) ?_
                  refine wl_call rfl en_224 (judge224) ?_
                  rintro _ w50 ⟨rfl, F50⟩
                  replace hF := hF.thenDrew.thenN F50
                  replace h4 := F50.blkN h4
                  replace h5 := F50.blkN h5
                  replace h6 := F50.blkN h6
                  refine wl_puta rfl rfl ((by (try exact vlc_cells _); all_goals simp [Value.oneCell', i64c, icv, u64c, u8c, ptr, S])) sz_104 (rfl) h6 ((by simp)) (rfl) (fun w51 h6 F51 => ?_)
                  replace hF := hF.thenDrew.thenO F51 (by first | exact .inr (by omega) | exact .inl rfl | exact .inl (by assumption))
                  replace h4 := F51.blkO h4 (by omega)
                  replace h5 := F51.blkO h5 (by omega)
                  refine wl_nil (x_then (hK69 _ _ ?_))
                  clear hK69 K69
                  refine c_ret (x_thenR ?_)
                  refine bq_ret (res1 Tryz.results208 (rv_c rfl ag_104 (h6) rfl)) ?_
                  refine ⟨?_, hF⟩
                  have hcn : cntV x = false ∨ cntV y = false := by first | exact .inl (by assumption) | exact .inr (by assumption)
                  first
                    | (rw [binV_not (by omega) (by omega) hcn, if_pos (by omega)]; rfl)
                    | (have hwd : wdV x = false ∨ wdV y = false := by first | exact .inl (by assumption) | exact .inr (by assumption)
                       rw [binV_no (by omega) (by omega) hcn (by omega) hwd]
                       first
                         | (rw [if_pos (by omega)]; rfl)
                         | (rw [if_neg (by omega)]; rfl))
                    | (have hw1 : wdV x = true := by assumption
                       have hw2 : wdV y = true := by assumption
                       rw [binV_not (by omega) (by omega) hcn, if_neg (by omega), if_pos ⟨hw1, hw2⟩]
                       have hc70' := hc70
                       simp only [hc65, Bool.true_or, Bool.false_or, beq_iff_eq, beq_eq_false_iff_ne, Bool.true_eq_false, Bool.false_eq_true] at hc70'
                       all_goals first
                         | (rw [cmpS_lt hc65]; rfl)
                         | (rw [cmpS_gt hc65 hc70']; rfl)
                         | (rw [cmpS_eq hc65 hc70']; rfl))
              · try simp only [decide_eq_true_eq, decide_eq_false_iff_not, Bool.not_eq_true', Bool.not_eq_false', Bool.not_eq_eq_eq_not, Bool.not_true, Bool.not_false, beq_iff_eq, bne_iff_ne, ne_eq, beq_eq_false_iff_ne, bne_eq_false_iff_eq, gt_iff_lt, ge_iff_le, Int.not_lt, Int.not_le] at hc65
                refine c_skip (x_then (hK64 _ _ ?_))
                clear hK64 K64
                refine c_seq (fun K70 hK70 => ?_)
                refine c_seq (fun K71 hK71 => ?_)
                refine c_reg ?_ -- region 26 worth.go:55
                refine wl (ro_fieldAddr (k := 2) rfl fo_104_2) ?_
                refine wl (ro_loadB rfl sc_9 (by assumption) rfl) ?_
                refine wl (ro_fieldAddr (k := 2) rfl fo_104_2) ?_
                refine wl (ro_loadB rfl sc_9 (by assumption) rfl) ?_
                refine wl (ro_ltS rfl rfl rfl) ?_
                refine wl_nil (x_then (hK71 _ _ ?_))
                clear hK71 K71
                refine wc_cond rfl (fun hc70 => ?_) (fun hc70 => ?_)
                · try simp only [decide_eq_true_eq, decide_eq_false_iff_not, Bool.not_eq_true', Bool.not_eq_false', Bool.not_eq_eq_eq_not, Bool.not_true, Bool.not_false, beq_iff_eq, bne_iff_ne, ne_eq, beq_eq_false_iff_ne, bne_eq_false_iff_eq, gt_iff_lt, ge_iff_le, Int.not_lt, Int.not_le] at hc70
                  refine c_reg ?_ -- region 27 worth.go:56
                  refine wl (ro_assign rfl) ?_
                  refine wl_nil (x_then (hK70 _ _ ?_))
                  clear hK70 K70
                  refine forget [(0, _), (6, _), (14, _)] ⟨rfl, rfl, rfl, trivial⟩ (fun e => ?_)
                  refine c_seq (fun K72 hK72 => ?_)
                  refine c_reg ?_ -- region 28 worth.go:58
                  refine wl (ro_move rfl) ?_
                  refine wl (ro_move rfl) ?_
                  refine wl_call rfl en_224 (judge224) ?_
                  rintro _ w52 ⟨rfl, F52⟩
                  replace hF := hF.thenDrew.thenN F52
                  replace h4 := F52.blkN h4
                  replace h5 := F52.blkN h5
                  replace h6 := F52.blkN h6
                  refine wl_puta rfl rfl ((by (try exact vlc_cells _); all_goals simp [Value.oneCell', i64c, icv, u64c, u8c, ptr, S])) sz_104 (rfl) h6 ((by simp)) (rfl) (fun w53 h6 F53 => ?_)
                  replace hF := hF.thenDrew.thenO F53 (by first | exact .inr (by omega) | exact .inl rfl | exact .inl (by assumption))
                  replace h4 := F53.blkO h4 (by omega)
                  replace h5 := F53.blkO h5 (by omega)
                  refine wl_nil (x_then (hK72 _ _ ?_))
                  clear hK72 K72
                  refine c_ret (x_thenR ?_)
                  refine bq_ret (res1 Tryz.results208 (rv_c rfl ag_104 (h6) rfl)) ?_
                  refine ⟨?_, hF⟩
                  have hcn : cntV x = false ∨ cntV y = false := by first | exact .inl (by assumption) | exact .inr (by assumption)
                  first
                    | (rw [binV_not (by omega) (by omega) hcn, if_pos (by omega)]; rfl)
                    | (have hwd : wdV x = false ∨ wdV y = false := by first | exact .inl (by assumption) | exact .inr (by assumption)
                       rw [binV_no (by omega) (by omega) hcn (by omega) hwd]
                       first
                         | (rw [if_pos (by omega)]; rfl)
                         | (rw [if_neg (by omega)]; rfl))
                    | (have hw1 : wdV x = true := by assumption
                       have hw2 : wdV y = true := by assumption
                       rw [binV_not (by omega) (by omega) hcn, if_neg (by omega), if_pos ⟨hw1, hw2⟩]
                       have hc70' := hc70
                       simp only [hc65, Bool.true_or, Bool.false_or, beq_iff_eq, beq_eq_false_iff_ne, Bool.true_eq_false, Bool.false_eq_true] at hc70'
                       all_goals first
                         | (rw [cmpS_lt hc65]; rfl)
                         | (rw [cmpS_gt hc65 hc70']; rfl)
                         | (rw [cmpS_eq hc65 hc70']; rfl))
                · try simp only [decide_eq_true_eq, decide_eq_false_iff_not, Bool.not_eq_true', Bool.not_eq_false', Bool.not_eq_eq_eq_not, Bool.not_true, Bool.not_false, beq_iff_eq, bne_iff_ne, ne_eq, beq_eq_false_iff_ne, bne_eq_false_iff_eq, gt_iff_lt, ge_iff_le, Int.not_lt, Int.not_le] at hc70
                  refine c_skip (x_then (hK70 _ _ ?_))
                  clear hK70 K70
                  refine forget [(0, _), (6, _), (14, _)] ⟨rfl, rfl, rfl, trivial⟩ (fun e => ?_)
                  refine c_seq (fun K73 hK73 => ?_)
                  refine c_reg ?_ -- region 28 worth.go:58
                  refine wl (ro_move rfl) ?_
                  refine wl (ro_move rfl) ?_
                  refine wl_call rfl en_224 (judge224) ?_
                  rintro _ w54 ⟨rfl, F54⟩
                  replace hF := hF.thenDrew.thenN F54
                  replace h4 := F54.blkN h4
                  replace h5 := F54.blkN h5
                  replace h6 := F54.blkN h6
                  refine wl_puta rfl rfl ((by (try exact vlc_cells _); all_goals simp [Value.oneCell', i64c, icv, u64c, u8c, ptr, S])) sz_104 (rfl) h6 ((by simp)) (rfl) (fun w55 h6 F55 => ?_)
                  replace hF := hF.thenDrew.thenO F55 (by first | exact .inr (by omega) | exact .inl rfl | exact .inl (by assumption))
                  replace h4 := F55.blkO h4 (by omega)
                  replace h5 := F55.blkO h5 (by omega)
                  refine wl_nil (x_then (hK73 _ _ ?_))
                  clear hK73 K73
                  refine c_ret (x_thenR ?_)
                  refine bq_ret (res1 Tryz.results208 (rv_c rfl ag_104 (h6) rfl)) ?_
                  refine ⟨?_, hF⟩
                  have hcn : cntV x = false ∨ cntV y = false := by first | exact .inl (by assumption) | exact .inr (by assumption)
                  first
                    | (rw [binV_not (by omega) (by omega) hcn, if_pos (by omega)]; rfl)
                    | (have hwd : wdV x = false ∨ wdV y = false := by first | exact .inl (by assumption) | exact .inr (by assumption)
                       rw [binV_no (by omega) (by omega) hcn (by omega) hwd]
                       first
                         | (rw [if_pos (by omega)]; rfl)
                         | (rw [if_neg (by omega)]; rfl))
                    | (have hw1 : wdV x = true := by assumption
                       have hw2 : wdV y = true := by assumption
                       rw [binV_not (by omega) (by omega) hcn, if_neg (by omega), if_pos ⟨hw1, hw2⟩]
                       have hc70' := hc70
                       simp only [hc65, Bool.true_or, Bool.false_or, beq_iff_eq, beq_eq_false_iff_ne, Bool.true_eq_false, Bool.false_eq_true] at hc70'
                       all_goals first
                         | (rw [cmpS_lt hc65]; rfl)
                         | (rw [cmpS_gt hc65 hc70']; rfl)
                         | (rw [cmpS_eq hc65 hc70']; rfl))
            · try simp only [decide_eq_true_eq, decide_eq_false_iff_not, Bool.not_eq_true', Bool.not_eq_false', Bool.not_eq_eq_eq_not, Bool.not_true, Bool.not_false, beq_iff_eq, bne_iff_ne, ne_eq, beq_eq_false_iff_ne, bne_eq_false_iff_eq, gt_iff_lt, ge_iff_le, Int.not_lt, Int.not_le] at hc60
              refine c_skip (x_then (hK61 _ _ ?_))
              clear hK61 K61
              refine c_seq (fun K74 hK74 => ?_)
              refine c_seq (fun K75 hK75 => ?_)
              refine c_reg ?_ -- region 29 worth.go:60
              refine wl (ro_fieldAddr (k := 0) rfl fo_104_0) ?_
              refine wl (ro_loadB rfl sc_3 (by assumption) rfl) ?_
              refine wl (ro_cmp rfl rfl rfl) ?_
              refine wl_fork rfl (fun hg77 => ?_) (fun hg77 => ?_)
              · try simp only [decide_eq_true_eq, decide_eq_false_iff_not, Bool.not_eq_true', Bool.not_eq_false', Bool.not_eq_eq_eq_not, Bool.not_true, Bool.not_false, beq_iff_eq, bne_iff_ne, ne_eq, beq_eq_false_iff_ne, bne_eq_false_iff_eq, gt_iff_lt, ge_iff_le, Int.not_lt, Int.not_le] at hg77
                refine wlg_yes rfl (ro_fieldAddr (k := 0) rfl fo_104_0) ?_
                refine wlg_yes rfl (ro_loadB rfl sc_3 (by assumption) rfl) ?_
                refine wlg_yes rfl (ro_cmp rfl rfl rfl) ?_
                refine wl (ro_pick rfl rfl rfl) ?_
                refine wl_nil (x_then (hK75 _ _ ?_))
                clear hK75 K75
                refine wc_cond rfl (fun hc81 => ?_) (fun hc81 => ?_)
                · try simp only [decide_eq_true_eq, decide_eq_false_iff_not, Bool.not_eq_true', Bool.not_eq_false', Bool.not_eq_eq_eq_not, Bool.not_true, Bool.not_false, beq_iff_eq, bne_iff_ne, ne_eq, beq_eq_false_iff_ne, bne_eq_false_iff_eq, gt_iff_lt, ge_iff_le, Int.not_lt, Int.not_le] at hc81
                  refine c_seq (fun K76 hK76 => ?_)
                  refine c_reg ?_ -- region 30 worth.go:61
                  refine wl (ro_move rfl) ?_
                  refine wl (ro_fieldAddr (k := 1) rfl fo_104_1) ?_
                  refine wl (ro_loadB rfl sc_3 (by assumption) rfl) ?_
                  refine wl (ro_fieldAddr (k := 1) rfl fo_104_1) ?_
                  refine wl (ro_loadB rfl sc_3 (by assumption) rfl) ?_
                  refine wl (ro_arith rfl rfl rfl (Go.IntWalk.i64_in _ (by omega))) ?_
                  refine wl_call rfl en_224 (judge224) ?_
                  rintro _ w56 ⟨rfl, F56⟩
                  replace hF := hF.thenDrew.thenN F56
                  replace h4 := F56.blkN h4
                  replace h5 := F56.blkN h5
                  replace h6 := F56.blkN h6
                  refine wl_puta rfl rfl ((by (try exact vlc_cells _); all_goals simp [Value.oneCell', i64c, icv, u64c, u8c, ptr, S])) sz_104 (rfl) h6 ((by simp)) (rfl) (fun w57 h6 F57 => ?_)
                  replace hF := hF.thenDrew.thenO F57 (by first | exact .inr (by omega) | exact .inl rfl | exact .inl (by assumption))
                  replace h4 := F57.blkO h4 (by omega)
                  replace h5 := F57.blkO h5 (by omega)
                  refine wl_nil (x_then (hK76 _ _ ?_))
                  clear hK76 K76
                  refine c_ret (x_thenR ?_)
                  refine bq_ret (res1 Tryz.results208 (rv_c rfl ag_104 (h6) rfl)) ?_
                  refine ⟨?_, hF⟩
                  have hcn : cntV x = false ∨ cntV y = false := by first | exact .inl (by assumption) | exact .inr (by assumption)
                  first
                    | (rw [binV_not (by omega) (by omega) hcn, if_pos (by omega)]; rfl)
                    | (have hwd : wdV x = false ∨ wdV y = false := by first | exact .inl (by assumption) | exact .inr (by assumption)
                       rw [binV_no (by omega) (by omega) hcn (by omega) hwd]
                       first
                         | (rw [if_pos (by omega)]; rfl)
                         | (rw [if_neg (by omega)]; rfl))
                    | (have hw1 : wdV x = true := by assumption
                       have hw2 : wdV y = true := by assumption
                       rw [binV_not (by omega) (by omega) hcn, if_neg (by omega), if_pos ⟨hw1, hw2⟩]
                       have hc70' := hc70
                       simp only [hc65, Bool.true_or, Bool.false_or, beq_iff_eq, beq_eq_false_iff_ne, Bool.true_eq_false, Bool.false_eq_true] at hc70'
                       all_goals first
                         | (rw [cmpS_lt hc65]; rfl)
                         | (rw [cmpS_gt hc65 hc70']; rfl)
                         | (rw [cmpS_eq hc65 hc70']; rfl))
                · try simp only [decide_eq_true_eq, decide_eq_false_iff_not, Bool.not_eq_true', Bool.not_eq_false', Bool.not_eq_eq_eq_not, Bool.not_true, Bool.not_false, beq_iff_eq, bne_iff_ne, ne_eq, beq_eq_false_iff_ne, bne_eq_false_iff_eq, gt_iff_lt, ge_iff_le, Int.not_lt, Int.not_le] at hc81
                  refine c_skip (x_then (hK74 _ _ ?_))
                  clear hK74 K74
                  refine forget [(6, _)] ⟨rfl, trivial⟩ (fun e => ?_)
                  refine c_seq (fun K77 hK77 => ?_)
                  refine c_reg ?_ -- region 31 worth.go:63
                  refine wl_call rfl en_116 (Err116) ?_
                  rintro _ w58 ⟨rfl, F58⟩
                  replace hF := hF.thenDrew.thenN F58
                  replace h4 := F58.blkN h4
                  replace h5 := F58.blkN h5
                  replace h6 := F58.blkN h6
                  refine wl_puta rfl rfl ((by (try exact vlc_cells _); all_goals simp [Value.oneCell', i64c, icv, u64c, u8c, ptr, S])) sz_104 (rfl) h6 ((by simp)) (rfl) (fun w59 h6 F59 => ?_)
                  replace hF := hF.thenDrew.thenO F59 (by first | exact .inr (by omega) | exact .inl rfl | exact .inl (by assumption))
                  replace h4 := F59.blkO h4 (by omega)
                  replace h5 := F59.blkO h5 (by omega)
                  refine wl_nil (x_then (hK77 _ _ ?_))
                  clear hK77 K77
                  refine c_ret ?_
                  refine bq_ret (res1 Tryz.results208 (rv_c rfl ag_104 (h6) rfl)) ?_
                  refine ⟨?_, hF⟩
                  have hcn : cntV x = false ∨ cntV y = false := by first | exact .inl (by assumption) | exact .inr (by assumption)
                  first
                    | (rw [binV_not (by omega) (by omega) hcn, if_pos (by omega)]; rfl)
                    | (have hwd : wdV x = false ∨ wdV y = false := by first | exact .inl (by assumption) | exact .inr (by assumption)
                       rw [binV_no (by omega) (by omega) hcn (by omega) hwd]
                       first
                         | (rw [if_pos (by omega)]; rfl)
                         | (rw [if_neg (by omega)]; rfl))
                    | (have hw1 : wdV x = true := by assumption
                       have hw2 : wdV y = true := by assumption
                       rw [binV_not (by omega) (by omega) hcn, if_neg (by omega), if_pos ⟨hw1, hw2⟩]
                       have hc70' := hc70
                       simp only [hc65, Bool.true_or, Bool.false_or, beq_iff_eq, beq_eq_false_iff_ne, Bool.true_eq_false, Bool.false_eq_true] at hc70'
                       all_goals first
                         | (rw [cmpS_lt hc65]; rfl)
                         | (rw [cmpS_gt hc65 hc70']; rfl)
                         | (rw [cmpS_eq hc65 hc70']; rfl))
              · try simp only [decide_eq_true_eq, decide_eq_false_iff_not, Bool.not_eq_true', Bool.not_eq_false', Bool.not_eq_eq_eq_not, Bool.not_true, Bool.not_false, beq_iff_eq, bne_iff_ne, ne_eq, beq_eq_false_iff_ne, bne_eq_false_iff_eq, gt_iff_lt, ge_iff_le, Int.not_lt, Int.not_le] at hg77
                refine wlg_no rfl ?_
                refine wlg_no rfl ?_
                refine wlg_no rfl ?_
                refine wl (ro_pick rfl rfl rfl) ?_
                refine wl_nil (x_then (hK75 _ _ ?_))
                clear hK75 K75
                refine wc_condF rfl ?_
                refine c_skip (x_then (hK74 _ _ ?_))
                clear hK74 K74
                refine forget [(6, _)] ⟨rfl, trivial⟩ (fun e => ?_)
                refine c_seq (fun K78 hK78 => ?_)
                refine c_reg ?_ -- region 31 worth.go:63
                refine wl_call rfl en_116 (Err116) ?_
                rintro _ w60 ⟨rfl, F60⟩
                replace hF := hF.thenDrew.thenN F60
                replace h4 := F60.blkN h4
                replace h5 := F60.blkN h5
                replace h6 := F60.blkN h6
                refine wl_puta rfl rfl ((by (try exact vlc_cells _); all_goals simp [Value.oneCell', i64c, icv, u64c, u8c, ptr, S])) sz_104 (rfl) h6 ((by simp)) (rfl) (fun w61 h6 F61 => ?_)
                replace hF := hF.thenDrew.thenO F61 (by first | exact .inr (by omega) | exact .inl rfl | exact .inl (by assumption))
                replace h4 := F61.blkO h4 (by omega)
                replace h5 := F61.blkO h5 (by omega)
                refine wl_nil (x_then (hK78 _ _ ?_))
                clear hK78 K78
                refine c_ret ?_
                refine bq_ret (res1 Tryz.results208 (rv_c rfl ag_104 (h6) rfl)) ?_
                refine ⟨?_, hF⟩
                have hcn : cntV x = false ∨ cntV y = false := by first | exact .inl (by assumption) | exact .inr (by assumption)
                first
                  | (rw [binV_not (by omega) (by omega) hcn, if_pos (by omega)]; rfl)
                  | (have hwd : wdV x = false ∨ wdV y = false := by first | exact .inl (by assumption) | exact .inr (by assumption)
                     rw [binV_no (by omega) (by omega) hcn (by omega) hwd]
                     first
                       | (rw [if_pos (by omega)]; rfl)
                       | (rw [if_neg (by omega)]; rfl))
                  | (have hw1 : wdV x = true := by assumption
                     have hw2 : wdV y = true := by assumption
                     rw [binV_not (by omega) (by omega) hcn, if_neg (by omega), if_pos ⟨hw1, hw2⟩]
                     have hc70' := hc70
                     simp only [hc65, Bool.true_or, Bool.false_or, beq_iff_eq, beq_eq_false_iff_ne, Bool.true_eq_false, Bool.false_eq_true] at hc70'
                     all_goals first
                       | (rw [cmpS_lt hc65]; rfl)
                       | (rw [cmpS_gt hc65 hc70']; rfl)
                       | (rw [cmpS_eq hc65 hc70']; rfl))
          · try simp only [decide_eq_true_eq, decide_eq_false_iff_not, Bool.not_eq_true', Bool.not_eq_false', Bool.not_eq_eq_eq_not, Bool.not_true, Bool.not_false, beq_iff_eq, bne_iff_ne, ne_eq, beq_eq_false_iff_ne, bne_eq_false_iff_eq, gt_iff_lt, ge_iff_le, Int.not_lt, Int.not_le] at hg58
            refine wlg_no rfl ?_
            refine wl (ro_pick rfl rfl rfl) ?_
            refine wl_nil (x_then (hK62 _ _ ?_))
            clear hK62 K62
            refine wc_condF rfl ?_
            refine c_skip (x_then (hK61 _ _ ?_))
            clear hK61 K61
            refine c_seq (fun K79 hK79 => ?_)
            refine c_seq (fun K80 hK80 => ?_)
            refine c_reg ?_ -- region 29 worth.go:60
            refine wl (ro_fieldAddr (k := 0) rfl fo_104_0) ?_
            refine wl (ro_loadB rfl sc_3 (by assumption) rfl) ?_
            refine wl (ro_cmp rfl rfl rfl) ?_
            refine wl_fork rfl (fun hg77 => ?_) (fun hg77 => ?_)
            · try simp only [decide_eq_true_eq, decide_eq_false_iff_not, Bool.not_eq_true', Bool.not_eq_false', Bool.not_eq_eq_eq_not, Bool.not_true, Bool.not_false, beq_iff_eq, bne_iff_ne, ne_eq, beq_eq_false_iff_ne, bne_eq_false_iff_eq, gt_iff_lt, ge_iff_le, Int.not_lt, Int.not_le] at hg77
              refine wlg_yes rfl (ro_fieldAddr (k := 0) rfl fo_104_0) ?_
              refine wlg_yes rfl (ro_loadB rfl sc_3 (by assumption) rfl) ?_
              refine wlg_yes rfl (ro_cmp rfl rfl rfl) ?_
              refine wl (ro_pick rfl rfl rfl) ?_
              refine wl_nil (x_then (hK80 _ _ ?_))
              clear hK80 K80
              refine wc_cond rfl (fun hc81 => ?_) (fun hc81 => ?_)
              · try simp only [decide_eq_true_eq, decide_eq_false_iff_not, Bool.not_eq_true', Bool.not_eq_false', Bool.not_eq_eq_eq_not, Bool.not_true, Bool.not_false, beq_iff_eq, bne_iff_ne, ne_eq, beq_eq_false_iff_ne, bne_eq_false_iff_eq, gt_iff_lt, ge_iff_le, Int.not_lt, Int.not_le] at hc81
                refine c_seq (fun K81 hK81 => ?_)
                refine c_reg ?_ -- region 30 worth.go:61
                refine wl (ro_move rfl) ?_
                refine wl (ro_fieldAddr (k := 1) rfl fo_104_1) ?_
                refine wl (ro_loadB rfl sc_3 (by assumption) rfl) ?_
                refine wl (ro_fieldAddr (k := 1) rfl fo_104_1) ?_
                refine wl (ro_loadB rfl sc_3 (by assumption) rfl) ?_
                refine wl (ro_arith rfl rfl rfl (Go.IntWalk.i64_in _ (by omega))) ?_
                refine wl_call rfl en_224 (judge224) ?_
                rintro _ w62 ⟨rfl, F62⟩
                replace hF := hF.thenDrew.thenN F62
                replace h4 := F62.blkN h4
                replace h5 := F62.blkN h5
                replace h6 := F62.blkN h6
                refine wl_puta rfl rfl ((by (try exact vlc_cells _); all_goals simp [Value.oneCell', i64c, icv, u64c, u8c, ptr, S])) sz_104 (rfl) h6 ((by simp)) (rfl) (fun w63 h6 F63 => ?_)
                replace hF := hF.thenDrew.thenO F63 (by first | exact .inr (by omega) | exact .inl rfl | exact .inl (by assumption))
                replace h4 := F63.blkO h4 (by omega)
                replace h5 := F63.blkO h5 (by omega)
                refine wl_nil (x_then (hK81 _ _ ?_))
                clear hK81 K81
                refine c_ret (x_thenR ?_)
                refine bq_ret (res1 Tryz.results208 (rv_c rfl ag_104 (h6) rfl)) ?_
                refine ⟨?_, hF⟩
                have hcn : cntV x = false ∨ cntV y = false := by first | exact .inl (by assumption) | exact .inr (by assumption)
                first
                  | (rw [binV_not (by omega) (by omega) hcn, if_pos (by omega)]; rfl)
                  | (have hwd : wdV x = false ∨ wdV y = false := by first | exact .inl (by assumption) | exact .inr (by assumption)
                     rw [binV_no (by omega) (by omega) hcn (by omega) hwd]
                     first
                       | (rw [if_pos (by omega)]; rfl)
                       | (rw [if_neg (by omega)]; rfl))
                  | (have hw1 : wdV x = true := by assumption
                     have hw2 : wdV y = true := by assumption
                     rw [binV_not (by omega) (by omega) hcn, if_neg (by omega), if_pos ⟨hw1, hw2⟩]
                     have hc70' := hc70
                     simp only [hc65, Bool.true_or, Bool.false_or, beq_iff_eq, beq_eq_false_iff_ne, Bool.true_eq_false, Bool.false_eq_true] at hc70'
                     all_goals first
                       | (rw [cmpS_lt hc65]; rfl)
                       | (rw [cmpS_gt hc65 hc70']; rfl)
                       | (rw [cmpS_eq hc65 hc70']; rfl))
              · try simp only [decide_eq_true_eq, decide_eq_false_iff_not, Bool.not_eq_true', Bool.not_eq_false', Bool.not_eq_eq_eq_not, Bool.not_true, Bool.not_false, beq_iff_eq, bne_iff_ne, ne_eq, beq_eq_false_iff_ne, bne_eq_false_iff_eq, gt_iff_lt, ge_iff_le, Int.not_lt, Int.not_le] at hc81
                refine c_skip (x_then (hK79 _ _ ?_))
                clear hK79 K79
                refine forget [(6, _)] ⟨rfl, trivial⟩ (fun e => ?_)
                refine c_seq (fun K82 hK82 => ?_)
                refine c_reg ?_ -- region 31 worth.go:63
                refine wl_call rfl en_116 (Err116) ?_
                rintro _ w64 ⟨rfl, F64⟩
                replace hF := hF.thenDrew.thenN F64
                replace h4 := F64.blkN h4
                replace h5 := F64.blkN h5
                replace h6 := F64.blkN h6
                refine wl_puta rfl rfl ((by (try exact vlc_cells _); all_goals simp [Value.oneCell', i64c, icv, u64c, u8c, ptr, S])) sz_104 (rfl) h6 ((by simp)) (rfl) (fun w65 h6 F65 => ?_)
                replace hF := hF.thenDrew.thenO F65 (by first | exact .inr (by omega) | exact .inl rfl | exact .inl (by assumption))
                replace h4 := F65.blkO h4 (by omega)
                replace h5 := F65.blkO h5 (by omega)
                refine wl_nil (x_then (hK82 _ _ ?_))
                clear hK82 K82
                refine c_ret ?_
                refine bq_ret (res1 Tryz.results208 (rv_c rfl ag_104 (h6) rfl)) ?_
                refine ⟨?_, hF⟩
                have hcn : cntV x = false ∨ cntV y = false := by first | exact .inl (by assumption) | exact .inr (by assumption)
                first
                  | (rw [binV_not (by omega) (by omega) hcn, if_pos (by omega)]; rfl)
                  | (have hwd : wdV x = false ∨ wdV y = false := by first | exact .inl (by assumption) | exact .inr (by assumption)
                     rw [binV_no (by omega) (by omega) hcn (by omega) hwd]
                     first
                       | (rw [if_pos (by omega)]; rfl)
                       | (rw [if_neg (by omega)]; rfl))
                  | (have hw1 : wdV x = true := by assumption
                     have hw2 : wdV y = true := by assumption
                     rw [binV_not (by omega) (by omega) hcn, if_neg (by omega), if_pos ⟨hw1, hw2⟩]
                     have hc70' := hc70
                     simp only [hc65, Bool.true_or, Bool.false_or, beq_iff_eq, beq_eq_false_iff_ne, Bool.true_eq_false, Bool.false_eq_true] at hc70'
                     all_goals first
                       | (rw [cmpS_lt hc65]; rfl)
                       | (rw [cmpS_gt hc65 hc70']; rfl)
                       | (rw [cmpS_eq hc65 hc70']; rfl))
            · try simp only [decide_eq_true_eq, decide_eq_false_iff_not, Bool.not_eq_true', Bool.not_eq_false', Bool.not_eq_eq_eq_not, Bool.not_true, Bool.not_false, beq_iff_eq, bne_iff_ne, ne_eq, beq_eq_false_iff_ne, bne_eq_false_iff_eq, gt_iff_lt, ge_iff_le, Int.not_lt, Int.not_le] at hg77
              refine wlg_no rfl ?_
              refine wlg_no rfl ?_
              refine wlg_no rfl ?_
              refine wl (ro_pick rfl rfl rfl) ?_
              refine wl_nil (x_then (hK80 _ _ ?_))
              clear hK80 K80
              refine wc_condF rfl ?_
              refine c_skip (x_then (hK79 _ _ ?_))
              clear hK79 K79
              refine forget [(6, _)] ⟨rfl, trivial⟩ (fun e => ?_)
              refine c_seq (fun K83 hK83 => ?_)
              refine c_reg ?_ -- region 31 worth.go:63
              refine wl_call rfl en_116 (Err116) ?_
              rintro _ w66 ⟨rfl, F66⟩
              replace hF := hF.thenDrew.thenN F66
              replace h4 := F66.blkN h4
              replace h5 := F66.blkN h5
              replace h6 := F66.blkN h6
              refine wl_puta rfl rfl ((by (try exact vlc_cells _); all_goals simp [Value.oneCell', i64c, icv, u64c, u8c, ptr, S])) sz_104 (rfl) h6 ((by simp)) (rfl) (fun w67 h6 F67 => ?_)
              replace hF := hF.thenDrew.thenO F67 (by first | exact .inr (by omega) | exact .inl rfl | exact .inl (by assumption))
              replace h4 := F67.blkO h4 (by omega)
              replace h5 := F67.blkO h5 (by omega)
              refine wl_nil (x_then (hK83 _ _ ?_))
              clear hK83 K83
              refine c_ret ?_
              refine bq_ret (res1 Tryz.results208 (rv_c rfl ag_104 (h6) rfl)) ?_
              refine ⟨?_, hF⟩
              have hcn : cntV x = false ∨ cntV y = false := by first | exact .inl (by assumption) | exact .inr (by assumption)
              first
                | (rw [binV_not (by omega) (by omega) hcn, if_pos (by omega)]; rfl)
                | (have hwd : wdV x = false ∨ wdV y = false := by first | exact .inl (by assumption) | exact .inr (by assumption)
                   rw [binV_no (by omega) (by omega) hcn (by omega) hwd]
                   first
                     | (rw [if_pos (by omega)]; rfl)
                     | (rw [if_neg (by omega)]; rfl))
                | (have hw1 : wdV x = true := by assumption
                   have hw2 : wdV y = true := by assumption
                   rw [binV_not (by omega) (by omega) hcn, if_neg (by omega), if_pos ⟨hw1, hw2⟩]
                   have hc70' := hc70
                   simp only [hc65, Bool.true_or, Bool.false_or, beq_iff_eq, beq_eq_false_iff_ne, Bool.true_eq_false, Bool.false_eq_true] at hc70'
                   all_goals first
                     | (rw [cmpS_lt hc65]; rfl)
                     | (rw [cmpS_gt hc65 hc70']; rfl)
                     | (rw [cmpS_eq hc65 hc70']; rfl))

/-- Is it a value that a cell can show? -/
def lwB (v : Vl) : Bool :=
  if v.k = 0 then decide (v.n = 0) && decide (v.s = [])
  else if v.k = 1 then decide (-999999999 ≤ v.n) && decide (v.n ≤ 999999999) && decide (v.s = [])
  else if v.k = 2 then decide (v.n = 0) && decide (v.s.length ≤ 40)
  else if v.k = 3 then (decide (v.n = 0) || decide (v.n = 1)) && decide (v.s = [])
  else if v.k = 4 then decide (1 ≤ v.n) && decide (v.n ≤ 6) && decide (v.s = [])
  else false
theorem lwB_iff {v : Vl} : lwB v = true ↔ Lw v := by
  unfold lwB Lw
  by_cases h0 : v.k = 0
  · simp [h0]
  · by_cases h1 : v.k = 1
    · simp [h1, and_assoc]
    · by_cases h2 : v.k = 2
      · simp [h2]
      · by_cases h3 : v.k = 3
        · simp [h3]
        · by_cases h4 : v.k = 4
          · simp [h4, and_assoc]
          · simp [h0, h1, h2, h3, h4]
set_option maxHeartbeats 2000000 in
theorem Lawful142 {w : World} {x : Vl} : Ret Tryz.prog 142 [vlA x] w (fun v w' => v = .bool (lwB x) ∧ Fram none' w w') := by
  have hF : Fram none' w w := Fram.refl _ _
  refine ret_of Tryz.func142 rfl Tryz.ntmps142 rfl ?_
  refine c_seq (fun K1 hK1 => ?_)
  refine c_reg ?_ -- region 0 const.go:120
  refine wl_box rfl rfl (fun b1 w1 hbb1 h1 F1 => ?_)
  have hbsb1 := Nat.le_trans hF.size hbb1
  replace hF := hF.thenDrew.thenN F1
  refine wl (ro_assign rfl) ?_
  refine wl_nil (x_then (hK1 _ _ ?_))
  clear hK1 K1
  refine c_seq (fun K2 hK2 => ?_)
  refine c_seq (fun K3 hK3 => ?_)
  refine c_reg ?_ -- region 1 const.go:121
  refine wl (ro_fieldAddr (k := 0) rfl fo_104_0) ?_
  refine wl (ro_loadB rfl sc_3 (by assumption) rfl) ?_
  refine wl_nil (x_then (hK3 _ _ ?_))
  clear hK3 K3
  refine c_block ?_
  refine forget [(1, _), (4, _)] ⟨rfl, rfl, trivial⟩ (fun e => ?_)
  refine c_seq (fun K4 hK4 => ?_)
  refine c_reg ?_ -- region 2 const.go:122
  refine wl (ro_cmp rfl rfl rfl) ?_
  refine wl (ro_assign rfl) ?_
  refine wl_nil (x_then (hK4 _ _ ?_))
  clear hK4 K4
  refine wc_cond rfl (fun hc5 => ?_) (fun hc5 => ?_)
  · try simp only [decide_eq_true_eq, decide_eq_false_iff_not, Bool.not_eq_true', Bool.not_eq_false', Bool.not_eq_eq_eq_not, Bool.not_true, Bool.not_false, beq_iff_eq, bne_iff_ne, ne_eq, beq_eq_false_iff_ne, bne_eq_false_iff_eq, gt_iff_lt, ge_iff_le, Int.not_lt, Int.not_le] at hc5
    refine c_seq (fun K5 hK5 => ?_)
    refine c_reg ?_ -- region 3 const.go:123
    refine wl (ro_fieldAddr (k := 1) rfl fo_104_1) ?_
    refine wl (ro_loadB rfl sc_3 (by assumption) rfl) ?_
    refine wl (ro_cmp rfl rfl rfl) ?_
    refine wl_fork rfl (fun hg10 => ?_) (fun hg10 => ?_)
    · try simp only [decide_eq_true_eq, decide_eq_false_iff_not, Bool.not_eq_true', Bool.not_eq_false', Bool.not_eq_eq_eq_not, Bool.not_true, Bool.not_false, beq_iff_eq, bne_iff_ne, ne_eq, beq_eq_false_iff_ne, bne_eq_false_iff_eq, gt_iff_lt, ge_iff_le, Int.not_lt, Int.not_le] at hg10
      refine wlg_yes rfl (ro_fieldAddr (k := 2) rfl fo_104_2) ?_
      refine wlg_yes rfl (ro_loadB rfl sc_9 (by assumption) rfl) ?_
      refine wlg_yes rfl (ro_eqS rfl rfl rfl) ?_
      refine wl (ro_pick rfl rfl rfl) ?_
      refine wl (ro_assign rfl) ?_
      refine wl_nil (x_then (hK5 _ _ ?_))
      clear hK5 K5
      refine c_ret (x_blkR (x_thenR ?_))
      refine bp_ret Tryz.results142 rfl ?_
      refine ⟨congrArg Value.bool ?_, hF⟩
      unfold lwB
      repeat first | rw [if_pos (by omega)] | rw [if_neg (by omega)]
      all_goals first | rfl | (rw [Bool.eq_iff_iff]; simp [*]; done) | (rw [Bool.eq_iff_iff]; simp; omega)
    · try simp only [decide_eq_true_eq, decide_eq_false_iff_not, Bool.not_eq_true', Bool.not_eq_false', Bool.not_eq_eq_eq_not, Bool.not_true, Bool.not_false, beq_iff_eq, bne_iff_ne, ne_eq, beq_eq_false_iff_ne, bne_eq_false_iff_eq, gt_iff_lt, ge_iff_le, Int.not_lt, Int.not_le] at hg10
      refine wlg_no rfl ?_
      refine wlg_no rfl ?_
      refine wlg_no rfl ?_
      refine wl (ro_pick rfl rfl rfl) ?_
      refine wl (ro_assign rfl) ?_
      refine wl_nil (x_then (hK5 _ _ ?_))
      clear hK5 K5
      refine c_ret (x_blkR (x_thenR ?_))
      refine bp_ret Tryz.results142 rfl ?_
      refine ⟨congrArg Value.bool ?_, hF⟩
      unfold lwB
      repeat first | rw [if_pos (by omega)] | rw [if_neg (by omega)]
      all_goals first | rfl | (rw [Bool.eq_iff_iff]; simp [*]; done) | (rw [Bool.eq_iff_iff]; simp; omega)
  · try simp only [decide_eq_true_eq, decide_eq_false_iff_not, Bool.not_eq_true', Bool.not_eq_false', Bool.not_eq_eq_eq_not, Bool.not_true, Bool.not_false, beq_iff_eq, bne_iff_ne, ne_eq, beq_eq_false_iff_ne, bne_eq_false_iff_eq, gt_iff_lt, ge_iff_le, Int.not_lt, Int.not_le] at hc5
    refine c_seq (fun K6 hK6 => ?_)
    refine c_reg ?_ -- region 4 const.go:124
    refine wl (ro_cmp rfl rfl rfl) ?_
    refine wl (ro_assign rfl) ?_
    refine wl_nil (x_then (hK6 _ _ ?_))
    clear hK6 K6
    refine wc_cond rfl (fun hc15 => ?_) (fun hc15 => ?_)
    · try simp only [decide_eq_true_eq, decide_eq_false_iff_not, Bool.not_eq_true', Bool.not_eq_false', Bool.not_eq_eq_eq_not, Bool.not_true, Bool.not_false, beq_iff_eq, bne_iff_ne, ne_eq, beq_eq_false_iff_ne, bne_eq_false_iff_eq, gt_iff_lt, ge_iff_le, Int.not_lt, Int.not_le] at hc15
      refine c_seq (fun K7 hK7 => ?_)
      refine c_reg ?_ -- region 5 const.go:125
      refine wl (ro_fieldAddr (k := 1) rfl fo_104_1) ?_
      refine wl (ro_loadB rfl sc_3 (by assumption) rfl) ?_
      refine wl (ro_cmp rfl rfl rfl) ?_
      refine wl_fork rfl (fun hg20 => ?_) (fun hg20 => ?_)
      · try simp only [decide_eq_true_eq, decide_eq_false_iff_not, Bool.not_eq_true', Bool.not_eq_false', Bool.not_eq_eq_eq_not, Bool.not_true, Bool.not_false, beq_iff_eq, bne_iff_ne, ne_eq, beq_eq_false_iff_ne, bne_eq_false_iff_eq, gt_iff_lt, ge_iff_le, Int.not_lt, Int.not_le] at hg20
        refine wlg_yes rfl (ro_fieldAddr (k := 1) rfl fo_104_1) ?_
        refine wlg_yes rfl (ro_loadB rfl sc_3 (by assumption) rfl) ?_
        refine wlg_yes rfl (ro_cmp rfl rfl rfl) ?_
        refine wl (ro_pick rfl rfl rfl) ?_
        refine wl_fork rfl (fun hg25 => ?_) (fun hg25 => ?_)
        · try simp only [decide_eq_true_eq, decide_eq_false_iff_not, Bool.not_eq_true', Bool.not_eq_false', Bool.not_eq_eq_eq_not, Bool.not_true, Bool.not_false, beq_iff_eq, bne_iff_ne, ne_eq, beq_eq_false_iff_ne, bne_eq_false_iff_eq, gt_iff_lt, ge_iff_le, Int.not_lt, Int.not_le] at hg25
          refine wlg_yes rfl (ro_fieldAddr (k := 2) rfl fo_104_2) ?_
          refine wlg_yes rfl (ro_loadB rfl sc_9 (by assumption) rfl) ?_
          refine wlg_yes rfl (ro_eqS rfl rfl rfl) ?_
          refine wl (ro_pick rfl rfl rfl) ?_
          refine wl (ro_assign rfl) ?_
          refine wl_nil (x_then (hK7 _ _ ?_))
          clear hK7 K7
          refine c_ret (x_blkR (x_thenR ?_))
          refine bp_ret Tryz.results142 rfl ?_
          refine ⟨congrArg Value.bool ?_, hF⟩
          unfold lwB
          repeat first | rw [if_pos (by omega)] | rw [if_neg (by omega)]
          all_goals first | rfl | (rw [Bool.eq_iff_iff]; simp [*]; done) | (rw [Bool.eq_iff_iff]; simp; omega)
        · try simp only [decide_eq_true_eq, decide_eq_false_iff_not, Bool.not_eq_true', Bool.not_eq_false', Bool.not_eq_eq_eq_not, Bool.not_true, Bool.not_false, beq_iff_eq, bne_iff_ne, ne_eq, beq_eq_false_iff_ne, bne_eq_false_iff_eq, gt_iff_lt, ge_iff_le, Int.not_lt, Int.not_le] at hg25
          refine wlg_no rfl ?_
          refine wlg_no rfl ?_
          refine wlg_no rfl ?_
          refine wl (ro_pick rfl rfl rfl) ?_
          refine wl (ro_assign rfl) ?_
          refine wl_nil (x_then (hK7 _ _ ?_))
          clear hK7 K7
          refine c_ret (x_blkR (x_thenR ?_))
          refine bp_ret Tryz.results142 rfl ?_
          refine ⟨congrArg Value.bool ?_, hF⟩
          unfold lwB
          repeat first | rw [if_pos (by omega)] | rw [if_neg (by omega)]
          all_goals first | rfl | (rw [Bool.eq_iff_iff]; simp [*]; done) | (rw [Bool.eq_iff_iff]; simp; omega)
      · try simp only [decide_eq_true_eq, decide_eq_false_iff_not, Bool.not_eq_true', Bool.not_eq_false', Bool.not_eq_eq_eq_not, Bool.not_true, Bool.not_false, beq_iff_eq, bne_iff_ne, ne_eq, beq_eq_false_iff_ne, bne_eq_false_iff_eq, gt_iff_lt, ge_iff_le, Int.not_lt, Int.not_le] at hg20
        refine wlg_no rfl ?_
        refine wlg_no rfl ?_
        refine wlg_no rfl ?_
        refine wl (ro_pick rfl rfl rfl) ?_
        refine wl (ro_move rfl) ?_
        refine wlg_no rfl ?_
        refine wlg_no rfl ?_
        refine wlg_no rfl ?_
        refine wl (ro_pick rfl rfl rfl) ?_
        refine wl (ro_assign rfl) ?_
        refine wl_nil (x_then (hK7 _ _ ?_))
        clear hK7 K7
        refine c_ret (x_blkR (x_thenR ?_))
        refine bp_ret Tryz.results142 rfl ?_
        refine ⟨congrArg Value.bool ?_, hF⟩
        unfold lwB
        repeat first | rw [if_pos (by omega)] | rw [if_neg (by omega)]
        all_goals first | rfl | (rw [Bool.eq_iff_iff]; simp [*]; done) | (rw [Bool.eq_iff_iff]; simp; omega)
    · try simp only [decide_eq_true_eq, decide_eq_false_iff_not, Bool.not_eq_true', Bool.not_eq_false', Bool.not_eq_eq_eq_not, Bool.not_true, Bool.not_false, beq_iff_eq, bne_iff_ne, ne_eq, beq_eq_false_iff_ne, bne_eq_false_iff_eq, gt_iff_lt, ge_iff_le, Int.not_lt, Int.not_le] at hc15
      refine c_seq (fun K8 hK8 => ?_)
      refine c_reg ?_ -- region 6 const.go:126
      refine wl (ro_cmp rfl rfl rfl) ?_
      refine wl (ro_assign rfl) ?_
      refine wl_nil (x_then (hK8 _ _ ?_))
      clear hK8 K8
      refine wc_cond rfl (fun hc30 => ?_) (fun hc30 => ?_)
      · try simp only [decide_eq_true_eq, decide_eq_false_iff_not, Bool.not_eq_true', Bool.not_eq_false', Bool.not_eq_eq_eq_not, Bool.not_true, Bool.not_false, beq_iff_eq, bne_iff_ne, ne_eq, beq_eq_false_iff_ne, bne_eq_false_iff_eq, gt_iff_lt, ge_iff_le, Int.not_lt, Int.not_le] at hc30
        refine c_seq (fun K9 hK9 => ?_)
        refine c_reg ?_ -- region 7 const.go:127
        refine wl (ro_fieldAddr (k := 1) rfl fo_104_1) ?_
        refine wl (ro_loadB rfl sc_3 (by assumption) rfl) ?_
        refine wl (ro_cmp rfl rfl rfl) ?_
        refine wl_fork rfl (fun hg35 => ?_) (fun hg35 => ?_)
        · try simp only [decide_eq_true_eq, decide_eq_false_iff_not, Bool.not_eq_true', Bool.not_eq_false', Bool.not_eq_eq_eq_not, Bool.not_true, Bool.not_false, beq_iff_eq, bne_iff_ne, ne_eq, beq_eq_false_iff_ne, bne_eq_false_iff_eq, gt_iff_lt, ge_iff_le, Int.not_lt, Int.not_le] at hg35
          refine wlg_yes rfl (ro_fieldAddr (k := 2) rfl fo_104_2) ?_
          refine wlg_yes rfl (ro_loadB rfl sc_9 (by assumption) rfl) ?_
          refine wlg_yes rfl (ro_lenS rfl st_9) ?_
          refine wlg_yes rfl (ro_cmp rfl rfl rfl) ?_
          refine wl (ro_pick rfl rfl rfl) ?_
          refine wl (ro_assign rfl) ?_
          refine wl_nil (x_then (hK9 _ _ ?_))
          clear hK9 K9
          refine c_ret (x_blkR (x_thenR ?_))
          refine bp_ret Tryz.results142 rfl ?_
          refine ⟨congrArg Value.bool ?_, hF⟩
          unfold lwB
          repeat first | rw [if_pos (by omega)] | rw [if_neg (by omega)]
          all_goals first | rfl | (rw [Bool.eq_iff_iff]; simp [*]; done) | (rw [Bool.eq_iff_iff]; simp; omega)
        · try simp only [decide_eq_true_eq, decide_eq_false_iff_not, Bool.not_eq_true', Bool.not_eq_false', Bool.not_eq_eq_eq_not, Bool.not_true, Bool.not_false, beq_iff_eq, bne_iff_ne, ne_eq, beq_eq_false_iff_ne, bne_eq_false_iff_eq, gt_iff_lt, ge_iff_le, Int.not_lt, Int.not_le] at hg35
          refine wlg_no rfl ?_
          refine wlg_no rfl ?_
          refine wlg_no rfl ?_
          refine wlg_no rfl ?_
          refine wl (ro_pick rfl rfl rfl) ?_
          refine wl (ro_assign rfl) ?_
          refine wl_nil (x_then (hK9 _ _ ?_))
          clear hK9 K9
          refine c_ret (x_blkR (x_thenR ?_))
          refine bp_ret Tryz.results142 rfl ?_
          refine ⟨congrArg Value.bool ?_, hF⟩
          unfold lwB
          repeat first | rw [if_pos (by omega)] | rw [if_neg (by omega)]
          all_goals first | rfl | (rw [Bool.eq_iff_iff]; simp [*]; done) | (rw [Bool.eq_iff_iff]; simp; omega)
      · try simp only [decide_eq_true_eq, decide_eq_false_iff_not, Bool.not_eq_true', Bool.not_eq_false', Bool.not_eq_eq_eq_not, Bool.not_true, Bool.not_false, beq_iff_eq, bne_iff_ne, ne_eq, beq_eq_false_iff_ne, bne_eq_false_iff_eq, gt_iff_lt, ge_iff_le, Int.not_lt, Int.not_le] at hc30
        refine c_seq (fun K10 hK10 => ?_)
        refine c_reg ?_ -- region 8 const.go:128
        refine wl (ro_cmp rfl rfl rfl) ?_
        refine wl (ro_assign rfl) ?_
        refine wl_nil (x_then (hK10 _ _ ?_))
        clear hK10 K10
        refine wc_cond rfl (fun hc41 => ?_) (fun hc41 => ?_)
        · try simp only [decide_eq_true_eq, decide_eq_false_iff_not, Bool.not_eq_true', Bool.not_eq_false', Bool.not_eq_eq_eq_not, Bool.not_true, Bool.not_false, beq_iff_eq, bne_iff_ne, ne_eq, beq_eq_false_iff_ne, bne_eq_false_iff_eq, gt_iff_lt, ge_iff_le, Int.not_lt, Int.not_le] at hc41
          refine c_seq (fun K11 hK11 => ?_)
          refine c_reg ?_ -- region 9 const.go:129
          refine wl (ro_fieldAddr (k := 1) rfl fo_104_1) ?_
          refine wl (ro_loadB rfl sc_3 (by assumption) rfl) ?_
          refine wl (ro_cmp rfl rfl rfl) ?_
          refine wl_fork rfl (fun hg46 => ?_) (fun hg46 => ?_)
          · try simp only [decide_eq_true_eq, decide_eq_false_iff_not, Bool.not_eq_true', Bool.not_eq_false', Bool.not_eq_eq_eq_not, Bool.not_true, Bool.not_false, beq_iff_eq, bne_iff_ne, ne_eq, beq_eq_false_iff_ne, bne_eq_false_iff_eq, gt_iff_lt, ge_iff_le, Int.not_lt, Int.not_le] at hg46
            refine wlg_no rfl ?_
            refine wlg_no rfl ?_
            refine wlg_no rfl ?_
            refine wl (ro_pick rfl rfl rfl) ?_
            refine wl (ro_move rfl) ?_
            refine wlg_yes rfl (ro_fieldAddr (k := 2) rfl fo_104_2) ?_
            refine wlg_yes rfl (ro_loadB rfl sc_9 (by assumption) rfl) ?_
            refine wlg_yes rfl (ro_eqS rfl rfl rfl) ?_
            refine wl (ro_pick rfl rfl rfl) ?_
            refine wl (ro_assign rfl) ?_
            refine wl_nil (x_then (hK11 _ _ ?_))
            clear hK11 K11
            refine c_ret (x_blkR (x_thenR ?_))
            refine bp_ret Tryz.results142 rfl ?_
            refine ⟨congrArg Value.bool ?_, hF⟩
            unfold lwB
            repeat first | rw [if_pos (by omega)] | rw [if_neg (by omega)]
            all_goals first | rfl | (rw [Bool.eq_iff_iff]; simp [*]; done) | (rw [Bool.eq_iff_iff]; simp; omega)
          · try simp only [decide_eq_true_eq, decide_eq_false_iff_not, Bool.not_eq_true', Bool.not_eq_false', Bool.not_eq_eq_eq_not, Bool.not_true, Bool.not_false, beq_iff_eq, bne_iff_ne, ne_eq, beq_eq_false_iff_ne, bne_eq_false_iff_eq, gt_iff_lt, ge_iff_le, Int.not_lt, Int.not_le] at hg46
            refine wlg_yes rfl (ro_fieldAddr (k := 1) rfl fo_104_1) ?_
            refine wlg_yes rfl (ro_loadB rfl sc_3 (by assumption) rfl) ?_
            refine wlg_yes rfl (ro_cmp rfl rfl rfl) ?_
            refine wl (ro_pick rfl rfl rfl) ?_
            refine wl_fork rfl (fun hg51 => ?_) (fun hg51 => ?_)
            · try simp only [decide_eq_true_eq, decide_eq_false_iff_not, Bool.not_eq_true', Bool.not_eq_false', Bool.not_eq_eq_eq_not, Bool.not_true, Bool.not_false, beq_iff_eq, bne_iff_ne, ne_eq, beq_eq_false_iff_ne, bne_eq_false_iff_eq, gt_iff_lt, ge_iff_le, Int.not_lt, Int.not_le] at hg51
              refine wlg_yes rfl (ro_fieldAddr (k := 2) rfl fo_104_2) ?_
              refine wlg_yes rfl (ro_loadB rfl sc_9 (by assumption) rfl) ?_
              refine wlg_yes rfl (ro_eqS rfl rfl rfl) ?_
              refine wl (ro_pick rfl rfl rfl) ?_
              refine wl (ro_assign rfl) ?_
              refine wl_nil (x_then (hK11 _ _ ?_))
              clear hK11 K11
              refine c_ret (x_blkR (x_thenR ?_))
              refine bp_ret Tryz.results142 rfl ?_
              refine ⟨congrArg Value.bool ?_, hF⟩
              unfold lwB
              repeat first | rw [if_pos (by omega)] | rw [if_neg (by omega)]
              all_goals first | rfl | (rw [Bool.eq_iff_iff]; simp [*]; done) | (rw [Bool.eq_iff_iff]; simp; omega)
            · try simp only [decide_eq_true_eq, decide_eq_false_iff_not, Bool.not_eq_true', Bool.not_eq_false', Bool.not_eq_eq_eq_not, Bool.not_true, Bool.not_false, beq_iff_eq, bne_iff_ne, ne_eq, beq_eq_false_iff_ne, bne_eq_false_iff_eq, gt_iff_lt, ge_iff_le, Int.not_lt, Int.not_le] at hg51
              refine wlg_no rfl ?_
              refine wlg_no rfl ?_
              refine wlg_no rfl ?_
              refine wl (ro_pick rfl rfl rfl) ?_
              refine wl (ro_assign rfl) ?_
              refine wl_nil (x_then (hK11 _ _ ?_))
              clear hK11 K11
              refine c_ret (x_blkR (x_thenR ?_))
              refine bp_ret Tryz.results142 rfl ?_
              refine ⟨congrArg Value.bool ?_, hF⟩
              unfold lwB
              repeat first | rw [if_pos (by omega)] | rw [if_neg (by omega)]
              all_goals first | rfl | (rw [Bool.eq_iff_iff]; simp [*]; done) | (rw [Bool.eq_iff_iff]; simp; omega)
        · try simp only [decide_eq_true_eq, decide_eq_false_iff_not, Bool.not_eq_true', Bool.not_eq_false', Bool.not_eq_eq_eq_not, Bool.not_true, Bool.not_false, beq_iff_eq, bne_iff_ne, ne_eq, beq_eq_false_iff_ne, bne_eq_false_iff_eq, gt_iff_lt, ge_iff_le, Int.not_lt, Int.not_le] at hc41
          refine c_seq (fun K12 hK12 => ?_)
          refine c_reg ?_ -- region 10 const.go:130
          refine wl (ro_cmp rfl rfl rfl) ?_
          refine wl (ro_assign rfl) ?_
          refine wl_nil (x_then (hK12 _ _ ?_))
          clear hK12 K12
          refine wc_cond rfl (fun hc56 => ?_) (fun hc56 => ?_)
          · try simp only [decide_eq_true_eq, decide_eq_false_iff_not, Bool.not_eq_true', Bool.not_eq_false', Bool.not_eq_eq_eq_not, Bool.not_true, Bool.not_false, beq_iff_eq, bne_iff_ne, ne_eq, beq_eq_false_iff_ne, bne_eq_false_iff_eq, gt_iff_lt, ge_iff_le, Int.not_lt, Int.not_le] at hc56
            refine c_seq (fun K13 hK13 => ?_)
            refine c_reg ?_ -- region 11 const.go:131
            refine wl (ro_fieldAddr (k := 1) rfl fo_104_1) ?_
            refine wl (ro_loadB rfl sc_3 (by assumption) rfl) ?_
            refine wl (ro_cmp rfl rfl rfl) ?_
            refine wl_fork rfl (fun hg61 => ?_) (fun hg61 => ?_)
            · try simp only [decide_eq_true_eq, decide_eq_false_iff_not, Bool.not_eq_true', Bool.not_eq_false', Bool.not_eq_eq_eq_not, Bool.not_true, Bool.not_false, beq_iff_eq, bne_iff_ne, ne_eq, beq_eq_false_iff_ne, bne_eq_false_iff_eq, gt_iff_lt, ge_iff_le, Int.not_lt, Int.not_le] at hg61
              refine wlg_yes rfl (ro_fieldAddr (k := 1) rfl fo_104_1) ?_
              refine wlg_yes rfl (ro_loadB rfl sc_3 (by assumption) rfl) ?_
              refine wlg_yes rfl (ro_cmp rfl rfl rfl) ?_
              refine wl (ro_pick rfl rfl rfl) ?_
              refine wl_fork rfl (fun hg66 => ?_) (fun hg66 => ?_)
              · try simp only [decide_eq_true_eq, decide_eq_false_iff_not, Bool.not_eq_true', Bool.not_eq_false', Bool.not_eq_eq_eq_not, Bool.not_true, Bool.not_false, beq_iff_eq, bne_iff_ne, ne_eq, beq_eq_false_iff_ne, bne_eq_false_iff_eq, gt_iff_lt, ge_iff_le, Int.not_lt, Int.not_le] at hg66
                refine wlg_yes rfl (ro_fieldAddr (k := 2) rfl fo_104_2) ?_
                refine wlg_yes rfl (ro_loadB rfl sc_9 (by assumption) rfl) ?_
                refine wlg_yes rfl (ro_eqS rfl rfl rfl) ?_
                refine wl (ro_pick rfl rfl rfl) ?_
                refine wl (ro_assign rfl) ?_
                refine wl_nil (x_then (hK13 _ _ ?_))
                clear hK13 K13
                refine c_ret (x_blkR (x_thenR ?_))
                refine bp_ret Tryz.results142 rfl ?_
                refine ⟨congrArg Value.bool ?_, hF⟩
                unfold lwB
                repeat first | rw [if_pos (by omega)] | rw [if_neg (by omega)]
                all_goals first | rfl | (rw [Bool.eq_iff_iff]; simp [*]; done) | (rw [Bool.eq_iff_iff]; simp; omega)
              · try simp only [decide_eq_true_eq, decide_eq_false_iff_not, Bool.not_eq_true', Bool.not_eq_false', Bool.not_eq_eq_eq_not, Bool.not_true, Bool.not_false, beq_iff_eq, bne_iff_ne, ne_eq, beq_eq_false_iff_ne, bne_eq_false_iff_eq, gt_iff_lt, ge_iff_le, Int.not_lt, Int.not_le] at hg66
                refine wlg_no rfl ?_
                refine wlg_no rfl ?_
                refine wlg_no rfl ?_
                refine wl (ro_pick rfl rfl rfl) ?_
                refine wl (ro_assign rfl) ?_
                refine wl_nil (x_then (hK13 _ _ ?_))
                clear hK13 K13
                refine c_ret (x_blkR (x_thenR ?_))
                refine bp_ret Tryz.results142 rfl ?_
                refine ⟨congrArg Value.bool ?_, hF⟩
                unfold lwB
                repeat first | rw [if_pos (by omega)] | rw [if_neg (by omega)]
                all_goals first | rfl | (rw [Bool.eq_iff_iff]; simp [*]; done) | (rw [Bool.eq_iff_iff]; simp; omega)
            · try simp only [decide_eq_true_eq, decide_eq_false_iff_not, Bool.not_eq_true', Bool.not_eq_false', Bool.not_eq_eq_eq_not, Bool.not_true, Bool.not_false, beq_iff_eq, bne_iff_ne, ne_eq, beq_eq_false_iff_ne, bne_eq_false_iff_eq, gt_iff_lt, ge_iff_le, Int.not_lt, Int.not_le] at hg61
              refine wlg_no rfl ?_
              refine wlg_no rfl ?_
              refine wlg_no rfl ?_
              refine wl (ro_pick rfl rfl rfl) ?_
              refine wl (ro_move rfl) ?_
              refine wlg_no rfl ?_
              refine wlg_no rfl ?_
              refine wlg_no rfl ?_
              refine wl (ro_pick rfl rfl rfl) ?_
              refine wl (ro_assign rfl) ?_
              refine wl_nil (x_then (hK13 _ _ ?_))
              clear hK13 K13
              refine c_ret (x_blkR (x_thenR ?_))
              refine bp_ret Tryz.results142 rfl ?_
              refine ⟨congrArg Value.bool ?_, hF⟩
              unfold lwB
              repeat first | rw [if_pos (by omega)] | rw [if_neg (by omega)]
              all_goals first | rfl | (rw [Bool.eq_iff_iff]; simp [*]; done) | (rw [Bool.eq_iff_iff]; simp; omega)
          · try simp only [decide_eq_true_eq, decide_eq_false_iff_not, Bool.not_eq_true', Bool.not_eq_false', Bool.not_eq_eq_eq_not, Bool.not_true, Bool.not_false, beq_iff_eq, bne_iff_ne, ne_eq, beq_eq_false_iff_ne, bne_eq_false_iff_eq, gt_iff_lt, ge_iff_le, Int.not_lt, Int.not_le] at hc56
            refine c_skip (x_blk (x_then (hK2 _ _ ?_)))
            clear hK2 K2
            refine forget [] trivial (fun e => ?_)
            refine c_seq (fun K14 hK14 => ?_)
            refine c_reg ?_ -- region 12 const.go:133
            refine wl (ro_assign rfl) ?_
            refine wl_nil (x_then (hK14 _ _ ?_))
            clear hK14 K14
            refine c_ret ?_
            refine bp_ret Tryz.results142 rfl ?_
            refine ⟨congrArg Value.bool ?_, hF⟩
            unfold lwB
            repeat first | rw [if_pos (by omega)] | rw [if_neg (by omega)]
            all_goals first | rfl | (rw [Bool.eq_iff_iff]; simp [*]; done) | (rw [Bool.eq_iff_iff]; simp; omega)

end Go.Proofs.Qxb6500570aGreat
