import Derived.Test.Qxb6500570aGreatDk
/- The model: two operands. -/
namespace Go.Proofs.Qxb6500570aGreat
set_option linter.unusedVariables false
set_option linter.unusedSimpArgs false

theorem wdV_iff {x : Vl} : wdV x = true ↔ (x.k = 2 ∨ x.k = 0) := by unfold wdV; simp
theorem wdV_no {x : Vl} : wdV x = false ↔ ¬ (x.k = 2 ∨ x.k = 0) := by unfold wdV; simp
theorem cntV_no {x : Vl} : cntV x = false ↔ ¬ (x.k = 1 ∨ x.k = 0) := by unfold cntV; simp
theorem judge_eq {op : Nat} {s : Int} (h : op = 1) : judge op s = vB (s == 0) := by unfold judge; rw [if_pos h]; rfl
theorem judge_ne {op : Nat} {s : Int} (h : op = 2) : judge op s = vB (s != 0) := by
  unfold judge; rw [if_neg (by omega), if_pos h]
  congr 1
  by_cases e : s = 0 <;> simp [e]
theorem judge_lt {op : Nat} {s : Int} (h : op = 3) : judge op s = vB (decide (s < 0)) := by unfold judge; rw [if_neg (by omega), if_neg (by omega), if_pos h]
theorem judge_le {op : Nat} {s : Int} (h : op = 4) : judge op s = vB (decide (s ≤ 0)) := by unfold judge; rw [if_neg (by omega), if_neg (by omega), if_neg (by omega), if_pos h]
theorem judge_gt {op : Nat} {s : Int} (h : op = 5) : judge op s = vB (decide (s > 0)) := by unfold judge; rw [if_neg (by omega), if_neg (by omega), if_neg (by omega), if_neg (by omega), if_pos h]
theorem judge_ge {op : Nat} {s : Int} (h1 : op ≠ 1) (h2 : op ≠ 2) (h3 : op ≠ 3) (h4 : op ≠ 4) (h5 : op ≠ 5) : judge op s = vB (decide (s ≥ 0)) := by unfold judge; rw [if_neg h1, if_neg h2, if_neg h3, if_neg h4, if_neg h5]

set_option maxHeartbeats 8000000 in
theorem Binary214 {w : World} {op : Nat} {x y : Vl} (hx : Lw x) (hy : Lw y) (ho : op ≤ 10) : Ret Tryz.prog 214 [i64c op, vlA x, vlA y] w (fun v w' => v = vlA (binV op x y) ∧ Fram none' w w') := by
  have hF : Fram none' w w := Fram.refl _ _
  have hbx := hx.bd
  have hby := hy.bd
  have hax := amt_bd hx
  have hay := amt_bd hy
  have hmm := mul_bd hax hay
  have hdd := tdiv_bd (a := amt x) (b := amt y) hax
  refine ret_of Tryz.func214 rfl Tryz.ntmps214 rfl ?_
  refine c_seq (fun K1 hK1 => ?_)
  refine c_reg ?_ -- region 0 eval.go:148
  refine wl_box rfl rfl (fun b4 w1 hbb4 h4 F1 => ?_)
  have hbsb4 := Nat.le_trans hF.size hbb4
  replace hF := hF.thenDrew.thenN F1
  refine wl_box rfl rfl (fun b5 w2 hbb5 h5 F2 => ?_)
  have hbsb5 := Nat.le_trans hF.size hbb5
  have hneb4b5 : b4 < b5 := Nat.lt_of_lt_of_le h4.lt hbb5
  replace hF := hF.thenDrew.thenN F2
  replace h4 := F2.blkN h4
  refine wl_new (ze_104) (fun b6 w3 hbb6 h6 F3 => ?_)
  have hbsb6 := Nat.le_trans hF.size hbb6
  have hneb4b6 : b4 < b6 := Nat.lt_of_lt_of_le h4.lt hbb6
  have hneb5b6 : b5 < b6 := Nat.lt_of_lt_of_le h5.lt hbb6
  replace hF := hF.thenDrew.thenN F3
  replace h4 := F3.blkN h4
  replace h5 := F3.blkN h5
  refine wl_nil (x_then (hK1 _ _ ?_))
  clear hK1 K1
  refine c_seq (fun K2 hK2 => ?_)
  refine c_seq (fun K3 hK3 => ?_)
  refine c_reg ?_ -- region 1 eval.go:149
  refine wl (ro_fieldAddr (k := 0) rfl fo_104_0) ?_
  refine wl (ro_loadB rfl sc_3 (by assumption) rfl) ?_
  refine wl (ro_cmp rfl rfl rfl) ?_
  refine wl_nil (x_then (hK3 _ _ ?_))
  clear hK3 K3
  refine wc_cond rfl (fun hc14 => ?_) (fun hc14 => ?_)
  · try simp only [decide_eq_true_eq, decide_eq_false_iff_not, Bool.not_eq_true', Bool.not_eq_false', Bool.not_eq_eq_eq_not, Bool.not_true, Bool.not_false, beq_iff_eq, bne_iff_ne, ne_eq, beq_eq_false_iff_ne, bne_eq_false_iff_eq, gt_iff_lt, ge_iff_le, Int.not_lt, Int.not_le] at hc14
    refine c_seq (fun K4 hK4 => ?_)
    refine c_reg ?_ -- region 2 eval.go:150
    refine wl (ro_loadAggB rfl ag_104 (by assumption) rfl rfl) ?_
    refine wl_puta rfl rfl ((by (try exact vlc_cells _); all_goals simp [Value.oneCell', i64c, icv, u64c, u8c, ptr, S])) sz_104 (rfl) h6 ((by simp)) (rfl) (fun w4 h6 F4 => ?_)
    replace hF := hF.thenDrew.thenO F4 (by first | exact .inr (by omega) | exact .inl rfl | exact .inl (by assumption))
    replace h4 := F4.blkO h4 (by omega)
    replace h5 := F4.blkO h5 (by omega)
    refine wl_nil (x_then (hK4 _ _ ?_))
    clear hK4 K4
    refine c_ret (x_thenR ?_)
    refine bq_ret (res1 Tryz.results214 (rv_c rfl ag_104 (h6) rfl)) ?_
    refine ⟨?_, hF⟩
    first
      | (unfold binV; rw [if_pos (by omega)]; rfl)
      | (unfold binV; rw [if_neg (by omega), if_pos (by omega)]; rfl)
      | (rw [hjs]
         first
           | (rw [judge_eq (by omega)]; rfl)
           | (rw [judge_ne (by omega)]; rfl)
           | (rw [judge_lt (by omega)]; rfl)
           | (rw [judge_le (by omega)]; rfl)
           | (rw [judge_gt (by omega)]; rfl)
           | (rw [judge_ge (by omega) (by omega) (by omega) (by omega) (by omega)]; rfl))
      | (have hcx : cntV x = true := by assumption
         have hcy : cntV y = true := by assumption
         rw [binV_num (by omega) (by omega) hcx hcy, if_pos (by omega)]
         unfold reckon
         repeat first | rw [if_pos (by omega)] | rw [if_neg (by omega)]
         rfl)
      | (have hcn : cntV x = false ∨ cntV y = false := by first | exact .inl (by assumption) | exact .inr (by assumption)
         rw [binV_not (by omega) (by omega) hcn, if_pos (by omega)]
         rfl)
      | (have hcn : cntV x = false ∨ cntV y = false := by first | exact .inl (by assumption) | exact .inr (by assumption)
         have hwd : wdV x = false ∨ wdV y = false := by
           by_cases e1 : x.k = 2 ∨ x.k = 0
           · exact .inr (wdV_no.2 (by omega))
           · exact .inl (wdV_no.2 e1)
         rw [binV_no (by omega) (by omega) hcn (by omega) hwd, if_neg (by omega)]
         rfl)
  · try simp only [decide_eq_true_eq, decide_eq_false_iff_not, Bool.not_eq_true', Bool.not_eq_false', Bool.not_eq_eq_eq_not, Bool.not_true, Bool.not_false, beq_iff_eq, bne_iff_ne, ne_eq, beq_eq_false_iff_ne, bne_eq_false_iff_eq, gt_iff_lt, ge_iff_le, Int.not_lt, Int.not_le] at hc14
    refine c_skip (x_then (hK2 _ _ ?_))
    clear hK2 K2
    refine c_seq (fun K5 hK5 => ?_)
    refine c_seq (fun K6 hK6 => ?_)
    refine c_reg ?_ -- region 3 eval.go:152
    refine wl (ro_fieldAddr (k := 0) rfl fo_104_0) ?_
    refine wl (ro_loadB rfl sc_3 (by assumption) rfl) ?_
    refine wl (ro_cmp rfl rfl rfl) ?_
    refine wl_nil (x_then (hK6 _ _ ?_))
    clear hK6 K6
    refine wc_cond rfl (fun hc18 => ?_) (fun hc18 => ?_)
    · try simp only [decide_eq_true_eq, decide_eq_false_iff_not, Bool.not_eq_true', Bool.not_eq_false', Bool.not_eq_eq_eq_not, Bool.not_true, Bool.not_false, beq_iff_eq, bne_iff_ne, ne_eq, beq_eq_false_iff_ne, bne_eq_false_iff_eq, gt_iff_lt, ge_iff_le, Int.not_lt, Int.not_le] at hc18
      refine c_seq (fun K7 hK7 => ?_)
      refine c_reg ?_ -- region 4 eval.go:153
      refine wl (ro_loadAggB rfl ag_104 (by assumption) rfl rfl) ?_
      refine wl_puta rfl rfl ((by (try exact vlc_cells _); all_goals simp [Value.oneCell', i64c, icv, u64c, u8c, ptr, S])) sz_104 (rfl) h6 ((by simp)) (rfl) (fun w5 h6 F5 => ?_)
      replace hF := hF.thenDrew.thenO F5 (by first | exact .inr (by omega) | exact .inl rfl | exact .inl (by assumption))
      replace h4 := F5.blkO h4 (by omega)
      replace h5 := F5.blkO h5 (by omega)
      refine wl_nil (x_then (hK7 _ _ ?_))
      clear hK7 K7
      refine c_ret (x_thenR ?_)
      refine bq_ret (res1 Tryz.results214 (rv_c rfl ag_104 (h6) rfl)) ?_
      refine ⟨?_, hF⟩
      first
        | (unfold binV; rw [if_pos (by omega)]; rfl)
        | (unfold binV; rw [if_neg (by omega), if_pos (by omega)]; rfl)
        | (rw [hjs]
           first
             | (rw [judge_eq (by omega)]; rfl)
             | (rw [judge_ne (by omega)]; rfl)
             | (rw [judge_lt (by omega)]; rfl)
             | (rw [judge_le (by omega)]; rfl)
             | (rw [judge_gt (by omega)]; rfl)
             | (rw [judge_ge (by omega) (by omega) (by omega) (by omega) (by omega)]; rfl))
        | (have hcx : cntV x = true := by assumption
           have hcy : cntV y = true := by assumption
           rw [binV_num (by omega) (by omega) hcx hcy, if_pos (by omega)]
           unfold reckon
           repeat first | rw [if_pos (by omega)] | rw [if_neg (by omega)]
           rfl)
        | (have hcn : cntV x = false ∨ cntV y = false := by first | exact .inl (by assumption) | exact .inr (by assumption)
           rw [binV_not (by omega) (by omega) hcn, if_pos (by omega)]
           rfl)
        | (have hcn : cntV x = false ∨ cntV y = false := by first | exact .inl (by assumption) | exact .inr (by assumption)
           have hwd : wdV x = false ∨ wdV y = false := by
             by_cases e1 : x.k = 2 ∨ x.k = 0
             · exact .inr (wdV_no.2 (by omega))
             · exact .inl (wdV_no.2 e1)
           rw [binV_no (by omega) (by omega) hcn (by omega) hwd, if_neg (by omega)]
           rfl)
    · try simp only [decide_eq_true_eq, decide_eq_false_iff_not, Bool.not_eq_true', Bool.not_eq_false', Bool.not_eq_eq_eq_not, Bool.not_true, Bool.not_false, beq_iff_eq, bne_iff_ne, ne_eq, beq_eq_false_iff_ne, bne_eq_false_iff_eq, gt_iff_lt, ge_iff_le, Int.not_lt, Int.not_le] at hc18
      refine c_skip (x_then (hK5 _ _ ?_))
      clear hK5 K5
      refine forget [(0, _), (4, _), (5, _), (6, _)] ⟨rfl, rfl, rfl, rfl, trivial⟩ (fun e => ?_)
      refine c_seq (fun K8 hK8 => ?_)
      refine c_reg ?_ -- region 5 eval.go:155
      refine wl (ro_loadAggB rfl ag_104 (by assumption) rfl rfl) ?_
      refine wl_call rfl en_226 (number226) ?_
      rintro _ w6 ⟨rfl, F6⟩
      replace hF := hF.thenDrew.thenN F6
      replace h4 := F6.blkN h4
      replace h5 := F6.blkN h5
      replace h6 := F6.blkN h6
      refine wl (ro_move rfl) ?_
      refine wl (ro_extract rfl rfl) ?_
      refine wl (ro_extract rfl rfl) ?_
      refine wl (ro_assign rfl) ?_
      refine wl (ro_assign rfl) ?_
      refine wl_nil (x_then (hK8 _ _ ?_))
      clear hK8 K8
      refine forget [(0, _), (4, _), (5, _), (6, _), (7, _), (8, _)] ⟨rfl, rfl, rfl, rfl, rfl, rfl, trivial⟩ (fun e => ?_)
      refine c_seq (fun K9 hK9 => ?_)
      refine c_reg ?_ -- region 6 eval.go:156
      refine wl (ro_loadAggB rfl ag_104 (by assumption) rfl rfl) ?_
      refine wl_call rfl en_226 (number226) ?_
      rintro _ w7 ⟨rfl, F7⟩
      replace hF := hF.thenDrew.thenN F7
      replace h4 := F7.blkN h4
      replace h5 := F7.blkN h5
      replace h6 := F7.blkN h6
      refine wl (ro_move rfl) ?_
      refine wl (ro_extract rfl rfl) ?_
      refine wl (ro_extract rfl rfl) ?_
      refine wl (ro_assign rfl) ?_
      refine wl (ro_assign rfl) ?_
      refine wl_nil (x_then (hK9 _ _ ?_))
      clear hK9 K9
      refine c_seq (fun K10 hK10 => ?_)
      refine c_seq (fun K11 hK11 => ?_)
      refine c_reg ?_ -- region 7 eval.go:157
      refine wl (ro_move rfl) ?_
      refine wl (ro_cmp rfl rfl rfl) ?_
      refine wl_nil (x_then (hK11 _ _ ?_))
      clear hK11 K11
      refine wc_cond rfl (fun hc31 => ?_) (fun hc31 => ?_)
      · try simp only [decide_eq_true_eq, decide_eq_false_iff_not, Bool.not_eq_true', Bool.not_eq_false', Bool.not_eq_eq_eq_not, Bool.not_true, Bool.not_false, beq_iff_eq, bne_iff_ne, ne_eq, beq_eq_false_iff_ne, bne_eq_false_iff_eq, gt_iff_lt, ge_iff_le, Int.not_lt, Int.not_le] at hc31
        refine c_seq (fun K12 hK12 => ?_)
        refine c_seq (fun K13 hK13 => ?_)
        refine c_reg ?_ -- region 8 eval.go:158
        refine wl (ro_move rfl) ?_
        refine wl (ro_not rfl) ?_
        refine wl_fork rfl (fun hg34 => ?_) (fun hg34 => ?_)
        · try simp only [decide_eq_true_eq, decide_eq_false_iff_not, Bool.not_eq_true', Bool.not_eq_false', Bool.not_eq_eq_eq_not, Bool.not_true, Bool.not_false, beq_iff_eq, bne_iff_ne, ne_eq, beq_eq_false_iff_ne, bne_eq_false_iff_eq, gt_iff_lt, ge_iff_le, Int.not_lt, Int.not_le] at hg34
          refine wlg_no rfl ?_
          refine wlg_no rfl ?_
          refine wl (ro_pick rfl rfl rfl) ?_
          refine wl_nil (x_then (hK13 _ _ ?_))
          clear hK13 K13
          refine wc_condT rfl ?_
          refine c_seq (fun K14 hK14 => ?_)
          refine c_reg ?_ -- region 9 eval.go:159
          refine wl_call rfl en_116 (Err116) ?_
          rintro _ w8 ⟨rfl, F8⟩
          replace hF := hF.thenDrew.thenN F8
          replace h4 := F8.blkN h4
          replace h5 := F8.blkN h5
          replace h6 := F8.blkN h6
          refine wl_puta rfl rfl ((by (try exact vlc_cells _); all_goals simp [Value.oneCell', i64c, icv, u64c, u8c, ptr, S])) sz_104 (rfl) h6 ((by simp)) (rfl) (fun w9 h6 F9 => ?_)
          replace hF := hF.thenDrew.thenO F9 (by first | exact .inr (by omega) | exact .inl rfl | exact .inl (by assumption))
          replace h4 := F9.blkO h4 (by omega)
          replace h5 := F9.blkO h5 (by omega)
          refine wl_nil (x_then (hK14 _ _ ?_))
          clear hK14 K14
          refine c_ret (x_thenR (x_thenR ?_))
          refine bq_ret (res1 Tryz.results214 (rv_c rfl ag_104 (h6) rfl)) ?_
          refine ⟨?_, hF⟩
          first
            | (unfold binV; rw [if_pos (by omega)]; rfl)
            | (unfold binV; rw [if_neg (by omega), if_pos (by omega)]; rfl)
            | (rw [hjs]
               first
                 | (rw [judge_eq (by omega)]; rfl)
                 | (rw [judge_ne (by omega)]; rfl)
                 | (rw [judge_lt (by omega)]; rfl)
                 | (rw [judge_le (by omega)]; rfl)
                 | (rw [judge_gt (by omega)]; rfl)
                 | (rw [judge_ge (by omega) (by omega) (by omega) (by omega) (by omega)]; rfl))
            | (have hcx : cntV x = true := by assumption
               have hcy : cntV y = true := by assumption
               rw [binV_num (by omega) (by omega) hcx hcy, if_pos (by omega)]
               unfold reckon
               repeat first | rw [if_pos (by omega)] | rw [if_neg (by omega)]
               rfl)
            | (have hcn : cntV x = false ∨ cntV y = false := by first | exact .inl (by assumption) | exact .inr (by assumption)
               rw [binV_not (by omega) (by omega) hcn, if_pos (by omega)]
               rfl)
            | (have hcn : cntV x = false ∨ cntV y = false := by first | exact .inl (by assumption) | exact .inr (by assumption)
               have hwd : wdV x = false ∨ wdV y = false := by
                 by_cases e1 : x.k = 2 ∨ x.k = 0
                 · exact .inr (wdV_no.2 (by omega))
                 · exact .inl (wdV_no.2 e1)
               rw [binV_no (by omega) (by omega) hcn (by omega) hwd, if_neg (by omega)]
               rfl)
        · try simp only [decide_eq_true_eq, decide_eq_false_iff_not, Bool.not_eq_true', Bool.not_eq_false', Bool.not_eq_eq_eq_not, Bool.not_true, Bool.not_false, beq_iff_eq, bne_iff_ne, ne_eq, beq_eq_false_iff_ne, bne_eq_false_iff_eq, gt_iff_lt, ge_iff_le, Int.not_lt, Int.not_le] at hg34
          refine wlg_yes rfl (ro_move rfl) ?_
          refine wlg_yes rfl (ro_not rfl) ?_
          refine wl (ro_pick rfl rfl rfl) ?_
          refine wl_nil (x_then (hK13 _ _ ?_))
          clear hK13 K13
          refine wc_cond rfl (fun hc37 => ?_) (fun hc37 => ?_)
          · try simp only [decide_eq_true_eq, decide_eq_false_iff_not, Bool.not_eq_true', Bool.not_eq_false', Bool.not_eq_eq_eq_not, Bool.not_true, Bool.not_false, beq_iff_eq, bne_iff_ne, ne_eq, beq_eq_false_iff_ne, bne_eq_false_iff_eq, gt_iff_lt, ge_iff_le, Int.not_lt, Int.not_le] at hc37
            refine c_seq (fun K15 hK15 => ?_)
            refine c_reg ?_ -- region 9 eval.go:159
            refine wl_call rfl en_116 (Err116) ?_
            rintro _ w10 ⟨rfl, F10⟩
            replace hF := hF.thenDrew.thenN F10
            replace h4 := F10.blkN h4
            replace h5 := F10.blkN h5
            replace h6 := F10.blkN h6
            refine wl_puta rfl rfl ((by (try exact vlc_cells _); all_goals simp [Value.oneCell', i64c, icv, u64c, u8c, ptr, S])) sz_104 (rfl) h6 ((by simp)) (rfl) (fun w11 h6 F11 => ?_)
            replace hF := hF.thenDrew.thenO F11 (by first | exact .inr (by omega) | exact .inl rfl | exact .inl (by assumption))
            replace h4 := F11.blkO h4 (by omega)
            replace h5 := F11.blkO h5 (by omega)
            refine wl_nil (x_then (hK15 _ _ ?_))
            clear hK15 K15
            refine c_ret (x_thenR (x_thenR ?_))
            refine bq_ret (res1 Tryz.results214 (rv_c rfl ag_104 (h6) rfl)) ?_
            refine ⟨?_, hF⟩
            first
              | (unfold binV; rw [if_pos (by omega)]; rfl)
              | (unfold binV; rw [if_neg (by omega), if_pos (by omega)]; rfl)
              | (rw [hjs]
                 first
                   | (rw [judge_eq (by omega)]; rfl)
                   | (rw [judge_ne (by omega)]; rfl)
                   | (rw [judge_lt (by omega)]; rfl)
                   | (rw [judge_le (by omega)]; rfl)
                   | (rw [judge_gt (by omega)]; rfl)
                   | (rw [judge_ge (by omega) (by omega) (by omega) (by omega) (by omega)]; rfl))
              | (have hcx : cntV x = true := by assumption
                 have hcy : cntV y = true := by assumption
                 rw [binV_num (by omega) (by omega) hcx hcy, if_pos (by omega)]
                 unfold reckon
                 repeat first | rw [if_pos (by omega)] | rw [if_neg (by omega)]
                 rfl)
              | (have hcn : cntV x = false ∨ cntV y = false := by first | exact .inl (by assumption) | exact .inr (by assumption)
                 rw [binV_not (by omega) (by omega) hcn, if_pos (by omega)]
                 rfl)
              | (have hcn : cntV x = false ∨ cntV y = false := by first | exact .inl (by assumption) | exact .inr (by assumption)
                 have hwd : wdV x = false ∨ wdV y = false := by
                   by_cases e1 : x.k = 2 ∨ x.k = 0
                   · exact .inr (wdV_no.2 (by omega))
                   · exact .inl (wdV_no.2 e1)
                 rw [binV_no (by omega) (by omega) hcn (by omega) hwd, if_neg (by omega)]
                 rfl)
          · try simp only [decide_eq_true_eq, decide_eq_false_iff_not, Bool.not_eq_true', Bool.not_eq_false', Bool.not_eq_eq_eq_not, Bool.not_true, Bool.not_false, beq_iff_eq, bne_iff_ne, ne_eq, beq_eq_false_iff_ne, bne_eq_false_iff_eq, gt_iff_lt, ge_iff_le, Int.not_lt, Int.not_le] at hc37
            refine c_skip (x_then (hK12 _ _ ?_))
            clear hK12 K12
            refine c_seq (fun K16 hK16 => ?_)
            refine c_seq (fun K17 hK17 => ?_)
            refine c_reg ?_ -- region 10 eval.go:161
            refine wl (ro_move rfl) ?_
            refine wl_nil (x_then (hK17 _ _ ?_))
            clear hK17 K17
            refine c_block ?_
            refine forget [(6, _), (7, _), (9, _), (39, _)] ⟨rfl, rfl, rfl, rfl, trivial⟩ (fun e => ?_)
            refine c_seq (fun K18 hK18 => ?_)
            refine c_reg ?_ -- region 11 eval.go:162
            refine wl (ro_cmp rfl rfl rfl) ?_
            refine wl (ro_assign rfl) ?_
            refine wl_nil (x_then (hK18 _ _ ?_))
            clear hK18 K18
            refine wc_cond rfl (fun hc40 => ?_) (fun hc40 => ?_)
            · try simp only [decide_eq_true_eq, decide_eq_false_iff_not, Bool.not_eq_true', Bool.not_eq_false', Bool.not_eq_eq_eq_not, Bool.not_true, Bool.not_false, beq_iff_eq, bne_iff_ne, ne_eq, beq_eq_false_iff_ne, bne_eq_false_iff_eq, gt_iff_lt, ge_iff_le, Int.not_lt, Int.not_le] at hc40
              refine c_seq (fun K19 hK19 => ?_)
              refine c_reg ?_ -- region 12 eval.go:163
              refine wl (ro_move rfl) ?_
              refine wl (ro_move rfl) ?_
              refine wl (ro_arith rfl rfl rfl (Go.IntWalk.i64_in _ (by omega))) ?_
              refine wl_call rfl en_225 (Num225) ?_
              rintro _ w12 ⟨rfl, F12⟩
              replace hF := hF.thenDrew.thenN F12
              replace h4 := F12.blkN h4
              replace h5 := F12.blkN h5
              replace h6 := F12.blkN h6
              refine wl_puta rfl rfl ((by (try exact vlc_cells _); all_goals simp [Value.oneCell', i64c, icv, u64c, u8c, ptr, S])) sz_104 (rfl) h6 ((by simp)) (rfl) (fun w13 h6 F13 => ?_)
              replace hF := hF.thenDrew.thenO F13 (by first | exact .inr (by omega) | exact .inl rfl | exact .inl (by assumption))
              replace h4 := F13.blkO h4 (by omega)
              replace h5 := F13.blkO h5 (by omega)
              refine wl_nil (x_then (hK19 _ _ ?_))
              clear hK19 K19
              refine c_ret (x_blkR (x_thenR (x_thenR ?_)))
              refine bq_ret (res1 Tryz.results214 (rv_c rfl ag_104 (h6) rfl)) ?_
              refine ⟨?_, hF⟩
              first
                | (unfold binV; rw [if_pos (by omega)]; rfl)
                | (unfold binV; rw [if_neg (by omega), if_pos (by omega)]; rfl)
                | (rw [hjs]
                   first
                     | (rw [judge_eq (by omega)]; rfl)
                     | (rw [judge_ne (by omega)]; rfl)
                     | (rw [judge_lt (by omega)]; rfl)
                     | (rw [judge_le (by omega)]; rfl)
                     | (rw [judge_gt (by omega)]; rfl)
                     | (rw [judge_ge (by omega) (by omega) (by omega) (by omega) (by omega)]; rfl))
                | (have hcx : cntV x = true := by assumption
                   have hcy : cntV y = true := by assumption
                   rw [binV_num (by omega) (by omega) hcx hcy, if_pos (by omega)]
                   unfold reckon
                   repeat first | rw [if_pos (by omega)] | rw [if_neg (by omega)]
                   rfl)
                | (have hcn : cntV x = false ∨ cntV y = false := by first | exact .inl (by assumption) | exact .inr (by assumption)
                   rw [binV_not (by omega) (by omega) hcn, if_pos (by omega)]
                   rfl)
                | (have hcn : cntV x = false ∨ cntV y = false := by first | exact .inl (by assumption) | exact .inr (by assumption)
                   have hwd : wdV x = false ∨ wdV y = false := by
                     by_cases e1 : x.k = 2 ∨ x.k = 0
                     · exact .inr (wdV_no.2 (by omega))
                     · exact .inl (wdV_no.2 e1)
                   rw [binV_no (by omega) (by omega) hcn (by omega) hwd, if_neg (by omega)]
                   rfl)
            · try simp only [decide_eq_true_eq, decide_eq_false_iff_not, Bool.not_eq_true', Bool.not_eq_false', Bool.not_eq_eq_eq_not, Bool.not_true, Bool.not_false, beq_iff_eq, bne_iff_ne, ne_eq, beq_eq_false_iff_ne, bne_eq_false_iff_eq, gt_iff_lt, ge_iff_le, Int.not_lt, Int.not_le] at hc40
              refine c_seq (fun K20 hK20 => ?_)
              refine c_reg ?_ -- region 13 eval.go:164
              refine wl (ro_cmp rfl rfl rfl) ?_
              refine wl (ro_assign rfl) ?_
              refine wl_nil (x_then (hK20 _ _ ?_))
              clear hK20 K20
              refine wc_cond rfl (fun hc46 => ?_) (fun hc46 => ?_)
              · try simp only [decide_eq_true_eq, decide_eq_false_iff_not, Bool.not_eq_true', Bool.not_eq_false', Bool.not_eq_eq_eq_not, Bool.not_true, Bool.not_false, beq_iff_eq, bne_iff_ne, ne_eq, beq_eq_false_iff_ne, bne_eq_false_iff_eq, gt_iff_lt, ge_iff_le, Int.not_lt, Int.not_le] at hc46
                refine c_seq (fun K21 hK21 => ?_)
                refine c_reg ?_ -- region 14 eval.go:165
                refine wl (ro_move rfl) ?_
                refine wl (ro_move rfl) ?_
                refine wl (ro_arith rfl rfl rfl (Go.IntWalk.i64_in _ (by omega))) ?_
                refine wl_call rfl en_225 (Num225) ?_
                rintro _ w14 ⟨rfl, F14⟩
                replace hF := hF.thenDrew.thenN F14
                replace h4 := F14.blkN h4
                replace h5 := F14.blkN h5
                replace h6 := F14.blkN h6
                refine wl_puta rfl rfl ((by (try exact vlc_cells _); all_goals simp [Value.oneCell', i64c, icv, u64c, u8c, ptr, S])) sz_104 (rfl) h6 ((by simp)) (rfl) (fun w15 h6 F15 => ?_)
                replace hF := hF.thenDrew.thenO F15 (by first | exact .inr (by omega) | exact .inl rfl | exact .inl (by assumption))
                replace h4 := F15.blkO h4 (by omega)
                replace h5 := F15.blkO h5 (by omega)
                refine wl_nil (x_then (hK21 _ _ ?_))
                clear hK21 K21
                refine c_ret (x_blkR (x_thenR (x_thenR ?_)))
                refine bq_ret (res1 Tryz.results214 (rv_c rfl ag_104 (h6) rfl)) ?_
                refine ⟨?_, hF⟩
                first
                  | (unfold binV; rw [if_pos (by omega)]; rfl)
                  | (unfold binV; rw [if_neg (by omega), if_pos (by omega)]; rfl)
                  | (rw [hjs]
                     first
                       | (rw [judge_eq (by omega)]; rfl)
                       | (rw [judge_ne (by omega)]; rfl)
                       | (rw [judge_lt (by omega)]; rfl)
                       | (rw [judge_le (by omega)]; rfl)
                       | (rw [judge_gt (by omega)]; rfl)
                       | (rw [judge_ge (by omega) (by omega) (by omega) (by omega) (by omega)]; rfl))
                  | (have hcx : cntV x = true := by assumption
                     have hcy : cntV y = true := by assumption
                     rw [binV_num (by omega) (by omega) hcx hcy, if_pos (by omega)]
                     unfold reckon
                     repeat first | rw [if_pos (by omega)] | rw [if_neg (by omega)]
                     rfl)
                  | (have hcn : cntV x = false ∨ cntV y = false := by first | exact .inl (by assumption) | exact .inr (by assumption)
                     rw [binV_not (by omega) (by omega) hcn, if_pos (by omega)]
                     rfl)
                  | (have hcn : cntV x = false ∨ cntV y = false := by first | exact .inl (by assumption) | exact .inr (by assumption)
                     have hwd : wdV x = false ∨ wdV y = false := by
                       by_cases e1 : x.k = 2 ∨ x.k = 0
                       · exact .inr (wdV_no.2 (by omega))
                       · exact .inl (wdV_no.2 e1)
                     rw [binV_no (by omega) (by omega) hcn (by omega) hwd, if_neg (by omega)]
                     rfl)
              · try simp only [decide_eq_true_eq, decide_eq_false_iff_not, Bool.not_eq_true', Bool.not_eq_false', Bool.not_eq_eq_eq_not, Bool.not_true, Bool.not_false, beq_iff_eq, bne_iff_ne, ne_eq, beq_eq_false_iff_ne, bne_eq_false_iff_eq, gt_iff_lt, ge_iff_le, Int.not_lt, Int.not_le] at hc46
                refine c_seq (fun K22 hK22 => ?_)
                refine c_reg ?_ -- region 15 eval.go:166
                refine wl (ro_cmp rfl rfl rfl) ?_
                refine wl (ro_assign rfl) ?_
                refine wl_nil (x_then (hK22 _ _ ?_))
                clear hK22 K22
                refine wc_cond rfl (fun hc52 => ?_) (fun hc52 => ?_)
                · try simp only [decide_eq_true_eq, decide_eq_false_iff_not, Bool.not_eq_true', Bool.not_eq_false', Bool.not_eq_eq_eq_not, Bool.not_true, Bool.not_false, beq_iff_eq, bne_iff_ne, ne_eq, beq_eq_false_iff_ne, bne_eq_false_iff_eq, gt_iff_lt, ge_iff_le, Int.not_lt, Int.not_le] at hc52
                  refine c_seq (fun K23 hK23 => ?_)
                  refine c_reg ?_ -- region 16 eval.go:167
                  refine wl (ro_move rfl) ?_
                  refine wl (ro_move rfl) ?_
                  refine wl (ro_arith rfl rfl rfl (Go.IntWalk.i64_in _ (by omega))) ?_
                  refine wl_call rfl en_225 (Num225) ?_
                  rintro _ w16 ⟨rfl, F16⟩
                  replace hF := hF.thenDrew.thenN F16
                  replace h4 := F16.blkN h4
                  replace h5 := F16.blkN h5
                  replace h6 := F16.blkN h6
                  refine wl_puta rfl rfl ((by (try exact vlc_cells _); all_goals simp [Value.oneCell', i64c, icv, u64c, u8c, ptr, S])) sz_104 (rfl) h6 ((by simp)) (rfl) (fun w17 h6 F17 => ?_)
                  replace hF := hF.thenDrew.thenO F17 (by first | exact .inr (by omega) | exact .inl rfl | exact .inl (by assumption))
                  replace h4 := F17.blkO h4 (by omega)
                  replace h5 := F17.blkO h5 (by omega)
                  refine wl_nil (x_then (hK23 _ _ ?_))
                  clear hK23 K23
                  refine c_ret (x_blkR (x_thenR (x_thenR ?_)))
                  refine bq_ret (res1 Tryz.results214 (rv_c rfl ag_104 (h6) rfl)) ?_
                  refine ⟨?_, hF⟩
                  first
                    | (unfold binV; rw [if_pos (by omega)]; rfl)
                    | (unfold binV; rw [if_neg (by omega), if_pos (by omega)]; rfl)
                    | (rw [hjs]
                       first
                         | (rw [judge_eq (by omega)]; rfl)
                         | (rw [judge_ne (by omega)]; rfl)
                         | (rw [judge_lt (by omega)]; rfl)
                         | (rw [judge_le (by omega)]; rfl)
                         | (rw [judge_gt (by omega)]; rfl)
                         | (rw [judge_ge (by omega) (by omega) (by omega) (by omega) (by omega)]; rfl))
                    | (have hcx : cntV x = true := by assumption
                       have hcy : cntV y = true := by assumption
                       rw [binV_num (by omega) (by omega) hcx hcy, if_pos (by omega)]
                       unfold reckon
                       repeat first | rw [if_pos (by omega)] | rw [if_neg (by omega)]
                       rfl)
                    | (have hcn : cntV x = false ∨ cntV y = false := by first | exact .inl (by assumption) | exact .inr (by assumption)
                       rw [binV_not (by omega) (by omega) hcn, if_pos (by omega)]
                       rfl)
                    | (have hcn : cntV x = false ∨ cntV y = false := by first | exact .inl (by assumption) | exact .inr (by assumption)
                       have hwd : wdV x = false ∨ wdV y = false := by
                         by_cases e1 : x.k = 2 ∨ x.k = 0
                         · exact .inr (wdV_no.2 (by omega))
                         · exact .inl (wdV_no.2 e1)
                       rw [binV_no (by omega) (by omega) hcn (by omega) hwd, if_neg (by omega)]
                       rfl)
                · try simp only [decide_eq_true_eq, decide_eq_false_iff_not, Bool.not_eq_true', Bool.not_eq_false', Bool.not_eq_eq_eq_not, Bool.not_true, Bool.not_false, beq_iff_eq, bne_iff_ne, ne_eq, beq_eq_false_iff_ne, bne_eq_false_iff_eq, gt_iff_lt, ge_iff_le, Int.not_lt, Int.not_le] at hc52
                  refine c_skip (x_blk (x_then (hK16 _ _ ?_)))
                  clear hK16 K16
                  refine c_seq (fun K24 hK24 => ?_)
                  refine c_seq (fun K25 hK25 => ?_)
                  refine c_reg ?_ -- region 17 eval.go:169
                  refine wl (ro_move rfl) ?_
                  refine wl (ro_cmp rfl rfl rfl) ?_
                  refine wl_nil (x_then (hK25 _ _ ?_))
                  clear hK25 K25
                  refine wc_cond rfl (fun hc59 => ?_) (fun hc59 => ?_)
                  · try simp only [decide_eq_true_eq, decide_eq_false_iff_not, Bool.not_eq_true', Bool.not_eq_false', Bool.not_eq_eq_eq_not, Bool.not_true, Bool.not_false, beq_iff_eq, bne_iff_ne, ne_eq, beq_eq_false_iff_ne, bne_eq_false_iff_eq, gt_iff_lt, ge_iff_le, Int.not_lt, Int.not_le] at hc59
                    refine c_seq (fun K26 hK26 => ?_)
                    refine c_reg ?_ -- region 18 eval.go:170
                    refine wl_call rfl en_116 (Err116) ?_
                    rintro _ w18 ⟨rfl, F18⟩
                    replace hF := hF.thenDrew.thenN F18
                    replace h4 := F18.blkN h4
                    replace h5 := F18.blkN h5
                    replace h6 := F18.blkN h6
                    refine wl_puta rfl rfl ((by (try exact vlc_cells _); all_goals simp [Value.oneCell', i64c, icv, u64c, u8c, ptr, S])) sz_104 (rfl) h6 ((by simp)) (rfl) (fun w19 h6 F19 => ?_)
                    replace hF := hF.thenDrew.thenO F19 (by first | exact .inr (by omega) | exact .inl rfl | exact .inl (by assumption))
                    replace h4 := F19.blkO h4 (by omega)
                    replace h5 := F19.blkO h5 (by omega)
                    refine wl_nil (x_then (hK26 _ _ ?_))
                    clear hK26 K26
                    refine c_ret (x_thenR (x_thenR ?_))
                    refine bq_ret (res1 Tryz.results214 (rv_c rfl ag_104 (h6) rfl)) ?_
                    refine ⟨?_, hF⟩
                    first
                      | (unfold binV; rw [if_pos (by omega)]; rfl)
                      | (unfold binV; rw [if_neg (by omega), if_pos (by omega)]; rfl)
                      | (rw [hjs]
                         first
                           | (rw [judge_eq (by omega)]; rfl)
                           | (rw [judge_ne (by omega)]; rfl)
                           | (rw [judge_lt (by omega)]; rfl)
                           | (rw [judge_le (by omega)]; rfl)
                           | (rw [judge_gt (by omega)]; rfl)
                           | (rw [judge_ge (by omega) (by omega) (by omega) (by omega) (by omega)]; rfl))
                      | (have hcx : cntV x = true := by assumption
                         have hcy : cntV y = true := by assumption
                         rw [binV_num (by omega) (by omega) hcx hcy, if_pos (by omega)]
                         unfold reckon
                         repeat first | rw [if_pos (by omega)] | rw [if_neg (by omega)]
                         rfl)
                      | (have hcn : cntV x = false ∨ cntV y = false := by first | exact .inl (by assumption) | exact .inr (by assumption)
                         rw [binV_not (by omega) (by omega) hcn, if_pos (by omega)]
                         rfl)
                      | (have hcn : cntV x = false ∨ cntV y = false := by first | exact .inl (by assumption) | exact .inr (by assumption)
                         have hwd : wdV x = false ∨ wdV y = false := by
                           by_cases e1 : x.k = 2 ∨ x.k = 0
                           · exact .inr (wdV_no.2 (by omega))
                           · exact .inl (wdV_no.2 e1)
                         rw [binV_no (by omega) (by omega) hcn (by omega) hwd, if_neg (by omega)]
                         rfl)
                  · try simp only [decide_eq_true_eq, decide_eq_false_iff_not, Bool.not_eq_true', Bool.not_eq_false', Bool.not_eq_eq_eq_not, Bool.not_true, Bool.not_false, beq_iff_eq, bne_iff_ne, ne_eq, beq_eq_false_iff_ne, bne_eq_false_iff_eq, gt_iff_lt, ge_iff_le, Int.not_lt, Int.not_le] at hc59
                    refine c_skip (x_then (hK24 _ _ ?_))
                    clear hK24 K24
                    refine forget [(6, _), (7, _), (9, _)] ⟨rfl, rfl, rfl, trivial⟩ (fun e => ?_)
                    refine c_seq (fun K27 hK27 => ?_)
                    refine c_reg ?_ -- region 19 eval.go:172
                    refine wl (ro_move rfl) ?_
                    refine wl (ro_move rfl) ?_
                    refine wl (ro_quo rfl rfl hc59 (Go.IntWalk.i64_in _ (by omega))) ?_
                    refine wl_call rfl en_225 (Num225) ?_
                    rintro _ w20 ⟨rfl, F20⟩
                    replace hF := hF.thenDrew.thenN F20
                    replace h4 := F20.blkN h4
                    replace h5 := F20.blkN h5
                    replace h6 := F20.blkN h6
                    refine wl_puta rfl rfl ((by (try exact vlc_cells _); all_goals simp [Value.oneCell', i64c, icv, u64c, u8c, ptr, S])) sz_104 (rfl) h6 ((by simp)) (rfl) (fun w21 h6 F21 => ?_)
                    replace hF := hF.thenDrew.thenO F21 (by first | exact .inr (by omega) | exact .inl rfl | exact .inl (by assumption))
                    replace h4 := F21.blkO h4 (by omega)
                    replace h5 := F21.blkO h5 (by omega)
                    refine wl_nil (x_then (hK27 _ _ ?_))
                    clear hK27 K27
                    refine c_ret (x_thenR ?_)
                    refine bq_ret (res1 Tryz.results214 (rv_c rfl ag_104 (h6) rfl)) ?_
                    refine ⟨?_, hF⟩
                    first
                      | (unfold binV; rw [if_pos (by omega)]; rfl)
                      | (unfold binV; rw [if_neg (by omega), if_pos (by omega)]; rfl)
                      | (rw [hjs]
                         first
                           | (rw [judge_eq (by omega)]; rfl)
                           | (rw [judge_ne (by omega)]; rfl)
                           | (rw [judge_lt (by omega)]; rfl)
                           | (rw [judge_le (by omega)]; rfl)
                           | (rw [judge_gt (by omega)]; rfl)
                           | (rw [judge_ge (by omega) (by omega) (by omega) (by omega) (by omega)]; rfl))
                      | (have hcx : cntV x = true := by assumption
                         have hcy : cntV y = true := by assumption
                         rw [binV_num (by omega) (by omega) hcx hcy, if_pos (by omega)]
                         unfold reckon
                         repeat first | rw [if_pos (by omega)] | rw [if_neg (by omega)]
                         rfl)
                      | (have hcn : cntV x = false ∨ cntV y = false := by first | exact .inl (by assumption) | exact .inr (by assumption)
                         rw [binV_not (by omega) (by omega) hcn, if_pos (by omega)]
                         rfl)
                      | (have hcn : cntV x = false ∨ cntV y = false := by first | exact .inl (by assumption) | exact .inr (by assumption)
                         have hwd : wdV x = false ∨ wdV y = false := by
                           by_cases e1 : x.k = 2 ∨ x.k = 0
                           · exact .inr (wdV_no.2 (by omega))
                           · exact .inl (wdV_no.2 e1)
                         rw [binV_no (by omega) (by omega) hcn (by omega) hwd, if_neg (by omega)]
                         rfl)
      · try simp only [decide_eq_true_eq, decide_eq_false_iff_not, Bool.not_eq_true', Bool.not_eq_false', Bool.not_eq_eq_eq_not, Bool.not_true, Bool.not_false, beq_iff_eq, bne_iff_ne, ne_eq, beq_eq_false_iff_ne, bne_eq_false_iff_eq, gt_iff_lt, ge_iff_le, Int.not_lt, Int.not_le] at hc31
        refine c_skip (x_then (hK10 _ _ ?_))
        clear hK10 K10
        refine forget [(0, _), (4, _), (5, _), (6, _), (7, _), (8, _), (9, _), (10, _)] ⟨rfl, rfl, rfl, rfl, rfl, rfl, rfl, rfl, trivial⟩ (fun e => ?_)
        refine c_seq (fun K28 hK28 => ?_)
        refine c_reg ?_ -- region 20 eval.go:174
        refine wl (ro_assign rfl) ?_
        refine wl_nil (x_then (hK28 _ _ ?_))
        clear hK28 K28
        refine c_mid (fun a' w' => Fram none' w w' ∧ Blk w'.heap b6 [icv 0, icv 0, S []] 104 ∧ ∃ s : Int, binV op x y = judge op s ∧ ∃ e, a' = Fr 146 (upds e [(0, i64c op), (6, ptr b6), (11, icv s)]) []) ?_ ?_
        · skip
          refine c_seq (fun K29 hK29 => ?_)
          refine c_reg ?_ -- region 21 eval.go:175
          refine wl (ro_move rfl) ?_
          refine wl_fork rfl (fun hg66 => ?_) (fun hg66 => ?_)
          · try simp only [decide_eq_true_eq, decide_eq_false_iff_not, Bool.not_eq_true', Bool.not_eq_false', Bool.not_eq_eq_eq_not, Bool.not_true, Bool.not_false, beq_iff_eq, bne_iff_ne, ne_eq, beq_eq_false_iff_ne, bne_eq_false_iff_eq, gt_iff_lt, ge_iff_le, Int.not_lt, Int.not_le] at hg66
            refine wlg_yes rfl (ro_move rfl) ?_
            refine wl (ro_pick rfl rfl rfl) ?_
            refine wl_nil (x_then (hK29 _ _ ?_))
            clear hK29 K29
            refine wc_cond rfl (fun hc68 => ?_) (fun hc68 => ?_)
            · try simp only [decide_eq_true_eq, decide_eq_false_iff_not, Bool.not_eq_true', Bool.not_eq_false', Bool.not_eq_eq_eq_not, Bool.not_true, Bool.not_false, beq_iff_eq, bne_iff_ne, ne_eq, beq_eq_false_iff_ne, bne_eq_false_iff_eq, gt_iff_lt, ge_iff_le, Int.not_lt, Int.not_le] at hc68
              refine c_seq (fun K30 hK30 => ?_)
              refine c_reg ?_ -- region 22 eval.go:176
              refine wl (ro_move rfl) ?_
              refine wl (ro_move rfl) ?_
              refine wl (ro_cmp rfl rfl rfl) ?_
              refine wl_nil (x_then (hK30 _ _ ?_))
              clear hK30 K30
              refine wc_cond rfl (fun hc71 => ?_) (fun hc71 => ?_)
              · try simp only [decide_eq_true_eq, decide_eq_false_iff_not, Bool.not_eq_true', Bool.not_eq_false', Bool.not_eq_eq_eq_not, Bool.not_true, Bool.not_false, beq_iff_eq, bne_iff_ne, ne_eq, beq_eq_false_iff_ne, bne_eq_false_iff_eq, gt_iff_lt, ge_iff_le, Int.not_lt, Int.not_le] at hc71
                refine c_reg ?_ -- region 23 eval.go:177
                refine wl (ro_assign rfl) ?_
                refine wl_nil (x_then ?_)
                refine ⟨hF, h6, ?_⟩
                first
                  | (have hcx : cntV x = true := by assumption
                     have hcy : cntV y = true := by assumption
                     refine ⟨_, ?_, kp _ ⟨rfl, rfl, rfl, trivial⟩⟩
                     rw [binV_num (by omega) (by omega) hcx hcy, if_neg (by omega)]
                     first
                       | rw [cmpI_lt (by omega)]
                       | rw [cmpI_gt (by omega)]
                       | rw [cmpI_eq (by omega) (by omega)])
                  | (have hcn : cntV x = false ∨ cntV y = false := by first | exact .inl (by assumption) | exact .inr (by assumption)
                     refine ⟨_, ?_, kp _ ⟨rfl, rfl, rfl, trivial⟩⟩
                     first
                       | (have hw1 : wdV x = true := wdV_iff.2 (by omega)
                          have hw2 : wdV y = true := wdV_iff.2 (by omega)
                          rw [binV_not (by omega) (by omega) hcn, if_neg (by omega), if_pos ⟨hw1, hw2⟩]
                          first
                            | rw [cmpS_lt hc97]
                            | (have hc102' := hc102
                               simp only [hc97, Bool.true_or, Bool.false_or, beq_iff_eq, beq_eq_false_iff_ne, Bool.true_eq_false, Bool.false_eq_true] at hc102'
                               first
                                 | rw [cmpS_gt hc97 hc102']
                                 | rw [cmpS_eq hc97 hc102']))
                       | (have hwd : wdV x = false ∨ wdV y = false := by
                            by_cases e1 : x.k = 2 ∨ x.k = 0
                            · exact .inr (wdV_no.2 (by omega))
                            · exact .inl (wdV_no.2 e1)
                          rw [binV_no (by omega) (by omega) hcn (by omega) hwd, if_pos (by omega)]))
              · try simp only [decide_eq_true_eq, decide_eq_false_iff_not, Bool.not_eq_true', Bool.not_eq_false', Bool.not_eq_eq_eq_not, Bool.not_true, Bool.not_false, beq_iff_eq, bne_iff_ne, ne_eq, beq_eq_false_iff_ne, bne_eq_false_iff_eq, gt_iff_lt, ge_iff_le, Int.not_lt, Int.not_le] at hc71
                refine c_seq (fun K31 hK31 => ?_)
                refine c_reg ?_ -- region 24 eval.go:178
                refine wl (ro_move rfl) ?_
                refine wl (ro_move rfl) ?_
                refine wl (ro_cmp rfl rfl rfl) ?_
                refine wl_nil (x_then (hK31 _ _ ?_))
                clear hK31 K31
                refine wc_cond rfl (fun hc74 => ?_) (fun hc74 => ?_)
                · try simp only [decide_eq_true_eq, decide_eq_false_iff_not, Bool.not_eq_true', Bool.not_eq_false', Bool.not_eq_eq_eq_not, Bool.not_true, Bool.not_false, beq_iff_eq, bne_iff_ne, ne_eq, beq_eq_false_iff_ne, bne_eq_false_iff_eq, gt_iff_lt, ge_iff_le, Int.not_lt, Int.not_le] at hc74
                  refine c_reg ?_ -- region 25 eval.go:179
                  refine wl (ro_assign rfl) ?_
                  refine wl_nil (x_then ?_)
                  refine ⟨hF, h6, ?_⟩
                  first
                    | (have hcx : cntV x = true := by assumption
                       have hcy : cntV y = true := by assumption
                       refine ⟨_, ?_, kp _ ⟨rfl, rfl, rfl, trivial⟩⟩
                       rw [binV_num (by omega) (by omega) hcx hcy, if_neg (by omega)]
                       first
                         | rw [cmpI_lt (by omega)]
                         | rw [cmpI_gt (by omega)]
                         | rw [cmpI_eq (by omega) (by omega)])
                    | (have hcn : cntV x = false ∨ cntV y = false := by first | exact .inl (by assumption) | exact .inr (by assumption)
                       refine ⟨_, ?_, kp _ ⟨rfl, rfl, rfl, trivial⟩⟩
                       first
                         | (have hw1 : wdV x = true := wdV_iff.2 (by omega)
                            have hw2 : wdV y = true := wdV_iff.2 (by omega)
                            rw [binV_not (by omega) (by omega) hcn, if_neg (by omega), if_pos ⟨hw1, hw2⟩]
                            first
                              | rw [cmpS_lt hc97]
                              | (have hc102' := hc102
                                 simp only [hc97, Bool.true_or, Bool.false_or, beq_iff_eq, beq_eq_false_iff_ne, Bool.true_eq_false, Bool.false_eq_true] at hc102'
                                 first
                                   | rw [cmpS_gt hc97 hc102']
                                   | rw [cmpS_eq hc97 hc102']))
                         | (have hwd : wdV x = false ∨ wdV y = false := by
                              by_cases e1 : x.k = 2 ∨ x.k = 0
                              · exact .inr (wdV_no.2 (by omega))
                              · exact .inl (wdV_no.2 e1)
                            rw [binV_no (by omega) (by omega) hcn (by omega) hwd, if_pos (by omega)]))
                · try simp only [decide_eq_true_eq, decide_eq_false_iff_not, Bool.not_eq_true', Bool.not_eq_false', Bool.not_eq_eq_eq_not, Bool.not_true, Bool.not_false, beq_iff_eq, bne_iff_ne, ne_eq, beq_eq_false_iff_ne, bne_eq_false_iff_eq, gt_iff_lt, ge_iff_le, Int.not_lt, Int.not_le] at hc74
                  refine c_skip (x_then ?_)
                  refine ⟨hF, h6, ?_⟩
                  first
                    | (have hcx : cntV x = true := by assumption
                       have hcy : cntV y = true := by assumption
                       refine ⟨_, ?_, kp _ ⟨rfl, rfl, rfl, trivial⟩⟩
                       rw [binV_num (by omega) (by omega) hcx hcy, if_neg (by omega)]
                       first
                         | rw [cmpI_lt (by omega)]
                         | rw [cmpI_gt (by omega)]
                         | rw [cmpI_eq (by omega) (by omega)])
                    | (have hcn : cntV x = false ∨ cntV y = false := by first | exact .inl (by assumption) | exact .inr (by assumption)
                       refine ⟨_, ?_, kp _ ⟨rfl, rfl, rfl, trivial⟩⟩
                       first
                         | (have hw1 : wdV x = true := wdV_iff.2 (by omega)
                            have hw2 : wdV y = true := wdV_iff.2 (by omega)
                            rw [binV_not (by omega) (by omega) hcn, if_neg (by omega), if_pos ⟨hw1, hw2⟩]
                            first
                              | rw [cmpS_lt hc97]
                              | (have hc102' := hc102
                                 simp only [hc97, Bool.true_or, Bool.false_or, beq_iff_eq, beq_eq_false_iff_ne, Bool.true_eq_false, Bool.false_eq_true] at hc102'
                                 first
                                   | rw [cmpS_gt hc97 hc102']
                                   | rw [cmpS_eq hc97 hc102']))
                         | (have hwd : wdV x = false ∨ wdV y = false := by
                              by_cases e1 : x.k = 2 ∨ x.k = 0
                              · exact .inr (wdV_no.2 (by omega))
                              · exact .inl (wdV_no.2 e1)
                            rw [binV_no (by omega) (by omega) hcn (by omega) hwd, if_pos (by omega)]))
            · try simp only [decide_eq_true_eq, decide_eq_false_iff_not, Bool.not_eq_true', Bool.not_eq_false', Bool.not_eq_eq_eq_not, Bool.not_true, Bool.not_false, beq_iff_eq, bne_iff_ne, ne_eq, beq_eq_false_iff_ne, bne_eq_false_iff_eq, gt_iff_lt, ge_iff_le, Int.not_lt, Int.not_le] at hc68
              refine c_seq (fun K32 hK32 => ?_)
              refine c_reg ?_ -- region 26 eval.go:181
              refine wl (ro_fieldAddr (k := 0) rfl fo_104_0) ?_
              refine wl (ro_loadB rfl sc_3 (by assumption) rfl) ?_
              refine wl (ro_cmp rfl rfl rfl) ?_
              refine wl_fork rfl (fun hg78 => ?_) (fun hg78 => ?_)
              · try simp only [decide_eq_true_eq, decide_eq_false_iff_not, Bool.not_eq_true', Bool.not_eq_false', Bool.not_eq_eq_eq_not, Bool.not_true, Bool.not_false, beq_iff_eq, bne_iff_ne, ne_eq, beq_eq_false_iff_ne, bne_eq_false_iff_eq, gt_iff_lt, ge_iff_le, Int.not_lt, Int.not_le] at hg78
                refine wlg_no rfl ?_
                refine wlg_no rfl ?_
                refine wlg_no rfl ?_
                refine wl (ro_pick rfl rfl rfl) ?_
                refine wl (ro_move rfl) ?_
                refine wlg_yes rfl (ro_fieldAddr (k := 0) rfl fo_104_0) ?_
                refine wlg_yes rfl (ro_loadB rfl sc_3 (by assumption) rfl) ?_
                refine wlg_yes rfl (ro_cmp rfl rfl rfl) ?_
                refine wlg_fork rfl rfl (fun hg87 => ?_) (fun hg87 => ?_)
                · try simp only [decide_eq_true_eq, decide_eq_false_iff_not, Bool.not_eq_true', Bool.not_eq_false', Bool.not_eq_eq_eq_not, Bool.not_true, Bool.not_false, beq_iff_eq, bne_iff_ne, ne_eq, beq_eq_false_iff_ne, bne_eq_false_iff_eq, gt_iff_lt, ge_iff_le, Int.not_lt, Int.not_le] at hg87
                  refine wlg_no rfl ?_
                  refine wlg_no rfl ?_
                  refine wlg_no rfl ?_
                  refine wlg_yes rfl (ro_pick rfl rfl rfl) ?_
                  refine wl (ro_pick rfl rfl rfl) ?_
                  refine wl_nil (x_then (hK32 _ _ ?_))
                  clear hK32 K32
                  refine wc_condT rfl ?_
                  refine c_seq (fun K33 hK33 => ?_)
                  refine c_reg ?_ -- region 27 eval.go:182
                  refine wl (ro_fieldAddr (k := 2) rfl fo_104_2) ?_
                  refine wl (ro_loadB rfl sc_9 (by assumption) rfl) ?_
                  refine wl (ro_fieldAddr (k := 2) rfl fo_104_2) ?_
                  refine wl (ro_loadB rfl sc_9 (by assumption) rfl) ?_
                  refine wl (ro_ltS rfl rfl rfl) ?_
                  refine wl_nil (x_then (hK33 _ _ ?_))
                  clear hK33 K33
                  refine wc_cond rfl (fun hc97 => ?_) (fun hc97 => ?_)
                  · try simp only [decide_eq_true_eq, decide_eq_false_iff_not, Bool.not_eq_true', Bool.not_eq_false', Bool.not_eq_eq_eq_not, Bool.not_true, Bool.not_false, beq_iff_eq, bne_iff_ne, ne_eq, beq_eq_false_iff_ne, bne_eq_false_iff_eq, gt_iff_lt, ge_iff_le, Int.not_lt, Int.not_le] at hc97
                    refine c_reg ?_ -- region 28 eval.go:183
                    refine wl (ro_assign rfl) ?_
                    refine wl_nil (x_then ?_)
                    refine ⟨hF, h6, ?_⟩
                    first
                      | (have hcx : cntV x = true := by assumption
                         have hcy : cntV y = true := by assumption
                         refine ⟨_, ?_, kp _ ⟨rfl, rfl, rfl, trivial⟩⟩
                         rw [binV_num (by omega) (by omega) hcx hcy, if_neg (by omega)]
                         first
                           | rw [cmpI_lt (by omega)]
                           | rw [cmpI_gt (by omega)]
                           | rw [cmpI_eq (by omega) (by omega)])
                      | (have hcn : cntV x = false ∨ cntV y = false := by first | exact .inl (by assumption) | exact .inr (by assumption)
                         refine ⟨_, ?_, kp _ ⟨rfl, rfl, rfl, trivial⟩⟩
                         first
                           | (have hw1 : wdV x = true := wdV_iff.2 (by omega)
                              have hw2 : wdV y = true := wdV_iff.2 (by omega)
                              rw [binV_not (by omega) (by omega) hcn, if_neg (by omega), if_pos ⟨hw1, hw2⟩]
                              first
                                | rw [cmpS_lt hc97]
                                | (have hc102' := hc102
                                   simp only [hc97, Bool.true_or, Bool.false_or, beq_iff_eq, beq_eq_false_iff_ne, Bool.true_eq_false, Bool.false_eq_true] at hc102'
                                   first
                                     | rw [cmpS_gt hc97 hc102']
                                     | rw [cmpS_eq hc97 hc102']))
                           | (have hwd : wdV x = false ∨ wdV y = false := by
                                by_cases e1 : x.k = 2 ∨ x.k = 0
                                · exact .inr (wdV_no.2 (by omega))
                                · exact .inl (wdV_no.2 e1)
                              rw [binV_no (by omega) (by omega) hcn (by omega) hwd, if_pos (by omega)]))
                  · try simp only [decide_eq_true_eq, decide_eq_false_iff_not, Bool.not_eq_true', Bool.not_eq_false', Bool.not_eq_eq_eq_not, Bool.not_true, Bool.not_false, beq_iff_eq, bne_iff_ne, ne_eq, beq_eq_false_iff_ne, bne_eq_false_iff_eq, gt_iff_lt, ge_iff_le, Int.not_lt, Int.not_le] at hc97
                    refine c_seq (fun K34 hK34 => ?_)
                    refine c_reg ?_ -- region 29 eval.go:184
                    refine wl (ro_fieldAddr (k := 2) rfl fo_104_2) ?_
                    refine wl (ro_loadB rfl sc_9 (by assumption) rfl) ?_
                    refine wl (ro_fieldAddr (k := 2) rfl fo_104_2) ?_
                    refine wl (ro_loadB rfl sc_9 (by assumption) rfl) ?_
                    refine wl (ro_ltS rfl rfl rfl) ?_
                    refine wl_nil (x_then (hK34 _ _ ?_))
                    clear hK34 K34
                    refine wc_cond rfl (fun hc102 => ?_) (fun hc102 => ?_)
                    · try simp only [decide_eq_true_eq, decide_eq_false_iff_not, Bool.not_eq_true', Bool.not_eq_false', Bool.not_eq_eq_eq_not, Bool.not_true, Bool.not_false, beq_iff_eq, bne_iff_ne, ne_eq, beq_eq_false_iff_ne, bne_eq_false_iff_eq, gt_iff_lt, ge_iff_le, Int.not_lt, Int.not_le] at hc102
                      refine c_reg ?_ -- region 30 eval.go:185
                      refine wl (ro_assign rfl) ?_
                      refine wl_nil (x_then ?_)
                      refine ⟨hF, h6, ?_⟩
                      first
                        | (have hcx : cntV x = true := by assumption
                           have hcy : cntV y = true := by assumption
                           refine ⟨_, ?_, kp _ ⟨rfl, rfl, rfl, trivial⟩⟩
                           rw [binV_num (by omega) (by omega) hcx hcy, if_neg (by omega)]
                           first
                             | rw [cmpI_lt (by omega)]
                             | rw [cmpI_gt (by omega)]
                             | rw [cmpI_eq (by omega) (by omega)])
                        | (have hcn : cntV x = false ∨ cntV y = false := by first | exact .inl (by assumption) | exact .inr (by assumption)
                           refine ⟨_, ?_, kp _ ⟨rfl, rfl, rfl, trivial⟩⟩
                           first
                             | (have hw1 : wdV x = true := wdV_iff.2 (by omega)
                                have hw2 : wdV y = true := wdV_iff.2 (by omega)
                                rw [binV_not (by omega) (by omega) hcn, if_neg (by omega), if_pos ⟨hw1, hw2⟩]
                                first
                                  | rw [cmpS_lt hc97]
                                  | (have hc102' := hc102
                                     simp only [hc97, Bool.true_or, Bool.false_or, beq_iff_eq, beq_eq_false_iff_ne, Bool.true_eq_false, Bool.false_eq_true] at hc102'
                                     first
                                       | rw [cmpS_gt hc97 hc102']
                                       | rw [cmpS_eq hc97 hc102']))
                             | (have hwd : wdV x = false ∨ wdV y = false := by
                                  by_cases e1 : x.k = 2 ∨ x.k = 0
                                  · exact .inr (wdV_no.2 (by omega))
                                  · exact .inl (wdV_no.2 e1)
                                rw [binV_no (by omega) (by omega) hcn (by omega) hwd, if_pos (by omega)]))
                    · try simp only [decide_eq_true_eq, decide_eq_false_iff_not, Bool.not_eq_true', Bool.not_eq_false', Bool.not_eq_eq_eq_not, Bool.not_true, Bool.not_false, beq_iff_eq, bne_iff_ne, ne_eq, beq_eq_false_iff_ne, bne_eq_false_iff_eq, gt_iff_lt, ge_iff_le, Int.not_lt, Int.not_le] at hc102
                      refine c_skip (x_then ?_)
                      refine ⟨hF, h6, ?_⟩
                      first
                        | (have hcx : cntV x = true := by assumption
                           have hcy : cntV y = true := by assumption
                           refine ⟨_, ?_, kp _ ⟨rfl, rfl, rfl, trivial⟩⟩
                           rw [binV_num (by omega) (by omega) hcx hcy, if_neg (by omega)]
                           first
                             | rw [cmpI_lt (by omega)]
                             | rw [cmpI_gt (by omega)]
                             | rw [cmpI_eq (by omega) (by omega)])
                        | (have hcn : cntV x = false ∨ cntV y = false := by first | exact .inl (by assumption) | exact .inr (by assumption)
                           refine ⟨_, ?_, kp _ ⟨rfl, rfl, rfl, trivial⟩⟩
                           first
                             | (have hw1 : wdV x = true := wdV_iff.2 (by omega)
                                have hw2 : wdV y = true := wdV_iff.2 (by omega)
                                rw [binV_not (by omega) (by omega) hcn, if_neg (by omega), if_pos ⟨hw1, hw2⟩]
                                first
                                  | rw [cmpS_lt hc97]
                                  | (have hc102' := hc102
                                     simp only [hc97, Bool.true_or, Bool.false_or, beq_iff_eq, beq_eq_false_iff_ne, Bool.true_eq_false, Bool.false_eq_true] at hc102'
                                     first
                                       | rw [cmpS_gt hc97 hc102']
                                       | rw [cmpS_eq hc97 hc102']))
                             | (have hwd : wdV x = false ∨ wdV y = false := by
                                  by_cases e1 : x.k = 2 ∨ x.k = 0
                                  · exact .inr (wdV_no.2 (by omega))
                                  · exact .inl (wdV_no.2 e1)
                                rw [binV_no (by omega) (by omega) hcn (by omega) hwd, if_pos (by omega)]))
                · try simp only [decide_eq_true_eq, decide_eq_false_iff_not, Bool.not_eq_true', Bool.not_eq_false', Bool.not_eq_eq_eq_not, Bool.not_true, Bool.not_false, beq_iff_eq, bne_iff_ne, ne_eq, beq_eq_false_iff_ne, bne_eq_false_iff_eq, gt_iff_lt, ge_iff_le, Int.not_lt, Int.not_le] at hg87
                  refine wlg_yes rfl (ro_fieldAddr (k := 0) rfl fo_104_0) ?_
                  refine wlg_yes rfl (ro_loadB rfl sc_3 (by assumption) rfl) ?_
                  refine wlg_yes rfl (ro_cmp rfl rfl rfl) ?_
                  refine wlg_yes rfl (ro_pick rfl rfl rfl) ?_
                  refine wl (ro_pick rfl rfl rfl) ?_
                  refine wl_nil (x_then (hK32 _ _ ?_))
                  clear hK32 K32
                  refine wc_cond rfl (fun hc92 => ?_) (fun hc92 => ?_)
                  · try simp only [decide_eq_true_eq, decide_eq_false_iff_not, Bool.not_eq_true', Bool.not_eq_false', Bool.not_eq_eq_eq_not, Bool.not_true, Bool.not_false, beq_iff_eq, bne_iff_ne, ne_eq, beq_eq_false_iff_ne, bne_eq_false_iff_eq, gt_iff_lt, ge_iff_le, Int.not_lt, Int.not_le] at hc92
                    refine c_seq (fun K35 hK35 => ?_)
                    refine c_reg ?_ -- region 27 eval.go:182
                    refine wl (ro_fieldAddr (k := 2) rfl fo_104_2) ?_
                    refine wl (ro_loadB rfl sc_9 (by assumption) rfl) ?_
                    refine wl (ro_fieldAddr (k := 2) rfl fo_104_2) ?_
                    refine wl (ro_loadB rfl sc_9 (by assumption) rfl) ?_
                    refine wl (ro_ltS rfl rfl rfl) ?_
                    refine wl_nil (x_then (hK35 _ _ ?_))
                    clear hK35 K35
                    refine wc_cond rfl (fun hc97 => ?_) (fun hc97 => ?_)
                    · try simp only [decide_eq_true_eq, decide_eq_false_iff_not, Bool.not_eq_true', Bool.not_eq_false', Bool.not_eq_eq_eq_not, Bool.not_true, Bool.not_false, beq_iff_eq, bne_iff_ne, ne_eq, beq_eq_false_iff_ne, bne_eq_false_iff_eq, gt_iff_lt, ge_iff_le, Int.not_lt, Int.not_le] at hc97
                      refine c_reg ?_ -- region 28 eval.go:183
                      refine wl (ro_assign rfl) ?_
                      refine wl_nil (x_then ?_)
                      refine ⟨hF, h6, ?_⟩
                      first
                        | (have hcx : cntV x = true := by assumption
                           have hcy : cntV y = true := by assumption
                           refine ⟨_, ?_, kp _ ⟨rfl, rfl, rfl, trivial⟩⟩
                           rw [binV_num (by omega) (by omega) hcx hcy, if_neg (by omega)]
                           first
                             | rw [cmpI_lt (by omega)]
                             | rw [cmpI_gt (by omega)]
                             | rw [cmpI_eq (by omega) (by omega)])
                        | (have hcn : cntV x = false ∨ cntV y = false := by first | exact .inl (by assumption) | exact .inr (by assumption)
                           refine ⟨_, ?_, kp _ ⟨rfl, rfl, rfl, trivial⟩⟩
                           first
                             | (have hw1 : wdV x = true := wdV_iff.2 (by omega)
                                have hw2 : wdV y = true := wdV_iff.2 (by omega)
                                rw [binV_not (by omega) (by omega) hcn, if_neg (by omega), if_pos ⟨hw1, hw2⟩]
                                first
                                  | rw [cmpS_lt hc97]
                                  | (have hc102' := hc102
                                     simp only [hc97, Bool.true_or, Bool.false_or, beq_iff_eq, beq_eq_false_iff_ne, Bool.true_eq_false, Bool.false_eq_true] at hc102'
                                     first
                                       | rw [cmpS_gt hc97 hc102']
                                       | rw [cmpS_eq hc97 hc102']))
                             | (have hwd : wdV x = false ∨ wdV y = false := by
                                  by_cases e1 : x.k = 2 ∨ x.k = 0
                                  · exact .inr (wdV_no.2 (by omega))
                                  · exact .inl (wdV_no.2 e1)
                                rw [binV_no (by omega) (by omega) hcn (by omega) hwd, if_pos (by omega)]))
                    · try simp only [decide_eq_true_eq, decide_eq_false_iff_not, Bool.not_eq_true', Bool.not_eq_false', Bool.not_eq_eq_eq_not, Bool.not_true, Bool.not_false, beq_iff_eq, bne_iff_ne, ne_eq, beq_eq_false_iff_ne, bne_eq_false_iff_eq, gt_iff_lt, ge_iff_le, Int.not_lt, Int.not_le] at hc97
                      refine c_seq (fun K36 hK36 => ?_)
                      refine c_reg ?_ -- region 29 eval.go:184
                      refine wl (ro_fieldAddr (k := 2) rfl fo_104_2) ?_
                      refine wl (ro_loadB rfl sc_9 (by assumption) rfl) ?_
                      refine wl (ro_fieldAddr (k := 2) rfl fo_104_2) ?_
                      refine wl (ro_loadB rfl sc_9 (by assumption) rfl) ?_
                      refine wl (ro_ltS rfl rfl rfl) ?_
                      refine wl_nil (x_then (hK36 _ _ ?_))
                      clear hK36 K36
                      refine wc_cond rfl (fun hc102 => ?_) (fun hc102 => ?_)
                      · try simp only [decide_eq_true_eq, decide_eq_false_iff_not, Bool.not_eq_true', Bool.not_eq_false', Bool.not_eq_eq_eq_not, Bool.not_true, Bool.not_false, beq_iff_eq, bne_iff_ne, ne_eq, beq_eq_false_iff_ne, bne_eq_false_iff_eq, gt_iff_lt, ge_iff_le, Int.not_lt, Int.not_le] at hc102
                        refine c_reg ?_ -- region 30 eval.go:185
                        refine wl (ro_assign rfl) ?_
                        refine wl_nil (x_then ?_)
                        refine ⟨hF, h6, ?_⟩
                        first
                          | (have hcx : cntV x = true := by assumption
                             have hcy : cntV y = true := by assumption
                             refine ⟨_, ?_, kp _ ⟨rfl, rfl, rfl, trivial⟩⟩
                             rw [binV_num (by omega) (by omega) hcx hcy, if_neg (by omega)]
                             first
                               | rw [cmpI_lt (by omega)]
                               | rw [cmpI_gt (by omega)]
                               | rw [cmpI_eq (by omega) (by omega)])
                          | (have hcn : cntV x = false ∨ cntV y = false := by first | exact .inl (by assumption) | exact .inr (by assumption)
                             refine ⟨_, ?_, kp _ ⟨rfl, rfl, rfl, trivial⟩⟩
                             first
                               | (have hw1 : wdV x = true := wdV_iff.2 (by omega)
                                  have hw2 : wdV y = true := wdV_iff.2 (by omega)
                                  rw [binV_not (by omega) (by omega) hcn, if_neg (by omega), if_pos ⟨hw1, hw2⟩]
                                  first
                                    | rw [cmpS_lt hc97]
                                    | (have hc102' := hc102
                                       simp only [hc97, Bool.true_or, Bool.false_or, beq_iff_eq, beq_eq_false_iff_ne, Bool.true_eq_false, Bool.false_eq_true] at hc102'
                                       first
                                         | rw [cmpS_gt hc97 hc102']
                                         | rw [cmpS_eq hc97 hc102']))
                               | (have hwd : wdV x = false ∨ wdV y = false := by
                                    by_cases e1 : x.k = 2 ∨ x.k = 0
                                    · exact .inr (wdV_no.2 (by omega))
                                    · exact .inl (wdV_no.2 e1)
                                  rw [binV_no (by omega) (by omega) hcn (by omega) hwd, if_pos (by omega)]))
                      · try simp only [decide_eq_true_eq, decide_eq_false_iff_not, Bool.not_eq_true', Bool.not_eq_false', Bool.not_eq_eq_eq_not, Bool.not_true, Bool.not_false, beq_iff_eq, bne_iff_ne, ne_eq, beq_eq_false_iff_ne, bne_eq_false_iff_eq, gt_iff_lt, ge_iff_le, Int.not_lt, Int.not_le] at hc102
                        refine c_skip (x_then ?_)
                        refine ⟨hF, h6, ?_⟩
                        first
                          | (have hcx : cntV x = true := by assumption
                             have hcy : cntV y = true := by assumption
                             refine ⟨_, ?_, kp _ ⟨rfl, rfl, rfl, trivial⟩⟩
                             rw [binV_num (by omega) (by omega) hcx hcy, if_neg (by omega)]
                             first
                               | rw [cmpI_lt (by omega)]
                               | rw [cmpI_gt (by omega)]
                               | rw [cmpI_eq (by omega) (by omega)])
                          | (have hcn : cntV x = false ∨ cntV y = false := by first | exact .inl (by assumption) | exact .inr (by assumption)
                             refine ⟨_, ?_, kp _ ⟨rfl, rfl, rfl, trivial⟩⟩
                             first
                               | (have hw1 : wdV x = true := wdV_iff.2 (by omega)
                                  have hw2 : wdV y = true := wdV_iff.2 (by omega)
                                  rw [binV_not (by omega) (by omega) hcn, if_neg (by omega), if_pos ⟨hw1, hw2⟩]
                                  first
                                    | rw [cmpS_lt hc97]
                                    | (have hc102' := hc102
                                       simp only [hc97, Bool.true_or, Bool.false_or, beq_iff_eq, beq_eq_false_iff_ne, Bool.true_eq_false, Bool.false_eq_true] at hc102'
                                       first
                                         | rw [cmpS_gt hc97 hc102']
                                         | rw [cmpS_eq hc97 hc102']))
                               | (have hwd : wdV x = false ∨ wdV y = false := by
                                    by_cases e1 : x.k = 2 ∨ x.k = 0
                                    · exact .inr (wdV_no.2 (by omega))
                                    · exact .inl (wdV_no.2 e1)
                                  rw [binV_no (by omega) (by omega) hcn (by omega) hwd, if_pos (by omega)]))
                  · try simp only [decide_eq_true_eq, decide_eq_false_iff_not, Bool.not_eq_true', Bool.not_eq_false', Bool.not_eq_eq_eq_not, Bool.not_true, Bool.not_false, beq_iff_eq, bne_iff_ne, ne_eq, beq_eq_false_iff_ne, bne_eq_false_iff_eq, gt_iff_lt, ge_iff_le, Int.not_lt, Int.not_le] at hc92
                    refine c_seq (fun K37 hK37 => ?_)
                    refine c_reg ?_ -- region 31 eval.go:187
                    refine wl (ro_fieldAddr (k := 0) rfl fo_104_0) ?_
                    refine wl (ro_loadB rfl sc_3 (by assumption) rfl) ?_
                    refine wl (ro_cmp rfl rfl rfl) ?_
                    refine wl_fork rfl (fun hg106 => ?_) (fun hg106 => ?_)
                    · try simp only [decide_eq_true_eq, decide_eq_false_iff_not, Bool.not_eq_true', Bool.not_eq_false', Bool.not_eq_eq_eq_not, Bool.not_true, Bool.not_false, beq_iff_eq, bne_iff_ne, ne_eq, beq_eq_false_iff_ne, bne_eq_false_iff_eq, gt_iff_lt, ge_iff_le, Int.not_lt, Int.not_le] at hg106
                      refine wlg_yes rfl (ro_fieldAddr (k := 0) rfl fo_104_0) ?_
                      refine wlg_yes rfl (ro_loadB rfl sc_3 (by assumption) rfl) ?_
                      refine wlg_yes rfl (ro_cmp rfl rfl rfl) ?_
                      refine wl (ro_pick rfl rfl rfl) ?_
                      refine wl_nil (x_then (hK37 _ _ ?_))
                      clear hK37 K37
                      refine wc_cond rfl (fun hc110 => ?_) (fun hc110 => ?_)
                      · try simp only [decide_eq_true_eq, decide_eq_false_iff_not, Bool.not_eq_true', Bool.not_eq_false', Bool.not_eq_eq_eq_not, Bool.not_true, Bool.not_false, beq_iff_eq, bne_iff_ne, ne_eq, beq_eq_false_iff_ne, bne_eq_false_iff_eq, gt_iff_lt, ge_iff_le, Int.not_lt, Int.not_le] at hc110
                        refine c_reg ?_ -- region 32 eval.go:188
                        refine wl (ro_fieldAddr (k := 1) rfl fo_104_1) ?_
                        refine wl (ro_loadB rfl sc_3 (by assumption) rfl) ?_
                        refine wl (ro_fieldAddr (k := 1) rfl fo_104_1) ?_
                        refine wl (ro_loadB rfl sc_3 (by assumption) rfl) ?_
                        refine wl (ro_arith rfl rfl rfl (Go.IntWalk.i64_in _ (by omega))) ?_
                        refine wl (ro_assign rfl) ?_
                        refine wl_nil (x_then ?_)
                        refine ⟨hF, h6, ?_⟩
                        first
                          | (have hcx : cntV x = true := by assumption
                             have hcy : cntV y = true := by assumption
                             refine ⟨_, ?_, kp _ ⟨rfl, rfl, rfl, trivial⟩⟩
                             rw [binV_num (by omega) (by omega) hcx hcy, if_neg (by omega)]
                             first
                               | rw [cmpI_lt (by omega)]
                               | rw [cmpI_gt (by omega)]
                               | rw [cmpI_eq (by omega) (by omega)])
                          | (have hcn : cntV x = false ∨ cntV y = false := by first | exact .inl (by assumption) | exact .inr (by assumption)
                             refine ⟨_, ?_, kp _ ⟨rfl, rfl, rfl, trivial⟩⟩
                             first
                               | (have hw1 : wdV x = true := wdV_iff.2 (by omega)
                                  have hw2 : wdV y = true := wdV_iff.2 (by omega)
                                  rw [binV_not (by omega) (by omega) hcn, if_neg (by omega), if_pos ⟨hw1, hw2⟩]
                                  first
                                    | rw [cmpS_lt hc97]
                                    | (have hc102' := hc102
                                       simp only [hc97, Bool.true_or, Bool.false_or, beq_iff_eq, beq_eq_false_iff_ne, Bool.true_eq_false, Bool.false_eq_true] at hc102'
                                       first
                                         | rw [cmpS_gt hc97 hc102']
                                         | rw [cmpS_eq hc97 hc102']))
                               | (have hwd : wdV x = false ∨ wdV y = false := by
                                    by_cases e1 : x.k = 2 ∨ x.k = 0
                                    · exact .inr (wdV_no.2 (by omega))
                                    · exact .inl (wdV_no.2 e1)
                                  rw [binV_no (by omega) (by omega) hcn (by omega) hwd, if_pos (by omega)]))
                      · try simp only [decide_eq_true_eq, decide_eq_false_iff_not, Bool.not_eq_true', Bool.not_eq_false', Bool.not_eq_eq_eq_not, Bool.not_true, Bool.not_false, beq_iff_eq, bne_iff_ne, ne_eq, beq_eq_false_iff_ne, bne_eq_false_iff_eq, gt_iff_lt, ge_iff_le, Int.not_lt, Int.not_le] at hc110
                        refine c_seq (fun K38 hK38 => ?_)
                        refine c_reg ?_ -- region 33 eval.go:190
                        refine wl_call rfl en_116 (Err116) ?_
                        rintro _ w22 ⟨rfl, F22⟩
                        replace hF := hF.thenDrew.thenN F22
                        replace h4 := F22.blkN h4
                        replace h5 := F22.blkN h5
                        replace h6 := F22.blkN h6
                        refine wl_puta rfl rfl ((by (try exact vlc_cells _); all_goals simp [Value.oneCell', i64c, icv, u64c, u8c, ptr, S])) sz_104 (rfl) h6 ((by simp)) (rfl) (fun w23 h6 F23 => ?_)
                        replace hF := hF.thenDrew.thenO F23 (by first | exact .inr (by omega) | exact .inl rfl | exact .inl (by assumption))
                        replace h4 := F23.blkO h4 (by omega)
                        replace h5 := F23.blkO h5 (by omega)
                        refine wl_nil (x_then (hK38 _ _ ?_))
                        clear hK38 K38
                        refine c_ret (x_thenR ?_)
                        refine bq_ret (res1 Tryz.results214 (rv_c rfl ag_104 (h6) rfl)) ?_
                        refine ⟨?_, hF⟩
                        first
                          | (unfold binV; rw [if_pos (by omega)]; rfl)
                          | (unfold binV; rw [if_neg (by omega), if_pos (by omega)]; rfl)
                          | (rw [hjs]
                             first
                               | (rw [judge_eq (by omega)]; rfl)
                               | (rw [judge_ne (by omega)]; rfl)
                               | (rw [judge_lt (by omega)]; rfl)
                               | (rw [judge_le (by omega)]; rfl)
                               | (rw [judge_gt (by omega)]; rfl)
                               | (rw [judge_ge (by omega) (by omega) (by omega) (by omega) (by omega)]; rfl))
                          | (have hcx : cntV x = true := by assumption
                             have hcy : cntV y = true := by assumption
                             rw [binV_num (by omega) (by omega) hcx hcy, if_pos (by omega)]
                             unfold reckon
                             repeat first | rw [if_pos (by omega)] | rw [if_neg (by omega)]
                             rfl)
                          | (have hcn : cntV x = false ∨ cntV y = false := by first | exact .inl (by assumption) | exact .inr (by assumption)
                             rw [binV_not (by omega) (by omega) hcn, if_pos (by omega)]
                             rfl)
                          | (have hcn : cntV x = false ∨ cntV y = false := by first | exact .inl (by assumption) | exact .inr (by assumption)
                             have hwd : wdV x = false ∨ wdV y = false := by
                               by_cases e1 : x.k = 2 ∨ x.k = 0
                               · exact .inr (wdV_no.2 (by omega))
                               · exact .inl (wdV_no.2 e1)
                             rw [binV_no (by omega) (by omega) hcn (by omega) hwd, if_neg (by omega)]
                             rfl)
                    · try simp only [decide_eq_true_eq, decide_eq_false_iff_not, Bool.not_eq_true', Bool.not_eq_false', Bool.not_eq_eq_eq_not, Bool.not_true, Bool.not_false, beq_iff_eq, bne_iff_ne, ne_eq, beq_eq_false_iff_ne, bne_eq_false_iff_eq, gt_iff_lt, ge_iff_le, Int.not_lt, Int.not_le] at hg106
                      refine wlg_no rfl ?_
                      refine wlg_no rfl ?_
                      refine wlg_no rfl ?_
                      refine wl (ro_pick rfl rfl rfl) ?_
                      refine wl_nil (x_then (hK37 _ _ ?_))
                      clear hK37 K37
                      refine wc_condF rfl ?_
                      refine c_seq (fun K39 hK39 => ?_)
                      refine c_reg ?_ -- region 33 eval.go:190
                      refine wl_call rfl en_116 (Err116) ?_
                      rintro _ w24 ⟨rfl, F24⟩
                      replace hF := hF.thenDrew.thenN F24
                      replace h4 := F24.blkN h4
                      replace h5 := F24.blkN h5
                      replace h6 := F24.blkN h6
                      refine wl_puta rfl rfl ((by (try exact vlc_cells _); all_goals simp [Value.oneCell', i64c, icv, u64c, u8c, ptr, S])) sz_104 (rfl) h6 ((by simp)) (rfl) (fun w25 h6 F25 => ?_)
                      replace hF := hF.thenDrew.thenO F25 (by first | exact .inr (by omega) | exact .inl rfl | exact .inl (by assumption))
                      replace h4 := F25.blkO h4 (by omega)
                      replace h5 := F25.blkO h5 (by omega)
                      refine wl_nil (x_then (hK39 _ _ ?_))
                      clear hK39 K39
                      refine c_ret (x_thenR ?_)
                      refine bq_ret (res1 Tryz.results214 (rv_c rfl ag_104 (h6) rfl)) ?_
                      refine ⟨?_, hF⟩
                      first
                        | (unfold binV; rw [if_pos (by omega)]; rfl)
                        | (unfold binV; rw [if_neg (by omega), if_pos (by omega)]; rfl)
                        | (rw [hjs]
                           first
                             | (rw [judge_eq (by omega)]; rfl)
                             | (rw [judge_ne (by omega)]; rfl)
                             | (rw [judge_lt (by omega)]; rfl)
                             | (rw [judge_le (by omega)]; rfl)
                             | (rw [judge_gt (by omega)]; rfl)
                             | (rw [judge_ge (by omega) (by omega) (by omega) (by omega) (by omega)]; rfl))
                        | (have hcx : cntV x = true := by assumption
                           have hcy : cntV y = true := by assumption
                           rw [binV_num (by omega) (by omega) hcx hcy, if_pos (by omega)]
                           unfold reckon
                           repeat first | rw [if_pos (by omega)] | rw [if_neg (by omega)]
                           rfl)
                        | (have hcn : cntV x = false ∨ cntV y = false := by first | exact .inl (by assumption) | exact .inr (by assumption)
                           rw [binV_not (by omega) (by omega) hcn, if_pos (by omega)]
                           rfl)
                        | (have hcn : cntV x = false ∨ cntV y = false := by first | exact .inl (by assumption) | exact .inr (by assumption)
                           have hwd : wdV x = false ∨ wdV y = false := by
                             by_cases e1 : x.k = 2 ∨ x.k = 0
                             · exact .inr (wdV_no.2 (by omega))
                             · exact .inl (wdV_no.2 e1)
                           rw [binV_no (by omega) (by omega) hcn (by omega) hwd, if_neg (by omega)]
                           rfl)
              · try simp only [decide_eq_true_eq, decide_eq_false_iff_not, Bool.not_eq_true', Bool.not_eq_false', Bool.not_eq_eq_eq_not, Bool.not_true, Bool.not_false, beq_iff_eq, bne_iff_ne, ne_eq, beq_eq_false_iff_ne, bne_eq_false_iff_eq, gt_iff_lt, ge_iff_le, Int.not_lt, Int.not_le] at hg78
                refine wlg_yes rfl (ro_fieldAddr (k := 0) rfl fo_104_0) ?_
                refine wlg_yes rfl (ro_loadB rfl sc_3 (by assumption) rfl) ?_
                refine wlg_yes rfl (ro_cmp rfl rfl rfl) ?_
                refine wl (ro_pick rfl rfl rfl) ?_
                refine wl_fork rfl (fun hg83 => ?_) (fun hg83 => ?_)
                · try simp only [decide_eq_true_eq, decide_eq_false_iff_not, Bool.not_eq_true', Bool.not_eq_false', Bool.not_eq_eq_eq_not, Bool.not_true, Bool.not_false, beq_iff_eq, bne_iff_ne, ne_eq, beq_eq_false_iff_ne, bne_eq_false_iff_eq, gt_iff_lt, ge_iff_le, Int.not_lt, Int.not_le] at hg83
                  refine wlg_yes rfl (ro_fieldAddr (k := 0) rfl fo_104_0) ?_
                  refine wlg_yes rfl (ro_loadB rfl sc_3 (by assumption) rfl) ?_
                  refine wlg_yes rfl (ro_cmp rfl rfl rfl) ?_
                  refine wlg_fork rfl rfl (fun hg87 => ?_) (fun hg87 => ?_)
                  · try simp only [decide_eq_true_eq, decide_eq_false_iff_not, Bool.not_eq_true', Bool.not_eq_false', Bool.not_eq_eq_eq_not, Bool.not_true, Bool.not_false, beq_iff_eq, bne_iff_ne, ne_eq, beq_eq_false_iff_ne, bne_eq_false_iff_eq, gt_iff_lt, ge_iff_le, Int.not_lt, Int.not_le] at hg87
                    refine wlg_no rfl ?_
                    refine wlg_no rfl ?_
                    refine wlg_no rfl ?_
                    refine wlg_yes rfl (ro_pick rfl rfl rfl) ?_
                    refine wl (ro_pick rfl rfl rfl) ?_
                    refine wl_nil (x_then (hK32 _ _ ?_))
                    clear hK32 K32
                    refine wc_condT rfl ?_
                    refine c_seq (fun K40 hK40 => ?_)
                    refine c_reg ?_ -- region 27 eval.go:182
                    refine wl (ro_fieldAddr (k := 2) rfl fo_104_2) ?_
                    refine wl (ro_loadB rfl sc_9 (by assumption) rfl) ?_
                    refine wl (ro_fieldAddr (k := 2) rfl fo_104_2) ?_
                    refine wl (ro_loadB rfl sc_9 (by assumption) rfl) ?_
                    refine wl (ro_ltS rfl rfl rfl) ?_
                    refine wl_nil (x_then (hK40 _ _ ?_))
                    clear hK40 K40
                    refine wc_cond rfl (fun hc97 => ?_) (fun hc97 => ?_)
                    · try simp only [decide_eq_true_eq, decide_eq_false_iff_not, Bool.not_eq_true', Bool.not_eq_false', Bool.not_eq_eq_eq_not, Bool.not_true, Bool.not_false, beq_iff_eq, bne_iff_ne, ne_eq, beq_eq_false_iff_ne, bne_eq_false_iff_eq, gt_iff_lt, ge_iff_le, Int.not_lt, Int.not_le] at hc97
                      refine c_reg ?_ -- region 28 eval.go:183
                      refine wl (ro_assign rfl) ?_
                      refine wl_nil (x_then ?_)
                      refine ⟨hF, h6, ?_⟩
                      first
                        | (have hcx : cntV x = true := by assumption
                           have hcy : cntV y = true := by assumption
                           refine ⟨_, ?_, kp _ ⟨rfl, rfl, rfl, trivial⟩⟩
                           rw [binV_num (by omega) (by omega) hcx hcy, if_neg (by omega)]
                           first
                             | rw [cmpI_lt (by omega)]
                             | rw [cmpI_gt (by omega)]
                             | rw [cmpI_eq (by omega) (by omega)])
                        | (have hcn : cntV x = false ∨ cntV y = false := by first | exact .inl (by assumption) | exact .inr (by assumption)
                           refine ⟨_, ?_, kp _ ⟨rfl, rfl, rfl, trivial⟩⟩
                           first
                             | (have hw1 : wdV x = true := wdV_iff.2 (by omega)
                                have hw2 : wdV y = true := wdV_iff.2 (by omega)
                                rw [binV_not (by omega) (by omega) hcn, if_neg (by omega), if_pos ⟨hw1, hw2⟩]
                                first
                                  | rw [cmpS_lt hc97]
                                  | (have hc102' := hc102
                                     simp only [hc97, Bool.true_or, Bool.false_or, beq_iff_eq, beq_eq_false_iff_ne, Bool.true_eq_false, Bool.false_eq_true] at hc102'
                                     first
                                       | rw [cmpS_gt hc97 hc102']
                                       | rw [cmpS_eq hc97 hc102']))
                             | (have hwd : wdV x = false ∨ wdV y = false := by
                                  by_cases e1 : x.k = 2 ∨ x.k = 0
                                  · exact .inr (wdV_no.2 (by omega))
                                  · exact .inl (wdV_no.2 e1)
                                rw [binV_no (by omega) (by omega) hcn (by omega) hwd, if_pos (by omega)]))
                    · try simp only [decide_eq_true_eq, decide_eq_false_iff_not, Bool.not_eq_true', Bool.not_eq_false', Bool.not_eq_eq_eq_not, Bool.not_true, Bool.not_false, beq_iff_eq, bne_iff_ne, ne_eq, beq_eq_false_iff_ne, bne_eq_false_iff_eq, gt_iff_lt, ge_iff_le, Int.not_lt, Int.not_le] at hc97
                      refine c_seq (fun K41 hK41 => ?_)
                      refine c_reg ?_ -- region 29 eval.go:184
                      refine wl (ro_fieldAddr (k := 2) rfl fo_104_2) ?_
                      refine wl (ro_loadB rfl sc_9 (by assumption) rfl) ?_
                      refine wl (ro_fieldAddr (k := 2) rfl fo_104_2) ?_
                      refine wl (ro_loadB rfl sc_9 (by assumption) rfl) ?_
                      refine wl (ro_ltS rfl rfl rfl) ?_
                      refine wl_nil (x_then (hK41 _ _ ?_))
                      clear hK41 K41
                      refine wc_cond rfl (fun hc102 => ?_) (fun hc102 => ?_)
                      · try simp only [decide_eq_true_eq, decide_eq_false_iff_not, Bool.not_eq_true', Bool.not_eq_false', Bool.not_eq_eq_eq_not, Bool.not_true, Bool.not_false, beq_iff_eq, bne_iff_ne, ne_eq, beq_eq_false_iff_ne, bne_eq_false_iff_eq, gt_iff_lt, ge_iff_le, Int.not_lt, Int.not_le] at hc102
                        refine c_reg ?_ -- region 30 eval.go:185
                        refine wl (ro_assign rfl) ?_
                        refine wl_nil (x_then ?_)
                        refine ⟨hF, h6, ?_⟩
                        first
                          | (have hcx : cntV x = true := by assumption
                             have hcy : cntV y = true := by assumption
                             refine ⟨_, ?_, kp _ ⟨rfl, rfl, rfl, trivial⟩⟩
                             rw [binV_num (by omega) (by omega) hcx hcy, if_neg (by omega)]
                             first
                               | rw [cmpI_lt (by omega)]
                               | rw [cmpI_gt (by omega)]
                               | rw [cmpI_eq (by omega) (by omega)])
                          | (have hcn : cntV x = false ∨ cntV y = false := by first | exact .inl (by assumption) | exact .inr (by assumption)
                             refine ⟨_, ?_, kp _ ⟨rfl, rfl, rfl, trivial⟩⟩
                             first
                               | (have hw1 : wdV x = true := wdV_iff.2 (by omega)
                                  have hw2 : wdV y = true := wdV_iff.2 (by omega)
                                  rw [binV_not (by omega) (by omega) hcn, if_neg (by omega), if_pos ⟨hw1, hw2⟩]
                                  first
                                    | rw [cmpS_lt hc97]
                                    | (have hc102' := hc102
                                       simp only [hc97, Bool.true_or, Bool.false_or, beq_iff_eq, beq_eq_false_iff_ne, Bool.true_eq_false, Bool.false_eq_true] at hc102'
                                       first
                                         | rw [cmpS_gt hc97 hc102']
                                         | rw [cmpS_eq hc97 hc102']))
                               | (have hwd : wdV x = false ∨ wdV y = false := by
                                    by_cases e1 : x.k = 2 ∨ x.k = 0
                                    · exact .inr (wdV_no.2 (by omega))
                                    · exact .inl (wdV_no.2 e1)
                                  rw [binV_no (by omega) (by omega) hcn (by omega) hwd, if_pos (by omega)]))
                      · try simp only [decide_eq_true_eq, decide_eq_false_iff_not, Bool.not_eq_true', Bool.not_eq_false', Bool.not_eq_eq_eq_not, Bool.not_true, Bool.not_false, beq_iff_eq, bne_iff_ne, ne_eq, beq_eq_false_iff_ne, bne_eq_false_iff_eq, gt_iff_lt, ge_iff_le, Int.not_lt, Int.not_le] at hc102
                        refine c_skip (x_then ?_)
                        refine ⟨hF, h6, ?_⟩
                        first
                          | (have hcx : cntV x = true := by assumption
                             have hcy : cntV y = true := by assumption
                             refine ⟨_, ?_, kp _ ⟨rfl, rfl, rfl, trivial⟩⟩
                             rw [binV_num (by omega) (by omega) hcx hcy, if_neg (by omega)]
                             first
                               | rw [cmpI_lt (by omega)]
                               | rw [cmpI_gt (by omega)]
                               | rw [cmpI_eq (by omega) (by omega)])
                          | (have hcn : cntV x = false ∨ cntV y = false := by first | exact .inl (by assumption) | exact .inr (by assumption)
                             refine ⟨_, ?_, kp _ ⟨rfl, rfl, rfl, trivial⟩⟩
                             first
                               | (have hw1 : wdV x = true := wdV_iff.2 (by omega)
                                  have hw2 : wdV y = true := wdV_iff.2 (by omega)
                                  rw [binV_not (by omega) (by omega) hcn, if_neg (by omega), if_pos ⟨hw1, hw2⟩]
                                  first
                                    | rw [cmpS_lt hc97]
                                    | (have hc102' := hc102
                                       simp only [hc97, Bool.true_or, Bool.false_or, beq_iff_eq, beq_eq_false_iff_ne, Bool.true_eq_false, Bool.false_eq_true] at hc102'
                                       first
                                         | rw [cmpS_gt hc97 hc102']
                                         | rw [cmpS_eq hc97 hc102']))
                               | (have hwd : wdV x = false ∨ wdV y = false := by
                                    by_cases e1 : x.k = 2 ∨ x.k = 0
                                    · exact .inr (wdV_no.2 (by omega))
                                    · exact .inl (wdV_no.2 e1)
                                  rw [binV_no (by omega) (by omega) hcn (by omega) hwd, if_pos (by omega)]))
                  · try simp only [decide_eq_true_eq, decide_eq_false_iff_not, Bool.not_eq_true', Bool.not_eq_false', Bool.not_eq_eq_eq_not, Bool.not_true, Bool.not_false, beq_iff_eq, bne_iff_ne, ne_eq, beq_eq_false_iff_ne, bne_eq_false_iff_eq, gt_iff_lt, ge_iff_le, Int.not_lt, Int.not_le] at hg87
                    refine wlg_yes rfl (ro_fieldAddr (k := 0) rfl fo_104_0) ?_
                    refine wlg_yes rfl (ro_loadB rfl sc_3 (by assumption) rfl) ?_
                    refine wlg_yes rfl (ro_cmp rfl rfl rfl) ?_
                    refine wlg_yes rfl (ro_pick rfl rfl rfl) ?_
                    refine wl (ro_pick rfl rfl rfl) ?_
                    refine wl_nil (x_then (hK32 _ _ ?_))
                    clear hK32 K32
                    refine wc_cond rfl (fun hc92 => ?_) (fun hc92 => ?_)
                    · try simp only [decide_eq_true_eq, decide_eq_false_iff_not, Bool.not_eq_true', Bool.not_eq_false', Bool.not_eq_eq_eq_not, Bool.not_true, Bool.not_false, beq_iff_eq, bne_iff_ne, ne_eq, beq_eq_false_iff_ne, bne_eq_false_iff_eq, gt_iff_lt, ge_iff_le, Int.not_lt, Int.not_le] at hc92
                      refine c_seq (fun K42 hK42 => ?_)
                      refine c_reg ?_ -- region 27 eval.go:182
                      refine wl (ro_fieldAddr (k := 2) rfl fo_104_2) ?_
                      refine wl (ro_loadB rfl sc_9 (by assumption) rfl) ?_
                      refine wl (ro_fieldAddr (k := 2) rfl fo_104_2) ?_
                      refine wl (ro_loadB rfl sc_9 (by assumption) rfl) ?_
                      refine wl (ro_ltS rfl rfl rfl) ?_
                      refine wl_nil (x_then (hK42 _ _ ?_))
                      clear hK42 K42
                      refine wc_cond rfl (fun hc97 => ?_) (fun hc97 => ?_)
                      · try simp only [decide_eq_true_eq, decide_eq_false_iff_not, Bool.not_eq_true', Bool.not_eq_false', Bool.not_eq_eq_eq_not, Bool.not_true, Bool.not_false, beq_iff_eq, bne_iff_ne, ne_eq, beq_eq_false_iff_ne, bne_eq_false_iff_eq, gt_iff_lt, ge_iff_le, Int.not_lt, Int.not_le] at hc97
                        refine c_reg ?_ -- region 28 eval.go:183
                        refine wl (ro_assign rfl) ?_
                        refine wl_nil (x_then ?_)
                        refine ⟨hF, h6, ?_⟩
                        first
                          | (have hcx : cntV x = true := by assumption
                             have hcy : cntV y = true := by assumption
                             refine ⟨_, ?_, kp _ ⟨rfl, rfl, rfl, trivial⟩⟩
                             rw [binV_num (by omega) (by omega) hcx hcy, if_neg (by omega)]
                             first
                               | rw [cmpI_lt (by omega)]
                               | rw [cmpI_gt (by omega)]
                               | rw [cmpI_eq (by omega) (by omega)])
                          | (have hcn : cntV x = false ∨ cntV y = false := by first | exact .inl (by assumption) | exact .inr (by assumption)
                             refine ⟨_, ?_, kp _ ⟨rfl, rfl, rfl, trivial⟩⟩
                             first
                               | (have hw1 : wdV x = true := wdV_iff.2 (by omega)
                                  have hw2 : wdV y = true := wdV_iff.2 (by omega)
                                  rw [binV_not (by omega) (by omega) hcn, if_neg (by omega), if_pos ⟨hw1, hw2⟩]
                                  first
                                    | rw [cmpS_lt hc97]
                                    | (have hc102' := hc102
                                       simp only [hc97, Bool.true_or, Bool.false_or, beq_iff_eq, beq_eq_false_iff_ne, Bool.true_eq_false, Bool.false_eq_true] at hc102'
                                       first
                                         | rw [cmpS_gt hc97 hc102']
                                         | rw [cmpS_eq hc97 hc102']))
                               | (have hwd : wdV x = false ∨ wdV y = false := by
                                    by_cases e1 : x.k = 2 ∨ x.k = 0
                                    · exact .inr (wdV_no.2 (by omega))
                                    · exact .inl (wdV_no.2 e1)
                                  rw [binV_no (by omega) (by omega) hcn (by omega) hwd, if_pos (by omega)]))
                      · try simp only [decide_eq_true_eq, decide_eq_false_iff_not, Bool.not_eq_true', Bool.not_eq_false', Bool.not_eq_eq_eq_not, Bool.not_true, Bool.not_false, beq_iff_eq, bne_iff_ne, ne_eq, beq_eq_false_iff_ne, bne_eq_false_iff_eq, gt_iff_lt, ge_iff_le, Int.not_lt, Int.not_le] at hc97
                        refine c_seq (fun K43 hK43 => ?_)
                        refine c_reg ?_ -- region 29 eval.go:184
                        refine wl (ro_fieldAddr (k := 2) rfl fo_104_2) ?_
                        refine wl (ro_loadB rfl sc_9 (by assumption) rfl) ?_
                        refine wl (ro_fieldAddr (k := 2) rfl fo_104_2) ?_
                        refine wl (ro_loadB rfl sc_9 (by assumption) rfl) ?_
                        refine wl (ro_ltS rfl rfl rfl) ?_
                        refine wl_nil (x_then (hK43 _ _ ?_))
                        clear hK43 K43
                        refine wc_cond rfl (fun hc102 => ?_) (fun hc102 => ?_)
                        · try simp only [decide_eq_true_eq, decide_eq_false_iff_not, Bool.not_eq_true', Bool.not_eq_false', Bool.not_eq_eq_eq_not, Bool.not_true, Bool.not_false, beq_iff_eq, bne_iff_ne, ne_eq, beq_eq_false_iff_ne, bne_eq_false_iff_eq, gt_iff_lt, ge_iff_le, Int.not_lt, Int.not_le] at hc102
                          refine c_reg ?_ -- region 30 eval.go:185
                          refine wl (ro_assign rfl) ?_
                          refine wl_nil (x_then ?_)
                          refine ⟨hF, h6, ?_⟩
                          first
                            | (have hcx : cntV x = true := by assumption
                               have hcy : cntV y = true := by assumption
                               refine ⟨_, ?_, kp _ ⟨rfl, rfl, rfl, trivial⟩⟩
                               rw [binV_num (by omega) (by omega) hcx hcy, if_neg (by omega)]
                               first
                                 | rw [cmpI_lt (by omega)]
                                 | rw [cmpI_gt (by omega)]
                                 | rw [cmpI_eq (by omega) (by omega)])
                            | (have hcn : cntV x = false ∨ cntV y = false := by first | exact .inl (by assumption) | exact .inr (by assumption)
                               refine ⟨_, ?_, kp _ ⟨rfl, rfl, rfl, trivial⟩⟩
                               first
                                 | (have hw1 : wdV x = true := wdV_iff.2 (by omega)
                                    have hw2 : wdV y = true := wdV_iff.2 (by omega)
                                    rw [binV_not (by omega) (by omega) hcn, if_neg (by omega), if_pos ⟨hw1, hw2⟩]
                                    first
                                      | rw [cmpS_lt hc97]
                                      | (have hc102' := hc102
                                         simp only [hc97, Bool.true_or, Bool.false_or, beq_iff_eq, beq_eq_false_iff_ne, Bool.true_eq_false, Bool.false_eq_true] at hc102'
                                         first
                                           | rw [cmpS_gt hc97 hc102']
                                           | rw [cmpS_eq hc97 hc102']))
                                 | (have hwd : wdV x = false ∨ wdV y = false := by
                                      by_cases e1 : x.k = 2 ∨ x.k = 0
                                      · exact .inr (wdV_no.2 (by omega))
                                      · exact .inl (wdV_no.2 e1)
                                    rw [binV_no (by omega) (by omega) hcn (by omega) hwd, if_pos (by omega)]))
                        · try simp only [decide_eq_true_eq, decide_eq_false_iff_not, Bool.not_eq_true', Bool.not_eq_false', Bool.not_eq_eq_eq_not, Bool.not_true, Bool.not_false, beq_iff_eq, bne_iff_ne, ne_eq, beq_eq_false_iff_ne, bne_eq_false_iff_eq, gt_iff_lt, ge_iff_le, Int.not_lt, Int.not_le] at hc102
                          refine c_skip (x_then ?_)
                          refine ⟨hF, h6, ?_⟩
                          first
                            | (have hcx : cntV x = true := by assumption
                               have hcy : cntV y = true := by assumption
                               refine ⟨_, ?_, kp _ ⟨rfl, rfl, rfl, trivial⟩⟩
                               rw [binV_num (by omega) (by omega) hcx hcy, if_neg (by omega)]
                               first
                                 | rw [cmpI_lt (by omega)]
                                 | rw [cmpI_gt (by omega)]
                                 | rw [cmpI_eq (by omega) (by omega)])
                            | (have hcn : cntV x = false ∨ cntV y = false := by first | exact .inl (by assumption) | exact .inr (by assumption)
                               refine ⟨_, ?_, kp _ ⟨rfl, rfl, rfl, trivial⟩⟩
                               first
                                 | (have hw1 : wdV x = true := wdV_iff.2 (by omega)
                                    have hw2 : wdV y = true := wdV_iff.2 (by omega)
                                    rw [binV_not (by omega) (by omega) hcn, if_neg (by omega), if_pos ⟨hw1, hw2⟩]
                                    first
                                      | rw [cmpS_lt hc97]
                                      | (have hc102' := hc102
                                         simp only [hc97, Bool.true_or, Bool.false_or, beq_iff_eq, beq_eq_false_iff_ne, Bool.true_eq_false, Bool.false_eq_true] at hc102'
                                         first
                                           | rw [cmpS_gt hc97 hc102']
                                           | rw [cmpS_eq hc97 hc102']))
                                 | (have hwd : wdV x = false ∨ wdV y = false := by
                                      by_cases e1 : x.k = 2 ∨ x.k = 0
                                      · exact .inr (wdV_no.2 (by omega))
                                      · exact .inl (wdV_no.2 e1)
                                    rw [binV_no (by omega) (by omega) hcn (by omega) hwd, if_pos (by omega)]))
                    · try simp only [decide_eq_true_eq, decide_eq_false_iff_not, Bool.not_eq_true', Bool.not_eq_false', Bool.not_eq_eq_eq_not, Bool.not_true, Bool.not_false, beq_iff_eq, bne_iff_ne, ne_eq, beq_eq_false_iff_ne, bne_eq_false_iff_eq, gt_iff_lt, ge_iff_le, Int.not_lt, Int.not_le] at hc92
                      refine c_seq (fun K44 hK44 => ?_)
                      refine c_reg ?_ -- region 31 eval.go:187
                      refine wl (ro_fieldAddr (k := 0) rfl fo_104_0) ?_
                      refine wl (ro_loadB rfl sc_3 (by assumption) rfl) ?_
                      refine wl (ro_cmp rfl rfl rfl) ?_
                      refine wl_fork rfl (fun hg106 => ?_) (fun hg106 => ?_)
                      · try simp only [decide_eq_true_eq, decide_eq_false_iff_not, Bool.not_eq_true', Bool.not_eq_false', Bool.not_eq_eq_eq_not, Bool.not_true, Bool.not_false, beq_iff_eq, bne_iff_ne, ne_eq, beq_eq_false_iff_ne, bne_eq_false_iff_eq, gt_iff_lt, ge_iff_le, Int.not_lt, Int.not_le] at hg106
                        refine wlg_yes rfl (ro_fieldAddr (k := 0) rfl fo_104_0) ?_
                        refine wlg_yes rfl (ro_loadB rfl sc_3 (by assumption) rfl) ?_
                        refine wlg_yes rfl (ro_cmp rfl rfl rfl) ?_
                        refine wl (ro_pick rfl rfl rfl) ?_
                        refine wl_nil (x_then (hK44 _ _ ?_))
                        clear hK44 K44
                        refine wc_cond rfl (fun hc110 => ?_) (fun hc110 => ?_)
                        · try simp only [decide_eq_true_eq, decide_eq_false_iff_not, Bool.not_eq_true', Bool.not_eq_false', Bool.not_eq_eq_eq_not, Bool.not_true, Bool.not_false, beq_iff_eq, bne_iff_ne, ne_eq, beq_eq_false_iff_ne, bne_eq_false_iff_eq, gt_iff_lt, ge_iff_le, Int.not_lt, Int.not_le] at hc110
                          refine c_reg ?_ -- region 32 eval.go:188
                          refine wl (ro_fieldAddr (k := 1) rfl fo_104_1) ?_
                          refine wl (ro_loadB rfl sc_3 (by assumption) rfl) ?_
                          refine wl (ro_fieldAddr (k := 1) rfl fo_104_1) ?_
                          refine wl (ro_loadB rfl sc_3 (by assumption) rfl) ?_
                          refine wl (ro_arith rfl rfl rfl (Go.IntWalk.i64_in _ (by omega))) ?_
                          refine wl (ro_assign rfl) ?_
                          refine wl_nil (x_then ?_)
                          refine ⟨hF, h6, ?_⟩
                          first
                            | (have hcx : cntV x = true := by assumption
                               have hcy : cntV y = true := by assumption
                               refine ⟨_, ?_, kp _ ⟨rfl, rfl, rfl, trivial⟩⟩
                               rw [binV_num (by omega) (by omega) hcx hcy, if_neg (by omega)]
                               first
                                 | rw [cmpI_lt (by omega)]
                                 | rw [cmpI_gt (by omega)]
                                 | rw [cmpI_eq (by omega) (by omega)])
                            | (have hcn : cntV x = false ∨ cntV y = false := by first | exact .inl (by assumption) | exact .inr (by assumption)
                               refine ⟨_, ?_, kp _ ⟨rfl, rfl, rfl, trivial⟩⟩
                               first
                                 | (have hw1 : wdV x = true := wdV_iff.2 (by omega)
                                    have hw2 : wdV y = true := wdV_iff.2 (by omega)
                                    rw [binV_not (by omega) (by omega) hcn, if_neg (by omega), if_pos ⟨hw1, hw2⟩]
                                    first
                                      | rw [cmpS_lt hc97]
                                      | (have hc102' := hc102
                                         simp only [hc97, Bool.true_or, Bool.false_or, beq_iff_eq, beq_eq_false_iff_ne, Bool.true_eq_false, Bool.false_eq_true] at hc102'
                                         first
                                           | rw [cmpS_gt hc97 hc102']
                                           | rw [cmpS_eq hc97 hc102']))
                                 | (have hwd : wdV x = false ∨ wdV y = false := by
                                      by_cases e1 : x.k = 2 ∨ x.k = 0
                                      · exact .inr (wdV_no.2 (by omega))
                                      · exact .inl (wdV_no.2 e1)
                                    rw [binV_no (by omega) (by omega) hcn (by omega) hwd, if_pos (by omega)]))
                        · try simp only [decide_eq_true_eq, decide_eq_false_iff_not, Bool.not_eq_true', Bool.not_eq_false', Bool.not_eq_eq_eq_not, Bool.not_true, Bool.not_false, beq_iff_eq, bne_iff_ne, ne_eq, beq_eq_false_iff_ne, bne_eq_false_iff_eq, gt_iff_lt, ge_iff_le, Int.not_lt, Int.not_le] at hc110
                          refine c_seq (fun K45 hK45 => ?_)
                          refine c_reg ?_ -- region 33 eval.go:190
                          refine wl_call rfl en_116 (Err116) ?_
                          rintro _ w26 ⟨rfl, F26⟩
                          replace hF := hF.thenDrew.thenN F26
                          replace h4 := F26.blkN h4
                          replace h5 := F26.blkN h5
                          replace h6 := F26.blkN h6
                          refine wl_puta rfl rfl ((by (try exact vlc_cells _); all_goals simp [Value.oneCell', i64c, icv, u64c, u8c, ptr, S])) sz_104 (rfl) h6 ((by simp)) (rfl) (fun w27 h6 F27 => ?_)
                          replace hF := hF.thenDrew.thenO F27 (by first | exact .inr (by omega) | exact .inl rfl | exact .inl (by assumption))
                          replace h4 := F27.blkO h4 (by omega)
                          replace h5 := F27.blkO h5 (by omega)
                          refine wl_nil (x_then (hK45 _ _ ?_))
                          clear hK45 K45
                          refine c_ret (x_thenR ?_)
                          refine bq_ret (res1 Tryz.results214 (rv_c rfl ag_104 (h6) rfl)) ?_
                          refine ⟨?_, hF⟩
                          first
                            | (unfold binV; rw [if_pos (by omega)]; rfl)
                            | (unfold binV; rw [if_neg (by omega), if_pos (by omega)]; rfl)
                            | (rw [hjs]
                               first
                                 | (rw [judge_eq (by omega)]; rfl)
                                 | (rw [judge_ne (by omega)]; rfl)
                                 | (rw [judge_lt (by omega)]; rfl)
                                 | (rw [judge_le (by omega)]; rfl)
                                 | (rw [judge_gt (by omega)]; rfl)
                                 | (rw [judge_ge (by omega) (by omega) (by omega) (by omega) (by omega)]; rfl))
                            | (have hcx : cntV x = true := by assumption
                               have hcy : cntV y = true := by assumption
                               rw [binV_num (by omega) (by omega) hcx hcy, if_pos (by omega)]
                               unfold reckon
                               repeat first | rw [if_pos (by omega)] | rw [if_neg (by omega)]
                               rfl)
                            | (have hcn : cntV x = false ∨ cntV y = false := by first | exact .inl (by assumption) | exact .inr (by assumption)
                               rw [binV_not (by omega) (by omega) hcn, if_pos (by omega)]
                               rfl)
                            | (have hcn : cntV x = false ∨ cntV y = false := by first | exact .inl (by assumption) | exact .inr (by assumption)
                               have hwd : wdV x = false ∨ wdV y = false := by
                                 by_cases e1 : x.k = 2 ∨ x.k = 0
                                 · exact .inr (wdV_no.2 (by omega))
                                 · exact .inl (wdV_no.2 e1)
                               rw [binV_no (by omega) (by omega) hcn (by omega) hwd, if_neg (by omega)]
                               rfl)
                      · try simp only [decide_eq_true_eq, decide_eq_false_iff_not, Bool.not_eq_true', Bool.not_eq_false', Bool.not_eq_eq_eq_not, Bool.not_true, Bool.not_false, beq_iff_eq, bne_iff_ne, ne_eq, beq_eq_false_iff_ne, bne_eq_false_iff_eq, gt_iff_lt, ge_iff_le, Int.not_lt, Int.not_le] at hg106
                        refine wlg_no rfl ?_
                        refine wlg_no rfl ?_
                        refine wlg_no rfl ?_
                        refine wl (ro_pick rfl rfl rfl) ?_
                        refine wl_nil (x_then (hK44 _ _ ?_))
                        clear hK44 K44
                        refine wc_condF rfl ?_
                        refine c_seq (fun K46 hK46 => ?_)
                        refine c_reg ?_ -- region 33 eval.go:190
                        refine wl_call rfl en_116 (Err116) ?_
                        rintro _ w28 ⟨rfl, F28⟩
                        replace hF := hF.thenDrew.thenN F28
                        replace h4 := F28.blkN h4
                        replace h5 := F28.blkN h5
                        replace h6 := F28.blkN h6
                        refine wl_puta rfl rfl ((by (try exact vlc_cells _); all_goals simp [Value.oneCell', i64c, icv, u64c, u8c, ptr, S])) sz_104 (rfl) h6 ((by simp)) (rfl) (fun w29 h6 F29 => ?_)
                        replace hF := hF.thenDrew.thenO F29 (by first | exact .inr (by omega) | exact .inl rfl | exact .inl (by assumption))
                        replace h4 := F29.blkO h4 (by omega)
                        replace h5 := F29.blkO h5 (by omega)
                        refine wl_nil (x_then (hK46 _ _ ?_))
                        clear hK46 K46
                        refine c_ret (x_thenR ?_)
                        refine bq_ret (res1 Tryz.results214 (rv_c rfl ag_104 (h6) rfl)) ?_
                        refine ⟨?_, hF⟩
                        first
                          | (unfold binV; rw [if_pos (by omega)]; rfl)
                          | (unfold binV; rw [if_neg (by omega), if_pos (by omega)]; rfl)
                          | (rw [hjs]
                             first
                               | (rw [judge_eq (by omega)]; rfl)
                               | (rw [judge_ne (by omega)]; rfl)
                               | (rw [judge_lt (by omega)]; rfl)
                               | (rw [judge_le (by omega)]; rfl)
                               | (rw [judge_gt (by omega)]; rfl)
                               | (rw [judge_ge (by omega) (by omega) (by omega) (by omega) (by omega)]; rfl))
                          | (have hcx : cntV x = true := by assumption
                             have hcy : cntV y = true := by assumption
                             rw [binV_num (by omega) (by omega) hcx hcy, if_pos (by omega)]
                             unfold reckon
                             repeat first | rw [if_pos (by omega)] | rw [if_neg (by omega)]
                             rfl)
                          | (have hcn : cntV x = false ∨ cntV y = false := by first | exact .inl (by assumption) | exact .inr (by assumption)
                             rw [binV_not (by omega) (by omega) hcn, if_pos (by omega)]
                             rfl)
                          | (have hcn : cntV x = false ∨ cntV y = false := by first | exact .inl (by assumption) | exact .inr (by assumption)
                             have hwd : wdV x = false ∨ wdV y = false := by
                               by_cases e1 : x.k = 2 ∨ x.k = 0
                               · exact .inr (wdV_no.2 (by omega))
                               · exact .inl (wdV_no.2 e1)
                             rw [binV_no (by omega) (by omega) hcn (by omega) hwd, if_neg (by omega)]
                             rfl)
                · try simp only [decide_eq_true_eq, decide_eq_false_iff_not, Bool.not_eq_true', Bool.not_eq_false', Bool.not_eq_eq_eq_not, Bool.not_true, Bool.not_false, beq_iff_eq, bne_iff_ne, ne_eq, beq_eq_false_iff_ne, bne_eq_false_iff_eq, gt_iff_lt, ge_iff_le, Int.not_lt, Int.not_le] at hg83
                  refine wlg_no rfl ?_
                  refine wlg_no rfl ?_
                  refine wlg_no rfl ?_
                  refine wlg_no rfl ?_
                  refine wlg_no rfl ?_
                  refine wlg_no rfl ?_
                  refine wlg_no rfl ?_
                  refine wlg_no rfl ?_
                  refine wl (ro_pick rfl rfl rfl) ?_
                  refine wl_nil (x_then (hK32 _ _ ?_))
                  clear hK32 K32
                  refine wc_condF rfl ?_
                  refine c_seq (fun K47 hK47 => ?_)
                  refine c_reg ?_ -- region 31 eval.go:187
                  refine wl (ro_fieldAddr (k := 0) rfl fo_104_0) ?_
                  refine wl (ro_loadB rfl sc_3 (by assumption) rfl) ?_
                  refine wl (ro_cmp rfl rfl rfl) ?_
                  refine wl_fork rfl (fun hg106 => ?_) (fun hg106 => ?_)
                  · try simp only [decide_eq_true_eq, decide_eq_false_iff_not, Bool.not_eq_true', Bool.not_eq_false', Bool.not_eq_eq_eq_not, Bool.not_true, Bool.not_false, beq_iff_eq, bne_iff_ne, ne_eq, beq_eq_false_iff_ne, bne_eq_false_iff_eq, gt_iff_lt, ge_iff_le, Int.not_lt, Int.not_le] at hg106
                    refine wlg_yes rfl (ro_fieldAddr (k := 0) rfl fo_104_0) ?_
                    refine wlg_yes rfl (ro_loadB rfl sc_3 (by assumption) rfl) ?_
                    refine wlg_yes rfl (ro_cmp rfl rfl rfl) ?_
                    refine wl (ro_pick rfl rfl rfl) ?_
                    refine wl_nil (x_then (hK47 _ _ ?_))
                    clear hK47 K47
                    refine wc_cond rfl (fun hc110 => ?_) (fun hc110 => ?_)
                    · try simp only [decide_eq_true_eq, decide_eq_false_iff_not, Bool.not_eq_true', Bool.not_eq_false', Bool.not_eq_eq_eq_not, Bool.not_true, Bool.not_false, beq_iff_eq, bne_iff_ne, ne_eq, beq_eq_false_iff_ne, bne_eq_false_iff_eq, gt_iff_lt, ge_iff_le, Int.not_lt, Int.not_le] at hc110
                      refine c_reg ?_ -- region 32 eval.go:188
                      refine wl (ro_fieldAddr (k := 1) rfl fo_104_1) ?_
                      refine wl (ro_loadB rfl sc_3 (by assumption) rfl) ?_
                      refine wl (ro_fieldAddr (k := 1) rfl fo_104_1) ?_
                      refine wl (ro_loadB rfl sc_3 (by assumption) rfl) ?_
                      refine wl (ro_arith rfl rfl rfl (Go.IntWalk.i64_in _ (by omega))) ?_
                      refine wl (ro_assign rfl) ?_
                      refine wl_nil (x_then ?_)
                      refine ⟨hF, h6, ?_⟩
                      first
                        | (have hcx : cntV x = true := by assumption
                           have hcy : cntV y = true := by assumption
                           refine ⟨_, ?_, kp _ ⟨rfl, rfl, rfl, trivial⟩⟩
                           rw [binV_num (by omega) (by omega) hcx hcy, if_neg (by omega)]
                           first
                             | rw [cmpI_lt (by omega)]
                             | rw [cmpI_gt (by omega)]
                             | rw [cmpI_eq (by omega) (by omega)])
                        | (have hcn : cntV x = false ∨ cntV y = false := by first | exact .inl (by assumption) | exact .inr (by assumption)
                           refine ⟨_, ?_, kp _ ⟨rfl, rfl, rfl, trivial⟩⟩
                           first
                             | (have hw1 : wdV x = true := wdV_iff.2 (by omega)
                                have hw2 : wdV y = true := wdV_iff.2 (by omega)
                                rw [binV_not (by omega) (by omega) hcn, if_neg (by omega), if_pos ⟨hw1, hw2⟩]
                                first
                                  | rw [cmpS_lt hc97]
                                  | (have hc102' := hc102
                                     simp only [hc97, Bool.true_or, Bool.false_or, beq_iff_eq, beq_eq_false_iff_ne, Bool.true_eq_false, Bool.false_eq_true] at hc102'
                                     first
                                       | rw [cmpS_gt hc97 hc102']
                                       | rw [cmpS_eq hc97 hc102']))
                             | (have hwd : wdV x = false ∨ wdV y = false := by
                                  by_cases e1 : x.k = 2 ∨ x.k = 0
                                  · exact .inr (wdV_no.2 (by omega))
                                  · exact .inl (wdV_no.2 e1)
                                rw [binV_no (by omega) (by omega) hcn (by omega) hwd, if_pos (by omega)]))
                    · try simp only [decide_eq_true_eq, decide_eq_false_iff_not, Bool.not_eq_true', Bool.not_eq_false', Bool.not_eq_eq_eq_not, Bool.not_true, Bool.not_false, beq_iff_eq, bne_iff_ne, ne_eq, beq_eq_false_iff_ne, bne_eq_false_iff_eq, gt_iff_lt, ge_iff_le, Int.not_lt, Int.not_le] at hc110
                      refine c_seq (fun K48 hK48 => ?_)
                      refine c_reg ?_ -- region 33 eval.go:190
                      refine wl_call rfl en_116 (Err116) ?_
                      rintro _ w30 ⟨rfl, F30⟩
                      replace hF := hF.thenDrew.thenN F30
                      replace h4 := F30.blkN h4
                      replace h5 := F30.blkN h5
                      replace h6 := F30.blkN h6
                      refine wl_puta rfl rfl ((by (try exact vlc_cells _); all_goals simp [Value.oneCell', i64c, icv, u64c, u8c, ptr, S])) sz_104 (rfl) h6 ((by simp)) (rfl) (fun w31 h6 F31 => ?_)
                      replace hF := hF.thenDrew.thenO F31 (by first | exact .inr (by omega) | exact .inl rfl | exact .inl (by assumption))
                      replace h4 := F31.blkO h4 (by omega)
                      replace h5 := F31.blkO h5 (by omega)
                      refine wl_nil (x_then (hK48 _ _ ?_))
                      clear hK48 K48
                      refine c_ret (x_thenR ?_)
                      refine bq_ret (res1 Tryz.results214 (rv_c rfl ag_104 (h6) rfl)) ?_
                      refine ⟨?_, hF⟩
                      first
                        | (unfold binV; rw [if_pos (by omega)]; rfl)
                        | (unfold binV; rw [if_neg (by omega), if_pos (by omega)]; rfl)
                        | (rw [hjs]
                           first
                             | (rw [judge_eq (by omega)]; rfl)
                             | (rw [judge_ne (by omega)]; rfl)
                             | (rw [judge_lt (by omega)]; rfl)
                             | (rw [judge_le (by omega)]; rfl)
                             | (rw [judge_gt (by omega)]; rfl)
                             | (rw [judge_ge (by omega) (by omega) (by omega) (by omega) (by omega)]; rfl))
                        | (have hcx : cntV x = true := by assumption
                           have hcy : cntV y = true := by assumption
                           rw [binV_num (by omega) (by omega) hcx hcy, if_pos (by omega)]
                           unfold reckon
                           repeat first | rw [if_pos (by omega)] | rw [if_neg (by omega)]
                           rfl)
                        | (have hcn : cntV x = false ∨ cntV y = false := by first | exact .inl (by assumption) | exact .inr (by assumption)
                           rw [binV_not (by omega) (by omega) hcn, if_pos (by omega)]
                           rfl)
                        | (have hcn : cntV x = false ∨ cntV y = false := by first | exact .inl (by assumption) | exact .inr (by assumption)
                           have hwd : wdV x = false ∨ wdV y = false := by
                             by_cases e1 : x.k = 2 ∨ x.k = 0
                             · exact .inr (wdV_no.2 (by omega))
                             · exact .inl (wdV_no.2 e1)
                           rw [binV_no (by omega) (by omega) hcn (by omega) hwd, if_neg (by omega)]
                           rfl)
                  · try simp only [decide_eq_true_eq, decide_eq_false_iff_not, Bool.not_eq_true', Bool.not_eq_false', Bool.not_eq_eq_eq_not, Bool.not_true, Bool.not_false, beq_iff_eq, bne_iff_ne, ne_eq, beq_eq_false_iff_ne, bne_eq_false_iff_eq, gt_iff_lt, ge_iff_le, Int.not_lt, Int.not_le] at hg106
                    refine wlg_no rfl ?_
                    refine wlg_no rfl ?_
                    refine wlg_no rfl ?_
                    refine wl (ro_pick rfl rfl rfl) ?_
                    refine wl_nil (x_then (hK47 _ _ ?_))
                    clear hK47 K47
                    refine wc_condF rfl ?_
                    refine c_seq (fun K49 hK49 => ?_)
                    refine c_reg ?_ -- region 33 eval.go:190
                    refine wl_call rfl en_116 (Err116) ?_
                    rintro _ w32 ⟨rfl, F32⟩
                    replace hF := hF.thenDrew.thenN F32
                    replace h4 := F32.blkN h4
                    replace h5 := F32.blkN h5
                    replace h6 := F32.blkN h6
                    refine wl_puta rfl rfl ((by (try exact vlc_cells _); all_goals simp [Value.oneCell', i64c, icv, u64c, u8c, ptr, S])) sz_104 (rfl) h6 ((by simp)) (rfl) (fun w33 h6 F33 => ?_)
                    replace hF := hF.thenDrew.thenO F33 (by first | exact .inr (by omega) | exact .inl rfl | exact .inl (by assumption))
                    replace h4 := F33.blkO h4 (by omega)
                    replace h5 := F33.blkO h5 (by omega)
                    refine wl_nil (x_then (hK49 _ _ ?_))
                    clear hK49 K49
                    refine c_ret (x_thenR ?_)
                    refine bq_ret (res1 Tryz.results214 (rv_c rfl ag_104 (h6) rfl)) ?_
                    refine ⟨?_, hF⟩
                    first
                      | (unfold binV; rw [if_pos (by omega)]; rfl)
                      | (unfold binV; rw [if_neg (by omega), if_pos (by omega)]; rfl)
                      | (rw [hjs]
                         first
                           | (rw [judge_eq (by omega)]; rfl)
                           | (rw [judge_ne (by omega)]; rfl)
                           | (rw [judge_lt (by omega)]; rfl)
                           | (rw [judge_le (by omega)]; rfl)
                           | (rw [judge_gt (by omega)]; rfl)
                           | (rw [judge_ge (by omega) (by omega) (by omega) (by omega) (by omega)]; rfl))
                      | (have hcx : cntV x = true := by assumption
                         have hcy : cntV y = true := by assumption
                         rw [binV_num (by omega) (by omega) hcx hcy, if_pos (by omega)]
                         unfold reckon
                         repeat first | rw [if_pos (by omega)] | rw [if_neg (by omega)]
                         rfl)
                      | (have hcn : cntV x = false ∨ cntV y = false := by first | exact .inl (by assumption) | exact .inr (by assumption)
                         rw [binV_not (by omega) (by omega) hcn, if_pos (by omega)]
                         rfl)
                      | (have hcn : cntV x = false ∨ cntV y = false := by first | exact .inl (by assumption) | exact .inr (by assumption)
                         have hwd : wdV x = false ∨ wdV y = false := by
                           by_cases e1 : x.k = 2 ∨ x.k = 0
                           · exact .inr (wdV_no.2 (by omega))
                           · exact .inl (wdV_no.2 e1)
                         rw [binV_no (by omega) (by omega) hcn (by omega) hwd, if_neg (by omega)]
                         rfl)
          · try simp only [decide_eq_true_eq, decide_eq_false_iff_not, Bool.not_eq_true', Bool.not_eq_false', Bool.not_eq_eq_eq_not, Bool.not_true, Bool.not_false, beq_iff_eq, bne_iff_ne, ne_eq, beq_eq_false_iff_ne, bne_eq_false_iff_eq, gt_iff_lt, ge_iff_le, Int.not_lt, Int.not_le] at hg66
            refine wlg_no rfl ?_
            refine wl (ro_pick rfl rfl rfl) ?_
            refine wl_nil (x_then (hK29 _ _ ?_))
            clear hK29 K29
            refine wc_condF rfl ?_
            refine c_seq (fun K50 hK50 => ?_)
            refine c_reg ?_ -- region 26 eval.go:181
            refine wl (ro_fieldAddr (k := 0) rfl fo_104_0) ?_
            refine wl (ro_loadB rfl sc_3 (by assumption) rfl) ?_
            refine wl (ro_cmp rfl rfl rfl) ?_
            refine wl_fork rfl (fun hg78 => ?_) (fun hg78 => ?_)
            · try simp only [decide_eq_true_eq, decide_eq_false_iff_not, Bool.not_eq_true', Bool.not_eq_false', Bool.not_eq_eq_eq_not, Bool.not_true, Bool.not_false, beq_iff_eq, bne_iff_ne, ne_eq, beq_eq_false_iff_ne, bne_eq_false_iff_eq, gt_iff_lt, ge_iff_le, Int.not_lt, Int.not_le] at hg78
              refine wlg_no rfl ?_
              refine wlg_no rfl ?_
              refine wlg_no rfl ?_
              refine wl (ro_pick rfl rfl rfl) ?_
              refine wl (ro_move rfl) ?_
              refine wlg_yes rfl (ro_fieldAddr (k := 0) rfl fo_104_0) ?_
              refine wlg_yes rfl (ro_loadB rfl sc_3 (by assumption) rfl) ?_
              refine wlg_yes rfl (ro_cmp rfl rfl rfl) ?_
              refine wlg_fork rfl rfl (fun hg87 => ?_) (fun hg87 => ?_)
              · try simp only [decide_eq_true_eq, decide_eq_false_iff_not, Bool.not_eq_true', Bool.not_eq_false', Bool.not_eq_eq_eq_not, Bool.not_true, Bool.not_false, beq_iff_eq, bne_iff_ne, ne_eq, beq_eq_false_iff_ne, bne_eq_false_iff_eq, gt_iff_lt, ge_iff_le, Int.not_lt, Int.not_le] at hg87
                refine wlg_no rfl ?_
                refine wlg_no rfl ?_
                refine wlg_no rfl ?_
                refine wlg_yes rfl (ro_pick rfl rfl rfl) ?_
                refine wl (ro_pick rfl rfl rfl) ?_
                refine wl_nil (x_then (hK50 _ _ ?_))
                clear hK50 K50
                refine wc_condT rfl ?_
                refine c_seq (fun K51 hK51 => ?_)
                refine c_reg ?_ -- region 27 eval.go:182
                refine wl (ro_fieldAddr (k := 2) rfl fo_104_2) ?_
                refine wl (ro_loadB rfl sc_9 (by assumption) rfl) ?_
                refine wl (ro_fieldAddr (k := 2) rfl fo_104_2) ?_
                refine wl (ro_loadB rfl sc_9 (by assumption) rfl) ?_
                refine wl (ro_ltS rfl rfl rfl) ?_
                refine wl_nil (x_then (hK51 _ _ ?_))
                clear hK51 K51
                refine wc_cond rfl (fun hc97 => ?_) (fun hc97 => ?_)
                · try simp only [decide_eq_true_eq, decide_eq_false_iff_not, Bool.not_eq_true', Bool.not_eq_false', Bool.not_eq_eq_eq_not, Bool.not_true, Bool.not_false, beq_iff_eq, bne_iff_ne, ne_eq, beq_eq_false_iff_ne, bne_eq_false_iff_eq, gt_iff_lt, ge_iff_le, Int.not_lt, Int.not_le] at hc97
                  refine c_reg ?_ -- region 28 eval.go:183
                  refine wl (ro_assign rfl) ?_
                  refine wl_nil (x_then ?_)
                  refine ⟨hF, h6, ?_⟩
                  first
                    | (have hcx : cntV x = true := by assumption
                       have hcy : cntV y = true := by assumption
                       refine ⟨_, ?_, kp _ ⟨rfl, rfl, rfl, trivial⟩⟩
                       rw [binV_num (by omega) (by omega) hcx hcy, if_neg (by omega)]
                       first
                         | rw [cmpI_lt (by omega)]
                         | rw [cmpI_gt (by omega)]
                         | rw [cmpI_eq (by omega) (by omega)])
                    | (have hcn : cntV x = false ∨ cntV y = false := by first | exact .inl (by assumption) | exact .inr (by assumption)
                       refine ⟨_, ?_, kp _ ⟨rfl, rfl, rfl, trivial⟩⟩
                       first
                         | (have hw1 : wdV x = true := wdV_iff.2 (by omega)
                            have hw2 : wdV y = true := wdV_iff.2 (by omega)
                            rw [binV_not (by omega) (by omega) hcn, if_neg (by omega), if_pos ⟨hw1, hw2⟩]
                            first
                              | rw [cmpS_lt hc97]
                              | (have hc102' := hc102
                                 simp only [hc97, Bool.true_or, Bool.false_or, beq_iff_eq, beq_eq_false_iff_ne, Bool.true_eq_false, Bool.false_eq_true] at hc102'
                                 first
                                   | rw [cmpS_gt hc97 hc102']
                                   | rw [cmpS_eq hc97 hc102']))
                         | (have hwd : wdV x = false ∨ wdV y = false := by
                              by_cases e1 : x.k = 2 ∨ x.k = 0
                              · exact .inr (wdV_no.2 (by omega))
                              · exact .inl (wdV_no.2 e1)
                            rw [binV_no (by omega) (by omega) hcn (by omega) hwd, if_pos (by omega)]))
                · try simp only [decide_eq_true_eq, decide_eq_false_iff_not, Bool.not_eq_true', Bool.not_eq_false', Bool.not_eq_eq_eq_not, Bool.not_true, Bool.not_false, beq_iff_eq, bne_iff_ne, ne_eq, beq_eq_false_iff_ne, bne_eq_false_iff_eq, gt_iff_lt, ge_iff_le, Int.not_lt, Int.not_le] at hc97
                  refine c_seq (fun K52 hK52 => ?_)
                  refine c_reg ?_ -- region 29 eval.go:184
                  refine wl (ro_fieldAddr (k := 2) rfl fo_104_2) ?_
                  refine wl (ro_loadB rfl sc_9 (by assumption) rfl) ?_
                  refine wl (ro_fieldAddr (k := 2) rfl fo_104_2) ?_
                  refine wl (ro_loadB rfl sc_9 (by assumption) rfl) ?_
                  refine wl (ro_ltS rfl rfl rfl) ?_
                  refine wl_nil (x_then (hK52 _ _ ?_))
                  clear hK52 K52
                  refine wc_cond rfl (fun hc102 => ?_) (fun hc102 => ?_)
                  · try simp only [decide_eq_true_eq, decide_eq_false_iff_not, Bool.not_eq_true', Bool.not_eq_false', Bool.not_eq_eq_eq_not, Bool.not_true, Bool.not_false, beq_iff_eq, bne_iff_ne, ne_eq, beq_eq_false_iff_ne, bne_eq_false_iff_eq, gt_iff_lt, ge_iff_le, Int.not_lt, Int.not_le] at hc102
                    refine c_reg ?_ -- region 30 eval.go:185
                    refine wl (ro_assign rfl) ?_
                    refine wl_nil (x_then ?_)
                    refine ⟨hF, h6, ?_⟩
                    first
                      | (have hcx : cntV x = true := by assumption
                         have hcy : cntV y = true := by assumption
                         refine ⟨_, ?_, kp _ ⟨rfl, rfl, rfl, trivial⟩⟩
                         rw [binV_num (by omega) (by omega) hcx hcy, if_neg (by omega)]
                         first
                           | rw [cmpI_lt (by omega)]
                           | rw [cmpI_gt (by omega)]
                           | rw [cmpI_eq (by omega) (by omega)])
                      | (have hcn : cntV x = false ∨ cntV y = false := by first | exact .inl (by assumption) | exact .inr (by assumption)
                         refine ⟨_, ?_, kp _ ⟨rfl, rfl, rfl, trivial⟩⟩
                         first
                           | (have hw1 : wdV x = true := wdV_iff.2 (by omega)
                              have hw2 : wdV y = true := wdV_iff.2 (by omega)
                              rw [binV_not (by omega) (by omega) hcn, if_neg (by omega), if_pos ⟨hw1, hw2⟩]
                              first
                                | rw [cmpS_lt hc97]
                                | (have hc102' := hc102
                                   simp only [hc97, Bool.true_or, Bool.false_or, beq_iff_eq, beq_eq_false_iff_ne, Bool.true_eq_false, Bool.false_eq_true] at hc102'
                                   first
                                     | rw [cmpS_gt hc97 hc102']
                                     | rw [cmpS_eq hc97 hc102']))
                           | (have hwd : wdV x = false ∨ wdV y = false := by
                                by_cases e1 : x.k = 2 ∨ x.k = 0
                                · exact .inr (wdV_no.2 (by omega))
                                · exact .inl (wdV_no.2 e1)
                              rw [binV_no (by omega) (by omega) hcn (by omega) hwd, if_pos (by omega)]))
                  · try simp only [decide_eq_true_eq, decide_eq_false_iff_not, Bool.not_eq_true', Bool.not_eq_false', Bool.not_eq_eq_eq_not, Bool.not_true, Bool.not_false, beq_iff_eq, bne_iff_ne, ne_eq, beq_eq_false_iff_ne, bne_eq_false_iff_eq, gt_iff_lt, ge_iff_le, Int.not_lt, Int.not_le] at hc102
                    refine c_skip (x_then ?_)
                    refine ⟨hF, h6, ?_⟩
                    first
                      | (have hcx : cntV x = true := by assumption
                         have hcy : cntV y = true := by assumption
                         refine ⟨_, ?_, kp _ ⟨rfl, rfl, rfl, trivial⟩⟩
                         rw [binV_num (by omega) (by omega) hcx hcy, if_neg (by omega)]
                         first
                           | rw [cmpI_lt (by omega)]
                           | rw [cmpI_gt (by omega)]
                           | rw [cmpI_eq (by omega) (by omega)])
                      | (have hcn : cntV x = false ∨ cntV y = false := by first | exact .inl (by assumption) | exact .inr (by assumption)
                         refine ⟨_, ?_, kp _ ⟨rfl, rfl, rfl, trivial⟩⟩
                         first
                           | (have hw1 : wdV x = true := wdV_iff.2 (by omega)
                              have hw2 : wdV y = true := wdV_iff.2 (by omega)
                              rw [binV_not (by omega) (by omega) hcn, if_neg (by omega), if_pos ⟨hw1, hw2⟩]
                              first
                                | rw [cmpS_lt hc97]
                                | (have hc102' := hc102
                                   simp only [hc97, Bool.true_or, Bool.false_or, beq_iff_eq, beq_eq_false_iff_ne, Bool.true_eq_false, Bool.false_eq_true] at hc102'
                                   first
                                     | rw [cmpS_gt hc97 hc102']
                                     | rw [cmpS_eq hc97 hc102']))
                           | (have hwd : wdV x = false ∨ wdV y = false := by
                                by_cases e1 : x.k = 2 ∨ x.k = 0
                                · exact .inr (wdV_no.2 (by omega))
                                · exact .inl (wdV_no.2 e1)
                              rw [binV_no (by omega) (by omega) hcn (by omega) hwd, if_pos (by omega)]))
              · try simp only [decide_eq_true_eq, decide_eq_false_iff_not, Bool.not_eq_true', Bool.not_eq_false', Bool.not_eq_eq_eq_not, Bool.not_true, Bool.not_false, beq_iff_eq, bne_iff_ne, ne_eq, beq_eq_false_iff_ne, bne_eq_false_iff_eq, gt_iff_lt, ge_iff_le, Int.not_lt, Int.not_le] at hg87
                refine wlg_yes rfl (ro_fieldAddr (k := 0) rfl fo_104_0) ?_
                refine wlg_yes rfl (ro_loadB rfl sc_3 (by assumption) rfl) ?_
                refine wlg_yes rfl (ro_cmp rfl rfl rfl) ?_
                refine wlg_yes rfl (ro_pick rfl rfl rfl) ?_
                refine wl (ro_pick rfl rfl rfl) ?_
                refine wl_nil (x_then (hK50 _ _ ?_))
                clear hK50 K50
                refine wc_cond rfl (fun hc92 => ?_) (fun hc92 => ?_)
                · try simp only [decide_eq_true_eq, decide_eq_false_iff_not, Bool.not_eq_true', Bool.not_eq_false', Bool.not_eq_eq_eq_not, Bool.not_true, Bool.not_false, beq_iff_eq, bne_iff_ne, ne_eq, beq_eq_false_iff_ne, bne_eq_false_iff_eq, gt_iff_lt, ge_iff_le, Int.not_lt, Int.not_le] at hc92
                  refine c_seq (fun K53 hK53 => ?_)
                  refine c_reg ?_ -- region 27 eval.go:182
                  refine wl (ro_fieldAddr (k := 2) rfl fo_104_2) ?_
                  refine wl (ro_loadB rfl sc_9 (by assumption) rfl) ?_
                  refine wl (ro_fieldAddr (k := 2) rfl fo_104_2) ?_
                  refine wl (ro_loadB rfl sc_9 (by assumption) rfl) ?_
                  refine wl (ro_ltS rfl rfl rfl) ?_
                  refine wl_nil (x_then (hK53 _ _ ?_))
                  clear hK53 K53
                  refine wc_cond rfl (fun hc97 => ?_) (fun hc97 => ?_)
                  · try simp only [decide_eq_true_eq, decide_eq_false_iff_not, Bool.not_eq_true', Bool.not_eq_false', Bool.not_eq_eq_eq_not, Bool.not_true, Bool.not_false, beq_iff_eq, bne_iff_ne, ne_eq, beq_eq_false_iff_ne, bne_eq_false_iff_eq, gt_iff_lt, ge_iff_le, Int.not_lt, Int.not_le] at hc97
                    refine c_reg ?_ -- region 28 eval.go:183
                    refine wl (ro_assign rfl) ?_
                    refine wl_nil (x_then ?_)
                    refine ⟨hF, h6, ?_⟩
                    first
                      | (have hcx : cntV x = true := by assumption
                         have hcy : cntV y = true := by assumption
                         refine ⟨_, ?_, kp _ ⟨rfl, rfl, rfl, trivial⟩⟩
                         rw [binV_num (by omega) (by omega) hcx hcy, if_neg (by omega)]
                         first
                           | rw [cmpI_lt (by omega)]
                           | rw [cmpI_gt (by omega)]
                           | rw [cmpI_eq (by omega) (by omega)])
                      | (have hcn : cntV x = false ∨ cntV y = false := by first | exact .inl (by assumption) | exact .inr (by assumption)
                         refine ⟨_, ?_, kp _ ⟨rfl, rfl, rfl, trivial⟩⟩
                         first
                           | (have hw1 : wdV x = true := wdV_iff.2 (by omega)
                              have hw2 : wdV y = true := wdV_iff.2 (by omega)
                              rw [binV_not (by omega) (by omega) hcn, if_neg (by omega), if_pos ⟨hw1, hw2⟩]
                              first
                                | rw [cmpS_lt hc97]
                                | (have hc102' := hc102
                                   simp only [hc97, Bool.true_or, Bool.false_or, beq_iff_eq, beq_eq_false_iff_ne, Bool.true_eq_false, Bool.false_eq_true] at hc102'
                                   first
                                     | rw [cmpS_gt hc97 hc102']
                                     | rw [cmpS_eq hc97 hc102']))
                           | (have hwd : wdV x = false ∨ wdV y = false := by
                                by_cases e1 : x.k = 2 ∨ x.k = 0
                                · exact .inr (wdV_no.2 (by omega))
                                · exact .inl (wdV_no.2 e1)
                              rw [binV_no (by omega) (by omega) hcn (by omega) hwd, if_pos (by omega)]))
                  · try simp only [decide_eq_true_eq, decide_eq_false_iff_not, Bool.not_eq_true', Bool.not_eq_false', Bool.not_eq_eq_eq_not, Bool.not_true, Bool.not_false, beq_iff_eq, bne_iff_ne, ne_eq, beq_eq_false_iff_ne, bne_eq_false_iff_eq, gt_iff_lt, ge_iff_le, Int.not_lt, Int.not_le] at hc97
                    refine c_seq (fun K54 hK54 => ?_)
                    refine c_reg ?_ -- region 29 eval.go:184
                    refine wl (ro_fieldAddr (k := 2) rfl fo_104_2) ?_
                    refine wl (ro_loadB rfl sc_9 (by assumption) rfl) ?_
                    refine wl (ro_fieldAddr (k := 2) rfl fo_104_2) ?_
                    refine wl (ro_loadB rfl sc_9 (by assumption) rfl) ?_
                    refine wl (ro_ltS rfl rfl rfl) ?_
                    refine wl_nil (x_then (hK54 _ _ ?_))
                    clear hK54 K54
                    refine wc_cond rfl (fun hc102 => ?_) (fun hc102 => ?_)
                    · try simp only [decide_eq_true_eq, decide_eq_false_iff_not, Bool.not_eq_true', Bool.not_eq_false', Bool.not_eq_eq_eq_not, Bool.not_true, Bool.not_false, beq_iff_eq, bne_iff_ne, ne_eq, beq_eq_false_iff_ne, bne_eq_false_iff_eq, gt_iff_lt, ge_iff_le, Int.not_lt, Int.not_le] at hc102
                      refine c_reg ?_ -- region 30 eval.go:185
                      refine wl (ro_assign rfl) ?_
                      refine wl_nil (x_then ?_)
                      refine ⟨hF, h6, ?_⟩
                      first
                        | (have hcx : cntV x = true := by assumption
                           have hcy : cntV y = true := by assumption
                           refine ⟨_, ?_, kp _ ⟨rfl, rfl, rfl, trivial⟩⟩
                           rw [binV_num (by omega) (by omega) hcx hcy, if_neg (by omega)]
                           first
                             | rw [cmpI_lt (by omega)]
                             | rw [cmpI_gt (by omega)]
                             | rw [cmpI_eq (by omega) (by omega)])
                        | (have hcn : cntV x = false ∨ cntV y = false := by first | exact .inl (by assumption) | exact .inr (by assumption)
                           refine ⟨_, ?_, kp _ ⟨rfl, rfl, rfl, trivial⟩⟩
                           first
                             | (have hw1 : wdV x = true := wdV_iff.2 (by omega)
                                have hw2 : wdV y = true := wdV_iff.2 (by omega)
                                rw [binV_not (by omega) (by omega) hcn, if_neg (by omega), if_pos ⟨hw1, hw2⟩]
                                first
                                  | rw [cmpS_lt hc97]
                                  | (have hc102' := hc102
                                     simp only [hc97, Bool.true_or, Bool.false_or, beq_iff_eq, beq_eq_false_iff_ne, Bool.true_eq_false, Bool.false_eq_true] at hc102'
                                     first
                                       | rw [cmpS_gt hc97 hc102']
                                       | rw [cmpS_eq hc97 hc102']))
                             | (have hwd : wdV x = false ∨ wdV y = false := by
                                  by_cases e1 : x.k = 2 ∨ x.k = 0
                                  · exact .inr (wdV_no.2 (by omega))
                                  · exact .inl (wdV_no.2 e1)
                                rw [binV_no (by omega) (by omega) hcn (by omega) hwd, if_pos (by omega)]))
                    · try simp only [decide_eq_true_eq, decide_eq_false_iff_not, Bool.not_eq_true', Bool.not_eq_false', Bool.not_eq_eq_eq_not, Bool.not_true, Bool.not_false, beq_iff_eq, bne_iff_ne, ne_eq, beq_eq_false_iff_ne, bne_eq_false_iff_eq, gt_iff_lt, ge_iff_le, Int.not_lt, Int.not_le] at hc102
                      refine c_skip (x_then ?_)
                      refine ⟨hF, h6, ?_⟩
                      first
                        | (have hcx : cntV x = true := by assumption
                           have hcy : cntV y = true := by assumption
                           refine ⟨_, ?_, kp _ ⟨rfl, rfl, rfl, trivial⟩⟩
                           rw [binV_num (by omega) (by omega) hcx hcy, if_neg (by omega)]
                           first
                             | rw [cmpI_lt (by omega)]
                             | rw [cmpI_gt (by omega)]
                             | rw [cmpI_eq (by omega) (by omega)])
                        | (have hcn : cntV x = false ∨ cntV y = false := by first | exact .inl (by assumption) | exact .inr (by assumption)
                           refine ⟨_, ?_, kp _ ⟨rfl, rfl, rfl, trivial⟩⟩
                           first
                             | (have hw1 : wdV x = true := wdV_iff.2 (by omega)
                                have hw2 : wdV y = true := wdV_iff.2 (by omega)
                                rw [binV_not (by omega) (by omega) hcn, if_neg (by omega), if_pos ⟨hw1, hw2⟩]
                                first
                                  | rw [cmpS_lt hc97]
                                  | (have hc102' := hc102
                                     simp only [hc97, Bool.true_or, Bool.false_or, beq_iff_eq, beq_eq_false_iff_ne, Bool.true_eq_false, Bool.false_eq_true] at hc102'
                                     first
                                       | rw [cmpS_gt hc97 hc102']
                                       | rw [cmpS_eq hc97 hc102']))
                             | (have hwd : wdV x = false ∨ wdV y = false := by
                                  by_cases e1 : x.k = 2 ∨ x.k = 0
                                  · exact .inr (wdV_no.2 (by omega))
                                  · exact .inl (wdV_no.2 e1)
                                rw [binV_no (by omega) (by omega) hcn (by omega) hwd, if_pos (by omega)]))
                · try simp only [decide_eq_true_eq, decide_eq_false_iff_not, Bool.not_eq_true', Bool.not_eq_false', Bool.not_eq_eq_eq_not, Bool.not_true, Bool.not_false, beq_iff_eq, bne_iff_ne, ne_eq, beq_eq_false_iff_ne, bne_eq_false_iff_eq, gt_iff_lt, ge_iff_le, Int.not_lt, Int.not_le] at hc92
                  refine c_seq (fun K55 hK55 => ?_)
                  refine c_reg ?_ -- region 31 eval.go:187
                  refine wl (ro_fieldAddr (k := 0) rfl fo_104_0) ?_
                  refine wl (ro_loadB rfl sc_3 (by assumption) rfl) ?_
                  refine wl (ro_cmp rfl rfl rfl) ?_
                  refine wl_fork rfl (fun hg106 => ?_) (fun hg106 => ?_)
                  · try simp only [decide_eq_true_eq, decide_eq_false_iff_not, Bool.not_eq_true', Bool.not_eq_false', Bool.not_eq_eq_eq_not, Bool.not_true, Bool.not_false, beq_iff_eq, bne_iff_ne, ne_eq, beq_eq_false_iff_ne, bne_eq_false_iff_eq, gt_iff_lt, ge_iff_le, Int.not_lt, Int.not_le] at hg106
                    refine wlg_yes rfl (ro_fieldAddr (k := 0) rfl fo_104_0) ?_
                    refine wlg_yes rfl (ro_loadB rfl sc_3 (by assumption) rfl) ?_
                    refine wlg_yes rfl (ro_cmp rfl rfl rfl) ?_
                    refine wl (ro_pick rfl rfl rfl) ?_
                    refine wl_nil (x_then (hK55 _ _ ?_))
                    clear hK55 K55
                    refine wc_cond rfl (fun hc110 => ?_) (fun hc110 => ?_)
                    · try simp only [decide_eq_true_eq, decide_eq_false_iff_not, Bool.not_eq_true', Bool.not_eq_false', Bool.not_eq_eq_eq_not, Bool.not_true, Bool.not_false, beq_iff_eq, bne_iff_ne, ne_eq, beq_eq_false_iff_ne, bne_eq_false_iff_eq, gt_iff_lt, ge_iff_le, Int.not_lt, Int.not_le] at hc110
                      refine c_reg ?_ -- region 32 eval.go:188
                      refine wl (ro_fieldAddr (k := 1) rfl fo_104_1) ?_
                      refine wl (ro_loadB rfl sc_3 (by assumption) rfl) ?_
                      refine wl (ro_fieldAddr (k := 1) rfl fo_104_1) ?_
                      refine wl (ro_loadB rfl sc_3 (by assumption) rfl) ?_
                      refine wl (ro_arith rfl rfl rfl (Go.IntWalk.i64_in _ (by omega))) ?_
                      refine wl (ro_assign rfl) ?_
                      refine wl_nil (x_then ?_)
                      refine ⟨hF, h6, ?_⟩
                      first
                        | (have hcx : cntV x = true := by assumption
                           have hcy : cntV y = true := by assumption
                           refine ⟨_, ?_, kp _ ⟨rfl, rfl, rfl, trivial⟩⟩
                           rw [binV_num (by omega) (by omega) hcx hcy, if_neg (by omega)]
                           first
                             | rw [cmpI_lt (by omega)]
                             | rw [cmpI_gt (by omega)]
                             | rw [cmpI_eq (by omega) (by omega)])
                        | (have hcn : cntV x = false ∨ cntV y = false := by first | exact .inl (by assumption) | exact .inr (by assumption)
                           refine ⟨_, ?_, kp _ ⟨rfl, rfl, rfl, trivial⟩⟩
                           first
                             | (have hw1 : wdV x = true := wdV_iff.2 (by omega)
                                have hw2 : wdV y = true := wdV_iff.2 (by omega)
                                rw [binV_not (by omega) (by omega) hcn, if_neg (by omega), if_pos ⟨hw1, hw2⟩]
                                first
                                  | rw [cmpS_lt hc97]
                                  | (have hc102' := hc102
                                     simp only [hc97, Bool.true_or, Bool.false_or, beq_iff_eq, beq_eq_false_iff_ne, Bool.true_eq_false, Bool.false_eq_true] at hc102'
                                     first
                                       | rw [cmpS_gt hc97 hc102']
                                       | rw [cmpS_eq hc97 hc102']))
                             | (have hwd : wdV x = false ∨ wdV y = false := by
                                  by_cases e1 : x.k = 2 ∨ x.k = 0
                                  · exact .inr (wdV_no.2 (by omega))
                                  · exact .inl (wdV_no.2 e1)
                                rw [binV_no (by omega) (by omega) hcn (by omega) hwd, if_pos (by omega)]))
                    · try simp only [decide_eq_true_eq, decide_eq_false_iff_not, Bool.not_eq_true', Bool.not_eq_false', Bool.not_eq_eq_eq_not, Bool.not_true, Bool.not_false, beq_iff_eq, bne_iff_ne, ne_eq, beq_eq_false_iff_ne, bne_eq_false_iff_eq, gt_iff_lt, ge_iff_le, Int.not_lt, Int.not_le] at hc110
                      refine c_seq (fun K56 hK56 => ?_)
                      refine c_reg ?_ -- region 33 eval.go:190
                      refine wl_call rfl en_116 (Err116) ?_
                      rintro _ w34 ⟨rfl, F34⟩
                      replace hF := hF.thenDrew.thenN F34
                      replace h4 := F34.blkN h4
                      replace h5 := F34.blkN h5
                      replace h6 := F34.blkN h6
                      refine wl_puta rfl rfl ((by (try exact vlc_cells _); all_goals simp [Value.oneCell', i64c, icv, u64c, u8c, ptr, S])) sz_104 (rfl) h6 ((by simp)) (rfl) (fun w35 h6 F35 => ?_)
                      replace hF := hF.thenDrew.thenO F35 (by first | exact .inr (by omega) | exact .inl rfl | exact .inl (by assumption))
                      replace h4 := F35.blkO h4 (by omega)
                      replace h5 := F35.blkO h5 (by omega)
                      refine wl_nil (x_then (hK56 _ _ ?_))
                      clear hK56 K56
                      refine c_ret (x_thenR ?_)
                      refine bq_ret (res1 Tryz.results214 (rv_c rfl ag_104 (h6) rfl)) ?_
                      refine ⟨?_, hF⟩
                      first
                        | (unfold binV; rw [if_pos (by omega)]; rfl)
                        | (unfold binV; rw [if_neg (by omega), if_pos (by omega)]; rfl)
                        | (rw [hjs]
                           first
                             | (rw [judge_eq (by omega)]; rfl)
                             | (rw [judge_ne (by omega)]; rfl)
                             | (rw [judge_lt (by omega)]; rfl)
                             | (rw [judge_le (by omega)]; rfl)
                             | (rw [judge_gt (by omega)]; rfl)
                             | (rw [judge_ge (by omega) (by omega) (by omega) (by omega) (by omega)]; rfl))
                        | (have hcx : cntV x = true := by assumption
                           have hcy : cntV y = true := by assumption
                           rw [binV_num (by omega) (by omega) hcx hcy, if_pos (by omega)]
                           unfold reckon
                           repeat first | rw [if_pos (by omega)] | rw [if_neg (by omega)]
                           rfl)
                        | (have hcn : cntV x = false ∨ cntV y = false := by first | exact .inl (by assumption) | exact .inr (by assumption)
                           rw [binV_not (by omega) (by omega) hcn, if_pos (by omega)]
                           rfl)
                        | (have hcn : cntV x = false ∨ cntV y = false := by first | exact .inl (by assumption) | exact .inr (by assumption)
                           have hwd : wdV x = false ∨ wdV y = false := by
                             by_cases e1 : x.k = 2 ∨ x.k = 0
                             · exact .inr (wdV_no.2 (by omega))
                             · exact .inl (wdV_no.2 e1)
                           rw [binV_no (by omega) (by omega) hcn (by omega) hwd, if_neg (by omega)]
                           rfl)
                  · try simp only [decide_eq_true_eq, decide_eq_false_iff_not, Bool.not_eq_true', Bool.not_eq_false', Bool.not_eq_eq_eq_not, Bool.not_true, Bool.not_false, beq_iff_eq, bne_iff_ne, ne_eq, beq_eq_false_iff_ne, bne_eq_false_iff_eq, gt_iff_lt, ge_iff_le, Int.not_lt, Int.not_le] at hg106
                    refine wlg_no rfl ?_
                    refine wlg_no rfl ?_
                    refine wlg_no rfl ?_
                    refine wl (ro_pick rfl rfl rfl) ?_
                    refine wl_nil (x_then (hK55 _ _ ?_))
                    clear hK55 K55
                    refine wc_condF rfl ?_
                    refine c_seq (fun K57 hK57 => ?_)
                    refine c_reg ?_ -- region 33 eval.go:190
                    refine wl_call rfl en_116 (Err116) ?_
                    rintro _ w36 ⟨rfl, F36⟩
                    replace hF := hF.thenDrew.thenN F36
                    replace h4 := F36.blkN h4
                    replace h5 := F36.blkN h5
                    replace h6 := F36.blkN h6
                    refine wl_puta rfl rfl ((by (try exact vlc_cells _); all_goals simp [Value.oneCell', i64c, icv, u64c, u8c, ptr, S])) sz_104 (rfl) h6 ((by simp)) (rfl) (fun w37 h6 F37 => ?_)
                    replace hF := hF.thenDrew.thenO F37 (by first | exact .inr (by omega) | exact .inl rfl | exact .inl (by assumption))
                    replace h4 := F37.blkO h4 (by omega)
                    replace h5 := F37.blkO h5 (by omega)
                    refine wl_nil (x_then (hK57 _ _ ?_))
                    clear hK57 K57
                    refine c_ret (x_thenR ?_)
                    refine bq_ret (res1 Tryz.results214 (rv_c rfl ag_104 (h6) rfl)) ?_
                    refine ⟨?_, hF⟩
                    first
                      | (unfold binV; rw [if_pos (by omega)]; rfl)
                      | (unfold binV; rw [if_neg (by omega), if_pos (by omega)]; rfl)
                      | (rw [hjs]
                         first
                           | (rw [judge_eq (by omega)]; rfl)
                           | (rw [judge_ne (by omega)]; rfl)
                           | (rw [judge_lt (by omega)]; rfl)
                           | (rw [judge_le (by omega)]; rfl)
                           | (rw [judge_gt (by omega)]; rfl)
                           | (rw [judge_ge (by omega) (by omega) (by omega) (by omega) (by omega)]; rfl))
                      | (have hcx : cntV x = true := by assumption
                         have hcy : cntV y = true := by assumption
                         rw [binV_num (by omega) (by omega) hcx hcy, if_pos (by omega)]
                         unfold reckon
                         repeat first | rw [if_pos (by omega)] | rw [if_neg (by omega)]
                         rfl)
                      | (have hcn : cntV x = false ∨ cntV y = false := by first | exact .inl (by assumption) | exact .inr (by assumption)
                         rw [binV_not (by omega) (by omega) hcn, if_pos (by omega)]
                         rfl)
                      | (have hcn : cntV x = false ∨ cntV y = false := by first | exact .inl (by assumption) | exact .inr (by assumption)
                         have hwd : wdV x = false ∨ wdV y = false := by
                           by_cases e1 : x.k = 2 ∨ x.k = 0
                           · exact .inr (wdV_no.2 (by omega))
                           · exact .inl (wdV_no.2 e1)
                         rw [binV_no (by omega) (by omega) hcn (by omega) hwd, if_neg (by omega)]
                         rfl)
            · try simp only [decide_eq_true_eq, decide_eq_false_iff_not, Bool.not_eq_true', Bool.not_eq_false', Bool.not_eq_eq_eq_not, Bool.not_true, Bool.not_false, beq_iff_eq, bne_iff_ne, ne_eq, beq_eq_false_iff_ne, bne_eq_false_iff_eq, gt_iff_lt, ge_iff_le, Int.not_lt, Int.not_le] at hg78
              refine wlg_yes rfl (ro_fieldAddr (k := 0) rfl fo_104_0) ?_
              refine wlg_yes rfl (ro_loadB rfl sc_3 (by assumption) rfl) ?_
              refine wlg_yes rfl (ro_cmp rfl rfl rfl) ?_
              refine wl (ro_pick rfl rfl rfl) ?_
              refine wl_fork rfl (fun hg83 => ?_) (fun hg83 => ?_)
              · try simp only [decide_eq_true_eq, decide_eq_false_iff_not, Bool.not_eq_true', Bool.not_eq_false', Bool.not_eq_eq_eq_not, Bool.not_true, Bool.not_false, beq_iff_eq, bne_iff_ne, ne_eq, beq_eq_false_iff_ne, bne_eq_false_iff_eq, gt_iff_lt, ge_iff_le, Int.not_lt, Int.not_le] at hg83
                refine wlg_yes rfl (ro_fieldAddr (k := 0) rfl fo_104_0) ?_
                refine wlg_yes rfl (ro_loadB rfl sc_3 (by assumption) rfl) ?_
                refine wlg_yes rfl (ro_cmp rfl rfl rfl) ?_
                refine wlg_fork rfl rfl (fun hg87 => ?_) (fun hg87 => ?_)
                · try simp only [decide_eq_true_eq, decide_eq_false_iff_not, Bool.not_eq_true', Bool.not_eq_false', Bool.not_eq_eq_eq_not, Bool.not_true, Bool.not_false, beq_iff_eq, bne_iff_ne, ne_eq, beq_eq_false_iff_ne, bne_eq_false_iff_eq, gt_iff_lt, ge_iff_le, Int.not_lt, Int.not_le] at hg87
                  refine wlg_no rfl ?_
                  refine wlg_no rfl ?_
                  refine wlg_no rfl ?_
                  refine wlg_yes rfl (ro_pick rfl rfl rfl) ?_
                  refine wl (ro_pick rfl rfl rfl) ?_
                  refine wl_nil (x_then (hK50 _ _ ?_))
                  clear hK50 K50
                  refine wc_condT rfl ?_
                  refine c_seq (fun K58 hK58 => ?_)
                  refine c_reg ?_ -- region 27 eval.go:182
                  refine wl (ro_fieldAddr (k := 2) rfl fo_104_2) ?_
                  refine wl (ro_loadB rfl sc_9 (by assumption) rfl) ?_
                  refine wl (ro_fieldAddr (k := 2) rfl fo_104_2) ?_
                  refine wl (ro_loadB rfl sc_9 (by assumption) rfl) ?_
                  refine wl (ro_ltS rfl rfl rfl) ?_
                  refine wl_nil (x_then (hK58 _ _ ?_))
                  clear hK58 K58
                  refine wc_cond rfl (fun hc97 => ?_) (fun hc97 => ?_)
                  · try simp only [decide_eq_true_eq, decide_eq_false_iff_not, Bool.not_eq_true', Bool.not_eq_false', Bool.not_eq_eq_eq_not, Bool.not_true, Bool.not_false, beq_iff_eq, bne_iff_ne, ne_eq, beq_eq_false_iff_ne, bne_eq_false_iff_eq, gt_iff_lt, ge_iff_le, Int.not_lt, Int.not_le] at hc97
                    refine c_reg ?_ -- region 28 eval.go:183
                    refine wl (ro_assign rfl) ?_
                    refine wl_nil (x_then ?_)
                    refine ⟨hF, h6, ?_⟩
                    first
                      | (have hcx : cntV x = true := by assumption
                         have hcy : cntV y = true := by assumption
                         refine ⟨_, ?_, kp _ ⟨rfl, rfl, rfl, trivial⟩⟩
                         rw [binV_num (by omega) (by omega) hcx hcy, if_neg (by omega)]
                         first
                           | rw [cmpI_lt (by omega)]
                           | rw [cmpI_gt (by omega)]
                           | rw [cmpI_eq (by omega) (by omega)])
                      | (have hcn : cntV x = false ∨ cntV y = false := by first | exact .inl (by assumption) | exact .inr (by assumption)
                         refine ⟨_, ?_, kp _ ⟨rfl, rfl, rfl, trivial⟩⟩
                         first
                           | (have hw1 : wdV x = true := wdV_iff.2 (by omega)
                              have hw2 : wdV y = true := wdV_iff.2 (by omega)
                              rw [binV_not (by omega) (by omega) hcn, if_neg (by omega), if_pos ⟨hw1, hw2⟩]
                              first
                                | rw [cmpS_lt hc97]
                                | (have hc102' := hc102
                                   simp only [hc97, Bool.true_or, Bool.false_or, beq_iff_eq, beq_eq_false_iff_ne, Bool.true_eq_false, Bool.false_eq_true] at hc102'
                                   first
                                     | rw [cmpS_gt hc97 hc102']
                                     | rw [cmpS_eq hc97 hc102']))
                           | (have hwd : wdV x = false ∨ wdV y = false := by
                                by_cases e1 : x.k = 2 ∨ x.k = 0
                                · exact .inr (wdV_no.2 (by omega))
                                · exact .inl (wdV_no.2 e1)
                              rw [binV_no (by omega) (by omega) hcn (by omega) hwd, if_pos (by omega)]))
                  · try simp only [decide_eq_true_eq, decide_eq_false_iff_not, Bool.not_eq_true', Bool.not_eq_false', Bool.not_eq_eq_eq_not, Bool.not_true, Bool.not_false, beq_iff_eq, bne_iff_ne, ne_eq, beq_eq_false_iff_ne, bne_eq_false_iff_eq, gt_iff_lt, ge_iff_le, Int.not_lt, Int.not_le] at hc97
                    refine c_seq (fun K59 hK59 => ?_)
                    refine c_reg ?_ -- region 29 eval.go:184
                    refine wl (ro_fieldAddr (k := 2) rfl fo_104_2) ?_
                    refine wl (ro_loadB rfl sc_9 (by assumption) rfl) ?_
                    refine wl (ro_fieldAddr (k := 2) rfl fo_104_2) ?_
                    refine wl (ro_loadB rfl sc_9 (by assumption) rfl) ?_
                    refine wl (ro_ltS rfl rfl rfl) ?_
                    refine wl_nil (x_then (hK59 _ _ ?_))
                    clear hK59 K59
                    refine wc_cond rfl (fun hc102 => ?_) (fun hc102 => ?_)
                    · try simp only [decide_eq_true_eq, decide_eq_false_iff_not, Bool.not_eq_true', Bool.not_eq_false', Bool.not_eq_eq_eq_not, Bool.not_true, Bool.not_false, beq_iff_eq, bne_iff_ne, ne_eq, beq_eq_false_iff_ne, bne_eq_false_iff_eq, gt_iff_lt, ge_iff_le, Int.not_lt, Int.not_le] at hc102
                      refine c_reg ?_ -- region 30 eval.go:185
                      refine wl (ro_assign rfl) ?_
                      refine wl_nil (x_then ?_)
                      refine ⟨hF, h6, ?_⟩
                      first
                        | (have hcx : cntV x = true := by assumption
                           have hcy : cntV y = true := by assumption
                           refine ⟨_, ?_, kp _ ⟨rfl, rfl, rfl, trivial⟩⟩
                           rw [binV_num (by omega) (by omega) hcx hcy, if_neg (by omega)]
                           first
                             | rw [cmpI_lt (by omega)]
                             | rw [cmpI_gt (by omega)]
                             | rw [cmpI_eq (by omega) (by omega)])
                        | (have hcn : cntV x = false ∨ cntV y = false := by first | exact .inl (by assumption) | exact .inr (by assumption)
                           refine ⟨_, ?_, kp _ ⟨rfl, rfl, rfl, trivial⟩⟩
                           first
                             | (have hw1 : wdV x = true := wdV_iff.2 (by omega)
                                have hw2 : wdV y = true := wdV_iff.2 (by omega)
                                rw [binV_not (by omega) (by omega) hcn, if_neg (by omega), if_pos ⟨hw1, hw2⟩]
                                first
                                  | rw [cmpS_lt hc97]
                                  | (have hc102' := hc102
                                     simp only [hc97, Bool.true_or, Bool.false_or, beq_iff_eq, beq_eq_false_iff_ne, Bool.true_eq_false, Bool.false_eq_true] at hc102'
                                     first
                                       | rw [cmpS_gt hc97 hc102']
                                       | rw [cmpS_eq hc97 hc102']))
                             | (have hwd : wdV x = false ∨ wdV y = false := by
                                  by_cases e1 : x.k = 2 ∨ x.k = 0
                                  · exact .inr (wdV_no.2 (by omega))
                                  · exact .inl (wdV_no.2 e1)
                                rw [binV_no (by omega) (by omega) hcn (by omega) hwd, if_pos (by omega)]))
                    · try simp only [decide_eq_true_eq, decide_eq_false_iff_not, Bool.not_eq_true', Bool.not_eq_false', Bool.not_eq_eq_eq_not, Bool.not_true, Bool.not_false, beq_iff_eq, bne_iff_ne, ne_eq, beq_eq_false_iff_ne, bne_eq_false_iff_eq, gt_iff_lt, ge_iff_le, Int.not_lt, Int.not_le] at hc102
                      refine c_skip (x_then ?_)
                      refine ⟨hF, h6, ?_⟩
                      first
                        | (have hcx : cntV x = true := by assumption
                           have hcy : cntV y = true := by assumption
                           refine ⟨_, ?_, kp _ ⟨rfl, rfl, rfl, trivial⟩⟩
                           rw [binV_num (by omega) (by omega) hcx hcy, if_neg (by omega)]
                           first
                             | rw [cmpI_lt (by omega)]
                             | rw [cmpI_gt (by omega)]
                             | rw [cmpI_eq (by omega) (by omega)])
                        | (have hcn : cntV x = false ∨ cntV y = false := by first | exact .inl (by assumption) | exact .inr (by assumption)
                           refine ⟨_, ?_, kp _ ⟨rfl, rfl, rfl, trivial⟩⟩
                           first
                             | (have hw1 : wdV x = true := wdV_iff.2 (by omega)
                                have hw2 : wdV y = true := wdV_iff.2 (by omega)
                                rw [binV_not (by omega) (by omega) hcn, if_neg (by omega), if_pos ⟨hw1, hw2⟩]
                                first
                                  | rw [cmpS_lt hc97]
                                  | (have hc102' := hc102
                                     simp only [hc97, Bool.true_or, Bool.false_or, beq_iff_eq, beq_eq_false_iff_ne, Bool.true_eq_false, Bool.false_eq_true] at hc102'
                                     first
                                       | rw [cmpS_gt hc97 hc102']
                                       | rw [cmpS_eq hc97 hc102']))
                             | (have hwd : wdV x = false ∨ wdV y = false := by
                                  by_cases e1 : x.k = 2 ∨ x.k = 0
                                  · exact .inr (wdV_no.2 (by omega))
                                  · exact .inl (wdV_no.2 e1)
                                rw [binV_no (by omega) (by omega) hcn (by omega) hwd, if_pos (by omega)]))
                · try simp only [decide_eq_true_eq, decide_eq_false_iff_not, Bool.not_eq_true', Bool.not_eq_false', Bool.not_eq_eq_eq_not, Bool.not_true, Bool.not_false, beq_iff_eq, bne_iff_ne, ne_eq, beq_eq_false_iff_ne, bne_eq_false_iff_eq, gt_iff_lt, ge_iff_le, Int.not_lt, Int.not_le] at hg87
                  refine wlg_yes rfl (ro_fieldAddr (k := 0) rfl fo_104_0) ?_
                  refine wlg_yes rfl (ro_loadB rfl sc_3 (by assumption) rfl) ?_
                  refine wlg_yes rfl (ro_cmp rfl rfl rfl) ?_
                  refine wlg_yes rfl (ro_pick rfl rfl rfl) ?_
                  refine wl (ro_pick rfl rfl rfl) ?_
                  refine wl_nil (x_then (hK50 _ _ ?_))
                  clear hK50 K50
                  refine wc_cond rfl (fun hc92 => ?_) (fun hc92 => ?_)
                  · try simp only [decide_eq_true_eq, decide_eq_false_iff_not, Bool.not_eq_true', Bool.not_eq_false', Bool.not_eq_eq_eq_not, Bool.not_true, Bool.not_false, beq_iff_eq, bne_iff_ne, ne_eq, beq_eq_false_iff_ne, bne_eq_false_iff_eq, gt_iff_lt, ge_iff_le, Int.not_lt, Int.not_le] at hc92
                    refine c_seq (fun K60 hK60 => ?_)
                    refine c_reg ?_ -- region 27 eval.go:182
                    refine wl (ro_fieldAddr (k := 2) rfl fo_104_2) ?_
                    refine wl (ro_loadB rfl sc_9 (by assumption) rfl) ?_
                    refine wl (ro_fieldAddr (k := 2) rfl fo_104_2) ?_
                    refine wl (ro_loadB rfl sc_9 (by assumption) rfl) ?_
                    refine wl (ro_ltS rfl rfl rfl) ?_
                    refine wl_nil (x_then (hK60 _ _ ?_))
                    clear hK60 K60
                    refine wc_cond rfl (fun hc97 => ?_) (fun hc97 => ?_)
                    · try simp only [decide_eq_true_eq, decide_eq_false_iff_not, Bool.not_eq_true', Bool.not_eq_false', Bool.not_eq_eq_eq_not, Bool.not_true, Bool.not_false, beq_iff_eq, bne_iff_ne, ne_eq, beq_eq_false_iff_ne, bne_eq_false_iff_eq, gt_iff_lt, ge_iff_le, Int.not_lt, Int.not_le] at hc97
                      refine c_reg ?_ -- region 28 eval.go:183
                      refine wl (ro_assign rfl) ?_
                      refine wl_nil (x_then ?_)
                      refine ⟨hF, h6, ?_⟩
                      first
                        | (have hcx : cntV x = true := by assumption
                           have hcy : cntV y = true := by assumption
                           refine ⟨_, ?_, kp _ ⟨rfl, rfl, rfl, trivial⟩⟩
                           rw [binV_num (by omega) (by omega) hcx hcy, if_neg (by omega)]
                           first
                             | rw [cmpI_lt (by omega)]
                             | rw [cmpI_gt (by omega)]
                             | rw [cmpI_eq (by omega) (by omega)])
                        | (have hcn : cntV x = false ∨ cntV y = false := by first | exact .inl (by assumption) | exact .inr (by assumption)
                           refine ⟨_, ?_, kp _ ⟨rfl, rfl, rfl, trivial⟩⟩
                           first
                             | (have hw1 : wdV x = true := wdV_iff.2 (by omega)
                                have hw2 : wdV y = true := wdV_iff.2 (by omega)
                                rw [binV_not (by omega) (by omega) hcn, if_neg (by omega), if_pos ⟨hw1, hw2⟩]
                                first
                                  | rw [cmpS_lt hc97]
                                  | (have hc102' := hc102
                                     simp only [hc97, Bool.true_or, Bool.false_or, beq_iff_eq, beq_eq_false_iff_ne, Bool.true_eq_false, Bool.false_eq_true] at hc102'
                                     first
                                       | rw [cmpS_gt hc97 hc102']
                                       | rw [cmpS_eq hc97 hc102']))
                             | (have hwd : wdV x = false ∨ wdV y = false := by
                                  by_cases e1 : x.k = 2 ∨ x.k = 0
                                  · exact .inr (wdV_no.2 (by omega))
                                  · exact .inl (wdV_no.2 e1)
                                rw [binV_no (by omega) (by omega) hcn (by omega) hwd, if_pos (by omega)]))
                    · try simp only [decide_eq_true_eq, decide_eq_false_iff_not, Bool.not_eq_true', Bool.not_eq_false', Bool.not_eq_eq_eq_not, Bool.not_true, Bool.not_false, beq_iff_eq, bne_iff_ne, ne_eq, beq_eq_false_iff_ne, bne_eq_false_iff_eq, gt_iff_lt, ge_iff_le, Int.not_lt, Int.not_le] at hc97
                      refine c_seq (fun K61 hK61 => ?_)
                      refine c_reg ?_ -- region 29 eval.go:184
                      refine wl (ro_fieldAddr (k := 2) rfl fo_104_2) ?_
                      refine wl (ro_loadB rfl sc_9 (by assumption) rfl) ?_
                      refine wl (ro_fieldAddr (k := 2) rfl fo_104_2) ?_
                      refine wl (ro_loadB rfl sc_9 (by assumption) rfl) ?_
                      refine wl (ro_ltS rfl rfl rfl) ?_
                      refine wl_nil (x_then (hK61 _ _ ?_))
                      clear hK61 K61
                      refine wc_cond rfl (fun hc102 => ?_) (fun hc102 => ?_)
                      · try simp only [decide_eq_true_eq, decide_eq_false_iff_not, Bool.not_eq_true', Bool.not_eq_false', Bool.not_eq_eq_eq_not, Bool.not_true, Bool.not_false, beq_iff_eq, bne_iff_ne, ne_eq, beq_eq_false_iff_ne, bne_eq_false_iff_eq, gt_iff_lt, ge_iff_le, Int.not_lt, Int.not_le] at hc102
                        refine c_reg ?_ -- region 30 eval.go:185
                        refine wl (ro_assign rfl) ?_
                        refine wl_nil (x_then ?_)
                        refine ⟨hF, h6, ?_⟩
                        first
                          | (have hcx : cntV x = true := by assumption
                             have hcy : cntV y = true := by assumption
                             refine ⟨_, ?_, kp _ ⟨rfl, rfl, rfl, trivial⟩⟩
                             rw [binV_num (by omega) (by omega) hcx hcy, if_neg (by omega)]
                             first
                               | rw [cmpI_lt (by omega)]
                               | rw [cmpI_gt (by omega)]
                               | rw [cmpI_eq (by omega) (by omega)])
                          | (have hcn : cntV x = false ∨ cntV y = false := by first | exact .inl (by assumption) | exact .inr (by assumption)
                             refine ⟨_, ?_, kp _ ⟨rfl, rfl, rfl, trivial⟩⟩
                             first
                               | (have hw1 : wdV x = true := wdV_iff.2 (by omega)
                                  have hw2 : wdV y = true := wdV_iff.2 (by omega)
                                  rw [binV_not (by omega) (by omega) hcn, if_neg (by omega), if_pos ⟨hw1, hw2⟩]
                                  first
                                    | rw [cmpS_lt hc97]
                                    | (have hc102' := hc102
                                       simp only [hc97, Bool.true_or, Bool.false_or, beq_iff_eq, beq_eq_false_iff_ne, Bool.true_eq_false, Bool.false_eq_true] at hc102'
                                       first
                                         | rw [cmpS_gt hc97 hc102']
                                         | rw [cmpS_eq hc97 hc102']))
                               | (have hwd : wdV x = false ∨ wdV y = false := by
                                    by_cases e1 : x.k = 2 ∨ x.k = 0
                                    · exact .inr (wdV_no.2 (by omega))
                                    · exact .inl (wdV_no.2 e1)
                                  rw [binV_no (by omega) (by omega) hcn (by omega) hwd, if_pos (by omega)]))
                      · try simp only [decide_eq_true_eq, decide_eq_false_iff_not, Bool.not_eq_true', Bool.not_eq_false', Bool.not_eq_eq_eq_not, Bool.not_true, Bool.not_false, beq_iff_eq, bne_iff_ne, ne_eq, beq_eq_false_iff_ne, bne_eq_false_iff_eq, gt_iff_lt, ge_iff_le, Int.not_lt, Int.not_le] at hc102
                        refine c_skip (x_then ?_)
                        refine ⟨hF, h6, ?_⟩
                        first
                          | (have hcx : cntV x = true := by assumption
                             have hcy : cntV y = true := by assumption
                             refine ⟨_, ?_, kp _ ⟨rfl, rfl, rfl, trivial⟩⟩
                             rw [binV_num (by omega) (by omega) hcx hcy, if_neg (by omega)]
                             first
                               | rw [cmpI_lt (by omega)]
                               | rw [cmpI_gt (by omega)]
                               | rw [cmpI_eq (by omega) (by omega)])
                          | (have hcn : cntV x = false ∨ cntV y = false := by first | exact .inl (by assumption) | exact .inr (by assumption)
                             refine ⟨_, ?_, kp _ ⟨rfl, rfl, rfl, trivial⟩⟩
                             first
                               | (have hw1 : wdV x = true := wdV_iff.2 (by omega)
                                  have hw2 : wdV y = true := wdV_iff.2 (by omega)
                                  rw [binV_not (by omega) (by omega) hcn, if_neg (by omega), if_pos ⟨hw1, hw2⟩]
                                  first
                                    | rw [cmpS_lt hc97]
                                    | (have hc102' := hc102
                                       simp only [hc97, Bool.true_or, Bool.false_or, beq_iff_eq, beq_eq_false_iff_ne, Bool.true_eq_false, Bool.false_eq_true] at hc102'
                                       first
                                         | rw [cmpS_gt hc97 hc102']
                                         | rw [cmpS_eq hc97 hc102']))
                               | (have hwd : wdV x = false ∨ wdV y = false := by
                                    by_cases e1 : x.k = 2 ∨ x.k = 0
                                    · exact .inr (wdV_no.2 (by omega))
                                    · exact .inl (wdV_no.2 e1)
                                  rw [binV_no (by omega) (by omega) hcn (by omega) hwd, if_pos (by omega)]))
                  · try simp only [decide_eq_true_eq, decide_eq_false_iff_not, Bool.not_eq_true', Bool.not_eq_false', Bool.not_eq_eq_eq_not, Bool.not_true, Bool.not_false, beq_iff_eq, bne_iff_ne, ne_eq, beq_eq_false_iff_ne, bne_eq_false_iff_eq, gt_iff_lt, ge_iff_le, Int.not_lt, Int.not_le] at hc92
                    refine c_seq (fun K62 hK62 => ?_)
                    refine c_reg ?_ -- region 31 eval.go:187
                    refine wl (ro_fieldAddr (k := 0) rfl fo_104_0) ?_
                    refine wl (ro_loadB rfl sc_3 (by assumption) rfl) ?_
                    refine wl (ro_cmp rfl rfl rfl) ?_
                    refine wl_fork rfl (fun hg106 => ?_) (fun hg106 => ?_)
                    · try simp only [decide_eq_true_eq, decide_eq_false_iff_not, Bool.not_eq_true', Bool.not_eq_false', Bool.not_eq_eq_eq_not, Bool.not_true, Bool.not_false, beq_iff_eq, bne_iff_ne, ne_eq, beq_eq_false_iff_ne, bne_eq_false_iff_eq, gt_iff_lt, ge_iff_le, Int.not_lt, Int.not_le] at hg106
                      refine wlg_yes rfl (ro_fieldAddr (k := 0) rfl fo_104_0) ?_
                      refine wlg_yes rfl (ro_loadB rfl sc_3 (by assumption) rfl) ?_
                      refine wlg_yes rfl (ro_cmp rfl rfl rfl) ?_
                      refine wl (ro_pick rfl rfl rfl) ?_
                      refine wl_nil (x_then (hK62 _ _ ?_))
                      clear hK62 K62
                      refine wc_cond rfl (fun hc110 => ?_) (fun hc110 => ?_)
                      · try simp only [decide_eq_true_eq, decide_eq_false_iff_not, Bool.not_eq_true', Bool.not_eq_false', Bool.not_eq_eq_eq_not, Bool.not_true, Bool.not_false, beq_iff_eq, bne_iff_ne, ne_eq, beq_eq_false_iff_ne, bne_eq_false_iff_eq, gt_iff_lt, ge_iff_le, Int.not_lt, Int.not_le] at hc110
                        refine c_reg ?_ -- region 32 eval.go:188
                        refine wl (ro_fieldAddr (k := 1) rfl fo_104_1) ?_
                        refine wl (ro_loadB rfl sc_3 (by assumption) rfl) ?_
                        refine wl (ro_fieldAddr (k := 1) rfl fo_104_1) ?_
                        refine wl (ro_loadB rfl sc_3 (by assumption) rfl) ?_
                        refine wl (ro_arith rfl rfl rfl (Go.IntWalk.i64_in _ (by omega))) ?_
                        refine wl (ro_assign rfl) ?_
                        refine wl_nil (x_then ?_)
                        refine ⟨hF, h6, ?_⟩
                        first
                          | (have hcx : cntV x = true := by assumption
                             have hcy : cntV y = true := by assumption
                             refine ⟨_, ?_, kp _ ⟨rfl, rfl, rfl, trivial⟩⟩
                             rw [binV_num (by omega) (by omega) hcx hcy, if_neg (by omega)]
                             first
                               | rw [cmpI_lt (by omega)]
                               | rw [cmpI_gt (by omega)]
                               | rw [cmpI_eq (by omega) (by omega)])
                          | (have hcn : cntV x = false ∨ cntV y = false := by first | exact .inl (by assumption) | exact .inr (by assumption)
                             refine ⟨_, ?_, kp _ ⟨rfl, rfl, rfl, trivial⟩⟩
                             first
                               | (have hw1 : wdV x = true := wdV_iff.2 (by omega)
                                  have hw2 : wdV y = true := wdV_iff.2 (by omega)
                                  rw [binV_not (by omega) (by omega) hcn, if_neg (by omega), if_pos ⟨hw1, hw2⟩]
                                  first
                                    | rw [cmpS_lt hc97]
                                    | (have hc102' := hc102
                                       simp only [hc97, Bool.true_or, Bool.false_or, beq_iff_eq, beq_eq_false_iff_ne, Bool.true_eq_false, Bool.false_eq_true] at hc102'
                                       first
                                         | rw [cmpS_gt hc97 hc102']
                                         | rw [cmpS_eq hc97 hc102']))
                               | (have hwd : wdV x = false ∨ wdV y = false := by
                                    by_cases e1 : x.k = 2 ∨ x.k = 0
                                    · exact .inr (wdV_no.2 (by omega))
                                    · exact .inl (wdV_no.2 e1)
                                  rw [binV_no (by omega) (by omega) hcn (by omega) hwd, if_pos (by omega)]))
                      · try simp only [decide_eq_true_eq, decide_eq_false_iff_not, Bool.not_eq_true', Bool.not_eq_false', Bool.not_eq_eq_eq_not, Bool.not_true, Bool.not_false, beq_iff_eq, bne_iff_ne, ne_eq, beq_eq_false_iff_ne, bne_eq_false_iff_eq, gt_iff_lt, ge_iff_le, Int.not_lt, Int.not_le] at hc110
                        refine c_seq (fun K63 hK63 => ?_)
                        refine c_reg ?_ -- region 33 eval.go:190
                        refine wl_call rfl en_116 (Err116) ?_
                        rintro _ w38 ⟨rfl, F38⟩
                        replace hF := hF.thenDrew.thenN F38
                        replace h4 := F38.blkN h4
                        replace h5 := F38.blkN h5
                        replace h6 := F38.blkN h6
                        refine wl_puta rfl rfl ((by (try exact vlc_cells _); all_goals simp [Value.oneCell', i64c, icv, u64c, u8c, ptr, S])) sz_104 (rfl) h6 ((by simp)) (rfl) (fun w39 h6 F39 => ?_)
                        replace hF := hF.thenDrew.thenO F39 (by first | exact .inr (by omega) | exact .inl rfl | exact .inl (by assumption))
                        replace h4 := F39.blkO h4 (by omega)
                        replace h5 := F39.blkO h5 (by omega)
                        refine wl_nil (x_then (hK63 _ _ ?_))
                        clear hK63 K63
                        refine c_ret (x_thenR ?_)
                        refine bq_ret (res1 Tryz.results214 (rv_c rfl ag_104 (h6) rfl)) ?_
                        refine ⟨?_, hF⟩
                        first
                          | (unfold binV; rw [if_pos (by omega)]; rfl)
                          | (unfold binV; rw [if_neg (by omega), if_pos (by omega)]; rfl)
                          | (rw [hjs]
                             first
                               | (rw [judge_eq (by omega)]; rfl)
                               | (rw [judge_ne (by omega)]; rfl)
                               | (rw [judge_lt (by omega)]; rfl)
                               | (rw [judge_le (by omega)]; rfl)
                               | (rw [judge_gt (by omega)]; rfl)
                               | (rw [judge_ge (by omega) (by omega) (by omega) (by omega) (by omega)]; rfl))
                          | (have hcx : cntV x = true := by assumption
                             have hcy : cntV y = true := by assumption
                             rw [binV_num (by omega) (by omega) hcx hcy, if_pos (by omega)]
                             unfold reckon
                             repeat first | rw [if_pos (by omega)] | rw [if_neg (by omega)]
                             rfl)
                          | (have hcn : cntV x = false ∨ cntV y = false := by first | exact .inl (by assumption) | exact .inr (by assumption)
                             rw [binV_not (by omega) (by omega) hcn, if_pos (by omega)]
                             rfl)
                          | (have hcn : cntV x = false ∨ cntV y = false := by first | exact .inl (by assumption) | exact .inr (by assumption)
                             have hwd : wdV x = false ∨ wdV y = false := by
                               by_cases e1 : x.k = 2 ∨ x.k = 0
                               · exact .inr (wdV_no.2 (by omega))
                               · exact .inl (wdV_no.2 e1)
                             rw [binV_no (by omega) (by omega) hcn (by omega) hwd, if_neg (by omega)]
                             rfl)
                    · try simp only [decide_eq_true_eq, decide_eq_false_iff_not, Bool.not_eq_true', Bool.not_eq_false', Bool.not_eq_eq_eq_not, Bool.not_true, Bool.not_false, beq_iff_eq, bne_iff_ne, ne_eq, beq_eq_false_iff_ne, bne_eq_false_iff_eq, gt_iff_lt, ge_iff_le, Int.not_lt, Int.not_le] at hg106
                      refine wlg_no rfl ?_
                      refine wlg_no rfl ?_
                      refine wlg_no rfl ?_
                      refine wl (ro_pick rfl rfl rfl) ?_
                      refine wl_nil (x_then (hK62 _ _ ?_))
                      clear hK62 K62
                      refine wc_condF rfl ?_
                      refine c_seq (fun K64 hK64 => ?_)
                      refine c_reg ?_ -- region 33 eval.go:190
                      refine wl_call rfl en_116 (Err116) ?_
                      rintro _ w40 ⟨rfl, F40⟩
                      replace hF := hF.thenDrew.thenN F40
                      replace h4 := F40.blkN h4
                      replace h5 := F40.blkN h5
                      replace h6 := F40.blkN h6
                      refine wl_puta rfl rfl ((by (try exact vlc_cells _); all_goals simp [Value.oneCell', i64c, icv, u64c, u8c, ptr, S])) sz_104 (rfl) h6 ((by simp)) (rfl) (fun w41 h6 F41 => ?_)
                      replace hF := hF.thenDrew.thenO F41 (by first | exact .inr (by omega) | exact .inl rfl | exact .inl (by assumption))
                      replace h4 := F41.blkO h4 (by omega)
                      replace h5 := F41.blkO h5 (by omega)
                      refine wl_nil (x_then (hK64 _ _ ?_))
                      clear hK64 K64
                      refine c_ret (x_thenR ?_)
                      refine bq_ret (res1 Tryz.results214 (rv_c rfl ag_104 (h6) rfl)) ?_
                      refine ⟨?_, hF⟩
                      first
                        | (unfold binV; rw [if_pos (by omega)]; rfl)
                        | (unfold binV; rw [if_neg (by omega), if_pos (by omega)]; rfl)
                        | (rw [hjs]
                           first
                             | (rw [judge_eq (by omega)]; rfl)
                             | (rw [judge_ne (by omega)]; rfl)
                             | (rw [judge_lt (by omega)]; rfl)
                             | (rw [judge_le (by omega)]; rfl)
                             | (rw [judge_gt (by omega)]; rfl)
                             | (rw [judge_ge (by omega) (by omega) (by omega) (by omega) (by omega)]; rfl))
                        | (have hcx : cntV x = true := by assumption
                           have hcy : cntV y = true := by assumption
                           rw [binV_num (by omega) (by omega) hcx hcy, if_pos (by omega)]
                           unfold reckon
                           repeat first | rw [if_pos (by omega)] | rw [if_neg (by omega)]
                           rfl)
                        | (have hcn : cntV x = false ∨ cntV y = false := by first | exact .inl (by assumption) | exact .inr (by assumption)
                           rw [binV_not (by omega) (by omega) hcn, if_pos (by omega)]
                           rfl)
                        | (have hcn : cntV x = false ∨ cntV y = false := by first | exact .inl (by assumption) | exact .inr (by assumption)
                           have hwd : wdV x = false ∨ wdV y = false := by
                             by_cases e1 : x.k = 2 ∨ x.k = 0
                             · exact .inr (wdV_no.2 (by omega))
                             · exact .inl (wdV_no.2 e1)
                           rw [binV_no (by omega) (by omega) hcn (by omega) hwd, if_neg (by omega)]
                           rfl)
              · try simp only [decide_eq_true_eq, decide_eq_false_iff_not, Bool.not_eq_true', Bool.not_eq_false', Bool.not_eq_eq_eq_not, Bool.not_true, Bool.not_false, beq_iff_eq, bne_iff_ne, ne_eq, beq_eq_false_iff_ne, bne_eq_false_iff_eq, gt_iff_lt, ge_iff_le, Int.not_lt, Int.not_le] at hg83
                refine wlg_no rfl ?_
                refine wlg_no rfl ?_
                refine wlg_no rfl ?_
                refine wlg_no rfl ?_
                refine wlg_no rfl ?_
                refine wlg_no rfl ?_
                refine wlg_no rfl ?_
                refine wlg_no rfl ?_
                refine wl (ro_pick rfl rfl rfl) ?_
                refine wl_nil (x_then (hK50 _ _ ?_))
                clear hK50 K50
                refine wc_condF rfl ?_
                refine c_seq (fun K65 hK65 => ?_)
                refine c_reg ?_ -- region 31 eval.go:187
                refine wl (ro_fieldAddr (k := 0) rfl fo_104_0) ?_
                refine wl (ro_loadB rfl sc_3 (by assumption) rfl) ?_
                refine wl (ro_cmp rfl rfl rfl) ?_
                refine wl_fork rfl (fun hg106 => ?_) (fun hg106 => ?_)
                · try simp only [decide_eq_true_eq, decide_eq_false_iff_not, Bool.not_eq_true', Bool.not_eq_false', Bool.not_eq_eq_eq_not, Bool.not_true, Bool.not_false, beq_iff_eq, bne_iff_ne, ne_eq, beq_eq_false_iff_ne, bne_eq_false_iff_eq, gt_iff_lt, ge_iff_le, Int.not_lt, Int.not_le] at hg106
                  refine wlg_yes rfl (ro_fieldAddr (k := 0) rfl fo_104_0) ?_
                  refine wlg_yes rfl (ro_loadB rfl sc_3 (by assumption) rfl) ?_
                  refine wlg_yes rfl (ro_cmp rfl rfl rfl) ?_
                  refine wl (ro_pick rfl rfl rfl) ?_
                  refine wl_nil (x_then (hK65 _ _ ?_))
                  clear hK65 K65
                  refine wc_cond rfl (fun hc110 => ?_) (fun hc110 => ?_)
                  · try simp only [decide_eq_true_eq, decide_eq_false_iff_not, Bool.not_eq_true', Bool.not_eq_false', Bool.not_eq_eq_eq_not, Bool.not_true, Bool.not_false, beq_iff_eq, bne_iff_ne, ne_eq, beq_eq_false_iff_ne, bne_eq_false_iff_eq, gt_iff_lt, ge_iff_le, Int.not_lt, Int.not_le] at hc110
                    refine c_reg ?_ -- region 32 eval.go:188
                    refine wl (ro_fieldAddr (k := 1) rfl fo_104_1) ?_
                    refine wl (ro_loadB rfl sc_3 (by assumption) rfl) ?_
                    refine wl (ro_fieldAddr (k := 1) rfl fo_104_1) ?_
                    refine wl (ro_loadB rfl sc_3 (by assumption) rfl) ?_
                    refine wl (ro_arith rfl rfl rfl (Go.IntWalk.i64_in _ (by omega))) ?_
                    refine wl (ro_assign rfl) ?_
                    refine wl_nil (x_then ?_)
                    refine ⟨hF, h6, ?_⟩
                    first
                      | (have hcx : cntV x = true := by assumption
                         have hcy : cntV y = true := by assumption
                         refine ⟨_, ?_, kp _ ⟨rfl, rfl, rfl, trivial⟩⟩
                         rw [binV_num (by omega) (by omega) hcx hcy, if_neg (by omega)]
                         first
                           | rw [cmpI_lt (by omega)]
                           | rw [cmpI_gt (by omega)]
                           | rw [cmpI_eq (by omega) (by omega)])
                      | (have hcn : cntV x = false ∨ cntV y = false := by first | exact .inl (by assumption) | exact .inr (by assumption)
                         refine ⟨_, ?_, kp _ ⟨rfl, rfl, rfl, trivial⟩⟩
                         first
                           | (have hw1 : wdV x = true := wdV_iff.2 (by omega)
                              have hw2 : wdV y = true := wdV_iff.2 (by omega)
                              rw [binV_not (by omega) (by omega) hcn, if_neg (by omega), if_pos ⟨hw1, hw2⟩]
                              first
                                | rw [cmpS_lt hc97]
                                | (have hc102' := hc102
                                   simp only [hc97, Bool.true_or, Bool.false_or, beq_iff_eq, beq_eq_false_iff_ne, Bool.true_eq_false, Bool.false_eq_true] at hc102'
                                   first
                                     | rw [cmpS_gt hc97 hc102']
                                     | rw [cmpS_eq hc97 hc102']))
                           | (have hwd : wdV x = false ∨ wdV y = false := by
                                by_cases e1 : x.k = 2 ∨ x.k = 0
                                · exact .inr (wdV_no.2 (by omega))
                                · exact .inl (wdV_no.2 e1)
                              rw [binV_no (by omega) (by omega) hcn (by omega) hwd, if_pos (by omega)]))
                  · try simp only [decide_eq_true_eq, decide_eq_false_iff_not, Bool.not_eq_true', Bool.not_eq_false', Bool.not_eq_eq_eq_not, Bool.not_true, Bool.not_false, beq_iff_eq, bne_iff_ne, ne_eq, beq_eq_false_iff_ne, bne_eq_false_iff_eq, gt_iff_lt, ge_iff_le, Int.not_lt, Int.not_le] at hc110
                    refine c_seq (fun K66 hK66 => ?_)
                    refine c_reg ?_ -- region 33 eval.go:190
                    refine wl_call rfl en_116 (Err116) ?_
                    rintro _ w42 ⟨rfl, F42⟩
                    replace hF := hF.thenDrew.thenN F42
                    replace h4 := F42.blkN h4
                    replace h5 := F42.blkN h5
                    replace h6 := F42.blkN h6
                    refine wl_puta rfl rfl ((by (try exact vlc_cells _); all_goals simp [Value.oneCell', i64c, icv, u64c, u8c, ptr, S])) sz_104 (rfl) h6 ((by simp)) (rfl) (fun w43 h6 F43 => ?_)
                    replace hF := hF.thenDrew.thenO F43 (by first | exact .inr (by omega) | exact .inl rfl | exact .inl (by assumption))
                    replace h4 := F43.blkO h4 (by omega)
                    replace h5 := F43.blkO h5 (by omega)
                    refine wl_nil (x_then (hK66 _ _ ?_))
                    clear hK66 K66
                    refine c_ret (x_thenR ?_)
                    refine bq_ret (res1 Tryz.results214 (rv_c rfl ag_104 (h6) rfl)) ?_
                    refine ⟨?_, hF⟩
                    first
                      | (unfold binV; rw [if_pos (by omega)]; rfl)
                      | (unfold binV; rw [if_neg (by omega), if_pos (by omega)]; rfl)
                      | (rw [hjs]
                         first
                           | (rw [judge_eq (by omega)]; rfl)
                           | (rw [judge_ne (by omega)]; rfl)
                           | (rw [judge_lt (by omega)]; rfl)
                           | (rw [judge_le (by omega)]; rfl)
                           | (rw [judge_gt (by omega)]; rfl)
                           | (rw [judge_ge (by omega) (by omega) (by omega) (by omega) (by omega)]; rfl))
                      | (have hcx : cntV x = true := by assumption
                         have hcy : cntV y = true := by assumption
                         rw [binV_num (by omega) (by omega) hcx hcy, if_pos (by omega)]
                         unfold reckon
                         repeat first | rw [if_pos (by omega)] | rw [if_neg (by omega)]
                         rfl)
                      | (have hcn : cntV x = false ∨ cntV y = false := by first | exact .inl (by assumption) | exact .inr (by assumption)
                         rw [binV_not (by omega) (by omega) hcn, if_pos (by omega)]
                         rfl)
                      | (have hcn : cntV x = false ∨ cntV y = false := by first | exact .inl (by assumption) | exact .inr (by assumption)
                         have hwd : wdV x = false ∨ wdV y = false := by
                           by_cases e1 : x.k = 2 ∨ x.k = 0
                           · exact .inr (wdV_no.2 (by omega))
                           · exact .inl (wdV_no.2 e1)
                         rw [binV_no (by omega) (by omega) hcn (by omega) hwd, if_neg (by omega)]
                         rfl)
                · try simp only [decide_eq_true_eq, decide_eq_false_iff_not, Bool.not_eq_true', Bool.not_eq_false', Bool.not_eq_eq_eq_not, Bool.not_true, Bool.not_false, beq_iff_eq, bne_iff_ne, ne_eq, beq_eq_false_iff_ne, bne_eq_false_iff_eq, gt_iff_lt, ge_iff_le, Int.not_lt, Int.not_le] at hg106
                  refine wlg_no rfl ?_
                  refine wlg_no rfl ?_
                  refine wlg_no rfl ?_
                  refine wl (ro_pick rfl rfl rfl) ?_
                  refine wl_nil (x_then (hK65 _ _ ?_))
                  clear hK65 K65
                  refine wc_condF rfl ?_
                  refine c_seq (fun K67 hK67 => ?_)
                  refine c_reg ?_ -- region 33 eval.go:190
                  refine wl_call rfl en_116 (Err116) ?_
                  rintro _ w44 ⟨rfl, F44⟩
                  replace hF := hF.thenDrew.thenN F44
                  replace h4 := F44.blkN h4
                  replace h5 := F44.blkN h5
                  replace h6 := F44.blkN h6
                  refine wl_puta rfl rfl ((by (try exact vlc_cells _); all_goals simp [Value.oneCell', i64c, icv, u64c, u8c, ptr, S])) sz_104 (rfl) h6 ((by simp)) (rfl) (fun w45 h6 F45 => ?_)
                  replace hF := hF.thenDrew.thenO F45 (by first | exact .inr (by omega) | exact .inl rfl | exact .inl (by assumption))
                  replace h4 := F45.blkO h4 (by omega)
                  replace h5 := F45.blkO h5 (by omega)
                  refine wl_nil (x_then (hK67 _ _ ?_))
                  clear hK67 K67
                  refine c_ret (x_thenR ?_)
                  refine bq_ret (res1 Tryz.results214 (rv_c rfl ag_104 (h6) rfl)) ?_
                  refine ⟨?_, hF⟩
                  first
                    | (unfold binV; rw [if_pos (by omega)]; rfl)
                    | (unfold binV; rw [if_neg (by omega), if_pos (by omega)]; rfl)
                    | (rw [hjs]
                       first
                         | (rw [judge_eq (by omega)]; rfl)
                         | (rw [judge_ne (by omega)]; rfl)
                         | (rw [judge_lt (by omega)]; rfl)
                         | (rw [judge_le (by omega)]; rfl)
                         | (rw [judge_gt (by omega)]; rfl)
                         | (rw [judge_ge (by omega) (by omega) (by omega) (by omega) (by omega)]; rfl))
                    | (have hcx : cntV x = true := by assumption
                       have hcy : cntV y = true := by assumption
                       rw [binV_num (by omega) (by omega) hcx hcy, if_pos (by omega)]
                       unfold reckon
                       repeat first | rw [if_pos (by omega)] | rw [if_neg (by omega)]
                       rfl)
                    | (have hcn : cntV x = false ∨ cntV y = false := by first | exact .inl (by assumption) | exact .inr (by assumption)
                       rw [binV_not (by omega) (by omega) hcn, if_pos (by omega)]
                       rfl)
                    | (have hcn : cntV x = false ∨ cntV y = false := by first | exact .inl (by assumption) | exact .inr (by assumption)
                       have hwd : wdV x = false ∨ wdV y = false := by
                         by_cases e1 : x.k = 2 ∨ x.k = 0
                         · exact .inr (wdV_no.2 (by omega))
                         · exact .inl (wdV_no.2 e1)
                       rw [binV_no (by omega) (by omega) hcn (by omega) hwd, if_neg (by omega)]
                       rfl)
        clear hF h4 h5 h6
        rintro a' u9 ⟨hF, h6, s, hjs, e, rfl⟩
        refine c_seq (fun K68 hK68 => ?_)
        refine c_seq (fun K69 hK69 => ?_)
        refine c_reg ?_ -- region 34 eval.go:192
        refine wl (ro_move rfl) ?_
        refine wl_nil (x_then (hK69 _ _ ?_))
        clear hK69 K69
        refine c_block ?_
        refine forget [(6, _), (11, _), (117, _)] ⟨rfl, rfl, rfl, trivial⟩ (fun e => ?_)
        refine c_seq (fun K70 hK70 => ?_)
        refine c_reg ?_ -- region 35 eval.go:193
        refine wl (ro_cmp rfl rfl rfl) ?_
        refine wl (ro_assign rfl) ?_
        refine wl_nil (x_then (hK70 _ _ ?_))
        clear hK70 K70
        refine wc_cond rfl (fun hc118 => ?_) (fun hc118 => ?_)
        · try simp only [decide_eq_true_eq, decide_eq_false_iff_not, Bool.not_eq_true', Bool.not_eq_false', Bool.not_eq_eq_eq_not, Bool.not_true, Bool.not_false, beq_iff_eq, bne_iff_ne, ne_eq, beq_eq_false_iff_ne, bne_eq_false_iff_eq, gt_iff_lt, ge_iff_le, Int.not_lt, Int.not_le] at hc118
          refine c_seq (fun K71 hK71 => ?_)
          refine c_reg ?_ -- region 36 eval.go:194
          refine wl (ro_move rfl) ?_
          refine wl (ro_cmp rfl rfl rfl) ?_
          refine wl_call rfl en_219 (Bool219) ?_
          rintro _ w46 ⟨rfl, F46⟩
          replace hF := hF.thenDrew.thenN F46
          replace h6 := F46.blkN h6
          refine wl_puta rfl rfl ((by (try exact vlc_cells _); all_goals simp [Value.oneCell', i64c, icv, u64c, u8c, ptr, S])) sz_104 (rfl) h6 ((by simp)) (rfl) (fun w47 h6 F47 => ?_)
          replace hF := hF.thenDrew.thenO F47 (by first | exact .inr (by omega) | exact .inl rfl | exact .inl (by assumption))
          refine wl_nil (x_then (hK71 _ _ ?_))
          clear hK71 K71
          refine c_ret (x_blkR (x_thenR ?_))
          refine bq_ret (res1 Tryz.results214 (rv_c rfl ag_104 (h6) rfl)) ?_
          refine ⟨?_, hF⟩
          first
            | (unfold binV; rw [if_pos (by omega)]; rfl)
            | (unfold binV; rw [if_neg (by omega), if_pos (by omega)]; rfl)
            | (rw [hjs]
               first
                 | (rw [judge_eq (by omega)]; rfl)
                 | (rw [judge_ne (by omega)]; rfl)
                 | (rw [judge_lt (by omega)]; rfl)
                 | (rw [judge_le (by omega)]; rfl)
                 | (rw [judge_gt (by omega)]; rfl)
                 | (rw [judge_ge (by omega) (by omega) (by omega) (by omega) (by omega)]; rfl))
            | (have hcx : cntV x = true := by assumption
               have hcy : cntV y = true := by assumption
               rw [binV_num (by omega) (by omega) hcx hcy, if_pos (by omega)]
               unfold reckon
               repeat first | rw [if_pos (by omega)] | rw [if_neg (by omega)]
               rfl)
            | (have hcn : cntV x = false ∨ cntV y = false := by first | exact .inl (by assumption) | exact .inr (by assumption)
               rw [binV_not (by omega) (by omega) hcn, if_pos (by omega)]
               rfl)
            | (have hcn : cntV x = false ∨ cntV y = false := by first | exact .inl (by assumption) | exact .inr (by assumption)
               have hwd : wdV x = false ∨ wdV y = false := by
                 by_cases e1 : x.k = 2 ∨ x.k = 0
                 · exact .inr (wdV_no.2 (by omega))
                 · exact .inl (wdV_no.2 e1)
               rw [binV_no (by omega) (by omega) hcn (by omega) hwd, if_neg (by omega)]
               rfl)
        · try simp only [decide_eq_true_eq, decide_eq_false_iff_not, Bool.not_eq_true', Bool.not_eq_false', Bool.not_eq_eq_eq_not, Bool.not_true, Bool.not_false, beq_iff_eq, bne_iff_ne, ne_eq, beq_eq_false_iff_ne, bne_eq_false_iff_eq, gt_iff_lt, ge_iff_le, Int.not_lt, Int.not_le] at hc118
          refine c_seq (fun K72 hK72 => ?_)
          refine c_reg ?_ -- region 37 eval.go:195
          refine wl (ro_cmp rfl rfl rfl) ?_
          refine wl (ro_assign rfl) ?_
          refine wl_nil (x_then (hK72 _ _ ?_))
          clear hK72 K72
          refine wc_cond rfl (fun hc123 => ?_) (fun hc123 => ?_)
          · try simp only [decide_eq_true_eq, decide_eq_false_iff_not, Bool.not_eq_true', Bool.not_eq_false', Bool.not_eq_eq_eq_not, Bool.not_true, Bool.not_false, beq_iff_eq, bne_iff_ne, ne_eq, beq_eq_false_iff_ne, bne_eq_false_iff_eq, gt_iff_lt, ge_iff_le, Int.not_lt, Int.not_le] at hc123
            refine c_seq (fun K73 hK73 => ?_)
            refine c_reg ?_ -- region 38 eval.go:196
            refine wl (ro_move rfl) ?_
            refine wl (ro_cmp rfl rfl rfl) ?_
            refine wl_call rfl en_219 (Bool219) ?_
            rintro _ w48 ⟨rfl, F48⟩
            replace hF := hF.thenDrew.thenN F48
            replace h6 := F48.blkN h6
            refine wl_puta rfl rfl ((by (try exact vlc_cells _); all_goals simp [Value.oneCell', i64c, icv, u64c, u8c, ptr, S])) sz_104 (rfl) h6 ((by simp)) (rfl) (fun w49 h6 F49 => ?_)
            replace hF := hF.thenDrew.thenO F49 (by first | exact .inr (by omega) | exact .inl rfl | exact .inl (by assumption))
            refine wl_nil (x_then (hK73 _ _ ?_))
            clear hK73 K73
            refine c_ret (x_blkR (x_thenR ?_))
            refine bq_ret (res1 Tryz.results214 (rv_c rfl ag_104 (h6) rfl)) ?_
            refine ⟨?_, hF⟩
            first
              | (unfold binV; rw [if_pos (by omega)]; rfl)
              | (unfold binV; rw [if_neg (by omega), if_pos (by omega)]; rfl)
              | (rw [hjs]
                 first
                   | (rw [judge_eq (by omega)]; rfl)
                   | (rw [judge_ne (by omega)]; rfl)
                   | (rw [judge_lt (by omega)]; rfl)
                   | (rw [judge_le (by omega)]; rfl)
                   | (rw [judge_gt (by omega)]; rfl)
                   | (rw [judge_ge (by omega) (by omega) (by omega) (by omega) (by omega)]; rfl))
              | (have hcx : cntV x = true := by assumption
                 have hcy : cntV y = true := by assumption
                 rw [binV_num (by omega) (by omega) hcx hcy, if_pos (by omega)]
                 unfold reckon
                 repeat first | rw [if_pos (by omega)] | rw [if_neg (by omega)]
                 rfl)
              | (have hcn : cntV x = false ∨ cntV y = false := by first | exact .inl (by assumption) | exact .inr (by assumption)
                 rw [binV_not (by omega) (by omega) hcn, if_pos (by omega)]
                 rfl)
              | (have hcn : cntV x = false ∨ cntV y = false := by first | exact .inl (by assumption) | exact .inr (by assumption)
                 have hwd : wdV x = false ∨ wdV y = false := by
                   by_cases e1 : x.k = 2 ∨ x.k = 0
                   · exact .inr (wdV_no.2 (by omega))
                   · exact .inl (wdV_no.2 e1)
                 rw [binV_no (by omega) (by omega) hcn (by omega) hwd, if_neg (by omega)]
                 rfl)
          · try simp only [decide_eq_true_eq, decide_eq_false_iff_not, Bool.not_eq_true', Bool.not_eq_false', Bool.not_eq_eq_eq_not, Bool.not_true, Bool.not_false, beq_iff_eq, bne_iff_ne, ne_eq, beq_eq_false_iff_ne, bne_eq_false_iff_eq, gt_iff_lt, ge_iff_le, Int.not_lt, Int.not_le] at hc123
            refine c_seq (fun K74 hK74 => ?_)
            refine c_reg ?_ -- region 39 eval.go:197
            refine wl (ro_cmp rfl rfl rfl) ?_
            refine wl (ro_assign rfl) ?_
            refine wl_nil (x_then (hK74 _ _ ?_))
            clear hK74 K74
            refine wc_cond rfl (fun hc128 => ?_) (fun hc128 => ?_)
            · try simp only [decide_eq_true_eq, decide_eq_false_iff_not, Bool.not_eq_true', Bool.not_eq_false', Bool.not_eq_eq_eq_not, Bool.not_true, Bool.not_false, beq_iff_eq, bne_iff_ne, ne_eq, beq_eq_false_iff_ne, bne_eq_false_iff_eq, gt_iff_lt, ge_iff_le, Int.not_lt, Int.not_le] at hc128
              refine c_seq (fun K75 hK75 => ?_)
              refine c_reg ?_ -- region 40 eval.go:198
              refine wl (ro_move rfl) ?_
              refine wl (ro_cmp rfl rfl rfl) ?_
              refine wl_call rfl en_219 (Bool219) ?_
              rintro _ w50 ⟨rfl, F50⟩
              replace hF := hF.thenDrew.thenN F50
              replace h6 := F50.blkN h6
              refine wl_puta rfl rfl ((by (try exact vlc_cells _); all_goals simp [Value.oneCell', i64c, icv, u64c, u8c, ptr, S])) sz_104 (rfl) h6 ((by simp)) (rfl) (fun w51 h6 F51 => ?_)
              replace hF := hF.thenDrew.thenO F51 (by first | exact .inr (by omega) | exact .inl rfl | exact .inl (by assumption))
              refine wl_nil (x_then (hK75 _ _ ?_))
              clear hK75 K75
              refine c_ret (x_blkR (x_thenR ?_))
              refine bq_ret (res1 Tryz.results214 (rv_c rfl ag_104 (h6) rfl)) ?_
              refine ⟨?_, hF⟩
              first
                | (unfold binV; rw [if_pos (by omega)]; rfl)
                | (unfold binV; rw [if_neg (by omega), if_pos (by omega)]; rfl)
                | (rw [hjs]
                   first
                     | (rw [judge_eq (by omega)]; rfl)
                     | (rw [judge_ne (by omega)]; rfl)
                     | (rw [judge_lt (by omega)]; rfl)
                     | (rw [judge_le (by omega)]; rfl)
                     | (rw [judge_gt (by omega)]; rfl)
                     | (rw [judge_ge (by omega) (by omega) (by omega) (by omega) (by omega)]; rfl))
                | (have hcx : cntV x = true := by assumption
                   have hcy : cntV y = true := by assumption
                   rw [binV_num (by omega) (by omega) hcx hcy, if_pos (by omega)]
                   unfold reckon
                   repeat first | rw [if_pos (by omega)] | rw [if_neg (by omega)]
                   rfl)
                | (have hcn : cntV x = false ∨ cntV y = false := by first | exact .inl (by assumption) | exact .inr (by assumption)
                   rw [binV_not (by omega) (by omega) hcn, if_pos (by omega)]
                   rfl)
                | (have hcn : cntV x = false ∨ cntV y = false := by first | exact .inl (by assumption) | exact .inr (by assumption)
                   have hwd : wdV x = false ∨ wdV y = false := by
                     by_cases e1 : x.k = 2 ∨ x.k = 0
                     · exact .inr (wdV_no.2 (by omega))
                     · exact .inl (wdV_no.2 e1)
                   rw [binV_no (by omega) (by omega) hcn (by omega) hwd, if_neg (by omega)]
                   rfl)
            · try simp only [decide_eq_true_eq, decide_eq_false_iff_not, Bool.not_eq_true', Bool.not_eq_false', Bool.not_eq_eq_eq_not, Bool.not_true, Bool.not_false, beq_iff_eq, bne_iff_ne, ne_eq, beq_eq_false_iff_ne, bne_eq_false_iff_eq, gt_iff_lt, ge_iff_le, Int.not_lt, Int.not_le] at hc128
              refine c_seq (fun K76 hK76 => ?_)
              refine c_reg ?_ -- region 41 eval.go:199
              refine wl (ro_cmp rfl rfl rfl) ?_
              refine wl (ro_assign rfl) ?_
              refine wl_nil (x_then (hK76 _ _ ?_))
              clear hK76 K76
              refine wc_cond rfl (fun hc133 => ?_) (fun hc133 => ?_)
              · try simp only [decide_eq_true_eq, decide_eq_false_iff_not, Bool.not_eq_true', Bool.not_eq_false', Bool.not_eq_eq_eq_not, Bool.not_true, Bool.not_false, beq_iff_eq, bne_iff_ne, ne_eq, beq_eq_false_iff_ne, bne_eq_false_iff_eq, gt_iff_lt, ge_iff_le, Int.not_lt, Int.not_le] at hc133
                refine c_seq (fun K77 hK77 => ?_)
                refine c_reg ?_ -- region 42 eval.go:200
                refine wl (ro_move rfl) ?_
                refine wl (ro_cmp rfl rfl rfl) ?_
                refine wl_call rfl en_219 (Bool219) ?_
                rintro _ w52 ⟨rfl, F52⟩
                replace hF := hF.thenDrew.thenN F52
                replace h6 := F52.blkN h6
                refine wl_puta rfl rfl ((by (try exact vlc_cells _); all_goals simp [Value.oneCell', i64c, icv, u64c, u8c, ptr, S])) sz_104 (rfl) h6 ((by simp)) (rfl) (fun w53 h6 F53 => ?_)
                replace hF := hF.thenDrew.thenO F53 (by first | exact .inr (by omega) | exact .inl rfl | exact .inl (by assumption))
                refine wl_nil (x_then (hK77 _ _ ?_))
                clear hK77 K77
                refine c_ret (x_blkR (x_thenR ?_))
                refine bq_ret (res1 Tryz.results214 (rv_c rfl ag_104 (h6) rfl)) ?_
                refine ⟨?_, hF⟩
                first
                  | (unfold binV; rw [if_pos (by omega)]; rfl)
                  | (unfold binV; rw [if_neg (by omega), if_pos (by omega)]; rfl)
                  | (rw [hjs]
                     first
                       | (rw [judge_eq (by omega)]; rfl)
                       | (rw [judge_ne (by omega)]; rfl)
                       | (rw [judge_lt (by omega)]; rfl)
                       | (rw [judge_le (by omega)]; rfl)
                       | (rw [judge_gt (by omega)]; rfl)
                       | (rw [judge_ge (by omega) (by omega) (by omega) (by omega) (by omega)]; rfl))
                  | (have hcx : cntV x = true := by assumption
                     have hcy : cntV y = true := by assumption
                     rw [binV_num (by omega) (by omega) hcx hcy, if_pos (by omega)]
                     unfold reckon
                     repeat first | rw [if_pos (by omega)] | rw [if_neg (by omega)]
                     rfl)
                  | (have hcn : cntV x = false ∨ cntV y = false := by first | exact .inl (by assumption) | exact .inr (by assumption)
                     rw [binV_not (by omega) (by omega) hcn, if_pos (by omega)]
                     rfl)
                  | (have hcn : cntV x = false ∨ cntV y = false := by first | exact .inl (by assumption) | exact .inr (by assumption)
                     have hwd : wdV x = false ∨ wdV y = false := by
                       by_cases e1 : x.k = 2 ∨ x.k = 0
                       · exact .inr (wdV_no.2 (by omega))
                       · exact .inl (wdV_no.2 e1)
                     rw [binV_no (by omega) (by omega) hcn (by omega) hwd, if_neg (by omega)]
                     rfl)
              · try simp only [decide_eq_true_eq, decide_eq_false_iff_not, Bool.not_eq_true', Bool.not_eq_false', Bool.not_eq_eq_eq_not, Bool.not_true, Bool.not_false, beq_iff_eq, bne_iff_ne, ne_eq, beq_eq_false_iff_ne, bne_eq_false_iff_eq, gt_iff_lt, ge_iff_le, Int.not_lt, Int.not_le] at hc133
                refine c_seq (fun K78 hK78 => ?_)
                refine c_reg ?_ -- region 43 eval.go:201
                refine wl (ro_cmp rfl rfl rfl) ?_
                refine wl (ro_assign rfl) ?_
                refine wl_nil (x_then (hK78 _ _ ?_))
                clear hK78 K78
                refine wc_cond rfl (fun hc138 => ?_) (fun hc138 => ?_)
                · try simp only [decide_eq_true_eq, decide_eq_false_iff_not, Bool.not_eq_true', Bool.not_eq_false', Bool.not_eq_eq_eq_not, Bool.not_true, Bool.not_false, beq_iff_eq, bne_iff_ne, ne_eq, beq_eq_false_iff_ne, bne_eq_false_iff_eq, gt_iff_lt, ge_iff_le, Int.not_lt, Int.not_le] at hc138
                  refine c_seq (fun K79 hK79 => ?_)
                  refine c_reg ?_ -- region 44 eval.go:202
                  refine wl (ro_move rfl) ?_
                  refine wl (ro_cmp rfl rfl rfl) ?_
                  refine wl_call rfl en_219 (Bool219) ?_
                  rintro _ w54 ⟨rfl, F54⟩
                  replace hF := hF.thenDrew.thenN F54
                  replace h6 := F54.blkN h6
                  refine wl_puta rfl rfl ((by (try exact vlc_cells _); all_goals simp [Value.oneCell', i64c, icv, u64c, u8c, ptr, S])) sz_104 (rfl) h6 ((by simp)) (rfl) (fun w55 h6 F55 => ?_)
                  replace hF := hF.thenDrew.thenO F55 (by first | exact .inr (by omega) | exact .inl rfl | exact .inl (by assumption))
                  refine wl_nil (x_then (hK79 _ _ ?_))
                  clear hK79 K79
                  refine c_ret (x_blkR (x_thenR ?_))
                  refine bq_ret (res1 Tryz.results214 (rv_c rfl ag_104 (h6) rfl)) ?_
                  refine ⟨?_, hF⟩
                  first
                    | (unfold binV; rw [if_pos (by omega)]; rfl)
                    | (unfold binV; rw [if_neg (by omega), if_pos (by omega)]; rfl)
                    | (rw [hjs]
                       first
                         | (rw [judge_eq (by omega)]; rfl)
                         | (rw [judge_ne (by omega)]; rfl)
                         | (rw [judge_lt (by omega)]; rfl)
                         | (rw [judge_le (by omega)]; rfl)
                         | (rw [judge_gt (by omega)]; rfl)
                         | (rw [judge_ge (by omega) (by omega) (by omega) (by omega) (by omega)]; rfl))
                    | (have hcx : cntV x = true := by assumption
                       have hcy : cntV y = true := by assumption
                       rw [binV_num (by omega) (by omega) hcx hcy, if_pos (by omega)]
                       unfold reckon
                       repeat first | rw [if_pos (by omega)] | rw [if_neg (by omega)]
                       rfl)
                    | (have hcn : cntV x = false ∨ cntV y = false := by first | exact .inl (by assumption) | exact .inr (by assumption)
                       rw [binV_not (by omega) (by omega) hcn, if_pos (by omega)]
                       rfl)
                    | (have hcn : cntV x = false ∨ cntV y = false := by first | exact .inl (by assumption) | exact .inr (by assumption)
                       have hwd : wdV x = false ∨ wdV y = false := by
                         by_cases e1 : x.k = 2 ∨ x.k = 0
                         · exact .inr (wdV_no.2 (by omega))
                         · exact .inl (wdV_no.2 e1)
                       rw [binV_no (by omega) (by omega) hcn (by omega) hwd, if_neg (by omega)]
                       rfl)
                · try simp only [decide_eq_true_eq, decide_eq_false_iff_not, Bool.not_eq_true', Bool.not_eq_false', Bool.not_eq_eq_eq_not, Bool.not_true, Bool.not_false, beq_iff_eq, bne_iff_ne, ne_eq, beq_eq_false_iff_ne, bne_eq_false_iff_eq, gt_iff_lt, ge_iff_le, Int.not_lt, Int.not_le] at hc138
                  refine c_skip (x_blk (x_then (hK68 _ _ ?_)))
                  clear hK68 K68
                  refine forget [(6, _), (11, _)] ⟨rfl, rfl, trivial⟩ (fun e => ?_)
                  refine c_seq (fun K80 hK80 => ?_)
                  refine c_reg ?_ -- region 45 eval.go:204
                  refine wl (ro_move rfl) ?_
                  refine wl (ro_cmp rfl rfl rfl) ?_
                  refine wl_call rfl en_219 (Bool219) ?_
                  rintro _ w56 ⟨rfl, F56⟩
                  replace hF := hF.thenDrew.thenN F56
                  replace h6 := F56.blkN h6
                  refine wl_puta rfl rfl ((by (try exact vlc_cells _); all_goals simp [Value.oneCell', i64c, icv, u64c, u8c, ptr, S])) sz_104 (rfl) h6 ((by simp)) (rfl) (fun w57 h6 F57 => ?_)
                  replace hF := hF.thenDrew.thenO F57 (by first | exact .inr (by omega) | exact .inl rfl | exact .inl (by assumption))
                  refine wl_nil (x_then (hK80 _ _ ?_))
                  clear hK80 K80
                  refine c_ret ?_
                  refine bq_ret (res1 Tryz.results214 (rv_c rfl ag_104 (h6) rfl)) ?_
                  refine ⟨?_, hF⟩
                  first
                    | (unfold binV; rw [if_pos (by omega)]; rfl)
                    | (unfold binV; rw [if_neg (by omega), if_pos (by omega)]; rfl)
                    | (rw [hjs]
                       first
                         | (rw [judge_eq (by omega)]; rfl)
                         | (rw [judge_ne (by omega)]; rfl)
                         | (rw [judge_lt (by omega)]; rfl)
                         | (rw [judge_le (by omega)]; rfl)
                         | (rw [judge_gt (by omega)]; rfl)
                         | (rw [judge_ge (by omega) (by omega) (by omega) (by omega) (by omega)]; rfl))
                    | (have hcx : cntV x = true := by assumption
                       have hcy : cntV y = true := by assumption
                       rw [binV_num (by omega) (by omega) hcx hcy, if_pos (by omega)]
                       unfold reckon
                       repeat first | rw [if_pos (by omega)] | rw [if_neg (by omega)]
                       rfl)
                    | (have hcn : cntV x = false ∨ cntV y = false := by first | exact .inl (by assumption) | exact .inr (by assumption)
                       rw [binV_not (by omega) (by omega) hcn, if_pos (by omega)]
                       rfl)
                    | (have hcn : cntV x = false ∨ cntV y = false := by first | exact .inl (by assumption) | exact .inr (by assumption)
                       have hwd : wdV x = false ∨ wdV y = false := by
                         by_cases e1 : x.k = 2 ∨ x.k = 0
                         · exact .inr (wdV_no.2 (by omega))
                         · exact .inl (wdV_no.2 e1)
                       rw [binV_no (by omega) (by omega) hcn (by omega) hwd, if_neg (by omega)]
                       rfl)

end Go.Proofs.Qxb6500570aGreat
