import Derived.Test.Qxb6500568aGreatDoorRh
/- The check of a table. -/
namespace Go.Proofs.Qxb6500568aGreatDoor
open Ieee
set_option linter.unusedVariables false
set_option linter.unusedSimpArgs false
set_option linter.unusedSectionVars false

theorem WF51w {w : World} {v : PV} (h : wfV v = true) : Ret Tryz.prog 51 [pv v] w (fun r w' => r = .bool true ∧ Fram none' w w') := by
  have hF : Fram none' w w := Fram.refl _ _
  refine ret_of Tryz.func51 rfl Tryz.ntmps51 rfl ?_
  refine c_seq (fun K1 hK1 => ?_)
  refine c_reg ?_ -- region 0 api.go:205
  refine wl_box rfl rfl (fun b1 w1 hbb1 h1 F1 => ?_)
  have hbsb1 := Nat.le_trans hF.size hbb1
  replace hF := hF.thenDrew.thenN F1
  refine wl (ro_assign rfl) ?_
  refine wl_nil (x_then (hK1 _ _ ?_))
  clear hK1 K1
  refine c_seq (fun K2 hK2 => ?_)
  refine c_seq (fun K3 hK3 => ?_)
  refine c_reg ?_ -- region 1 api.go:206
  refine wl (ro_fieldAddr (k := 0) rfl fo_119_0) ?_
  refine wl (ro_loadB rfl sc_3 (by assumption) rfl) ?_
  refine wl (ro_cmp rfl rfl rfl) ?_
  refine wl_nil (x_then (hK3 _ _ ?_))
  clear hK3 K3
  refine wc_cond rfl (fun hc5 => ?_) (fun hc5 => ?_)
  · try simp only [decide_eq_true_eq, decide_eq_false_iff_not, Bool.not_eq_true', Bool.not_eq_false', Bool.not_eq_eq_eq_not, Bool.not_true, Bool.not_false, beq_iff_eq, bne_iff_ne, ne_eq, beq_eq_false_iff_ne, bne_eq_false_iff_eq, gt_iff_lt, ge_iff_le, Int.not_lt, Int.not_le] at hc5
    refine c_seq (fun K4 hK4 => ?_)
    refine c_reg ?_ -- region 2 api.go:207
    refine wl (ro_fieldAddr (k := 1) rfl fo_119_1) ?_
    refine wl (ro_loadB rfl sc_117 (by assumption) rfl) ?_
    refine wl (ro_cmpU rfl rfl rfl) ?_
    refine wl_fork rfl (fun hg9 => ?_) (fun hg9 => ?_)
    · try simp only [decide_eq_true_eq, decide_eq_false_iff_not, Bool.not_eq_true', Bool.not_eq_false', Bool.not_eq_eq_eq_not, Bool.not_true, Bool.not_false, beq_iff_eq, bne_iff_ne, ne_eq, beq_eq_false_iff_ne, bne_eq_false_iff_eq, gt_iff_lt, ge_iff_le, Int.not_lt, Int.not_le] at hg9
      refine wlg_yes rfl (ro_fieldAddr (k := 2) rfl fo_119_2) ?_
      refine wlg_yes rfl (ro_loadB rfl sc_9 (by assumption) rfl) ?_
      refine wlg_yes rfl (ro_lenS rfl st_9) ?_
      refine wlg_yes rfl (ro_cmp rfl rfl rfl) ?_
      refine wl (ro_pick rfl rfl rfl) ?_
      refine wl (ro_assign rfl) ?_
      refine wl_nil (x_then (hK4 _ _ ?_))
      clear hK4 K4
      refine c_ret (x_thenR ?_)
      refine bp_ret Tryz.results51 rfl ?_
      refine ⟨congrArg Value.bool ?_, hF⟩
      refine Eq.trans ?_ h
      unfold wfV
      repeat' split
      all_goals try simp_all
      all_goals omega
    · try simp only [decide_eq_true_eq, decide_eq_false_iff_not, Bool.not_eq_true', Bool.not_eq_false', Bool.not_eq_eq_eq_not, Bool.not_true, Bool.not_false, beq_iff_eq, bne_iff_ne, ne_eq, beq_eq_false_iff_ne, bne_eq_false_iff_eq, gt_iff_lt, ge_iff_le, Int.not_lt, Int.not_le] at hg9
      refine wlg_no rfl ?_
      refine wlg_no rfl ?_
      refine wlg_no rfl ?_
      refine wlg_no rfl ?_
      refine wl (ro_pick rfl rfl rfl) ?_
      refine wl (ro_assign rfl) ?_
      refine wl_nil (x_then (hK4 _ _ ?_))
      clear hK4 K4
      refine c_ret (x_thenR ?_)
      refine bp_ret Tryz.results51 rfl ?_
      refine ⟨congrArg Value.bool ?_, hF⟩
      refine Eq.trans ?_ h
      unfold wfV
      repeat' split
      all_goals try simp_all
      all_goals omega
  · try simp only [decide_eq_true_eq, decide_eq_false_iff_not, Bool.not_eq_true', Bool.not_eq_false', Bool.not_eq_eq_eq_not, Bool.not_true, Bool.not_false, beq_iff_eq, bne_iff_ne, ne_eq, beq_eq_false_iff_ne, bne_eq_false_iff_eq, gt_iff_lt, ge_iff_le, Int.not_lt, Int.not_le] at hc5
    refine c_skip (x_then (hK2 _ _ ?_))
    clear hK2 K2
    refine c_seq (fun K5 hK5 => ?_)
    refine c_seq (fun K6 hK6 => ?_)
    refine c_reg ?_ -- region 3 api.go:209
    refine wl (ro_fieldAddr (k := 2) rfl fo_119_2) ?_
    refine wl (ro_loadB rfl sc_9 (by assumption) rfl) ?_
    refine wl (ro_eqS rfl rfl rfl) ?_
    refine wl_fork rfl (fun hg18 => ?_) (fun hg18 => ?_)
    · try simp only [decide_eq_true_eq, decide_eq_false_iff_not, Bool.not_eq_true', Bool.not_eq_false', Bool.not_eq_eq_eq_not, Bool.not_true, Bool.not_false, beq_iff_eq, bne_iff_ne, ne_eq, beq_eq_false_iff_ne, bne_eq_false_iff_eq, gt_iff_lt, ge_iff_le, Int.not_lt, Int.not_le] at hg18
      refine wlg_no rfl ?_
      refine wlg_no rfl ?_
      refine wlg_no rfl ?_
      refine wl (ro_pick rfl rfl rfl) ?_
      refine wl (ro_move rfl) ?_
      refine wlg_no rfl ?_
      refine wlg_no rfl ?_
      refine wlg_no rfl ?_
      refine wl (ro_pick rfl rfl rfl) ?_
      refine wl_nil (x_then (hK6 _ _ ?_))
      clear hK6 K6
      refine wc_condT rfl ?_
      refine c_seq (fun K7 hK7 => ?_)
      refine c_reg ?_ -- region 4 api.go:210
      refine wl (ro_assign rfl) ?_
      refine wl_nil (x_then (hK7 _ _ ?_))
      clear hK7 K7
      refine c_ret (x_thenR ?_)
      refine bp_ret Tryz.results51 rfl ?_
      refine ⟨congrArg Value.bool ?_, hF⟩
      refine Eq.trans ?_ h
      unfold wfV
      repeat' split
      all_goals try simp_all
      all_goals omega
    · try simp only [decide_eq_true_eq, decide_eq_false_iff_not, Bool.not_eq_true', Bool.not_eq_false', Bool.not_eq_eq_eq_not, Bool.not_true, Bool.not_false, beq_iff_eq, bne_iff_ne, ne_eq, beq_eq_false_iff_ne, bne_eq_false_iff_eq, gt_iff_lt, ge_iff_le, Int.not_lt, Int.not_le] at hg18
      refine wlg_yes rfl (ro_fieldAddr (k := 0) rfl fo_119_0) ?_
      refine wlg_yes rfl (ro_loadB rfl sc_3 (by assumption) rfl) ?_
      refine wlg_yes rfl (ro_cmp rfl rfl rfl) ?_
      refine wl (ro_pick rfl rfl rfl) ?_
      refine wl_fork rfl (fun hg23 => ?_) (fun hg23 => ?_)
      · try simp only [decide_eq_true_eq, decide_eq_false_iff_not, Bool.not_eq_true', Bool.not_eq_false', Bool.not_eq_eq_eq_not, Bool.not_true, Bool.not_false, beq_iff_eq, bne_iff_ne, ne_eq, beq_eq_false_iff_ne, bne_eq_false_iff_eq, gt_iff_lt, ge_iff_le, Int.not_lt, Int.not_le] at hg23
        refine wlg_no rfl ?_
        refine wlg_no rfl ?_
        refine wlg_no rfl ?_
        refine wl (ro_pick rfl rfl rfl) ?_
        refine wl_nil (x_then (hK6 _ _ ?_))
        clear hK6 K6
        refine wc_condT rfl ?_
        refine c_seq (fun K8 hK8 => ?_)
        refine c_reg ?_ -- region 4 api.go:210
        refine wl (ro_assign rfl) ?_
        refine wl_nil (x_then (hK8 _ _ ?_))
        clear hK8 K8
        refine c_ret (x_thenR ?_)
        refine bp_ret Tryz.results51 rfl ?_
        refine ⟨congrArg Value.bool ?_, hF⟩
        refine Eq.trans ?_ h
        unfold wfV
        repeat' split
        all_goals try simp_all
        all_goals omega
      · try simp only [decide_eq_true_eq, decide_eq_false_iff_not, Bool.not_eq_true', Bool.not_eq_false', Bool.not_eq_eq_eq_not, Bool.not_true, Bool.not_false, beq_iff_eq, bne_iff_ne, ne_eq, beq_eq_false_iff_ne, bne_eq_false_iff_eq, gt_iff_lt, ge_iff_le, Int.not_lt, Int.not_le] at hg23
        refine wlg_yes rfl (ro_fieldAddr (k := 0) rfl fo_119_0) ?_
        refine wlg_yes rfl (ro_loadB rfl sc_3 (by assumption) rfl) ?_
        refine wlg_yes rfl (ro_cmp rfl rfl rfl) ?_
        refine wl (ro_pick rfl rfl rfl) ?_
        refine wl_nil (x_then (hK6 _ _ ?_))
        clear hK6 K6
        refine wc_cond rfl (fun hc27 => ?_) (fun hc27 => ?_)
        · try simp only [decide_eq_true_eq, decide_eq_false_iff_not, Bool.not_eq_true', Bool.not_eq_false', Bool.not_eq_eq_eq_not, Bool.not_true, Bool.not_false, beq_iff_eq, bne_iff_ne, ne_eq, beq_eq_false_iff_ne, bne_eq_false_iff_eq, gt_iff_lt, ge_iff_le, Int.not_lt, Int.not_le] at hc27
          refine c_seq (fun K9 hK9 => ?_)
          refine c_reg ?_ -- region 4 api.go:210
          refine wl (ro_assign rfl) ?_
          refine wl_nil (x_then (hK9 _ _ ?_))
          clear hK9 K9
          refine c_ret (x_thenR ?_)
          refine bp_ret Tryz.results51 rfl ?_
          refine ⟨congrArg Value.bool ?_, hF⟩
          refine Eq.trans ?_ h
          unfold wfV
          repeat' split
          all_goals try simp_all
          all_goals omega
        · try simp only [decide_eq_true_eq, decide_eq_false_iff_not, Bool.not_eq_true', Bool.not_eq_false', Bool.not_eq_eq_eq_not, Bool.not_true, Bool.not_false, beq_iff_eq, bne_iff_ne, ne_eq, beq_eq_false_iff_ne, bne_eq_false_iff_eq, gt_iff_lt, ge_iff_le, Int.not_lt, Int.not_le] at hc27
          refine c_skip (x_then (hK5 _ _ ?_))
          clear hK5 K5
          refine c_seq (fun K10 hK10 => ?_)
          refine c_seq (fun K11 hK11 => ?_)
          refine c_reg ?_ -- region 5 api.go:212
          refine wl (ro_fieldAddr (k := 0) rfl fo_119_0) ?_
          refine wl (ro_loadB rfl sc_3 (by assumption) rfl) ?_
          refine wl_nil (x_then (hK11 _ _ ?_))
          clear hK11 K11
          refine c_block ?_
          refine forget [(1, _), (29, _)] ⟨rfl, rfl, trivial⟩ (fun e => ?_)
          refine c_seq (fun K12 hK12 => ?_)
          refine c_reg ?_ -- region 6 api.go:213
          refine wl (ro_cmp rfl rfl rfl) ?_
          refine wl (ro_assign rfl) ?_
          refine wl_nil (x_then (hK12 _ _ ?_))
          clear hK12 K12
          refine wc_cond rfl (fun hc30 => ?_) (fun hc30 => ?_)
          · try simp only [decide_eq_true_eq, decide_eq_false_iff_not, Bool.not_eq_true', Bool.not_eq_false', Bool.not_eq_eq_eq_not, Bool.not_true, Bool.not_false, beq_iff_eq, bne_iff_ne, ne_eq, beq_eq_false_iff_ne, bne_eq_false_iff_eq, gt_iff_lt, ge_iff_le, Int.not_lt, Int.not_le] at hc30
            refine c_seq (fun K13 hK13 => ?_)
            refine c_reg ?_ -- region 7 api.go:214
            refine wl (ro_fieldAddr (k := 1) rfl fo_119_1) ?_
            refine wl (ro_loadB rfl sc_117 (by assumption) rfl) ?_
            refine wl (ro_cmpU rfl rfl rfl) ?_
            refine wl (ro_assign rfl) ?_
            refine wl_nil (x_then (hK13 _ _ ?_))
            clear hK13 K13
            refine c_ret (x_blkR (x_thenR ?_))
            refine bp_ret Tryz.results51 rfl ?_
            refine ⟨congrArg Value.bool ?_, hF⟩
            refine Eq.trans ?_ h
            unfold wfV
            repeat' split
            all_goals try simp_all
            all_goals omega
          · try simp only [decide_eq_true_eq, decide_eq_false_iff_not, Bool.not_eq_true', Bool.not_eq_false', Bool.not_eq_eq_eq_not, Bool.not_true, Bool.not_false, beq_iff_eq, bne_iff_ne, ne_eq, beq_eq_false_iff_ne, bne_eq_false_iff_eq, gt_iff_lt, ge_iff_le, Int.not_lt, Int.not_le] at hc30
            refine c_seq (fun K14 hK14 => ?_)
            refine c_reg ?_ -- region 8 api.go:215
            refine wl (ro_cmp rfl rfl rfl) ?_
            refine wl (ro_assign rfl) ?_
            refine wl_nil (x_then (hK14 _ _ ?_))
            clear hK14 K14
            refine wc_cond rfl (fun hc35 => ?_) (fun hc35 => ?_)
            · try simp only [decide_eq_true_eq, decide_eq_false_iff_not, Bool.not_eq_true', Bool.not_eq_false', Bool.not_eq_eq_eq_not, Bool.not_true, Bool.not_false, beq_iff_eq, bne_iff_ne, ne_eq, beq_eq_false_iff_ne, bne_eq_false_iff_eq, gt_iff_lt, ge_iff_le, Int.not_lt, Int.not_le] at hc35
              refine c_seq (fun K15 hK15 => ?_)
              refine c_reg ?_ -- region 9 api.go:216
              refine wl (ro_fieldAddr (k := 1) rfl fo_119_1) ?_
              refine wl (ro_loadB rfl sc_117 (by assumption) rfl) ?_
              refine wl (ro_cmpU rfl rfl rfl) ?_
              refine wl (ro_assign rfl) ?_
              refine wl_nil (x_then (hK15 _ _ ?_))
              clear hK15 K15
              refine c_ret (x_blkR (x_thenR ?_))
              refine bp_ret Tryz.results51 rfl ?_
              refine ⟨congrArg Value.bool ?_, hF⟩
              refine Eq.trans ?_ h
              unfold wfV
              repeat' split
              all_goals try simp_all
              all_goals omega
            · try simp only [decide_eq_true_eq, decide_eq_false_iff_not, Bool.not_eq_true', Bool.not_eq_false', Bool.not_eq_eq_eq_not, Bool.not_true, Bool.not_false, beq_iff_eq, bne_iff_ne, ne_eq, beq_eq_false_iff_ne, bne_eq_false_iff_eq, gt_iff_lt, ge_iff_le, Int.not_lt, Int.not_le] at hc35
              refine c_seq (fun K16 hK16 => ?_)
              refine c_reg ?_ -- region 10 api.go:217
              refine wl (ro_cmp rfl rfl rfl) ?_
              refine wl (ro_assign rfl) ?_
              refine wl_nil (x_then (hK16 _ _ ?_))
              clear hK16 K16
              refine wc_cond rfl (fun hc40 => ?_) (fun hc40 => ?_)
              · try simp only [decide_eq_true_eq, decide_eq_false_iff_not, Bool.not_eq_true', Bool.not_eq_false', Bool.not_eq_eq_eq_not, Bool.not_true, Bool.not_false, beq_iff_eq, bne_iff_ne, ne_eq, beq_eq_false_iff_ne, bne_eq_false_iff_eq, gt_iff_lt, ge_iff_le, Int.not_lt, Int.not_le] at hc40
                refine c_seq (fun K17 hK17 => ?_)
                refine c_reg ?_ -- region 11 api.go:218
                refine wl (ro_fieldAddr (k := 1) rfl fo_119_1) ?_
                refine wl (ro_loadB rfl sc_117 (by assumption) rfl) ?_
                refine wl (ro_cmpU rfl rfl rfl) ?_
                refine wl_fork rfl (fun hg45 => ?_) (fun hg45 => ?_)
                · try simp only [decide_eq_true_eq, decide_eq_false_iff_not, Bool.not_eq_true', Bool.not_eq_false', Bool.not_eq_eq_eq_not, Bool.not_true, Bool.not_false, beq_iff_eq, bne_iff_ne, ne_eq, beq_eq_false_iff_ne, bne_eq_false_iff_eq, gt_iff_lt, ge_iff_le, Int.not_lt, Int.not_le] at hg45
                  refine wlg_yes rfl (ro_fieldAddr (k := 1) rfl fo_119_1) ?_
                  refine wlg_yes rfl (ro_loadB rfl sc_117 (by assumption) rfl) ?_
                  refine wlg_yes rfl (ro_cmpU rfl rfl rfl) ?_
                  refine wl (ro_pick rfl rfl rfl) ?_
                  refine wl (ro_assign rfl) ?_
                  refine wl_nil (x_then (hK17 _ _ ?_))
                  clear hK17 K17
                  refine c_ret (x_blkR (x_thenR ?_))
                  refine bp_ret Tryz.results51 rfl ?_
                  refine ⟨congrArg Value.bool ?_, hF⟩
                  refine Eq.trans ?_ h
                  unfold wfV
                  repeat' split
                  all_goals try simp_all
                  all_goals omega
                · try simp only [decide_eq_true_eq, decide_eq_false_iff_not, Bool.not_eq_true', Bool.not_eq_false', Bool.not_eq_eq_eq_not, Bool.not_true, Bool.not_false, beq_iff_eq, bne_iff_ne, ne_eq, beq_eq_false_iff_ne, bne_eq_false_iff_eq, gt_iff_lt, ge_iff_le, Int.not_lt, Int.not_le] at hg45
                  refine wlg_no rfl ?_
                  refine wlg_no rfl ?_
                  refine wlg_no rfl ?_
                  refine wl (ro_pick rfl rfl rfl) ?_
                  refine wl (ro_assign rfl) ?_
                  refine wl_nil (x_then (hK17 _ _ ?_))
                  clear hK17 K17
                  refine c_ret (x_blkR (x_thenR ?_))
                  refine bp_ret Tryz.results51 rfl ?_
                  refine ⟨congrArg Value.bool ?_, hF⟩
                  refine Eq.trans ?_ h
                  unfold wfV
                  repeat' split
                  all_goals try simp_all
                  all_goals omega
              · try simp only [decide_eq_true_eq, decide_eq_false_iff_not, Bool.not_eq_true', Bool.not_eq_false', Bool.not_eq_eq_eq_not, Bool.not_true, Bool.not_false, beq_iff_eq, bne_iff_ne, ne_eq, beq_eq_false_iff_ne, bne_eq_false_iff_eq, gt_iff_lt, ge_iff_le, Int.not_lt, Int.not_le] at hc40
                refine c_seq (fun K18 hK18 => ?_)
                refine c_seq (fun K19 hK19 => ?_)
                refine c_reg ?_ -- region 12 api.go:219
                refine wl (ro_cmp rfl rfl rfl) ?_
                refine wl (ro_assign rfl) ?_
                refine wl_nil (x_then (hK19 _ _ ?_))
                clear hK19 K19
                refine wc_cond rfl (fun hc50 => ?_) (fun hc50 => ?_)
                · try simp only [decide_eq_true_eq, decide_eq_false_iff_not, Bool.not_eq_true', Bool.not_eq_false', Bool.not_eq_eq_eq_not, Bool.not_true, Bool.not_false, beq_iff_eq, bne_iff_ne, ne_eq, beq_eq_false_iff_ne, bne_eq_false_iff_eq, gt_iff_lt, ge_iff_le, Int.not_lt, Int.not_le] at hc50
                  refine c_skip (x_then (hK18 _ _ ?_))
                  clear hK18 K18
                  refine wc_cond rfl (fun hc50 => ?_) (fun hc50 => ?_)
                  · try simp only [decide_eq_true_eq, decide_eq_false_iff_not, Bool.not_eq_true', Bool.not_eq_false', Bool.not_eq_eq_eq_not, Bool.not_true, Bool.not_false, beq_iff_eq, bne_iff_ne, ne_eq, beq_eq_false_iff_ne, bne_eq_false_iff_eq, gt_iff_lt, ge_iff_le, Int.not_lt, Int.not_le] at hc50
                    refine c_seq (fun K20 hK20 => ?_)
                    refine c_reg ?_ -- region 15 api.go:220
                    refine wl (ro_fieldAddr (k := 1) rfl fo_119_1) ?_
                    refine wl (ro_loadB rfl sc_117 (by assumption) rfl) ?_
                    refine wl (ro_cmpU rfl rfl rfl) ?_
                    refine wl (ro_assign rfl) ?_
                    refine wl_nil (x_then (hK20 _ _ ?_))
                    clear hK20 K20
                    refine c_ret (x_blkR (x_thenR ?_))
                    refine bp_ret Tryz.results51 rfl ?_
                    refine ⟨congrArg Value.bool ?_, hF⟩
                    refine Eq.trans ?_ h
                    unfold wfV
                    repeat' split
                    all_goals try simp_all
                    all_goals omega
                  · try simp only [decide_eq_true_eq, decide_eq_false_iff_not, Bool.not_eq_true', Bool.not_eq_false', Bool.not_eq_eq_eq_not, Bool.not_true, Bool.not_false, beq_iff_eq, bne_iff_ne, ne_eq, beq_eq_false_iff_ne, bne_eq_false_iff_eq, gt_iff_lt, ge_iff_le, Int.not_lt, Int.not_le] at hc50
                    refine c_skip (x_blk (x_then (hK10 _ _ ?_)))
                    clear hK10 K10
                    refine forget [] trivial (fun e => ?_)
                    refine c_seq (fun K21 hK21 => ?_)
                    refine c_reg ?_ -- region 16 api.go:222
                    refine wl (ro_assign rfl) ?_
                    refine wl_nil (x_then (hK21 _ _ ?_))
                    clear hK21 K21
                    refine c_ret ?_
                    refine bp_ret Tryz.results51 rfl ?_
                    refine ⟨congrArg Value.bool ?_, hF⟩
                    refine Eq.trans ?_ h
                    unfold wfV
                    repeat' split
                    all_goals try simp_all
                    all_goals omega
                · try simp only [decide_eq_true_eq, decide_eq_false_iff_not, Bool.not_eq_true', Bool.not_eq_false', Bool.not_eq_eq_eq_not, Bool.not_true, Bool.not_false, beq_iff_eq, bne_iff_ne, ne_eq, beq_eq_false_iff_ne, bne_eq_false_iff_eq, gt_iff_lt, ge_iff_le, Int.not_lt, Int.not_le] at hc50
                  refine c_seq (fun K22 hK22 => ?_)
                  refine c_reg ?_ -- region 13 api.go:219
                  refine wl (ro_cmp rfl rfl rfl) ?_
                  refine wl (ro_assign rfl) ?_
                  refine wl_nil (x_then (hK22 _ _ ?_))
                  clear hK22 K22
                  refine wc_cond rfl (fun hc50 => ?_) (fun hc50 => ?_)
                  · try simp only [decide_eq_true_eq, decide_eq_false_iff_not, Bool.not_eq_true', Bool.not_eq_false', Bool.not_eq_eq_eq_not, Bool.not_true, Bool.not_false, beq_iff_eq, bne_iff_ne, ne_eq, beq_eq_false_iff_ne, bne_eq_false_iff_eq, gt_iff_lt, ge_iff_le, Int.not_lt, Int.not_le] at hc50
                    refine c_skip (x_then (hK18 _ _ ?_))
                    clear hK18 K18
                    refine wc_cond rfl (fun hc50 => ?_) (fun hc50 => ?_)
                    · try simp only [decide_eq_true_eq, decide_eq_false_iff_not, Bool.not_eq_true', Bool.not_eq_false', Bool.not_eq_eq_eq_not, Bool.not_true, Bool.not_false, beq_iff_eq, bne_iff_ne, ne_eq, beq_eq_false_iff_ne, bne_eq_false_iff_eq, gt_iff_lt, ge_iff_le, Int.not_lt, Int.not_le] at hc50
                      refine c_seq (fun K23 hK23 => ?_)
                      refine c_reg ?_ -- region 15 api.go:220
                      refine wl (ro_fieldAddr (k := 1) rfl fo_119_1) ?_
                      refine wl (ro_loadB rfl sc_117 (by assumption) rfl) ?_
                      refine wl (ro_cmpU rfl rfl rfl) ?_
                      refine wl (ro_assign rfl) ?_
                      refine wl_nil (x_then (hK23 _ _ ?_))
                      clear hK23 K23
                      refine c_ret (x_blkR (x_thenR ?_))
                      refine bp_ret Tryz.results51 rfl ?_
                      refine ⟨congrArg Value.bool ?_, hF⟩
                      refine Eq.trans ?_ h
                      unfold wfV
                      repeat' split
                      all_goals try simp_all
                      all_goals omega
                    · try simp only [decide_eq_true_eq, decide_eq_false_iff_not, Bool.not_eq_true', Bool.not_eq_false', Bool.not_eq_eq_eq_not, Bool.not_true, Bool.not_false, beq_iff_eq, bne_iff_ne, ne_eq, beq_eq_false_iff_ne, bne_eq_false_iff_eq, gt_iff_lt, ge_iff_le, Int.not_lt, Int.not_le] at hc50
                      refine c_skip (x_blk (x_then (hK10 _ _ ?_)))
                      clear hK10 K10
                      refine forget [] trivial (fun e => ?_)
                      refine c_seq (fun K24 hK24 => ?_)
                      refine c_reg ?_ -- region 16 api.go:222
                      refine wl (ro_assign rfl) ?_
                      refine wl_nil (x_then (hK24 _ _ ?_))
                      clear hK24 K24
                      refine c_ret ?_
                      refine bp_ret Tryz.results51 rfl ?_
                      refine ⟨congrArg Value.bool ?_, hF⟩
                      refine Eq.trans ?_ h
                      unfold wfV
                      repeat' split
                      all_goals try simp_all
                      all_goals omega
                  · try simp only [decide_eq_true_eq, decide_eq_false_iff_not, Bool.not_eq_true', Bool.not_eq_false', Bool.not_eq_eq_eq_not, Bool.not_true, Bool.not_false, beq_iff_eq, bne_iff_ne, ne_eq, beq_eq_false_iff_ne, bne_eq_false_iff_eq, gt_iff_lt, ge_iff_le, Int.not_lt, Int.not_le] at hc50
                    refine c_reg ?_ -- region 14 api.go:219
                    refine wl (ro_cmp rfl rfl rfl) ?_
                    refine wl (ro_assign rfl) ?_
                    refine wl_nil (x_then (hK18 _ _ ?_))
                    clear hK18 K18
                    refine wc_cond rfl (fun hc50 => ?_) (fun hc50 => ?_)
                    · try simp only [decide_eq_true_eq, decide_eq_false_iff_not, Bool.not_eq_true', Bool.not_eq_false', Bool.not_eq_eq_eq_not, Bool.not_true, Bool.not_false, beq_iff_eq, bne_iff_ne, ne_eq, beq_eq_false_iff_ne, bne_eq_false_iff_eq, gt_iff_lt, ge_iff_le, Int.not_lt, Int.not_le] at hc50
                      refine c_seq (fun K25 hK25 => ?_)
                      refine c_reg ?_ -- region 15 api.go:220
                      refine wl (ro_fieldAddr (k := 1) rfl fo_119_1) ?_
                      refine wl (ro_loadB rfl sc_117 (by assumption) rfl) ?_
                      refine wl (ro_cmpU rfl rfl rfl) ?_
                      refine wl (ro_assign rfl) ?_
                      refine wl_nil (x_then (hK25 _ _ ?_))
                      clear hK25 K25
                      refine c_ret (x_blkR (x_thenR ?_))
                      refine bp_ret Tryz.results51 rfl ?_
                      refine ⟨congrArg Value.bool ?_, hF⟩
                      refine Eq.trans ?_ h
                      unfold wfV
                      repeat' split
                      all_goals try simp_all
                      all_goals omega
                    · try simp only [decide_eq_true_eq, decide_eq_false_iff_not, Bool.not_eq_true', Bool.not_eq_false', Bool.not_eq_eq_eq_not, Bool.not_true, Bool.not_false, beq_iff_eq, bne_iff_ne, ne_eq, beq_eq_false_iff_ne, bne_eq_false_iff_eq, gt_iff_lt, ge_iff_le, Int.not_lt, Int.not_le] at hc50
                      refine c_skip (x_blk (x_then (hK10 _ _ ?_)))
                      clear hK10 K10
                      refine forget [] trivial (fun e => ?_)
                      refine c_seq (fun K26 hK26 => ?_)
                      refine c_reg ?_ -- region 16 api.go:222
                      refine wl (ro_assign rfl) ?_
                      refine wl_nil (x_then (hK26 _ _ ?_))
                      clear hK26 K26
                      refine c_ret ?_
                      refine bp_ret Tryz.results51 rfl ?_
                      refine ⟨congrArg Value.bool ?_, hF⟩
                      refine Eq.trans ?_ h
                      unfold wfV
                      repeat' split
                      all_goals try simp_all
                      all_goals omega
end Go.Proofs.Qxb6500568aGreatDoor
