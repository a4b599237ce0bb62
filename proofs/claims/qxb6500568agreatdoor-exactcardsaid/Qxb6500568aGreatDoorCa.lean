import Derived.Test.Qxb6500568aGreatDoorLb
import Derived.Test.Qxb6500568aGreatDoorBm
/- The values in memory; the small functions of api. -/
namespace Go.Proofs.Qxb6500568aGreatDoor
open Ieee
set_option linter.unusedVariables false
set_option linter.unusedSimpArgs false

/-- A value's cells. -/
def pvc (v : PV) : List Value := [i64c v.T, u64c v.N, S v.S]
def pv (v : PV) : Value := .agg (pvc v).toArray
@[simp] theorem pvc_len (v : PV) : (pvc v).length = 3 := rfl
theorem pvc_one (v : PV) : ∀ u ∈ pvc v, u.oneCell' = true := by simp [pvc, Value.oneCell', i64c, u64c, S]
/-- What a Go value can be: the fields fit. -/
structure PVf (v : PV) : Prop where
  t : v.T < 1000
  n : W64 v.N
  s : v.S.length < 4611686018427387904

theorem WellFormed51 {w : World} {v : PV} (hv : PVf v) : Ret Tryz.prog 51 [pv v] w (fun r w' => r = .bool (wfV v) ∧ Fram none' w w') := by
  have hF : Fram none' w w := Fram.refl _ _
  refine ret_of Tryz.func51 rfl Tryz.ntmps51 rfl ?_
  refine c_seq (fun K1 hK1 => ?_)
  refine c_reg ?_ -- region 0 api.go:205
  refine wl_box rfl rfl (fun b1 w1 hbb1 h1 F1 => ?_)
  have hbsb1 := Nat.le_trans hF.size hbb1
  replace hF := hF.thenDrew.thenN F1
  refine wl (ro_assign rfl) ?_
  refine wl_nil (x_then (hK1 _ _ ?_))
  clear hK1 K1
  refine c_seq (fun K2 hK2 => ?_)
  refine c_seq (fun K3 hK3 => ?_)
  refine c_reg ?_ -- region 1 api.go:206
  refine wl (ro_fieldAddr (k := 0) rfl fo_119_0) ?_
  refine wl (ro_loadB rfl sc_3 (by assumption) rfl) ?_
  refine wl (ro_cmp rfl rfl rfl) ?_
  refine wl_nil (x_then (hK3 _ _ ?_))
  clear hK3 K3
  refine wc_cond rfl (fun hc5 => ?_) (fun hc5 => ?_)
  · try simp only [decide_eq_true_eq, decide_eq_false_iff_not, Bool.not_eq_true', Bool.not_eq_false', Bool.not_eq_eq_eq_not, Bool.not_true, Bool.not_false, beq_iff_eq, bne_iff_ne, ne_eq, beq_eq_false_iff_ne, bne_eq_false_iff_eq, gt_iff_lt, ge_iff_le, Int.not_lt, Int.not_le] at hc5
    refine c_seq (fun K4 hK4 => ?_)
    refine c_reg ?_ -- region 2 api.go:207
    refine wl (ro_fieldAddr (k := 1) rfl fo_119_1) ?_
    refine wl (ro_loadB rfl sc_117 (by assumption) rfl) ?_
    refine wl (ro_cmpU rfl rfl rfl) ?_
    refine wl_fork rfl (fun hg9 => ?_) (fun hg9 => ?_)
    · try simp only [decide_eq_true_eq, decide_eq_false_iff_not, Bool.not_eq_true', Bool.not_eq_false', Bool.not_eq_eq_eq_not, Bool.not_true, Bool.not_false, beq_iff_eq, bne_iff_ne, ne_eq, beq_eq_false_iff_ne, bne_eq_false_iff_eq, gt_iff_lt, ge_iff_le, Int.not_lt, Int.not_le] at hg9
      refine wlg_yes rfl (ro_fieldAddr (k := 2) rfl fo_119_2) ?_
      refine wlg_yes rfl (ro_loadB rfl sc_9 (by assumption) rfl) ?_
      refine wlg_yes rfl (ro_lenS rfl st_9) ?_
      refine wlg_yes rfl (ro_cmp rfl rfl rfl) ?_
      refine wl (ro_pick rfl rfl rfl) ?_
      refine wl (ro_assign rfl) ?_
      refine wl_nil (x_then (hK4 _ _ ?_))
      clear hK4 K4
      refine c_ret (x_thenR ?_)
      refine bp_ret Tryz.results51 rfl ?_
      refine ⟨congrArg Value.bool ?_, hF⟩
      unfold wfV
      repeat' split
      all_goals try simp_all
      all_goals omega
    · try simp only [decide_eq_true_eq, decide_eq_false_iff_not, Bool.not_eq_true', Bool.not_eq_false', Bool.not_eq_eq_eq_not, Bool.not_true, Bool.not_false, beq_iff_eq, bne_iff_ne, ne_eq, beq_eq_false_iff_ne, bne_eq_false_iff_eq, gt_iff_lt, ge_iff_le, Int.not_lt, Int.not_le] at hg9
      refine wlg_no rfl ?_
      refine wlg_no rfl ?_
      refine wlg_no rfl ?_
      refine wlg_no rfl ?_
      refine wl (ro_pick rfl rfl rfl) ?_
      refine wl (ro_assign rfl) ?_
      refine wl_nil (x_then (hK4 _ _ ?_))
      clear hK4 K4
      refine c_ret (x_thenR ?_)
      refine bp_ret Tryz.results51 rfl ?_
      refine ⟨congrArg Value.bool ?_, hF⟩
      unfold wfV
      repeat' split
      all_goals try simp_all
      all_goals omega
  · try simp only [decide_eq_true_eq, decide_eq_false_iff_not, Bool.not_eq_true', Bool.not_eq_false', Bool.not_eq_eq_eq_not, Bool.not_true, Bool.not_false, beq_iff_eq, bne_iff_ne, ne_eq, beq_eq_false_iff_ne, bne_eq_false_iff_eq, gt_iff_lt, ge_iff_le, Int.not_lt, Int.not_le] at hc5
    refine c_skip (x_then (hK2 _ _ ?_))
    clear hK2 K2
    refine c_seq (fun K5 hK5 => ?_)
    refine c_seq (fun K6 hK6 => ?_)
    refine c_reg ?_ -- region 3 api.go:209
    refine wl (ro_fieldAddr (k := 2) rfl fo_119_2) ?_
    refine wl (ro_loadB rfl sc_9 (by assumption) rfl) ?_
    refine wl (ro_eqS rfl rfl rfl) ?_
    refine wl_fork rfl (fun hg18 => ?_) (fun hg18 => ?_)
    · try simp only [decide_eq_true_eq, decide_eq_false_iff_not, Bool.not_eq_true', Bool.not_eq_false', Bool.not_eq_eq_eq_not, Bool.not_true, Bool.not_false, beq_iff_eq, bne_iff_ne, ne_eq, beq_eq_false_iff_ne, bne_eq_false_iff_eq, gt_iff_lt, ge_iff_le, Int.not_lt, Int.not_le] at hg18
      refine wlg_no rfl ?_
      refine wlg_no rfl ?_
      refine wlg_no rfl ?_
      refine wl (ro_pick rfl rfl rfl) ?_
      refine wl (ro_move rfl) ?_
      refine wlg_no rfl ?_
      refine wlg_no rfl ?_
      refine wlg_no rfl ?_
      refine wl (ro_pick rfl rfl rfl) ?_
      refine wl_nil (x_then (hK6 _ _ ?_))
      clear hK6 K6
      refine wc_condT rfl ?_
      refine c_seq (fun K7 hK7 => ?_)
      refine c_reg ?_ -- region 4 api.go:210
      refine wl (ro_assign rfl) ?_
      refine wl_nil (x_then (hK7 _ _ ?_))
      clear hK7 K7
      refine c_ret (x_thenR ?_)
      refine bp_ret Tryz.results51 rfl ?_
      refine ⟨congrArg Value.bool ?_, hF⟩
      unfold wfV
      repeat' split
      all_goals try simp_all
      all_goals omega
    · try simp only [decide_eq_true_eq, decide_eq_false_iff_not, Bool.not_eq_true', Bool.not_eq_false', Bool.not_eq_eq_eq_not, Bool.not_true, Bool.not_false, beq_iff_eq, bne_iff_ne, ne_eq, beq_eq_false_iff_ne, bne_eq_false_iff_eq, gt_iff_lt, ge_iff_le, Int.not_lt, Int.not_le] at hg18
      refine wlg_yes rfl (ro_fieldAddr (k := 0) rfl fo_119_0) ?_
      refine wlg_yes rfl (ro_loadB rfl sc_3 (by assumption) rfl) ?_
      refine wlg_yes rfl (ro_cmp rfl rfl rfl) ?_
      refine wl (ro_pick rfl rfl rfl) ?_
      refine wl_fork rfl (fun hg23 => ?_) (fun hg23 => ?_)
      · try simp only [decide_eq_true_eq, decide_eq_false_iff_not, Bool.not_eq_true', Bool.not_eq_false', Bool.not_eq_eq_eq_not, Bool.not_true, Bool.not_false, beq_iff_eq, bne_iff_ne, ne_eq, beq_eq_false_iff_ne, bne_eq_false_iff_eq, gt_iff_lt, ge_iff_le, Int.not_lt, Int.not_le] at hg23
        refine wlg_no rfl ?_
        refine wlg_no rfl ?_
        refine wlg_no rfl ?_
        refine wl (ro_pick rfl rfl rfl) ?_
        refine wl_nil (x_then (hK6 _ _ ?_))
        clear hK6 K6
        refine wc_condT rfl ?_
        refine c_seq (fun K8 hK8 => ?_)
        refine c_reg ?_ -- region 4 api.go:210
        refine wl (ro_assign rfl) ?_
        refine wl_nil (x_then (hK8 _ _ ?_))
        clear hK8 K8
        refine c_ret (x_thenR ?_)
        refine bp_ret Tryz.results51 rfl ?_
        refine ⟨congrArg Value.bool ?_, hF⟩
        unfold wfV
        repeat' split
        all_goals try simp_all
        all_goals omega
      · try simp only [decide_eq_true_eq, decide_eq_false_iff_not, Bool.not_eq_true', Bool.not_eq_false', Bool.not_eq_eq_eq_not, Bool.not_true, Bool.not_false, beq_iff_eq, bne_iff_ne, ne_eq, beq_eq_false_iff_ne, bne_eq_false_iff_eq, gt_iff_lt, ge_iff_le, Int.not_lt, Int.not_le] at hg23
        refine wlg_yes rfl (ro_fieldAddr (k := 0) rfl fo_119_0) ?_
        refine wlg_yes rfl (ro_loadB rfl sc_3 (by assumption) rfl) ?_
        refine wlg_yes rfl (ro_cmp rfl rfl rfl) ?_
        refine wl (ro_pick rfl rfl rfl) ?_
        refine wl_nil (x_then (hK6 _ _ ?_))
        clear hK6 K6
        refine wc_cond rfl (fun hc27 => ?_) (fun hc27 => ?_)
        · try simp only [decide_eq_true_eq, decide_eq_false_iff_not, Bool.not_eq_true', Bool.not_eq_false', Bool.not_eq_eq_eq_not, Bool.not_true, Bool.not_false, beq_iff_eq, bne_iff_ne, ne_eq, beq_eq_false_iff_ne, bne_eq_false_iff_eq, gt_iff_lt, ge_iff_le, Int.not_lt, Int.not_le] at hc27
          refine c_seq (fun K9 hK9 => ?_)
          refine c_reg ?_ -- region 4 api.go:210
          refine wl (ro_assign rfl) ?_
          refine wl_nil (x_then (hK9 _ _ ?_))
          clear hK9 K9
          refine c_ret (x_thenR ?_)
          refine bp_ret Tryz.results51 rfl ?_
          refine ⟨congrArg Value.bool ?_, hF⟩
          unfold wfV
          repeat' split
          all_goals try simp_all
          all_goals omega
        · try simp only [decide_eq_true_eq, decide_eq_false_iff_not, Bool.not_eq_true', Bool.not_eq_false', Bool.not_eq_eq_eq_not, Bool.not_true, Bool.not_false, beq_iff_eq, bne_iff_ne, ne_eq, beq_eq_false_iff_ne, bne_eq_false_iff_eq, gt_iff_lt, ge_iff_le, Int.not_lt, Int.not_le] at hc27
          refine c_skip (x_then (hK5 _ _ ?_))
          clear hK5 K5
          refine c_seq (fun K10 hK10 => ?_)
          refine c_seq (fun K11 hK11 => ?_)
          refine c_reg ?_ -- region 5 api.go:212
          refine wl (ro_fieldAddr (k := 0) rfl fo_119_0) ?_
          refine wl (ro_loadB rfl sc_3 (by assumption) rfl) ?_
          refine wl_nil (x_then (hK11 _ _ ?_))
          clear hK11 K11
          refine c_block ?_
          refine forget [(1, _), (29, _)] ⟨rfl, rfl, trivial⟩ (fun e => ?_)
          refine c_seq (fun K12 hK12 => ?_)
          refine c_reg ?_ -- region 6 api.go:213
          refine wl (ro_cmp rfl rfl rfl) ?_
          refine wl (ro_assign rfl) ?_
          refine wl_nil (x_then (hK12 _ _ ?_))
          clear hK12 K12
          refine wc_cond rfl (fun hc30 => ?_) (fun hc30 => ?_)
          · try simp only [decide_eq_true_eq, decide_eq_false_iff_not, Bool.not_eq_true', Bool.not_eq_false', Bool.not_eq_eq_eq_not, Bool.not_true, Bool.not_false, beq_iff_eq, bne_iff_ne, ne_eq, beq_eq_false_iff_ne, bne_eq_false_iff_eq, gt_iff_lt, ge_iff_le, Int.not_lt, Int.not_le] at hc30
            refine c_seq (fun K13 hK13 => ?_)
            refine c_reg ?_ -- region 7 api.go:214
            refine wl (ro_fieldAddr (k := 1) rfl fo_119_1) ?_
            refine wl (ro_loadB rfl sc_117 (by assumption) rfl) ?_
            refine wl (ro_cmpU rfl rfl rfl) ?_
            refine wl (ro_assign rfl) ?_
            refine wl_nil (x_then (hK13 _ _ ?_))
            clear hK13 K13
            refine c_ret (x_blkR (x_thenR ?_))
            refine bp_ret Tryz.results51 rfl ?_
            refine ⟨congrArg Value.bool ?_, hF⟩
            unfold wfV
            repeat' split
            all_goals try simp_all
            all_goals omega
          · try simp only [decide_eq_true_eq, decide_eq_false_iff_not, Bool.not_eq_true', Bool.not_eq_false', Bool.not_eq_eq_eq_not, Bool.not_true, Bool.not_false, beq_iff_eq, bne_iff_ne, ne_eq, beq_eq_false_iff_ne, bne_eq_false_iff_eq, gt_iff_lt, ge_iff_le, Int.not_lt, Int.not_le] at hc30
            refine c_seq (fun K14 hK14 => ?_)
            refine c_reg ?_ -- region 8 api.go:215
            refine wl (ro_cmp rfl rfl rfl) ?_
            refine wl (ro_assign rfl) ?_
            refine wl_nil (x_then (hK14 _ _ ?_))
            clear hK14 K14
            refine wc_cond rfl (fun hc35 => ?_) (fun hc35 => ?_)
            · try simp only [decide_eq_true_eq, decide_eq_false_iff_not, Bool.not_eq_true', Bool.not_eq_false', Bool.not_eq_eq_eq_not, Bool.not_true, Bool.not_false, beq_iff_eq, bne_iff_ne, ne_eq, beq_eq_false_iff_ne, bne_eq_false_iff_eq, gt_iff_lt, ge_iff_le, Int.not_lt, Int.not_le] at hc35
              refine c_seq (fun K15 hK15 => ?_)
              refine c_reg ?_ -- region 9 api.go:216
              refine wl (ro_fieldAddr (k := 1) rfl fo_119_1) ?_
              refine wl (ro_loadB rfl sc_117 (by assumption) rfl) ?_
              refine wl (ro_cmpU rfl rfl rfl) ?_
              refine wl (ro_assign rfl) ?_
              refine wl_nil (x_then (hK15 _ _ ?_))
              clear hK15 K15
              refine c_ret (x_blkR (x_thenR ?_))
              refine bp_ret Tryz.results51 rfl ?_
              refine ⟨congrArg Value.bool ?_, hF⟩
              unfold wfV
              repeat' split
              all_goals try simp_all
              all_goals omega
            · try simp only [decide_eq_true_eq, decide_eq_false_iff_not, Bool.not_eq_true', Bool.not_eq_false', Bool.not_eq_eq_eq_not, Bool.not_true, Bool.not_false, beq_iff_eq, bne_iff_ne, ne_eq, beq_eq_false_iff_ne, bne_eq_false_iff_eq, gt_iff_lt, ge_iff_le, Int.not_lt, Int.not_le] at hc35
              refine c_seq (fun K16 hK16 => ?_)
              refine c_reg ?_ -- region 10 api.go:217
              refine wl (ro_cmp rfl rfl rfl) ?_
              refine wl (ro_assign rfl) ?_
              refine wl_nil (x_then (hK16 _ _ ?_))
              clear hK16 K16
              refine wc_cond rfl (fun hc40 => ?_) (fun hc40 => ?_)
              · try simp only [decide_eq_true_eq, decide_eq_false_iff_not, Bool.not_eq_true', Bool.not_eq_false', Bool.not_eq_eq_eq_not, Bool.not_true, Bool.not_false, beq_iff_eq, bne_iff_ne, ne_eq, beq_eq_false_iff_ne, bne_eq_false_iff_eq, gt_iff_lt, ge_iff_le, Int.not_lt, Int.not_le] at hc40
                refine c_seq (fun K17 hK17 => ?_)
                refine c_reg ?_ -- region 11 api.go:218
                refine wl (ro_fieldAddr (k := 1) rfl fo_119_1) ?_
                refine wl (ro_loadB rfl sc_117 (by assumption) rfl) ?_
                refine wl (ro_cmpU rfl rfl rfl) ?_
                refine wl_fork rfl (fun hg45 => ?_) (fun hg45 => ?_)
                · try simp only [decide_eq_true_eq, decide_eq_false_iff_not, Bool.not_eq_true', Bool.not_eq_false', Bool.not_eq_eq_eq_not, Bool.not_true, Bool.not_false, beq_iff_eq, bne_iff_ne, ne_eq, beq_eq_false_iff_ne, bne_eq_false_iff_eq, gt_iff_lt, ge_iff_le, Int.not_lt, Int.not_le] at hg45
                  refine wlg_yes rfl (ro_fieldAddr (k := 1) rfl fo_119_1) ?_
                  refine wlg_yes rfl (ro_loadB rfl sc_117 (by assumption) rfl) ?_
                  refine wlg_yes rfl (ro_cmpU rfl rfl rfl) ?_
                  refine wl (ro_pick rfl rfl rfl) ?_
                  refine wl (ro_assign rfl) ?_
                  refine wl_nil (x_then (hK17 _ _ ?_))
                  clear hK17 K17
                  refine c_ret (x_blkR (x_thenR ?_))
                  refine bp_ret Tryz.results51 rfl ?_
                  refine ⟨congrArg Value.bool ?_, hF⟩
                  unfold wfV
                  repeat' split
                  all_goals try simp_all
                  all_goals omega
                · try simp only [decide_eq_true_eq, decide_eq_false_iff_not, Bool.not_eq_true', Bool.not_eq_false', Bool.not_eq_eq_eq_not, Bool.not_true, Bool.not_false, beq_iff_eq, bne_iff_ne, ne_eq, beq_eq_false_iff_ne, bne_eq_false_iff_eq, gt_iff_lt, ge_iff_le, Int.not_lt, Int.not_le] at hg45
                  refine wlg_no rfl ?_
                  refine wlg_no rfl ?_
                  refine wlg_no rfl ?_
                  refine wl (ro_pick rfl rfl rfl) ?_
                  refine wl (ro_assign rfl) ?_
                  refine wl_nil (x_then (hK17 _ _ ?_))
                  clear hK17 K17
                  refine c_ret (x_blkR (x_thenR ?_))
                  refine bp_ret Tryz.results51 rfl ?_
                  refine ⟨congrArg Value.bool ?_, hF⟩
                  unfold wfV
                  repeat' split
                  all_goals try simp_all
                  all_goals omega
              · try simp only [decide_eq_true_eq, decide_eq_false_iff_not, Bool.not_eq_true', Bool.not_eq_false', Bool.not_eq_eq_eq_not, Bool.not_true, Bool.not_false, beq_iff_eq, bne_iff_ne, ne_eq, beq_eq_false_iff_ne, bne_eq_false_iff_eq, gt_iff_lt, ge_iff_le, Int.not_lt, Int.not_le] at hc40
                refine c_seq (fun K18 hK18 => ?_)
                refine c_seq (fun K19 hK19 => ?_)
                refine c_reg ?_ -- region 12 api.go:219
                refine wl (ro_cmp rfl rfl rfl) ?_
                refine wl (ro_assign rfl) ?_
                refine wl_nil (x_then (hK19 _ _ ?_))
                clear hK19 K19
                refine wc_cond rfl (fun hc50 => ?_) (fun hc50 => ?_)
                · try simp only [decide_eq_true_eq, decide_eq_false_iff_not, Bool.not_eq_true', Bool.not_eq_false', Bool.not_eq_eq_eq_not, Bool.not_true, Bool.not_false, beq_iff_eq, bne_iff_ne, ne_eq, beq_eq_false_iff_ne, bne_eq_false_iff_eq, gt_iff_lt, ge_iff_le, Int.not_lt, Int.not_le] at hc50
                  refine c_skip (x_then (hK18 _ _ ?_))
                  clear hK18 K18
                  refine wc_cond rfl (fun hc50 => ?_) (fun hc50 => ?_)
                  · try simp only [decide_eq_true_eq, decide_eq_false_iff_not, Bool.not_eq_true', Bool.not_eq_false', Bool.not_eq_eq_eq_not, Bool.not_true, Bool.not_false, beq_iff_eq, bne_iff_ne, ne_eq, beq_eq_false_iff_ne, bne_eq_false_iff_eq, gt_iff_lt, ge_iff_le, Int.not_lt, Int.not_le] at hc50
                    refine c_seq (fun K20 hK20 => ?_)
                    refine c_reg ?_ -- region 15 api.go:220
                    refine wl (ro_fieldAddr (k := 1) rfl fo_119_1) ?_
                    refine wl (ro_loadB rfl sc_117 (by assumption) rfl) ?_
                    refine wl (ro_cmpU rfl rfl rfl) ?_
                    refine wl (ro_assign rfl) ?_
                    refine wl_nil (x_then (hK20 _ _ ?_))
                    clear hK20 K20
                    refine c_ret (x_blkR (x_thenR ?_))
                    refine bp_ret Tryz.results51 rfl ?_
                    refine ⟨congrArg Value.bool ?_, hF⟩
                    unfold wfV
                    repeat' split
                    all_goals try simp_all
                    all_goals omega
                  · try simp only [decide_eq_true_eq, decide_eq_false_iff_not, Bool.not_eq_true', Bool.not_eq_false', Bool.not_eq_eq_eq_not, Bool.not_true, Bool.not_false, beq_iff_eq, bne_iff_ne, ne_eq, beq_eq_false_iff_ne, bne_eq_false_iff_eq, gt_iff_lt, ge_iff_le, Int.not_lt, Int.not_le] at hc50
                    refine c_skip (x_blk (x_then (hK10 _ _ ?_)))
                    clear hK10 K10
                    refine forget [] trivial (fun e => ?_)
                    refine c_seq (fun K21 hK21 => ?_)
                    refine c_reg ?_ -- region 16 api.go:222
                    refine wl (ro_assign rfl) ?_
                    refine wl_nil (x_then (hK21 _ _ ?_))
                    clear hK21 K21
                    refine c_ret ?_
                    refine bp_ret Tryz.results51 rfl ?_
                    refine ⟨congrArg Value.bool ?_, hF⟩
                    unfold wfV
                    repeat' split
                    all_goals try simp_all
                    all_goals omega
                · try simp only [decide_eq_true_eq, decide_eq_false_iff_not, Bool.not_eq_true', Bool.not_eq_false', Bool.not_eq_eq_eq_not, Bool.not_true, Bool.not_false, beq_iff_eq, bne_iff_ne, ne_eq, beq_eq_false_iff_ne, bne_eq_false_iff_eq, gt_iff_lt, ge_iff_le, Int.not_lt, Int.not_le] at hc50
                  refine c_seq (fun K22 hK22 => ?_)
                  refine c_reg ?_ -- region 13 api.go:219
                  refine wl (ro_cmp rfl rfl rfl) ?_
                  refine wl (ro_assign rfl) ?_
                  refine wl_nil (x_then (hK22 _ _ ?_))
                  clear hK22 K22
                  refine wc_cond rfl (fun hc50 => ?_) (fun hc50 => ?_)
                  · try simp only [decide_eq_true_eq, decide_eq_false_iff_not, Bool.not_eq_true', Bool.not_eq_false', Bool.not_eq_eq_eq_not, Bool.not_true, Bool.not_false, beq_iff_eq, bne_iff_ne, ne_eq, beq_eq_false_iff_ne, bne_eq_false_iff_eq, gt_iff_lt, ge_iff_le, Int.not_lt, Int.not_le] at hc50
                    refine c_skip (x_then (hK18 _ _ ?_))
                    clear hK18 K18
                    refine wc_cond rfl (fun hc50 => ?_) (fun hc50 => ?_)
                    · try simp only [decide_eq_true_eq, decide_eq_false_iff_not, Bool.not_eq_true', Bool.not_eq_false', Bool.not_eq_eq_eq_not, Bool.not_true, Bool.not_false, beq_iff_eq, bne_iff_ne, ne_eq, beq_eq_false_iff_ne, bne_eq_false_iff_eq, gt_iff_lt, ge_iff_le, Int.not_lt, Int.not_le] at hc50
                      refine c_seq (fun K23 hK23 => ?_)
                      refine c_reg ?_ -- region 15 api.go:220
                      refine wl (ro_fieldAddr (k := 1) rfl fo_119_1) ?_
                      refine wl (ro_loadB rfl sc_117 (by assumption) rfl) ?_
                      refine wl (ro_cmpU rfl rfl rfl) ?_
                      refine wl (ro_assign rfl) ?_
                      refine wl_nil (x_then (hK23 _ _ ?_))
                      clear hK23 K23
                      refine c_ret (x_blkR (x_thenR ?_))
                      refine bp_ret Tryz.results51 rfl ?_
                      refine ⟨congrArg Value.bool ?_, hF⟩
                      unfold wfV
                      repeat' split
                      all_goals try simp_all
                      all_goals omega
                    · try simp only [decide_eq_true_eq, decide_eq_false_iff_not, Bool.not_eq_true', Bool.not_eq_false', Bool.not_eq_eq_eq_not, Bool.not_true, Bool.not_false, beq_iff_eq, bne_iff_ne, ne_eq, beq_eq_false_iff_ne, bne_eq_false_iff_eq, gt_iff_lt, ge_iff_le, Int.not_lt, Int.not_le] at hc50
                      refine c_skip (x_blk (x_then (hK10 _ _ ?_)))
                      clear hK10 K10
                      refine forget [] trivial (fun e => ?_)
                      refine c_seq (fun K24 hK24 => ?_)
                      refine c_reg ?_ -- region 16 api.go:222
                      refine wl (ro_assign rfl) ?_
                      refine wl_nil (x_then (hK24 _ _ ?_))
                      clear hK24 K24
                      refine c_ret ?_
                      refine bp_ret Tryz.results51 rfl ?_
                      refine ⟨congrArg Value.bool ?_, hF⟩
                      unfold wfV
                      repeat' split
                      all_goals try simp_all
                      all_goals omega
                  · try simp only [decide_eq_true_eq, decide_eq_false_iff_not, Bool.not_eq_true', Bool.not_eq_false', Bool.not_eq_eq_eq_not, Bool.not_true, Bool.not_false, beq_iff_eq, bne_iff_ne, ne_eq, beq_eq_false_iff_ne, bne_eq_false_iff_eq, gt_iff_lt, ge_iff_le, Int.not_lt, Int.not_le] at hc50
                    refine c_reg ?_ -- region 14 api.go:219
                    refine wl (ro_cmp rfl rfl rfl) ?_
                    refine wl (ro_assign rfl) ?_
                    refine wl_nil (x_then (hK18 _ _ ?_))
                    clear hK18 K18
                    refine wc_cond rfl (fun hc50 => ?_) (fun hc50 => ?_)
                    · try simp only [decide_eq_true_eq, decide_eq_false_iff_not, Bool.not_eq_true', Bool.not_eq_false', Bool.not_eq_eq_eq_not, Bool.not_true, Bool.not_false, beq_iff_eq, bne_iff_ne, ne_eq, beq_eq_false_iff_ne, bne_eq_false_iff_eq, gt_iff_lt, ge_iff_le, Int.not_lt, Int.not_le] at hc50
                      refine c_seq (fun K25 hK25 => ?_)
                      refine c_reg ?_ -- region 15 api.go:220
                      refine wl (ro_fieldAddr (k := 1) rfl fo_119_1) ?_
                      refine wl (ro_loadB rfl sc_117 (by assumption) rfl) ?_
                      refine wl (ro_cmpU rfl rfl rfl) ?_
                      refine wl (ro_assign rfl) ?_
                      refine wl_nil (x_then (hK25 _ _ ?_))
                      clear hK25 K25
                      refine c_ret (x_blkR (x_thenR ?_))
                      refine bp_ret Tryz.results51 rfl ?_
                      refine ⟨congrArg Value.bool ?_, hF⟩
                      unfold wfV
                      repeat' split
                      all_goals try simp_all
                      all_goals omega
                    · try simp only [decide_eq_true_eq, decide_eq_false_iff_not, Bool.not_eq_true', Bool.not_eq_false', Bool.not_eq_eq_eq_not, Bool.not_true, Bool.not_false, beq_iff_eq, bne_iff_ne, ne_eq, beq_eq_false_iff_ne, bne_eq_false_iff_eq, gt_iff_lt, ge_iff_le, Int.not_lt, Int.not_le] at hc50
                      refine c_skip (x_blk (x_then (hK10 _ _ ?_)))
                      clear hK10 K10
                      refine forget [] trivial (fun e => ?_)
                      refine c_seq (fun K26 hK26 => ?_)
                      refine c_reg ?_ -- region 16 api.go:222
                      refine wl (ro_assign rfl) ?_
                      refine wl_nil (x_then (hK26 _ _ ?_))
                      clear hK26 K26
                      refine c_ret ?_
                      refine bp_ret Tryz.results51 rfl ?_
                      refine ⟨congrArg Value.bool ?_, hF⟩
                      unfold wfV
                      repeat' split
                      all_goals try simp_all
                      all_goals omega
theorem Truthy62 {w : World} {v : PV} (hv : PVf v) : Ret Tryz.prog 62 [pv v] w (fun r w' => r = .bool (trV v) ∧ Fram none' w w') := by
  have hF : Fram none' w w := Fram.refl _ _
  refine ret_of Tryz.func62 rfl Tryz.ntmps62 rfl ?_
  refine c_seq (fun K1 hK1 => ?_)
  refine c_reg ?_ -- region 0 api.go:226
  refine wl_box rfl rfl (fun b1 w1 hbb1 h1 F1 => ?_)
  have hbsb1 := Nat.le_trans hF.size hbb1
  replace hF := hF.thenDrew.thenN F1
  refine wl (ro_assign rfl) ?_
  refine wl_nil (x_then (hK1 _ _ ?_))
  clear hK1 K1
  refine c_seq (fun K2 hK2 => ?_)
  refine c_seq (fun K3 hK3 => ?_)
  refine c_reg ?_ -- region 1 api.go:227
  refine wl (ro_fieldAddr (k := 0) rfl fo_119_0) ?_
  refine wl (ro_loadB rfl sc_3 (by assumption) rfl) ?_
  refine wl (ro_cmp rfl rfl rfl) ?_
  refine wl_nil (x_then (hK3 _ _ ?_))
  clear hK3 K3
  refine wc_cond rfl (fun hc5 => ?_) (fun hc5 => ?_)
  · try simp only [decide_eq_true_eq, decide_eq_false_iff_not, Bool.not_eq_true', Bool.not_eq_false', Bool.not_eq_eq_eq_not, Bool.not_true, Bool.not_false, beq_iff_eq, bne_iff_ne, ne_eq, beq_eq_false_iff_ne, bne_eq_false_iff_eq, gt_iff_lt, ge_iff_le, Int.not_lt, Int.not_le] at hc5
    refine c_seq (fun K4 hK4 => ?_)
    refine c_reg ?_ -- region 2 api.go:228
    refine wl (ro_assign rfl) ?_
    refine wl_nil (x_then (hK4 _ _ ?_))
    clear hK4 K4
    refine c_ret (x_thenR ?_)
    refine bp_ret Tryz.results62 rfl ?_
    refine ⟨congrArg Value.bool ?_, hF⟩
    unfold trV
    repeat' split
    all_goals try simp_all
    all_goals omega
  · try simp only [decide_eq_true_eq, decide_eq_false_iff_not, Bool.not_eq_true', Bool.not_eq_false', Bool.not_eq_eq_eq_not, Bool.not_true, Bool.not_false, beq_iff_eq, bne_iff_ne, ne_eq, beq_eq_false_iff_ne, bne_eq_false_iff_eq, gt_iff_lt, ge_iff_le, Int.not_lt, Int.not_le] at hc5
    refine c_skip (x_then (hK2 _ _ ?_))
    clear hK2 K2
    refine forget [(1, _)] ⟨rfl, trivial⟩ (fun e => ?_)
    refine c_seq (fun K5 hK5 => ?_)
    refine c_reg ?_ -- region 3 api.go:230
    refine wl (ro_fieldAddr (k := 0) rfl fo_119_0) ?_
    refine wl (ro_loadB rfl sc_3 (by assumption) rfl) ?_
    refine wl (ro_cmp rfl rfl rfl) ?_
    refine wl_fork rfl (fun hg9 => ?_) (fun hg9 => ?_)
    · try simp only [decide_eq_true_eq, decide_eq_false_iff_not, Bool.not_eq_true', Bool.not_eq_false', Bool.not_eq_eq_eq_not, Bool.not_true, Bool.not_false, beq_iff_eq, bne_iff_ne, ne_eq, beq_eq_false_iff_ne, bne_eq_false_iff_eq, gt_iff_lt, ge_iff_le, Int.not_lt, Int.not_le] at hg9
      refine wlg_no rfl ?_
      refine wlg_no rfl ?_
      refine wlg_no rfl ?_
      refine wl (ro_pick rfl rfl rfl) ?_
      refine wl (ro_assign rfl) ?_
      refine wl_nil (x_then (hK5 _ _ ?_))
      clear hK5 K5
      refine c_ret ?_
      refine bp_ret Tryz.results62 rfl ?_
      refine ⟨congrArg Value.bool ?_, hF⟩
      unfold trV
      repeat' split
      all_goals try simp_all
      all_goals omega
    · try simp only [decide_eq_true_eq, decide_eq_false_iff_not, Bool.not_eq_true', Bool.not_eq_false', Bool.not_eq_eq_eq_not, Bool.not_true, Bool.not_false, beq_iff_eq, bne_iff_ne, ne_eq, beq_eq_false_iff_ne, bne_eq_false_iff_eq, gt_iff_lt, ge_iff_le, Int.not_lt, Int.not_le] at hg9
      refine wlg_yes rfl (ro_fieldAddr (k := 1) rfl fo_119_1) ?_
      refine wlg_yes rfl (ro_loadB rfl sc_117 (by assumption) rfl) ?_
      refine wlg_yes rfl (ro_cmpU rfl rfl rfl) ?_
      refine wl (ro_pick rfl rfl rfl) ?_
      refine wl (ro_assign rfl) ?_
      refine wl_nil (x_then (hK5 _ _ ?_))
      clear hK5 K5
      refine c_ret ?_
      refine bp_ret Tryz.results62 rfl ?_
      refine ⟨congrArg Value.bool ?_, hF⟩
      unfold trV
      repeat' split
      all_goals try simp_all
      all_goals omega
theorem Bool91 {w : World} {b : Bool} : Ret Tryz.prog 91 [.bool b] w (fun r w' => r = pv (vBool b) ∧ Fram none' w w') := by
  have hF : Fram none' w w := Fram.refl _ _
  refine ret_of Tryz.func91 rfl Tryz.ntmps91 rfl ?_
  refine c_seq (fun K1 hK1 => ?_)
  refine c_reg ?_ -- region 0 api.go:194
  refine wl_new (ze_119) (fun b2 w1 hbb2 h2 F1 => ?_)
  have hbsb2 := Nat.le_trans hF.size hbb2
  replace hF := hF.thenDrew.thenN F1
  refine wl_nil (x_then (hK1 _ _ ?_))
  clear hK1 K1
  refine c_seq (fun K2 hK2 => ?_)
  refine c_seq (fun K3 hK3 => ?_)
  refine c_reg ?_ -- region 1 api.go:195
  refine wl (ro_move rfl) ?_
  refine wl_nil (x_then (hK3 _ _ ?_))
  clear hK3 K3
  refine wc_cond rfl (fun hc3 => ?_) (fun hc3 => ?_)
  · try simp only [decide_eq_true_eq, decide_eq_false_iff_not, Bool.not_eq_true', Bool.not_eq_false', Bool.not_eq_eq_eq_not, Bool.not_true, Bool.not_false, beq_iff_eq, bne_iff_ne, ne_eq, beq_eq_false_iff_ne, bne_eq_false_iff_eq, gt_iff_lt, ge_iff_le, Int.not_lt, Int.not_le] at hc3
    refine c_seq (fun K4 hK4 => ?_)
    refine c_reg ?_ -- region 2 api.go:196
    refine wl (ro_build rfl bld_119_0_1) ?_
    refine wl_puta rfl rfl ((by (try exact vlc_cells _); all_goals simp [Value.oneCell', i64c, icv, u64c, u8c, ptr, S])) sz_119 (rfl) h2 ((by simp)) (rfl) (fun w2 h2 F2 => ?_)
    replace hF := hF.thenDrew.thenO F2 (by first | exact .inr (by omega) | exact .inl rfl | exact .inl (by assumption) | assumption)
    refine wl_nil (x_then (hK4 _ _ ?_))
    clear hK4 K4
    refine c_ret (x_thenR ?_)
    refine bq_ret (res1 Tryz.results91 (rv_c rfl ag_119 (h2) (rfl))) ?_
    refine ⟨?_, hF⟩
    subst hc3
    rfl
  · try simp only [decide_eq_true_eq, decide_eq_false_iff_not, Bool.not_eq_true', Bool.not_eq_false', Bool.not_eq_eq_eq_not, Bool.not_true, Bool.not_false, beq_iff_eq, bne_iff_ne, ne_eq, beq_eq_false_iff_ne, bne_eq_false_iff_eq, gt_iff_lt, ge_iff_le, Int.not_lt, Int.not_le] at hc3
    refine c_skip (x_then (hK2 _ _ ?_))
    clear hK2 K2
    refine forget [(2, _)] ⟨rfl, trivial⟩ (fun e => ?_)
    refine c_seq (fun K5 hK5 => ?_)
    refine c_reg ?_ -- region 3 api.go:198
    refine wl (ro_build rfl bld_119_0) ?_
    refine wl_puta rfl rfl ((by (try exact vlc_cells _); all_goals simp [Value.oneCell', i64c, icv, u64c, u8c, ptr, S])) sz_119 (rfl) h2 ((by simp)) (rfl) (fun w3 h2 F3 => ?_)
    replace hF := hF.thenDrew.thenO F3 (by first | exact .inr (by omega) | exact .inl rfl | exact .inl (by assumption) | assumption)
    refine wl_nil (x_then (hK5 _ _ ?_))
    clear hK5 K5
    refine c_ret ?_
    refine bq_ret (res1 Tryz.results91 (rv_c rfl ag_119 (h2) (rfl))) ?_
    refine ⟨?_, hF⟩
    subst hc3
    rfl
theorem tyName_at {v : PV} {k : Nat} (h : v.T = k) : tyName v = tyName ⟨k, 0, []⟩ := by unfold tyName; rw [h]
theorem TypeName120 {w : World} {v : PV} : Ret Tryz.prog 120 [pv v] w (fun r w' => r = S (tyName v) ∧ Fram none' w w') := by
  have hF : Fram none' w w := Fram.refl _ _
  refine ret_of Tryz.func120 rfl Tryz.ntmps120 rfl ?_
  refine c_seq (fun K1 hK1 => ?_)
  refine c_reg ?_ -- region 0 api.go:234
  refine wl_box rfl rfl (fun b1 w1 hbb1 h1 F1 => ?_)
  have hbsb1 := Nat.le_trans hF.size hbb1
  replace hF := hF.thenDrew.thenN F1
  refine wl (ro_assign rfl) ?_
  refine wl_nil (x_then (hK1 _ _ ?_))
  clear hK1 K1
  refine c_seq (fun K2 hK2 => ?_)
  refine c_seq (fun K3 hK3 => ?_)
  refine c_reg ?_ -- region 1 api.go:235
  refine wl (ro_fieldAddr (k := 0) rfl fo_119_0) ?_
  refine wl (ro_loadB rfl sc_3 (by assumption) rfl) ?_
  refine wl_nil (x_then (hK3 _ _ ?_))
  clear hK3 K3
  refine c_block ?_
  refine forget [(4, _)] ⟨rfl, trivial⟩ (fun e => ?_)
  refine c_seq (fun K4 hK4 => ?_)
  refine c_reg ?_ -- region 2 api.go:236
  refine wl (ro_cmp rfl rfl rfl) ?_
  refine wl (ro_assign rfl) ?_
  refine wl_nil (x_then (hK4 _ _ ?_))
  clear hK4 K4
  refine wc_cond rfl (fun hc5 => ?_) (fun hc5 => ?_)
  · try simp only [decide_eq_true_eq, decide_eq_false_iff_not, Bool.not_eq_true', Bool.not_eq_false', Bool.not_eq_eq_eq_not, Bool.not_true, Bool.not_false, beq_iff_eq, bne_iff_ne, ne_eq, beq_eq_false_iff_ne, bne_eq_false_iff_eq, gt_iff_lt, ge_iff_le, Int.not_lt, Int.not_le] at hc5
    refine c_seq (fun K5 hK5 => ?_)
    refine c_reg ?_ -- region 3 api.go:237
    refine wl (ro_assign rfl) ?_
    refine wl_nil (x_then (hK5 _ _ ?_))
    clear hK5 K5
    refine c_ret (x_blkR (x_thenR ?_))
    refine bp_ret Tryz.results120 rfl ?_
    exact ⟨by rw [tyName_at (k := 0) (by omega)]; rfl, hF⟩
  · try simp only [decide_eq_true_eq, decide_eq_false_iff_not, Bool.not_eq_true', Bool.not_eq_false', Bool.not_eq_eq_eq_not, Bool.not_true, Bool.not_false, beq_iff_eq, bne_iff_ne, ne_eq, beq_eq_false_iff_ne, bne_eq_false_iff_eq, gt_iff_lt, ge_iff_le, Int.not_lt, Int.not_le] at hc5
    refine c_seq (fun K6 hK6 => ?_)
    refine c_reg ?_ -- region 4 api.go:238
    refine wl (ro_cmp rfl rfl rfl) ?_
    refine wl (ro_assign rfl) ?_
    refine wl_nil (x_then (hK6 _ _ ?_))
    clear hK6 K6
    refine wc_cond rfl (fun hc7 => ?_) (fun hc7 => ?_)
    · try simp only [decide_eq_true_eq, decide_eq_false_iff_not, Bool.not_eq_true', Bool.not_eq_false', Bool.not_eq_eq_eq_not, Bool.not_true, Bool.not_false, beq_iff_eq, bne_iff_ne, ne_eq, beq_eq_false_iff_ne, bne_eq_false_iff_eq, gt_iff_lt, ge_iff_le, Int.not_lt, Int.not_le] at hc7
      refine c_seq (fun K7 hK7 => ?_)
      refine c_reg ?_ -- region 5 api.go:239
      refine wl (ro_assign rfl) ?_
      refine wl_nil (x_then (hK7 _ _ ?_))
      clear hK7 K7
      refine c_ret (x_blkR (x_thenR ?_))
      refine bp_ret Tryz.results120 rfl ?_
      exact ⟨by rw [tyName_at (k := 1) (by omega)]; rfl, hF⟩
    · try simp only [decide_eq_true_eq, decide_eq_false_iff_not, Bool.not_eq_true', Bool.not_eq_false', Bool.not_eq_eq_eq_not, Bool.not_true, Bool.not_false, beq_iff_eq, bne_iff_ne, ne_eq, beq_eq_false_iff_ne, bne_eq_false_iff_eq, gt_iff_lt, ge_iff_le, Int.not_lt, Int.not_le] at hc7
      refine c_seq (fun K8 hK8 => ?_)
      refine c_reg ?_ -- region 6 api.go:240
      refine wl (ro_cmp rfl rfl rfl) ?_
      refine wl (ro_assign rfl) ?_
      refine wl_nil (x_then (hK8 _ _ ?_))
      clear hK8 K8
      refine wc_cond rfl (fun hc9 => ?_) (fun hc9 => ?_)
      · try simp only [decide_eq_true_eq, decide_eq_false_iff_not, Bool.not_eq_true', Bool.not_eq_false', Bool.not_eq_eq_eq_not, Bool.not_true, Bool.not_false, beq_iff_eq, bne_iff_ne, ne_eq, beq_eq_false_iff_ne, bne_eq_false_iff_eq, gt_iff_lt, ge_iff_le, Int.not_lt, Int.not_le] at hc9
        refine c_seq (fun K9 hK9 => ?_)
        refine c_reg ?_ -- region 7 api.go:241
        refine wl (ro_assign rfl) ?_
        refine wl_nil (x_then (hK9 _ _ ?_))
        clear hK9 K9
        refine c_ret (x_blkR (x_thenR ?_))
        refine bp_ret Tryz.results120 rfl ?_
        exact ⟨by rw [tyName_at (k := 2) (by omega)]; rfl, hF⟩
      · try simp only [decide_eq_true_eq, decide_eq_false_iff_not, Bool.not_eq_true', Bool.not_eq_false', Bool.not_eq_eq_eq_not, Bool.not_true, Bool.not_false, beq_iff_eq, bne_iff_ne, ne_eq, beq_eq_false_iff_ne, bne_eq_false_iff_eq, gt_iff_lt, ge_iff_le, Int.not_lt, Int.not_le] at hc9
        refine c_seq (fun K10 hK10 => ?_)
        refine c_reg ?_ -- region 8 api.go:242
        refine wl (ro_cmp rfl rfl rfl) ?_
        refine wl (ro_assign rfl) ?_
        refine wl_nil (x_then (hK10 _ _ ?_))
        clear hK10 K10
        refine wc_cond rfl (fun hc11 => ?_) (fun hc11 => ?_)
        · try simp only [decide_eq_true_eq, decide_eq_false_iff_not, Bool.not_eq_true', Bool.not_eq_false', Bool.not_eq_eq_eq_not, Bool.not_true, Bool.not_false, beq_iff_eq, bne_iff_ne, ne_eq, beq_eq_false_iff_ne, bne_eq_false_iff_eq, gt_iff_lt, ge_iff_le, Int.not_lt, Int.not_le] at hc11
          refine c_seq (fun K11 hK11 => ?_)
          refine c_reg ?_ -- region 9 api.go:243
          refine wl (ro_assign rfl) ?_
          refine wl_nil (x_then (hK11 _ _ ?_))
          clear hK11 K11
          refine c_ret (x_blkR (x_thenR ?_))
          refine bp_ret Tryz.results120 rfl ?_
          exact ⟨by rw [tyName_at (k := 3) (by omega)]; rfl, hF⟩
        · try simp only [decide_eq_true_eq, decide_eq_false_iff_not, Bool.not_eq_true', Bool.not_eq_false', Bool.not_eq_eq_eq_not, Bool.not_true, Bool.not_false, beq_iff_eq, bne_iff_ne, ne_eq, beq_eq_false_iff_ne, bne_eq_false_iff_eq, gt_iff_lt, ge_iff_le, Int.not_lt, Int.not_le] at hc11
          refine c_seq (fun K12 hK12 => ?_)
          refine c_reg ?_ -- region 10 api.go:244
          refine wl (ro_cmp rfl rfl rfl) ?_
          refine wl (ro_assign rfl) ?_
          refine wl_nil (x_then (hK12 _ _ ?_))
          clear hK12 K12
          refine wc_cond rfl (fun hc13 => ?_) (fun hc13 => ?_)
          · try simp only [decide_eq_true_eq, decide_eq_false_iff_not, Bool.not_eq_true', Bool.not_eq_false', Bool.not_eq_eq_eq_not, Bool.not_true, Bool.not_false, beq_iff_eq, bne_iff_ne, ne_eq, beq_eq_false_iff_ne, bne_eq_false_iff_eq, gt_iff_lt, ge_iff_le, Int.not_lt, Int.not_le] at hc13
            refine c_seq (fun K13 hK13 => ?_)
            refine c_reg ?_ -- region 11 api.go:245
            refine wl (ro_assign rfl) ?_
            refine wl_nil (x_then (hK13 _ _ ?_))
            clear hK13 K13
            refine c_ret (x_blkR (x_thenR ?_))
            refine bp_ret Tryz.results120 rfl ?_
            exact ⟨by rw [tyName_at (k := 4) (by omega)]; rfl, hF⟩
          · try simp only [decide_eq_true_eq, decide_eq_false_iff_not, Bool.not_eq_true', Bool.not_eq_false', Bool.not_eq_eq_eq_not, Bool.not_true, Bool.not_false, beq_iff_eq, bne_iff_ne, ne_eq, beq_eq_false_iff_ne, bne_eq_false_iff_eq, gt_iff_lt, ge_iff_le, Int.not_lt, Int.not_le] at hc13
            refine c_seq (fun K14 hK14 => ?_)
            refine c_reg ?_ -- region 12 api.go:246
            refine wl (ro_cmp rfl rfl rfl) ?_
            refine wl (ro_assign rfl) ?_
            refine wl_nil (x_then (hK14 _ _ ?_))
            clear hK14 K14
            refine wc_cond rfl (fun hc15 => ?_) (fun hc15 => ?_)
            · try simp only [decide_eq_true_eq, decide_eq_false_iff_not, Bool.not_eq_true', Bool.not_eq_false', Bool.not_eq_eq_eq_not, Bool.not_true, Bool.not_false, beq_iff_eq, bne_iff_ne, ne_eq, beq_eq_false_iff_ne, bne_eq_false_iff_eq, gt_iff_lt, ge_iff_le, Int.not_lt, Int.not_le] at hc15
              refine c_seq (fun K15 hK15 => ?_)
              refine c_reg ?_ -- region 13 api.go:247
              refine wl (ro_assign rfl) ?_
              refine wl_nil (x_then (hK15 _ _ ?_))
              clear hK15 K15
              refine c_ret (x_blkR (x_thenR ?_))
              refine bp_ret Tryz.results120 rfl ?_
              exact ⟨by rw [tyName_at (k := 7) (by omega)]; rfl, hF⟩
            · try simp only [decide_eq_true_eq, decide_eq_false_iff_not, Bool.not_eq_true', Bool.not_eq_false', Bool.not_eq_eq_eq_not, Bool.not_true, Bool.not_false, beq_iff_eq, bne_iff_ne, ne_eq, beq_eq_false_iff_ne, bne_eq_false_iff_eq, gt_iff_lt, ge_iff_le, Int.not_lt, Int.not_le] at hc15
              refine c_skip (x_blk (x_then (hK2 _ _ ?_)))
              clear hK2 K2
              refine forget [] trivial (fun e => ?_)
              refine c_seq (fun K16 hK16 => ?_)
              refine c_reg ?_ -- region 14 api.go:249
              refine wl (ro_assign rfl) ?_
              refine wl_nil (x_then (hK16 _ _ ?_))
              clear hK16 K16
              refine c_ret ?_
              refine bp_ret Tryz.results120 rfl ?_
              exact ⟨congrArg S (by unfold tyName; rw [if_neg (by omega), if_neg (by omega), if_neg (by omega), if_neg (by omega), if_neg (by omega), if_neg (by omega)]), hF⟩
theorem StatusName121 {w : World} {s : Nat} : Ret Tryz.prog 121 [i64c s] w (fun r w' => r = S (stName s) ∧ w' = w) := by
  refine ret_of Tryz.func121 rfl Tryz.ntmps121 rfl ?_
  refine c_seq (fun K1 hK1 => ?_)
  refine c_reg ?_ -- region 0 api.go:164
  refine wl (ro_assign rfl) ?_
  refine wl_nil (x_then (hK1 _ _ ?_))
  clear hK1 K1
  refine c_seq (fun K2 hK2 => ?_)
  refine c_seq (fun K3 hK3 => ?_)
  refine c_reg ?_ -- region 1 api.go:165
  refine wl (ro_move rfl) ?_
  refine wl_nil (x_then (hK3 _ _ ?_))
  clear hK3 K3
  refine c_block ?_
  refine c_seq (fun K4 hK4 => ?_)
  refine c_seq (fun K5 hK5 => ?_)
  refine c_reg ?_ -- region 2 api.go:166
  refine wl (ro_cmp rfl rfl rfl) ?_
  refine wl (ro_assign rfl) ?_
  refine wl_nil (x_then (hK5 _ _ ?_))
  clear hK5 K5
  refine wc_cond rfl (fun hc4 => ?_) (fun hc4 => ?_)
  · try simp only [decide_eq_true_eq, decide_eq_false_iff_not, Bool.not_eq_true', Bool.not_eq_false', Bool.not_eq_eq_eq_not, Bool.not_true, Bool.not_false, beq_iff_eq, bne_iff_ne, ne_eq, beq_eq_false_iff_ne, bne_eq_false_iff_eq, gt_iff_lt, ge_iff_le, Int.not_lt, Int.not_le] at hc4
    refine c_skip (x_then (hK4 _ _ ?_))
    clear hK4 K4
    refine wc_cond rfl (fun hc4 => ?_) (fun hc4 => ?_)
    · try simp only [decide_eq_true_eq, decide_eq_false_iff_not, Bool.not_eq_true', Bool.not_eq_false', Bool.not_eq_eq_eq_not, Bool.not_true, Bool.not_false, beq_iff_eq, bne_iff_ne, ne_eq, beq_eq_false_iff_ne, bne_eq_false_iff_eq, gt_iff_lt, ge_iff_le, Int.not_lt, Int.not_le] at hc4
      refine c_seq (fun K6 hK6 => ?_)
      refine c_reg ?_ -- region 4 api.go:167
      refine wl (ro_assign rfl) ?_
      refine wl_nil (x_then (hK6 _ _ ?_))
      clear hK6 K6
      refine c_ret (x_blkR (x_thenR ?_))
      refine bp_ret Tryz.results121 rfl ?_
      refine ⟨congrArg S ?_, rfl⟩
      unfold stName
      repeat' split
      all_goals first | rfl | omega
    · try simp only [decide_eq_true_eq, decide_eq_false_iff_not, Bool.not_eq_true', Bool.not_eq_false', Bool.not_eq_eq_eq_not, Bool.not_true, Bool.not_false, beq_iff_eq, bne_iff_ne, ne_eq, beq_eq_false_iff_ne, bne_eq_false_iff_eq, gt_iff_lt, ge_iff_le, Int.not_lt, Int.not_le] at hc4
      refine c_seq (fun K7 hK7 => ?_)
      refine c_reg ?_ -- region 5 api.go:168
      refine wl (ro_cmp rfl rfl rfl) ?_
      refine wl (ro_assign rfl) ?_
      refine wl_nil (x_then (hK7 _ _ ?_))
      clear hK7 K7
      refine wc_cond rfl (fun hc7 => ?_) (fun hc7 => ?_)
      · try simp only [decide_eq_true_eq, decide_eq_false_iff_not, Bool.not_eq_true', Bool.not_eq_false', Bool.not_eq_eq_eq_not, Bool.not_true, Bool.not_false, beq_iff_eq, bne_iff_ne, ne_eq, beq_eq_false_iff_ne, bne_eq_false_iff_eq, gt_iff_lt, ge_iff_le, Int.not_lt, Int.not_le] at hc7
        refine c_seq (fun K8 hK8 => ?_)
        refine c_reg ?_ -- region 6 api.go:169
        refine wl (ro_assign rfl) ?_
        refine wl_nil (x_then (hK8 _ _ ?_))
        clear hK8 K8
        refine c_ret (x_blkR (x_thenR ?_))
        refine bp_ret Tryz.results121 rfl ?_
        refine ⟨congrArg S ?_, rfl⟩
        unfold stName
        repeat' split
        all_goals first | rfl | omega
      · try simp only [decide_eq_true_eq, decide_eq_false_iff_not, Bool.not_eq_true', Bool.not_eq_false', Bool.not_eq_eq_eq_not, Bool.not_true, Bool.not_false, beq_iff_eq, bne_iff_ne, ne_eq, beq_eq_false_iff_ne, bne_eq_false_iff_eq, gt_iff_lt, ge_iff_le, Int.not_lt, Int.not_le] at hc7
        refine c_seq (fun K9 hK9 => ?_)
        refine c_reg ?_ -- region 7 api.go:170
        refine wl (ro_cmp rfl rfl rfl) ?_
        refine wl (ro_assign rfl) ?_
        refine wl_nil (x_then (hK9 _ _ ?_))
        clear hK9 K9
        refine wc_cond rfl (fun hc9 => ?_) (fun hc9 => ?_)
        · try simp only [decide_eq_true_eq, decide_eq_false_iff_not, Bool.not_eq_true', Bool.not_eq_false', Bool.not_eq_eq_eq_not, Bool.not_true, Bool.not_false, beq_iff_eq, bne_iff_ne, ne_eq, beq_eq_false_iff_ne, bne_eq_false_iff_eq, gt_iff_lt, ge_iff_le, Int.not_lt, Int.not_le] at hc9
          refine c_seq (fun K10 hK10 => ?_)
          refine c_reg ?_ -- region 8 api.go:171
          refine wl (ro_assign rfl) ?_
          refine wl_nil (x_then (hK10 _ _ ?_))
          clear hK10 K10
          refine c_ret (x_blkR (x_thenR ?_))
          refine bp_ret Tryz.results121 rfl ?_
          refine ⟨congrArg S ?_, rfl⟩
          unfold stName
          repeat' split
          all_goals first | rfl | omega
        · try simp only [decide_eq_true_eq, decide_eq_false_iff_not, Bool.not_eq_true', Bool.not_eq_false', Bool.not_eq_eq_eq_not, Bool.not_true, Bool.not_false, beq_iff_eq, bne_iff_ne, ne_eq, beq_eq_false_iff_ne, bne_eq_false_iff_eq, gt_iff_lt, ge_iff_le, Int.not_lt, Int.not_le] at hc9
          refine c_skip (x_blk (x_then (hK2 _ _ ?_)))
          clear hK2 K2
          refine forget [] trivial (fun e => ?_)
          refine c_seq (fun K11 hK11 => ?_)
          refine c_reg ?_ -- region 9 api.go:173
          refine wl (ro_assign rfl) ?_
          refine wl_nil (x_then (hK11 _ _ ?_))
          clear hK11 K11
          refine c_ret ?_
          refine bp_ret Tryz.results121 rfl ?_
          refine ⟨congrArg S ?_, rfl⟩
          unfold stName
          repeat' split
          all_goals first | rfl | omega
  · try simp only [decide_eq_true_eq, decide_eq_false_iff_not, Bool.not_eq_true', Bool.not_eq_false', Bool.not_eq_eq_eq_not, Bool.not_true, Bool.not_false, beq_iff_eq, bne_iff_ne, ne_eq, beq_eq_false_iff_ne, bne_eq_false_iff_eq, gt_iff_lt, ge_iff_le, Int.not_lt, Int.not_le] at hc4
    refine c_reg ?_ -- region 3 api.go:166
    refine wl (ro_cmp rfl rfl rfl) ?_
    refine wl (ro_assign rfl) ?_
    refine wl_nil (x_then (hK4 _ _ ?_))
    clear hK4 K4
    refine wc_cond rfl (fun hc4 => ?_) (fun hc4 => ?_)
    · try simp only [decide_eq_true_eq, decide_eq_false_iff_not, Bool.not_eq_true', Bool.not_eq_false', Bool.not_eq_eq_eq_not, Bool.not_true, Bool.not_false, beq_iff_eq, bne_iff_ne, ne_eq, beq_eq_false_iff_ne, bne_eq_false_iff_eq, gt_iff_lt, ge_iff_le, Int.not_lt, Int.not_le] at hc4
      refine c_seq (fun K12 hK12 => ?_)
      refine c_reg ?_ -- region 4 api.go:167
      refine wl (ro_assign rfl) ?_
      refine wl_nil (x_then (hK12 _ _ ?_))
      clear hK12 K12
      refine c_ret (x_blkR (x_thenR ?_))
      refine bp_ret Tryz.results121 rfl ?_
      refine ⟨congrArg S ?_, rfl⟩
      unfold stName
      repeat' split
      all_goals first | rfl | omega
    · try simp only [decide_eq_true_eq, decide_eq_false_iff_not, Bool.not_eq_true', Bool.not_eq_false', Bool.not_eq_eq_eq_not, Bool.not_true, Bool.not_false, beq_iff_eq, bne_iff_ne, ne_eq, beq_eq_false_iff_ne, bne_eq_false_iff_eq, gt_iff_lt, ge_iff_le, Int.not_lt, Int.not_le] at hc4
      refine c_seq (fun K13 hK13 => ?_)
      refine c_reg ?_ -- region 5 api.go:168
      refine wl (ro_cmp rfl rfl rfl) ?_
      refine wl (ro_assign rfl) ?_
      refine wl_nil (x_then (hK13 _ _ ?_))
      clear hK13 K13
      refine wc_cond rfl (fun hc7 => ?_) (fun hc7 => ?_)
      · try simp only [decide_eq_true_eq, decide_eq_false_iff_not, Bool.not_eq_true', Bool.not_eq_false', Bool.not_eq_eq_eq_not, Bool.not_true, Bool.not_false, beq_iff_eq, bne_iff_ne, ne_eq, beq_eq_false_iff_ne, bne_eq_false_iff_eq, gt_iff_lt, ge_iff_le, Int.not_lt, Int.not_le] at hc7
        refine c_seq (fun K14 hK14 => ?_)
        refine c_reg ?_ -- region 6 api.go:169
        refine wl (ro_assign rfl) ?_
        refine wl_nil (x_then (hK14 _ _ ?_))
        clear hK14 K14
        refine c_ret (x_blkR (x_thenR ?_))
        refine bp_ret Tryz.results121 rfl ?_
        refine ⟨congrArg S ?_, rfl⟩
        unfold stName
        repeat' split
        all_goals first | rfl | omega
      · try simp only [decide_eq_true_eq, decide_eq_false_iff_not, Bool.not_eq_true', Bool.not_eq_false', Bool.not_eq_eq_eq_not, Bool.not_true, Bool.not_false, beq_iff_eq, bne_iff_ne, ne_eq, beq_eq_false_iff_ne, bne_eq_false_iff_eq, gt_iff_lt, ge_iff_le, Int.not_lt, Int.not_le] at hc7
        refine c_seq (fun K15 hK15 => ?_)
        refine c_reg ?_ -- region 7 api.go:170
        refine wl (ro_cmp rfl rfl rfl) ?_
        refine wl (ro_assign rfl) ?_
        refine wl_nil (x_then (hK15 _ _ ?_))
        clear hK15 K15
        refine wc_cond rfl (fun hc9 => ?_) (fun hc9 => ?_)
        · try simp only [decide_eq_true_eq, decide_eq_false_iff_not, Bool.not_eq_true', Bool.not_eq_false', Bool.not_eq_eq_eq_not, Bool.not_true, Bool.not_false, beq_iff_eq, bne_iff_ne, ne_eq, beq_eq_false_iff_ne, bne_eq_false_iff_eq, gt_iff_lt, ge_iff_le, Int.not_lt, Int.not_le] at hc9
          refine c_seq (fun K16 hK16 => ?_)
          refine c_reg ?_ -- region 8 api.go:171
          refine wl (ro_assign rfl) ?_
          refine wl_nil (x_then (hK16 _ _ ?_))
          clear hK16 K16
          refine c_ret (x_blkR (x_thenR ?_))
          refine bp_ret Tryz.results121 rfl ?_
          refine ⟨congrArg S ?_, rfl⟩
          unfold stName
          repeat' split
          all_goals first | rfl | omega
        · try simp only [decide_eq_true_eq, decide_eq_false_iff_not, Bool.not_eq_true', Bool.not_eq_false', Bool.not_eq_eq_eq_not, Bool.not_true, Bool.not_false, beq_iff_eq, bne_iff_ne, ne_eq, beq_eq_false_iff_ne, bne_eq_false_iff_eq, gt_iff_lt, ge_iff_le, Int.not_lt, Int.not_le] at hc9
          refine c_skip (x_blk (x_then (hK2 _ _ ?_)))
          clear hK2 K2
          refine forget [] trivial (fun e => ?_)
          refine c_seq (fun K17 hK17 => ?_)
          refine c_reg ?_ -- region 9 api.go:173
          refine wl (ro_assign rfl) ?_
          refine wl_nil (x_then (hK17 _ _ ?_))
          clear hK17 K17
          refine c_ret ?_
          refine bp_ret Tryz.results121 rfl ?_
          refine ⟨congrArg S ?_, rfl⟩
          unfold stName
          repeat' split
          all_goals first | rfl | omega
theorem BuiltinName30 {w : World} {s : Nat} : Ret Tryz.prog 30 [i64c s] w (fun r w' => r = S (biName s) ∧ w' = w) := by
  refine ret_of Tryz.func30 rfl Tryz.ntmps30 rfl ?_
  refine c_seq (fun K1 hK1 => ?_)
  refine c_reg ?_ -- region 0 api.go:126
  refine wl (ro_assign rfl) ?_
  refine wl_nil (x_then (hK1 _ _ ?_))
  clear hK1 K1
  refine c_seq (fun K2 hK2 => ?_)
  refine c_seq (fun K3 hK3 => ?_)
  refine c_reg ?_ -- region 1 api.go:127
  refine wl (ro_move rfl) ?_
  refine wl_nil (x_then (hK3 _ _ ?_))
  clear hK3 K3
  refine c_block ?_
  refine forget [(3, _)] ⟨rfl, trivial⟩ (fun e => ?_)
  refine c_seq (fun K4 hK4 => ?_)
  refine c_reg ?_ -- region 2 api.go:128
  refine wl (ro_cmp rfl rfl rfl) ?_
  refine wl (ro_assign rfl) ?_
  refine wl_nil (x_then (hK4 _ _ ?_))
  clear hK4 K4
  refine wc_cond rfl (fun hc4 => ?_) (fun hc4 => ?_)
  · try simp only [decide_eq_true_eq, decide_eq_false_iff_not, Bool.not_eq_true', Bool.not_eq_false', Bool.not_eq_eq_eq_not, Bool.not_true, Bool.not_false, beq_iff_eq, bne_iff_ne, ne_eq, beq_eq_false_iff_ne, bne_eq_false_iff_eq, gt_iff_lt, ge_iff_le, Int.not_lt, Int.not_le] at hc4
    refine c_seq (fun K5 hK5 => ?_)
    refine c_reg ?_ -- region 3 api.go:129
    refine wl (ro_assign rfl) ?_
    refine wl_nil (x_then (hK5 _ _ ?_))
    clear hK5 K5
    refine c_ret (x_blkR (x_thenR ?_))
    refine bp_ret Tryz.results30 rfl ?_
    exact ⟨by rw [show s = 1 by omega]; rfl, rfl⟩
  · try simp only [decide_eq_true_eq, decide_eq_false_iff_not, Bool.not_eq_true', Bool.not_eq_false', Bool.not_eq_eq_eq_not, Bool.not_true, Bool.not_false, beq_iff_eq, bne_iff_ne, ne_eq, beq_eq_false_iff_ne, bne_eq_false_iff_eq, gt_iff_lt, ge_iff_le, Int.not_lt, Int.not_le] at hc4
    refine c_seq (fun K6 hK6 => ?_)
    refine c_reg ?_ -- region 4 api.go:130
    refine wl (ro_cmp rfl rfl rfl) ?_
    refine wl (ro_assign rfl) ?_
    refine wl_nil (x_then (hK6 _ _ ?_))
    clear hK6 K6
    refine wc_cond rfl (fun hc6 => ?_) (fun hc6 => ?_)
    · try simp only [decide_eq_true_eq, decide_eq_false_iff_not, Bool.not_eq_true', Bool.not_eq_false', Bool.not_eq_eq_eq_not, Bool.not_true, Bool.not_false, beq_iff_eq, bne_iff_ne, ne_eq, beq_eq_false_iff_ne, bne_eq_false_iff_eq, gt_iff_lt, ge_iff_le, Int.not_lt, Int.not_le] at hc6
      refine c_seq (fun K7 hK7 => ?_)
      refine c_reg ?_ -- region 5 api.go:131
      refine wl (ro_assign rfl) ?_
      refine wl_nil (x_then (hK7 _ _ ?_))
      clear hK7 K7
      refine c_ret (x_blkR (x_thenR ?_))
      refine bp_ret Tryz.results30 rfl ?_
      exact ⟨by rw [show s = 2 by omega]; rfl, rfl⟩
    · try simp only [decide_eq_true_eq, decide_eq_false_iff_not, Bool.not_eq_true', Bool.not_eq_false', Bool.not_eq_eq_eq_not, Bool.not_true, Bool.not_false, beq_iff_eq, bne_iff_ne, ne_eq, beq_eq_false_iff_ne, bne_eq_false_iff_eq, gt_iff_lt, ge_iff_le, Int.not_lt, Int.not_le] at hc6
      refine c_seq (fun K8 hK8 => ?_)
      refine c_reg ?_ -- region 6 api.go:132
      refine wl (ro_cmp rfl rfl rfl) ?_
      refine wl (ro_assign rfl) ?_
      refine wl_nil (x_then (hK8 _ _ ?_))
      clear hK8 K8
      refine wc_cond rfl (fun hc8 => ?_) (fun hc8 => ?_)
      · try simp only [decide_eq_true_eq, decide_eq_false_iff_not, Bool.not_eq_true', Bool.not_eq_false', Bool.not_eq_eq_eq_not, Bool.not_true, Bool.not_false, beq_iff_eq, bne_iff_ne, ne_eq, beq_eq_false_iff_ne, bne_eq_false_iff_eq, gt_iff_lt, ge_iff_le, Int.not_lt, Int.not_le] at hc8
        refine c_seq (fun K9 hK9 => ?_)
        refine c_reg ?_ -- region 7 api.go:133
        refine wl (ro_assign rfl) ?_
        refine wl_nil (x_then (hK9 _ _ ?_))
        clear hK9 K9
        refine c_ret (x_blkR (x_thenR ?_))
        refine bp_ret Tryz.results30 rfl ?_
        exact ⟨by rw [show s = 3 by omega]; rfl, rfl⟩
      · try simp only [decide_eq_true_eq, decide_eq_false_iff_not, Bool.not_eq_true', Bool.not_eq_false', Bool.not_eq_eq_eq_not, Bool.not_true, Bool.not_false, beq_iff_eq, bne_iff_ne, ne_eq, beq_eq_false_iff_ne, bne_eq_false_iff_eq, gt_iff_lt, ge_iff_le, Int.not_lt, Int.not_le] at hc8
        refine c_seq (fun K10 hK10 => ?_)
        refine c_reg ?_ -- region 8 api.go:134
        refine wl (ro_cmp rfl rfl rfl) ?_
        refine wl (ro_assign rfl) ?_
        refine wl_nil (x_then (hK10 _ _ ?_))
        clear hK10 K10
        refine wc_cond rfl (fun hc10 => ?_) (fun hc10 => ?_)
        · try simp only [decide_eq_true_eq, decide_eq_false_iff_not, Bool.not_eq_true', Bool.not_eq_false', Bool.not_eq_eq_eq_not, Bool.not_true, Bool.not_false, beq_iff_eq, bne_iff_ne, ne_eq, beq_eq_false_iff_ne, bne_eq_false_iff_eq, gt_iff_lt, ge_iff_le, Int.not_lt, Int.not_le] at hc10
          refine c_seq (fun K11 hK11 => ?_)
          refine c_reg ?_ -- region 9 api.go:135
          refine wl (ro_assign rfl) ?_
          refine wl_nil (x_then (hK11 _ _ ?_))
          clear hK11 K11
          refine c_ret (x_blkR (x_thenR ?_))
          refine bp_ret Tryz.results30 rfl ?_
          exact ⟨by rw [show s = 4 by omega]; rfl, rfl⟩
        · try simp only [decide_eq_true_eq, decide_eq_false_iff_not, Bool.not_eq_true', Bool.not_eq_false', Bool.not_eq_eq_eq_not, Bool.not_true, Bool.not_false, beq_iff_eq, bne_iff_ne, ne_eq, beq_eq_false_iff_ne, bne_eq_false_iff_eq, gt_iff_lt, ge_iff_le, Int.not_lt, Int.not_le] at hc10
          refine c_seq (fun K12 hK12 => ?_)
          refine c_reg ?_ -- region 10 api.go:136
          refine wl (ro_cmp rfl rfl rfl) ?_
          refine wl (ro_assign rfl) ?_
          refine wl_nil (x_then (hK12 _ _ ?_))
          clear hK12 K12
          refine wc_cond rfl (fun hc12 => ?_) (fun hc12 => ?_)
          · try simp only [decide_eq_true_eq, decide_eq_false_iff_not, Bool.not_eq_true', Bool.not_eq_false', Bool.not_eq_eq_eq_not, Bool.not_true, Bool.not_false, beq_iff_eq, bne_iff_ne, ne_eq, beq_eq_false_iff_ne, bne_eq_false_iff_eq, gt_iff_lt, ge_iff_le, Int.not_lt, Int.not_le] at hc12
            refine c_seq (fun K13 hK13 => ?_)
            refine c_reg ?_ -- region 11 api.go:137
            refine wl (ro_assign rfl) ?_
            refine wl_nil (x_then (hK13 _ _ ?_))
            clear hK13 K13
            refine c_ret (x_blkR (x_thenR ?_))
            refine bp_ret Tryz.results30 rfl ?_
            exact ⟨by rw [show s = 5 by omega]; rfl, rfl⟩
          · try simp only [decide_eq_true_eq, decide_eq_false_iff_not, Bool.not_eq_true', Bool.not_eq_false', Bool.not_eq_eq_eq_not, Bool.not_true, Bool.not_false, beq_iff_eq, bne_iff_ne, ne_eq, beq_eq_false_iff_ne, bne_eq_false_iff_eq, gt_iff_lt, ge_iff_le, Int.not_lt, Int.not_le] at hc12
            refine c_seq (fun K14 hK14 => ?_)
            refine c_reg ?_ -- region 12 api.go:138
            refine wl (ro_cmp rfl rfl rfl) ?_
            refine wl (ro_assign rfl) ?_
            refine wl_nil (x_then (hK14 _ _ ?_))
            clear hK14 K14
            refine wc_cond rfl (fun hc14 => ?_) (fun hc14 => ?_)
            · try simp only [decide_eq_true_eq, decide_eq_false_iff_not, Bool.not_eq_true', Bool.not_eq_false', Bool.not_eq_eq_eq_not, Bool.not_true, Bool.not_false, beq_iff_eq, bne_iff_ne, ne_eq, beq_eq_false_iff_ne, bne_eq_false_iff_eq, gt_iff_lt, ge_iff_le, Int.not_lt, Int.not_le] at hc14
              refine c_seq (fun K15 hK15 => ?_)
              refine c_reg ?_ -- region 13 api.go:139
              refine wl (ro_assign rfl) ?_
              refine wl_nil (x_then (hK15 _ _ ?_))
              clear hK15 K15
              refine c_ret (x_blkR (x_thenR ?_))
              refine bp_ret Tryz.results30 rfl ?_
              exact ⟨by rw [show s = 6 by omega]; rfl, rfl⟩
            · try simp only [decide_eq_true_eq, decide_eq_false_iff_not, Bool.not_eq_true', Bool.not_eq_false', Bool.not_eq_eq_eq_not, Bool.not_true, Bool.not_false, beq_iff_eq, bne_iff_ne, ne_eq, beq_eq_false_iff_ne, bne_eq_false_iff_eq, gt_iff_lt, ge_iff_le, Int.not_lt, Int.not_le] at hc14
              refine c_seq (fun K16 hK16 => ?_)
              refine c_reg ?_ -- region 14 api.go:140
              refine wl (ro_cmp rfl rfl rfl) ?_
              refine wl (ro_assign rfl) ?_
              refine wl_nil (x_then (hK16 _ _ ?_))
              clear hK16 K16
              refine wc_cond rfl (fun hc16 => ?_) (fun hc16 => ?_)
              · try simp only [decide_eq_true_eq, decide_eq_false_iff_not, Bool.not_eq_true', Bool.not_eq_false', Bool.not_eq_eq_eq_not, Bool.not_true, Bool.not_false, beq_iff_eq, bne_iff_ne, ne_eq, beq_eq_false_iff_ne, bne_eq_false_iff_eq, gt_iff_lt, ge_iff_le, Int.not_lt, Int.not_le] at hc16
                refine c_seq (fun K17 hK17 => ?_)
                refine c_reg ?_ -- region 15 api.go:141
                refine wl (ro_assign rfl) ?_
                refine wl_nil (x_then (hK17 _ _ ?_))
                clear hK17 K17
                refine c_ret (x_blkR (x_thenR ?_))
                refine bp_ret Tryz.results30 rfl ?_
                exact ⟨by rw [show s = 7 by omega]; rfl, rfl⟩
              · try simp only [decide_eq_true_eq, decide_eq_false_iff_not, Bool.not_eq_true', Bool.not_eq_false', Bool.not_eq_eq_eq_not, Bool.not_true, Bool.not_false, beq_iff_eq, bne_iff_ne, ne_eq, beq_eq_false_iff_ne, bne_eq_false_iff_eq, gt_iff_lt, ge_iff_le, Int.not_lt, Int.not_le] at hc16
                refine c_seq (fun K18 hK18 => ?_)
                refine c_reg ?_ -- region 16 api.go:142
                refine wl (ro_cmp rfl rfl rfl) ?_
                refine wl (ro_assign rfl) ?_
                refine wl_nil (x_then (hK18 _ _ ?_))
                clear hK18 K18
                refine wc_cond rfl (fun hc18 => ?_) (fun hc18 => ?_)
                · try simp only [decide_eq_true_eq, decide_eq_false_iff_not, Bool.not_eq_true', Bool.not_eq_false', Bool.not_eq_eq_eq_not, Bool.not_true, Bool.not_false, beq_iff_eq, bne_iff_ne, ne_eq, beq_eq_false_iff_ne, bne_eq_false_iff_eq, gt_iff_lt, ge_iff_le, Int.not_lt, Int.not_le] at hc18
                  refine c_seq (fun K19 hK19 => ?_)
                  refine c_reg ?_ -- region 17 api.go:143
                  refine wl (ro_assign rfl) ?_
                  refine wl_nil (x_then (hK19 _ _ ?_))
                  clear hK19 K19
                  refine c_ret (x_blkR (x_thenR ?_))
                  refine bp_ret Tryz.results30 rfl ?_
                  exact ⟨by rw [show s = 8 by omega]; rfl, rfl⟩
                · try simp only [decide_eq_true_eq, decide_eq_false_iff_not, Bool.not_eq_true', Bool.not_eq_false', Bool.not_eq_eq_eq_not, Bool.not_true, Bool.not_false, beq_iff_eq, bne_iff_ne, ne_eq, beq_eq_false_iff_ne, bne_eq_false_iff_eq, gt_iff_lt, ge_iff_le, Int.not_lt, Int.not_le] at hc18
                  refine c_seq (fun K20 hK20 => ?_)
                  refine c_reg ?_ -- region 18 api.go:144
                  refine wl (ro_cmp rfl rfl rfl) ?_
                  refine wl (ro_assign rfl) ?_
                  refine wl_nil (x_then (hK20 _ _ ?_))
                  clear hK20 K20
                  refine wc_cond rfl (fun hc20 => ?_) (fun hc20 => ?_)
                  · try simp only [decide_eq_true_eq, decide_eq_false_iff_not, Bool.not_eq_true', Bool.not_eq_false', Bool.not_eq_eq_eq_not, Bool.not_true, Bool.not_false, beq_iff_eq, bne_iff_ne, ne_eq, beq_eq_false_iff_ne, bne_eq_false_iff_eq, gt_iff_lt, ge_iff_le, Int.not_lt, Int.not_le] at hc20
                    refine c_seq (fun K21 hK21 => ?_)
                    refine c_reg ?_ -- region 19 api.go:145
                    refine wl (ro_assign rfl) ?_
                    refine wl_nil (x_then (hK21 _ _ ?_))
                    clear hK21 K21
                    refine c_ret (x_blkR (x_thenR ?_))
                    refine bp_ret Tryz.results30 rfl ?_
                    exact ⟨by rw [show s = 9 by omega]; rfl, rfl⟩
                  · try simp only [decide_eq_true_eq, decide_eq_false_iff_not, Bool.not_eq_true', Bool.not_eq_false', Bool.not_eq_eq_eq_not, Bool.not_true, Bool.not_false, beq_iff_eq, bne_iff_ne, ne_eq, beq_eq_false_iff_ne, bne_eq_false_iff_eq, gt_iff_lt, ge_iff_le, Int.not_lt, Int.not_le] at hc20
                    refine c_seq (fun K22 hK22 => ?_)
                    refine c_reg ?_ -- region 20 api.go:146
                    refine wl (ro_cmp rfl rfl rfl) ?_
                    refine wl (ro_assign rfl) ?_
                    refine wl_nil (x_then (hK22 _ _ ?_))
                    clear hK22 K22
                    refine wc_cond rfl (fun hc22 => ?_) (fun hc22 => ?_)
                    · try simp only [decide_eq_true_eq, decide_eq_false_iff_not, Bool.not_eq_true', Bool.not_eq_false', Bool.not_eq_eq_eq_not, Bool.not_true, Bool.not_false, beq_iff_eq, bne_iff_ne, ne_eq, beq_eq_false_iff_ne, bne_eq_false_iff_eq, gt_iff_lt, ge_iff_le, Int.not_lt, Int.not_le] at hc22
                      refine c_seq (fun K23 hK23 => ?_)
                      refine c_reg ?_ -- region 21 api.go:147
                      refine wl (ro_assign rfl) ?_
                      refine wl_nil (x_then (hK23 _ _ ?_))
                      clear hK23 K23
                      refine c_ret (x_blkR (x_thenR ?_))
                      refine bp_ret Tryz.results30 rfl ?_
                      exact ⟨by rw [show s = 10 by omega]; rfl, rfl⟩
                    · try simp only [decide_eq_true_eq, decide_eq_false_iff_not, Bool.not_eq_true', Bool.not_eq_false', Bool.not_eq_eq_eq_not, Bool.not_true, Bool.not_false, beq_iff_eq, bne_iff_ne, ne_eq, beq_eq_false_iff_ne, bne_eq_false_iff_eq, gt_iff_lt, ge_iff_le, Int.not_lt, Int.not_le] at hc22
                      refine c_seq (fun K24 hK24 => ?_)
                      refine c_reg ?_ -- region 22 api.go:148
                      refine wl (ro_cmp rfl rfl rfl) ?_
                      refine wl (ro_assign rfl) ?_
                      refine wl_nil (x_then (hK24 _ _ ?_))
                      clear hK24 K24
                      refine wc_cond rfl (fun hc24 => ?_) (fun hc24 => ?_)
                      · try simp only [decide_eq_true_eq, decide_eq_false_iff_not, Bool.not_eq_true', Bool.not_eq_false', Bool.not_eq_eq_eq_not, Bool.not_true, Bool.not_false, beq_iff_eq, bne_iff_ne, ne_eq, beq_eq_false_iff_ne, bne_eq_false_iff_eq, gt_iff_lt, ge_iff_le, Int.not_lt, Int.not_le] at hc24
                        refine c_seq (fun K25 hK25 => ?_)
                        refine c_reg ?_ -- region 23 api.go:149
                        refine wl (ro_assign rfl) ?_
                        refine wl_nil (x_then (hK25 _ _ ?_))
                        clear hK25 K25
                        refine c_ret (x_blkR (x_thenR ?_))
                        refine bp_ret Tryz.results30 rfl ?_
                        exact ⟨by rw [show s = 11 by omega]; rfl, rfl⟩
                      · try simp only [decide_eq_true_eq, decide_eq_false_iff_not, Bool.not_eq_true', Bool.not_eq_false', Bool.not_eq_eq_eq_not, Bool.not_true, Bool.not_false, beq_iff_eq, bne_iff_ne, ne_eq, beq_eq_false_iff_ne, bne_eq_false_iff_eq, gt_iff_lt, ge_iff_le, Int.not_lt, Int.not_le] at hc24
                        refine c_skip (x_blk (x_then (hK2 _ _ ?_)))
                        clear hK2 K2
                        refine forget [] trivial (fun e => ?_)
                        refine c_seq (fun K26 hK26 => ?_)
                        refine c_reg ?_ -- region 24 api.go:151
                        refine wl (ro_assign rfl) ?_
                        refine wl_nil (x_then (hK26 _ _ ?_))
                        clear hK26 K26
                        refine c_ret ?_
                        refine bp_ret Tryz.results30 rfl ?_
                        exact ⟨congrArg S (by unfold biName; rw [if_neg (by omega), if_neg (by omega), if_neg (by omega), if_neg (by omega), if_neg (by omega), if_neg (by omega), if_neg (by omega), if_neg (by omega), if_neg (by omega), if_neg (by omega), if_neg (by omega)]), rfl⟩

end Go.Proofs.Qxb6500568aGreatDoor
