import Derived.Test.Qxb6500570aGreatKb
import Derived.Test.Qxb6500570aGreatQa
/- Edits: the real arithmetic of lines. -/
namespace Go.Proofs.Qxb6500570aGreat
set_option linter.unusedVariables false
set_option linter.unusedSimpArgs false

abbrev pAt (b o : Nat) : Value := .pointer (some ⟨b, o, none⟩)
abbrev gpc (rows ins : Bool) (a : Int) : List Value := [.bool rows, icv (lnR rows), icv a, icv (if ins = true then 1 else -1)]
abbrev gpA (rows ins : Bool) (a : Int) : Value := .agg (gpc rows ins a).toArray
theorem gpc_cells (rows ins : Bool) (a : Int) : ∀ u ∈ gpc rows ins a, u.oneCell' = true := by
  intro u hu
  simp only [gpc, List.mem_cons, List.not_mem_nil, or_false] at hu
  rcases hu with rfl | rfl | rfl | rfl <;> rfl
/-- The edits there are. -/
def edOK (kind a : Int) : Bool := if kind = 1 ∨ kind = 2 then decide (0 ≤ a ∧ a < 6) else if kind = 3 ∨ kind = 4 then decide (0 ≤ a ∧ a < 4) else false
abbrev rwB (kind : Int) : Bool := decide (kind = 1 ∨ kind = 2)
abbrev inB (kind : Int) : Bool := decide (kind = 1 ∨ kind = 3)
theorem ed_iff {kind a : Int} : edOK kind a = true ↔ (1 ≤ kind ∧ kind ≤ 4) ∧ 0 ≤ a ∧ a < lnR (rwB kind) := by
  unfold edOK lnR
  by_cases h : kind = 1 ∨ kind = 2
  · simp [h]; omega
  · by_cases h2 : kind = 3 ∨ kind = 4
    · simp [h, h2]; omega
    · simp [h, h2]; omega
theorem EditOK69 {w : World} {kind a : Int} : Ret Tryz.prog 69 [icv kind, icv a] w (fun v w' => v = .bool (edOK kind a) ∧ w' = w) := by
  refine ret_of Tryz.func69 rfl Tryz.ntmps69 rfl ?_
  refine c_seq (fun K1 hK1 => ?_)
  refine c_reg ?_ -- region 0 move.go:15
  refine wl (ro_assign rfl) ?_
  refine wl_nil (x_then (hK1 _ _ ?_))
  clear hK1 K1
  refine c_seq (fun K2 hK2 => ?_)
  refine c_seq (fun K3 hK3 => ?_)
  refine c_reg ?_ -- region 1 move.go:16
  refine wl (ro_move rfl) ?_
  refine wl (ro_cmp rfl rfl rfl) ?_
  refine wl_fork rfl (fun hg7 => ?_) (fun hg7 => ?_)
  · try simp only [decide_eq_true_eq, decide_eq_false_iff_not, Bool.not_eq_true', Bool.not_eq_false', Bool.not_eq_eq_eq_not, Bool.not_true, Bool.not_false, beq_iff_eq, bne_iff_ne, ne_eq, beq_eq_false_iff_ne, bne_eq_false_iff_eq, gt_iff_lt, ge_iff_le, Int.not_lt, Int.not_le] at hg7
    refine wlg_no rfl ?_
    refine wlg_no rfl ?_
    refine wl (ro_pick rfl rfl rfl) ?_
    refine wl_nil (x_then (hK3 _ _ ?_))
    clear hK3 K3
    refine wc_condT rfl ?_
    refine c_seq (fun K4 hK4 => ?_)
    refine c_reg ?_ -- region 2 move.go:17
    refine wl (ro_move rfl) ?_
    refine wl (ro_cmp rfl rfl rfl) ?_
    refine wl_fork rfl (fun hg13 => ?_) (fun hg13 => ?_)
    · try simp only [decide_eq_true_eq, decide_eq_false_iff_not, Bool.not_eq_true', Bool.not_eq_false', Bool.not_eq_eq_eq_not, Bool.not_true, Bool.not_false, beq_iff_eq, bne_iff_ne, ne_eq, beq_eq_false_iff_ne, bne_eq_false_iff_eq, gt_iff_lt, ge_iff_le, Int.not_lt, Int.not_le] at hg13
      refine wlg_yes rfl (ro_move rfl) ?_
      refine wlg_yes rfl (ro_cmp rfl rfl rfl) ?_
      refine wl (ro_pick rfl rfl rfl) ?_
      refine wl (ro_assign rfl) ?_
      refine wl_nil (x_then (hK4 _ _ ?_))
      clear hK4 K4
      refine c_ret (x_thenR ?_)
      refine bp_ret Tryz.results69 rfl ?_
      refine ⟨congrArg Value.bool ?_, rfl⟩
      unfold edOK
      rw [Bool.eq_iff_iff]
      repeat' split
      all_goals (simp; try omega)
    · try simp only [decide_eq_true_eq, decide_eq_false_iff_not, Bool.not_eq_true', Bool.not_eq_false', Bool.not_eq_eq_eq_not, Bool.not_true, Bool.not_false, beq_iff_eq, bne_iff_ne, ne_eq, beq_eq_false_iff_ne, bne_eq_false_iff_eq, gt_iff_lt, ge_iff_le, Int.not_lt, Int.not_le] at hg13
      refine wlg_no rfl ?_
      refine wlg_no rfl ?_
      refine wl (ro_pick rfl rfl rfl) ?_
      refine wl (ro_assign rfl) ?_
      refine wl_nil (x_then (hK4 _ _ ?_))
      clear hK4 K4
      refine c_ret (x_thenR ?_)
      refine bp_ret Tryz.results69 rfl ?_
      refine ⟨congrArg Value.bool ?_, rfl⟩
      unfold edOK
      rw [Bool.eq_iff_iff]
      repeat' split
      all_goals (simp; try omega)
  · try simp only [decide_eq_true_eq, decide_eq_false_iff_not, Bool.not_eq_true', Bool.not_eq_false', Bool.not_eq_eq_eq_not, Bool.not_true, Bool.not_false, beq_iff_eq, bne_iff_ne, ne_eq, beq_eq_false_iff_ne, bne_eq_false_iff_eq, gt_iff_lt, ge_iff_le, Int.not_lt, Int.not_le] at hg7
    refine wlg_yes rfl (ro_move rfl) ?_
    refine wlg_yes rfl (ro_cmp rfl rfl rfl) ?_
    refine wl (ro_pick rfl rfl rfl) ?_
    refine wl_nil (x_then (hK3 _ _ ?_))
    clear hK3 K3
    refine wc_cond rfl (fun hc10 => ?_) (fun hc10 => ?_)
    · try simp only [decide_eq_true_eq, decide_eq_false_iff_not, Bool.not_eq_true', Bool.not_eq_false', Bool.not_eq_eq_eq_not, Bool.not_true, Bool.not_false, beq_iff_eq, bne_iff_ne, ne_eq, beq_eq_false_iff_ne, bne_eq_false_iff_eq, gt_iff_lt, ge_iff_le, Int.not_lt, Int.not_le] at hc10
      refine c_seq (fun K5 hK5 => ?_)
      refine c_reg ?_ -- region 2 move.go:17
      refine wl (ro_move rfl) ?_
      refine wl (ro_cmp rfl rfl rfl) ?_
      refine wl_fork rfl (fun hg13 => ?_) (fun hg13 => ?_)
      · try simp only [decide_eq_true_eq, decide_eq_false_iff_not, Bool.not_eq_true', Bool.not_eq_false', Bool.not_eq_eq_eq_not, Bool.not_true, Bool.not_false, beq_iff_eq, bne_iff_ne, ne_eq, beq_eq_false_iff_ne, bne_eq_false_iff_eq, gt_iff_lt, ge_iff_le, Int.not_lt, Int.not_le] at hg13
        refine wlg_yes rfl (ro_move rfl) ?_
        refine wlg_yes rfl (ro_cmp rfl rfl rfl) ?_
        refine wl (ro_pick rfl rfl rfl) ?_
        refine wl (ro_assign rfl) ?_
        refine wl_nil (x_then (hK5 _ _ ?_))
        clear hK5 K5
        refine c_ret (x_thenR ?_)
        refine bp_ret Tryz.results69 rfl ?_
        refine ⟨congrArg Value.bool ?_, rfl⟩
        unfold edOK
        rw [Bool.eq_iff_iff]
        repeat' split
        all_goals (simp; try omega)
      · try simp only [decide_eq_true_eq, decide_eq_false_iff_not, Bool.not_eq_true', Bool.not_eq_false', Bool.not_eq_eq_eq_not, Bool.not_true, Bool.not_false, beq_iff_eq, bne_iff_ne, ne_eq, beq_eq_false_iff_ne, bne_eq_false_iff_eq, gt_iff_lt, ge_iff_le, Int.not_lt, Int.not_le] at hg13
        refine wlg_no rfl ?_
        refine wlg_no rfl ?_
        refine wl (ro_pick rfl rfl rfl) ?_
        refine wl (ro_assign rfl) ?_
        refine wl_nil (x_then (hK5 _ _ ?_))
        clear hK5 K5
        refine c_ret (x_thenR ?_)
        refine bp_ret Tryz.results69 rfl ?_
        refine ⟨congrArg Value.bool ?_, rfl⟩
        unfold edOK
        rw [Bool.eq_iff_iff]
        repeat' split
        all_goals (simp; try omega)
    · try simp only [decide_eq_true_eq, decide_eq_false_iff_not, Bool.not_eq_true', Bool.not_eq_false', Bool.not_eq_eq_eq_not, Bool.not_true, Bool.not_false, beq_iff_eq, bne_iff_ne, ne_eq, beq_eq_false_iff_ne, bne_eq_false_iff_eq, gt_iff_lt, ge_iff_le, Int.not_lt, Int.not_le] at hc10
      refine c_skip (x_then (hK2 _ _ ?_))
      clear hK2 K2
      refine c_seq (fun K6 hK6 => ?_)
      refine c_seq (fun K7 hK7 => ?_)
      refine c_reg ?_ -- region 3 move.go:19
      refine wl (ro_move rfl) ?_
      refine wl (ro_cmp rfl rfl rfl) ?_
      refine wl_fork rfl (fun hg19 => ?_) (fun hg19 => ?_)
      · try simp only [decide_eq_true_eq, decide_eq_false_iff_not, Bool.not_eq_true', Bool.not_eq_false', Bool.not_eq_eq_eq_not, Bool.not_true, Bool.not_false, beq_iff_eq, bne_iff_ne, ne_eq, beq_eq_false_iff_ne, bne_eq_false_iff_eq, gt_iff_lt, ge_iff_le, Int.not_lt, Int.not_le] at hg19
        refine wlg_no rfl ?_
        refine wlg_no rfl ?_
        refine wl (ro_pick rfl rfl rfl) ?_
        refine wl_nil (x_then (hK7 _ _ ?_))
        clear hK7 K7
        refine wc_condT rfl ?_
        refine c_seq (fun K8 hK8 => ?_)
        refine c_reg ?_ -- region 4 move.go:20
        refine wl (ro_move rfl) ?_
        refine wl (ro_cmp rfl rfl rfl) ?_
        refine wl_fork rfl (fun hg25 => ?_) (fun hg25 => ?_)
        · try simp only [decide_eq_true_eq, decide_eq_false_iff_not, Bool.not_eq_true', Bool.not_eq_false', Bool.not_eq_eq_eq_not, Bool.not_true, Bool.not_false, beq_iff_eq, bne_iff_ne, ne_eq, beq_eq_false_iff_ne, bne_eq_false_iff_eq, gt_iff_lt, ge_iff_le, Int.not_lt, Int.not_le] at hg25
          refine wlg_yes rfl (ro_move rfl) ?_
          refine wlg_yes rfl (ro_cmp rfl rfl rfl) ?_
          refine wl (ro_pick rfl rfl rfl) ?_
          refine wl (ro_assign rfl) ?_
          refine wl_nil (x_then (hK8 _ _ ?_))
          clear hK8 K8
          refine c_ret (x_thenR ?_)
          refine bp_ret Tryz.results69 rfl ?_
          refine ⟨congrArg Value.bool ?_, rfl⟩
          unfold edOK
          rw [Bool.eq_iff_iff]
          repeat' split
          all_goals (simp; try omega)
        · try simp only [decide_eq_true_eq, decide_eq_false_iff_not, Bool.not_eq_true', Bool.not_eq_false', Bool.not_eq_eq_eq_not, Bool.not_true, Bool.not_false, beq_iff_eq, bne_iff_ne, ne_eq, beq_eq_false_iff_ne, bne_eq_false_iff_eq, gt_iff_lt, ge_iff_le, Int.not_lt, Int.not_le] at hg25
          refine wlg_no rfl ?_
          refine wlg_no rfl ?_
          refine wl (ro_pick rfl rfl rfl) ?_
          refine wl (ro_assign rfl) ?_
          refine wl_nil (x_then (hK8 _ _ ?_))
          clear hK8 K8
          refine c_ret (x_thenR ?_)
          refine bp_ret Tryz.results69 rfl ?_
          refine ⟨congrArg Value.bool ?_, rfl⟩
          unfold edOK
          rw [Bool.eq_iff_iff]
          repeat' split
          all_goals (simp; try omega)
      · try simp only [decide_eq_true_eq, decide_eq_false_iff_not, Bool.not_eq_true', Bool.not_eq_false', Bool.not_eq_eq_eq_not, Bool.not_true, Bool.not_false, beq_iff_eq, bne_iff_ne, ne_eq, beq_eq_false_iff_ne, bne_eq_false_iff_eq, gt_iff_lt, ge_iff_le, Int.not_lt, Int.not_le] at hg19
        refine wlg_yes rfl (ro_move rfl) ?_
        refine wlg_yes rfl (ro_cmp rfl rfl rfl) ?_
        refine wl (ro_pick rfl rfl rfl) ?_
        refine wl_nil (x_then (hK7 _ _ ?_))
        clear hK7 K7
        refine wc_cond rfl (fun hc22 => ?_) (fun hc22 => ?_)
        · try simp only [decide_eq_true_eq, decide_eq_false_iff_not, Bool.not_eq_true', Bool.not_eq_false', Bool.not_eq_eq_eq_not, Bool.not_true, Bool.not_false, beq_iff_eq, bne_iff_ne, ne_eq, beq_eq_false_iff_ne, bne_eq_false_iff_eq, gt_iff_lt, ge_iff_le, Int.not_lt, Int.not_le] at hc22
          refine c_seq (fun K9 hK9 => ?_)
          refine c_reg ?_ -- region 4 move.go:20
          refine wl (ro_move rfl) ?_
          refine wl (ro_cmp rfl rfl rfl) ?_
          refine wl_fork rfl (fun hg25 => ?_) (fun hg25 => ?_)
          · try simp only [decide_eq_true_eq, decide_eq_false_iff_not, Bool.not_eq_true', Bool.not_eq_false', Bool.not_eq_eq_eq_not, Bool.not_true, Bool.not_false, beq_iff_eq, bne_iff_ne, ne_eq, beq_eq_false_iff_ne, bne_eq_false_iff_eq, gt_iff_lt, ge_iff_le, Int.not_lt, Int.not_le] at hg25
            refine wlg_yes rfl (ro_move rfl) ?_
            refine wlg_yes rfl (ro_cmp rfl rfl rfl) ?_
            refine wl (ro_pick rfl rfl rfl) ?_
            refine wl (ro_assign rfl) ?_
            refine wl_nil (x_then (hK9 _ _ ?_))
            clear hK9 K9
            refine c_ret (x_thenR ?_)
            refine bp_ret Tryz.results69 rfl ?_
            refine ⟨congrArg Value.bool ?_, rfl⟩
            unfold edOK
            rw [Bool.eq_iff_iff]
            repeat' split
            all_goals (simp; try omega)
          · try simp only [decide_eq_true_eq, decide_eq_false_iff_not, Bool.not_eq_true', Bool.not_eq_false', Bool.not_eq_eq_eq_not, Bool.not_true, Bool.not_false, beq_iff_eq, bne_iff_ne, ne_eq, beq_eq_false_iff_ne, bne_eq_false_iff_eq, gt_iff_lt, ge_iff_le, Int.not_lt, Int.not_le] at hg25
            refine wlg_no rfl ?_
            refine wlg_no rfl ?_
            refine wl (ro_pick rfl rfl rfl) ?_
            refine wl (ro_assign rfl) ?_
            refine wl_nil (x_then (hK9 _ _ ?_))
            clear hK9 K9
            refine c_ret (x_thenR ?_)
            refine bp_ret Tryz.results69 rfl ?_
            refine ⟨congrArg Value.bool ?_, rfl⟩
            unfold edOK
            rw [Bool.eq_iff_iff]
            repeat' split
            all_goals (simp; try omega)
        · try simp only [decide_eq_true_eq, decide_eq_false_iff_not, Bool.not_eq_true', Bool.not_eq_false', Bool.not_eq_eq_eq_not, Bool.not_true, Bool.not_false, beq_iff_eq, bne_iff_ne, ne_eq, beq_eq_false_iff_ne, bne_eq_false_iff_eq, gt_iff_lt, ge_iff_le, Int.not_lt, Int.not_le] at hc22
          refine c_skip (x_then (hK6 _ _ ?_))
          clear hK6 K6
          refine forget [] trivial (fun e => ?_)
          refine c_seq (fun K10 hK10 => ?_)
          refine c_reg ?_ -- region 5 move.go:22
          refine wl (ro_assign rfl) ?_
          refine wl_nil (x_then (hK10 _ _ ?_))
          clear hK10 K10
          refine c_ret ?_
          refine bp_ret Tryz.results69 rfl ?_
          refine ⟨congrArg Value.bool ?_, rfl⟩
          unfold edOK
          rw [Bool.eq_iff_iff]
          repeat' split
          all_goals (simp; try omega)

theorem gapOf70 {w : World} {kind a : Int} (hk : 1 ≤ kind ∧ kind ≤ 4) : Ret Tryz.prog 70 [icv kind, icv a] w (fun v w' => v = gpA (rwB kind) (inB kind) a ∧ Fram none' w w') := by
  have hF : Fram none' w w := Fram.refl _ _
  refine ret_of Tryz.func70 rfl Tryz.ntmps70 rfl ?_
  refine c_seq (fun K1 hK1 => ?_)
  refine c_reg ?_ -- region 0 shift.go:16
  refine wl_new (ze_110) (fun b4 w1 hbb4 h4 F1 => ?_)
  have hbsb4 := Nat.le_trans hF.size hbb4
  replace hF := hF.thenDrew.thenN F1
  refine wl_nil (x_then (hK1 _ _ ?_))
  clear hK1 K1
  refine forget [(0, _), (1, _), (4, _)] ⟨rfl, rfl, rfl, trivial⟩ (fun e => ?_)
  refine c_seq (fun K2 hK2 => ?_)
  refine c_reg ?_ -- region 1 shift.go:17
  refine wl (ro_move rfl) ?_
  refine wl (ro_build rfl bld_110_0_1_2_3) ?_
  refine wl_new (ze_110) (fun b5 w2 hbb5 h5 F2 => ?_)
  have hbsb5 := Nat.le_trans hF.size hbb5
  have hneb4b5 : b4 < b5 := Nat.lt_of_lt_of_le h4.lt hbb5
  replace hF := hF.thenDrew.thenN F2
  replace h4 := F2.blkN h4
  refine wl_puta rfl rfl ((gpc_cells true true a)) sz_110 (rfl) h5 ((by simp)) ((show _ = gpc true true a from rfl)) (fun w3 h5 F3 => ?_)
  replace hF := hF.thenDrew.thenO F3 (by first | exact .inr (by omega) | exact .inl rfl | exact .inl (by assumption))
  replace h4 := F3.blkO h4 (by omega)
  refine wl_nil (x_then (hK2 _ _ ?_))
  clear hK2 K2
  refine c_seq (fun K3 hK3 => ?_)
  refine c_seq (fun K4 hK4 => ?_)
  refine c_reg ?_ -- region 2 shift.go:18
  refine wl (ro_move rfl) ?_
  refine wl (ro_cmp rfl rfl rfl) ?_
  refine wl_fork rfl (fun hg10 => ?_) (fun hg10 => ?_)
  · try simp only [decide_eq_true_eq, decide_eq_false_iff_not, Bool.not_eq_true', Bool.not_eq_false', Bool.not_eq_eq_eq_not, Bool.not_true, Bool.not_false, beq_iff_eq, bne_iff_ne, ne_eq, beq_eq_false_iff_ne, bne_eq_false_iff_eq, gt_iff_lt, ge_iff_le, Int.not_lt, Int.not_le] at hg10
    refine wlg_no rfl ?_
    refine wlg_no rfl ?_
    refine wl (ro_pick rfl rfl rfl) ?_
    refine wl_nil (x_then (hK4 _ _ ?_))
    clear hK4 K4
    refine wc_condT rfl ?_
    refine c_seq (fun K5 hK5 => ?_)
    refine c_reg ?_ -- region 3 shift.go:19
    refine wl (ro_fieldAddr (k := 0) rfl fo_110_0) ?_
    refine wl_put rfl rfl rfl sz_4 h5 (by simp) (rfl) (fun w4 h5 F4 => ?_)
    replace hF := hF.thenDrew.thenO F4 (by first | exact .inr (by omega) | exact .inl rfl | exact .inl (by assumption))
    replace h4 := F4.blkO h4 (by omega)
    refine wl_nil (x_then (hK5 _ _ ?_))
    clear hK5 K5
    refine c_reg ?_ -- region 4 shift.go:20
    refine wl (ro_fieldAddr (k := 1) rfl fo_110_1) ?_
    refine wl_put rfl rfl rfl sz_3 h5 (by simp) (rfl) (fun w5 h5 F5 => ?_)
    replace hF := hF.thenDrew.thenO F5 (by first | exact .inr (by omega) | exact .inl rfl | exact .inl (by assumption))
    replace h4 := F5.blkO h4 (by omega)
    refine wl_nil (x_then (hK3 _ _ ?_))
    clear hK3 K3
    refine c_seq (fun K6 hK6 => ?_)
    refine c_seq (fun K7 hK7 => ?_)
    refine c_reg ?_ -- region 5 shift.go:22
    refine wl (ro_move rfl) ?_
    refine wl (ro_cmp rfl rfl rfl) ?_
    refine wl_fork rfl (fun hg18 => ?_) (fun hg18 => ?_)
    · try simp only [decide_eq_true_eq, decide_eq_false_iff_not, Bool.not_eq_true', Bool.not_eq_false', Bool.not_eq_eq_eq_not, Bool.not_true, Bool.not_false, beq_iff_eq, bne_iff_ne, ne_eq, beq_eq_false_iff_ne, bne_eq_false_iff_eq, gt_iff_lt, ge_iff_le, Int.not_lt, Int.not_le] at hg18
      refine wlg_no rfl ?_
      refine wlg_no rfl ?_
      refine wl (ro_pick rfl rfl rfl) ?_
      refine wl_nil (x_then (hK7 _ _ ?_))
      clear hK7 K7
      refine wc_condT rfl ?_
      refine c_reg ?_ -- region 6 shift.go:23
      refine wl (ro_fieldAddr (k := 3) rfl fo_110_3) ?_
      refine wl_put rfl rfl rfl sz_3 h5 (by simp) (rfl) (fun w6 h5 F6 => ?_)
      replace hF := hF.thenDrew.thenO F6 (by first | exact .inr (by omega) | exact .inl rfl | exact .inl (by assumption))
      replace h4 := F6.blkO h4 (by omega)
      refine wl_nil (x_then (hK6 _ _ ?_))
      clear hK6 K6
      refine forget [(4, _), (5, _)] ⟨rfl, rfl, trivial⟩ (fun e => ?_)
      refine c_seq (fun K8 hK8 => ?_)
      refine c_reg ?_ -- region 7 shift.go:25
      refine wl (ro_loadAggB rfl ag_110 (by assumption) rfl rfl) ?_
      refine wl_puta rfl rfl ((by simp [Value.oneCell', icv])) sz_110 (rfl) h4 ((by simp)) (rfl) (fun w7 h4 F7 => ?_)
      replace hF := hF.thenDrew.thenO F7 (by first | exact .inr (by omega) | exact .inl rfl | exact .inl (by assumption))
      replace h5 := F7.blkO h5 (by omega)
      refine wl_nil (x_then (hK8 _ _ ?_))
      clear hK8 K8
      refine c_ret ?_
      refine bq_ret (res1 Tryz.results70 (rv_c rfl ag_110 (h4) rfl)) ?_
      refine ⟨?_, hF⟩
      rcases (by omega : kind = 1 ∨ kind = 2 ∨ kind = 3 ∨ kind = 4) with rfl | rfl | rfl | rfl <;> first | rfl | (exfalso; omega)
    · try simp only [decide_eq_true_eq, decide_eq_false_iff_not, Bool.not_eq_true', Bool.not_eq_false', Bool.not_eq_eq_eq_not, Bool.not_true, Bool.not_false, beq_iff_eq, bne_iff_ne, ne_eq, beq_eq_false_iff_ne, bne_eq_false_iff_eq, gt_iff_lt, ge_iff_le, Int.not_lt, Int.not_le] at hg18
      refine wlg_yes rfl (ro_move rfl) ?_
      refine wlg_yes rfl (ro_cmp rfl rfl rfl) ?_
      refine wl (ro_pick rfl rfl rfl) ?_
      refine wl_nil (x_then (hK7 _ _ ?_))
      clear hK7 K7
      refine wc_cond rfl (fun hc21 => ?_) (fun hc21 => ?_)
      · try simp only [decide_eq_true_eq, decide_eq_false_iff_not, Bool.not_eq_true', Bool.not_eq_false', Bool.not_eq_eq_eq_not, Bool.not_true, Bool.not_false, beq_iff_eq, bne_iff_ne, ne_eq, beq_eq_false_iff_ne, bne_eq_false_iff_eq, gt_iff_lt, ge_iff_le, Int.not_lt, Int.not_le] at hc21
        refine c_reg ?_ -- region 6 shift.go:23
        refine wl (ro_fieldAddr (k := 3) rfl fo_110_3) ?_
        refine wl_put rfl rfl rfl sz_3 h5 (by simp) (rfl) (fun w8 h5 F8 => ?_)
        replace hF := hF.thenDrew.thenO F8 (by first | exact .inr (by omega) | exact .inl rfl | exact .inl (by assumption))
        replace h4 := F8.blkO h4 (by omega)
        refine wl_nil (x_then (hK6 _ _ ?_))
        clear hK6 K6
        refine forget [(4, _), (5, _)] ⟨rfl, rfl, trivial⟩ (fun e => ?_)
        refine c_seq (fun K9 hK9 => ?_)
        refine c_reg ?_ -- region 7 shift.go:25
        refine wl (ro_loadAggB rfl ag_110 (by assumption) rfl rfl) ?_
        refine wl_puta rfl rfl ((by simp [Value.oneCell', icv])) sz_110 (rfl) h4 ((by simp)) (rfl) (fun w9 h4 F9 => ?_)
        replace hF := hF.thenDrew.thenO F9 (by first | exact .inr (by omega) | exact .inl rfl | exact .inl (by assumption))
        replace h5 := F9.blkO h5 (by omega)
        refine wl_nil (x_then (hK9 _ _ ?_))
        clear hK9 K9
        refine c_ret ?_
        refine bq_ret (res1 Tryz.results70 (rv_c rfl ag_110 (h4) rfl)) ?_
        refine ⟨?_, hF⟩
        rcases (by omega : kind = 1 ∨ kind = 2 ∨ kind = 3 ∨ kind = 4) with rfl | rfl | rfl | rfl <;> first | rfl | (exfalso; omega)
      · try simp only [decide_eq_true_eq, decide_eq_false_iff_not, Bool.not_eq_true', Bool.not_eq_false', Bool.not_eq_eq_eq_not, Bool.not_true, Bool.not_false, beq_iff_eq, bne_iff_ne, ne_eq, beq_eq_false_iff_ne, bne_eq_false_iff_eq, gt_iff_lt, ge_iff_le, Int.not_lt, Int.not_le] at hc21
        refine c_skip (x_then (hK6 _ _ ?_))
        clear hK6 K6
        refine forget [(4, _), (5, _)] ⟨rfl, rfl, trivial⟩ (fun e => ?_)
        refine c_seq (fun K10 hK10 => ?_)
        refine c_reg ?_ -- region 7 shift.go:25
        refine wl (ro_loadAggB rfl ag_110 (by assumption) rfl rfl) ?_
        refine wl_puta rfl rfl ((by simp [Value.oneCell', icv])) sz_110 (rfl) h4 ((by simp)) (rfl) (fun w10 h4 F10 => ?_)
        replace hF := hF.thenDrew.thenO F10 (by first | exact .inr (by omega) | exact .inl rfl | exact .inl (by assumption))
        replace h5 := F10.blkO h5 (by omega)
        refine wl_nil (x_then (hK10 _ _ ?_))
        clear hK10 K10
        refine c_ret ?_
        refine bq_ret (res1 Tryz.results70 (rv_c rfl ag_110 (h4) rfl)) ?_
        refine ⟨?_, hF⟩
        rcases (by omega : kind = 1 ∨ kind = 2 ∨ kind = 3 ∨ kind = 4) with rfl | rfl | rfl | rfl <;> first | rfl | (exfalso; omega)
  · try simp only [decide_eq_true_eq, decide_eq_false_iff_not, Bool.not_eq_true', Bool.not_eq_false', Bool.not_eq_eq_eq_not, Bool.not_true, Bool.not_false, beq_iff_eq, bne_iff_ne, ne_eq, beq_eq_false_iff_ne, bne_eq_false_iff_eq, gt_iff_lt, ge_iff_le, Int.not_lt, Int.not_le] at hg10
    refine wlg_yes rfl (ro_move rfl) ?_
    refine wlg_yes rfl (ro_cmp rfl rfl rfl) ?_
    refine wl (ro_pick rfl rfl rfl) ?_
    refine wl_nil (x_then (hK4 _ _ ?_))
    clear hK4 K4
    refine wc_cond rfl (fun hc13 => ?_) (fun hc13 => ?_)
    · try simp only [decide_eq_true_eq, decide_eq_false_iff_not, Bool.not_eq_true', Bool.not_eq_false', Bool.not_eq_eq_eq_not, Bool.not_true, Bool.not_false, beq_iff_eq, bne_iff_ne, ne_eq, beq_eq_false_iff_ne, bne_eq_false_iff_eq, gt_iff_lt, ge_iff_le, Int.not_lt, Int.not_le] at hc13
      refine c_seq (fun K11 hK11 => ?_)
      refine c_reg ?_ -- region 3 shift.go:19
      refine wl (ro_fieldAddr (k := 0) rfl fo_110_0) ?_
      refine wl_put rfl rfl rfl sz_4 h5 (by simp) (rfl) (fun w11 h5 F11 => ?_)
      replace hF := hF.thenDrew.thenO F11 (by first | exact .inr (by omega) | exact .inl rfl | exact .inl (by assumption))
      replace h4 := F11.blkO h4 (by omega)
      refine wl_nil (x_then (hK11 _ _ ?_))
      clear hK11 K11
      refine c_reg ?_ -- region 4 shift.go:20
      refine wl (ro_fieldAddr (k := 1) rfl fo_110_1) ?_
      refine wl_put rfl rfl rfl sz_3 h5 (by simp) (rfl) (fun w12 h5 F12 => ?_)
      replace hF := hF.thenDrew.thenO F12 (by first | exact .inr (by omega) | exact .inl rfl | exact .inl (by assumption))
      replace h4 := F12.blkO h4 (by omega)
      refine wl_nil (x_then (hK3 _ _ ?_))
      clear hK3 K3
      refine c_seq (fun K12 hK12 => ?_)
      refine c_seq (fun K13 hK13 => ?_)
      refine c_reg ?_ -- region 5 shift.go:22
      refine wl (ro_move rfl) ?_
      refine wl (ro_cmp rfl rfl rfl) ?_
      refine wl_fork rfl (fun hg18 => ?_) (fun hg18 => ?_)
      · try simp only [decide_eq_true_eq, decide_eq_false_iff_not, Bool.not_eq_true', Bool.not_eq_false', Bool.not_eq_eq_eq_not, Bool.not_true, Bool.not_false, beq_iff_eq, bne_iff_ne, ne_eq, beq_eq_false_iff_ne, bne_eq_false_iff_eq, gt_iff_lt, ge_iff_le, Int.not_lt, Int.not_le] at hg18
        refine wlg_no rfl ?_
        refine wlg_no rfl ?_
        refine wl (ro_pick rfl rfl rfl) ?_
        refine wl_nil (x_then (hK13 _ _ ?_))
        clear hK13 K13
        refine wc_condT rfl ?_
        refine c_reg ?_ -- region 6 shift.go:23
        refine wl (ro_fieldAddr (k := 3) rfl fo_110_3) ?_
        refine wl_put rfl rfl rfl sz_3 h5 (by simp) (rfl) (fun w13 h5 F13 => ?_)
        replace hF := hF.thenDrew.thenO F13 (by first | exact .inr (by omega) | exact .inl rfl | exact .inl (by assumption))
        replace h4 := F13.blkO h4 (by omega)
        refine wl_nil (x_then (hK12 _ _ ?_))
        clear hK12 K12
        refine forget [(4, _), (5, _)] ⟨rfl, rfl, trivial⟩ (fun e => ?_)
        refine c_seq (fun K14 hK14 => ?_)
        refine c_reg ?_ -- region 7 shift.go:25
        refine wl (ro_loadAggB rfl ag_110 (by assumption) rfl rfl) ?_
        refine wl_puta rfl rfl ((by simp [Value.oneCell', icv])) sz_110 (rfl) h4 ((by simp)) (rfl) (fun w14 h4 F14 => ?_)
        replace hF := hF.thenDrew.thenO F14 (by first | exact .inr (by omega) | exact .inl rfl | exact .inl (by assumption))
        replace h5 := F14.blkO h5 (by omega)
        refine wl_nil (x_then (hK14 _ _ ?_))
        clear hK14 K14
        refine c_ret ?_
        refine bq_ret (res1 Tryz.results70 (rv_c rfl ag_110 (h4) rfl)) ?_
        refine ⟨?_, hF⟩
        rcases (by omega : kind = 1 ∨ kind = 2 ∨ kind = 3 ∨ kind = 4) with rfl | rfl | rfl | rfl <;> first | rfl | (exfalso; omega)
      · try simp only [decide_eq_true_eq, decide_eq_false_iff_not, Bool.not_eq_true', Bool.not_eq_false', Bool.not_eq_eq_eq_not, Bool.not_true, Bool.not_false, beq_iff_eq, bne_iff_ne, ne_eq, beq_eq_false_iff_ne, bne_eq_false_iff_eq, gt_iff_lt, ge_iff_le, Int.not_lt, Int.not_le] at hg18
        refine wlg_yes rfl (ro_move rfl) ?_
        refine wlg_yes rfl (ro_cmp rfl rfl rfl) ?_
        refine wl (ro_pick rfl rfl rfl) ?_
        refine wl_nil (x_then (hK13 _ _ ?_))
        clear hK13 K13
        refine wc_cond rfl (fun hc21 => ?_) (fun hc21 => ?_)
        · try simp only [decide_eq_true_eq, decide_eq_false_iff_not, Bool.not_eq_true', Bool.not_eq_false', Bool.not_eq_eq_eq_not, Bool.not_true, Bool.not_false, beq_iff_eq, bne_iff_ne, ne_eq, beq_eq_false_iff_ne, bne_eq_false_iff_eq, gt_iff_lt, ge_iff_le, Int.not_lt, Int.not_le] at hc21
          refine c_reg ?_ -- region 6 shift.go:23
          refine wl (ro_fieldAddr (k := 3) rfl fo_110_3) ?_
          refine wl_put rfl rfl rfl sz_3 h5 (by simp) (rfl) (fun w15 h5 F15 => ?_)
          replace hF := hF.thenDrew.thenO F15 (by first | exact .inr (by omega) | exact .inl rfl | exact .inl (by assumption))
          replace h4 := F15.blkO h4 (by omega)
          refine wl_nil (x_then (hK12 _ _ ?_))
          clear hK12 K12
          refine forget [(4, _), (5, _)] ⟨rfl, rfl, trivial⟩ (fun e => ?_)
          refine c_seq (fun K15 hK15 => ?_)
          refine c_reg ?_ -- region 7 shift.go:25
          refine wl (ro_loadAggB rfl ag_110 (by assumption) rfl rfl) ?_
          refine wl_puta rfl rfl ((by simp [Value.oneCell', icv])) sz_110 (rfl) h4 ((by simp)) (rfl) (fun w16 h4 F16 => ?_)
          replace hF := hF.thenDrew.thenO F16 (by first | exact .inr (by omega) | exact .inl rfl | exact .inl (by assumption))
          replace h5 := F16.blkO h5 (by omega)
          refine wl_nil (x_then (hK15 _ _ ?_))
          clear hK15 K15
          refine c_ret ?_
          refine bq_ret (res1 Tryz.results70 (rv_c rfl ag_110 (h4) rfl)) ?_
          refine ⟨?_, hF⟩
          rcases (by omega : kind = 1 ∨ kind = 2 ∨ kind = 3 ∨ kind = 4) with rfl | rfl | rfl | rfl <;> first | rfl | (exfalso; omega)
        · try simp only [decide_eq_true_eq, decide_eq_false_iff_not, Bool.not_eq_true', Bool.not_eq_false', Bool.not_eq_eq_eq_not, Bool.not_true, Bool.not_false, beq_iff_eq, bne_iff_ne, ne_eq, beq_eq_false_iff_ne, bne_eq_false_iff_eq, gt_iff_lt, ge_iff_le, Int.not_lt, Int.not_le] at hc21
          refine c_skip (x_then (hK12 _ _ ?_))
          clear hK12 K12
          refine forget [(4, _), (5, _)] ⟨rfl, rfl, trivial⟩ (fun e => ?_)
          refine c_seq (fun K16 hK16 => ?_)
          refine c_reg ?_ -- region 7 shift.go:25
          refine wl (ro_loadAggB rfl ag_110 (by assumption) rfl rfl) ?_
          refine wl_puta rfl rfl ((by simp [Value.oneCell', icv])) sz_110 (rfl) h4 ((by simp)) (rfl) (fun w17 h4 F17 => ?_)
          replace hF := hF.thenDrew.thenO F17 (by first | exact .inr (by omega) | exact .inl rfl | exact .inl (by assumption))
          replace h5 := F17.blkO h5 (by omega)
          refine wl_nil (x_then (hK16 _ _ ?_))
          clear hK16 K16
          refine c_ret ?_
          refine bq_ret (res1 Tryz.results70 (rv_c rfl ag_110 (h4) rfl)) ?_
          refine ⟨?_, hF⟩
          rcases (by omega : kind = 1 ∨ kind = 2 ∨ kind = 3 ∨ kind = 4) with rfl | rfl | rfl | rfl <;> first | rfl | (exfalso; omega)
    · try simp only [decide_eq_true_eq, decide_eq_false_iff_not, Bool.not_eq_true', Bool.not_eq_false', Bool.not_eq_eq_eq_not, Bool.not_true, Bool.not_false, beq_iff_eq, bne_iff_ne, ne_eq, beq_eq_false_iff_ne, bne_eq_false_iff_eq, gt_iff_lt, ge_iff_le, Int.not_lt, Int.not_le] at hc13
      refine c_skip (x_then (hK3 _ _ ?_))
      clear hK3 K3
      refine c_seq (fun K17 hK17 => ?_)
      refine c_seq (fun K18 hK18 => ?_)
      refine c_reg ?_ -- region 5 shift.go:22
      refine wl (ro_move rfl) ?_
      refine wl (ro_cmp rfl rfl rfl) ?_
      refine wl_fork rfl (fun hg18 => ?_) (fun hg18 => ?_)
      · try simp only [decide_eq_true_eq, decide_eq_false_iff_not, Bool.not_eq_true', Bool.not_eq_false', Bool.not_eq_eq_eq_not, Bool.not_true, Bool.not_false, beq_iff_eq, bne_iff_ne, ne_eq, beq_eq_false_iff_ne, bne_eq_false_iff_eq, gt_iff_lt, ge_iff_le, Int.not_lt, Int.not_le] at hg18
        refine wlg_no rfl ?_
        refine wlg_no rfl ?_
        refine wl (ro_pick rfl rfl rfl) ?_
        refine wl_nil (x_then (hK18 _ _ ?_))
        clear hK18 K18
        refine wc_condT rfl ?_
        refine c_reg ?_ -- region 6 shift.go:23
        refine wl (ro_fieldAddr (k := 3) rfl fo_110_3) ?_
        refine wl_put rfl rfl rfl sz_3 h5 (by simp) (rfl) (fun w18 h5 F18 => ?_)
        replace hF := hF.thenDrew.thenO F18 (by first | exact .inr (by omega) | exact .inl rfl | exact .inl (by assumption))
        replace h4 := F18.blkO h4 (by omega)
        refine wl_nil (x_then (hK17 _ _ ?_))
        clear hK17 K17
        refine forget [(4, _), (5, _)] ⟨rfl, rfl, trivial⟩ (fun e => ?_)
        refine c_seq (fun K19 hK19 => ?_)
        refine c_reg ?_ -- region 7 shift.go:25
        refine wl (ro_loadAggB rfl ag_110 (by assumption) rfl rfl) ?_
        refine wl_puta rfl rfl ((by simp [Value.oneCell', icv])) sz_110 (rfl) h4 ((by simp)) (rfl) (fun w19 h4 F19 => ?_)
        replace hF := hF.thenDrew.thenO F19 (by first | exact .inr (by omega) | exact .inl rfl | exact .inl (by assumption))
        replace h5 := F19.blkO h5 (by omega)
        refine wl_nil (x_then (hK19 _ _ ?_))
        clear hK19 K19
        refine c_ret ?_
        refine bq_ret (res1 Tryz.results70 (rv_c rfl ag_110 (h4) rfl)) ?_
        refine ⟨?_, hF⟩
        rcases (by omega : kind = 1 ∨ kind = 2 ∨ kind = 3 ∨ kind = 4) with rfl | rfl | rfl | rfl <;> first | rfl | (exfalso; omega)
      · try simp only [decide_eq_true_eq, decide_eq_false_iff_not, Bool.not_eq_true', Bool.not_eq_false', Bool.not_eq_eq_eq_not, Bool.not_true, Bool.not_false, beq_iff_eq, bne_iff_ne, ne_eq, beq_eq_false_iff_ne, bne_eq_false_iff_eq, gt_iff_lt, ge_iff_le, Int.not_lt, Int.not_le] at hg18
        refine wlg_yes rfl (ro_move rfl) ?_
        refine wlg_yes rfl (ro_cmp rfl rfl rfl) ?_
        refine wl (ro_pick rfl rfl rfl) ?_
        refine wl_nil (x_then (hK18 _ _ ?_))
        clear hK18 K18
        refine wc_cond rfl (fun hc21 => ?_) (fun hc21 => ?_)
        · try simp only [decide_eq_true_eq, decide_eq_false_iff_not, Bool.not_eq_true', Bool.not_eq_false', Bool.not_eq_eq_eq_not, Bool.not_true, Bool.not_false, beq_iff_eq, bne_iff_ne, ne_eq, beq_eq_false_iff_ne, bne_eq_false_iff_eq, gt_iff_lt, ge_iff_le, Int.not_lt, Int.not_le] at hc21
          refine c_reg ?_ -- region 6 shift.go:23
          refine wl (ro_fieldAddr (k := 3) rfl fo_110_3) ?_
          refine wl_put rfl rfl rfl sz_3 h5 (by simp) (rfl) (fun w20 h5 F20 => ?_)
          replace hF := hF.thenDrew.thenO F20 (by first | exact .inr (by omega) | exact .inl rfl | exact .inl (by assumption))
          replace h4 := F20.blkO h4 (by omega)
          refine wl_nil (x_then (hK17 _ _ ?_))
          clear hK17 K17
          refine forget [(4, _), (5, _)] ⟨rfl, rfl, trivial⟩ (fun e => ?_)
          refine c_seq (fun K20 hK20 => ?_)
          refine c_reg ?_ -- region 7 shift.go:25
          refine wl (ro_loadAggB rfl ag_110 (by assumption) rfl rfl) ?_
          refine wl_puta rfl rfl ((by simp [Value.oneCell', icv])) sz_110 (rfl) h4 ((by simp)) (rfl) (fun w21 h4 F21 => ?_)
          replace hF := hF.thenDrew.thenO F21 (by first | exact .inr (by omega) | exact .inl rfl | exact .inl (by assumption))
          replace h5 := F21.blkO h5 (by omega)
          refine wl_nil (x_then (hK20 _ _ ?_))
          clear hK20 K20
          refine c_ret ?_
          refine bq_ret (res1 Tryz.results70 (rv_c rfl ag_110 (h4) rfl)) ?_
          refine ⟨?_, hF⟩
          rcases (by omega : kind = 1 ∨ kind = 2 ∨ kind = 3 ∨ kind = 4) with rfl | rfl | rfl | rfl <;> first | rfl | (exfalso; omega)
        · try simp only [decide_eq_true_eq, decide_eq_false_iff_not, Bool.not_eq_true', Bool.not_eq_false', Bool.not_eq_eq_eq_not, Bool.not_true, Bool.not_false, beq_iff_eq, bne_iff_ne, ne_eq, beq_eq_false_iff_ne, bne_eq_false_iff_eq, gt_iff_lt, ge_iff_le, Int.not_lt, Int.not_le] at hc21
          refine c_skip (x_then (hK17 _ _ ?_))
          clear hK17 K17
          refine forget [(4, _), (5, _)] ⟨rfl, rfl, trivial⟩ (fun e => ?_)
          refine c_seq (fun K21 hK21 => ?_)
          refine c_reg ?_ -- region 7 shift.go:25
          refine wl (ro_loadAggB rfl ag_110 (by assumption) rfl rfl) ?_
          refine wl_puta rfl rfl ((by simp [Value.oneCell', icv])) sz_110 (rfl) h4 ((by simp)) (rfl) (fun w22 h4 F22 => ?_)
          replace hF := hF.thenDrew.thenO F22 (by first | exact .inr (by omega) | exact .inl rfl | exact .inl (by assumption))
          replace h5 := F22.blkO h5 (by omega)
          refine wl_nil (x_then (hK21 _ _ ?_))
          clear hK21 K21
          refine c_ret ?_
          refine bq_ret (res1 Tryz.results70 (rv_c rfl ag_110 (h4) rfl)) ?_
          refine ⟨?_, hF⟩
          rcases (by omega : kind = 1 ∨ kind = 2 ∨ kind = 3 ∨ kind = 4) with rfl | rfl | rfl | rfl <;> first | rfl | (exfalso; omega)
theorem low166 {w : World} {rows ins : Bool} {a x : Int} (hx : -100 ≤ x ∧ x ≤ 100) : Ret Tryz.prog 166 [gpA rows ins a, icv x] w (fun v w' => v = icv (loI ins a x) ∧ Fram none' w w') := by
  have hF : Fram none' w w := Fram.refl _ _
  refine ret_of Tryz.func166 rfl Tryz.ntmps166 rfl ?_
  refine c_seq (fun K1 hK1 => ?_)
  refine c_reg ?_ -- region 0 shift.go:51
  refine wl_box (cs := (gpc rows ins a)) rfl rfl (fun b2 w1 hbb2 h2 F1 => ?_)
  have hbsb2 := Nat.le_trans hF.size hbb2
  replace hF := hF.thenDrew.thenN F1
  refine wl (ro_assign rfl) ?_
  refine wl_nil (x_then (hK1 _ _ ?_))
  clear hK1 K1
  refine c_seq (fun K2 hK2 => ?_)
  refine c_seq (fun K3 hK3 => ?_)
  refine c_reg ?_ -- region 1 shift.go:52
  refine wl (ro_fieldAddr (k := 3) rfl fo_110_3) ?_
  refine wl (ro_loadB rfl sc_3 (by assumption) rfl) ?_
  refine wl (ro_cmp (r := ins) rfl rfl (congrArg some (by cases ins <;> rfl))) ?_
  refine wl_nil (x_then (hK3 _ _ ?_))
  clear hK3 K3
  refine wc_cond rfl (fun hc7 => ?_) (fun hc7 => ?_)
  · try simp only [decide_eq_true_eq, decide_eq_false_iff_not, Bool.not_eq_true', Bool.not_eq_false', Bool.not_eq_eq_eq_not, Bool.not_true, Bool.not_false, beq_iff_eq, bne_iff_ne, ne_eq, beq_eq_false_iff_ne, bne_eq_false_iff_eq, gt_iff_lt, ge_iff_le, Int.not_lt, Int.not_le] at hc7
    refine c_seq (fun K4 hK4 => ?_)
    refine c_seq (fun K5 hK5 => ?_)
    refine c_reg ?_ -- region 2 shift.go:53
    refine wl (ro_move rfl) ?_
    refine wl (ro_fieldAddr (k := 2) rfl fo_110_2) ?_
    refine wl (ro_loadB rfl sc_3 (by assumption) rfl) ?_
    refine wl (ro_cmp rfl rfl rfl) ?_
    refine wl_nil (x_then (hK5 _ _ ?_))
    clear hK5 K5
    refine wc_cond rfl (fun hc11 => ?_) (fun hc11 => ?_)
    · try simp only [decide_eq_true_eq, decide_eq_false_iff_not, Bool.not_eq_true', Bool.not_eq_false', Bool.not_eq_eq_eq_not, Bool.not_true, Bool.not_false, beq_iff_eq, bne_iff_ne, ne_eq, beq_eq_false_iff_ne, bne_eq_false_iff_eq, gt_iff_lt, ge_iff_le, Int.not_lt, Int.not_le] at hc11
      refine c_seq (fun K6 hK6 => ?_)
      refine c_reg ?_ -- region 3 shift.go:54
      refine wl (ro_move rfl) ?_
      refine wl (ro_arith (r := x + 1) rfl rfl rfl (Go.IntWalk.i64_in _ (by omega))) ?_
      refine wl (ro_assign rfl) ?_
      refine wl_nil (x_then (hK6 _ _ ?_))
      clear hK6 K6
      refine c_ret (x_thenR (x_thenR ?_))
      refine bp_ret Tryz.results166 rfl ?_
      exact ⟨by unfold loI; rw [if_pos hc7, if_pos hc11], hF⟩
    · try simp only [decide_eq_true_eq, decide_eq_false_iff_not, Bool.not_eq_true', Bool.not_eq_false', Bool.not_eq_eq_eq_not, Bool.not_true, Bool.not_false, beq_iff_eq, bne_iff_ne, ne_eq, beq_eq_false_iff_ne, bne_eq_false_iff_eq, gt_iff_lt, ge_iff_le, Int.not_lt, Int.not_le] at hc11
      refine c_skip (x_then (hK4 _ _ ?_))
      clear hK4 K4
      refine forget [(1, _)] ⟨rfl, trivial⟩ (fun e => ?_)
      refine c_seq (fun K7 hK7 => ?_)
      refine c_reg ?_ -- region 4 shift.go:56
      refine wl (ro_move rfl) ?_
      refine wl (ro_assign rfl) ?_
      refine wl_nil (x_then (hK7 _ _ ?_))
      clear hK7 K7
      refine c_ret (x_thenR ?_)
      refine bp_ret Tryz.results166 rfl ?_
      exact ⟨by unfold loI; rw [if_pos hc7, if_neg (by omega)], hF⟩
  · try simp only [decide_eq_true_eq, decide_eq_false_iff_not, Bool.not_eq_true', Bool.not_eq_false', Bool.not_eq_eq_eq_not, Bool.not_true, Bool.not_false, beq_iff_eq, bne_iff_ne, ne_eq, beq_eq_false_iff_ne, bne_eq_false_iff_eq, gt_iff_lt, ge_iff_le, Int.not_lt, Int.not_le] at hc7
    refine c_skip (x_then (hK2 _ _ ?_))
    clear hK2 K2
    refine c_seq (fun K8 hK8 => ?_)
    refine c_seq (fun K9 hK9 => ?_)
    refine c_reg ?_ -- region 5 shift.go:58
    refine wl (ro_move rfl) ?_
    refine wl (ro_fieldAddr (k := 2) rfl fo_110_2) ?_
    refine wl (ro_loadB rfl sc_3 (by assumption) rfl) ?_
    refine wl (ro_cmp rfl rfl rfl) ?_
    refine wl_nil (x_then (hK9 _ _ ?_))
    clear hK9 K9
    refine wc_cond rfl (fun hc18 => ?_) (fun hc18 => ?_)
    · try simp only [decide_eq_true_eq, decide_eq_false_iff_not, Bool.not_eq_true', Bool.not_eq_false', Bool.not_eq_eq_eq_not, Bool.not_true, Bool.not_false, beq_iff_eq, bne_iff_ne, ne_eq, beq_eq_false_iff_ne, bne_eq_false_iff_eq, gt_iff_lt, ge_iff_le, Int.not_lt, Int.not_le] at hc18
      refine c_seq (fun K10 hK10 => ?_)
      refine c_reg ?_ -- region 6 shift.go:59
      refine wl (ro_move rfl) ?_
      refine wl (ro_arith (r := x - 1) rfl rfl rfl (Go.IntWalk.i64_in _ (by omega))) ?_
      refine wl (ro_assign rfl) ?_
      refine wl_nil (x_then (hK10 _ _ ?_))
      clear hK10 K10
      refine c_ret (x_thenR ?_)
      refine bp_ret Tryz.results166 rfl ?_
      exact ⟨by unfold loI; rw [if_neg (by rw [hc7]; decide), if_pos hc18], hF⟩
    · try simp only [decide_eq_true_eq, decide_eq_false_iff_not, Bool.not_eq_true', Bool.not_eq_false', Bool.not_eq_eq_eq_not, Bool.not_true, Bool.not_false, beq_iff_eq, bne_iff_ne, ne_eq, beq_eq_false_iff_ne, bne_eq_false_iff_eq, gt_iff_lt, ge_iff_le, Int.not_lt, Int.not_le] at hc18
      refine c_skip (x_then (hK8 _ _ ?_))
      clear hK8 K8
      refine forget [(1, _)] ⟨rfl, trivial⟩ (fun e => ?_)
      refine c_seq (fun K11 hK11 => ?_)
      refine c_reg ?_ -- region 7 shift.go:61
      refine wl (ro_move rfl) ?_
      refine wl (ro_assign rfl) ?_
      refine wl_nil (x_then (hK11 _ _ ?_))
      clear hK11 K11
      refine c_ret ?_
      refine bp_ret Tryz.results166 rfl ?_
      exact ⟨by unfold loI; rw [if_neg (by rw [hc7]; decide), if_neg (by omega)], hF⟩
theorem high167 {w : World} {rows ins : Bool} {a x : Int} (hx : -100 ≤ x ∧ x ≤ 100) : Ret Tryz.prog 167 [gpA rows ins a, icv x] w (fun v w' => v = icv (hiI ins a x) ∧ Fram none' w w') := by
  have hF : Fram none' w w := Fram.refl _ _
  refine ret_of Tryz.func167 rfl Tryz.ntmps167 rfl ?_
  refine c_seq (fun K1 hK1 => ?_)
  refine c_reg ?_ -- region 0 shift.go:65
  refine wl_box (cs := (gpc rows ins a)) rfl rfl (fun b2 w1 hbb2 h2 F1 => ?_)
  have hbsb2 := Nat.le_trans hF.size hbb2
  replace hF := hF.thenDrew.thenN F1
  refine wl (ro_assign rfl) ?_
  refine wl_nil (x_then (hK1 _ _ ?_))
  clear hK1 K1
  refine c_seq (fun K2 hK2 => ?_)
  refine c_seq (fun K3 hK3 => ?_)
  refine c_reg ?_ -- region 1 shift.go:66
  refine wl (ro_move rfl) ?_
  refine wl (ro_fieldAddr (k := 2) rfl fo_110_2) ?_
  refine wl (ro_loadB rfl sc_3 (by assumption) rfl) ?_
  refine wl (ro_cmp rfl rfl rfl) ?_
  refine wl_nil (x_then (hK3 _ _ ?_))
  clear hK3 K3
  refine wc_cond rfl (fun hc8 => ?_) (fun hc8 => ?_)
  · try simp only [decide_eq_true_eq, decide_eq_false_iff_not, Bool.not_eq_true', Bool.not_eq_false', Bool.not_eq_eq_eq_not, Bool.not_true, Bool.not_false, beq_iff_eq, bne_iff_ne, ne_eq, beq_eq_false_iff_ne, bne_eq_false_iff_eq, gt_iff_lt, ge_iff_le, Int.not_lt, Int.not_le] at hc8
    refine c_seq (fun K4 hK4 => ?_)
    refine c_reg ?_ -- region 2 shift.go:67
    refine wl (ro_move rfl) ?_
    refine wl (ro_fieldAddr (k := 3) rfl fo_110_3) ?_
    refine wl (ro_loadB rfl sc_3 (by assumption) rfl) ?_
    refine wl (ro_arith (r := if ins = true then x + 1 else x - 1) rfl rfl (congrArg some (by cases ins <;> simp <;> omega)) (Go.IntWalk.i64_in _ (by cases ins <;> simp <;> omega))) ?_
    refine wl (ro_assign rfl) ?_
    refine wl_nil (x_then (hK4 _ _ ?_))
    clear hK4 K4
    refine c_ret (x_thenR ?_)
    refine bp_ret Tryz.results167 rfl ?_
    exact ⟨by unfold hiI; rw [if_pos hc8], hF⟩
  · try simp only [decide_eq_true_eq, decide_eq_false_iff_not, Bool.not_eq_true', Bool.not_eq_false', Bool.not_eq_eq_eq_not, Bool.not_true, Bool.not_false, beq_iff_eq, bne_iff_ne, ne_eq, beq_eq_false_iff_ne, bne_eq_false_iff_eq, gt_iff_lt, ge_iff_le, Int.not_lt, Int.not_le] at hc8
    refine c_skip (x_then (hK2 _ _ ?_))
    clear hK2 K2
    refine forget [(1, _)] ⟨rfl, trivial⟩ (fun e => ?_)
    refine c_seq (fun K5 hK5 => ?_)
    refine c_reg ?_ -- region 3 shift.go:69
    refine wl (ro_move rfl) ?_
    refine wl (ro_assign rfl) ?_
    refine wl_nil (x_then (hK5 _ _ ?_))
    clear hK5 K5
    refine c_ret ?_
    refine bp_ret Tryz.results167 rfl ?_
    exact ⟨by unfold hiI; rw [if_neg (by omega)], hF⟩
theorem lnR_bd (rows : Bool) : 4 ≤ lnR rows ∧ lnR rows ≤ 6 := by unfold lnR; split <;> omega
theorem lo_bd' {ins : Bool} {a x : Int} (hx : -100 ≤ x ∧ x ≤ 99) : -101 ≤ loI ins a x ∧ loI ins a x ≤ 100 := by
  unfold loI
  repeat' split
  all_goals omega
theorem hi_bd' {ins : Bool} {a x : Int} (hx : -100 ≤ x ∧ x ≤ 99) : -101 ≤ hiI ins a x ∧ hiI ins a x ≤ 100 := by
  unfold hiI
  repeat' split
  all_goals omega
theorem span128 {w : World} {rows ins : Bool} {a x y : Int} (hx : -100 ≤ x ∧ x ≤ 99) (hy : -100 ≤ y ∧ y ≤ 99) : Ret Tryz.prog 128 [gpA rows ins a, icv x, icv y] w (fun v w' => v = .tuple #[icv (loI ins a x), icv (hcI rows ins a y), .bool (decide (loI ins a x ≤ hcI rows ins a y))] ∧ Fram none' w w') := by
  have hF : Fram none' w w := Fram.refl _ _
  have hl := lnR_bd rows
  have hh := hi_bd' (ins := ins) (a := a) hy
  refine ret_of Tryz.func128 rfl Tryz.ntmps128 rfl ?_
  refine c_seq (fun K1 hK1 => ?_)
  refine c_reg ?_ -- region 0 shift.go:74
  refine wl_box (cs := (gpc rows ins a)) rfl rfl (fun b3 w1 hbb3 h3 F1 => ?_)
  have hbsb3 := Nat.le_trans hF.size hbb3
  replace hF := hF.thenDrew.thenN F1
  refine wl (ro_assign rfl) ?_
  refine wl (ro_assign rfl) ?_
  refine wl (ro_assign rfl) ?_
  refine wl_nil (x_then (hK1 _ _ ?_))
  clear hK1 K1
  refine forget [(1, _), (2, _), (3, _)] ⟨rfl, rfl, rfl, trivial⟩ (fun e => ?_)
  refine c_seq (fun K2 hK2 => ?_)
  refine c_reg ?_ -- region 1 shift.go:75
  refine wl (ro_loadAggB rfl ag_110 (h3) (rfl) (rfl)) ?_
  refine wl (ro_move rfl) ?_
  refine wl_call rfl en_166 (low166 (rows := rows) (ins := ins) (a := a) (by omega)) ?_
  rintro _ u1 ⟨rfl, G1⟩
  replace hF := hF.transG G1 (by intro k hk h; simp only [none'] at h ⊢ <;> omega)
  replace h3 := G1.blkF h3 (by intro h; simp only [none'] at h <;> omega)
  refine wl (ro_assign rfl) ?_
  refine wl_nil (x_then (hK2 _ _ ?_))
  clear hK2 K2
  refine forget [(1, _), (2, _), (3, _)] ⟨rfl, rfl, rfl, trivial⟩ (fun e => ?_)
  refine c_seq (fun K3 hK3 => ?_)
  refine c_reg ?_ -- region 2 shift.go:76
  refine wl (ro_loadAggB rfl ag_110 (h3) (rfl) (rfl)) ?_
  refine wl (ro_move rfl) ?_
  refine wl_call rfl en_167 (high167 (rows := rows) (ins := ins) (a := a) (by omega)) ?_
  rintro _ u2 ⟨rfl, G2⟩
  replace hF := hF.transG G2 (by intro k hk h; simp only [none'] at h ⊢ <;> omega)
  replace h3 := G2.blkF h3 (by intro h; simp only [none'] at h <;> omega)
  refine wl (ro_assign rfl) ?_
  refine wl_nil (x_then (hK3 _ _ ?_))
  clear hK3 K3
  refine c_mid (fun a' w' => Fram none' w w' ∧ ∃ e, a' = Fr 27 (upds e [(1, icv (loI ins a x)), (2, icv (hcI rows ins a y))]) []) ?_ ?_
  · skip
    refine c_seq (fun K4 hK4 => ?_)
    refine c_reg ?_ -- region 3 shift.go:77
    refine wl (ro_move rfl) ?_
    refine wl (ro_fieldAddr (k := 1) rfl fo_110_1) ?_
    refine wl (ro_loadB rfl sc_3 (by assumption) rfl) ?_
    refine wl (ro_cmp rfl rfl rfl) ?_
    refine wl_nil (x_then (hK4 _ _ ?_))
    clear hK4 K4
    refine wc_cond rfl (fun hc18 => ?_) (fun hc18 => ?_)
    · try simp only [decide_eq_true_eq, decide_eq_false_iff_not, Bool.not_eq_true', Bool.not_eq_false', Bool.not_eq_eq_eq_not, Bool.not_true, Bool.not_false, beq_iff_eq, bne_iff_ne, ne_eq, beq_eq_false_iff_ne, bne_eq_false_iff_eq, gt_iff_lt, ge_iff_le, Int.not_lt, Int.not_le] at hc18
      refine c_reg ?_ -- region 4 shift.go:78
      refine wl (ro_fieldAddr (k := 1) rfl fo_110_1) ?_
      refine wl (ro_loadB rfl sc_3 (by assumption) rfl) ?_
      refine wl (ro_arith (r := lnR rows - 1) rfl rfl rfl (Go.IntWalk.i64_in _ (by omega))) ?_
      refine wl (ro_assign rfl) ?_
      refine wl_nil (x_then ?_)
      exact ⟨hF, kp _ ⟨rfl, by unfold hcI; rw [if_pos hc18]; rfl, trivial⟩⟩
    · try simp only [decide_eq_true_eq, decide_eq_false_iff_not, Bool.not_eq_true', Bool.not_eq_false', Bool.not_eq_eq_eq_not, Bool.not_true, Bool.not_false, beq_iff_eq, bne_iff_ne, ne_eq, beq_eq_false_iff_ne, bne_eq_false_iff_eq, gt_iff_lt, ge_iff_le, Int.not_lt, Int.not_le] at hc18
      refine c_skip (x_then ?_)
      exact ⟨hF, kp _ ⟨rfl, by unfold hcI; rw [if_neg (by omega)]; rfl, trivial⟩⟩
  clear hF h3
  rintro a' u3 ⟨hF, e, rfl⟩
  refine c_seq (fun K5 hK5 => ?_)
  refine c_reg ?_ -- region 5 shift.go:80
  refine wl (ro_move rfl) ?_
  refine wl (ro_move rfl) ?_
  refine wl (ro_move rfl) ?_
  refine wl (ro_move rfl) ?_
  refine wl (ro_cmp (r := decide (loI ins a x ≤ hcI rows ins a y)) rfl rfl rfl) ?_
  refine wl (ro_assign rfl) ?_
  refine wl (ro_assign rfl) ?_
  refine wl (ro_assign rfl) ?_
  refine wl_nil (x_then (hK5 _ _ ?_))
  clear hK5 K5
  refine c_ret ?_
  refine bp_ret Tryz.results128 rfl ?_
  exact ⟨rfl, hF⟩
theorem kill107 {w : World} {n : List Nd} {nb i : Nat} (hN : Blk w.heap nb (rws ndc n) 143) (hi : i < n.length) : Ret Tryz.prog 107 [pAt nb (i * 13)] w (fun _ w' => Blk w'.heap nb (rws ndc (n.set i nBad)) 143 ∧ Fram (one nb) w w') := by
  have hF : Fram (one nb) w w := Fram.refl _ _
  have hm1 : one nb nb := rfl
  refine ret_of Tryz.func107 rfl Tryz.ntmps107 rfl ?_
  refine c_reg ?_ -- region 0 shift.go:85
  refine wl (ro_move rfl) ?_
  refine wl (ro_build rfl bld_143_0_2_3) ?_
  refine wl (ro_nilCheck rfl) ?_
  refine wl_puta rfl rfl ((ndc_cells nBad)) sz_143 (rfl) hN ((rw_fit ndc_len (i := i) (j := 0) (m := 13) hi (by omega) (by omega))) ((rw_puta ndc_len (i := i) (x' := nBad) hi (by omega))) (fun w1 hN F1 => ?_)
  replace hF := hF.thenDrew.thenO F1 (by first | exact .inr (by omega) | exact .inl rfl | exact .inl (by assumption))
  refine wl_nil ?_
  refine bp_end Tryz.results107 rfl ?_
  exact ⟨hN, hF⟩
theorem source71 {w : World} {rows ins : Bool} {a : Int} {c : Nat} (ha : 0 ≤ a ∧ a < lnR rows) (hc : c < 24) : Ret Tryz.prog 71 [gpA rows ins a, i64c c] w (fun v w' => v = icv (srcI rows ins a c) ∧ Fram none' w w') := by
  have hF : Fram none' w w := Fram.refl _ _
  have hl := lnR_bd rows
  refine ret_of Tryz.func71 rfl Tryz.ntmps71 rfl ?_
  refine c_seq (fun K1 hK1 => ?_)
  refine c_reg ?_ -- region 0 shift.go:29
  refine wl_box (cs := (gpc rows ins a)) rfl rfl (fun b2 w1 hbb2 h2 F1 => ?_)
  have hbsb2 := Nat.le_trans hF.size hbb2
  replace hF := hF.thenDrew.thenN F1
  refine wl (ro_assign rfl) ?_
  refine wl_nil (x_then (hK1 _ _ ?_))
  clear hK1 K1
  refine forget [(1, _), (2, _)] ⟨rfl, rfl, trivial⟩ (fun e => ?_)
  refine c_seq (fun K2 hK2 => ?_)
  refine c_reg ?_ -- region 1 shift.go:30
  refine wl (ro_move rfl) ?_
  refine wl (ro_remN (b := 4) rfl rfl (by omega)) ?_
  refine wl (ro_move rfl) ?_
  refine wl (ro_quoN (b := 4) rfl rfl (by omega) (by omega)) ?_
  refine wl (ro_assign rfl) ?_
  refine wl (ro_assign rfl) ?_
  refine wl_nil (x_then (hK2 _ _ ?_))
  clear hK2 K2
  refine forget [(2, _), (5, _), (6, _)] ⟨rfl, rfl, rfl, trivial⟩ (fun e => ?_)
  refine c_seq (fun K3 hK3 => ?_)
  refine c_reg ?_ -- region 2 shift.go:31
  refine wl (ro_move rfl) ?_
  refine wl (ro_assign rfl) ?_
  refine wl_nil (x_then (hK3 _ _ ?_))
  clear hK3 K3
  refine c_mid (fun a' w' => Fram none' w w' ∧ Blk w'.heap b2 (gpc rows ins a) 110 ∧ ∃ e, a' = Fr 47 (upds e [(2, ptr b2), (5, i64c (c % 4)), (6, i64c (c / 4)), (7, icv (if rows = true then ((c / 4 : Nat) : Int) else ((c % 4 : Nat) : Int)))]) []) ?_ ?_
  · skip
    refine c_seq (fun K4 hK4 => ?_)
    refine c_reg ?_ -- region 3 shift.go:32
    refine wl (ro_fieldAddr (k := 0) rfl fo_110_0) ?_
    refine wl (ro_loadB rfl sc_4 (by assumption) rfl) ?_
    refine wl_nil (x_then (hK4 _ _ ?_))
    clear hK4 K4
    refine wc_cond rfl (fun hc14 => ?_) (fun hc14 => ?_)
    · try simp only [decide_eq_true_eq, decide_eq_false_iff_not, Bool.not_eq_true', Bool.not_eq_false', Bool.not_eq_eq_eq_not, Bool.not_true, Bool.not_false, beq_iff_eq, bne_iff_ne, ne_eq, beq_eq_false_iff_ne, bne_eq_false_iff_eq, gt_iff_lt, ge_iff_le, Int.not_lt, Int.not_le] at hc14
      refine c_reg ?_ -- region 4 shift.go:33
      refine wl (ro_move rfl) ?_
      refine wl (ro_assign rfl) ?_
      refine wl_nil (x_then ?_)
      exact ⟨hF, h2, kp _ ⟨rfl, rfl, rfl, by rw [if_pos hc14]; rfl, trivial⟩⟩
    · try simp only [decide_eq_true_eq, decide_eq_false_iff_not, Bool.not_eq_true', Bool.not_eq_false', Bool.not_eq_eq_eq_not, Bool.not_true, Bool.not_false, beq_iff_eq, bne_iff_ne, ne_eq, beq_eq_false_iff_ne, bne_eq_false_iff_eq, gt_iff_lt, ge_iff_le, Int.not_lt, Int.not_le] at hc14
      refine c_skip (x_then ?_)
      exact ⟨hF, h2, kp _ ⟨rfl, rfl, rfl, by rw [if_neg (by rw [hc14]; decide)]; rfl, trivial⟩⟩
  clear hF h2
  rintro a' u3 ⟨hF, h2, e, rfl⟩
  have hv0 : 0 ≤ (if rows = true then ((c / 4 : Nat) : Int) else ((c % 4 : Nat) : Int)) ∧ (if rows = true then ((c / 4 : Nat) : Int) else ((c % 4 : Nat) : Int)) < lnR rows := by
    unfold lnR
    cases rows <;> simp <;> omega
  have hsr : srcI rows ins a c = if a ≤ (if rows = true then ((c / 4 : Nat) : Int) else ((c % 4 : Nat) : Int)) then (if ins = true then (if (if rows = true then ((c / 4 : Nat) : Int) else ((c % 4 : Nat) : Int)) = a then -1 else (c : Int) - (if rows = true then 4 else 1)) else (if lnR rows ≤ (if rows = true then ((c / 4 : Nat) : Int) else ((c % 4 : Nat) : Int)) + 1 then -1 else (c : Int) + (if rows = true then 4 else 1))) else c := rfl
  have hcv : (if rows = true then (if rows = true then ((c / 4 : Nat) : Int) else ((c % 4 : Nat) : Int)) * 4 + ((c % 4 : Nat) : Int) else ((c / 4 : Nat) : Int) * 4 + (if rows = true then ((c / 4 : Nat) : Int) else ((c % 4 : Nat) : Int))) = (c : Int) := by cases rows <;> simp <;> omega
  generalize (if rows = true then ((c / 4 : Nat) : Int) else ((c % 4 : Nat) : Int)) = v at hsr hv0 hcv ⊢
  refine c_mid (fun a' w' => Fram none' w w' ∧ Blk w'.heap b2 (gpc rows ins a) 110 ∧ ∃ v', 0 ≤ v' ∧ v' < lnR rows ∧ srcI rows ins a c = (c : Int) + (v' - v) * (if rows = true then 4 else 1) ∧ ∃ e, a' = Fr 47 (upds e [(2, ptr b2), (5, i64c (c % 4)), (6, i64c (c / 4)), (7, icv v')]) []) ?_ ?_
  · skip
    refine c_seq (fun K5 hK5 => ?_)
    refine c_reg ?_ -- region 5 shift.go:35
    refine wl (ro_move rfl) ?_
    refine wl (ro_fieldAddr (k := 2) rfl fo_110_2) ?_
    refine wl (ro_loadB rfl sc_3 (by assumption) rfl) ?_
    refine wl (ro_cmp rfl rfl rfl) ?_
    refine wl_nil (x_then (hK5 _ _ ?_))
    clear hK5 K5
    refine wc_cond rfl (fun hc19 => ?_) (fun hc19 => ?_)
    · try simp only [decide_eq_true_eq, decide_eq_false_iff_not, Bool.not_eq_true', Bool.not_eq_false', Bool.not_eq_eq_eq_not, Bool.not_true, Bool.not_false, beq_iff_eq, bne_iff_ne, ne_eq, beq_eq_false_iff_ne, bne_eq_false_iff_eq, gt_iff_lt, ge_iff_le, Int.not_lt, Int.not_le] at hc19
      refine c_seq (fun K6 hK6 => ?_)
      refine c_seq (fun K7 hK7 => ?_)
      refine c_reg ?_ -- region 6 shift.go:36
      refine wl (ro_fieldAddr (k := 3) rfl fo_110_3) ?_
      refine wl (ro_loadB rfl sc_3 (by assumption) rfl) ?_
      refine wl (ro_cmp (r := ins) rfl rfl (congrArg some (by cases ins <;> rfl))) ?_
      refine wl_fork rfl (fun hg23 => ?_) (fun hg23 => ?_)
      · try simp only [decide_eq_true_eq, decide_eq_false_iff_not, Bool.not_eq_true', Bool.not_eq_false', Bool.not_eq_eq_eq_not, Bool.not_true, Bool.not_false, beq_iff_eq, bne_iff_ne, ne_eq, beq_eq_false_iff_ne, bne_eq_false_iff_eq, gt_iff_lt, ge_iff_le, Int.not_lt, Int.not_le] at hg23
        refine wlg_yes rfl (ro_move rfl) ?_
        refine wlg_yes rfl (ro_fieldAddr (k := 2) rfl fo_110_2) ?_
        refine wlg_yes rfl (ro_loadB rfl sc_3 (by assumption) rfl) ?_
        refine wlg_yes rfl (ro_cmp rfl rfl rfl) ?_
        refine wl (ro_pick rfl rfl rfl) ?_
        refine wl_nil (x_then (hK7 _ _ ?_))
        clear hK7 K7
        refine wc_cond rfl (fun hc28 => ?_) (fun hc28 => ?_)
        · try simp only [decide_eq_true_eq, decide_eq_false_iff_not, Bool.not_eq_true', Bool.not_eq_false', Bool.not_eq_eq_eq_not, Bool.not_true, Bool.not_false, beq_iff_eq, bne_iff_ne, ne_eq, beq_eq_false_iff_ne, bne_eq_false_iff_eq, gt_iff_lt, ge_iff_le, Int.not_lt, Int.not_le] at hc28
          refine c_seq (fun K8 hK8 => ?_)
          refine c_reg ?_ -- region 7 shift.go:37
          refine wl (ro_assign rfl) ?_
          refine wl_nil (x_then (hK8 _ _ ?_))
          clear hK8 K8
          refine c_ret (x_thenR (x_thenR ?_))
          refine bp_ret Tryz.results71 rfl ?_
          refine ⟨congrArg icv ?_, hF⟩
          rw [hsr, if_pos hc19, if_pos hg23, if_pos hc28]
        · try simp only [decide_eq_true_eq, decide_eq_false_iff_not, Bool.not_eq_true', Bool.not_eq_false', Bool.not_eq_eq_eq_not, Bool.not_true, Bool.not_false, beq_iff_eq, bne_iff_ne, ne_eq, beq_eq_false_iff_ne, bne_eq_false_iff_eq, gt_iff_lt, ge_iff_le, Int.not_lt, Int.not_le] at hc28
          refine c_skip (x_then (hK6 _ _ ?_))
          clear hK6 K6
          refine forget [(2, _), (5, _), (6, _), (7, _)] ⟨rfl, rfl, rfl, rfl, trivial⟩ (fun e => ?_)
          refine c_seq (fun K9 hK9 => ?_)
          refine c_reg ?_ -- region 8 shift.go:39
          refine wl (ro_move rfl) ?_
          refine wl (ro_fieldAddr (k := 3) rfl fo_110_3) ?_
          refine wl (ro_loadB rfl sc_3 (by assumption) rfl) ?_
          refine wl (ro_arith (r := if ins = true then v - 1 else v + 1) rfl rfl (congrArg some (by cases ins <;> simp <;> omega)) (Go.IntWalk.i64_in _ (by cases ins <;> simp <;> omega))) ?_
          refine wl (ro_assign rfl) ?_
          refine wl_nil (x_then (hK9 _ _ ?_))
          clear hK9 K9
          refine forget [(2, _), (5, _), (6, _), (7, _)] ⟨rfl, rfl, rfl, rfl, trivial⟩ (fun e => ?_)
          refine c_seq (fun K10 hK10 => ?_)
          refine c_reg ?_ -- region 9 shift.go:40
          refine wl (ro_move rfl) ?_
          refine wl (ro_fieldAddr (k := 1) rfl fo_110_1) ?_
          refine wl (ro_loadB rfl sc_3 (by assumption) rfl) ?_
          refine wl (ro_cmp rfl rfl rfl) ?_
          refine wl_nil (x_then (hK10 _ _ ?_))
          clear hK10 K10
          refine wc_cond rfl (fun hc36 => ?_) (fun hc36 => ?_)
          · try simp only [decide_eq_true_eq, decide_eq_false_iff_not, Bool.not_eq_true', Bool.not_eq_false', Bool.not_eq_eq_eq_not, Bool.not_true, Bool.not_false, beq_iff_eq, bne_iff_ne, ne_eq, beq_eq_false_iff_ne, bne_eq_false_iff_eq, gt_iff_lt, ge_iff_le, Int.not_lt, Int.not_le] at hc36
            refine c_seq (fun K11 hK11 => ?_)
            refine c_reg ?_ -- region 10 shift.go:41
            refine wl (ro_assign rfl) ?_
            refine wl_nil (x_then (hK11 _ _ ?_))
            clear hK11 K11
            refine c_ret (x_thenR ?_)
            refine bp_ret Tryz.results71 rfl ?_
            exfalso
            rw [if_pos hg23] at hc36
            omega
          · try simp only [decide_eq_true_eq, decide_eq_false_iff_not, Bool.not_eq_true', Bool.not_eq_false', Bool.not_eq_eq_eq_not, Bool.not_true, Bool.not_false, beq_iff_eq, bne_iff_ne, ne_eq, beq_eq_false_iff_ne, bne_eq_false_iff_eq, gt_iff_lt, ge_iff_le, Int.not_lt, Int.not_le] at hc36
            refine c_skip (x_then ?_)
            refine ⟨hF, h2, if ins = true then v - 1 else v + 1, ?_, ?_, ?_, kp _ ⟨rfl, rfl, rfl, rfl, trivial⟩⟩
            · rw [if_pos hg23]; omega
            · rw [if_pos hg23]; omega
            · rw [hsr, if_pos hc19, if_pos hg23, if_neg hc28, if_pos hg23]
              cases rows <;> simp <;> omega
      · try simp only [decide_eq_true_eq, decide_eq_false_iff_not, Bool.not_eq_true', Bool.not_eq_false', Bool.not_eq_eq_eq_not, Bool.not_true, Bool.not_false, beq_iff_eq, bne_iff_ne, ne_eq, beq_eq_false_iff_ne, bne_eq_false_iff_eq, gt_iff_lt, ge_iff_le, Int.not_lt, Int.not_le] at hg23
        refine wlg_no rfl ?_
        refine wlg_no rfl ?_
        refine wlg_no rfl ?_
        refine wlg_no rfl ?_
        refine wl (ro_pick rfl rfl rfl) ?_
        refine wl_nil (x_then (hK7 _ _ ?_))
        clear hK7 K7
        refine wc_condF rfl ?_
        refine c_skip (x_then (hK6 _ _ ?_))
        clear hK6 K6
        refine forget [(2, _), (5, _), (6, _), (7, _)] ⟨rfl, rfl, rfl, rfl, trivial⟩ (fun e => ?_)
        refine c_seq (fun K12 hK12 => ?_)
        refine c_reg ?_ -- region 8 shift.go:39
        refine wl (ro_move rfl) ?_
        refine wl (ro_fieldAddr (k := 3) rfl fo_110_3) ?_
        refine wl (ro_loadB rfl sc_3 (by assumption) rfl) ?_
        refine wl (ro_arith (r := if ins = true then v - 1 else v + 1) rfl rfl (congrArg some (by cases ins <;> simp <;> omega)) (Go.IntWalk.i64_in _ (by cases ins <;> simp <;> omega))) ?_
        refine wl (ro_assign rfl) ?_
        refine wl_nil (x_then (hK12 _ _ ?_))
        clear hK12 K12
        refine forget [(2, _), (5, _), (6, _), (7, _)] ⟨rfl, rfl, rfl, rfl, trivial⟩ (fun e => ?_)
        refine c_seq (fun K13 hK13 => ?_)
        refine c_reg ?_ -- region 9 shift.go:40
        refine wl (ro_move rfl) ?_
        refine wl (ro_fieldAddr (k := 1) rfl fo_110_1) ?_
        refine wl (ro_loadB rfl sc_3 (by assumption) rfl) ?_
        refine wl (ro_cmp rfl rfl rfl) ?_
        refine wl_nil (x_then (hK13 _ _ ?_))
        clear hK13 K13
        refine wc_cond rfl (fun hc36 => ?_) (fun hc36 => ?_)
        · try simp only [decide_eq_true_eq, decide_eq_false_iff_not, Bool.not_eq_true', Bool.not_eq_false', Bool.not_eq_eq_eq_not, Bool.not_true, Bool.not_false, beq_iff_eq, bne_iff_ne, ne_eq, beq_eq_false_iff_ne, bne_eq_false_iff_eq, gt_iff_lt, ge_iff_le, Int.not_lt, Int.not_le] at hc36
          refine c_seq (fun K14 hK14 => ?_)
          refine c_reg ?_ -- region 10 shift.go:41
          refine wl (ro_assign rfl) ?_
          refine wl_nil (x_then (hK14 _ _ ?_))
          clear hK14 K14
          refine c_ret (x_thenR ?_)
          refine bp_ret Tryz.results71 rfl ?_
          refine ⟨congrArg icv ?_, hF⟩
          rw [if_neg (by rw [hg23]; decide)] at hc36
          rw [hsr, if_pos hc19, if_neg (by rw [hg23]; decide), if_pos hc36]
        · try simp only [decide_eq_true_eq, decide_eq_false_iff_not, Bool.not_eq_true', Bool.not_eq_false', Bool.not_eq_eq_eq_not, Bool.not_true, Bool.not_false, beq_iff_eq, bne_iff_ne, ne_eq, beq_eq_false_iff_ne, bne_eq_false_iff_eq, gt_iff_lt, ge_iff_le, Int.not_lt, Int.not_le] at hc36
          refine c_skip (x_then ?_)
          rw [if_neg (by rw [hg23]; decide)] at hc36
          refine ⟨hF, h2, if ins = true then v - 1 else v + 1, ?_, ?_, ?_, kp _ ⟨rfl, rfl, rfl, rfl, trivial⟩⟩
          · rw [if_neg (by rw [hg23]; decide)]; omega
          · rw [if_neg (by rw [hg23]; decide)]; omega
          · rw [hsr, if_pos hc19, if_neg (by rw [hg23]; decide), if_neg (by omega), show (if ins = true then v - 1 else v + 1) = v + 1 by rw [hg23]; rfl]
            cases rows <;> simp <;> omega
    · try simp only [decide_eq_true_eq, decide_eq_false_iff_not, Bool.not_eq_true', Bool.not_eq_false', Bool.not_eq_eq_eq_not, Bool.not_true, Bool.not_false, beq_iff_eq, bne_iff_ne, ne_eq, beq_eq_false_iff_ne, bne_eq_false_iff_eq, gt_iff_lt, ge_iff_le, Int.not_lt, Int.not_le] at hc19
      refine c_skip (x_then ?_)
      refine ⟨hF, h2, v, hv0.1, hv0.2, ?_, kp _ ⟨rfl, rfl, rfl, rfl, trivial⟩⟩
      rw [hsr, if_neg (by omega)]
      simp
  clear hF h2
  rintro a' u4 ⟨hF, h2, v', hv1, hv2, hsv, e, rfl⟩
  refine c_seq (fun K15 hK15 => ?_)
  refine c_seq (fun K16 hK16 => ?_)
  refine c_reg ?_ -- region 11 shift.go:44
  refine wl (ro_fieldAddr (k := 0) rfl fo_110_0) ?_
  refine wl (ro_loadB rfl sc_4 (by assumption) rfl) ?_
  refine wl_nil (x_then (hK16 _ _ ?_))
  clear hK16 K16
  refine wc_cond rfl (fun hc38 => ?_) (fun hc38 => ?_)
  · try simp only [decide_eq_true_eq, decide_eq_false_iff_not, Bool.not_eq_true', Bool.not_eq_false', Bool.not_eq_eq_eq_not, Bool.not_true, Bool.not_false, beq_iff_eq, bne_iff_ne, ne_eq, beq_eq_false_iff_ne, bne_eq_false_iff_eq, gt_iff_lt, ge_iff_le, Int.not_lt, Int.not_le] at hc38
    refine c_seq (fun K17 hK17 => ?_)
    refine c_reg ?_ -- region 12 shift.go:45
    refine wl (ro_move rfl) ?_
    refine wl (ro_arith (r := v' * 4) rfl rfl rfl (Go.IntWalk.i64_in _ (by omega))) ?_
    refine wl (ro_move rfl) ?_
    refine wl (ro_arith (r := v' * 4 + ((c % 4 : Nat) : Int)) rfl rfl rfl (Go.IntWalk.i64_in _ (by omega))) ?_
    refine wl (ro_assign rfl) ?_
    refine wl_nil (x_then (hK17 _ _ ?_))
    clear hK17 K17
    refine c_ret (x_thenR ?_)
    refine bp_ret Tryz.results71 rfl ?_
    refine ⟨congrArg icv ?_, hF⟩
    rw [if_pos hc38] at hcv hsv
    rw [hsv]
    omega
  · try simp only [decide_eq_true_eq, decide_eq_false_iff_not, Bool.not_eq_true', Bool.not_eq_false', Bool.not_eq_eq_eq_not, Bool.not_true, Bool.not_false, beq_iff_eq, bne_iff_ne, ne_eq, beq_eq_false_iff_ne, bne_eq_false_iff_eq, gt_iff_lt, ge_iff_le, Int.not_lt, Int.not_le] at hc38
    refine c_skip (x_then (hK15 _ _ ?_))
    clear hK15 K15
    refine forget [(6, _), (7, _)] ⟨rfl, rfl, trivial⟩ (fun e => ?_)
    refine c_seq (fun K18 hK18 => ?_)
    refine c_reg ?_ -- region 13 shift.go:47
    refine wl (ro_move rfl) ?_
    refine wl (ro_arith (r := ((c / 4 : Nat) : Int) * 4) rfl rfl rfl (Go.IntWalk.i64_in _ (by omega))) ?_
    refine wl (ro_move rfl) ?_
    refine wl (ro_arith (r := ((c / 4 : Nat) : Int) * 4 + v') rfl rfl rfl (Go.IntWalk.i64_in _ (by omega))) ?_
    refine wl (ro_assign rfl) ?_
    refine wl_nil (x_then (hK18 _ _ ?_))
    clear hK18 K18
    refine c_ret ?_
    refine bp_ret Tryz.results71 rfl ?_
    refine ⟨congrArg icv ?_, hF⟩
    rw [if_neg (by rw [hc38]; decide)] at hcv hsv
    rw [hsv]
    omega

abbrev setP (x : Nd) (p : Rf) : Nd := { x with p := p }
abbrev setQ (x : Nd) (q : Rf) : Nd := { x with q := q }
set_option maxHeartbeats 2000000 in
theorem shiftRef99 {w : World} {rows ins : Bool} {a : Int} {n : List Nd} {nb i : Nat} {x : Nd} (hN : Blk w.heap nb (rws ndc n) 143) (hx : n[i]? = some x) (hg : gridR x.p = true) : Ret Tryz.prog 99 [gpA rows ins a, pAt nb (i * 13)] w (fun _ w' => Blk w'.heap nb (rws ndc (n.set i (shP rows ins a x))) 143 ∧ Fram (one nb) w w') := by
  have hF : Fram (one nb) w w := Fram.refl _ _
  have hm1 : one nb nb := rfl
  have hi := (List.getElem?_eq_some_iff.1 hx).1
  have hgt := gt_bd (rows := rows) hg
  have hl := lnR_bd rows
  refine ret_of Tryz.func99 rfl Tryz.ntmps99 rfl ?_
  refine c_seq (fun K1 hK1 => ?_)
  refine c_reg ?_ -- region 0 shift.go:89
  refine wl_box (cs := (gpc rows ins a)) rfl rfl (fun b2 w1 hbb2 h2 F1 => ?_)
  have hbsb2 := Nat.le_trans hF.size hbb2
  have hnenbb2 : nb < b2 := Nat.lt_of_lt_of_le hN.lt hbb2
  replace hF := hF.thenDrew.thenN F1
  replace hN := F1.blkN hN
  refine wl_nil (x_then (hK1 _ _ ?_))
  clear hK1 K1
  refine forget [(1, _), (2, _)] ⟨rfl, rfl, trivial⟩ (fun e => ?_)
  refine c_seq (fun K2 hK2 => ?_)
  refine c_reg ?_ -- region 1 shift.go:90
  refine wl (ro_move rfl) ?_
  refine wl (ro_nilCheck rfl) ?_
  refine wl (ro_fieldAddr (k := 5) rfl fo_143_5) ?_
  refine wl (ro_fieldAddr (k := 0) rfl fo_141_0) ?_
  refine wl (ro_loadB rfl sc_3 (hN) ((rw_get ndc_len hx (j := 5) (by omega) rfl))) ?_
  refine wl (ro_assign rfl) ?_
  refine wl_nil (x_then (hK2 _ _ ?_))
  clear hK2 K2
  refine c_mid (fun a' w' => Fram (one nb) w w' ∧ Blk w'.heap b2 (gpc rows ins a) 110 ∧ Blk w'.heap nb (rws ndc n) 143 ∧ ∃ e, a' = Fr 44 (upds e [(1, pAt nb (i * 13)), (2, ptr b2), (4, icv (gtR rows x.p))]) []) ?_ ?_
  · skip
    refine c_seq (fun K3 hK3 => ?_)
    refine c_reg ?_ -- region 2 shift.go:91
    refine wl (ro_fieldAddr (k := 0) rfl fo_110_0) ?_
    refine wl (ro_loadB rfl sc_4 (by assumption) rfl) ?_
    refine wl_nil (x_then (hK3 _ _ ?_))
    clear hK3 K3
    refine wc_cond rfl (fun hc14 => ?_) (fun hc14 => ?_)
    · try simp only [decide_eq_true_eq, decide_eq_false_iff_not, Bool.not_eq_true', Bool.not_eq_false', Bool.not_eq_eq_eq_not, Bool.not_true, Bool.not_false, beq_iff_eq, bne_iff_ne, ne_eq, beq_eq_false_iff_ne, bne_eq_false_iff_eq, gt_iff_lt, ge_iff_le, Int.not_lt, Int.not_le] at hc14
      refine c_reg ?_ -- region 3 shift.go:92
      refine wl (ro_move rfl) ?_
      refine wl (ro_nilCheck rfl) ?_
      refine wl (ro_fieldAddr (k := 5) rfl fo_143_5) ?_
      refine wl (ro_fieldAddr (k := 1) rfl fo_141_1) ?_
      refine wl (ro_loadB rfl sc_3 (hN) ((rw_get ndc_len hx (j := 6) (by omega) rfl))) ?_
      refine wl (ro_assign rfl) ?_
      refine wl_nil (x_then ?_)
      exact ⟨hF, h2, hN, kp _ ⟨rfl, rfl, by unfold gtR; rw [if_pos hc14]; rfl, trivial⟩⟩
    · try simp only [decide_eq_true_eq, decide_eq_false_iff_not, Bool.not_eq_true', Bool.not_eq_false', Bool.not_eq_eq_eq_not, Bool.not_true, Bool.not_false, beq_iff_eq, bne_iff_ne, ne_eq, beq_eq_false_iff_ne, bne_eq_false_iff_eq, gt_iff_lt, ge_iff_le, Int.not_lt, Int.not_le] at hc14
      refine c_skip (x_then ?_)
      exact ⟨hF, h2, hN, kp _ ⟨rfl, rfl, by unfold gtR; rw [if_neg (by rw [hc14]; decide)]; rfl, trivial⟩⟩
  clear hF h2 hN
  rintro a' u3 ⟨hF, h2, hN, e, rfl⟩
  refine c_seq (fun K4 hK4 => ?_)
  refine c_reg ?_ -- region 4 shift.go:94
  refine wl (ro_loadAggB rfl ag_110 (h2) (rfl) (rfl)) ?_
  refine wl (ro_move rfl) ?_
  refine wl (ro_move rfl) ?_
  refine wl_call rfl en_128 (span128 (rows := rows) (ins := ins) (a := a) (by omega) (by omega)) ?_
  rintro _ u4 ⟨rfl, G4⟩
  replace hF := hF.transG G4 (by intro k hk h; simp only [none', one] at h ⊢ <;> omega)
  replace h2 := G4.blkF h2 (by intro h; simp only [none', one] at h <;> omega)
  replace hN := G4.blkF hN (by intro h; simp only [none', one] at h <;> omega)
  refine wl (ro_move rfl) ?_
  refine wl (ro_extract rfl rfl) ?_
  refine wl (ro_extract rfl rfl) ?_
  refine wl (ro_extract rfl rfl) ?_
  refine wl (ro_assign rfl) ?_
  refine wl (ro_assign rfl) ?_
  refine wl (ro_assign rfl) ?_
  refine wl_nil (x_then (hK4 _ _ ?_))
  clear hK4 K4
  refine c_seq (fun K5 hK5 => ?_)
  refine c_seq (fun K6 hK6 => ?_)
  refine c_reg ?_ -- region 5 shift.go:95
  refine wl (ro_move rfl) ?_
  refine wl (ro_not rfl) ?_
  refine wl_nil (x_then (hK6 _ _ ?_))
  clear hK6 K6
  refine wc_cond rfl (fun hc29 => ?_) (fun hc29 => ?_)
  · try simp only [decide_eq_true_eq, decide_eq_false_iff_not, Bool.not_eq_true', Bool.not_eq_false', Bool.not_eq_eq_eq_not, Bool.not_true, Bool.not_false, beq_iff_eq, bne_iff_ne, ne_eq, beq_eq_false_iff_ne, bne_eq_false_iff_eq, gt_iff_lt, ge_iff_le, Int.not_lt, Int.not_le] at hc29
    have hsh : shP rows ins a x = nBad := by unfold shP; rw [if_neg (by omega)]
    rw [hsh]
    refine c_seq (fun K7 hK7 => ?_)
    refine c_reg ?_ -- region 6 shift.go:96
    refine wl (ro_move rfl) ?_
    refine wl_call rfl en_107 (kill107 hN hi) ?_
    rintro _ u5 ⟨hN5, G5⟩
    replace hF := hF.trans G5
    refine wl_nil (x_then (hK7 _ _ ?_))
    clear hK7 K7
    refine c_ret (x_thenR ?_)
    refine bp_ret Tryz.results99 rfl ?_
    exact ⟨hN5, hF⟩
  · try simp only [decide_eq_true_eq, decide_eq_false_iff_not, Bool.not_eq_true', Bool.not_eq_false', Bool.not_eq_eq_eq_not, Bool.not_true, Bool.not_false, beq_iff_eq, bne_iff_ne, ne_eq, beq_eq_false_iff_ne, bne_eq_false_iff_eq, gt_iff_lt, ge_iff_le, Int.not_lt, Int.not_le] at hc29
    have hsh : shP rows ins a x = { x with p := mvR rows x.p (loI ins a (gtR rows x.p)) } := by unfold shP; rw [if_pos (by omega)]
    refine c_skip (x_then (hK5 _ _ ?_))
    clear hK5 K5
    refine forget [(1, _), (2, _), (5, _)] ⟨rfl, rfl, rfl, trivial⟩ (fun e => ?_)
    refine c_seq (fun K8 hK8 => ?_)
    refine c_reg ?_ -- region 7 shift.go:99
    refine wl (ro_fieldAddr (k := 0) rfl fo_110_0) ?_
    refine wl (ro_loadB rfl sc_4 (by assumption) rfl) ?_
    refine wl_nil (x_then (hK8 _ _ ?_))
    clear hK8 K8
    refine wc_cond rfl (fun hc33 => ?_) (fun hc33 => ?_)
    · try simp only [decide_eq_true_eq, decide_eq_false_iff_not, Bool.not_eq_true', Bool.not_eq_false', Bool.not_eq_eq_eq_not, Bool.not_true, Bool.not_false, beq_iff_eq, bne_iff_ne, ne_eq, beq_eq_false_iff_ne, bne_eq_false_iff_eq, gt_iff_lt, ge_iff_le, Int.not_lt, Int.not_le] at hc33
      refine c_reg ?_ -- region 8 shift.go:100
      refine wl (ro_move rfl) ?_
      refine wl (ro_move rfl) ?_
      refine wl (ro_nilCheck rfl) ?_
      refine wl (ro_fieldAddr (k := 5) rfl fo_143_5) ?_
      refine wl (ro_fieldAddr (k := 1) rfl fo_141_1) ?_
      refine wl_put rfl rfl rfl sz_3 hN ((rw_fit ndc_len (i := i) (j := 6) (m := 1) hi (by omega) (by omega))) ((rw_put ndc_len (i := i) (j := 6) (x' := setP x { x.p with r := loI ins a (gtR rows x.p) }) hx (by omega) (by omega) rfl)) (fun w2 hN F2 => ?_)
      replace hF := hF.thenDrew.thenO F2 (by first | exact .inr (by omega) | exact .inl rfl | exact .inl (by assumption))
      replace h2 := F2.blkO h2 (by omega)
      refine wl_nil ?_
      refine bp_end Tryz.results99 rfl ?_
      rw [hsh, show mvR rows x.p (loI ins a (gtR rows x.p)) = { x.p with r := loI ins a (gtR rows x.p) } by unfold mvR; rw [if_pos hc33]]
      exact ⟨hN, hF⟩
    · try simp only [decide_eq_true_eq, decide_eq_false_iff_not, Bool.not_eq_true', Bool.not_eq_false', Bool.not_eq_eq_eq_not, Bool.not_true, Bool.not_false, beq_iff_eq, bne_iff_ne, ne_eq, beq_eq_false_iff_ne, bne_eq_false_iff_eq, gt_iff_lt, ge_iff_le, Int.not_lt, Int.not_le] at hc33
      refine c_reg ?_ -- region 9 shift.go:102
      refine wl (ro_move rfl) ?_
      refine wl (ro_move rfl) ?_
      refine wl (ro_nilCheck rfl) ?_
      refine wl (ro_fieldAddr (k := 5) rfl fo_143_5) ?_
      refine wl (ro_fieldAddr (k := 0) rfl fo_141_0) ?_
      refine wl_put rfl rfl rfl sz_3 hN ((rw_fit ndc_len (i := i) (j := 5) (m := 1) hi (by omega) (by omega))) ((rw_put ndc_len (i := i) (j := 5) (x' := setP x { x.p with c := loI ins a (gtR rows x.p) }) hx (by omega) (by omega) rfl)) (fun w3 hN F3 => ?_)
      replace hF := hF.thenDrew.thenO F3 (by first | exact .inr (by omega) | exact .inl rfl | exact .inl (by assumption))
      replace h2 := F3.blkO h2 (by omega)
      refine wl_nil ?_
      refine bp_end Tryz.results99 rfl ?_
      rw [hsh, show mvR rows x.p (loI ins a (gtR rows x.p)) = { x.p with c := loI ins a (gtR rows x.p) } by unfold mvR; rw [if_neg (by rw [hc33]; decide)]]
      exact ⟨hN, hF⟩
set_option maxHeartbeats 4000000 in
theorem shiftRange100 {w : World} {rows ins : Bool} {a : Int} {n : List Nd} {nb i : Nat} {x : Nd} (hN : Blk w.heap nb (rws ndc n) 143) (hx : n[i]? = some x) (hg : gridR x.p = true) (hg2 : gridR x.q = true) : Ret Tryz.prog 100 [gpA rows ins a, pAt nb (i * 13)] w (fun _ w' => Blk w'.heap nb (rws ndc (n.set i (shQ rows ins a x))) 143 ∧ Fram (one nb) w w') := by
  have hF : Fram (one nb) w w := Fram.refl _ _
  have hm1 : one nb nb := rfl
  have hi := (List.getElem?_eq_some_iff.1 hx).1
  have hgt := gt_bd (rows := rows) hg
  have hgt2 := gt_bd (rows := rows) hg2
  have hl := lnR_bd rows
  refine ret_of Tryz.func100 rfl Tryz.ntmps100 rfl ?_
  refine c_seq (fun K1 hK1 => ?_)
  refine c_reg ?_ -- region 0 shift.go:107
  refine wl_box (cs := (gpc rows ins a)) rfl rfl (fun b2 w1 hbb2 h2 F1 => ?_)
  have hbsb2 := Nat.le_trans hF.size hbb2
  have hnenbb2 : nb < b2 := Nat.lt_of_lt_of_le hN.lt hbb2
  replace hF := hF.thenDrew.thenN F1
  replace hN := F1.blkN hN
  refine wl_nil (x_then (hK1 _ _ ?_))
  clear hK1 K1
  refine forget [(1, _), (2, _)] ⟨rfl, rfl, trivial⟩ (fun e => ?_)
  refine c_seq (fun K2 hK2 => ?_)
  refine c_pi [(0, false), (1, false), (2, false), (3, false), (4, false), (5, false), (6, false), (7, false), (8, false), (9, false), (10, false), (11, false)] (SameH _) mixed (by kernel_rfl) rfl (by kernel_rfl) (po_then (po_bp)) (sameH_now _ _) ?_ -- region 1 shift.go:108
  refine pi_ro rfl (fun w hS => ro_move rfl) ?_
  refine pi_ro rfl (fun w hS => ro_nilCheck rfl) ?_
  refine pi_ro rfl (fun w hS => ro_fieldAddr (k := 5) rfl fo_143_5) ?_
  refine pi_ro rfl (fun w hS => ro_fieldAddr (k := 0) rfl fo_141_0) ?_
  refine pi_ro rfl (fun w hS => ro_loadB rfl sc_3 (Blk.of_heap hN hS) ((rw_get ndc_len hx (j := 5) (by omega) rfl))) ?_
  refine pi_ro rfl (fun w hS => ro_move rfl) ?_
  refine pi_ro rfl (fun w hS => ro_nilCheck rfl) ?_
  refine pi_ro rfl (fun w hS => ro_fieldAddr (k := 9) rfl fo_143_6) ?_
  refine pi_ro rfl (fun w hS => ro_fieldAddr (k := 0) rfl fo_141_0) ?_
  refine pi_ro rfl (fun w hS => ro_loadB rfl sc_3 (Blk.of_heap hN hS) ((rw_get ndc_len hx (j := 9) (by omega) rfl))) ?_
  refine pi_ro rfl (fun w hS => ro_assign rfl) ?_
  refine pi_ro rfl (fun w hS => ro_assign rfl) ?_
  refine pi_nil (x_then (hK2 _ _ ?_))
  clear hK2 K2
  refine c_mid (fun a' w' => Fram (one nb) w w' ∧ Blk w'.heap b2 (gpc rows ins a) 110 ∧ Blk w'.heap nb (rws ndc n) 143 ∧ ∃ e, a' = Fr 74 (upds e [(1, pAt nb (i * 13)), (2, ptr b2), (4, icv (gtR rows x.p)), (5, icv (gtR rows x.q))]) []) ?_ ?_
  · skip
    refine c_seq (fun K3 hK3 => ?_)
    refine c_reg ?_ -- region 2 shift.go:109
    refine wl (ro_fieldAddr (k := 0) rfl fo_110_0) ?_
    refine wl (ro_loadB rfl sc_4 (by assumption) rfl) ?_
    refine wl_nil (x_then (hK3 _ _ ?_))
    clear hK3 K3
    refine wc_cond rfl (fun hc18 => ?_) (fun hc18 => ?_)
    · try simp only [decide_eq_true_eq, decide_eq_false_iff_not, Bool.not_eq_true', Bool.not_eq_false', Bool.not_eq_eq_eq_not, Bool.not_true, Bool.not_false, beq_iff_eq, bne_iff_ne, ne_eq, beq_eq_false_iff_ne, bne_eq_false_iff_eq, gt_iff_lt, ge_iff_le, Int.not_lt, Int.not_le] at hc18
      refine c_pi [(0, false), (1, false), (2, false), (3, false), (4, false), (5, false), (6, false), (7, false), (8, false), (9, false), (10, false), (11, false)] (SameH _) mixed (by kernel_rfl) rfl (by kernel_rfl) (po_then (po_bp)) (sameH_now _ _) ?_ -- region 3 shift.go:110
      refine pi_ro rfl (fun w hS => ro_move rfl) ?_
      refine pi_ro rfl (fun w hS => ro_nilCheck rfl) ?_
      refine pi_ro rfl (fun w hS => ro_fieldAddr (k := 5) rfl fo_143_5) ?_
      refine pi_ro rfl (fun w hS => ro_fieldAddr (k := 1) rfl fo_141_1) ?_
      refine pi_ro rfl (fun w hS => ro_loadB rfl sc_3 (Blk.of_heap hN hS) ((rw_get ndc_len hx (j := 6) (by omega) rfl))) ?_
      refine pi_ro rfl (fun w hS => ro_move rfl) ?_
      refine pi_ro rfl (fun w hS => ro_nilCheck rfl) ?_
      refine pi_ro rfl (fun w hS => ro_fieldAddr (k := 9) rfl fo_143_6) ?_
      refine pi_ro rfl (fun w hS => ro_fieldAddr (k := 1) rfl fo_141_1) ?_
      refine pi_ro rfl (fun w hS => ro_loadB rfl sc_3 (Blk.of_heap hN hS) ((rw_get ndc_len hx (j := 10) (by omega) rfl))) ?_
      refine pi_ro rfl (fun w hS => ro_assign rfl) ?_
      refine pi_ro rfl (fun w hS => ro_assign rfl) ?_
      refine pi_nil (x_then ?_)
      exact ⟨hF.thenDrew.thenDrew, h2, hN, kp _ ⟨rfl, rfl, by unfold gtR; rw [if_pos hc18]; rfl, by unfold gtR; rw [if_pos hc18]; rfl, trivial⟩⟩
    · try simp only [decide_eq_true_eq, decide_eq_false_iff_not, Bool.not_eq_true', Bool.not_eq_false', Bool.not_eq_eq_eq_not, Bool.not_true, Bool.not_false, beq_iff_eq, bne_iff_ne, ne_eq, beq_eq_false_iff_ne, bne_eq_false_iff_eq, gt_iff_lt, ge_iff_le, Int.not_lt, Int.not_le] at hc18
      refine c_skip (x_then ?_)
      exact ⟨hF.thenDrew, h2, hN, kp _ ⟨rfl, rfl, by unfold gtR; rw [if_neg (by rw [hc18]; decide)]; rfl, by unfold gtR; rw [if_neg (by rw [hc18]; decide)]; rfl, trivial⟩⟩
  clear hF h2 hN
  rintro a' u3 ⟨hF, h2, hN, e, rfl⟩
  refine c_seq (fun K4 hK4 => ?_)
  refine c_reg ?_ -- region 4 shift.go:112
  refine wl (ro_assign rfl) ?_
  refine wl_nil (x_then (hK4 _ _ ?_))
  clear hK4 K4
  refine c_mid (fun a' w' => Fram (one nb) w w' ∧ Blk w'.heap b2 (gpc rows ins a) 110 ∧ Blk w'.heap nb (rws ndc n) 143 ∧ ∃ (ok : Bool) (p q : Int), shQ rows ins a x = (if ok = true then { x with p := mvR rows x.p p, q := mvR rows x.q q } else nBad) ∧ ∃ e, a' = Fr 74 (upds e [(1, pAt nb (i * 13)), (2, ptr b2), (4, icv p), (5, icv q), (6, .bool ok)]) []) ?_ ?_
  · skip
    refine c_seq (fun K5 hK5 => ?_)
    refine c_reg ?_ -- region 5 shift.go:113
    refine wl (ro_move rfl) ?_
    refine wl (ro_move rfl) ?_
    refine wl (ro_cmp rfl rfl rfl) ?_
    refine wl_nil (x_then (hK5 _ _ ?_))
    clear hK5 K5
    refine wc_cond rfl (fun hc31 => ?_) (fun hc31 => ?_)
    · try simp only [decide_eq_true_eq, decide_eq_false_iff_not, Bool.not_eq_true', Bool.not_eq_false', Bool.not_eq_eq_eq_not, Bool.not_true, Bool.not_false, beq_iff_eq, bne_iff_ne, ne_eq, beq_eq_false_iff_ne, bne_eq_false_iff_eq, gt_iff_lt, ge_iff_le, Int.not_lt, Int.not_le] at hc31
      refine c_reg ?_ -- region 6 shift.go:114
      refine wl (ro_loadAggB rfl ag_110 (h2) (rfl) (rfl)) ?_
      refine wl (ro_move rfl) ?_
      refine wl (ro_move rfl) ?_
      refine wl_call rfl en_128 (span128 (rows := rows) (ins := ins) (a := a) (by omega) (by omega)) ?_
      rintro _ u4 ⟨rfl, G4⟩
      replace hF := hF.transG G4 (by intro k hk h; simp only [none', one] at h ⊢ <;> omega)
      replace h2 := G4.blkF h2 (by intro h; simp only [none', one] at h <;> omega)
      replace hN := G4.blkF hN (by intro h; simp only [none', one] at h <;> omega)
      refine wl (ro_move rfl) ?_
      refine wl (ro_extract rfl rfl) ?_
      refine wl (ro_extract rfl rfl) ?_
      refine wl (ro_extract rfl rfl) ?_
      refine wl (ro_assign rfl) ?_
      refine wl (ro_assign rfl) ?_
      refine wl (ro_assign rfl) ?_
      refine wl_nil (x_then ?_)
      exact ⟨hF, h2, hN, _, _, _, by unfold shQ; rw [if_pos hc31]; simp only [decide_eq_true_eq], kp _ ⟨rfl, rfl, rfl, rfl, rfl, trivial⟩⟩
    · try simp only [decide_eq_true_eq, decide_eq_false_iff_not, Bool.not_eq_true', Bool.not_eq_false', Bool.not_eq_eq_eq_not, Bool.not_true, Bool.not_false, beq_iff_eq, bne_iff_ne, ne_eq, beq_eq_false_iff_ne, bne_eq_false_iff_eq, gt_iff_lt, ge_iff_le, Int.not_lt, Int.not_le] at hc31
      refine c_reg ?_ -- region 7 shift.go:116
      refine wl (ro_loadAggB rfl ag_110 (h2) (rfl) (rfl)) ?_
      refine wl (ro_move rfl) ?_
      refine wl (ro_move rfl) ?_
      refine wl_call rfl en_128 (span128 (rows := rows) (ins := ins) (a := a) (by omega) (by omega)) ?_
      rintro _ u4 ⟨rfl, G4⟩
      replace hF := hF.transG G4 (by intro k hk h; simp only [none', one] at h ⊢ <;> omega)
      replace h2 := G4.blkF h2 (by intro h; simp only [none', one] at h <;> omega)
      replace hN := G4.blkF hN (by intro h; simp only [none', one] at h <;> omega)
      refine wl (ro_move rfl) ?_
      refine wl (ro_extract rfl rfl) ?_
      refine wl (ro_extract rfl rfl) ?_
      refine wl (ro_extract rfl rfl) ?_
      refine wl (ro_assign rfl) ?_
      refine wl (ro_assign rfl) ?_
      refine wl (ro_assign rfl) ?_
      refine wl_nil (x_then ?_)
      exact ⟨hF, h2, hN, _, _, _, by unfold shQ; rw [if_neg (by omega)]; simp only [decide_eq_true_eq], kp _ ⟨rfl, rfl, rfl, rfl, rfl, trivial⟩⟩
  clear hF h2 hN
  rintro a' u5 ⟨hF, h2, hN, ok, p, q, hsh, e, rfl⟩
  refine c_seq (fun K6 hK6 => ?_)
  refine c_seq (fun K7 hK7 => ?_)
  refine c_reg ?_ -- region 8 shift.go:118
  refine wl (ro_move rfl) ?_
  refine wl (ro_not rfl) ?_
  refine wl_nil (x_then (hK7 _ _ ?_))
  clear hK7 K7
  refine wc_cond rfl (fun hc49 => ?_) (fun hc49 => ?_)
  · try simp only [decide_eq_true_eq, decide_eq_false_iff_not, Bool.not_eq_true', Bool.not_eq_false', Bool.not_eq_eq_eq_not, Bool.not_true, Bool.not_false, beq_iff_eq, bne_iff_ne, ne_eq, beq_eq_false_iff_ne, bne_eq_false_iff_eq, gt_iff_lt, ge_iff_le, Int.not_lt, Int.not_le] at hc49
    rw [if_neg (by rw [hc49]; decide)] at hsh
    rw [hsh]
    refine c_seq (fun K8 hK8 => ?_)
    refine c_reg ?_ -- region 9 shift.go:119
    refine wl (ro_move rfl) ?_
    refine wl_call rfl en_107 (kill107 hN hi) ?_
    rintro _ u6 ⟨hN6, G6⟩
    replace hF := hF.trans G6
    refine wl_nil (x_then (hK8 _ _ ?_))
    clear hK8 K8
    refine c_ret (x_thenR ?_)
    refine bp_ret Tryz.results100 rfl ?_
    exact ⟨hN6, hF⟩
  · try simp only [decide_eq_true_eq, decide_eq_false_iff_not, Bool.not_eq_true', Bool.not_eq_false', Bool.not_eq_eq_eq_not, Bool.not_true, Bool.not_false, beq_iff_eq, bne_iff_ne, ne_eq, beq_eq_false_iff_ne, bne_eq_false_iff_eq, gt_iff_lt, ge_iff_le, Int.not_lt, Int.not_le] at hc49
    rw [if_pos hc49] at hsh
    refine c_skip (x_then (hK6 _ _ ?_))
    clear hK6 K6
    refine forget [(1, _), (2, _), (4, _), (5, _)] ⟨rfl, rfl, rfl, rfl, trivial⟩ (fun e => ?_)
    refine c_seq (fun K9 hK9 => ?_)
    refine c_reg ?_ -- region 10 shift.go:122
    refine wl (ro_fieldAddr (k := 0) rfl fo_110_0) ?_
    refine wl (ro_loadB rfl sc_4 (by assumption) rfl) ?_
    refine wl_nil (x_then (hK9 _ _ ?_))
    clear hK9 K9
    refine wc_cond rfl (fun hc53 => ?_) (fun hc53 => ?_)
    · try simp only [decide_eq_true_eq, decide_eq_false_iff_not, Bool.not_eq_true', Bool.not_eq_false', Bool.not_eq_eq_eq_not, Bool.not_true, Bool.not_false, beq_iff_eq, bne_iff_ne, ne_eq, beq_eq_false_iff_ne, bne_eq_false_iff_eq, gt_iff_lt, ge_iff_le, Int.not_lt, Int.not_le] at hc53
      refine c_seq (fun K10 hK10 => ?_)
      refine c_reg ?_ -- region 11 shift.go:123
      refine wl (ro_move rfl) ?_
      refine wl (ro_move rfl) ?_
      refine wl (ro_nilCheck rfl) ?_
      refine wl (ro_fieldAddr (k := 5) rfl fo_143_5) ?_
      refine wl (ro_fieldAddr (k := 1) rfl fo_141_1) ?_
      refine wl_put rfl rfl rfl sz_3 hN ((rw_fit ndc_len (i := i) (j := 6) (m := 1) hi (by omega) (by omega))) ((rw_put ndc_len (i := i) (j := 6) (x' := setP x { x.p with r := p }) hx (by omega) (by omega) rfl)) (fun w2 hN F2 => ?_)
      replace hF := hF.thenDrew.thenO F2 (by first | exact .inr (by omega) | exact .inl rfl | exact .inl (by assumption))
      replace h2 := F2.blkO h2 (by omega)
      refine wl_nil (x_then (hK10 _ _ ?_))
      clear hK10 K10
      refine c_reg ?_ -- region 12 shift.go:124
      refine wl (ro_move rfl) ?_
      refine wl (ro_move rfl) ?_
      refine wl (ro_nilCheck rfl) ?_
      refine wl (ro_fieldAddr (k := 9) rfl fo_143_6) ?_
      refine wl (ro_fieldAddr (k := 1) rfl fo_141_1) ?_
      refine wl_put rfl rfl rfl sz_3 hN ((rw_fit ndc_len (i := i) (j := 10) (m := 1) (by rw [List.length_set]; exact hi) (by omega) (by omega))) ((rw_put ndc_len (i := i) (j := 10) (x := setP x { x.p with r := p }) (x' := setQ (setP x { x.p with r := p }) { x.q with r := q }) (by rw [List.getElem?_set]; simp [hi]) (by omega) (by omega) rfl)) (fun w3 hN F3 => ?_)
      replace hF := hF.thenDrew.thenO F3 (by first | exact .inr (by omega) | exact .inl rfl | exact .inl (by assumption))
      replace h2 := F3.blkO h2 (by omega)
      refine wl_nil ?_
      refine bp_end Tryz.results100 rfl ?_
      rw [List.set_set] at hN
      rw [hsh, show mvR rows x.p p = { x.p with r := p } by unfold mvR; rw [if_pos hc53], show mvR rows x.q q = { x.q with r := q } by unfold mvR; rw [if_pos hc53]]
      exact ⟨hN, hF⟩
    · try simp only [decide_eq_true_eq, decide_eq_false_iff_not, Bool.not_eq_true', Bool.not_eq_false', Bool.not_eq_eq_eq_not, Bool.not_true, Bool.not_false, beq_iff_eq, bne_iff_ne, ne_eq, beq_eq_false_iff_ne, bne_eq_false_iff_eq, gt_iff_lt, ge_iff_le, Int.not_lt, Int.not_le] at hc53
      refine c_seq (fun K11 hK11 => ?_)
      refine c_reg ?_ -- region 13 shift.go:126
      refine wl (ro_move rfl) ?_
      refine wl (ro_move rfl) ?_
      refine wl (ro_nilCheck rfl) ?_
      refine wl (ro_fieldAddr (k := 5) rfl fo_143_5) ?_
      refine wl (ro_fieldAddr (k := 0) rfl fo_141_0) ?_
      refine wl_put rfl rfl rfl sz_3 hN ((rw_fit ndc_len (i := i) (j := 5) (m := 1) hi (by omega) (by omega))) ((rw_put ndc_len (i := i) (j := 5) (x' := setP x { x.p with c := p }) hx (by omega) (by omega) rfl)) (fun w4 hN F4 => ?_)
      replace hF := hF.thenDrew.thenO F4 (by first | exact .inr (by omega) | exact .inl rfl | exact .inl (by assumption))
      replace h2 := F4.blkO h2 (by omega)
      refine wl_nil (x_then (hK11 _ _ ?_))
      clear hK11 K11
      refine c_reg ?_ -- region 14 shift.go:127
      refine wl (ro_move rfl) ?_
      refine wl (ro_move rfl) ?_
      refine wl (ro_nilCheck rfl) ?_
      refine wl (ro_fieldAddr (k := 9) rfl fo_143_6) ?_
      refine wl (ro_fieldAddr (k := 0) rfl fo_141_0) ?_
      refine wl_put rfl rfl rfl sz_3 hN ((rw_fit ndc_len (i := i) (j := 9) (m := 1) (by rw [List.length_set]; exact hi) (by omega) (by omega))) ((rw_put ndc_len (i := i) (j := 9) (x := setP x { x.p with c := p }) (x' := setQ (setP x { x.p with c := p }) { x.q with c := q }) (by rw [List.getElem?_set]; simp [hi]) (by omega) (by omega) rfl)) (fun w5 hN F5 => ?_)
      replace hF := hF.thenDrew.thenO F5 (by first | exact .inr (by omega) | exact .inl rfl | exact .inl (by assumption))
      replace h2 := F5.blkO h2 (by omega)
      refine wl_nil ?_
      refine bp_end Tryz.results100 rfl ?_
      rw [List.set_set] at hN
      rw [hsh, show mvR rows x.p p = { x.p with c := p } by unfold mvR; rw [if_neg (by rw [hc53]; decide)], show mvR rows x.q q = { x.q with c := q } by unfold mvR; rw [if_neg (by rw [hc53]; decide)]]
      exact ⟨hN, hF⟩

end Go.Proofs.Qxb6500570aGreat
