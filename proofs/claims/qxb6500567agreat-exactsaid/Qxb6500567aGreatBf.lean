import Derived.Test.Qxb6500567aGreatBe
/- Hex digits and the named sets. -/
namespace Go.Proofs.Qxb6500567aGreat
set_option linter.unusedVariables false
set_option linter.unusedSimpArgs false

theorem nibble142 {w : World} {b : UInt8} : Ret Tryz.prog 142 [u8c b] w (fun r w' => r = icv (hexv b) ∧ w' = w) := by
  have hb : b.toNat < 256 := b.toBitVec.isLt
  have hq : b.toNat < 48 ∨ (48 ≤ b.toNat ∧ b.toNat ≤ 57) ∨ (57 < b.toNat ∧ b.toNat < 65) ∨ (65 ≤ b.toNat ∧ b.toNat ≤ 70) ∨ (70 < b.toNat ∧ b.toNat < 97) ∨ (97 ≤ b.toNat ∧ b.toNat ≤ 102) ∨ 102 < b.toNat := by omega
  rcases hq with q | q | q | q | q | q | q
  · have hx : hexv b = -1 := by unfold hexv; rw [isDig_not.2 (by omega), if_neg (by simp), if_neg (by omega), if_neg (by omega)]
    refine ret_of Tryz.func142 rfl Tryz.ntmps142 rfl ?_
    refine c_seq (fun K1 hK1 => ?_)
    refine c_reg ?_ -- region 0 class.go:46
    refine wl (ro_assign rfl) ?_
    refine wl_nil (x_then (hK1 _ _ ?_))
    clear hK1 K1
    refine forget [(0, _)] ⟨rfl, trivial⟩ (fun e => ?_)
    refine c_seq (fun K2 hK2 => ?_)
    refine c_block ?_
    refine c_seq (fun K3 hK3 => ?_)
    refine c_reg ?_ -- region 1 class.go:48
    refine wl (ro_move rfl) ?_
    refine wl (ro_cmp (r := false) rfl rfl (congrArg some (decide_eq_false (by omega)))) ?_
    refine wl (ro_move rfl) ?_
    refine wlg_no rfl ?_
    refine wlg_no rfl ?_
    refine wl (ro_pick rfl rfl rfl) ?_
    refine wl (ro_assign rfl) ?_
    refine wl_nil (x_then (hK3 _ _ ?_))
    clear hK3 K3
    refine wc_condF rfl ?_
    refine c_seq (fun K4 hK4 => ?_)
    refine c_reg ?_ -- region 3 class.go:50
    refine wl (ro_move rfl) ?_
    refine wl (ro_cmp (r := false) rfl rfl (congrArg some (decide_eq_false (by omega)))) ?_
    refine wl (ro_move rfl) ?_
    refine wlg_no rfl ?_
    refine wlg_no rfl ?_
    refine wl (ro_pick rfl rfl rfl) ?_
    refine wl (ro_assign rfl) ?_
    refine wl_nil (x_then (hK4 _ _ ?_))
    clear hK4 K4
    refine wc_condF rfl ?_
    refine c_seq (fun K5 hK5 => ?_)
    refine c_reg ?_ -- region 5 class.go:52
    refine wl (ro_move rfl) ?_
    refine wl (ro_cmp (r := false) rfl rfl (congrArg some (decide_eq_false (by omega)))) ?_
    refine wl (ro_move rfl) ?_
    refine wlg_no rfl ?_
    refine wlg_no rfl ?_
    refine wl (ro_pick rfl rfl rfl) ?_
    refine wl (ro_assign rfl) ?_
    refine wl_nil (x_then (hK5 _ _ ?_))
    clear hK5 K5
    refine wc_condF rfl ?_
    refine c_skip (x_blk (x_then (hK2 _ _ ?_)))
    clear hK2 K2
    refine forget [] trivial (fun e => ?_)
    refine c_seq (fun K6 hK6 => ?_)
    refine c_reg ?_ -- region 7 class.go:55
    refine wl (ro_assign rfl) ?_
    refine wl_nil (x_then (hK6 _ _ ?_))
    clear hK6 K6
    refine c_ret ?_
    refine bp_ret Tryz.results142 rfl ?_
    exact ⟨by first | (rw [hx]; done) | (rw [hx]; simp only [icv]; congr 1; omega), rfl⟩
  · have hx : hexv b = (b.toNat : Int) - 48 := by unfold hexv; rw [isDig_iff.2 q, if_pos rfl]
    refine ret_of Tryz.func142 rfl Tryz.ntmps142 rfl ?_
    refine c_seq (fun K1 hK1 => ?_)
    refine c_reg ?_ -- region 0 class.go:46
    refine wl (ro_assign rfl) ?_
    refine wl_nil (x_then (hK1 _ _ ?_))
    clear hK1 K1
    refine forget [(0, _)] ⟨rfl, trivial⟩ (fun e => ?_)
    refine c_seq (fun K2 hK2 => ?_)
    refine c_block ?_
    refine c_seq (fun K3 hK3 => ?_)
    refine c_reg ?_ -- region 1 class.go:48
    refine wl (ro_move rfl) ?_
    refine wl (ro_cmp (r := true) rfl rfl (congrArg some (decide_eq_true (by omega)))) ?_
    refine wl (ro_move rfl) ?_
    refine wlg_yes rfl (ro_move rfl) ?_
    refine wlg_yes rfl (ro_cmp (r := true) rfl rfl (congrArg some (decide_eq_true (by omega)))) ?_
    refine wl (ro_pick rfl rfl rfl) ?_
    refine wl (ro_assign rfl) ?_
    refine wl_nil (x_then (hK3 _ _ ?_))
    clear hK3 K3
    refine wc_condT rfl ?_
    refine c_seq (fun K4 hK4 => ?_)
    refine c_reg ?_ -- region 2 class.go:49
    refine wl (ro_move rfl) ?_
    refine wl (ro_conv rfl sc_5 in_3 (Go.IntWalk.i64_in _ (by omega))) ?_
    refine wl (ro_arith rfl rfl rfl (Go.IntWalk.i64_in _ (by omega))) ?_
    refine wl (ro_assign rfl) ?_
    refine wl_nil (x_then (hK4 _ _ ?_))
    clear hK4 K4
    refine c_ret (x_blkR (x_thenR ?_))
    refine bp_ret Tryz.results142 rfl ?_
    exact ⟨by first | (rw [hx]; done) | (rw [hx]; simp only [icv]; congr 1; omega), rfl⟩
  · have hx : hexv b = -1 := by unfold hexv; rw [isDig_not.2 (by omega), if_neg (by simp), if_neg (by omega), if_neg (by omega)]
    refine ret_of Tryz.func142 rfl Tryz.ntmps142 rfl ?_
    refine c_seq (fun K1 hK1 => ?_)
    refine c_reg ?_ -- region 0 class.go:46
    refine wl (ro_assign rfl) ?_
    refine wl_nil (x_then (hK1 _ _ ?_))
    clear hK1 K1
    refine forget [(0, _)] ⟨rfl, trivial⟩ (fun e => ?_)
    refine c_seq (fun K2 hK2 => ?_)
    refine c_block ?_
    refine c_seq (fun K3 hK3 => ?_)
    refine c_reg ?_ -- region 1 class.go:48
    refine wl (ro_move rfl) ?_
    refine wl (ro_cmp (r := true) rfl rfl (congrArg some (decide_eq_true (by omega)))) ?_
    refine wl (ro_move rfl) ?_
    refine wlg_yes rfl (ro_move rfl) ?_
    refine wlg_yes rfl (ro_cmp (r := false) rfl rfl (congrArg some (decide_eq_false (by omega)))) ?_
    refine wl (ro_pick rfl rfl rfl) ?_
    refine wl (ro_assign rfl) ?_
    refine wl_nil (x_then (hK3 _ _ ?_))
    clear hK3 K3
    refine wc_condF rfl ?_
    refine c_seq (fun K4 hK4 => ?_)
    refine c_reg ?_ -- region 3 class.go:50
    refine wl (ro_move rfl) ?_
    refine wl (ro_cmp (r := false) rfl rfl (congrArg some (decide_eq_false (by omega)))) ?_
    refine wl (ro_move rfl) ?_
    refine wlg_no rfl ?_
    refine wlg_no rfl ?_
    refine wl (ro_pick rfl rfl rfl) ?_
    refine wl (ro_assign rfl) ?_
    refine wl_nil (x_then (hK4 _ _ ?_))
    clear hK4 K4
    refine wc_condF rfl ?_
    refine c_seq (fun K5 hK5 => ?_)
    refine c_reg ?_ -- region 5 class.go:52
    refine wl (ro_move rfl) ?_
    refine wl (ro_cmp (r := false) rfl rfl (congrArg some (decide_eq_false (by omega)))) ?_
    refine wl (ro_move rfl) ?_
    refine wlg_no rfl ?_
    refine wlg_no rfl ?_
    refine wl (ro_pick rfl rfl rfl) ?_
    refine wl (ro_assign rfl) ?_
    refine wl_nil (x_then (hK5 _ _ ?_))
    clear hK5 K5
    refine wc_condF rfl ?_
    refine c_skip (x_blk (x_then (hK2 _ _ ?_)))
    clear hK2 K2
    refine forget [] trivial (fun e => ?_)
    refine c_seq (fun K6 hK6 => ?_)
    refine c_reg ?_ -- region 7 class.go:55
    refine wl (ro_assign rfl) ?_
    refine wl_nil (x_then (hK6 _ _ ?_))
    clear hK6 K6
    refine c_ret ?_
    refine bp_ret Tryz.results142 rfl ?_
    exact ⟨by first | (rw [hx]; done) | (rw [hx]; simp only [icv]; congr 1; omega), rfl⟩
  · have hx : hexv b = (b.toNat : Int) - 55 := by unfold hexv; rw [isDig_not.2 (by omega), if_neg (by simp), if_neg (by omega), if_pos (by omega)]
    refine ret_of Tryz.func142 rfl Tryz.ntmps142 rfl ?_
    refine c_seq (fun K1 hK1 => ?_)
    refine c_reg ?_ -- region 0 class.go:46
    refine wl (ro_assign rfl) ?_
    refine wl_nil (x_then (hK1 _ _ ?_))
    clear hK1 K1
    refine forget [(0, _)] ⟨rfl, trivial⟩ (fun e => ?_)
    refine c_seq (fun K2 hK2 => ?_)
    refine c_block ?_
    refine c_seq (fun K3 hK3 => ?_)
    refine c_reg ?_ -- region 1 class.go:48
    refine wl (ro_move rfl) ?_
    refine wl (ro_cmp (r := true) rfl rfl (congrArg some (decide_eq_true (by omega)))) ?_
    refine wl (ro_move rfl) ?_
    refine wlg_yes rfl (ro_move rfl) ?_
    refine wlg_yes rfl (ro_cmp (r := false) rfl rfl (congrArg some (decide_eq_false (by omega)))) ?_
    refine wl (ro_pick rfl rfl rfl) ?_
    refine wl (ro_assign rfl) ?_
    refine wl_nil (x_then (hK3 _ _ ?_))
    clear hK3 K3
    refine wc_condF rfl ?_
    refine c_seq (fun K4 hK4 => ?_)
    refine c_reg ?_ -- region 3 class.go:50
    refine wl (ro_move rfl) ?_
    refine wl (ro_cmp (r := false) rfl rfl (congrArg some (decide_eq_false (by omega)))) ?_
    refine wl (ro_move rfl) ?_
    refine wlg_no rfl ?_
    refine wlg_no rfl ?_
    refine wl (ro_pick rfl rfl rfl) ?_
    refine wl (ro_assign rfl) ?_
    refine wl_nil (x_then (hK4 _ _ ?_))
    clear hK4 K4
    refine wc_condF rfl ?_
    refine c_seq (fun K5 hK5 => ?_)
    refine c_reg ?_ -- region 5 class.go:52
    refine wl (ro_move rfl) ?_
    refine wl (ro_cmp (r := true) rfl rfl (congrArg some (decide_eq_true (by omega)))) ?_
    refine wl (ro_move rfl) ?_
    refine wlg_yes rfl (ro_move rfl) ?_
    refine wlg_yes rfl (ro_cmp (r := true) rfl rfl (congrArg some (decide_eq_true (by omega)))) ?_
    refine wl (ro_pick rfl rfl rfl) ?_
    refine wl (ro_assign rfl) ?_
    refine wl_nil (x_then (hK5 _ _ ?_))
    clear hK5 K5
    refine wc_condT rfl ?_
    refine c_seq (fun K6 hK6 => ?_)
    refine c_reg ?_ -- region 6 class.go:53
    refine wl (ro_move rfl) ?_
    refine wl (ro_conv rfl sc_5 in_3 (Go.IntWalk.i64_in _ (by omega))) ?_
    refine wl (ro_arith rfl rfl rfl (Go.IntWalk.i64_in _ (by omega))) ?_
    refine wl (ro_arith rfl rfl rfl (Go.IntWalk.i64_in _ (by omega))) ?_
    refine wl (ro_assign rfl) ?_
    refine wl_nil (x_then (hK6 _ _ ?_))
    clear hK6 K6
    refine c_ret (x_blkR (x_thenR ?_))
    refine bp_ret Tryz.results142 rfl ?_
    exact ⟨by first | (rw [hx]; done) | (rw [hx]; simp only [icv]; congr 1; omega), rfl⟩
  · have hx : hexv b = -1 := by unfold hexv; rw [isDig_not.2 (by omega), if_neg (by simp), if_neg (by omega), if_neg (by omega)]
    refine ret_of Tryz.func142 rfl Tryz.ntmps142 rfl ?_
    refine c_seq (fun K1 hK1 => ?_)
    refine c_reg ?_ -- region 0 class.go:46
    refine wl (ro_assign rfl) ?_
    refine wl_nil (x_then (hK1 _ _ ?_))
    clear hK1 K1
    refine forget [(0, _)] ⟨rfl, trivial⟩ (fun e => ?_)
    refine c_seq (fun K2 hK2 => ?_)
    refine c_block ?_
    refine c_seq (fun K3 hK3 => ?_)
    refine c_reg ?_ -- region 1 class.go:48
    refine wl (ro_move rfl) ?_
    refine wl (ro_cmp (r := true) rfl rfl (congrArg some (decide_eq_true (by omega)))) ?_
    refine wl (ro_move rfl) ?_
    refine wlg_yes rfl (ro_move rfl) ?_
    refine wlg_yes rfl (ro_cmp (r := false) rfl rfl (congrArg some (decide_eq_false (by omega)))) ?_
    refine wl (ro_pick rfl rfl rfl) ?_
    refine wl (ro_assign rfl) ?_
    refine wl_nil (x_then (hK3 _ _ ?_))
    clear hK3 K3
    refine wc_condF rfl ?_
    refine c_seq (fun K4 hK4 => ?_)
    refine c_reg ?_ -- region 3 class.go:50
    refine wl (ro_move rfl) ?_
    refine wl (ro_cmp (r := false) rfl rfl (congrArg some (decide_eq_false (by omega)))) ?_
    refine wl (ro_move rfl) ?_
    refine wlg_no rfl ?_
    refine wlg_no rfl ?_
    refine wl (ro_pick rfl rfl rfl) ?_
    refine wl (ro_assign rfl) ?_
    refine wl_nil (x_then (hK4 _ _ ?_))
    clear hK4 K4
    refine wc_condF rfl ?_
    refine c_seq (fun K5 hK5 => ?_)
    refine c_reg ?_ -- region 5 class.go:52
    refine wl (ro_move rfl) ?_
    refine wl (ro_cmp (r := true) rfl rfl (congrArg some (decide_eq_true (by omega)))) ?_
    refine wl (ro_move rfl) ?_
    refine wlg_yes rfl (ro_move rfl) ?_
    refine wlg_yes rfl (ro_cmp (r := false) rfl rfl (congrArg some (decide_eq_false (by omega)))) ?_
    refine wl (ro_pick rfl rfl rfl) ?_
    refine wl (ro_assign rfl) ?_
    refine wl_nil (x_then (hK5 _ _ ?_))
    clear hK5 K5
    refine wc_condF rfl ?_
    refine c_skip (x_blk (x_then (hK2 _ _ ?_)))
    clear hK2 K2
    refine forget [] trivial (fun e => ?_)
    refine c_seq (fun K6 hK6 => ?_)
    refine c_reg ?_ -- region 7 class.go:55
    refine wl (ro_assign rfl) ?_
    refine wl_nil (x_then (hK6 _ _ ?_))
    clear hK6 K6
    refine c_ret ?_
    refine bp_ret Tryz.results142 rfl ?_
    exact ⟨by first | (rw [hx]; done) | (rw [hx]; simp only [icv]; congr 1; omega), rfl⟩
  · have hx : hexv b = (b.toNat : Int) - 87 := by unfold hexv; rw [isDig_not.2 (by omega), if_neg (by simp), if_pos (by omega)]
    refine ret_of Tryz.func142 rfl Tryz.ntmps142 rfl ?_
    refine c_seq (fun K1 hK1 => ?_)
    refine c_reg ?_ -- region 0 class.go:46
    refine wl (ro_assign rfl) ?_
    refine wl_nil (x_then (hK1 _ _ ?_))
    clear hK1 K1
    refine forget [(0, _)] ⟨rfl, trivial⟩ (fun e => ?_)
    refine c_seq (fun K2 hK2 => ?_)
    refine c_block ?_
    refine c_seq (fun K3 hK3 => ?_)
    refine c_reg ?_ -- region 1 class.go:48
    refine wl (ro_move rfl) ?_
    refine wl (ro_cmp (r := true) rfl rfl (congrArg some (decide_eq_true (by omega)))) ?_
    refine wl (ro_move rfl) ?_
    refine wlg_yes rfl (ro_move rfl) ?_
    refine wlg_yes rfl (ro_cmp (r := false) rfl rfl (congrArg some (decide_eq_false (by omega)))) ?_
    refine wl (ro_pick rfl rfl rfl) ?_
    refine wl (ro_assign rfl) ?_
    refine wl_nil (x_then (hK3 _ _ ?_))
    clear hK3 K3
    refine wc_condF rfl ?_
    refine c_seq (fun K4 hK4 => ?_)
    refine c_reg ?_ -- region 3 class.go:50
    refine wl (ro_move rfl) ?_
    refine wl (ro_cmp (r := true) rfl rfl (congrArg some (decide_eq_true (by omega)))) ?_
    refine wl (ro_move rfl) ?_
    refine wlg_yes rfl (ro_move rfl) ?_
    refine wlg_yes rfl (ro_cmp (r := true) rfl rfl (congrArg some (decide_eq_true (by omega)))) ?_
    refine wl (ro_pick rfl rfl rfl) ?_
    refine wl (ro_assign rfl) ?_
    refine wl_nil (x_then (hK4 _ _ ?_))
    clear hK4 K4
    refine wc_condT rfl ?_
    refine c_seq (fun K5 hK5 => ?_)
    refine c_reg ?_ -- region 4 class.go:51
    refine wl (ro_move rfl) ?_
    refine wl (ro_conv rfl sc_5 in_3 (Go.IntWalk.i64_in _ (by omega))) ?_
    refine wl (ro_arith rfl rfl rfl (Go.IntWalk.i64_in _ (by omega))) ?_
    refine wl (ro_arith rfl rfl rfl (Go.IntWalk.i64_in _ (by omega))) ?_
    refine wl (ro_assign rfl) ?_
    refine wl_nil (x_then (hK5 _ _ ?_))
    clear hK5 K5
    refine c_ret (x_blkR (x_thenR ?_))
    refine bp_ret Tryz.results142 rfl ?_
    exact ⟨by first | (rw [hx]; done) | (rw [hx]; simp only [icv]; congr 1; omega), rfl⟩
  · have hx : hexv b = -1 := by unfold hexv; rw [isDig_not.2 (by omega), if_neg (by simp), if_neg (by omega), if_neg (by omega)]
    refine ret_of Tryz.func142 rfl Tryz.ntmps142 rfl ?_
    refine c_seq (fun K1 hK1 => ?_)
    refine c_reg ?_ -- region 0 class.go:46
    refine wl (ro_assign rfl) ?_
    refine wl_nil (x_then (hK1 _ _ ?_))
    clear hK1 K1
    refine forget [(0, _)] ⟨rfl, trivial⟩ (fun e => ?_)
    refine c_seq (fun K2 hK2 => ?_)
    refine c_block ?_
    refine c_seq (fun K3 hK3 => ?_)
    refine c_reg ?_ -- region 1 class.go:48
    refine wl (ro_move rfl) ?_
    refine wl (ro_cmp (r := true) rfl rfl (congrArg some (decide_eq_true (by omega)))) ?_
    refine wl (ro_move rfl) ?_
    refine wlg_yes rfl (ro_move rfl) ?_
    refine wlg_yes rfl (ro_cmp (r := false) rfl rfl (congrArg some (decide_eq_false (by omega)))) ?_
    refine wl (ro_pick rfl rfl rfl) ?_
    refine wl (ro_assign rfl) ?_
    refine wl_nil (x_then (hK3 _ _ ?_))
    clear hK3 K3
    refine wc_condF rfl ?_
    refine c_seq (fun K4 hK4 => ?_)
    refine c_reg ?_ -- region 3 class.go:50
    refine wl (ro_move rfl) ?_
    refine wl (ro_cmp (r := true) rfl rfl (congrArg some (decide_eq_true (by omega)))) ?_
    refine wl (ro_move rfl) ?_
    refine wlg_yes rfl (ro_move rfl) ?_
    refine wlg_yes rfl (ro_cmp (r := false) rfl rfl (congrArg some (decide_eq_false (by omega)))) ?_
    refine wl (ro_pick rfl rfl rfl) ?_
    refine wl (ro_assign rfl) ?_
    refine wl_nil (x_then (hK4 _ _ ?_))
    clear hK4 K4
    refine wc_condF rfl ?_
    refine c_seq (fun K5 hK5 => ?_)
    refine c_reg ?_ -- region 5 class.go:52
    refine wl (ro_move rfl) ?_
    refine wl (ro_cmp (r := true) rfl rfl (congrArg some (decide_eq_true (by omega)))) ?_
    refine wl (ro_move rfl) ?_
    refine wlg_yes rfl (ro_move rfl) ?_
    refine wlg_yes rfl (ro_cmp (r := false) rfl rfl (congrArg some (decide_eq_false (by omega)))) ?_
    refine wl (ro_pick rfl rfl rfl) ?_
    refine wl (ro_assign rfl) ?_
    refine wl_nil (x_then (hK5 _ _ ?_))
    clear hK5 K5
    refine wc_condF rfl ?_
    refine c_skip (x_blk (x_then (hK2 _ _ ?_)))
    clear hK2 K2
    refine forget [] trivial (fun e => ?_)
    refine c_seq (fun K6 hK6 => ?_)
    refine c_reg ?_ -- region 7 class.go:55
    refine wl (ro_assign rfl) ?_
    refine wl_nil (x_then (hK6 _ _ ?_))
    clear hK6 K6
    refine c_ret ?_
    refine bp_ret Tryz.results142 rfl ?_
    exact ⟨by first | (rw [hx]; done) | (rw [hx]; simp only [icv]; congr 1; omega), rfl⟩

theorem hex161 {w : World} {b : UInt8} : Ret Tryz.prog 161 [u8c b] w (fun r w' => r = icv (hexv b) ∧ w' = w) := by
  have hb : b.toNat < 256 := b.toBitVec.isLt
  have hq : b.toNat < 48 ∨ (48 ≤ b.toNat ∧ b.toNat ≤ 57) ∨ (57 < b.toNat ∧ b.toNat < 65) ∨ (65 ≤ b.toNat ∧ b.toNat ≤ 70) ∨ (70 < b.toNat ∧ b.toNat < 97) ∨ (97 ≤ b.toNat ∧ b.toNat ≤ 102) ∨ 102 < b.toNat := by omega
  rcases hq with q | q | q | q | q | q | q
  · have hx : hexv b = -1 := by unfold hexv; rw [isDig_not.2 (by omega), if_neg (by simp), if_neg (by omega), if_neg (by omega)]
    refine ret_of Tryz.func161 rfl Tryz.ntmps161 rfl ?_
    refine c_seq (fun K1 hK1 => ?_)
    refine c_reg ?_ -- region 0 syntaxm.go:146
    refine wl (ro_assign rfl) ?_
    refine wl_nil (x_then (hK1 _ _ ?_))
    clear hK1 K1
    refine c_seq (fun K2 hK2 => ?_)
    refine c_seq (fun K3 hK3 => ?_)
    refine c_reg ?_ -- region 1 syntaxm.go:147
    refine wl (ro_move rfl) ?_
    refine wl (ro_cmp (r := false) rfl rfl (congrArg some (decide_eq_false (by omega)))) ?_
    refine wl (ro_move rfl) ?_
    refine wlg_no rfl ?_
    refine wlg_no rfl ?_
    refine wl (ro_pick rfl rfl rfl) ?_
    refine wl_nil (x_then (hK3 _ _ ?_))
    clear hK3 K3
    refine wc_condF rfl ?_
    refine c_skip (x_then (hK2 _ _ ?_))
    clear hK2 K2
    refine c_seq (fun K4 hK4 => ?_)
    refine c_seq (fun K5 hK5 => ?_)
    refine c_reg ?_ -- region 3 syntaxm.go:150
    refine wl (ro_move rfl) ?_
    refine wl (ro_cmp (r := false) rfl rfl (congrArg some (decide_eq_false (by omega)))) ?_
    refine wl (ro_move rfl) ?_
    refine wlg_no rfl ?_
    refine wlg_no rfl ?_
    refine wl (ro_pick rfl rfl rfl) ?_
    refine wl_nil (x_then (hK5 _ _ ?_))
    clear hK5 K5
    refine wc_condF rfl ?_
    refine c_skip (x_then (hK4 _ _ ?_))
    clear hK4 K4
    refine c_seq (fun K6 hK6 => ?_)
    refine c_seq (fun K7 hK7 => ?_)
    refine c_reg ?_ -- region 5 syntaxm.go:153
    refine wl (ro_move rfl) ?_
    refine wl (ro_cmp (r := false) rfl rfl (congrArg some (decide_eq_false (by omega)))) ?_
    refine wl (ro_move rfl) ?_
    refine wlg_no rfl ?_
    refine wlg_no rfl ?_
    refine wl (ro_pick rfl rfl rfl) ?_
    refine wl_nil (x_then (hK7 _ _ ?_))
    clear hK7 K7
    refine wc_condF rfl ?_
    refine c_skip (x_then (hK6 _ _ ?_))
    clear hK6 K6
    refine forget [] trivial (fun e => ?_)
    refine c_seq (fun K8 hK8 => ?_)
    refine c_reg ?_ -- region 7 syntaxm.go:156
    refine wl (ro_assign rfl) ?_
    refine wl_nil (x_then (hK8 _ _ ?_))
    clear hK8 K8
    refine c_ret ?_
    refine bp_ret Tryz.results161 rfl ?_
    exact ⟨by first | (rw [hx]; done) | (rw [hx]; simp only [icv]; congr 1; omega), rfl⟩
  · have hx : hexv b = (b.toNat : Int) - 48 := by unfold hexv; rw [isDig_iff.2 q, if_pos rfl]
    refine ret_of Tryz.func161 rfl Tryz.ntmps161 rfl ?_
    refine c_seq (fun K1 hK1 => ?_)
    refine c_reg ?_ -- region 0 syntaxm.go:146
    refine wl (ro_assign rfl) ?_
    refine wl_nil (x_then (hK1 _ _ ?_))
    clear hK1 K1
    refine c_seq (fun K2 hK2 => ?_)
    refine c_seq (fun K3 hK3 => ?_)
    refine c_reg ?_ -- region 1 syntaxm.go:147
    refine wl (ro_move rfl) ?_
    refine wl (ro_cmp (r := true) rfl rfl (congrArg some (decide_eq_true (by omega)))) ?_
    refine wl (ro_move rfl) ?_
    refine wlg_yes rfl (ro_move rfl) ?_
    refine wlg_yes rfl (ro_cmp (r := true) rfl rfl (congrArg some (decide_eq_true (by omega)))) ?_
    refine wl (ro_pick rfl rfl rfl) ?_
    refine wl_nil (x_then (hK3 _ _ ?_))
    clear hK3 K3
    refine wc_condT rfl ?_
    refine c_seq (fun K4 hK4 => ?_)
    refine c_reg ?_ -- region 2 syntaxm.go:148
    refine wl (ro_move rfl) ?_
    refine wl (ro_arith rfl rfl rfl (Go.IntWalk.u8_in _ (by omega))) ?_
    refine wl (ro_conv rfl sc_5 in_3 (Go.IntWalk.i64_in _ (by omega))) ?_
    refine wl (ro_assign rfl) ?_
    refine wl_nil (x_then (hK4 _ _ ?_))
    clear hK4 K4
    refine c_ret (x_thenR ?_)
    refine bp_ret Tryz.results161 rfl ?_
    exact ⟨by first | (rw [hx]; done) | (rw [hx]; simp only [icv]; congr 1; omega), rfl⟩
  · have hx : hexv b = -1 := by unfold hexv; rw [isDig_not.2 (by omega), if_neg (by simp), if_neg (by omega), if_neg (by omega)]
    refine ret_of Tryz.func161 rfl Tryz.ntmps161 rfl ?_
    refine c_seq (fun K1 hK1 => ?_)
    refine c_reg ?_ -- region 0 syntaxm.go:146
    refine wl (ro_assign rfl) ?_
    refine wl_nil (x_then (hK1 _ _ ?_))
    clear hK1 K1
    refine c_seq (fun K2 hK2 => ?_)
    refine c_seq (fun K3 hK3 => ?_)
    refine c_reg ?_ -- region 1 syntaxm.go:147
    refine wl (ro_move rfl) ?_
    refine wl (ro_cmp (r := true) rfl rfl (congrArg some (decide_eq_true (by omega)))) ?_
    refine wl (ro_move rfl) ?_
    refine wlg_yes rfl (ro_move rfl) ?_
    refine wlg_yes rfl (ro_cmp (r := false) rfl rfl (congrArg some (decide_eq_false (by omega)))) ?_
    refine wl (ro_pick rfl rfl rfl) ?_
    refine wl_nil (x_then (hK3 _ _ ?_))
    clear hK3 K3
    refine wc_condF rfl ?_
    refine c_skip (x_then (hK2 _ _ ?_))
    clear hK2 K2
    refine c_seq (fun K4 hK4 => ?_)
    refine c_seq (fun K5 hK5 => ?_)
    refine c_reg ?_ -- region 3 syntaxm.go:150
    refine wl (ro_move rfl) ?_
    refine wl (ro_cmp (r := false) rfl rfl (congrArg some (decide_eq_false (by omega)))) ?_
    refine wl (ro_move rfl) ?_
    refine wlg_no rfl ?_
    refine wlg_no rfl ?_
    refine wl (ro_pick rfl rfl rfl) ?_
    refine wl_nil (x_then (hK5 _ _ ?_))
    clear hK5 K5
    refine wc_condF rfl ?_
    refine c_skip (x_then (hK4 _ _ ?_))
    clear hK4 K4
    refine c_seq (fun K6 hK6 => ?_)
    refine c_seq (fun K7 hK7 => ?_)
    refine c_reg ?_ -- region 5 syntaxm.go:153
    refine wl (ro_move rfl) ?_
    refine wl (ro_cmp (r := false) rfl rfl (congrArg some (decide_eq_false (by omega)))) ?_
    refine wl (ro_move rfl) ?_
    refine wlg_no rfl ?_
    refine wlg_no rfl ?_
    refine wl (ro_pick rfl rfl rfl) ?_
    refine wl_nil (x_then (hK7 _ _ ?_))
    clear hK7 K7
    refine wc_condF rfl ?_
    refine c_skip (x_then (hK6 _ _ ?_))
    clear hK6 K6
    refine forget [] trivial (fun e => ?_)
    refine c_seq (fun K8 hK8 => ?_)
    refine c_reg ?_ -- region 7 syntaxm.go:156
    refine wl (ro_assign rfl) ?_
    refine wl_nil (x_then (hK8 _ _ ?_))
    clear hK8 K8
    refine c_ret ?_
    refine bp_ret Tryz.results161 rfl ?_
    exact ⟨by first | (rw [hx]; done) | (rw [hx]; simp only [icv]; congr 1; omega), rfl⟩
  · have hx : hexv b = (b.toNat : Int) - 55 := by unfold hexv; rw [isDig_not.2 (by omega), if_neg (by simp), if_neg (by omega), if_pos (by omega)]
    refine ret_of Tryz.func161 rfl Tryz.ntmps161 rfl ?_
    refine c_seq (fun K1 hK1 => ?_)
    refine c_reg ?_ -- region 0 syntaxm.go:146
    refine wl (ro_assign rfl) ?_
    refine wl_nil (x_then (hK1 _ _ ?_))
    clear hK1 K1
    refine c_seq (fun K2 hK2 => ?_)
    refine c_seq (fun K3 hK3 => ?_)
    refine c_reg ?_ -- region 1 syntaxm.go:147
    refine wl (ro_move rfl) ?_
    refine wl (ro_cmp (r := true) rfl rfl (congrArg some (decide_eq_true (by omega)))) ?_
    refine wl (ro_move rfl) ?_
    refine wlg_yes rfl (ro_move rfl) ?_
    refine wlg_yes rfl (ro_cmp (r := false) rfl rfl (congrArg some (decide_eq_false (by omega)))) ?_
    refine wl (ro_pick rfl rfl rfl) ?_
    refine wl_nil (x_then (hK3 _ _ ?_))
    clear hK3 K3
    refine wc_condF rfl ?_
    refine c_skip (x_then (hK2 _ _ ?_))
    clear hK2 K2
    refine c_seq (fun K4 hK4 => ?_)
    refine c_seq (fun K5 hK5 => ?_)
    refine c_reg ?_ -- region 3 syntaxm.go:150
    refine wl (ro_move rfl) ?_
    refine wl (ro_cmp (r := false) rfl rfl (congrArg some (decide_eq_false (by omega)))) ?_
    refine wl (ro_move rfl) ?_
    refine wlg_no rfl ?_
    refine wlg_no rfl ?_
    refine wl (ro_pick rfl rfl rfl) ?_
    refine wl_nil (x_then (hK5 _ _ ?_))
    clear hK5 K5
    refine wc_condF rfl ?_
    refine c_skip (x_then (hK4 _ _ ?_))
    clear hK4 K4
    refine c_seq (fun K6 hK6 => ?_)
    refine c_seq (fun K7 hK7 => ?_)
    refine c_reg ?_ -- region 5 syntaxm.go:153
    refine wl (ro_move rfl) ?_
    refine wl (ro_cmp (r := true) rfl rfl (congrArg some (decide_eq_true (by omega)))) ?_
    refine wl (ro_move rfl) ?_
    refine wlg_yes rfl (ro_move rfl) ?_
    refine wlg_yes rfl (ro_cmp (r := true) rfl rfl (congrArg some (decide_eq_true (by omega)))) ?_
    refine wl (ro_pick rfl rfl rfl) ?_
    refine wl_nil (x_then (hK7 _ _ ?_))
    clear hK7 K7
    refine wc_condT rfl ?_
    refine c_seq (fun K8 hK8 => ?_)
    refine c_reg ?_ -- region 6 syntaxm.go:154
    refine wl (ro_move rfl) ?_
    refine wl (ro_arith rfl rfl rfl (Go.IntWalk.u8_in _ (by omega))) ?_
    refine wl (ro_conv rfl sc_5 in_3 (Go.IntWalk.i64_in _ (by omega))) ?_
    refine wl (ro_arith rfl rfl rfl (Go.IntWalk.i64_in _ (by omega))) ?_
    refine wl (ro_assign rfl) ?_
    refine wl_nil (x_then (hK8 _ _ ?_))
    clear hK8 K8
    refine c_ret (x_thenR ?_)
    refine bp_ret Tryz.results161 rfl ?_
    exact ⟨by first | (rw [hx]; done) | (rw [hx]; simp only [icv]; congr 1; omega), rfl⟩
  · have hx : hexv b = -1 := by unfold hexv; rw [isDig_not.2 (by omega), if_neg (by simp), if_neg (by omega), if_neg (by omega)]
    refine ret_of Tryz.func161 rfl Tryz.ntmps161 rfl ?_
    refine c_seq (fun K1 hK1 => ?_)
    refine c_reg ?_ -- region 0 syntaxm.go:146
    refine wl (ro_assign rfl) ?_
    refine wl_nil (x_then (hK1 _ _ ?_))
    clear hK1 K1
    refine c_seq (fun K2 hK2 => ?_)
    refine c_seq (fun K3 hK3 => ?_)
    refine c_reg ?_ -- region 1 syntaxm.go:147
    refine wl (ro_move rfl) ?_
    refine wl (ro_cmp (r := true) rfl rfl (congrArg some (decide_eq_true (by omega)))) ?_
    refine wl (ro_move rfl) ?_
    refine wlg_yes rfl (ro_move rfl) ?_
    refine wlg_yes rfl (ro_cmp (r := false) rfl rfl (congrArg some (decide_eq_false (by omega)))) ?_
    refine wl (ro_pick rfl rfl rfl) ?_
    refine wl_nil (x_then (hK3 _ _ ?_))
    clear hK3 K3
    refine wc_condF rfl ?_
    refine c_skip (x_then (hK2 _ _ ?_))
    clear hK2 K2
    refine c_seq (fun K4 hK4 => ?_)
    refine c_seq (fun K5 hK5 => ?_)
    refine c_reg ?_ -- region 3 syntaxm.go:150
    refine wl (ro_move rfl) ?_
    refine wl (ro_cmp (r := false) rfl rfl (congrArg some (decide_eq_false (by omega)))) ?_
    refine wl (ro_move rfl) ?_
    refine wlg_no rfl ?_
    refine wlg_no rfl ?_
    refine wl (ro_pick rfl rfl rfl) ?_
    refine wl_nil (x_then (hK5 _ _ ?_))
    clear hK5 K5
    refine wc_condF rfl ?_
    refine c_skip (x_then (hK4 _ _ ?_))
    clear hK4 K4
    refine c_seq (fun K6 hK6 => ?_)
    refine c_seq (fun K7 hK7 => ?_)
    refine c_reg ?_ -- region 5 syntaxm.go:153
    refine wl (ro_move rfl) ?_
    refine wl (ro_cmp (r := true) rfl rfl (congrArg some (decide_eq_true (by omega)))) ?_
    refine wl (ro_move rfl) ?_
    refine wlg_yes rfl (ro_move rfl) ?_
    refine wlg_yes rfl (ro_cmp (r := false) rfl rfl (congrArg some (decide_eq_false (by omega)))) ?_
    refine wl (ro_pick rfl rfl rfl) ?_
    refine wl_nil (x_then (hK7 _ _ ?_))
    clear hK7 K7
    refine wc_condF rfl ?_
    refine c_skip (x_then (hK6 _ _ ?_))
    clear hK6 K6
    refine forget [] trivial (fun e => ?_)
    refine c_seq (fun K8 hK8 => ?_)
    refine c_reg ?_ -- region 7 syntaxm.go:156
    refine wl (ro_assign rfl) ?_
    refine wl_nil (x_then (hK8 _ _ ?_))
    clear hK8 K8
    refine c_ret ?_
    refine bp_ret Tryz.results161 rfl ?_
    exact ⟨by first | (rw [hx]; done) | (rw [hx]; simp only [icv]; congr 1; omega), rfl⟩
  · have hx : hexv b = (b.toNat : Int) - 87 := by unfold hexv; rw [isDig_not.2 (by omega), if_neg (by simp), if_pos (by omega)]
    refine ret_of Tryz.func161 rfl Tryz.ntmps161 rfl ?_
    refine c_seq (fun K1 hK1 => ?_)
    refine c_reg ?_ -- region 0 syntaxm.go:146
    refine wl (ro_assign rfl) ?_
    refine wl_nil (x_then (hK1 _ _ ?_))
    clear hK1 K1
    refine c_seq (fun K2 hK2 => ?_)
    refine c_seq (fun K3 hK3 => ?_)
    refine c_reg ?_ -- region 1 syntaxm.go:147
    refine wl (ro_move rfl) ?_
    refine wl (ro_cmp (r := true) rfl rfl (congrArg some (decide_eq_true (by omega)))) ?_
    refine wl (ro_move rfl) ?_
    refine wlg_yes rfl (ro_move rfl) ?_
    refine wlg_yes rfl (ro_cmp (r := false) rfl rfl (congrArg some (decide_eq_false (by omega)))) ?_
    refine wl (ro_pick rfl rfl rfl) ?_
    refine wl_nil (x_then (hK3 _ _ ?_))
    clear hK3 K3
    refine wc_condF rfl ?_
    refine c_skip (x_then (hK2 _ _ ?_))
    clear hK2 K2
    refine c_seq (fun K4 hK4 => ?_)
    refine c_seq (fun K5 hK5 => ?_)
    refine c_reg ?_ -- region 3 syntaxm.go:150
    refine wl (ro_move rfl) ?_
    refine wl (ro_cmp (r := true) rfl rfl (congrArg some (decide_eq_true (by omega)))) ?_
    refine wl (ro_move rfl) ?_
    refine wlg_yes rfl (ro_move rfl) ?_
    refine wlg_yes rfl (ro_cmp (r := true) rfl rfl (congrArg some (decide_eq_true (by omega)))) ?_
    refine wl (ro_pick rfl rfl rfl) ?_
    refine wl_nil (x_then (hK5 _ _ ?_))
    clear hK5 K5
    refine wc_condT rfl ?_
    refine c_seq (fun K6 hK6 => ?_)
    refine c_reg ?_ -- region 4 syntaxm.go:151
    refine wl (ro_move rfl) ?_
    refine wl (ro_arith rfl rfl rfl (Go.IntWalk.u8_in _ (by omega))) ?_
    refine wl (ro_conv rfl sc_5 in_3 (Go.IntWalk.i64_in _ (by omega))) ?_
    refine wl (ro_arith rfl rfl rfl (Go.IntWalk.i64_in _ (by omega))) ?_
    refine wl (ro_assign rfl) ?_
    refine wl_nil (x_then (hK6 _ _ ?_))
    clear hK6 K6
    refine c_ret (x_thenR ?_)
    refine bp_ret Tryz.results161 rfl ?_
    exact ⟨by first | (rw [hx]; done) | (rw [hx]; simp only [icv]; congr 1; omega), rfl⟩
  · have hx : hexv b = -1 := by unfold hexv; rw [isDig_not.2 (by omega), if_neg (by simp), if_neg (by omega), if_neg (by omega)]
    refine ret_of Tryz.func161 rfl Tryz.ntmps161 rfl ?_
    refine c_seq (fun K1 hK1 => ?_)
    refine c_reg ?_ -- region 0 syntaxm.go:146
    refine wl (ro_assign rfl) ?_
    refine wl_nil (x_then (hK1 _ _ ?_))
    clear hK1 K1
    refine c_seq (fun K2 hK2 => ?_)
    refine c_seq (fun K3 hK3 => ?_)
    refine c_reg ?_ -- region 1 syntaxm.go:147
    refine wl (ro_move rfl) ?_
    refine wl (ro_cmp (r := true) rfl rfl (congrArg some (decide_eq_true (by omega)))) ?_
    refine wl (ro_move rfl) ?_
    refine wlg_yes rfl (ro_move rfl) ?_
    refine wlg_yes rfl (ro_cmp (r := false) rfl rfl (congrArg some (decide_eq_false (by omega)))) ?_
    refine wl (ro_pick rfl rfl rfl) ?_
    refine wl_nil (x_then (hK3 _ _ ?_))
    clear hK3 K3
    refine wc_condF rfl ?_
    refine c_skip (x_then (hK2 _ _ ?_))
    clear hK2 K2
    refine c_seq (fun K4 hK4 => ?_)
    refine c_seq (fun K5 hK5 => ?_)
    refine c_reg ?_ -- region 3 syntaxm.go:150
    refine wl (ro_move rfl) ?_
    refine wl (ro_cmp (r := true) rfl rfl (congrArg some (decide_eq_true (by omega)))) ?_
    refine wl (ro_move rfl) ?_
    refine wlg_yes rfl (ro_move rfl) ?_
    refine wlg_yes rfl (ro_cmp (r := false) rfl rfl (congrArg some (decide_eq_false (by omega)))) ?_
    refine wl (ro_pick rfl rfl rfl) ?_
    refine wl_nil (x_then (hK5 _ _ ?_))
    clear hK5 K5
    refine wc_condF rfl ?_
    refine c_skip (x_then (hK4 _ _ ?_))
    clear hK4 K4
    refine c_seq (fun K6 hK6 => ?_)
    refine c_seq (fun K7 hK7 => ?_)
    refine c_reg ?_ -- region 5 syntaxm.go:153
    refine wl (ro_move rfl) ?_
    refine wl (ro_cmp (r := true) rfl rfl (congrArg some (decide_eq_true (by omega)))) ?_
    refine wl (ro_move rfl) ?_
    refine wlg_yes rfl (ro_move rfl) ?_
    refine wlg_yes rfl (ro_cmp (r := false) rfl rfl (congrArg some (decide_eq_false (by omega)))) ?_
    refine wl (ro_pick rfl rfl rfl) ?_
    refine wl_nil (x_then (hK7 _ _ ?_))
    clear hK7 K7
    refine wc_condF rfl ?_
    refine c_skip (x_then (hK6 _ _ ?_))
    clear hK6 K6
    refine forget [] trivial (fun e => ?_)
    refine c_seq (fun K8 hK8 => ?_)
    refine c_reg ?_ -- region 7 syntaxm.go:156
    refine wl (ro_assign rfl) ?_
    refine wl_nil (x_then (hK8 _ _ ?_))
    clear hK8 K8
    refine c_ret ?_
    refine bp_ret Tryz.results161 rfl ?_
    exact ⟨by first | (rw [hx]; done) | (rw [hx]; simp only [icv]; congr 1; omega), rfl⟩

/-- The named sets of an escape. -/
def namedS (c : UInt8) : Option Cset :=
  if c = 100 then some (rng 48 57) else if c = 68 then some (cpl (rng 48 57)) else if c = 119 then some wordS else if c = 87 then some (cpl wordS) else if c = 115 then some blankS else if c = 83 then some (cpl blankS) else none

theorem named141 {w : World} {c : UInt8} : Ret Tryz.prog 141 [u8c c] w (fun r w' => r = .tuple #[setV ((namedS c).getD 0), .bool (namedS c).isSome] ∧ Fram none' w w') := by
  have hF : Fram none' w w := Fram.refl _ _
  by_cases h100 : c = 100
  · subst h100
    refine ret_of Tryz.func141 rfl Tryz.ntmps141 rfl ?_
    refine c_seq (fun K1 hK1 => ?_)
    refine c_reg ?_ -- region 0 class.go:59
    refine wl_new (ze_87) (fun mb w1 hbmb hM F1 => ?_)
    have hbsmb := Nat.le_trans hF.size hbmb
    replace hF := hF.thenDrew.thenN F1
    refine wl (ro_assign rfl) ?_
    refine wl_nil (x_then (hK1 _ _ ?_))
    clear hK1 K1
    refine forget [(0, _), (2, _)] ⟨rfl, rfl, trivial⟩ (fun e => ?_)
    refine c_seq (fun K2 hK2 => ?_)
    refine c_reg ?_ -- region 1 class.go:60
    refine wl_new (ze_87) (fun ab w2 hbab hA F2 => ?_)
    have hbsab := Nat.le_trans hF.size hbab
    have hnembab : mb < ab := Nat.lt_of_lt_of_le hM.lt hbab
    replace hF := hF.thenDrew.thenN F2
    replace hM := F2.blkN hM
    refine wl_nil (x_then (hK2 _ _ ?_))
    clear hK2 K2
    refine c_seq (fun K3 hK3 => ?_)
    refine c_seq (fun K4 hK4 => ?_)
    refine c_reg ?_ -- region 2 class.go:61
    refine wl (ro_move rfl) ?_
    refine wl_nil (x_then (hK4 _ _ ?_))
    clear hK4 K4
    refine c_block ?_
    refine c_seq (fun K5 hK5 => ?_)
    refine c_seq (fun K6 hK6 => ?_)
    refine c_reg ?_ -- region 4 class.go:62
    refine wl (ro_cmp rfl rfl rfl) ?_
    refine wl (ro_assign rfl) ?_
    refine wl_nil (x_then (hK6 _ _ ?_))
    clear hK6 K6
    refine wc_condT rfl ?_
    refine c_skip (x_then (hK5 _ _ ?_))
    clear hK5 K5
    refine wc_condT rfl ?_
    refine c_reg ?_ -- region 6 class.go:63
    refine wl_call rfl en_148 (digits148) ?_
    rintro _ w3 ⟨rfl, F3⟩
    replace hF := hF.thenDrew.thenN F3
    replace hM := F3.blkN hM
    replace hA := F3.blkN hA
    refine wl_puta rfl rfl (by simp [Value.oneCell', i64c, u64c, u8c, ptr]) sz_87 (rfl) hA ((by simp)) (rfl) (fun w4 hA F4 => ?_)
    replace hF := hF.thenDrew.thenO F4 (by first | exact .inr (by omega) | exact .inl rfl | exact .inl (by assumption))
    replace hM := F4.blkO hM (by omega)
    refine wl_nil (x_blk (x_then (hK3 _ _ ?_)))
    clear hK3 K3
    refine c_seq (fun K7 hK7 => ?_)
    refine c_seq (fun K8 hK8 => ?_)
    refine c_reg ?_ -- region 13 class.go:71
    refine wl (ro_move rfl) ?_
    refine wl (ro_cmp rfl rfl rfl) ?_
    refine wl_nil (x_then (hK8 _ _ ?_))
    clear hK8 K8
    refine wc_condF rfl ?_
    refine c_skip (x_then (hK7 _ _ ?_))
    clear hK7 K7
    refine forget [(2, _), (4, _)] ⟨rfl, rfl, trivial⟩ (fun e => ?_)
    refine c_seq (fun K9 hK9 => ?_)
    refine c_reg ?_ -- region 15 class.go:74
    refine wl (ro_loadAggB rfl ag_87 (hA) rfl rfl) ?_
    refine wl_puta rfl rfl (by simp [Value.oneCell', i64c, u64c, u8c, ptr]) sz_87 (rfl) hM ((by simp)) (rfl) (fun w5 hM F5 => ?_)
    replace hF := hF.thenDrew.thenO F5 (by first | exact .inr (by omega) | exact .inl rfl | exact .inl (by assumption))
    replace hA := F5.blkO hA (by omega)
    refine wl (ro_assign rfl) ?_
    refine wl_nil (x_then (hK9 _ _ ?_))
    clear hK9 K9
    refine c_ret ?_
    refine bq_ret (res2 Tryz.results141 (rv_c rfl ag_87 (hM) rfl) (rv_t rfl)) ?_
    exact ⟨rfl, hF⟩
  by_cases h68 : c = 68
  · subst h68
    refine ret_of Tryz.func141 rfl Tryz.ntmps141 rfl ?_
    refine c_seq (fun K1 hK1 => ?_)
    refine c_reg ?_ -- region 0 class.go:59
    refine wl_new (ze_87) (fun mb w1 hbmb hM F1 => ?_)
    have hbsmb := Nat.le_trans hF.size hbmb
    replace hF := hF.thenDrew.thenN F1
    refine wl (ro_assign rfl) ?_
    refine wl_nil (x_then (hK1 _ _ ?_))
    clear hK1 K1
    refine forget [(0, _), (2, _)] ⟨rfl, rfl, trivial⟩ (fun e => ?_)
    refine c_seq (fun K2 hK2 => ?_)
    refine c_reg ?_ -- region 1 class.go:60
    refine wl_new (ze_87) (fun ab w2 hbab hA F2 => ?_)
    have hbsab := Nat.le_trans hF.size hbab
    have hnembab : mb < ab := Nat.lt_of_lt_of_le hM.lt hbab
    replace hF := hF.thenDrew.thenN F2
    replace hM := F2.blkN hM
    refine wl_nil (x_then (hK2 _ _ ?_))
    clear hK2 K2
    refine c_seq (fun K3 hK3 => ?_)
    refine c_seq (fun K4 hK4 => ?_)
    refine c_reg ?_ -- region 2 class.go:61
    refine wl (ro_move rfl) ?_
    refine wl_nil (x_then (hK4 _ _ ?_))
    clear hK4 K4
    refine c_block ?_
    refine c_seq (fun K5 hK5 => ?_)
    refine c_seq (fun K6 hK6 => ?_)
    refine c_reg ?_ -- region 4 class.go:62
    refine wl (ro_cmp rfl rfl rfl) ?_
    refine wl (ro_assign rfl) ?_
    refine wl_nil (x_then (hK6 _ _ ?_))
    clear hK6 K6
    refine wc_condF rfl ?_
    refine c_reg ?_ -- region 5 class.go:62
    refine wl (ro_cmp rfl rfl rfl) ?_
    refine wl (ro_assign rfl) ?_
    refine wl_nil (x_then (hK5 _ _ ?_))
    clear hK5 K5
    refine wc_condT rfl ?_
    refine c_reg ?_ -- region 6 class.go:63
    refine wl_call rfl en_148 (digits148) ?_
    rintro _ w3 ⟨rfl, F3⟩
    replace hF := hF.thenDrew.thenN F3
    replace hM := F3.blkN hM
    replace hA := F3.blkN hA
    refine wl_puta rfl rfl (by simp [Value.oneCell', i64c, u64c, u8c, ptr]) sz_87 (rfl) hA ((by simp)) (rfl) (fun w4 hA F4 => ?_)
    replace hF := hF.thenDrew.thenO F4 (by first | exact .inr (by omega) | exact .inl rfl | exact .inl (by assumption))
    replace hM := F4.blkO hM (by omega)
    refine wl_nil (x_blk (x_then (hK3 _ _ ?_)))
    clear hK3 K3
    refine c_seq (fun K7 hK7 => ?_)
    refine c_seq (fun K8 hK8 => ?_)
    refine c_reg ?_ -- region 13 class.go:71
    refine wl (ro_move rfl) ?_
    refine wl (ro_cmp rfl rfl rfl) ?_
    refine wl_nil (x_then (hK8 _ _ ?_))
    clear hK8 K8
    refine wc_condT rfl ?_
    refine c_reg ?_ -- region 14 class.go:72
    refine wl (ro_loadAggB rfl ag_87 (hA) rfl rfl) ?_
    refine wl_call rfl en_129 (Not129) ?_
    rintro _ w5 ⟨rfl, F5⟩
    replace hF := hF.thenDrew.thenN F5
    replace hM := F5.blkN hM
    replace hA := F5.blkN hA
    refine wl_puta rfl rfl (by simp [Value.oneCell', i64c, u64c, u8c, ptr]) sz_87 (rfl) hA ((by simp)) (rfl) (fun w6 hA F6 => ?_)
    replace hF := hF.thenDrew.thenO F6 (by first | exact .inr (by omega) | exact .inl rfl | exact .inl (by assumption))
    replace hM := F6.blkO hM (by omega)
    refine wl_nil (x_then (hK7 _ _ ?_))
    clear hK7 K7
    refine forget [(2, _), (4, _)] ⟨rfl, rfl, trivial⟩ (fun e => ?_)
    refine c_seq (fun K9 hK9 => ?_)
    refine c_reg ?_ -- region 15 class.go:74
    refine wl (ro_loadAggB rfl ag_87 (hA) rfl rfl) ?_
    refine wl_puta rfl rfl (by simp [Value.oneCell', i64c, u64c, u8c, ptr]) sz_87 (rfl) hM ((by simp)) (rfl) (fun w7 hM F7 => ?_)
    replace hF := hF.thenDrew.thenO F7 (by first | exact .inr (by omega) | exact .inl rfl | exact .inl (by assumption))
    replace hA := F7.blkO hA (by omega)
    refine wl (ro_assign rfl) ?_
    refine wl_nil (x_then (hK9 _ _ ?_))
    clear hK9 K9
    refine c_ret ?_
    refine bq_ret (res2 Tryz.results141 (rv_c rfl ag_87 (hM) rfl) (rv_t rfl)) ?_
    exact ⟨rfl, hF⟩
  by_cases h119 : c = 119
  · subst h119
    refine ret_of Tryz.func141 rfl Tryz.ntmps141 rfl ?_
    refine c_seq (fun K1 hK1 => ?_)
    refine c_reg ?_ -- region 0 class.go:59
    refine wl_new (ze_87) (fun mb w1 hbmb hM F1 => ?_)
    have hbsmb := Nat.le_trans hF.size hbmb
    replace hF := hF.thenDrew.thenN F1
    refine wl (ro_assign rfl) ?_
    refine wl_nil (x_then (hK1 _ _ ?_))
    clear hK1 K1
    refine forget [(0, _), (2, _)] ⟨rfl, rfl, trivial⟩ (fun e => ?_)
    refine c_seq (fun K2 hK2 => ?_)
    refine c_reg ?_ -- region 1 class.go:60
    refine wl_new (ze_87) (fun ab w2 hbab hA F2 => ?_)
    have hbsab := Nat.le_trans hF.size hbab
    have hnembab : mb < ab := Nat.lt_of_lt_of_le hM.lt hbab
    replace hF := hF.thenDrew.thenN F2
    replace hM := F2.blkN hM
    refine wl_nil (x_then (hK2 _ _ ?_))
    clear hK2 K2
    refine c_seq (fun K3 hK3 => ?_)
    refine c_seq (fun K4 hK4 => ?_)
    refine c_reg ?_ -- region 2 class.go:61
    refine wl (ro_move rfl) ?_
    refine wl_nil (x_then (hK4 _ _ ?_))
    clear hK4 K4
    refine c_block ?_
    refine c_seq (fun K5 hK5 => ?_)
    refine c_seq (fun K6 hK6 => ?_)
    refine c_reg ?_ -- region 4 class.go:62
    refine wl (ro_cmp rfl rfl rfl) ?_
    refine wl (ro_assign rfl) ?_
    refine wl_nil (x_then (hK6 _ _ ?_))
    clear hK6 K6
    refine wc_condF rfl ?_
    refine c_reg ?_ -- region 5 class.go:62
    refine wl (ro_cmp rfl rfl rfl) ?_
    refine wl (ro_assign rfl) ?_
    refine wl_nil (x_then (hK5 _ _ ?_))
    clear hK5 K5
    refine wc_condF rfl ?_
    refine c_seq (fun K7 hK7 => ?_)
    refine c_seq (fun K8 hK8 => ?_)
    refine c_reg ?_ -- region 7 class.go:64
    refine wl (ro_cmp rfl rfl rfl) ?_
    refine wl (ro_assign rfl) ?_
    refine wl_nil (x_then (hK8 _ _ ?_))
    clear hK8 K8
    refine wc_condT rfl ?_
    refine c_skip (x_then (hK7 _ _ ?_))
    clear hK7 K7
    refine wc_condT rfl ?_
    refine c_reg ?_ -- region 9 class.go:65
    refine wl_call rfl en_149 (wordy149) ?_
    rintro _ w3 ⟨rfl, F3⟩
    replace hF := hF.thenDrew.thenN F3
    replace hM := F3.blkN hM
    replace hA := F3.blkN hA
    refine wl_puta rfl rfl (by simp [Value.oneCell', i64c, u64c, u8c, ptr]) sz_87 (rfl) hA ((by simp)) (rfl) (fun w4 hA F4 => ?_)
    replace hF := hF.thenDrew.thenO F4 (by first | exact .inr (by omega) | exact .inl rfl | exact .inl (by assumption))
    replace hM := F4.blkO hM (by omega)
    refine wl_nil (x_blk (x_then (hK3 _ _ ?_)))
    clear hK3 K3
    refine c_seq (fun K9 hK9 => ?_)
    refine c_seq (fun K10 hK10 => ?_)
    refine c_reg ?_ -- region 13 class.go:71
    refine wl (ro_move rfl) ?_
    refine wl (ro_cmp rfl rfl rfl) ?_
    refine wl_nil (x_then (hK10 _ _ ?_))
    clear hK10 K10
    refine wc_condF rfl ?_
    refine c_skip (x_then (hK9 _ _ ?_))
    clear hK9 K9
    refine forget [(2, _), (4, _)] ⟨rfl, rfl, trivial⟩ (fun e => ?_)
    refine c_seq (fun K11 hK11 => ?_)
    refine c_reg ?_ -- region 15 class.go:74
    refine wl (ro_loadAggB rfl ag_87 (hA) rfl rfl) ?_
    refine wl_puta rfl rfl (by simp [Value.oneCell', i64c, u64c, u8c, ptr]) sz_87 (rfl) hM ((by simp)) (rfl) (fun w5 hM F5 => ?_)
    replace hF := hF.thenDrew.thenO F5 (by first | exact .inr (by omega) | exact .inl rfl | exact .inl (by assumption))
    replace hA := F5.blkO hA (by omega)
    refine wl (ro_assign rfl) ?_
    refine wl_nil (x_then (hK11 _ _ ?_))
    clear hK11 K11
    refine c_ret ?_
    refine bq_ret (res2 Tryz.results141 (rv_c rfl ag_87 (hM) rfl) (rv_t rfl)) ?_
    exact ⟨rfl, hF⟩
  by_cases h87 : c = 87
  · subst h87
    refine ret_of Tryz.func141 rfl Tryz.ntmps141 rfl ?_
    refine c_seq (fun K1 hK1 => ?_)
    refine c_reg ?_ -- region 0 class.go:59
    refine wl_new (ze_87) (fun mb w1 hbmb hM F1 => ?_)
    have hbsmb := Nat.le_trans hF.size hbmb
    replace hF := hF.thenDrew.thenN F1
    refine wl (ro_assign rfl) ?_
    refine wl_nil (x_then (hK1 _ _ ?_))
    clear hK1 K1
    refine forget [(0, _), (2, _)] ⟨rfl, rfl, trivial⟩ (fun e => ?_)
    refine c_seq (fun K2 hK2 => ?_)
    refine c_reg ?_ -- region 1 class.go:60
    refine wl_new (ze_87) (fun ab w2 hbab hA F2 => ?_)
    have hbsab := Nat.le_trans hF.size hbab
    have hnembab : mb < ab := Nat.lt_of_lt_of_le hM.lt hbab
    replace hF := hF.thenDrew.thenN F2
    replace hM := F2.blkN hM
    refine wl_nil (x_then (hK2 _ _ ?_))
    clear hK2 K2
    refine c_seq (fun K3 hK3 => ?_)
    refine c_seq (fun K4 hK4 => ?_)
    refine c_reg ?_ -- region 2 class.go:61
    refine wl (ro_move rfl) ?_
    refine wl_nil (x_then (hK4 _ _ ?_))
    clear hK4 K4
    refine c_block ?_
    refine c_seq (fun K5 hK5 => ?_)
    refine c_seq (fun K6 hK6 => ?_)
    refine c_reg ?_ -- region 4 class.go:62
    refine wl (ro_cmp rfl rfl rfl) ?_
    refine wl (ro_assign rfl) ?_
    refine wl_nil (x_then (hK6 _ _ ?_))
    clear hK6 K6
    refine wc_condF rfl ?_
    refine c_reg ?_ -- region 5 class.go:62
    refine wl (ro_cmp rfl rfl rfl) ?_
    refine wl (ro_assign rfl) ?_
    refine wl_nil (x_then (hK5 _ _ ?_))
    clear hK5 K5
    refine wc_condF rfl ?_
    refine c_seq (fun K7 hK7 => ?_)
    refine c_seq (fun K8 hK8 => ?_)
    refine c_reg ?_ -- region 7 class.go:64
    refine wl (ro_cmp rfl rfl rfl) ?_
    refine wl (ro_assign rfl) ?_
    refine wl_nil (x_then (hK8 _ _ ?_))
    clear hK8 K8
    refine wc_condF rfl ?_
    refine c_reg ?_ -- region 8 class.go:64
    refine wl (ro_cmp rfl rfl rfl) ?_
    refine wl (ro_assign rfl) ?_
    refine wl_nil (x_then (hK7 _ _ ?_))
    clear hK7 K7
    refine wc_condT rfl ?_
    refine c_reg ?_ -- region 9 class.go:65
    refine wl_call rfl en_149 (wordy149) ?_
    rintro _ w3 ⟨rfl, F3⟩
    replace hF := hF.thenDrew.thenN F3
    replace hM := F3.blkN hM
    replace hA := F3.blkN hA
    refine wl_puta rfl rfl (by simp [Value.oneCell', i64c, u64c, u8c, ptr]) sz_87 (rfl) hA ((by simp)) (rfl) (fun w4 hA F4 => ?_)
    replace hF := hF.thenDrew.thenO F4 (by first | exact .inr (by omega) | exact .inl rfl | exact .inl (by assumption))
    replace hM := F4.blkO hM (by omega)
    refine wl_nil (x_blk (x_then (hK3 _ _ ?_)))
    clear hK3 K3
    refine c_seq (fun K9 hK9 => ?_)
    refine c_seq (fun K10 hK10 => ?_)
    refine c_reg ?_ -- region 13 class.go:71
    refine wl (ro_move rfl) ?_
    refine wl (ro_cmp rfl rfl rfl) ?_
    refine wl_nil (x_then (hK10 _ _ ?_))
    clear hK10 K10
    refine wc_condT rfl ?_
    refine c_reg ?_ -- region 14 class.go:72
    refine wl (ro_loadAggB rfl ag_87 (hA) rfl rfl) ?_
    refine wl_call rfl en_129 (Not129) ?_
    rintro _ w5 ⟨rfl, F5⟩
    replace hF := hF.thenDrew.thenN F5
    replace hM := F5.blkN hM
    replace hA := F5.blkN hA
    refine wl_puta rfl rfl (by simp [Value.oneCell', i64c, u64c, u8c, ptr]) sz_87 (rfl) hA ((by simp)) (rfl) (fun w6 hA F6 => ?_)
    replace hF := hF.thenDrew.thenO F6 (by first | exact .inr (by omega) | exact .inl rfl | exact .inl (by assumption))
    replace hM := F6.blkO hM (by omega)
    refine wl_nil (x_then (hK9 _ _ ?_))
    clear hK9 K9
    refine forget [(2, _), (4, _)] ⟨rfl, rfl, trivial⟩ (fun e => ?_)
    refine c_seq (fun K11 hK11 => ?_)
    refine c_reg ?_ -- region 15 class.go:74
    refine wl (ro_loadAggB rfl ag_87 (hA) rfl rfl) ?_
    refine wl_puta rfl rfl (by simp [Value.oneCell', i64c, u64c, u8c, ptr]) sz_87 (rfl) hM ((by simp)) (rfl) (fun w7 hM F7 => ?_)
    replace hF := hF.thenDrew.thenO F7 (by first | exact .inr (by omega) | exact .inl rfl | exact .inl (by assumption))
    replace hA := F7.blkO hA (by omega)
    refine wl (ro_assign rfl) ?_
    refine wl_nil (x_then (hK11 _ _ ?_))
    clear hK11 K11
    refine c_ret ?_
    refine bq_ret (res2 Tryz.results141 (rv_c rfl ag_87 (hM) rfl) (rv_t rfl)) ?_
    exact ⟨rfl, hF⟩
  by_cases h115 : c = 115
  · subst h115
    refine ret_of Tryz.func141 rfl Tryz.ntmps141 rfl ?_
    refine c_seq (fun K1 hK1 => ?_)
    refine c_reg ?_ -- region 0 class.go:59
    refine wl_new (ze_87) (fun mb w1 hbmb hM F1 => ?_)
    have hbsmb := Nat.le_trans hF.size hbmb
    replace hF := hF.thenDrew.thenN F1
    refine wl (ro_assign rfl) ?_
    refine wl_nil (x_then (hK1 _ _ ?_))
    clear hK1 K1
    refine forget [(0, _), (2, _)] ⟨rfl, rfl, trivial⟩ (fun e => ?_)
    refine c_seq (fun K2 hK2 => ?_)
    refine c_reg ?_ -- region 1 class.go:60
    refine wl_new (ze_87) (fun ab w2 hbab hA F2 => ?_)
    have hbsab := Nat.le_trans hF.size hbab
    have hnembab : mb < ab := Nat.lt_of_lt_of_le hM.lt hbab
    replace hF := hF.thenDrew.thenN F2
    replace hM := F2.blkN hM
    refine wl_nil (x_then (hK2 _ _ ?_))
    clear hK2 K2
    refine c_seq (fun K3 hK3 => ?_)
    refine c_seq (fun K4 hK4 => ?_)
    refine c_reg ?_ -- region 2 class.go:61
    refine wl (ro_move rfl) ?_
    refine wl_nil (x_then (hK4 _ _ ?_))
    clear hK4 K4
    refine c_block ?_
    refine c_seq (fun K5 hK5 => ?_)
    refine c_seq (fun K6 hK6 => ?_)
    refine c_reg ?_ -- region 4 class.go:62
    refine wl (ro_cmp rfl rfl rfl) ?_
    refine wl (ro_assign rfl) ?_
    refine wl_nil (x_then (hK6 _ _ ?_))
    clear hK6 K6
    refine wc_condF rfl ?_
    refine c_reg ?_ -- region 5 class.go:62
    refine wl (ro_cmp rfl rfl rfl) ?_
    refine wl (ro_assign rfl) ?_
    refine wl_nil (x_then (hK5 _ _ ?_))
    clear hK5 K5
    refine wc_condF rfl ?_
    refine c_seq (fun K7 hK7 => ?_)
    refine c_seq (fun K8 hK8 => ?_)
    refine c_reg ?_ -- region 7 class.go:64
    refine wl (ro_cmp rfl rfl rfl) ?_
    refine wl (ro_assign rfl) ?_
    refine wl_nil (x_then (hK8 _ _ ?_))
    clear hK8 K8
    refine wc_condF rfl ?_
    refine c_reg ?_ -- region 8 class.go:64
    refine wl (ro_cmp rfl rfl rfl) ?_
    refine wl (ro_assign rfl) ?_
    refine wl_nil (x_then (hK7 _ _ ?_))
    clear hK7 K7
    refine wc_condF rfl ?_
    refine c_seq (fun K9 hK9 => ?_)
    refine c_seq (fun K10 hK10 => ?_)
    refine c_reg ?_ -- region 10 class.go:66
    refine wl (ro_cmp rfl rfl rfl) ?_
    refine wl (ro_assign rfl) ?_
    refine wl_nil (x_then (hK10 _ _ ?_))
    clear hK10 K10
    refine wc_condT rfl ?_
    refine c_skip (x_then (hK9 _ _ ?_))
    clear hK9 K9
    refine wc_condT rfl ?_
    refine c_reg ?_ -- region 12 class.go:67
    refine wl_call rfl en_150 (blanks150) ?_
    rintro _ w3 ⟨rfl, F3⟩
    replace hF := hF.thenDrew.thenN F3
    replace hM := F3.blkN hM
    replace hA := F3.blkN hA
    refine wl_puta rfl rfl (by simp [Value.oneCell', i64c, u64c, u8c, ptr]) sz_87 (rfl) hA ((by simp)) (rfl) (fun w4 hA F4 => ?_)
    replace hF := hF.thenDrew.thenO F4 (by first | exact .inr (by omega) | exact .inl rfl | exact .inl (by assumption))
    replace hM := F4.blkO hM (by omega)
    refine wl_nil (x_blk (x_then (hK3 _ _ ?_)))
    clear hK3 K3
    refine c_seq (fun K11 hK11 => ?_)
    refine c_seq (fun K12 hK12 => ?_)
    refine c_reg ?_ -- region 13 class.go:71
    refine wl (ro_move rfl) ?_
    refine wl (ro_cmp rfl rfl rfl) ?_
    refine wl_nil (x_then (hK12 _ _ ?_))
    clear hK12 K12
    refine wc_condF rfl ?_
    refine c_skip (x_then (hK11 _ _ ?_))
    clear hK11 K11
    refine forget [(2, _), (4, _)] ⟨rfl, rfl, trivial⟩ (fun e => ?_)
    refine c_seq (fun K13 hK13 => ?_)
    refine c_reg ?_ -- region 15 class.go:74
    refine wl (ro_loadAggB rfl ag_87 (hA) rfl rfl) ?_
    refine wl_puta rfl rfl (by simp [Value.oneCell', i64c, u64c, u8c, ptr]) sz_87 (rfl) hM ((by simp)) (rfl) (fun w5 hM F5 => ?_)
    replace hF := hF.thenDrew.thenO F5 (by first | exact .inr (by omega) | exact .inl rfl | exact .inl (by assumption))
    replace hA := F5.blkO hA (by omega)
    refine wl (ro_assign rfl) ?_
    refine wl_nil (x_then (hK13 _ _ ?_))
    clear hK13 K13
    refine c_ret ?_
    refine bq_ret (res2 Tryz.results141 (rv_c rfl ag_87 (hM) rfl) (rv_t rfl)) ?_
    exact ⟨rfl, hF⟩
  by_cases h83 : c = 83
  · subst h83
    refine ret_of Tryz.func141 rfl Tryz.ntmps141 rfl ?_
    refine c_seq (fun K1 hK1 => ?_)
    refine c_reg ?_ -- region 0 class.go:59
    refine wl_new (ze_87) (fun mb w1 hbmb hM F1 => ?_)
    have hbsmb := Nat.le_trans hF.size hbmb
    replace hF := hF.thenDrew.thenN F1
    refine wl (ro_assign rfl) ?_
    refine wl_nil (x_then (hK1 _ _ ?_))
    clear hK1 K1
    refine forget [(0, _), (2, _)] ⟨rfl, rfl, trivial⟩ (fun e => ?_)
    refine c_seq (fun K2 hK2 => ?_)
    refine c_reg ?_ -- region 1 class.go:60
    refine wl_new (ze_87) (fun ab w2 hbab hA F2 => ?_)
    have hbsab := Nat.le_trans hF.size hbab
    have hnembab : mb < ab := Nat.lt_of_lt_of_le hM.lt hbab
    replace hF := hF.thenDrew.thenN F2
    replace hM := F2.blkN hM
    refine wl_nil (x_then (hK2 _ _ ?_))
    clear hK2 K2
    refine c_seq (fun K3 hK3 => ?_)
    refine c_seq (fun K4 hK4 => ?_)
    refine c_reg ?_ -- region 2 class.go:61
    refine wl (ro_move rfl) ?_
    refine wl_nil (x_then (hK4 _ _ ?_))
    clear hK4 K4
    refine c_block ?_
    refine c_seq (fun K5 hK5 => ?_)
    refine c_seq (fun K6 hK6 => ?_)
    refine c_reg ?_ -- region 4 class.go:62
    refine wl (ro_cmp rfl rfl rfl) ?_
    refine wl (ro_assign rfl) ?_
    refine wl_nil (x_then (hK6 _ _ ?_))
    clear hK6 K6
    refine wc_condF rfl ?_
    refine c_reg ?_ -- region 5 class.go:62
    refine wl (ro_cmp rfl rfl rfl) ?_
    refine wl (ro_assign rfl) ?_
    refine wl_nil (x_then (hK5 _ _ ?_))
    clear hK5 K5
    refine wc_condF rfl ?_
    refine c_seq (fun K7 hK7 => ?_)
    refine c_seq (fun K8 hK8 => ?_)
    refine c_reg ?_ -- region 7 class.go:64
    refine wl (ro_cmp rfl rfl rfl) ?_
    refine wl (ro_assign rfl) ?_
    refine wl_nil (x_then (hK8 _ _ ?_))
    clear hK8 K8
    refine wc_condF rfl ?_
    refine c_reg ?_ -- region 8 class.go:64
    refine wl (ro_cmp rfl rfl rfl) ?_
    refine wl (ro_assign rfl) ?_
    refine wl_nil (x_then (hK7 _ _ ?_))
    clear hK7 K7
    refine wc_condF rfl ?_
    refine c_seq (fun K9 hK9 => ?_)
    refine c_seq (fun K10 hK10 => ?_)
    refine c_reg ?_ -- region 10 class.go:66
    refine wl (ro_cmp rfl rfl rfl) ?_
    refine wl (ro_assign rfl) ?_
    refine wl_nil (x_then (hK10 _ _ ?_))
    clear hK10 K10
    refine wc_condF rfl ?_
    refine c_reg ?_ -- region 11 class.go:66
    refine wl (ro_cmp rfl rfl rfl) ?_
    refine wl (ro_assign rfl) ?_
    refine wl_nil (x_then (hK9 _ _ ?_))
    clear hK9 K9
    refine wc_condT rfl ?_
    refine c_reg ?_ -- region 12 class.go:67
    refine wl_call rfl en_150 (blanks150) ?_
    rintro _ w3 ⟨rfl, F3⟩
    replace hF := hF.thenDrew.thenN F3
    replace hM := F3.blkN hM
    replace hA := F3.blkN hA
    refine wl_puta rfl rfl (by simp [Value.oneCell', i64c, u64c, u8c, ptr]) sz_87 (rfl) hA ((by simp)) (rfl) (fun w4 hA F4 => ?_)
    replace hF := hF.thenDrew.thenO F4 (by first | exact .inr (by omega) | exact .inl rfl | exact .inl (by assumption))
    replace hM := F4.blkO hM (by omega)
    refine wl_nil (x_blk (x_then (hK3 _ _ ?_)))
    clear hK3 K3
    refine c_seq (fun K11 hK11 => ?_)
    refine c_seq (fun K12 hK12 => ?_)
    refine c_reg ?_ -- region 13 class.go:71
    refine wl (ro_move rfl) ?_
    refine wl (ro_cmp rfl rfl rfl) ?_
    refine wl_nil (x_then (hK12 _ _ ?_))
    clear hK12 K12
    refine wc_condT rfl ?_
    refine c_reg ?_ -- region 14 class.go:72
    refine wl (ro_loadAggB rfl ag_87 (hA) rfl rfl) ?_
    refine wl_call rfl en_129 (Not129) ?_
    rintro _ w5 ⟨rfl, F5⟩
    replace hF := hF.thenDrew.thenN F5
    replace hM := F5.blkN hM
    replace hA := F5.blkN hA
    refine wl_puta rfl rfl (by simp [Value.oneCell', i64c, u64c, u8c, ptr]) sz_87 (rfl) hA ((by simp)) (rfl) (fun w6 hA F6 => ?_)
    replace hF := hF.thenDrew.thenO F6 (by first | exact .inr (by omega) | exact .inl rfl | exact .inl (by assumption))
    replace hM := F6.blkO hM (by omega)
    refine wl_nil (x_then (hK11 _ _ ?_))
    clear hK11 K11
    refine forget [(2, _), (4, _)] ⟨rfl, rfl, trivial⟩ (fun e => ?_)
    refine c_seq (fun K13 hK13 => ?_)
    refine c_reg ?_ -- region 15 class.go:74
    refine wl (ro_loadAggB rfl ag_87 (hA) rfl rfl) ?_
    refine wl_puta rfl rfl (by simp [Value.oneCell', i64c, u64c, u8c, ptr]) sz_87 (rfl) hM ((by simp)) (rfl) (fun w7 hM F7 => ?_)
    replace hF := hF.thenDrew.thenO F7 (by first | exact .inr (by omega) | exact .inl rfl | exact .inl (by assumption))
    replace hA := F7.blkO hA (by omega)
    refine wl (ro_assign rfl) ?_
    refine wl_nil (x_then (hK13 _ _ ?_))
    clear hK13 K13
    refine c_ret ?_
    refine bq_ret (res2 Tryz.results141 (rv_c rfl ag_87 (hM) rfl) (rv_t rfl)) ?_
    exact ⟨rfl, hF⟩
  · have hn : namedS c = none := by unfold namedS; rw [if_neg h100, if_neg h68, if_neg h119, if_neg h87, if_neg h115, if_neg h83]
    refine ret_of Tryz.func141 rfl Tryz.ntmps141 rfl ?_
    refine c_seq (fun K1 hK1 => ?_)
    refine c_reg ?_ -- region 0 class.go:59
    refine wl_new (ze_87) (fun mb w1 hbmb hM F1 => ?_)
    have hbsmb := Nat.le_trans hF.size hbmb
    replace hF := hF.thenDrew.thenN F1
    refine wl (ro_assign rfl) ?_
    refine wl_nil (x_then (hK1 _ _ ?_))
    clear hK1 K1
    refine forget [(0, _), (2, _)] ⟨rfl, rfl, trivial⟩ (fun e => ?_)
    refine c_seq (fun K2 hK2 => ?_)
    refine c_reg ?_ -- region 1 class.go:60
    refine wl_new (ze_87) (fun ab w2 hbab hA F2 => ?_)
    have hbsab := Nat.le_trans hF.size hbab
    have hnembab : mb < ab := Nat.lt_of_lt_of_le hM.lt hbab
    replace hF := hF.thenDrew.thenN F2
    replace hM := F2.blkN hM
    refine wl_nil (x_then (hK2 _ _ ?_))
    clear hK2 K2
    refine c_seq (fun K3 hK3 => ?_)
    refine c_seq (fun K4 hK4 => ?_)
    refine c_reg ?_ -- region 2 class.go:61
    refine wl (ro_move rfl) ?_
    refine wl_nil (x_then (hK4 _ _ ?_))
    clear hK4 K4
    refine c_block ?_
    refine c_seq (fun K5 hK5 => ?_)
    refine c_seq (fun K6 hK6 => ?_)
    refine c_reg ?_ -- region 4 class.go:62
    refine wl (ro_cmp (r := false) rfl rfl (congrArg some ((u8eq c 100).trans (decide_eq_false h100)))) ?_
    refine wl (ro_assign rfl) ?_
    refine wl_nil (x_then (hK6 _ _ ?_))
    clear hK6 K6
    refine wc_condF rfl ?_
    refine c_reg ?_ -- region 5 class.go:62
    refine wl (ro_cmp (r := false) rfl rfl (congrArg some ((u8eq c 68).trans (decide_eq_false h68)))) ?_
    refine wl (ro_assign rfl) ?_
    refine wl_nil (x_then (hK5 _ _ ?_))
    clear hK5 K5
    refine wc_condF rfl ?_
    refine c_seq (fun K7 hK7 => ?_)
    refine c_seq (fun K8 hK8 => ?_)
    refine c_reg ?_ -- region 7 class.go:64
    refine wl (ro_cmp (r := false) rfl rfl (congrArg some ((u8eq c 119).trans (decide_eq_false h119)))) ?_
    refine wl (ro_assign rfl) ?_
    refine wl_nil (x_then (hK8 _ _ ?_))
    clear hK8 K8
    refine wc_condF rfl ?_
    refine c_reg ?_ -- region 8 class.go:64
    refine wl (ro_cmp (r := false) rfl rfl (congrArg some ((u8eq c 87).trans (decide_eq_false h87)))) ?_
    refine wl (ro_assign rfl) ?_
    refine wl_nil (x_then (hK7 _ _ ?_))
    clear hK7 K7
    refine wc_condF rfl ?_
    refine c_seq (fun K9 hK9 => ?_)
    refine c_seq (fun K10 hK10 => ?_)
    refine c_reg ?_ -- region 10 class.go:66
    refine wl (ro_cmp (r := false) rfl rfl (congrArg some ((u8eq c 115).trans (decide_eq_false h115)))) ?_
    refine wl (ro_assign rfl) ?_
    refine wl_nil (x_then (hK10 _ _ ?_))
    clear hK10 K10
    refine wc_condF rfl ?_
    refine c_reg ?_ -- region 11 class.go:66
    refine wl (ro_cmp (r := false) rfl rfl (congrArg some ((u8eq c 83).trans (decide_eq_false h83)))) ?_
    refine wl (ro_assign rfl) ?_
    refine wl_nil (x_then (hK9 _ _ ?_))
    clear hK9 K9
    refine wc_condF rfl ?_
    refine c_seq (fun K11 hK11 => ?_)
    refine c_reg ?_ -- region 3 class.go:69
    refine wl (ro_loadAggB rfl ag_87 (hA) rfl rfl) ?_
    refine wl_puta rfl rfl (by simp [Value.oneCell', i64c, u64c, u8c, ptr]) sz_87 (rfl) hM ((by simp)) (rfl) (fun w3 hM F3 => ?_)
    replace hF := hF.thenDrew.thenO F3 (by first | exact .inr (by omega) | exact .inl rfl | exact .inl (by assumption))
    replace hA := F3.blkO hA (by omega)
    refine wl (ro_assign rfl) ?_
    refine wl_nil (x_then (hK11 _ _ ?_))
    clear hK11 K11
    refine c_ret (x_blkR (x_thenR ?_))
    refine bq_ret (res2 Tryz.results141 (rv_c rfl ag_87 (hM) rfl) (rv_t rfl)) ?_
    exact ⟨by rw [hn]; simp only [Option.getD_none, ← zeroS]; rfl, hF⟩

end Go.Proofs.Qxb6500567aGreat
