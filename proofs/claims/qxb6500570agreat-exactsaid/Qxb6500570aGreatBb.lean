import Derived.Test.Qxb6500570aGreatBa
/- The real former: the automaton's step, a number's token. -/
namespace Go.Proofs.Qxb6500570aGreat
set_option linter.unusedVariables false
set_option linter.unusedSimpArgs false

theorem aut_0 (c : UInt8) : aut 0 c = if c = 36 then 1 else if cp c = true then 2 else 6 := by simp [aut]
theorem aut_1 (c : UInt8) : aut 1 c = if cp c = true then 2 else 6 := by simp [aut]
theorem aut_2 (c : UInt8) : aut 2 c = if c = 36 then 3 else if d1 c = true then 4 else 6 := by simp [aut]
theorem aut_3 (c : UInt8) : aut 3 c = if d1 c = true then 4 else 6 := by simp [aut]
theorem aut_4 (c : UInt8) : aut 4 c = if dg c = true then 5 else 6 := by simp [aut]

theorem step192 {w : World} {q : Nat} {c : UInt8} (hq : q ≤ 6) : Ret Tryz.prog 192 [i64c q, u8c c] w (fun v w' => v = i64c (aut q c) ∧ w' = w) := by
  have hqq : q = 0 ∨ q = 1 ∨ q = 2 ∨ q = 3 ∨ q = 4 ∨ q = 5 ∨ q = 6 := by omega
  rcases hqq with rfl | rfl | rfl | rfl | rfl | rfl | rfl
  · skip
    refine ret_of Tryz.func192 rfl Tryz.ntmps192 rfl ?_
    refine c_seq (fun K1 hK1 => ?_)
    refine c_reg ?_ -- region 0 scan.go:72
    refine wl (ro_assign rfl) ?_
    refine wl_nil (x_then (hK1 _ _ ?_))
    clear hK1 K1
    refine c_seq (fun K2 hK2 => ?_)
    refine c_seq (fun K3 hK3 => ?_)
    refine c_reg ?_ -- region 1 scan.go:73
    refine wl (ro_move rfl) ?_
    refine wl_nil (x_then (hK3 _ _ ?_))
    clear hK3 K3
    refine c_block ?_
    refine c_seq (fun K4 hK4 => ?_)
    refine c_seq (fun K5 hK5 => ?_)
    refine c_reg ?_ -- region 2 scan.go:74
    refine wl (ro_cmp rfl rfl rfl) ?_
    refine wl (ro_assign rfl) ?_
    refine wl_nil (x_then (hK5 _ _ ?_))
    clear hK5 K5
    refine wc_condT rfl ?_
    refine c_skip (x_then (hK4 _ _ ?_))
    clear hK4 K4
    refine wc_condT rfl ?_
    refine c_seq (fun K6 hK6 => ?_)
    refine c_seq (fun K7 hK7 => ?_)
    by_cases h36 : c.toNat = 36
    · skip
      refine c_reg ?_ -- region 4 scan.go:75
      refine wl (ro_move rfl) ?_
      refine wl (ro_cmp rfl rfl rfl) ?_
      refine wl (ro_move rfl) ?_
      refine wlg_yes rfl (ro_move rfl) ?_
      refine wlg_yes rfl (ro_cmp (r := true) rfl rfl (congrArg some ((beqc c.toNat 36).trans (decide_eq_true (by omega))))) ?_
      refine wl (ro_pick rfl rfl rfl) ?_
      refine wl_nil (x_then (hK7 _ _ ?_))
      clear hK7 K7
      refine wc_condT rfl ?_
      refine c_seq (fun K8 hK8 => ?_)
      refine c_reg ?_ -- region 5 scan.go:76
      refine wl (ro_assign rfl) ?_
      refine wl_nil (x_then (hK8 _ _ ?_))
      clear hK8 K8
      refine c_ret (x_thenR (x_blkR (x_thenR ?_)))
      refine bp_ret Tryz.results192 rfl ?_
      exact ⟨by simp [aut, c36.2 h36, i64c], rfl⟩
    · skip
      refine c_reg ?_ -- region 4 scan.go:75
      refine wl (ro_move rfl) ?_
      refine wl (ro_cmp rfl rfl rfl) ?_
      refine wl (ro_move rfl) ?_
      refine wlg_yes rfl (ro_move rfl) ?_
      refine wlg_yes rfl (ro_cmp (r := false) rfl rfl (congrArg some ((beqc c.toNat 36).trans (decide_eq_false (by omega))))) ?_
      refine wl (ro_pick rfl rfl rfl) ?_
      refine wl_nil (x_then (hK7 _ _ ?_))
      clear hK7 K7
      refine wc_condF rfl ?_
      refine c_skip (x_then (hK6 _ _ ?_))
      clear hK6 K6
      refine forget [(1, _)] ⟨rfl, trivial⟩ (fun e => ?_)
      refine c_seq (fun K9 hK9 => ?_)
      have hcc : c.toNat < 65 ∨ (65 ≤ c.toNat ∧ c.toNat ≤ 90) ∨ 90 < c.toNat := by omega
      rcases hcc with h | h | h
      · skip
        refine c_reg ?_ -- region 6 scan.go:78
        refine wl (ro_move rfl) ?_
        refine wl (ro_cmp (r := false) rfl rfl (congrArg some (decide_eq_false (by omega)))) ?_
        refine wl (ro_move rfl) ?_
        refine wlg_no rfl ?_
        refine wlg_no rfl ?_
        refine wl (ro_pick rfl rfl rfl) ?_
        refine wl_nil (x_then (hK9 _ _ ?_))
        clear hK9 K9
        refine wc_condF rfl ?_
        refine c_skip (x_blk (x_then (hK2 _ _ ?_)))
        clear hK2 K2
        refine forget [] trivial (fun e => ?_)
        refine c_seq (fun K10 hK10 => ?_)
        refine c_reg ?_ -- region 17 scan.go:93
        refine wl (ro_assign rfl) ?_
        refine wl_nil (x_then (hK10 _ _ ?_))
        clear hK10 K10
        refine c_ret ?_
        refine bp_ret Tryz.results192 rfl ?_
        exact ⟨by rw [aut_0, if_neg (fun e => h36 (c36.1 e)), cp_not.2 (by omega)]; rfl, rfl⟩
      · skip
        refine c_reg ?_ -- region 6 scan.go:78
        refine wl (ro_move rfl) ?_
        refine wl (ro_cmp (r := true) rfl rfl (congrArg some (decide_eq_true (by omega)))) ?_
        refine wl (ro_move rfl) ?_
        refine wlg_yes rfl (ro_move rfl) ?_
        refine wlg_yes rfl (ro_cmp (r := true) rfl rfl (congrArg some (decide_eq_true (by omega)))) ?_
        refine wl (ro_pick rfl rfl rfl) ?_
        refine wl_nil (x_then (hK9 _ _ ?_))
        clear hK9 K9
        refine wc_condT rfl ?_
        refine c_seq (fun K11 hK11 => ?_)
        refine c_reg ?_ -- region 7 scan.go:79
        refine wl (ro_assign rfl) ?_
        refine wl_nil (x_then (hK11 _ _ ?_))
        clear hK11 K11
        refine c_ret (x_blkR (x_thenR ?_))
        refine bp_ret Tryz.results192 rfl ?_
        exact ⟨by rw [aut_0, if_neg (fun e => h36 (c36.1 e)), cp_iff.2 (by omega)]; rfl, rfl⟩
      · skip
        refine c_reg ?_ -- region 6 scan.go:78
        refine wl (ro_move rfl) ?_
        refine wl (ro_cmp (r := true) rfl rfl (congrArg some (decide_eq_true (by omega)))) ?_
        refine wl (ro_move rfl) ?_
        refine wlg_yes rfl (ro_move rfl) ?_
        refine wlg_yes rfl (ro_cmp (r := false) rfl rfl (congrArg some (decide_eq_false (by omega)))) ?_
        refine wl (ro_pick rfl rfl rfl) ?_
        refine wl_nil (x_then (hK9 _ _ ?_))
        clear hK9 K9
        refine wc_condF rfl ?_
        refine c_skip (x_blk (x_then (hK2 _ _ ?_)))
        clear hK2 K2
        refine forget [] trivial (fun e => ?_)
        refine c_seq (fun K12 hK12 => ?_)
        refine c_reg ?_ -- region 17 scan.go:93
        refine wl (ro_assign rfl) ?_
        refine wl_nil (x_then (hK12 _ _ ?_))
        clear hK12 K12
        refine c_ret ?_
        refine bp_ret Tryz.results192 rfl ?_
        exact ⟨by rw [aut_0, if_neg (fun e => h36 (c36.1 e)), cp_not.2 (by omega)]; rfl, rfl⟩
  · skip
    refine ret_of Tryz.func192 rfl Tryz.ntmps192 rfl ?_
    refine c_seq (fun K1 hK1 => ?_)
    refine c_reg ?_ -- region 0 scan.go:72
    refine wl (ro_assign rfl) ?_
    refine wl_nil (x_then (hK1 _ _ ?_))
    clear hK1 K1
    refine c_seq (fun K2 hK2 => ?_)
    refine c_seq (fun K3 hK3 => ?_)
    refine c_reg ?_ -- region 1 scan.go:73
    refine wl (ro_move rfl) ?_
    refine wl_nil (x_then (hK3 _ _ ?_))
    clear hK3 K3
    refine c_block ?_
    refine c_seq (fun K4 hK4 => ?_)
    refine c_seq (fun K5 hK5 => ?_)
    refine c_reg ?_ -- region 2 scan.go:74
    refine wl (ro_cmp rfl rfl rfl) ?_
    refine wl (ro_assign rfl) ?_
    refine wl_nil (x_then (hK5 _ _ ?_))
    clear hK5 K5
    refine wc_condF rfl ?_
    refine c_reg ?_ -- region 3 scan.go:74
    refine wl (ro_cmp rfl rfl rfl) ?_
    refine wl (ro_assign rfl) ?_
    refine wl_nil (x_then (hK4 _ _ ?_))
    clear hK4 K4
    refine wc_condT rfl ?_
    refine c_seq (fun K6 hK6 => ?_)
    refine c_seq (fun K7 hK7 => ?_)
    refine c_reg ?_ -- region 4 scan.go:75
    refine wl (ro_move rfl) ?_
    refine wl (ro_cmp rfl rfl rfl) ?_
    refine wl (ro_move rfl) ?_
    refine wlg_no rfl ?_
    refine wlg_no rfl ?_
    refine wl (ro_pick rfl rfl rfl) ?_
    refine wl_nil (x_then (hK7 _ _ ?_))
    clear hK7 K7
    refine wc_condF rfl ?_
    refine c_skip (x_then (hK6 _ _ ?_))
    clear hK6 K6
    refine forget [(1, _)] ⟨rfl, trivial⟩ (fun e => ?_)
    refine c_seq (fun K8 hK8 => ?_)
    have hcc : c.toNat < 65 ∨ (65 ≤ c.toNat ∧ c.toNat ≤ 90) ∨ 90 < c.toNat := by omega
    rcases hcc with h | h | h
    · skip
      refine c_reg ?_ -- region 6 scan.go:78
      refine wl (ro_move rfl) ?_
      refine wl (ro_cmp (r := false) rfl rfl (congrArg some (decide_eq_false (by omega)))) ?_
      refine wl (ro_move rfl) ?_
      refine wlg_no rfl ?_
      refine wlg_no rfl ?_
      refine wl (ro_pick rfl rfl rfl) ?_
      refine wl_nil (x_then (hK8 _ _ ?_))
      clear hK8 K8
      refine wc_condF rfl ?_
      refine c_skip (x_blk (x_then (hK2 _ _ ?_)))
      clear hK2 K2
      refine forget [] trivial (fun e => ?_)
      refine c_seq (fun K9 hK9 => ?_)
      refine c_reg ?_ -- region 17 scan.go:93
      refine wl (ro_assign rfl) ?_
      refine wl_nil (x_then (hK9 _ _ ?_))
      clear hK9 K9
      refine c_ret ?_
      refine bp_ret Tryz.results192 rfl ?_
      exact ⟨by rw [aut_1, cp_not.2 (by omega)]; rfl, rfl⟩
    · skip
      refine c_reg ?_ -- region 6 scan.go:78
      refine wl (ro_move rfl) ?_
      refine wl (ro_cmp (r := true) rfl rfl (congrArg some (decide_eq_true (by omega)))) ?_
      refine wl (ro_move rfl) ?_
      refine wlg_yes rfl (ro_move rfl) ?_
      refine wlg_yes rfl (ro_cmp (r := true) rfl rfl (congrArg some (decide_eq_true (by omega)))) ?_
      refine wl (ro_pick rfl rfl rfl) ?_
      refine wl_nil (x_then (hK8 _ _ ?_))
      clear hK8 K8
      refine wc_condT rfl ?_
      refine c_seq (fun K10 hK10 => ?_)
      refine c_reg ?_ -- region 7 scan.go:79
      refine wl (ro_assign rfl) ?_
      refine wl_nil (x_then (hK10 _ _ ?_))
      clear hK10 K10
      refine c_ret (x_blkR (x_thenR ?_))
      refine bp_ret Tryz.results192 rfl ?_
      exact ⟨by rw [aut_1, cp_iff.2 (by omega)]; rfl, rfl⟩
    · skip
      refine c_reg ?_ -- region 6 scan.go:78
      refine wl (ro_move rfl) ?_
      refine wl (ro_cmp (r := true) rfl rfl (congrArg some (decide_eq_true (by omega)))) ?_
      refine wl (ro_move rfl) ?_
      refine wlg_yes rfl (ro_move rfl) ?_
      refine wlg_yes rfl (ro_cmp (r := false) rfl rfl (congrArg some (decide_eq_false (by omega)))) ?_
      refine wl (ro_pick rfl rfl rfl) ?_
      refine wl_nil (x_then (hK8 _ _ ?_))
      clear hK8 K8
      refine wc_condF rfl ?_
      refine c_skip (x_blk (x_then (hK2 _ _ ?_)))
      clear hK2 K2
      refine forget [] trivial (fun e => ?_)
      refine c_seq (fun K11 hK11 => ?_)
      refine c_reg ?_ -- region 17 scan.go:93
      refine wl (ro_assign rfl) ?_
      refine wl_nil (x_then (hK11 _ _ ?_))
      clear hK11 K11
      refine c_ret ?_
      refine bp_ret Tryz.results192 rfl ?_
      exact ⟨by rw [aut_1, cp_not.2 (by omega)]; rfl, rfl⟩
  · skip
    refine ret_of Tryz.func192 rfl Tryz.ntmps192 rfl ?_
    refine c_seq (fun K1 hK1 => ?_)
    refine c_reg ?_ -- region 0 scan.go:72
    refine wl (ro_assign rfl) ?_
    refine wl_nil (x_then (hK1 _ _ ?_))
    clear hK1 K1
    refine c_seq (fun K2 hK2 => ?_)
    refine c_seq (fun K3 hK3 => ?_)
    refine c_reg ?_ -- region 1 scan.go:73
    refine wl (ro_move rfl) ?_
    refine wl_nil (x_then (hK3 _ _ ?_))
    clear hK3 K3
    refine c_block ?_
    refine c_seq (fun K4 hK4 => ?_)
    refine c_seq (fun K5 hK5 => ?_)
    refine c_reg ?_ -- region 2 scan.go:74
    refine wl (ro_cmp rfl rfl rfl) ?_
    refine wl (ro_assign rfl) ?_
    refine wl_nil (x_then (hK5 _ _ ?_))
    clear hK5 K5
    refine wc_condF rfl ?_
    refine c_reg ?_ -- region 3 scan.go:74
    refine wl (ro_cmp rfl rfl rfl) ?_
    refine wl (ro_assign rfl) ?_
    refine wl_nil (x_then (hK4 _ _ ?_))
    clear hK4 K4
    refine wc_condF rfl ?_
    refine c_seq (fun K6 hK6 => ?_)
    refine c_seq (fun K7 hK7 => ?_)
    refine c_reg ?_ -- region 8 scan.go:81
    refine wl (ro_cmp rfl rfl rfl) ?_
    refine wl (ro_assign rfl) ?_
    refine wl_nil (x_then (hK7 _ _ ?_))
    clear hK7 K7
    refine wc_condT rfl ?_
    refine c_skip (x_then (hK6 _ _ ?_))
    clear hK6 K6
    refine wc_condT rfl ?_
    refine c_seq (fun K8 hK8 => ?_)
    refine c_seq (fun K9 hK9 => ?_)
    by_cases h36 : c.toNat = 36
    · skip
      refine c_reg ?_ -- region 10 scan.go:82
      refine wl (ro_move rfl) ?_
      refine wl (ro_cmp rfl rfl rfl) ?_
      refine wl (ro_move rfl) ?_
      refine wlg_yes rfl (ro_move rfl) ?_
      refine wlg_yes rfl (ro_cmp (r := true) rfl rfl (congrArg some ((beqc c.toNat 36).trans (decide_eq_true (by omega))))) ?_
      refine wl (ro_pick rfl rfl rfl) ?_
      refine wl_nil (x_then (hK9 _ _ ?_))
      clear hK9 K9
      refine wc_condT rfl ?_
      refine c_seq (fun K10 hK10 => ?_)
      refine c_reg ?_ -- region 11 scan.go:83
      refine wl (ro_assign rfl) ?_
      refine wl_nil (x_then (hK10 _ _ ?_))
      clear hK10 K10
      refine c_ret (x_thenR (x_blkR (x_thenR ?_)))
      refine bp_ret Tryz.results192 rfl ?_
      exact ⟨by simp [aut, c36.2 h36, i64c], rfl⟩
    · skip
      refine c_reg ?_ -- region 10 scan.go:82
      refine wl (ro_move rfl) ?_
      refine wl (ro_cmp rfl rfl rfl) ?_
      refine wl (ro_move rfl) ?_
      refine wlg_yes rfl (ro_move rfl) ?_
      refine wlg_yes rfl (ro_cmp (r := false) rfl rfl (congrArg some ((beqc c.toNat 36).trans (decide_eq_false (by omega))))) ?_
      refine wl (ro_pick rfl rfl rfl) ?_
      refine wl_nil (x_then (hK9 _ _ ?_))
      clear hK9 K9
      refine wc_condF rfl ?_
      refine c_skip (x_then (hK8 _ _ ?_))
      clear hK8 K8
      refine forget [(1, _)] ⟨rfl, trivial⟩ (fun e => ?_)
      refine c_seq (fun K11 hK11 => ?_)
      have hcc : c.toNat < 49 ∨ (49 ≤ c.toNat ∧ c.toNat ≤ 57) ∨ 57 < c.toNat := by omega
      rcases hcc with h | h | h
      · skip
        refine c_reg ?_ -- region 12 scan.go:85
        refine wl (ro_move rfl) ?_
        refine wl (ro_cmp (r := false) rfl rfl (congrArg some (decide_eq_false (by omega)))) ?_
        refine wl (ro_move rfl) ?_
        refine wlg_no rfl ?_
        refine wlg_no rfl ?_
        refine wl (ro_pick rfl rfl rfl) ?_
        refine wl_nil (x_then (hK11 _ _ ?_))
        clear hK11 K11
        refine wc_condF rfl ?_
        refine c_skip (x_blk (x_then (hK2 _ _ ?_)))
        clear hK2 K2
        refine forget [] trivial (fun e => ?_)
        refine c_seq (fun K12 hK12 => ?_)
        refine c_reg ?_ -- region 17 scan.go:93
        refine wl (ro_assign rfl) ?_
        refine wl_nil (x_then (hK12 _ _ ?_))
        clear hK12 K12
        refine c_ret ?_
        refine bp_ret Tryz.results192 rfl ?_
        exact ⟨by rw [aut_2, if_neg (fun e => h36 (c36.1 e)), d1_not.2 (by omega)]; rfl, rfl⟩
      · skip
        refine c_reg ?_ -- region 12 scan.go:85
        refine wl (ro_move rfl) ?_
        refine wl (ro_cmp (r := true) rfl rfl (congrArg some (decide_eq_true (by omega)))) ?_
        refine wl (ro_move rfl) ?_
        refine wlg_yes rfl (ro_move rfl) ?_
        refine wlg_yes rfl (ro_cmp (r := true) rfl rfl (congrArg some (decide_eq_true (by omega)))) ?_
        refine wl (ro_pick rfl rfl rfl) ?_
        refine wl_nil (x_then (hK11 _ _ ?_))
        clear hK11 K11
        refine wc_condT rfl ?_
        refine c_seq (fun K13 hK13 => ?_)
        refine c_reg ?_ -- region 13 scan.go:86
        refine wl (ro_assign rfl) ?_
        refine wl_nil (x_then (hK13 _ _ ?_))
        clear hK13 K13
        refine c_ret (x_blkR (x_thenR ?_))
        refine bp_ret Tryz.results192 rfl ?_
        exact ⟨by rw [aut_2, if_neg (fun e => h36 (c36.1 e)), d1_iff.2 (by omega)]; rfl, rfl⟩
      · skip
        refine c_reg ?_ -- region 12 scan.go:85
        refine wl (ro_move rfl) ?_
        refine wl (ro_cmp (r := true) rfl rfl (congrArg some (decide_eq_true (by omega)))) ?_
        refine wl (ro_move rfl) ?_
        refine wlg_yes rfl (ro_move rfl) ?_
        refine wlg_yes rfl (ro_cmp (r := false) rfl rfl (congrArg some (decide_eq_false (by omega)))) ?_
        refine wl (ro_pick rfl rfl rfl) ?_
        refine wl_nil (x_then (hK11 _ _ ?_))
        clear hK11 K11
        refine wc_condF rfl ?_
        refine c_skip (x_blk (x_then (hK2 _ _ ?_)))
        clear hK2 K2
        refine forget [] trivial (fun e => ?_)
        refine c_seq (fun K14 hK14 => ?_)
        refine c_reg ?_ -- region 17 scan.go:93
        refine wl (ro_assign rfl) ?_
        refine wl_nil (x_then (hK14 _ _ ?_))
        clear hK14 K14
        refine c_ret ?_
        refine bp_ret Tryz.results192 rfl ?_
        exact ⟨by rw [aut_2, if_neg (fun e => h36 (c36.1 e)), d1_not.2 (by omega)]; rfl, rfl⟩
  · skip
    refine ret_of Tryz.func192 rfl Tryz.ntmps192 rfl ?_
    refine c_seq (fun K1 hK1 => ?_)
    refine c_reg ?_ -- region 0 scan.go:72
    refine wl (ro_assign rfl) ?_
    refine wl_nil (x_then (hK1 _ _ ?_))
    clear hK1 K1
    refine c_seq (fun K2 hK2 => ?_)
    refine c_seq (fun K3 hK3 => ?_)
    refine c_reg ?_ -- region 1 scan.go:73
    refine wl (ro_move rfl) ?_
    refine wl_nil (x_then (hK3 _ _ ?_))
    clear hK3 K3
    refine c_block ?_
    refine c_seq (fun K4 hK4 => ?_)
    refine c_seq (fun K5 hK5 => ?_)
    refine c_reg ?_ -- region 2 scan.go:74
    refine wl (ro_cmp rfl rfl rfl) ?_
    refine wl (ro_assign rfl) ?_
    refine wl_nil (x_then (hK5 _ _ ?_))
    clear hK5 K5
    refine wc_condF rfl ?_
    refine c_reg ?_ -- region 3 scan.go:74
    refine wl (ro_cmp rfl rfl rfl) ?_
    refine wl (ro_assign rfl) ?_
    refine wl_nil (x_then (hK4 _ _ ?_))
    clear hK4 K4
    refine wc_condF rfl ?_
    refine c_seq (fun K6 hK6 => ?_)
    refine c_seq (fun K7 hK7 => ?_)
    refine c_reg ?_ -- region 8 scan.go:81
    refine wl (ro_cmp rfl rfl rfl) ?_
    refine wl (ro_assign rfl) ?_
    refine wl_nil (x_then (hK7 _ _ ?_))
    clear hK7 K7
    refine wc_condF rfl ?_
    refine c_reg ?_ -- region 9 scan.go:81
    refine wl (ro_cmp rfl rfl rfl) ?_
    refine wl (ro_assign rfl) ?_
    refine wl_nil (x_then (hK6 _ _ ?_))
    clear hK6 K6
    refine wc_condT rfl ?_
    refine c_seq (fun K8 hK8 => ?_)
    refine c_seq (fun K9 hK9 => ?_)
    refine c_reg ?_ -- region 10 scan.go:82
    refine wl (ro_move rfl) ?_
    refine wl (ro_cmp rfl rfl rfl) ?_
    refine wl (ro_move rfl) ?_
    refine wlg_no rfl ?_
    refine wlg_no rfl ?_
    refine wl (ro_pick rfl rfl rfl) ?_
    refine wl_nil (x_then (hK9 _ _ ?_))
    clear hK9 K9
    refine wc_condF rfl ?_
    refine c_skip (x_then (hK8 _ _ ?_))
    clear hK8 K8
    refine forget [(1, _)] ⟨rfl, trivial⟩ (fun e => ?_)
    refine c_seq (fun K10 hK10 => ?_)
    have hcc : c.toNat < 49 ∨ (49 ≤ c.toNat ∧ c.toNat ≤ 57) ∨ 57 < c.toNat := by omega
    rcases hcc with h | h | h
    · skip
      refine c_reg ?_ -- region 12 scan.go:85
      refine wl (ro_move rfl) ?_
      refine wl (ro_cmp (r := false) rfl rfl (congrArg some (decide_eq_false (by omega)))) ?_
      refine wl (ro_move rfl) ?_
      refine wlg_no rfl ?_
      refine wlg_no rfl ?_
      refine wl (ro_pick rfl rfl rfl) ?_
      refine wl_nil (x_then (hK10 _ _ ?_))
      clear hK10 K10
      refine wc_condF rfl ?_
      refine c_skip (x_blk (x_then (hK2 _ _ ?_)))
      clear hK2 K2
      refine forget [] trivial (fun e => ?_)
      refine c_seq (fun K11 hK11 => ?_)
      refine c_reg ?_ -- region 17 scan.go:93
      refine wl (ro_assign rfl) ?_
      refine wl_nil (x_then (hK11 _ _ ?_))
      clear hK11 K11
      refine c_ret ?_
      refine bp_ret Tryz.results192 rfl ?_
      exact ⟨by rw [aut_3, d1_not.2 (by omega)]; rfl, rfl⟩
    · skip
      refine c_reg ?_ -- region 12 scan.go:85
      refine wl (ro_move rfl) ?_
      refine wl (ro_cmp (r := true) rfl rfl (congrArg some (decide_eq_true (by omega)))) ?_
      refine wl (ro_move rfl) ?_
      refine wlg_yes rfl (ro_move rfl) ?_
      refine wlg_yes rfl (ro_cmp (r := true) rfl rfl (congrArg some (decide_eq_true (by omega)))) ?_
      refine wl (ro_pick rfl rfl rfl) ?_
      refine wl_nil (x_then (hK10 _ _ ?_))
      clear hK10 K10
      refine wc_condT rfl ?_
      refine c_seq (fun K12 hK12 => ?_)
      refine c_reg ?_ -- region 13 scan.go:86
      refine wl (ro_assign rfl) ?_
      refine wl_nil (x_then (hK12 _ _ ?_))
      clear hK12 K12
      refine c_ret (x_blkR (x_thenR ?_))
      refine bp_ret Tryz.results192 rfl ?_
      exact ⟨by rw [aut_3, d1_iff.2 (by omega)]; rfl, rfl⟩
    · skip
      refine c_reg ?_ -- region 12 scan.go:85
      refine wl (ro_move rfl) ?_
      refine wl (ro_cmp (r := true) rfl rfl (congrArg some (decide_eq_true (by omega)))) ?_
      refine wl (ro_move rfl) ?_
      refine wlg_yes rfl (ro_move rfl) ?_
      refine wlg_yes rfl (ro_cmp (r := false) rfl rfl (congrArg some (decide_eq_false (by omega)))) ?_
      refine wl (ro_pick rfl rfl rfl) ?_
      refine wl_nil (x_then (hK10 _ _ ?_))
      clear hK10 K10
      refine wc_condF rfl ?_
      refine c_skip (x_blk (x_then (hK2 _ _ ?_)))
      clear hK2 K2
      refine forget [] trivial (fun e => ?_)
      refine c_seq (fun K13 hK13 => ?_)
      refine c_reg ?_ -- region 17 scan.go:93
      refine wl (ro_assign rfl) ?_
      refine wl_nil (x_then (hK13 _ _ ?_))
      clear hK13 K13
      refine c_ret ?_
      refine bp_ret Tryz.results192 rfl ?_
      exact ⟨by rw [aut_3, d1_not.2 (by omega)]; rfl, rfl⟩
  · skip
    refine ret_of Tryz.func192 rfl Tryz.ntmps192 rfl ?_
    refine c_seq (fun K1 hK1 => ?_)
    refine c_reg ?_ -- region 0 scan.go:72
    refine wl (ro_assign rfl) ?_
    refine wl_nil (x_then (hK1 _ _ ?_))
    clear hK1 K1
    refine c_seq (fun K2 hK2 => ?_)
    refine c_seq (fun K3 hK3 => ?_)
    refine c_reg ?_ -- region 1 scan.go:73
    refine wl (ro_move rfl) ?_
    refine wl_nil (x_then (hK3 _ _ ?_))
    clear hK3 K3
    refine c_block ?_
    refine c_seq (fun K4 hK4 => ?_)
    refine c_seq (fun K5 hK5 => ?_)
    refine c_reg ?_ -- region 2 scan.go:74
    refine wl (ro_cmp rfl rfl rfl) ?_
    refine wl (ro_assign rfl) ?_
    refine wl_nil (x_then (hK5 _ _ ?_))
    clear hK5 K5
    refine wc_condF rfl ?_
    refine c_reg ?_ -- region 3 scan.go:74
    refine wl (ro_cmp rfl rfl rfl) ?_
    refine wl (ro_assign rfl) ?_
    refine wl_nil (x_then (hK4 _ _ ?_))
    clear hK4 K4
    refine wc_condF rfl ?_
    refine c_seq (fun K6 hK6 => ?_)
    refine c_seq (fun K7 hK7 => ?_)
    refine c_reg ?_ -- region 8 scan.go:81
    refine wl (ro_cmp rfl rfl rfl) ?_
    refine wl (ro_assign rfl) ?_
    refine wl_nil (x_then (hK7 _ _ ?_))
    clear hK7 K7
    refine wc_condF rfl ?_
    refine c_reg ?_ -- region 9 scan.go:81
    refine wl (ro_cmp rfl rfl rfl) ?_
    refine wl (ro_assign rfl) ?_
    refine wl_nil (x_then (hK6 _ _ ?_))
    clear hK6 K6
    refine wc_condF rfl ?_
    refine c_seq (fun K8 hK8 => ?_)
    refine c_reg ?_ -- region 14 scan.go:88
    refine wl (ro_cmp rfl rfl rfl) ?_
    refine wl (ro_assign rfl) ?_
    refine wl_nil (x_then (hK8 _ _ ?_))
    clear hK8 K8
    refine wc_condT rfl ?_
    refine c_seq (fun K9 hK9 => ?_)
    have hcc : c.toNat < 48 ∨ (48 ≤ c.toNat ∧ c.toNat ≤ 57) ∨ 57 < c.toNat := by omega
    rcases hcc with h | h | h
    · skip
      refine c_reg ?_ -- region 15 scan.go:89
      refine wl (ro_move rfl) ?_
      refine wl (ro_cmp (r := false) rfl rfl (congrArg some (decide_eq_false (by omega)))) ?_
      refine wl (ro_move rfl) ?_
      refine wlg_no rfl ?_
      refine wlg_no rfl ?_
      refine wl (ro_pick rfl rfl rfl) ?_
      refine wl_nil (x_then (hK9 _ _ ?_))
      clear hK9 K9
      refine wc_condF rfl ?_
      refine c_skip (x_blk (x_then (hK2 _ _ ?_)))
      clear hK2 K2
      refine forget [] trivial (fun e => ?_)
      refine c_seq (fun K10 hK10 => ?_)
      refine c_reg ?_ -- region 17 scan.go:93
      refine wl (ro_assign rfl) ?_
      refine wl_nil (x_then (hK10 _ _ ?_))
      clear hK10 K10
      refine c_ret ?_
      refine bp_ret Tryz.results192 rfl ?_
      exact ⟨by rw [aut_4, dg_not.2 (by omega)]; rfl, rfl⟩
    · skip
      refine c_reg ?_ -- region 15 scan.go:89
      refine wl (ro_move rfl) ?_
      refine wl (ro_cmp (r := true) rfl rfl (congrArg some (decide_eq_true (by omega)))) ?_
      refine wl (ro_move rfl) ?_
      refine wlg_yes rfl (ro_move rfl) ?_
      refine wlg_yes rfl (ro_cmp (r := true) rfl rfl (congrArg some (decide_eq_true (by omega)))) ?_
      refine wl (ro_pick rfl rfl rfl) ?_
      refine wl_nil (x_then (hK9 _ _ ?_))
      clear hK9 K9
      refine wc_condT rfl ?_
      refine c_seq (fun K11 hK11 => ?_)
      refine c_reg ?_ -- region 16 scan.go:90
      refine wl (ro_assign rfl) ?_
      refine wl_nil (x_then (hK11 _ _ ?_))
      clear hK11 K11
      refine c_ret (x_blkR (x_thenR ?_))
      refine bp_ret Tryz.results192 rfl ?_
      exact ⟨by rw [aut_4, dg_iff.2 (by omega)]; rfl, rfl⟩
    · skip
      refine c_reg ?_ -- region 15 scan.go:89
      refine wl (ro_move rfl) ?_
      refine wl (ro_cmp (r := true) rfl rfl (congrArg some (decide_eq_true (by omega)))) ?_
      refine wl (ro_move rfl) ?_
      refine wlg_yes rfl (ro_move rfl) ?_
      refine wlg_yes rfl (ro_cmp (r := false) rfl rfl (congrArg some (decide_eq_false (by omega)))) ?_
      refine wl (ro_pick rfl rfl rfl) ?_
      refine wl_nil (x_then (hK9 _ _ ?_))
      clear hK9 K9
      refine wc_condF rfl ?_
      refine c_skip (x_blk (x_then (hK2 _ _ ?_)))
      clear hK2 K2
      refine forget [] trivial (fun e => ?_)
      refine c_seq (fun K12 hK12 => ?_)
      refine c_reg ?_ -- region 17 scan.go:93
      refine wl (ro_assign rfl) ?_
      refine wl_nil (x_then (hK12 _ _ ?_))
      clear hK12 K12
      refine c_ret ?_
      refine bp_ret Tryz.results192 rfl ?_
      exact ⟨by rw [aut_4, dg_not.2 (by omega)]; rfl, rfl⟩
  · skip
    refine ret_of Tryz.func192 rfl Tryz.ntmps192 rfl ?_
    refine c_seq (fun K1 hK1 => ?_)
    refine c_reg ?_ -- region 0 scan.go:72
    refine wl (ro_assign rfl) ?_
    refine wl_nil (x_then (hK1 _ _ ?_))
    clear hK1 K1
    refine c_seq (fun K2 hK2 => ?_)
    refine c_seq (fun K3 hK3 => ?_)
    refine c_reg ?_ -- region 1 scan.go:73
    refine wl (ro_move rfl) ?_
    refine wl_nil (x_then (hK3 _ _ ?_))
    clear hK3 K3
    refine c_block ?_
    refine c_seq (fun K4 hK4 => ?_)
    refine c_seq (fun K5 hK5 => ?_)
    refine c_reg ?_ -- region 2 scan.go:74
    refine wl (ro_cmp rfl rfl rfl) ?_
    refine wl (ro_assign rfl) ?_
    refine wl_nil (x_then (hK5 _ _ ?_))
    clear hK5 K5
    refine wc_condF rfl ?_
    refine c_reg ?_ -- region 3 scan.go:74
    refine wl (ro_cmp rfl rfl rfl) ?_
    refine wl (ro_assign rfl) ?_
    refine wl_nil (x_then (hK4 _ _ ?_))
    clear hK4 K4
    refine wc_condF rfl ?_
    refine c_seq (fun K6 hK6 => ?_)
    refine c_seq (fun K7 hK7 => ?_)
    refine c_reg ?_ -- region 8 scan.go:81
    refine wl (ro_cmp rfl rfl rfl) ?_
    refine wl (ro_assign rfl) ?_
    refine wl_nil (x_then (hK7 _ _ ?_))
    clear hK7 K7
    refine wc_condF rfl ?_
    refine c_reg ?_ -- region 9 scan.go:81
    refine wl (ro_cmp rfl rfl rfl) ?_
    refine wl (ro_assign rfl) ?_
    refine wl_nil (x_then (hK6 _ _ ?_))
    clear hK6 K6
    refine wc_condF rfl ?_
    refine c_seq (fun K8 hK8 => ?_)
    refine c_reg ?_ -- region 14 scan.go:88
    refine wl (ro_cmp rfl rfl rfl) ?_
    refine wl (ro_assign rfl) ?_
    refine wl_nil (x_then (hK8 _ _ ?_))
    clear hK8 K8
    refine wc_condF rfl ?_
    refine c_skip (x_blk (x_then (hK2 _ _ ?_)))
    clear hK2 K2
    refine forget [] trivial (fun e => ?_)
    refine c_seq (fun K9 hK9 => ?_)
    refine c_reg ?_ -- region 17 scan.go:93
    refine wl (ro_assign rfl) ?_
    refine wl_nil (x_then (hK9 _ _ ?_))
    clear hK9 K9
    refine c_ret ?_
    refine bp_ret Tryz.results192 rfl ?_
    exact ⟨rfl, rfl⟩
  · skip
    refine ret_of Tryz.func192 rfl Tryz.ntmps192 rfl ?_
    refine c_seq (fun K1 hK1 => ?_)
    refine c_reg ?_ -- region 0 scan.go:72
    refine wl (ro_assign rfl) ?_
    refine wl_nil (x_then (hK1 _ _ ?_))
    clear hK1 K1
    refine c_seq (fun K2 hK2 => ?_)
    refine c_seq (fun K3 hK3 => ?_)
    refine c_reg ?_ -- region 1 scan.go:73
    refine wl (ro_move rfl) ?_
    refine wl_nil (x_then (hK3 _ _ ?_))
    clear hK3 K3
    refine c_block ?_
    refine c_seq (fun K4 hK4 => ?_)
    refine c_seq (fun K5 hK5 => ?_)
    refine c_reg ?_ -- region 2 scan.go:74
    refine wl (ro_cmp rfl rfl rfl) ?_
    refine wl (ro_assign rfl) ?_
    refine wl_nil (x_then (hK5 _ _ ?_))
    clear hK5 K5
    refine wc_condF rfl ?_
    refine c_reg ?_ -- region 3 scan.go:74
    refine wl (ro_cmp rfl rfl rfl) ?_
    refine wl (ro_assign rfl) ?_
    refine wl_nil (x_then (hK4 _ _ ?_))
    clear hK4 K4
    refine wc_condF rfl ?_
    refine c_seq (fun K6 hK6 => ?_)
    refine c_seq (fun K7 hK7 => ?_)
    refine c_reg ?_ -- region 8 scan.go:81
    refine wl (ro_cmp rfl rfl rfl) ?_
    refine wl (ro_assign rfl) ?_
    refine wl_nil (x_then (hK7 _ _ ?_))
    clear hK7 K7
    refine wc_condF rfl ?_
    refine c_reg ?_ -- region 9 scan.go:81
    refine wl (ro_cmp rfl rfl rfl) ?_
    refine wl (ro_assign rfl) ?_
    refine wl_nil (x_then (hK6 _ _ ?_))
    clear hK6 K6
    refine wc_condF rfl ?_
    refine c_seq (fun K8 hK8 => ?_)
    refine c_reg ?_ -- region 14 scan.go:88
    refine wl (ro_cmp rfl rfl rfl) ?_
    refine wl (ro_assign rfl) ?_
    refine wl_nil (x_then (hK8 _ _ ?_))
    clear hK8 K8
    refine wc_condF rfl ?_
    refine c_skip (x_blk (x_then (hK2 _ _ ?_)))
    clear hK2 K2
    refine forget [] trivial (fun e => ?_)
    refine c_seq (fun K9 hK9 => ?_)
    refine c_reg ?_ -- region 17 scan.go:93
    refine wl (ro_assign rfl) ?_
    refine wl_nil (x_then (hK9 _ _ ?_))
    clear hK9 K9
    refine c_ret ?_
    refine bp_ret Tryz.results192 rfl ?_
    exact ⟨rfl, rfl⟩

theorem dv_sub {c : UInt8} (h : dg c = true) : ((c.toNat - 48 : Nat) : Int) = (c.toNat : Int) - 48 := by
  have := dg_iff.1 h
  omega

set_option maxHeartbeats 1000000 in
theorem number151 {w : World} {s : List UInt8} {i : Nat} (hi : i ≤ s.length) (hs : s.length ≤ 40) : Ret Tryz.prog 151 [S s, i64c i] w (fun v w' => v = .agg (tkc i (i + ((s.drop i).takeWhile dg).length) (numT ((s.drop i).takeWhile dg))).toArray ∧ Fram none' w w') := by
  have hF : Fram none' w w := Fram.refl _ _
  generalize hD : (s.drop i).takeWhile dg = D
  have hDl : D.length ≤ s.length - i := by rw [← hD, ← List.length_drop]; exact tw_le _ _
  have hDa : ∀ c ∈ D, dg c = true := by rw [← hD]; exact tw_all
  refine ret_of Tryz.func151 rfl Tryz.ntmps151 rfl ?_
  refine c_seq (fun K1 hK1 => ?_)
  refine c_reg ?_ -- region 0 scan.go:57
  refine wl_new (ze_189) (fun rb w1 hbrb hR F1 => ?_)
  have hbsrb := Nat.le_trans hF.size hbrb
  replace hF := hF.thenDrew.thenN F1
  refine wl_nil (x_then (hK1 _ _ ?_))
  clear hK1 K1
  refine forget [(0, _), (1, _), (4, _)] ⟨rfl, rfl, rfl, trivial⟩ (fun e => ?_)
  refine c_seq (fun K2 hK2 => ?_)
  refine c_reg ?_ -- region 1 scan.go:58
  refine wl (ro_move rfl) ?_
  refine wl (ro_move rfl) ?_
  refine wl (ro_build rfl bld_189_0_1_2_3) ?_
  refine wl_new (ze_189) (fun tb w2 hbtb hT F2 => ?_)
  have hbstb := Nat.le_trans hF.size hbtb
  have hnerbtb : rb < tb := Nat.lt_of_lt_of_le hR.lt hbtb
  replace hF := hF.thenDrew.thenN F2
  replace hR := F2.blkN hR
  refine wl_puta rfl rfl ((tkc_cells i i ⟨2, 1, 0, zR⟩)) sz_189 (rfl) hT ((by simp)) (rfl) (fun w3 hT F3 => ?_)
  replace hF := hF.thenDrew.thenO F3 (by first | exact .inr (by omega) | exact .inl rfl | exact .inl (by assumption))
  replace hR := F3.blkO hR (by omega)
  refine wl_nil (x_then (hK2 _ _ ?_))
  clear hK2 K2
  refine forget [(0, _), (1, _), (4, _), (5, _)] ⟨rfl, rfl, rfl, rfl, trivial⟩ (fun e => ?_)
  refine c_seq (fun K3 hK3 => ?_)
  refine c_block ?_
  -- loop@r2: live slots [0, 1, 4, 5]
  refine c_loopG (fun m a' w' => ∃ (k : Nat), m = D.length - k ∧ k ≤ D.length ∧ Blk w'.heap rb [i64c 0, i64c 0, i64c 0, i64c 0, i64c 0, icv 0, icv 0, .bool false, .bool false] 189 ∧ Blk w'.heap tb (tkc i (i + k) ⟨2, 1, numF (D.take (min k 9)), zR⟩) 189 ∧ Fram none' w w' ∧ ∃ e, a' = Fr 49 (upds e [(0, S s), (1, i64c i), (4, ptr rb), (5, ptr tb)]) []) D.length ⟨0, rfl, by omega, hR, hT, hF, kp _ ⟨rfl, rfl, rfl, rfl, trivial⟩⟩ ?_
  clear hR hT hF
  rintro m a' w1 ⟨k, rfl, hk, hR, hT, hF, e, rfl⟩
  have hsz := hF.size
  refine c_seq (fun K4 hK4 => ?_)
  refine c_seq (fun K5 hK5 => ?_)
  have hcase : (k < D.length ∧ ∃ c, s[i + k]? = some c ∧ dg c = true ∧ D[k]? = some c) ∨ (k = D.length ∧ ∃ c, s[i + k]? = some c ∧ dg c = false) ∨ (k = D.length ∧ i + k = s.length) := by
    rcases Nat.lt_or_ge k D.length with h | h
    · left
      obtain ⟨c, h1, h2, h3⟩ := tw_lt (f := dg) (u := s.drop i) (k := k) (by rw [hD]; exact h)
      rw [List.getElem?_drop] at h1
      rw [hD] at h3
      exact ⟨h, c, h1, h2, h3⟩
    · right
      have hkD : k = D.length := by omega
      cases hc : s[i + k]? with
      | none => right; exact ⟨hkD, by have := List.getElem?_eq_none_iff.1 hc; omega⟩
      | some c =>
        left
        exact ⟨hkD, c, rfl, tw_end (f := dg) (u := s.drop i) (by rw [hD, ← hkD, List.getElem?_drop]; exact hc)⟩
  rcases hcase with ⟨hlt, c, hc, hdc, hDk⟩ | ⟨hkD, c, hc, hdc⟩ | ⟨hkD, hend⟩
  · skip
    have hil : i + k < s.length := (List.getElem?_eq_some_iff.1 hc).1
    have hdr := dg_iff.1 hdc
    refine c_reg ?_ -- region 2 scan.go:59
    refine wl (ro_fieldAddr (k := 2) rfl fo_189_2) ?_
    refine wl (ro_loadB rfl sc_3 (hT) (rfl)) ?_
    refine wl (ro_move rfl) ?_
    refine wl (ro_lenS rfl st_9) ?_
    refine wl (ro_cmp (r := true) rfl rfl (congrArg some (decide_eq_true (by show ((i + k : Nat) : Int) < (s.length : Int); omega)))) ?_
    refine wl (ro_move rfl) ?_
    refine wlg_yes rfl (ro_move rfl) ?_
    refine wlg_yes rfl (ro_fieldAddr (k := 2) rfl fo_189_2) ?_
    refine wlg_yes rfl (ro_loadB rfl sc_3 (hT) (rfl)) ?_
    refine wlg_yes rfl (ro_indexS rfl rfl st_9 (rfl) (hc)) ?_
    refine wlg_call rfl rfl en_150 (digit150) ?_
    rintro _ _ ⟨rfl, rfl⟩
    try rw [hdc]
    refine wl (ro_pick rfl rfl rfl) ?_
    refine wl_nil (x_then (hK5 _ _ ?_))
    clear hK5 K5
    refine wc_condT rfl ?_
    refine c_skip (x_then (hK4 _ _ ?_))
    clear hK4 K4
    refine c_block ?_
    refine c_seq (fun K6 hK6 => ?_)
    refine c_seq (fun K7 hK7 => ?_)
    refine c_reg ?_ -- region 3 scan.go:60
    refine wl (ro_fieldAddr (k := 2) rfl fo_189_2) ?_
    refine wl (ro_loadB rfl sc_3 (hT) (rfl)) ?_
    refine wl (ro_move rfl) ?_
    refine wl (ro_arith (r := (k : Int)) rfl rfl (congrArg some (by show ((i + k : Nat) : Int) - (i : Int) = k; omega)) (Go.IntWalk.i64_in _ (by omega))) ?_
    refine wl (ro_cmp (r := decide (k < 9)) rfl rfl (congrArg some (decide_eq_decide.2 (by omega)))) ?_
    refine wl_nil (x_then (hK7 _ _ ?_))
    clear hK7 K7
    refine wc_cond rfl (fun hc25 => ?_) (fun hc25 => ?_)
    · try simp only [decide_eq_true_eq, decide_eq_false_iff_not, Bool.not_eq_true', Bool.not_eq_false', Bool.not_eq_eq_eq_not, Bool.not_true, Bool.not_false, beq_iff_eq, bne_iff_ne, ne_eq, beq_eq_false_iff_ne, bne_eq_false_iff_eq, gt_iff_lt, ge_iff_le, Int.not_lt, Int.not_le] at hc25
      have hnf : numF (D.take (min (k + 1) 9)) = numF (D.take (min k 9)) * 10 + dv c := by
        rw [show min (k + 1) 9 = k + 1 by omega, show min k 9 = k by omega, take_snocG hDk, numF_snoc]
      have hb1 := numF_all (d := D) (min (k + 1) 9) hDa (by omega)
      refine c_piL 11 [(0, false), (1, false), (2, false), (3, false), (4, false), (5, false), (6, false), (7, false), (8, false), (9, false), (10, false)] (SameH _) mixed (by kernel_rfl) rfl (by kernel_rfl) (po_then (po_blk (po_then (po_blk (po_then (po_bp)))))) (sameH_now _ _) ?_ -- region 4 scan.go:61
      refine ql_ro rfl (fun w hS => ro_fieldAddr (k := 4) rfl fo_189_4) ?_
      refine ql_ro rfl (fun w hS => ro_loadB rfl sc_3 (Blk.of_heap hT hS) (rfl)) ?_
      refine ql_ro rfl (fun w hS => ro_arith (r := ((numF (D.take (min k 9)) * 10 : Nat) : Int)) rfl rfl (congrArg some (by show ((numF (D.take (min k 9)) : Nat) : Int) * 10 = ((numF (D.take (min k 9)) * 10 : Nat) : Int); omega)) (Go.IntWalk.i64_in _ (by omega))) ?_
      refine ql_ro rfl (fun w hS => ro_move rfl) ?_
      refine ql_ro rfl (fun w hS => ro_fieldAddr (k := 2) rfl fo_189_2) ?_
      refine ql_ro rfl (fun w hS => ro_loadB rfl sc_3 (Blk.of_heap hT hS) (rfl)) ?_
      refine ql_ro rfl (fun w hS => ro_indexS rfl rfl st_9 (rfl) (hc)) ?_
      refine ql_ro rfl (fun w hS => ro_arith (r := ((dv c : Nat) : Int)) rfl rfl (congrArg some (by unfold dv; show ((c.toNat : Int)) - 48 = _; omega)) (Go.IntWalk.u8_in _ (by unfold dv; omega))) ?_
      refine ql_ro rfl (fun w hS => ro_conv rfl sc_5 in_3 (Go.IntWalk.i64_in _ (by unfold dv; omega))) ?_
      refine ql_ro rfl (fun w hS => ro_arith (r := ((numF (D.take (min (k + 1) 9)) : Nat) : Int)) rfl rfl (congrArg some (by rw [hnf]; omega)) (Go.IntWalk.i64_in _ (by omega))) ?_
      refine ql_ro rfl (fun w hS => ro_fieldAddr (k := 4) rfl fo_189_4) ?_
      refine ql_put rfl rfl rfl rfl sz_3 hT ((by simp)) ((show _ = tkc i (i + k) ⟨2, 1, numF (D.take (min (k + 1) 9)), zR⟩ from rfl)) (fun w4 hT F4 => ?_)
      replace hF := hF.thenDrew.thenO F4 (by first | exact .inr (by omega) | exact .inl rfl | exact .inl (by assumption))
      replace hR := F4.blkO hR (by omega)
      refine x_then (hK6 _ _ ?_)
      clear hK6 K6
      try rw [← hnf] at hT
      refine c_reg ?_ -- region 5 scan.go:63
      refine wl (ro_fieldAddr (k := 2) rfl fo_189_2) ?_
      refine wl (ro_loadB rfl sc_3 (hT) (rfl)) ?_
      refine wl (ro_arith (r := ((i + (k + 1) : Nat) : Int)) rfl rfl (congrArg some (by omega)) (Go.IntWalk.i64_in _ (by omega))) ?_
      refine wl (ro_fieldAddr (k := 2) rfl fo_189_2) ?_
      refine wl_put rfl rfl rfl sz_3 hT ((by simp)) ((show _ = tkc i (i + (k + 1)) ⟨2, 1, numF (D.take (min (k + 1) 9)), zR⟩ from rfl)) (fun w5 hT F5 => ?_)
      replace hF := hF.thenDrew.thenO F5 (by first | exact .inr (by omega) | exact .inl rfl | exact .inl (by assumption))
      replace hR := F5.blkO hR (by omega)
      refine wl_nil (x_blk (x_then ?_))
      exact ⟨D.length - (k + 1), by omega, k + 1, rfl, by omega, hR, hT, hF, kp _ ⟨rfl, rfl, rfl, rfl, trivial⟩⟩
    · try simp only [decide_eq_true_eq, decide_eq_false_iff_not, Bool.not_eq_true', Bool.not_eq_false', Bool.not_eq_eq_eq_not, Bool.not_true, Bool.not_false, beq_iff_eq, bne_iff_ne, ne_eq, beq_eq_false_iff_ne, bne_eq_false_iff_eq, gt_iff_lt, ge_iff_le, Int.not_lt, Int.not_le] at hc25
      have hnf : numF (D.take (min (k + 1) 9)) = numF (D.take (min k 9)) := by rw [show min (k + 1) 9 = 9 by omega, show min k 9 = 9 by omega]
      refine c_skip (x_then (hK6 _ _ ?_))
      clear hK6 K6
      try rw [← hnf] at hT
      refine c_reg ?_ -- region 5 scan.go:63
      refine wl (ro_fieldAddr (k := 2) rfl fo_189_2) ?_
      refine wl (ro_loadB rfl sc_3 (hT) (rfl)) ?_
      refine wl (ro_arith (r := ((i + (k + 1) : Nat) : Int)) rfl rfl (congrArg some (by omega)) (Go.IntWalk.i64_in _ (by omega))) ?_
      refine wl (ro_fieldAddr (k := 2) rfl fo_189_2) ?_
      refine wl_put rfl rfl rfl sz_3 hT ((by simp)) ((show _ = tkc i (i + (k + 1)) ⟨2, 1, numF (D.take (min (k + 1) 9)), zR⟩ from rfl)) (fun w6 hT F6 => ?_)
      replace hF := hF.thenDrew.thenO F6 (by first | exact .inr (by omega) | exact .inl rfl | exact .inl (by assumption))
      replace hR := F6.blkO hR (by omega)
      refine wl_nil (x_blk (x_then ?_))
      exact ⟨D.length - (k + 1), by omega, k + 1, rfl, by omega, hR, hT, hF, kp _ ⟨rfl, rfl, rfl, rfl, trivial⟩⟩
  · skip
    have hil : i + k < s.length := (List.getElem?_eq_some_iff.1 hc).1
    refine c_reg ?_ -- region 2 scan.go:59
    refine wl (ro_fieldAddr (k := 2) rfl fo_189_2) ?_
    refine wl (ro_loadB rfl sc_3 (hT) (rfl)) ?_
    refine wl (ro_move rfl) ?_
    refine wl (ro_lenS rfl st_9) ?_
    refine wl (ro_cmp (r := true) rfl rfl (congrArg some (decide_eq_true (by show ((i + k : Nat) : Int) < (s.length : Int); omega)))) ?_
    refine wl (ro_move rfl) ?_
    refine wlg_yes rfl (ro_move rfl) ?_
    refine wlg_yes rfl (ro_fieldAddr (k := 2) rfl fo_189_2) ?_
    refine wlg_yes rfl (ro_loadB rfl sc_3 (hT) (rfl)) ?_
    refine wlg_yes rfl (ro_indexS rfl rfl st_9 (rfl) (hc)) ?_
    refine wlg_call rfl rfl en_150 (digit150) ?_
    rintro _ _ ⟨rfl, rfl⟩
    try rw [hdc]
    refine wl (ro_pick rfl rfl rfl) ?_
    refine wl_nil (x_then (hK5 _ _ ?_))
    clear hK5 K5
    refine wc_condF rfl ?_
    refine c_exit (x_thenX (x_thenX (x_blkX (x_then (hK3 _ _ ?_)))))
    clear hK4 K4 hK3 K3
    refine c_seq (fun K8 hK8 => ?_)
    refine c_seq (fun K9 hK9 => ?_)
    subst hkD
    refine c_reg ?_ -- region 6 scan.go:65
    refine wl (ro_fieldAddr (k := 2) rfl fo_189_2) ?_
    refine wl (ro_loadB rfl sc_3 (hT) (rfl)) ?_
    refine wl (ro_move rfl) ?_
    refine wl (ro_arith (r := (D.length : Int)) rfl rfl (congrArg some (by show ((i + D.length : Nat) : Int) - (i : Int) = D.length; omega)) (Go.IntWalk.i64_in _ (by omega))) ?_
    refine wl (ro_cmp (r := decide (9 < D.length)) rfl rfl (congrArg some (decide_eq_decide.2 (by omega)))) ?_
    refine wl_nil (x_then (hK9 _ _ ?_))
    clear hK9 K9
    refine wc_cond rfl (fun hc45 => ?_) (fun hc45 => ?_)
    · try simp only [decide_eq_true_eq, decide_eq_false_iff_not, Bool.not_eq_true', Bool.not_eq_false', Bool.not_eq_eq_eq_not, Bool.not_true, Bool.not_false, beq_iff_eq, bne_iff_ne, ne_eq, beq_eq_false_iff_ne, bne_eq_false_iff_eq, gt_iff_lt, ge_iff_le, Int.not_lt, Int.not_le] at hc45
      have hres : numT D = ⟨3, 1, 4, zR⟩ := by unfold numT; rw [if_pos hc45]
      refine c_reg ?_ -- region 7 scan.go:66
      refine wl (ro_fieldAddr (k := 0) rfl fo_189_0) ?_
      refine wl_put rfl rfl rfl sz_3 hT ((by simp)) ((show _ = tkc i (i + D.length) ⟨3, 1, numF (D.take (min D.length 9)), zR⟩ from rfl)) (fun w7 hT F7 => ?_)
      replace hF := hF.thenDrew.thenO F7 (by first | exact .inr (by omega) | exact .inl rfl | exact .inl (by assumption))
      replace hR := F7.blkO hR (by omega)
      refine wl (ro_fieldAddr (k := 4) rfl fo_189_4) ?_
      refine wl_put rfl rfl rfl sz_3 hT ((by simp)) ((show _ = tkc i (i + D.length) ⟨3, 1, 4, zR⟩ from rfl)) (fun w8 hT F8 => ?_)
      replace hF := hF.thenDrew.thenO F8 (by first | exact .inr (by omega) | exact .inl rfl | exact .inl (by assumption))
      replace hR := F8.blkO hR (by omega)
      refine wl_nil (x_then (hK8 _ _ ?_))
      clear hK8 K8
      refine forget [(4, _), (5, _)] ⟨rfl, rfl, trivial⟩ (fun e => ?_)
      refine c_seq (fun K10 hK10 => ?_)
      refine c_reg ?_ -- region 8 scan.go:68
      refine wl (ro_loadAggB rfl ag_189 (hT) (rfl) (rfl)) ?_
      refine wl_puta rfl rfl ((tkc_cells _ _ _)) sz_189 (rfl) hR ((by simp)) (rfl) (fun w9 hR F9 => ?_)
      replace hF := hF.thenDrew.thenO F9 (by first | exact .inr (by omega) | exact .inl rfl | exact .inl (by assumption))
      replace hT := F9.blkO hT (by omega)
      refine wl_nil (x_then (hK10 _ _ ?_))
      clear hK10 K10
      refine c_ret ?_
      refine bq_ret (res1 Tryz.results151 (rv_c rfl ag_189 (hR) rfl)) ?_
      rw [hres]; exact ⟨rfl, hF⟩
    · try simp only [decide_eq_true_eq, decide_eq_false_iff_not, Bool.not_eq_true', Bool.not_eq_false', Bool.not_eq_eq_eq_not, Bool.not_true, Bool.not_false, beq_iff_eq, bne_iff_ne, ne_eq, beq_eq_false_iff_ne, bne_eq_false_iff_eq, gt_iff_lt, ge_iff_le, Int.not_lt, Int.not_le] at hc45
      have hres : numT D = ⟨2, 1, numF (D.take (min D.length 9)), zR⟩ := by unfold numT; rw [if_neg (by omega), show min D.length 9 = D.length by omega, List.take_length]
      refine c_skip (x_then (hK8 _ _ ?_))
      clear hK8 K8
      refine forget [(4, _), (5, _)] ⟨rfl, rfl, trivial⟩ (fun e => ?_)
      refine c_seq (fun K11 hK11 => ?_)
      refine c_reg ?_ -- region 8 scan.go:68
      refine wl (ro_loadAggB rfl ag_189 (hT) (rfl) (rfl)) ?_
      refine wl_puta rfl rfl ((tkc_cells _ _ _)) sz_189 (rfl) hR ((by simp)) (rfl) (fun w10 hR F10 => ?_)
      replace hF := hF.thenDrew.thenO F10 (by first | exact .inr (by omega) | exact .inl rfl | exact .inl (by assumption))
      replace hT := F10.blkO hT (by omega)
      refine wl_nil (x_then (hK11 _ _ ?_))
      clear hK11 K11
      refine c_ret ?_
      refine bq_ret (res1 Tryz.results151 (rv_c rfl ag_189 (hR) rfl)) ?_
      rw [hres]; exact ⟨rfl, hF⟩
  · skip
    refine c_reg ?_ -- region 2 scan.go:59
    refine wl (ro_fieldAddr (k := 2) rfl fo_189_2) ?_
    refine wl (ro_loadB rfl sc_3 (hT) (rfl)) ?_
    refine wl (ro_move rfl) ?_
    refine wl (ro_lenS rfl st_9) ?_
    refine wl (ro_cmp (r := false) rfl rfl (congrArg some (decide_eq_false (by show ¬ (((i + k : Nat) : Int) < (s.length : Int)); omega)))) ?_
    refine wl (ro_move rfl) ?_
    refine wlg_no rfl ?_
    refine wlg_no rfl ?_
    refine wlg_no rfl ?_
    refine wlg_no rfl ?_
    refine wlg_no rfl ?_
    refine wl (ro_pick rfl rfl rfl) ?_
    refine wl_nil (x_then (hK5 _ _ ?_))
    clear hK5 K5
    refine wc_condF rfl ?_
    refine c_exit (x_thenX (x_thenX (x_blkX (x_then (hK3 _ _ ?_)))))
    clear hK4 K4 hK3 K3
    refine c_seq (fun K12 hK12 => ?_)
    refine c_seq (fun K13 hK13 => ?_)
    subst hkD
    refine c_reg ?_ -- region 6 scan.go:65
    refine wl (ro_fieldAddr (k := 2) rfl fo_189_2) ?_
    refine wl (ro_loadB rfl sc_3 (hT) (rfl)) ?_
    refine wl (ro_move rfl) ?_
    refine wl (ro_arith (r := (D.length : Int)) rfl rfl (congrArg some (by show ((i + D.length : Nat) : Int) - (i : Int) = D.length; omega)) (Go.IntWalk.i64_in _ (by omega))) ?_
    refine wl (ro_cmp (r := decide (9 < D.length)) rfl rfl (congrArg some (decide_eq_decide.2 (by omega)))) ?_
    refine wl_nil (x_then (hK13 _ _ ?_))
    clear hK13 K13
    refine wc_cond rfl (fun hc45 => ?_) (fun hc45 => ?_)
    · try simp only [decide_eq_true_eq, decide_eq_false_iff_not, Bool.not_eq_true', Bool.not_eq_false', Bool.not_eq_eq_eq_not, Bool.not_true, Bool.not_false, beq_iff_eq, bne_iff_ne, ne_eq, beq_eq_false_iff_ne, bne_eq_false_iff_eq, gt_iff_lt, ge_iff_le, Int.not_lt, Int.not_le] at hc45
      have hres : numT D = ⟨3, 1, 4, zR⟩ := by unfold numT; rw [if_pos hc45]
      refine c_reg ?_ -- region 7 scan.go:66
      refine wl (ro_fieldAddr (k := 0) rfl fo_189_0) ?_
      refine wl_put rfl rfl rfl sz_3 hT ((by simp)) ((show _ = tkc i (i + D.length) ⟨3, 1, numF (D.take (min D.length 9)), zR⟩ from rfl)) (fun w11 hT F11 => ?_)
      replace hF := hF.thenDrew.thenO F11 (by first | exact .inr (by omega) | exact .inl rfl | exact .inl (by assumption))
      replace hR := F11.blkO hR (by omega)
      refine wl (ro_fieldAddr (k := 4) rfl fo_189_4) ?_
      refine wl_put rfl rfl rfl sz_3 hT ((by simp)) ((show _ = tkc i (i + D.length) ⟨3, 1, 4, zR⟩ from rfl)) (fun w12 hT F12 => ?_)
      replace hF := hF.thenDrew.thenO F12 (by first | exact .inr (by omega) | exact .inl rfl | exact .inl (by assumption))
      replace hR := F12.blkO hR (by omega)
      refine wl_nil (x_then (hK12 _ _ ?_))
      clear hK12 K12
      refine forget [(4, _), (5, _)] ⟨rfl, rfl, trivial⟩ (fun e => ?_)
      refine c_seq (fun K14 hK14 => ?_)
      refine c_reg ?_ -- region 8 scan.go:68
      refine wl (ro_loadAggB rfl ag_189 (hT) (rfl) (rfl)) ?_
      refine wl_puta rfl rfl ((tkc_cells _ _ _)) sz_189 (rfl) hR ((by simp)) (rfl) (fun w13 hR F13 => ?_)
      replace hF := hF.thenDrew.thenO F13 (by first | exact .inr (by omega) | exact .inl rfl | exact .inl (by assumption))
      replace hT := F13.blkO hT (by omega)
      refine wl_nil (x_then (hK14 _ _ ?_))
      clear hK14 K14
      refine c_ret ?_
      refine bq_ret (res1 Tryz.results151 (rv_c rfl ag_189 (hR) rfl)) ?_
      rw [hres]; exact ⟨rfl, hF⟩
    · try simp only [decide_eq_true_eq, decide_eq_false_iff_not, Bool.not_eq_true', Bool.not_eq_false', Bool.not_eq_eq_eq_not, Bool.not_true, Bool.not_false, beq_iff_eq, bne_iff_ne, ne_eq, beq_eq_false_iff_ne, bne_eq_false_iff_eq, gt_iff_lt, ge_iff_le, Int.not_lt, Int.not_le] at hc45
      have hres : numT D = ⟨2, 1, numF (D.take (min D.length 9)), zR⟩ := by unfold numT; rw [if_neg (by omega), show min D.length 9 = D.length by omega, List.take_length]
      refine c_skip (x_then (hK12 _ _ ?_))
      clear hK12 K12
      refine forget [(4, _), (5, _)] ⟨rfl, rfl, trivial⟩ (fun e => ?_)
      refine c_seq (fun K15 hK15 => ?_)
      refine c_reg ?_ -- region 8 scan.go:68
      refine wl (ro_loadAggB rfl ag_189 (hT) (rfl) (rfl)) ?_
      refine wl_puta rfl rfl ((tkc_cells _ _ _)) sz_189 (rfl) hR ((by simp)) (rfl) (fun w14 hR F14 => ?_)
      replace hF := hF.thenDrew.thenO F14 (by first | exact .inr (by omega) | exact .inl rfl | exact .inl (by assumption))
      replace hT := F14.blkO hT (by omega)
      refine wl_nil (x_then (hK15 _ _ ?_))
      clear hK15 K15
      refine c_ret ?_
      refine bq_ret (res1 Tryz.results151 (rv_c rfl ag_189 (hR) rfl)) ?_
      rw [hres]; exact ⟨rfl, hF⟩

end Go.Proofs.Qxb6500570aGreat
