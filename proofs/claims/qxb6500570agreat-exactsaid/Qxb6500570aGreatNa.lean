import Derived.Test.Qxb6500570aGreatLd
/- The definitions of rewriting that the model calls. -/
namespace Go.Proofs.Qxb6500570aGreat
set_option linter.unusedVariables false
set_option linter.unusedSimpArgs false

theorem bne_dec (a b : Int) : (a != b) = decide (a ≠ b) := by by_cases h : a = b <;> simp [h]
theorem point134 {w : World} {rows ins : Bool} {a x : Int} (hx : 0 ≤ x ∧ x < lnR rows) (ha : 0 ≤ a ∧ a < lnR rows) : Ret Tryz.prog 134 [icv x, icv (lnR rows), icv a, .bool ins] w (fun v w' => v = icv (if loI ins a x ≤ hcI rows ins a x then loI ins a x else -1) ∧ w' = w) := by
  have hl := lnR_bd rows
  generalize hn : lnR rows = n at *
  refine ret_of Tryz.func134 rfl Tryz.ntmps134 rfl ?_
  refine c_seq (fun K1 hK1 => ?_)
  refine c_reg ?_ -- region 0 move.go:26
  refine wl (ro_assign rfl) ?_
  refine wl_nil (x_then (hK1 _ _ ?_))
  clear hK1 K1
  refine c_seq (fun K2 hK2 => ?_)
  refine c_seq (fun K3 hK3 => ?_)
  refine c_reg ?_ -- region 1 move.go:27
  refine wl (ro_move rfl) ?_
  refine wl_nil (x_then (hK3 _ _ ?_))
  clear hK3 K3
  refine wc_cond rfl (fun hc9 => ?_) (fun hc9 => ?_)
  · try simp only [decide_eq_true_eq, decide_eq_false_iff_not, Bool.not_eq_true', Bool.not_eq_false', Bool.not_eq_eq_eq_not, Bool.not_true, Bool.not_false, beq_iff_eq, bne_iff_ne, ne_eq, beq_eq_false_iff_ne, bne_eq_false_iff_eq, gt_iff_lt, ge_iff_le, Int.not_lt, Int.not_le] at hc9
    refine c_seq (fun K4 hK4 => ?_)
    refine c_seq (fun K5 hK5 => ?_)
    refine c_reg ?_ -- region 2 move.go:28
    refine wl (ro_move rfl) ?_
    refine wl (ro_move rfl) ?_
    refine wl (ro_cmp rfl rfl rfl) ?_
    refine wl_nil (x_then (hK5 _ _ ?_))
    clear hK5 K5
    refine wc_cond rfl (fun hc12 => ?_) (fun hc12 => ?_)
    · try simp only [decide_eq_true_eq, decide_eq_false_iff_not, Bool.not_eq_true', Bool.not_eq_false', Bool.not_eq_eq_eq_not, Bool.not_true, Bool.not_false, beq_iff_eq, bne_iff_ne, ne_eq, beq_eq_false_iff_ne, bne_eq_false_iff_eq, gt_iff_lt, ge_iff_le, Int.not_lt, Int.not_le] at hc12
      refine c_seq (fun K6 hK6 => ?_)
      refine c_reg ?_ -- region 3 move.go:29
      refine wl (ro_move rfl) ?_
      refine wl (ro_assign rfl) ?_
      refine wl_nil (x_then (hK6 _ _ ?_))
      clear hK6 K6
      refine c_ret (x_thenR (x_thenR ?_))
      refine bp_ret Tryz.results134 rfl ?_
      refine ⟨congrArg icv ?_, rfl⟩
      unfold hcI hiI loI
      simp only [hn, hc9, if_true, Bool.false_eq_true, if_false]
      repeat' split
      all_goals omega
    · try simp only [decide_eq_true_eq, decide_eq_false_iff_not, Bool.not_eq_true', Bool.not_eq_false', Bool.not_eq_eq_eq_not, Bool.not_true, Bool.not_false, beq_iff_eq, bne_iff_ne, ne_eq, beq_eq_false_iff_ne, bne_eq_false_iff_eq, gt_iff_lt, ge_iff_le, Int.not_lt, Int.not_le] at hc12
      refine c_skip (x_then (hK4 _ _ ?_))
      clear hK4 K4
      refine c_seq (fun K7 hK7 => ?_)
      refine c_seq (fun K8 hK8 => ?_)
      refine c_reg ?_ -- region 4 move.go:31
      refine wl (ro_move rfl) ?_
      refine wl (ro_arith (r := x + 1) rfl rfl rfl (Go.IntWalk.i64_in _ (by omega))) ?_
      refine wl (ro_move rfl) ?_
      refine wl (ro_cmp rfl rfl rfl) ?_
      refine wl_nil (x_then (hK8 _ _ ?_))
      clear hK8 K8
      refine wc_cond rfl (fun hc17 => ?_) (fun hc17 => ?_)
      · try simp only [decide_eq_true_eq, decide_eq_false_iff_not, Bool.not_eq_true', Bool.not_eq_false', Bool.not_eq_eq_eq_not, Bool.not_true, Bool.not_false, beq_iff_eq, bne_iff_ne, ne_eq, beq_eq_false_iff_ne, bne_eq_false_iff_eq, gt_iff_lt, ge_iff_le, Int.not_lt, Int.not_le] at hc17
        refine c_seq (fun K9 hK9 => ?_)
        refine c_reg ?_ -- region 5 move.go:32
        refine wl (ro_assign rfl) ?_
        refine wl_nil (x_then (hK9 _ _ ?_))
        clear hK9 K9
        refine c_ret (x_thenR (x_thenR ?_))
        refine bp_ret Tryz.results134 rfl ?_
        refine ⟨congrArg icv ?_, rfl⟩
        unfold hcI hiI loI
        simp only [hn, hc9, if_true, Bool.false_eq_true, if_false]
        repeat' split
        all_goals omega
      · try simp only [decide_eq_true_eq, decide_eq_false_iff_not, Bool.not_eq_true', Bool.not_eq_false', Bool.not_eq_eq_eq_not, Bool.not_true, Bool.not_false, beq_iff_eq, bne_iff_ne, ne_eq, beq_eq_false_iff_ne, bne_eq_false_iff_eq, gt_iff_lt, ge_iff_le, Int.not_lt, Int.not_le] at hc17
        refine c_skip (x_then (hK7 _ _ ?_))
        clear hK7 K7
        refine forget [(0, _)] ⟨rfl, trivial⟩ (fun e => ?_)
        refine c_seq (fun K10 hK10 => ?_)
        refine c_reg ?_ -- region 6 move.go:34
        refine wl (ro_move rfl) ?_
        refine wl (ro_arith (r := x + 1) rfl rfl rfl (Go.IntWalk.i64_in _ (by omega))) ?_
        refine wl (ro_assign rfl) ?_
        refine wl_nil (x_then (hK10 _ _ ?_))
        clear hK10 K10
        refine c_ret (x_thenR ?_)
        refine bp_ret Tryz.results134 rfl ?_
        refine ⟨congrArg icv ?_, rfl⟩
        unfold hcI hiI loI
        simp only [hn, hc9, if_true, Bool.false_eq_true, if_false]
        repeat' split
        all_goals omega
  · try simp only [decide_eq_true_eq, decide_eq_false_iff_not, Bool.not_eq_true', Bool.not_eq_false', Bool.not_eq_eq_eq_not, Bool.not_true, Bool.not_false, beq_iff_eq, bne_iff_ne, ne_eq, beq_eq_false_iff_ne, bne_eq_false_iff_eq, gt_iff_lt, ge_iff_le, Int.not_lt, Int.not_le] at hc9
    refine c_skip (x_then (hK2 _ _ ?_))
    clear hK2 K2
    refine c_seq (fun K11 hK11 => ?_)
    refine c_seq (fun K12 hK12 => ?_)
    refine c_reg ?_ -- region 7 move.go:36
    refine wl (ro_move rfl) ?_
    refine wl (ro_move rfl) ?_
    refine wl (ro_cmp rfl rfl rfl) ?_
    refine wl_nil (x_then (hK12 _ _ ?_))
    clear hK12 K12
    refine wc_cond rfl (fun hc22 => ?_) (fun hc22 => ?_)
    · try simp only [decide_eq_true_eq, decide_eq_false_iff_not, Bool.not_eq_true', Bool.not_eq_false', Bool.not_eq_eq_eq_not, Bool.not_true, Bool.not_false, beq_iff_eq, bne_iff_ne, ne_eq, beq_eq_false_iff_ne, bne_eq_false_iff_eq, gt_iff_lt, ge_iff_le, Int.not_lt, Int.not_le] at hc22
      refine c_seq (fun K13 hK13 => ?_)
      refine c_reg ?_ -- region 8 move.go:37
      refine wl (ro_assign rfl) ?_
      refine wl_nil (x_then (hK13 _ _ ?_))
      clear hK13 K13
      refine c_ret (x_thenR ?_)
      refine bp_ret Tryz.results134 rfl ?_
      refine ⟨congrArg icv ?_, rfl⟩
      unfold hcI hiI loI
      simp only [hn, hc9, if_true, Bool.false_eq_true, if_false]
      repeat' split
      all_goals omega
    · try simp only [decide_eq_true_eq, decide_eq_false_iff_not, Bool.not_eq_true', Bool.not_eq_false', Bool.not_eq_eq_eq_not, Bool.not_true, Bool.not_false, beq_iff_eq, bne_iff_ne, ne_eq, beq_eq_false_iff_ne, bne_eq_false_iff_eq, gt_iff_lt, ge_iff_le, Int.not_lt, Int.not_le] at hc22
      refine c_skip (x_then (hK11 _ _ ?_))
      clear hK11 K11
      refine c_seq (fun K14 hK14 => ?_)
      refine c_seq (fun K15 hK15 => ?_)
      refine c_reg ?_ -- region 9 move.go:39
      refine wl (ro_move rfl) ?_
      refine wl (ro_move rfl) ?_
      refine wl (ro_cmp rfl rfl rfl) ?_
      refine wl_nil (x_then (hK15 _ _ ?_))
      clear hK15 K15
      refine wc_cond rfl (fun hc25 => ?_) (fun hc25 => ?_)
      · try simp only [decide_eq_true_eq, decide_eq_false_iff_not, Bool.not_eq_true', Bool.not_eq_false', Bool.not_eq_eq_eq_not, Bool.not_true, Bool.not_false, beq_iff_eq, bne_iff_ne, ne_eq, beq_eq_false_iff_ne, bne_eq_false_iff_eq, gt_iff_lt, ge_iff_le, Int.not_lt, Int.not_le] at hc25
        refine c_seq (fun K16 hK16 => ?_)
        refine c_reg ?_ -- region 10 move.go:40
        refine wl (ro_move rfl) ?_
        refine wl (ro_arith (r := x - 1) rfl rfl rfl (Go.IntWalk.i64_in _ (by omega))) ?_
        refine wl (ro_assign rfl) ?_
        refine wl_nil (x_then (hK16 _ _ ?_))
        clear hK16 K16
        refine c_ret (x_thenR ?_)
        refine bp_ret Tryz.results134 rfl ?_
        refine ⟨congrArg icv ?_, rfl⟩
        unfold hcI hiI loI
        simp only [hn, hc9, if_true, Bool.false_eq_true, if_false]
        repeat' split
        all_goals omega
      · try simp only [decide_eq_true_eq, decide_eq_false_iff_not, Bool.not_eq_true', Bool.not_eq_false', Bool.not_eq_eq_eq_not, Bool.not_true, Bool.not_false, beq_iff_eq, bne_iff_ne, ne_eq, beq_eq_false_iff_ne, bne_eq_false_iff_eq, gt_iff_lt, ge_iff_le, Int.not_lt, Int.not_le] at hc25
        refine c_skip (x_then (hK14 _ _ ?_))
        clear hK14 K14
        refine forget [(0, _)] ⟨rfl, trivial⟩ (fun e => ?_)
        refine c_seq (fun K17 hK17 => ?_)
        refine c_reg ?_ -- region 11 move.go:42
        refine wl (ro_move rfl) ?_
        refine wl (ro_assign rfl) ?_
        refine wl_nil (x_then (hK17 _ _ ?_))
        clear hK17 K17
        refine c_ret ?_
        refine bp_ret Tryz.results134 rfl ?_
        refine ⟨congrArg icv ?_, rfl⟩
        unfold hcI hiI loI
        simp only [hn, hc9, if_true, Bool.false_eq_true, if_false]
        repeat' split
        all_goals omega
theorem stretch137 {w : World} {rows ins : Bool} {a x y : Int} (hx : 0 ≤ x ∧ x ≤ y ∧ y < lnR rows) (ha : 0 ≤ a ∧ a < lnR rows) : Ret Tryz.prog 137 [icv x, icv y, icv (lnR rows), icv a, .bool ins] w (fun v w' => v = .tuple #[icv (if loI ins a x ≤ hcI rows ins a y then loI ins a x else -1), icv (if loI ins a x ≤ hcI rows ins a y then hcI rows ins a y else -1)] ∧ w' = w) := by
  have hl := lnR_bd rows
  have key : ∀ p q : Int, p = (if loI ins a x ≤ hcI rows ins a y then loI ins a x else -1) → q = (if loI ins a x ≤ hcI rows ins a y then hcI rows ins a y else -1) → (Value.tuple #[icv p, icv q]) = .tuple #[icv (if loI ins a x ≤ hcI rows ins a y then loI ins a x else -1), icv (if loI ins a x ≤ hcI rows ins a y then hcI rows ins a y else -1)] := fun p q h1 h2 => by rw [h1, h2]
  unfold hcI hiI loI at *
  generalize hn : lnR rows = n at *
  refine ret_of Tryz.func137 rfl Tryz.ntmps137 rfl ?_
  refine c_seq (fun K1 hK1 => ?_)
  refine c_reg ?_ -- region 0 move.go:46
  refine wl (ro_assign rfl) ?_
  refine wl (ro_assign rfl) ?_
  refine wl_nil (x_then (hK1 _ _ ?_))
  clear hK1 K1
  refine c_seq (fun K2 hK2 => ?_)
  refine c_seq (fun K3 hK3 => ?_)
  refine c_reg ?_ -- region 1 move.go:47
  refine wl (ro_move rfl) ?_
  refine wl_nil (x_then (hK3 _ _ ?_))
  clear hK3 K3
  refine wc_cond rfl (fun hc12 => ?_) (fun hc12 => ?_)
  · try simp only [decide_eq_true_eq, decide_eq_false_iff_not, Bool.not_eq_true', Bool.not_eq_false', Bool.not_eq_eq_eq_not, Bool.not_true, Bool.not_false, beq_iff_eq, bne_iff_ne, ne_eq, beq_eq_false_iff_ne, bne_eq_false_iff_eq, gt_iff_lt, ge_iff_le, Int.not_lt, Int.not_le] at hc12
    refine c_seq (fun K4 hK4 => ?_)
    refine c_seq (fun K5 hK5 => ?_)
    refine c_reg ?_ -- region 2 move.go:48
    refine wl (ro_move rfl) ?_
    refine wl (ro_move rfl) ?_
    refine wl (ro_cmp rfl rfl rfl) ?_
    refine wl_nil (x_then (hK5 _ _ ?_))
    clear hK5 K5
    refine wc_cond rfl (fun hc15 => ?_) (fun hc15 => ?_)
    · try simp only [decide_eq_true_eq, decide_eq_false_iff_not, Bool.not_eq_true', Bool.not_eq_false', Bool.not_eq_eq_eq_not, Bool.not_true, Bool.not_false, beq_iff_eq, bne_iff_ne, ne_eq, beq_eq_false_iff_ne, bne_eq_false_iff_eq, gt_iff_lt, ge_iff_le, Int.not_lt, Int.not_le] at hc15
      refine c_reg ?_ -- region 3 move.go:49
      refine wl (ro_move rfl) ?_
      refine wl (ro_arith (r := x + 1) rfl rfl rfl (Go.IntWalk.i64_in _ (by omega))) ?_
      refine wl (ro_assign rfl) ?_
      refine wl_nil (x_then (hK4 _ _ ?_))
      clear hK4 K4
      refine c_seq (fun K6 hK6 => ?_)
      refine c_seq (fun K7 hK7 => ?_)
      refine c_reg ?_ -- region 4 move.go:51
      refine wl (ro_move rfl) ?_
      refine wl (ro_move rfl) ?_
      refine wl (ro_cmp rfl rfl rfl) ?_
      refine wl_nil (x_then (hK7 _ _ ?_))
      clear hK7 K7
      refine wc_cond rfl (fun hc20 => ?_) (fun hc20 => ?_)
      · try simp only [decide_eq_true_eq, decide_eq_false_iff_not, Bool.not_eq_true', Bool.not_eq_false', Bool.not_eq_eq_eq_not, Bool.not_true, Bool.not_false, beq_iff_eq, bne_iff_ne, ne_eq, beq_eq_false_iff_ne, bne_eq_false_iff_eq, gt_iff_lt, ge_iff_le, Int.not_lt, Int.not_le] at hc20
        refine c_reg ?_ -- region 5 move.go:52
        refine wl (ro_move rfl) ?_
        refine wl (ro_arith (r := y + 1) rfl rfl rfl (Go.IntWalk.i64_in _ (by omega))) ?_
        refine wl (ro_assign rfl) ?_
        refine wl_nil (x_then (hK6 _ _ ?_))
        clear hK6 K6
        refine c_seq (fun K8 hK8 => ?_)
        refine c_seq (fun K9 hK9 => ?_)
        refine c_reg ?_ -- region 6 move.go:54
        refine wl (ro_move rfl) ?_
        refine wl (ro_move rfl) ?_
        refine wl (ro_cmp rfl rfl rfl) ?_
        refine wl_nil (x_then (hK9 _ _ ?_))
        clear hK9 K9
        refine wc_cond rfl (fun hc25 => ?_) (fun hc25 => ?_)
        · try simp only [decide_eq_true_eq, decide_eq_false_iff_not, Bool.not_eq_true', Bool.not_eq_false', Bool.not_eq_eq_eq_not, Bool.not_true, Bool.not_false, beq_iff_eq, bne_iff_ne, ne_eq, beq_eq_false_iff_ne, bne_eq_false_iff_eq, gt_iff_lt, ge_iff_le, Int.not_lt, Int.not_le] at hc25
          refine c_seq (fun K10 hK10 => ?_)
          refine c_reg ?_ -- region 7 move.go:55
          refine wl (ro_assign rfl) ?_
          refine wl (ro_assign rfl) ?_
          refine wl_nil (x_then (hK10 _ _ ?_))
          clear hK10 K10
          refine c_ret (x_thenR (x_thenR ?_))
          refine bp_ret Tryz.results137 rfl ?_
          refine ⟨key _ _ ?_ ?_, rfl⟩
          all_goals simp only [hc12, if_true, Bool.false_eq_true, if_false]
          all_goals repeat' split
          all_goals omega
        · try simp only [decide_eq_true_eq, decide_eq_false_iff_not, Bool.not_eq_true', Bool.not_eq_false', Bool.not_eq_eq_eq_not, Bool.not_true, Bool.not_false, beq_iff_eq, bne_iff_ne, ne_eq, beq_eq_false_iff_ne, bne_eq_false_iff_eq, gt_iff_lt, ge_iff_le, Int.not_lt, Int.not_le] at hc25
          refine c_skip (x_then (hK8 _ _ ?_))
          clear hK8 K8
          refine c_seq (fun K11 hK11 => ?_)
          refine c_seq (fun K12 hK12 => ?_)
          refine c_reg ?_ -- region 8 move.go:57
          refine wl (ro_move rfl) ?_
          refine wl (ro_move rfl) ?_
          refine wl (ro_cmp rfl rfl rfl) ?_
          refine wl_nil (x_then (hK12 _ _ ?_))
          clear hK12 K12
          refine wc_cond rfl (fun hc28 => ?_) (fun hc28 => ?_)
          · try simp only [decide_eq_true_eq, decide_eq_false_iff_not, Bool.not_eq_true', Bool.not_eq_false', Bool.not_eq_eq_eq_not, Bool.not_true, Bool.not_false, beq_iff_eq, bne_iff_ne, ne_eq, beq_eq_false_iff_ne, bne_eq_false_iff_eq, gt_iff_lt, ge_iff_le, Int.not_lt, Int.not_le] at hc28
            refine c_reg ?_ -- region 9 move.go:58
            refine wl (ro_move rfl) ?_
            refine wl (ro_arith (r := n - 1) rfl rfl rfl (Go.IntWalk.i64_in _ (by omega))) ?_
            refine wl (ro_assign rfl) ?_
            refine wl_nil (x_then (hK11 _ _ ?_))
            clear hK11 K11
            refine forget [(0, _), (1, _)] ⟨rfl, rfl, trivial⟩ (fun e => ?_)
            refine c_seq (fun K13 hK13 => ?_)
            refine c_reg ?_ -- region 10 move.go:60
            refine wl (ro_move rfl) ?_
            refine wl (ro_move rfl) ?_
            refine wl (ro_assign rfl) ?_
            refine wl (ro_assign rfl) ?_
            refine wl_nil (x_then (hK13 _ _ ?_))
            clear hK13 K13
            refine c_ret (x_thenR ?_)
            refine bp_ret Tryz.results137 rfl ?_
            refine ⟨key _ _ ?_ ?_, rfl⟩
            all_goals simp only [hc12, if_true, Bool.false_eq_true, if_false]
            all_goals repeat' split
            all_goals omega
          · try simp only [decide_eq_true_eq, decide_eq_false_iff_not, Bool.not_eq_true', Bool.not_eq_false', Bool.not_eq_eq_eq_not, Bool.not_true, Bool.not_false, beq_iff_eq, bne_iff_ne, ne_eq, beq_eq_false_iff_ne, bne_eq_false_iff_eq, gt_iff_lt, ge_iff_le, Int.not_lt, Int.not_le] at hc28
            refine c_skip (x_then (hK11 _ _ ?_))
            clear hK11 K11
            refine forget [(0, _), (1, _)] ⟨rfl, rfl, trivial⟩ (fun e => ?_)
            refine c_seq (fun K14 hK14 => ?_)
            refine c_reg ?_ -- region 10 move.go:60
            refine wl (ro_move rfl) ?_
            refine wl (ro_move rfl) ?_
            refine wl (ro_assign rfl) ?_
            refine wl (ro_assign rfl) ?_
            refine wl_nil (x_then (hK14 _ _ ?_))
            clear hK14 K14
            refine c_ret (x_thenR ?_)
            refine bp_ret Tryz.results137 rfl ?_
            refine ⟨key _ _ ?_ ?_, rfl⟩
            all_goals simp only [hc12, if_true, Bool.false_eq_true, if_false]
            all_goals repeat' split
            all_goals omega
      · try simp only [decide_eq_true_eq, decide_eq_false_iff_not, Bool.not_eq_true', Bool.not_eq_false', Bool.not_eq_eq_eq_not, Bool.not_true, Bool.not_false, beq_iff_eq, bne_iff_ne, ne_eq, beq_eq_false_iff_ne, bne_eq_false_iff_eq, gt_iff_lt, ge_iff_le, Int.not_lt, Int.not_le] at hc20
        refine c_skip (x_then (hK6 _ _ ?_))
        clear hK6 K6
        refine c_seq (fun K15 hK15 => ?_)
        refine c_seq (fun K16 hK16 => ?_)
        refine c_reg ?_ -- region 6 move.go:54
        refine wl (ro_move rfl) ?_
        refine wl (ro_move rfl) ?_
        refine wl (ro_cmp rfl rfl rfl) ?_
        refine wl_nil (x_then (hK16 _ _ ?_))
        clear hK16 K16
        refine wc_cond rfl (fun hc25 => ?_) (fun hc25 => ?_)
        · try simp only [decide_eq_true_eq, decide_eq_false_iff_not, Bool.not_eq_true', Bool.not_eq_false', Bool.not_eq_eq_eq_not, Bool.not_true, Bool.not_false, beq_iff_eq, bne_iff_ne, ne_eq, beq_eq_false_iff_ne, bne_eq_false_iff_eq, gt_iff_lt, ge_iff_le, Int.not_lt, Int.not_le] at hc25
          refine c_seq (fun K17 hK17 => ?_)
          refine c_reg ?_ -- region 7 move.go:55
          refine wl (ro_assign rfl) ?_
          refine wl (ro_assign rfl) ?_
          refine wl_nil (x_then (hK17 _ _ ?_))
          clear hK17 K17
          refine c_ret (x_thenR (x_thenR ?_))
          refine bp_ret Tryz.results137 rfl ?_
          refine ⟨key _ _ ?_ ?_, rfl⟩
          all_goals simp only [hc12, if_true, Bool.false_eq_true, if_false]
          all_goals repeat' split
          all_goals omega
        · try simp only [decide_eq_true_eq, decide_eq_false_iff_not, Bool.not_eq_true', Bool.not_eq_false', Bool.not_eq_eq_eq_not, Bool.not_true, Bool.not_false, beq_iff_eq, bne_iff_ne, ne_eq, beq_eq_false_iff_ne, bne_eq_false_iff_eq, gt_iff_lt, ge_iff_le, Int.not_lt, Int.not_le] at hc25
          refine c_skip (x_then (hK15 _ _ ?_))
          clear hK15 K15
          refine c_seq (fun K18 hK18 => ?_)
          refine c_seq (fun K19 hK19 => ?_)
          refine c_reg ?_ -- region 8 move.go:57
          refine wl (ro_move rfl) ?_
          refine wl (ro_move rfl) ?_
          refine wl (ro_cmp rfl rfl rfl) ?_
          refine wl_nil (x_then (hK19 _ _ ?_))
          clear hK19 K19
          refine wc_cond rfl (fun hc28 => ?_) (fun hc28 => ?_)
          · try simp only [decide_eq_true_eq, decide_eq_false_iff_not, Bool.not_eq_true', Bool.not_eq_false', Bool.not_eq_eq_eq_not, Bool.not_true, Bool.not_false, beq_iff_eq, bne_iff_ne, ne_eq, beq_eq_false_iff_ne, bne_eq_false_iff_eq, gt_iff_lt, ge_iff_le, Int.not_lt, Int.not_le] at hc28
            refine c_reg ?_ -- region 9 move.go:58
            refine wl (ro_move rfl) ?_
            refine wl (ro_arith (r := n - 1) rfl rfl rfl (Go.IntWalk.i64_in _ (by omega))) ?_
            refine wl (ro_assign rfl) ?_
            refine wl_nil (x_then (hK18 _ _ ?_))
            clear hK18 K18
            refine forget [(0, _), (1, _)] ⟨rfl, rfl, trivial⟩ (fun e => ?_)
            refine c_seq (fun K20 hK20 => ?_)
            refine c_reg ?_ -- region 10 move.go:60
            refine wl (ro_move rfl) ?_
            refine wl (ro_move rfl) ?_
            refine wl (ro_assign rfl) ?_
            refine wl (ro_assign rfl) ?_
            refine wl_nil (x_then (hK20 _ _ ?_))
            clear hK20 K20
            refine c_ret (x_thenR ?_)
            refine bp_ret Tryz.results137 rfl ?_
            refine ⟨key _ _ ?_ ?_, rfl⟩
            all_goals simp only [hc12, if_true, Bool.false_eq_true, if_false]
            all_goals repeat' split
            all_goals omega
          · try simp only [decide_eq_true_eq, decide_eq_false_iff_not, Bool.not_eq_true', Bool.not_eq_false', Bool.not_eq_eq_eq_not, Bool.not_true, Bool.not_false, beq_iff_eq, bne_iff_ne, ne_eq, beq_eq_false_iff_ne, bne_eq_false_iff_eq, gt_iff_lt, ge_iff_le, Int.not_lt, Int.not_le] at hc28
            refine c_skip (x_then (hK18 _ _ ?_))
            clear hK18 K18
            refine forget [(0, _), (1, _)] ⟨rfl, rfl, trivial⟩ (fun e => ?_)
            refine c_seq (fun K21 hK21 => ?_)
            refine c_reg ?_ -- region 10 move.go:60
            refine wl (ro_move rfl) ?_
            refine wl (ro_move rfl) ?_
            refine wl (ro_assign rfl) ?_
            refine wl (ro_assign rfl) ?_
            refine wl_nil (x_then (hK21 _ _ ?_))
            clear hK21 K21
            refine c_ret (x_thenR ?_)
            refine bp_ret Tryz.results137 rfl ?_
            refine ⟨key _ _ ?_ ?_, rfl⟩
            all_goals simp only [hc12, if_true, Bool.false_eq_true, if_false]
            all_goals repeat' split
            all_goals omega
    · try simp only [decide_eq_true_eq, decide_eq_false_iff_not, Bool.not_eq_true', Bool.not_eq_false', Bool.not_eq_eq_eq_not, Bool.not_true, Bool.not_false, beq_iff_eq, bne_iff_ne, ne_eq, beq_eq_false_iff_ne, bne_eq_false_iff_eq, gt_iff_lt, ge_iff_le, Int.not_lt, Int.not_le] at hc15
      refine c_skip (x_then (hK4 _ _ ?_))
      clear hK4 K4
      refine c_seq (fun K22 hK22 => ?_)
      refine c_seq (fun K23 hK23 => ?_)
      refine c_reg ?_ -- region 4 move.go:51
      refine wl (ro_move rfl) ?_
      refine wl (ro_move rfl) ?_
      refine wl (ro_cmp rfl rfl rfl) ?_
      refine wl_nil (x_then (hK23 _ _ ?_))
      clear hK23 K23
      refine wc_cond rfl (fun hc20 => ?_) (fun hc20 => ?_)
      · try simp only [decide_eq_true_eq, decide_eq_false_iff_not, Bool.not_eq_true', Bool.not_eq_false', Bool.not_eq_eq_eq_not, Bool.not_true, Bool.not_false, beq_iff_eq, bne_iff_ne, ne_eq, beq_eq_false_iff_ne, bne_eq_false_iff_eq, gt_iff_lt, ge_iff_le, Int.not_lt, Int.not_le] at hc20
        refine c_reg ?_ -- region 5 move.go:52
        refine wl (ro_move rfl) ?_
        refine wl (ro_arith (r := y + 1) rfl rfl rfl (Go.IntWalk.i64_in _ (by omega))) ?_
        refine wl (ro_assign rfl) ?_
        refine wl_nil (x_then (hK22 _ _ ?_))
        clear hK22 K22
        refine c_seq (fun K24 hK24 => ?_)
        refine c_seq (fun K25 hK25 => ?_)
        refine c_reg ?_ -- region 6 move.go:54
        refine wl (ro_move rfl) ?_
        refine wl (ro_move rfl) ?_
        refine wl (ro_cmp rfl rfl rfl) ?_
        refine wl_nil (x_then (hK25 _ _ ?_))
        clear hK25 K25
        refine wc_cond rfl (fun hc25 => ?_) (fun hc25 => ?_)
        · try simp only [decide_eq_true_eq, decide_eq_false_iff_not, Bool.not_eq_true', Bool.not_eq_false', Bool.not_eq_eq_eq_not, Bool.not_true, Bool.not_false, beq_iff_eq, bne_iff_ne, ne_eq, beq_eq_false_iff_ne, bne_eq_false_iff_eq, gt_iff_lt, ge_iff_le, Int.not_lt, Int.not_le] at hc25
          refine c_seq (fun K26 hK26 => ?_)
          refine c_reg ?_ -- region 7 move.go:55
          refine wl (ro_assign rfl) ?_
          refine wl (ro_assign rfl) ?_
          refine wl_nil (x_then (hK26 _ _ ?_))
          clear hK26 K26
          refine c_ret (x_thenR (x_thenR ?_))
          refine bp_ret Tryz.results137 rfl ?_
          refine ⟨key _ _ ?_ ?_, rfl⟩
          all_goals simp only [hc12, if_true, Bool.false_eq_true, if_false]
          all_goals repeat' split
          all_goals omega
        · try simp only [decide_eq_true_eq, decide_eq_false_iff_not, Bool.not_eq_true', Bool.not_eq_false', Bool.not_eq_eq_eq_not, Bool.not_true, Bool.not_false, beq_iff_eq, bne_iff_ne, ne_eq, beq_eq_false_iff_ne, bne_eq_false_iff_eq, gt_iff_lt, ge_iff_le, Int.not_lt, Int.not_le] at hc25
          refine c_skip (x_then (hK24 _ _ ?_))
          clear hK24 K24
          refine c_seq (fun K27 hK27 => ?_)
          refine c_seq (fun K28 hK28 => ?_)
          refine c_reg ?_ -- region 8 move.go:57
          refine wl (ro_move rfl) ?_
          refine wl (ro_move rfl) ?_
          refine wl (ro_cmp rfl rfl rfl) ?_
          refine wl_nil (x_then (hK28 _ _ ?_))
          clear hK28 K28
          refine wc_cond rfl (fun hc28 => ?_) (fun hc28 => ?_)
          · try simp only [decide_eq_true_eq, decide_eq_false_iff_not, Bool.not_eq_true', Bool.not_eq_false', Bool.not_eq_eq_eq_not, Bool.not_true, Bool.not_false, beq_iff_eq, bne_iff_ne, ne_eq, beq_eq_false_iff_ne, bne_eq_false_iff_eq, gt_iff_lt, ge_iff_le, Int.not_lt, Int.not_le] at hc28
            refine c_reg ?_ -- region 9 move.go:58
            refine wl (ro_move rfl) ?_
            refine wl (ro_arith (r := n - 1) rfl rfl rfl (Go.IntWalk.i64_in _ (by omega))) ?_
            refine wl (ro_assign rfl) ?_
            refine wl_nil (x_then (hK27 _ _ ?_))
            clear hK27 K27
            refine forget [(0, _), (1, _)] ⟨rfl, rfl, trivial⟩ (fun e => ?_)
            refine c_seq (fun K29 hK29 => ?_)
            refine c_reg ?_ -- region 10 move.go:60
            refine wl (ro_move rfl) ?_
            refine wl (ro_move rfl) ?_
            refine wl (ro_assign rfl) ?_
            refine wl (ro_assign rfl) ?_
            refine wl_nil (x_then (hK29 _ _ ?_))
            clear hK29 K29
            refine c_ret (x_thenR ?_)
            refine bp_ret Tryz.results137 rfl ?_
            refine ⟨key _ _ ?_ ?_, rfl⟩
            all_goals simp only [hc12, if_true, Bool.false_eq_true, if_false]
            all_goals repeat' split
            all_goals omega
          · try simp only [decide_eq_true_eq, decide_eq_false_iff_not, Bool.not_eq_true', Bool.not_eq_false', Bool.not_eq_eq_eq_not, Bool.not_true, Bool.not_false, beq_iff_eq, bne_iff_ne, ne_eq, beq_eq_false_iff_ne, bne_eq_false_iff_eq, gt_iff_lt, ge_iff_le, Int.not_lt, Int.not_le] at hc28
            refine c_skip (x_then (hK27 _ _ ?_))
            clear hK27 K27
            refine forget [(0, _), (1, _)] ⟨rfl, rfl, trivial⟩ (fun e => ?_)
            refine c_seq (fun K30 hK30 => ?_)
            refine c_reg ?_ -- region 10 move.go:60
            refine wl (ro_move rfl) ?_
            refine wl (ro_move rfl) ?_
            refine wl (ro_assign rfl) ?_
            refine wl (ro_assign rfl) ?_
            refine wl_nil (x_then (hK30 _ _ ?_))
            clear hK30 K30
            refine c_ret (x_thenR ?_)
            refine bp_ret Tryz.results137 rfl ?_
            refine ⟨key _ _ ?_ ?_, rfl⟩
            all_goals simp only [hc12, if_true, Bool.false_eq_true, if_false]
            all_goals repeat' split
            all_goals omega
      · try simp only [decide_eq_true_eq, decide_eq_false_iff_not, Bool.not_eq_true', Bool.not_eq_false', Bool.not_eq_eq_eq_not, Bool.not_true, Bool.not_false, beq_iff_eq, bne_iff_ne, ne_eq, beq_eq_false_iff_ne, bne_eq_false_iff_eq, gt_iff_lt, ge_iff_le, Int.not_lt, Int.not_le] at hc20
        refine c_skip (x_then (hK22 _ _ ?_))
        clear hK22 K22
        refine c_seq (fun K31 hK31 => ?_)
        refine c_seq (fun K32 hK32 => ?_)
        refine c_reg ?_ -- region 6 move.go:54
        refine wl (ro_move rfl) ?_
        refine wl (ro_move rfl) ?_
        refine wl (ro_cmp rfl rfl rfl) ?_
        refine wl_nil (x_then (hK32 _ _ ?_))
        clear hK32 K32
        refine wc_cond rfl (fun hc25 => ?_) (fun hc25 => ?_)
        · try simp only [decide_eq_true_eq, decide_eq_false_iff_not, Bool.not_eq_true', Bool.not_eq_false', Bool.not_eq_eq_eq_not, Bool.not_true, Bool.not_false, beq_iff_eq, bne_iff_ne, ne_eq, beq_eq_false_iff_ne, bne_eq_false_iff_eq, gt_iff_lt, ge_iff_le, Int.not_lt, Int.not_le] at hc25
          refine c_seq (fun K33 hK33 => ?_)
          refine c_reg ?_ -- region 7 move.go:55
          refine wl (ro_assign rfl) ?_
          refine wl (ro_assign rfl) ?_
          refine wl_nil (x_then (hK33 _ _ ?_))
          clear hK33 K33
          refine c_ret (x_thenR (x_thenR ?_))
          refine bp_ret Tryz.results137 rfl ?_
          refine ⟨key _ _ ?_ ?_, rfl⟩
          all_goals simp only [hc12, if_true, Bool.false_eq_true, if_false]
          all_goals repeat' split
          all_goals omega
        · try simp only [decide_eq_true_eq, decide_eq_false_iff_not, Bool.not_eq_true', Bool.not_eq_false', Bool.not_eq_eq_eq_not, Bool.not_true, Bool.not_false, beq_iff_eq, bne_iff_ne, ne_eq, beq_eq_false_iff_ne, bne_eq_false_iff_eq, gt_iff_lt, ge_iff_le, Int.not_lt, Int.not_le] at hc25
          refine c_skip (x_then (hK31 _ _ ?_))
          clear hK31 K31
          refine c_seq (fun K34 hK34 => ?_)
          refine c_seq (fun K35 hK35 => ?_)
          refine c_reg ?_ -- region 8 move.go:57
          refine wl (ro_move rfl) ?_
          refine wl (ro_move rfl) ?_
          refine wl (ro_cmp rfl rfl rfl) ?_
          refine wl_nil (x_then (hK35 _ _ ?_))
          clear hK35 K35
          refine wc_cond rfl (fun hc28 => ?_) (fun hc28 => ?_)
          · try simp only [decide_eq_true_eq, decide_eq_false_iff_not, Bool.not_eq_true', Bool.not_eq_false', Bool.not_eq_eq_eq_not, Bool.not_true, Bool.not_false, beq_iff_eq, bne_iff_ne, ne_eq, beq_eq_false_iff_ne, bne_eq_false_iff_eq, gt_iff_lt, ge_iff_le, Int.not_lt, Int.not_le] at hc28
            refine c_reg ?_ -- region 9 move.go:58
            refine wl (ro_move rfl) ?_
            refine wl (ro_arith (r := n - 1) rfl rfl rfl (Go.IntWalk.i64_in _ (by omega))) ?_
            refine wl (ro_assign rfl) ?_
            refine wl_nil (x_then (hK34 _ _ ?_))
            clear hK34 K34
            refine forget [(0, _), (1, _)] ⟨rfl, rfl, trivial⟩ (fun e => ?_)
            refine c_seq (fun K36 hK36 => ?_)
            refine c_reg ?_ -- region 10 move.go:60
            refine wl (ro_move rfl) ?_
            refine wl (ro_move rfl) ?_
            refine wl (ro_assign rfl) ?_
            refine wl (ro_assign rfl) ?_
            refine wl_nil (x_then (hK36 _ _ ?_))
            clear hK36 K36
            refine c_ret (x_thenR ?_)
            refine bp_ret Tryz.results137 rfl ?_
            refine ⟨key _ _ ?_ ?_, rfl⟩
            all_goals simp only [hc12, if_true, Bool.false_eq_true, if_false]
            all_goals repeat' split
            all_goals omega
          · try simp only [decide_eq_true_eq, decide_eq_false_iff_not, Bool.not_eq_true', Bool.not_eq_false', Bool.not_eq_eq_eq_not, Bool.not_true, Bool.not_false, beq_iff_eq, bne_iff_ne, ne_eq, beq_eq_false_iff_ne, bne_eq_false_iff_eq, gt_iff_lt, ge_iff_le, Int.not_lt, Int.not_le] at hc28
            refine c_skip (x_then (hK34 _ _ ?_))
            clear hK34 K34
            refine forget [(0, _), (1, _)] ⟨rfl, rfl, trivial⟩ (fun e => ?_)
            refine c_seq (fun K37 hK37 => ?_)
            refine c_reg ?_ -- region 10 move.go:60
            refine wl (ro_move rfl) ?_
            refine wl (ro_move rfl) ?_
            refine wl (ro_assign rfl) ?_
            refine wl (ro_assign rfl) ?_
            refine wl_nil (x_then (hK37 _ _ ?_))
            clear hK37 K37
            refine c_ret (x_thenR ?_)
            refine bp_ret Tryz.results137 rfl ?_
            refine ⟨key _ _ ?_ ?_, rfl⟩
            all_goals simp only [hc12, if_true, Bool.false_eq_true, if_false]
            all_goals repeat' split
            all_goals omega
  · try simp only [decide_eq_true_eq, decide_eq_false_iff_not, Bool.not_eq_true', Bool.not_eq_false', Bool.not_eq_eq_eq_not, Bool.not_true, Bool.not_false, beq_iff_eq, bne_iff_ne, ne_eq, beq_eq_false_iff_ne, bne_eq_false_iff_eq, gt_iff_lt, ge_iff_le, Int.not_lt, Int.not_le] at hc12
    refine c_skip (x_then (hK2 _ _ ?_))
    clear hK2 K2
    refine c_seq (fun K38 hK38 => ?_)
    refine c_seq (fun K39 hK39 => ?_)
    refine c_reg ?_ -- region 11 move.go:62
    refine wl (ro_move rfl) ?_
    refine wl (ro_move rfl) ?_
    refine wl (ro_cmp rfl rfl rfl) ?_
    refine wl_fork rfl (fun hg36 => ?_) (fun hg36 => ?_)
    · try simp only [decide_eq_true_eq, decide_eq_false_iff_not, Bool.not_eq_true', Bool.not_eq_false', Bool.not_eq_eq_eq_not, Bool.not_true, Bool.not_false, beq_iff_eq, bne_iff_ne, ne_eq, beq_eq_false_iff_ne, bne_eq_false_iff_eq, gt_iff_lt, ge_iff_le, Int.not_lt, Int.not_le] at hg36
      refine wlg_yes rfl (ro_move rfl) ?_
      refine wlg_yes rfl (ro_move rfl) ?_
      refine wlg_yes rfl (ro_cmp rfl rfl rfl) ?_
      refine wl (ro_pick rfl rfl rfl) ?_
      refine wl_nil (x_then (hK39 _ _ ?_))
      clear hK39 K39
      refine wc_cond rfl (fun hc40 => ?_) (fun hc40 => ?_)
      · try simp only [decide_eq_true_eq, decide_eq_false_iff_not, Bool.not_eq_true', Bool.not_eq_false', Bool.not_eq_eq_eq_not, Bool.not_true, Bool.not_false, beq_iff_eq, bne_iff_ne, ne_eq, beq_eq_false_iff_ne, bne_eq_false_iff_eq, gt_iff_lt, ge_iff_le, Int.not_lt, Int.not_le] at hc40
        refine c_seq (fun K40 hK40 => ?_)
        refine c_reg ?_ -- region 12 move.go:63
        refine wl (ro_assign rfl) ?_
        refine wl (ro_assign rfl) ?_
        refine wl_nil (x_then (hK40 _ _ ?_))
        clear hK40 K40
        refine c_ret (x_thenR ?_)
        refine bp_ret Tryz.results137 rfl ?_
        refine ⟨key _ _ ?_ ?_, rfl⟩
        all_goals simp only [hc12, if_true, Bool.false_eq_true, if_false]
        all_goals repeat' split
        all_goals omega
      · try simp only [decide_eq_true_eq, decide_eq_false_iff_not, Bool.not_eq_true', Bool.not_eq_false', Bool.not_eq_eq_eq_not, Bool.not_true, Bool.not_false, beq_iff_eq, bne_iff_ne, ne_eq, beq_eq_false_iff_ne, bne_eq_false_iff_eq, gt_iff_lt, ge_iff_le, Int.not_lt, Int.not_le] at hc40
        refine c_skip (x_then (hK38 _ _ ?_))
        clear hK38 K38
        refine c_seq (fun K41 hK41 => ?_)
        refine c_seq (fun K42 hK42 => ?_)
        refine c_reg ?_ -- region 13 move.go:65
        refine wl (ro_move rfl) ?_
        refine wl (ro_move rfl) ?_
        refine wl (ro_cmp rfl rfl rfl) ?_
        refine wl_nil (x_then (hK42 _ _ ?_))
        clear hK42 K42
        refine wc_cond rfl (fun hc43 => ?_) (fun hc43 => ?_)
        · try simp only [decide_eq_true_eq, decide_eq_false_iff_not, Bool.not_eq_true', Bool.not_eq_false', Bool.not_eq_eq_eq_not, Bool.not_true, Bool.not_false, beq_iff_eq, bne_iff_ne, ne_eq, beq_eq_false_iff_ne, bne_eq_false_iff_eq, gt_iff_lt, ge_iff_le, Int.not_lt, Int.not_le] at hc43
          refine c_reg ?_ -- region 14 move.go:66
          refine wl (ro_move rfl) ?_
          refine wl (ro_arith (r := x - 1) rfl rfl rfl (Go.IntWalk.i64_in _ (by omega))) ?_
          refine wl (ro_assign rfl) ?_
          refine wl_nil (x_then (hK41 _ _ ?_))
          clear hK41 K41
          refine c_seq (fun K43 hK43 => ?_)
          refine c_seq (fun K44 hK44 => ?_)
          refine c_reg ?_ -- region 15 move.go:68
          refine wl (ro_move rfl) ?_
          refine wl (ro_move rfl) ?_
          refine wl (ro_cmp rfl rfl rfl) ?_
          refine wl_nil (x_then (hK44 _ _ ?_))
          clear hK44 K44
          refine wc_cond rfl (fun hc48 => ?_) (fun hc48 => ?_)
          · try simp only [decide_eq_true_eq, decide_eq_false_iff_not, Bool.not_eq_true', Bool.not_eq_false', Bool.not_eq_eq_eq_not, Bool.not_true, Bool.not_false, beq_iff_eq, bne_iff_ne, ne_eq, beq_eq_false_iff_ne, bne_eq_false_iff_eq, gt_iff_lt, ge_iff_le, Int.not_lt, Int.not_le] at hc48
            refine c_reg ?_ -- region 16 move.go:69
            refine wl (ro_move rfl) ?_
            refine wl (ro_arith (r := y - 1) rfl rfl rfl (Go.IntWalk.i64_in _ (by omega))) ?_
            refine wl (ro_assign rfl) ?_
            refine wl_nil (x_then (hK43 _ _ ?_))
            clear hK43 K43
            refine forget [(0, _), (1, _)] ⟨rfl, rfl, trivial⟩ (fun e => ?_)
            refine c_seq (fun K45 hK45 => ?_)
            refine c_reg ?_ -- region 17 move.go:71
            refine wl (ro_move rfl) ?_
            refine wl (ro_move rfl) ?_
            refine wl (ro_assign rfl) ?_
            refine wl (ro_assign rfl) ?_
            refine wl_nil (x_then (hK45 _ _ ?_))
            clear hK45 K45
            refine c_ret ?_
            refine bp_ret Tryz.results137 rfl ?_
            refine ⟨key _ _ ?_ ?_, rfl⟩
            all_goals simp only [hc12, if_true, Bool.false_eq_true, if_false]
            all_goals repeat' split
            all_goals omega
          · try simp only [decide_eq_true_eq, decide_eq_false_iff_not, Bool.not_eq_true', Bool.not_eq_false', Bool.not_eq_eq_eq_not, Bool.not_true, Bool.not_false, beq_iff_eq, bne_iff_ne, ne_eq, beq_eq_false_iff_ne, bne_eq_false_iff_eq, gt_iff_lt, ge_iff_le, Int.not_lt, Int.not_le] at hc48
            refine c_skip (x_then (hK43 _ _ ?_))
            clear hK43 K43
            refine forget [(0, _), (1, _)] ⟨rfl, rfl, trivial⟩ (fun e => ?_)
            refine c_seq (fun K46 hK46 => ?_)
            refine c_reg ?_ -- region 17 move.go:71
            refine wl (ro_move rfl) ?_
            refine wl (ro_move rfl) ?_
            refine wl (ro_assign rfl) ?_
            refine wl (ro_assign rfl) ?_
            refine wl_nil (x_then (hK46 _ _ ?_))
            clear hK46 K46
            refine c_ret ?_
            refine bp_ret Tryz.results137 rfl ?_
            refine ⟨key _ _ ?_ ?_, rfl⟩
            all_goals simp only [hc12, if_true, Bool.false_eq_true, if_false]
            all_goals repeat' split
            all_goals omega
        · try simp only [decide_eq_true_eq, decide_eq_false_iff_not, Bool.not_eq_true', Bool.not_eq_false', Bool.not_eq_eq_eq_not, Bool.not_true, Bool.not_false, beq_iff_eq, bne_iff_ne, ne_eq, beq_eq_false_iff_ne, bne_eq_false_iff_eq, gt_iff_lt, ge_iff_le, Int.not_lt, Int.not_le] at hc43
          refine c_skip (x_then (hK41 _ _ ?_))
          clear hK41 K41
          refine c_seq (fun K47 hK47 => ?_)
          refine c_seq (fun K48 hK48 => ?_)
          refine c_reg ?_ -- region 15 move.go:68
          refine wl (ro_move rfl) ?_
          refine wl (ro_move rfl) ?_
          refine wl (ro_cmp rfl rfl rfl) ?_
          refine wl_nil (x_then (hK48 _ _ ?_))
          clear hK48 K48
          refine wc_cond rfl (fun hc48 => ?_) (fun hc48 => ?_)
          · try simp only [decide_eq_true_eq, decide_eq_false_iff_not, Bool.not_eq_true', Bool.not_eq_false', Bool.not_eq_eq_eq_not, Bool.not_true, Bool.not_false, beq_iff_eq, bne_iff_ne, ne_eq, beq_eq_false_iff_ne, bne_eq_false_iff_eq, gt_iff_lt, ge_iff_le, Int.not_lt, Int.not_le] at hc48
            refine c_reg ?_ -- region 16 move.go:69
            refine wl (ro_move rfl) ?_
            refine wl (ro_arith (r := y - 1) rfl rfl rfl (Go.IntWalk.i64_in _ (by omega))) ?_
            refine wl (ro_assign rfl) ?_
            refine wl_nil (x_then (hK47 _ _ ?_))
            clear hK47 K47
            refine forget [(0, _), (1, _)] ⟨rfl, rfl, trivial⟩ (fun e => ?_)
            refine c_seq (fun K49 hK49 => ?_)
            refine c_reg ?_ -- region 17 move.go:71
            refine wl (ro_move rfl) ?_
            refine wl (ro_move rfl) ?_
            refine wl (ro_assign rfl) ?_
            refine wl (ro_assign rfl) ?_
            refine wl_nil (x_then (hK49 _ _ ?_))
            clear hK49 K49
            refine c_ret ?_
            refine bp_ret Tryz.results137 rfl ?_
            refine ⟨key _ _ ?_ ?_, rfl⟩
            all_goals simp only [hc12, if_true, Bool.false_eq_true, if_false]
            all_goals repeat' split
            all_goals omega
          · try simp only [decide_eq_true_eq, decide_eq_false_iff_not, Bool.not_eq_true', Bool.not_eq_false', Bool.not_eq_eq_eq_not, Bool.not_true, Bool.not_false, beq_iff_eq, bne_iff_ne, ne_eq, beq_eq_false_iff_ne, bne_eq_false_iff_eq, gt_iff_lt, ge_iff_le, Int.not_lt, Int.not_le] at hc48
            refine c_skip (x_then (hK47 _ _ ?_))
            clear hK47 K47
            refine forget [(0, _), (1, _)] ⟨rfl, rfl, trivial⟩ (fun e => ?_)
            refine c_seq (fun K50 hK50 => ?_)
            refine c_reg ?_ -- region 17 move.go:71
            refine wl (ro_move rfl) ?_
            refine wl (ro_move rfl) ?_
            refine wl (ro_assign rfl) ?_
            refine wl (ro_assign rfl) ?_
            refine wl_nil (x_then (hK50 _ _ ?_))
            clear hK50 K50
            refine c_ret ?_
            refine bp_ret Tryz.results137 rfl ?_
            refine ⟨key _ _ ?_ ?_, rfl⟩
            all_goals simp only [hc12, if_true, Bool.false_eq_true, if_false]
            all_goals repeat' split
            all_goals omega
    · try simp only [decide_eq_true_eq, decide_eq_false_iff_not, Bool.not_eq_true', Bool.not_eq_false', Bool.not_eq_eq_eq_not, Bool.not_true, Bool.not_false, beq_iff_eq, bne_iff_ne, ne_eq, beq_eq_false_iff_ne, bne_eq_false_iff_eq, gt_iff_lt, ge_iff_le, Int.not_lt, Int.not_le] at hg36
      refine wlg_no rfl ?_
      refine wlg_no rfl ?_
      refine wlg_no rfl ?_
      refine wl (ro_pick rfl rfl rfl) ?_
      refine wl_nil (x_then (hK39 _ _ ?_))
      clear hK39 K39
      refine wc_condF rfl ?_
      refine c_skip (x_then (hK38 _ _ ?_))
      clear hK38 K38
      refine c_seq (fun K51 hK51 => ?_)
      refine c_seq (fun K52 hK52 => ?_)
      refine c_reg ?_ -- region 13 move.go:65
      refine wl (ro_move rfl) ?_
      refine wl (ro_move rfl) ?_
      refine wl (ro_cmp rfl rfl rfl) ?_
      refine wl_nil (x_then (hK52 _ _ ?_))
      clear hK52 K52
      refine wc_cond rfl (fun hc43 => ?_) (fun hc43 => ?_)
      · try simp only [decide_eq_true_eq, decide_eq_false_iff_not, Bool.not_eq_true', Bool.not_eq_false', Bool.not_eq_eq_eq_not, Bool.not_true, Bool.not_false, beq_iff_eq, bne_iff_ne, ne_eq, beq_eq_false_iff_ne, bne_eq_false_iff_eq, gt_iff_lt, ge_iff_le, Int.not_lt, Int.not_le] at hc43
        refine c_reg ?_ -- region 14 move.go:66
        refine wl (ro_move rfl) ?_
        refine wl (ro_arith (r := x - 1) rfl rfl rfl (Go.IntWalk.i64_in _ (by omega))) ?_
        refine wl (ro_assign rfl) ?_
        refine wl_nil (x_then (hK51 _ _ ?_))
        clear hK51 K51
        refine c_seq (fun K53 hK53 => ?_)
        refine c_seq (fun K54 hK54 => ?_)
        refine c_reg ?_ -- region 15 move.go:68
        refine wl (ro_move rfl) ?_
        refine wl (ro_move rfl) ?_
        refine wl (ro_cmp rfl rfl rfl) ?_
        refine wl_nil (x_then (hK54 _ _ ?_))
        clear hK54 K54
        refine wc_cond rfl (fun hc48 => ?_) (fun hc48 => ?_)
        · try simp only [decide_eq_true_eq, decide_eq_false_iff_not, Bool.not_eq_true', Bool.not_eq_false', Bool.not_eq_eq_eq_not, Bool.not_true, Bool.not_false, beq_iff_eq, bne_iff_ne, ne_eq, beq_eq_false_iff_ne, bne_eq_false_iff_eq, gt_iff_lt, ge_iff_le, Int.not_lt, Int.not_le] at hc48
          refine c_reg ?_ -- region 16 move.go:69
          refine wl (ro_move rfl) ?_
          refine wl (ro_arith (r := y - 1) rfl rfl rfl (Go.IntWalk.i64_in _ (by omega))) ?_
          refine wl (ro_assign rfl) ?_
          refine wl_nil (x_then (hK53 _ _ ?_))
          clear hK53 K53
          refine forget [(0, _), (1, _)] ⟨rfl, rfl, trivial⟩ (fun e => ?_)
          refine c_seq (fun K55 hK55 => ?_)
          refine c_reg ?_ -- region 17 move.go:71
          refine wl (ro_move rfl) ?_
          refine wl (ro_move rfl) ?_
          refine wl (ro_assign rfl) ?_
          refine wl (ro_assign rfl) ?_
          refine wl_nil (x_then (hK55 _ _ ?_))
          clear hK55 K55
          refine c_ret ?_
          refine bp_ret Tryz.results137 rfl ?_
          refine ⟨key _ _ ?_ ?_, rfl⟩
          all_goals simp only [hc12, if_true, Bool.false_eq_true, if_false]
          all_goals repeat' split
          all_goals omega
        · try simp only [decide_eq_true_eq, decide_eq_false_iff_not, Bool.not_eq_true', Bool.not_eq_false', Bool.not_eq_eq_eq_not, Bool.not_true, Bool.not_false, beq_iff_eq, bne_iff_ne, ne_eq, beq_eq_false_iff_ne, bne_eq_false_iff_eq, gt_iff_lt, ge_iff_le, Int.not_lt, Int.not_le] at hc48
          refine c_skip (x_then (hK53 _ _ ?_))
          clear hK53 K53
          refine forget [(0, _), (1, _)] ⟨rfl, rfl, trivial⟩ (fun e => ?_)
          refine c_seq (fun K56 hK56 => ?_)
          refine c_reg ?_ -- region 17 move.go:71
          refine wl (ro_move rfl) ?_
          refine wl (ro_move rfl) ?_
          refine wl (ro_assign rfl) ?_
          refine wl (ro_assign rfl) ?_
          refine wl_nil (x_then (hK56 _ _ ?_))
          clear hK56 K56
          refine c_ret ?_
          refine bp_ret Tryz.results137 rfl ?_
          refine ⟨key _ _ ?_ ?_, rfl⟩
          all_goals simp only [hc12, if_true, Bool.false_eq_true, if_false]
          all_goals repeat' split
          all_goals omega
      · try simp only [decide_eq_true_eq, decide_eq_false_iff_not, Bool.not_eq_true', Bool.not_eq_false', Bool.not_eq_eq_eq_not, Bool.not_true, Bool.not_false, beq_iff_eq, bne_iff_ne, ne_eq, beq_eq_false_iff_ne, bne_eq_false_iff_eq, gt_iff_lt, ge_iff_le, Int.not_lt, Int.not_le] at hc43
        refine c_skip (x_then (hK51 _ _ ?_))
        clear hK51 K51
        refine c_seq (fun K57 hK57 => ?_)
        refine c_seq (fun K58 hK58 => ?_)
        refine c_reg ?_ -- region 15 move.go:68
        refine wl (ro_move rfl) ?_
        refine wl (ro_move rfl) ?_
        refine wl (ro_cmp rfl rfl rfl) ?_
        refine wl_nil (x_then (hK58 _ _ ?_))
        clear hK58 K58
        refine wc_cond rfl (fun hc48 => ?_) (fun hc48 => ?_)
        · try simp only [decide_eq_true_eq, decide_eq_false_iff_not, Bool.not_eq_true', Bool.not_eq_false', Bool.not_eq_eq_eq_not, Bool.not_true, Bool.not_false, beq_iff_eq, bne_iff_ne, ne_eq, beq_eq_false_iff_ne, bne_eq_false_iff_eq, gt_iff_lt, ge_iff_le, Int.not_lt, Int.not_le] at hc48
          refine c_reg ?_ -- region 16 move.go:69
          refine wl (ro_move rfl) ?_
          refine wl (ro_arith (r := y - 1) rfl rfl rfl (Go.IntWalk.i64_in _ (by omega))) ?_
          refine wl (ro_assign rfl) ?_
          refine wl_nil (x_then (hK57 _ _ ?_))
          clear hK57 K57
          refine forget [(0, _), (1, _)] ⟨rfl, rfl, trivial⟩ (fun e => ?_)
          refine c_seq (fun K59 hK59 => ?_)
          refine c_reg ?_ -- region 17 move.go:71
          refine wl (ro_move rfl) ?_
          refine wl (ro_move rfl) ?_
          refine wl (ro_assign rfl) ?_
          refine wl (ro_assign rfl) ?_
          refine wl_nil (x_then (hK59 _ _ ?_))
          clear hK59 K59
          refine c_ret ?_
          refine bp_ret Tryz.results137 rfl ?_
          refine ⟨key _ _ ?_ ?_, rfl⟩
          all_goals simp only [hc12, if_true, Bool.false_eq_true, if_false]
          all_goals repeat' split
          all_goals omega
        · try simp only [decide_eq_true_eq, decide_eq_false_iff_not, Bool.not_eq_true', Bool.not_eq_false', Bool.not_eq_eq_eq_not, Bool.not_true, Bool.not_false, beq_iff_eq, bne_iff_ne, ne_eq, beq_eq_false_iff_ne, bne_eq_false_iff_eq, gt_iff_lt, ge_iff_le, Int.not_lt, Int.not_le] at hc48
          refine c_skip (x_then (hK57 _ _ ?_))
          clear hK57 K57
          refine forget [(0, _), (1, _)] ⟨rfl, rfl, trivial⟩ (fun e => ?_)
          refine c_seq (fun K60 hK60 => ?_)
          refine c_reg ?_ -- region 17 move.go:71
          refine wl (ro_move rfl) ?_
          refine wl (ro_move rfl) ?_
          refine wl (ro_assign rfl) ?_
          refine wl (ro_assign rfl) ?_
          refine wl_nil (x_then (hK60 _ _ ?_))
          clear hK60 K60
          refine c_ret ?_
          refine bp_ret Tryz.results137 rfl ?_
          refine ⟨key _ _ ?_ ?_, rfl⟩
          all_goals simp only [hc12, if_true, Bool.false_eq_true, if_false]
          all_goals repeat' split
          all_goals omega
theorem bad135 {w : World} : Ret Tryz.prog 135 [] w (fun v w' => v = .agg (ndc nBad).toArray ∧ Fram none' w w') := by
  have hF : Fram none' w w := Fram.refl _ _
  refine ret_of Tryz.func135 rfl Tryz.ntmps135 rfl ?_
  refine c_seq (fun K1 hK1 => ?_)
  refine c_reg ?_ -- region 0 move.go:75
  refine wl_new (ze_143) (fun b0 w1 hbb0 h0 F1 => ?_)
  have hbsb0 := Nat.le_trans hF.size hbb0
  replace hF := hF.thenDrew.thenN F1
  refine wl_nil (x_then (hK1 _ _ ?_))
  clear hK1 K1
  refine forget [(0, _)] ⟨rfl, trivial⟩ (fun e => ?_)
  refine c_seq (fun K2 hK2 => ?_)
  refine c_reg ?_ -- region 1 move.go:75
  refine wl (ro_build rfl bld_143_0_2_3) ?_
  refine wl_puta rfl rfl ((by (try exact vlc_cells _); all_goals simp [Value.oneCell', i64c, icv, u64c, u8c, ptr, S])) sz_143 (rfl) h0 ((by simp)) (rfl) (fun w2 h0 F2 => ?_)
  replace hF := hF.thenDrew.thenO F2 (by first | exact .inr (by omega) | exact .inl rfl | exact .inl (by assumption))
  refine wl_nil (x_then (hK2 _ _ ?_))
  clear hK2 K2
  refine c_ret ?_
  refine bq_ret (res1 Tryz.results135 (rv_c rfl ag_143 (h0) (rfl))) ?_
  exact ⟨rfl, hF⟩
theorem From76 {w : World} {kind a : Int} {c : Nat} (hok : edOK kind a = true) (hc : c < 24) : Ret Tryz.prog 76 [i64c c, icv kind, icv a] w (fun v w' => v = icv (srcI (rwB kind) (inB kind) a c) ∧ w' = w) := by
  obtain ⟨hk, ha⟩ := ed_iff.1 hok
  have hl := lnR_bd (rwB kind)
  have key : ∀ r q : Int, r = srcI (rwB kind) (inB kind) a c → q = r → icv q = icv (srcI (rwB kind) (inB kind) a c) := fun r q h1 h2 => by rw [h2, h1]
  have hs : srcI (rwB kind) (inB kind) a c = if kind = 1 then (if a ≤ ((c / 4 : Nat) : Int) then (if ((c / 4 : Nat) : Int) = a then -1 else (c : Int) - 4) else c) else if kind = 2 then (if a ≤ ((c / 4 : Nat) : Int) then (if 6 ≤ ((c / 4 : Nat) : Int) + 1 then -1 else (c : Int) + 4) else c)
      else if kind = 3 then (if a ≤ ((c % 4 : Nat) : Int) then (if ((c % 4 : Nat) : Int) = a then -1 else (c : Int) - 1) else c) else (if a ≤ ((c % 4 : Nat) : Int) then (if 4 ≤ ((c % 4 : Nat) : Int) + 1 then -1 else (c : Int) + 1) else c) := by
    rcases (by omega : kind = 1 ∨ kind = 2 ∨ kind = 3 ∨ kind = 4) with rfl | rfl | rfl | rfl <;> simp [srcI, lnR, rwB, inB]
  have ha6 : 0 ≤ a ∧ a < 6 := by omega
  rw [hs]
  clear hs key hok ha hl
  refine ret_of Tryz.func76 rfl Tryz.ntmps76 rfl ?_
  refine c_seq (fun K1 hK1 => ?_)
  refine c_reg ?_ -- region 0 move.go:167
  refine wl (ro_assign rfl) ?_
  refine wl_nil (x_then (hK1 _ _ ?_))
  clear hK1 K1
  refine forget [(0, _), (1, _), (2, _)] ⟨rfl, rfl, rfl, trivial⟩ (fun e => ?_)
  refine c_seq (fun K2 hK2 => ?_)
  refine c_reg ?_ -- region 1 move.go:168
  refine wl (ro_move rfl) ?_
  refine wl (ro_remN (b := 4) rfl rfl (by omega)) ?_
  refine wl (ro_move rfl) ?_
  refine wl (ro_quoN (b := 4) rfl rfl (by omega) (by omega)) ?_
  refine wl (ro_assign rfl) ?_
  refine wl (ro_assign rfl) ?_
  refine wl_nil (x_then (hK2 _ _ ?_))
  clear hK2 K2
  refine c_seq (fun K3 hK3 => ?_)
  refine c_seq (fun K4 hK4 => ?_)
  refine c_reg ?_ -- region 2 move.go:169
  refine wl (ro_move rfl) ?_
  refine wl_nil (x_then (hK4 _ _ ?_))
  clear hK4 K4
  refine c_block ?_
  refine forget [(2, _), (7, _), (8, _), (13, _)] ⟨rfl, rfl, rfl, rfl, trivial⟩ (fun e => ?_)
  refine c_seq (fun K5 hK5 => ?_)
  refine c_reg ?_ -- region 3 move.go:170
  refine wl (ro_cmp rfl rfl rfl) ?_
  refine wl (ro_assign rfl) ?_
  refine wl_nil (x_then (hK5 _ _ ?_))
  clear hK5 K5
  refine wc_cond rfl (fun hc14 => ?_) (fun hc14 => ?_)
  · try simp only [decide_eq_true_eq, decide_eq_false_iff_not, Bool.not_eq_true', Bool.not_eq_false', Bool.not_eq_eq_eq_not, Bool.not_true, Bool.not_false, beq_iff_eq, bne_iff_ne, ne_eq, beq_eq_false_iff_ne, bne_eq_false_iff_eq, gt_iff_lt, ge_iff_le, Int.not_lt, Int.not_le] at hc14
    refine c_seq (fun K6 hK6 => ?_)
    refine c_seq (fun K7 hK7 => ?_)
    refine c_reg ?_ -- region 4 move.go:171
    refine wl (ro_move rfl) ?_
    refine wl (ro_move rfl) ?_
    refine wl (ro_cmp rfl rfl rfl) ?_
    refine wl_nil (x_then (hK7 _ _ ?_))
    clear hK7 K7
    refine wc_cond rfl (fun hc18 => ?_) (fun hc18 => ?_)
    · try simp only [decide_eq_true_eq, decide_eq_false_iff_not, Bool.not_eq_true', Bool.not_eq_false', Bool.not_eq_eq_eq_not, Bool.not_true, Bool.not_false, beq_iff_eq, bne_iff_ne, ne_eq, beq_eq_false_iff_ne, bne_eq_false_iff_eq, gt_iff_lt, ge_iff_le, Int.not_lt, Int.not_le] at hc18
      refine c_seq (fun K8 hK8 => ?_)
      refine c_reg ?_ -- region 5 move.go:172
      refine wl (ro_assign rfl) ?_
      refine wl_nil (x_then (hK8 _ _ ?_))
      clear hK8 K8
      refine c_ret (x_thenR (x_blkR (x_thenR ?_)))
      refine bp_ret Tryz.results76 rfl ?_
      refine ⟨congrArg icv ?_, rfl⟩
      repeat' split
      all_goals omega
    · try simp only [decide_eq_true_eq, decide_eq_false_iff_not, Bool.not_eq_true', Bool.not_eq_false', Bool.not_eq_eq_eq_not, Bool.not_true, Bool.not_false, beq_iff_eq, bne_iff_ne, ne_eq, beq_eq_false_iff_ne, bne_eq_false_iff_eq, gt_iff_lt, ge_iff_le, Int.not_lt, Int.not_le] at hc18
      refine c_skip (x_then (hK6 _ _ ?_))
      clear hK6 K6
      refine forget [(2, _), (7, _), (8, _)] ⟨rfl, rfl, rfl, trivial⟩ (fun e => ?_)
      refine c_seq (fun K9 hK9 => ?_)
      refine c_reg ?_ -- region 6 move.go:174
      refine wl (ro_move rfl) ?_
      refine wl (ro_move rfl) ?_
      refine wl (ro_cmp rfl rfl rfl) ?_
      refine wl_nil (x_then (hK9 _ _ ?_))
      clear hK9 K9
      refine wc_cond rfl (fun hc21 => ?_) (fun hc21 => ?_)
      · try simp only [decide_eq_true_eq, decide_eq_false_iff_not, Bool.not_eq_true', Bool.not_eq_false', Bool.not_eq_eq_eq_not, Bool.not_true, Bool.not_false, beq_iff_eq, bne_iff_ne, ne_eq, beq_eq_false_iff_ne, bne_eq_false_iff_eq, gt_iff_lt, ge_iff_le, Int.not_lt, Int.not_le] at hc21
        refine c_reg ?_ -- region 7 move.go:175
        refine wl (ro_move rfl) ?_
        refine wl (ro_arith (r := ((c / 4 : Nat) : Int) - 1) rfl rfl rfl (Go.IntWalk.i64_in _ (by omega))) ?_
        refine wl (ro_assign rfl) ?_
        refine wl_nil (x_blk (x_then (hK3 _ _ ?_)))
        clear hK3 K3
        refine forget [(7, _), (8, _)] ⟨rfl, rfl, trivial⟩ (fun e => ?_)
        refine c_seq (fun K10 hK10 => ?_)
        refine c_reg ?_ -- region 23 move.go:199
        refine wl (ro_move rfl) ?_
        refine wl (ro_arith rfl rfl rfl (Go.IntWalk.i64_in _ (by omega))) ?_
        refine wl (ro_move rfl) ?_
        refine wl (ro_arith rfl rfl rfl (Go.IntWalk.i64_in _ (by omega))) ?_
        refine wl (ro_assign rfl) ?_
        refine wl_nil (x_then (hK10 _ _ ?_))
        clear hK10 K10
        refine c_ret ?_
        refine bp_ret Tryz.results76 rfl ?_
        refine ⟨congrArg icv ?_, rfl⟩
        repeat' split
        all_goals omega
      · try simp only [decide_eq_true_eq, decide_eq_false_iff_not, Bool.not_eq_true', Bool.not_eq_false', Bool.not_eq_eq_eq_not, Bool.not_true, Bool.not_false, beq_iff_eq, bne_iff_ne, ne_eq, beq_eq_false_iff_ne, bne_eq_false_iff_eq, gt_iff_lt, ge_iff_le, Int.not_lt, Int.not_le] at hc21
        refine c_skip (x_blk (x_then (hK3 _ _ ?_)))
        clear hK3 K3
        refine forget [(7, _), (8, _)] ⟨rfl, rfl, trivial⟩ (fun e => ?_)
        refine c_seq (fun K11 hK11 => ?_)
        refine c_reg ?_ -- region 23 move.go:199
        refine wl (ro_move rfl) ?_
        refine wl (ro_arith rfl rfl rfl (Go.IntWalk.i64_in _ (by omega))) ?_
        refine wl (ro_move rfl) ?_
        refine wl (ro_arith rfl rfl rfl (Go.IntWalk.i64_in _ (by omega))) ?_
        refine wl (ro_assign rfl) ?_
        refine wl_nil (x_then (hK11 _ _ ?_))
        clear hK11 K11
        refine c_ret ?_
        refine bp_ret Tryz.results76 rfl ?_
        refine ⟨congrArg icv ?_, rfl⟩
        repeat' split
        all_goals omega
  · try simp only [decide_eq_true_eq, decide_eq_false_iff_not, Bool.not_eq_true', Bool.not_eq_false', Bool.not_eq_eq_eq_not, Bool.not_true, Bool.not_false, beq_iff_eq, bne_iff_ne, ne_eq, beq_eq_false_iff_ne, bne_eq_false_iff_eq, gt_iff_lt, ge_iff_le, Int.not_lt, Int.not_le] at hc14
    refine c_seq (fun K12 hK12 => ?_)
    refine c_reg ?_ -- region 8 move.go:177
    refine wl (ro_cmp rfl rfl rfl) ?_
    refine wl (ro_assign rfl) ?_
    refine wl_nil (x_then (hK12 _ _ ?_))
    clear hK12 K12
    refine wc_cond rfl (fun hc24 => ?_) (fun hc24 => ?_)
    · try simp only [decide_eq_true_eq, decide_eq_false_iff_not, Bool.not_eq_true', Bool.not_eq_false', Bool.not_eq_eq_eq_not, Bool.not_true, Bool.not_false, beq_iff_eq, bne_iff_ne, ne_eq, beq_eq_false_iff_ne, bne_eq_false_iff_eq, gt_iff_lt, ge_iff_le, Int.not_lt, Int.not_le] at hc24
      refine c_seq (fun K13 hK13 => ?_)
      refine c_seq (fun K14 hK14 => ?_)
      refine c_reg ?_ -- region 9 move.go:178
      refine wl (ro_move rfl) ?_
      refine wl (ro_move rfl) ?_
      refine wl (ro_cmp rfl rfl rfl) ?_
      refine wl_nil (x_then (hK14 _ _ ?_))
      clear hK14 K14
      refine wc_cond rfl (fun hc28 => ?_) (fun hc28 => ?_)
      · try simp only [decide_eq_true_eq, decide_eq_false_iff_not, Bool.not_eq_true', Bool.not_eq_false', Bool.not_eq_eq_eq_not, Bool.not_true, Bool.not_false, beq_iff_eq, bne_iff_ne, ne_eq, beq_eq_false_iff_ne, bne_eq_false_iff_eq, gt_iff_lt, ge_iff_le, Int.not_lt, Int.not_le] at hc28
        refine c_reg ?_ -- region 10 move.go:179
        refine wl (ro_move rfl) ?_
        refine wl (ro_arith (r := ((c / 4 : Nat) : Int) + 1) rfl rfl rfl (Go.IntWalk.i64_in _ (by omega))) ?_
        refine wl (ro_assign rfl) ?_
        refine wl_nil (x_then (hK13 _ _ ?_))
        clear hK13 K13
        refine forget [(7, _), (8, _)] ⟨rfl, rfl, trivial⟩ (fun e => ?_)
        refine c_seq (fun K15 hK15 => ?_)
        refine c_reg ?_ -- region 11 move.go:181
        refine wl (ro_move rfl) ?_
        refine wl (ro_cmp rfl rfl rfl) ?_
        refine wl_nil (x_then (hK15 _ _ ?_))
        clear hK15 K15
        refine wc_cond rfl (fun hc32 => ?_) (fun hc32 => ?_)
        · try simp only [decide_eq_true_eq, decide_eq_false_iff_not, Bool.not_eq_true', Bool.not_eq_false', Bool.not_eq_eq_eq_not, Bool.not_true, Bool.not_false, beq_iff_eq, bne_iff_ne, ne_eq, beq_eq_false_iff_ne, bne_eq_false_iff_eq, gt_iff_lt, ge_iff_le, Int.not_lt, Int.not_le] at hc32
          refine c_seq (fun K16 hK16 => ?_)
          refine c_reg ?_ -- region 12 move.go:182
          refine wl (ro_assign rfl) ?_
          refine wl_nil (x_then (hK16 _ _ ?_))
          clear hK16 K16
          refine c_ret (x_blkR (x_thenR ?_))
          refine bp_ret Tryz.results76 rfl ?_
          refine ⟨congrArg icv ?_, rfl⟩
          repeat' split
          all_goals omega
        · try simp only [decide_eq_true_eq, decide_eq_false_iff_not, Bool.not_eq_true', Bool.not_eq_false', Bool.not_eq_eq_eq_not, Bool.not_true, Bool.not_false, beq_iff_eq, bne_iff_ne, ne_eq, beq_eq_false_iff_ne, bne_eq_false_iff_eq, gt_iff_lt, ge_iff_le, Int.not_lt, Int.not_le] at hc32
          refine c_skip (x_blk (x_then (hK3 _ _ ?_)))
          clear hK3 K3
          refine forget [(7, _), (8, _)] ⟨rfl, rfl, trivial⟩ (fun e => ?_)
          refine c_seq (fun K17 hK17 => ?_)
          refine c_reg ?_ -- region 23 move.go:199
          refine wl (ro_move rfl) ?_
          refine wl (ro_arith rfl rfl rfl (Go.IntWalk.i64_in _ (by omega))) ?_
          refine wl (ro_move rfl) ?_
          refine wl (ro_arith rfl rfl rfl (Go.IntWalk.i64_in _ (by omega))) ?_
          refine wl (ro_assign rfl) ?_
          refine wl_nil (x_then (hK17 _ _ ?_))
          clear hK17 K17
          refine c_ret ?_
          refine bp_ret Tryz.results76 rfl ?_
          refine ⟨congrArg icv ?_, rfl⟩
          repeat' split
          all_goals omega
      · try simp only [decide_eq_true_eq, decide_eq_false_iff_not, Bool.not_eq_true', Bool.not_eq_false', Bool.not_eq_eq_eq_not, Bool.not_true, Bool.not_false, beq_iff_eq, bne_iff_ne, ne_eq, beq_eq_false_iff_ne, bne_eq_false_iff_eq, gt_iff_lt, ge_iff_le, Int.not_lt, Int.not_le] at hc28
        refine c_skip (x_then (hK13 _ _ ?_))
        clear hK13 K13
        refine forget [(7, _), (8, _)] ⟨rfl, rfl, trivial⟩ (fun e => ?_)
        refine c_seq (fun K18 hK18 => ?_)
        refine c_reg ?_ -- region 11 move.go:181
        refine wl (ro_move rfl) ?_
        refine wl (ro_cmp rfl rfl rfl) ?_
        refine wl_nil (x_then (hK18 _ _ ?_))
        clear hK18 K18
        refine wc_cond rfl (fun hc32 => ?_) (fun hc32 => ?_)
        · try simp only [decide_eq_true_eq, decide_eq_false_iff_not, Bool.not_eq_true', Bool.not_eq_false', Bool.not_eq_eq_eq_not, Bool.not_true, Bool.not_false, beq_iff_eq, bne_iff_ne, ne_eq, beq_eq_false_iff_ne, bne_eq_false_iff_eq, gt_iff_lt, ge_iff_le, Int.not_lt, Int.not_le] at hc32
          refine c_seq (fun K19 hK19 => ?_)
          refine c_reg ?_ -- region 12 move.go:182
          refine wl (ro_assign rfl) ?_
          refine wl_nil (x_then (hK19 _ _ ?_))
          clear hK19 K19
          refine c_ret (x_blkR (x_thenR ?_))
          refine bp_ret Tryz.results76 rfl ?_
          refine ⟨congrArg icv ?_, rfl⟩
          repeat' split
          all_goals omega
        · try simp only [decide_eq_true_eq, decide_eq_false_iff_not, Bool.not_eq_true', Bool.not_eq_false', Bool.not_eq_eq_eq_not, Bool.not_true, Bool.not_false, beq_iff_eq, bne_iff_ne, ne_eq, beq_eq_false_iff_ne, bne_eq_false_iff_eq, gt_iff_lt, ge_iff_le, Int.not_lt, Int.not_le] at hc32
          refine c_skip (x_blk (x_then (hK3 _ _ ?_)))
          clear hK3 K3
          refine forget [(7, _), (8, _)] ⟨rfl, rfl, trivial⟩ (fun e => ?_)
          refine c_seq (fun K20 hK20 => ?_)
          refine c_reg ?_ -- region 23 move.go:199
          refine wl (ro_move rfl) ?_
          refine wl (ro_arith rfl rfl rfl (Go.IntWalk.i64_in _ (by omega))) ?_
          refine wl (ro_move rfl) ?_
          refine wl (ro_arith rfl rfl rfl (Go.IntWalk.i64_in _ (by omega))) ?_
          refine wl (ro_assign rfl) ?_
          refine wl_nil (x_then (hK20 _ _ ?_))
          clear hK20 K20
          refine c_ret ?_
          refine bp_ret Tryz.results76 rfl ?_
          refine ⟨congrArg icv ?_, rfl⟩
          repeat' split
          all_goals omega
    · try simp only [decide_eq_true_eq, decide_eq_false_iff_not, Bool.not_eq_true', Bool.not_eq_false', Bool.not_eq_eq_eq_not, Bool.not_true, Bool.not_false, beq_iff_eq, bne_iff_ne, ne_eq, beq_eq_false_iff_ne, bne_eq_false_iff_eq, gt_iff_lt, ge_iff_le, Int.not_lt, Int.not_le] at hc24
      refine c_seq (fun K21 hK21 => ?_)
      refine c_reg ?_ -- region 13 move.go:184
      refine wl (ro_cmp rfl rfl rfl) ?_
      refine wl (ro_assign rfl) ?_
      refine wl_nil (x_then (hK21 _ _ ?_))
      clear hK21 K21
      refine wc_cond rfl (fun hc33 => ?_) (fun hc33 => ?_)
      · try simp only [decide_eq_true_eq, decide_eq_false_iff_not, Bool.not_eq_true', Bool.not_eq_false', Bool.not_eq_eq_eq_not, Bool.not_true, Bool.not_false, beq_iff_eq, bne_iff_ne, ne_eq, beq_eq_false_iff_ne, bne_eq_false_iff_eq, gt_iff_lt, ge_iff_le, Int.not_lt, Int.not_le] at hc33
        refine c_seq (fun K22 hK22 => ?_)
        refine c_seq (fun K23 hK23 => ?_)
        refine c_reg ?_ -- region 14 move.go:185
        refine wl (ro_move rfl) ?_
        refine wl (ro_move rfl) ?_
        refine wl (ro_cmp rfl rfl rfl) ?_
        refine wl_nil (x_then (hK23 _ _ ?_))
        clear hK23 K23
        refine wc_cond rfl (fun hc37 => ?_) (fun hc37 => ?_)
        · try simp only [decide_eq_true_eq, decide_eq_false_iff_not, Bool.not_eq_true', Bool.not_eq_false', Bool.not_eq_eq_eq_not, Bool.not_true, Bool.not_false, beq_iff_eq, bne_iff_ne, ne_eq, beq_eq_false_iff_ne, bne_eq_false_iff_eq, gt_iff_lt, ge_iff_le, Int.not_lt, Int.not_le] at hc37
          refine c_seq (fun K24 hK24 => ?_)
          refine c_reg ?_ -- region 15 move.go:186
          refine wl (ro_assign rfl) ?_
          refine wl_nil (x_then (hK24 _ _ ?_))
          clear hK24 K24
          refine c_ret (x_thenR (x_blkR (x_thenR ?_)))
          refine bp_ret Tryz.results76 rfl ?_
          refine ⟨congrArg icv ?_, rfl⟩
          repeat' split
          all_goals omega
        · try simp only [decide_eq_true_eq, decide_eq_false_iff_not, Bool.not_eq_true', Bool.not_eq_false', Bool.not_eq_eq_eq_not, Bool.not_true, Bool.not_false, beq_iff_eq, bne_iff_ne, ne_eq, beq_eq_false_iff_ne, bne_eq_false_iff_eq, gt_iff_lt, ge_iff_le, Int.not_lt, Int.not_le] at hc37
          refine c_skip (x_then (hK22 _ _ ?_))
          clear hK22 K22
          refine forget [(2, _), (7, _), (8, _)] ⟨rfl, rfl, rfl, trivial⟩ (fun e => ?_)
          refine c_seq (fun K25 hK25 => ?_)
          refine c_reg ?_ -- region 16 move.go:188
          refine wl (ro_move rfl) ?_
          refine wl (ro_move rfl) ?_
          refine wl (ro_cmp rfl rfl rfl) ?_
          refine wl_nil (x_then (hK25 _ _ ?_))
          clear hK25 K25
          refine wc_cond rfl (fun hc40 => ?_) (fun hc40 => ?_)
          · try simp only [decide_eq_true_eq, decide_eq_false_iff_not, Bool.not_eq_true', Bool.not_eq_false', Bool.not_eq_eq_eq_not, Bool.not_true, Bool.not_false, beq_iff_eq, bne_iff_ne, ne_eq, beq_eq_false_iff_ne, bne_eq_false_iff_eq, gt_iff_lt, ge_iff_le, Int.not_lt, Int.not_le] at hc40
            refine c_reg ?_ -- region 17 move.go:189
            refine wl (ro_move rfl) ?_
            refine wl (ro_arith (r := ((c % 4 : Nat) : Int) - 1) rfl rfl rfl (Go.IntWalk.i64_in _ (by omega))) ?_
            refine wl (ro_assign rfl) ?_
            refine wl_nil (x_blk (x_then (hK3 _ _ ?_)))
            clear hK3 K3
            refine forget [(7, _), (8, _)] ⟨rfl, rfl, trivial⟩ (fun e => ?_)
            refine c_seq (fun K26 hK26 => ?_)
            refine c_reg ?_ -- region 23 move.go:199
            refine wl (ro_move rfl) ?_
            refine wl (ro_arith rfl rfl rfl (Go.IntWalk.i64_in _ (by omega))) ?_
            refine wl (ro_move rfl) ?_
            refine wl (ro_arith rfl rfl rfl (Go.IntWalk.i64_in _ (by omega))) ?_
            refine wl (ro_assign rfl) ?_
            refine wl_nil (x_then (hK26 _ _ ?_))
            clear hK26 K26
            refine c_ret ?_
            refine bp_ret Tryz.results76 rfl ?_
            refine ⟨congrArg icv ?_, rfl⟩
            repeat' split
            all_goals omega
          · try simp only [decide_eq_true_eq, decide_eq_false_iff_not, Bool.not_eq_true', Bool.not_eq_false', Bool.not_eq_eq_eq_not, Bool.not_true, Bool.not_false, beq_iff_eq, bne_iff_ne, ne_eq, beq_eq_false_iff_ne, bne_eq_false_iff_eq, gt_iff_lt, ge_iff_le, Int.not_lt, Int.not_le] at hc40
            refine c_skip (x_blk (x_then (hK3 _ _ ?_)))
            clear hK3 K3
            refine forget [(7, _), (8, _)] ⟨rfl, rfl, trivial⟩ (fun e => ?_)
            refine c_seq (fun K27 hK27 => ?_)
            refine c_reg ?_ -- region 23 move.go:199
            refine wl (ro_move rfl) ?_
            refine wl (ro_arith rfl rfl rfl (Go.IntWalk.i64_in _ (by omega))) ?_
            refine wl (ro_move rfl) ?_
            refine wl (ro_arith rfl rfl rfl (Go.IntWalk.i64_in _ (by omega))) ?_
            refine wl (ro_assign rfl) ?_
            refine wl_nil (x_then (hK27 _ _ ?_))
            clear hK27 K27
            refine c_ret ?_
            refine bp_ret Tryz.results76 rfl ?_
            refine ⟨congrArg icv ?_, rfl⟩
            repeat' split
            all_goals omega
      · try simp only [decide_eq_true_eq, decide_eq_false_iff_not, Bool.not_eq_true', Bool.not_eq_false', Bool.not_eq_eq_eq_not, Bool.not_true, Bool.not_false, beq_iff_eq, bne_iff_ne, ne_eq, beq_eq_false_iff_ne, bne_eq_false_iff_eq, gt_iff_lt, ge_iff_le, Int.not_lt, Int.not_le] at hc33
        refine c_seq (fun K28 hK28 => ?_)
        refine c_reg ?_ -- region 18 move.go:191
        refine wl (ro_cmp rfl rfl rfl) ?_
        refine wl (ro_assign rfl) ?_
        refine wl_nil (x_then (hK28 _ _ ?_))
        clear hK28 K28
        refine wc_cond rfl (fun hc43 => ?_) (fun hc43 => ?_)
        · try simp only [decide_eq_true_eq, decide_eq_false_iff_not, Bool.not_eq_true', Bool.not_eq_false', Bool.not_eq_eq_eq_not, Bool.not_true, Bool.not_false, beq_iff_eq, bne_iff_ne, ne_eq, beq_eq_false_iff_ne, bne_eq_false_iff_eq, gt_iff_lt, ge_iff_le, Int.not_lt, Int.not_le] at hc43
          refine c_seq (fun K29 hK29 => ?_)
          refine c_seq (fun K30 hK30 => ?_)
          refine c_reg ?_ -- region 19 move.go:192
          refine wl (ro_move rfl) ?_
          refine wl (ro_move rfl) ?_
          refine wl (ro_cmp rfl rfl rfl) ?_
          refine wl_nil (x_then (hK30 _ _ ?_))
          clear hK30 K30
          refine wc_cond rfl (fun hc47 => ?_) (fun hc47 => ?_)
          · try simp only [decide_eq_true_eq, decide_eq_false_iff_not, Bool.not_eq_true', Bool.not_eq_false', Bool.not_eq_eq_eq_not, Bool.not_true, Bool.not_false, beq_iff_eq, bne_iff_ne, ne_eq, beq_eq_false_iff_ne, bne_eq_false_iff_eq, gt_iff_lt, ge_iff_le, Int.not_lt, Int.not_le] at hc47
            refine c_reg ?_ -- region 20 move.go:193
            refine wl (ro_move rfl) ?_
            refine wl (ro_arith (r := ((c % 4 : Nat) : Int) + 1) rfl rfl rfl (Go.IntWalk.i64_in _ (by omega))) ?_
            refine wl (ro_assign rfl) ?_
            refine wl_nil (x_then (hK29 _ _ ?_))
            clear hK29 K29
            refine forget [(7, _), (8, _)] ⟨rfl, rfl, trivial⟩ (fun e => ?_)
            refine c_seq (fun K31 hK31 => ?_)
            refine c_reg ?_ -- region 21 move.go:195
            refine wl (ro_move rfl) ?_
            refine wl (ro_cmp rfl rfl rfl) ?_
            refine wl_nil (x_then (hK31 _ _ ?_))
            clear hK31 K31
            refine wc_cond rfl (fun hc51 => ?_) (fun hc51 => ?_)
            · try simp only [decide_eq_true_eq, decide_eq_false_iff_not, Bool.not_eq_true', Bool.not_eq_false', Bool.not_eq_eq_eq_not, Bool.not_true, Bool.not_false, beq_iff_eq, bne_iff_ne, ne_eq, beq_eq_false_iff_ne, bne_eq_false_iff_eq, gt_iff_lt, ge_iff_le, Int.not_lt, Int.not_le] at hc51
              refine c_seq (fun K32 hK32 => ?_)
              refine c_reg ?_ -- region 22 move.go:196
              refine wl (ro_assign rfl) ?_
              refine wl_nil (x_then (hK32 _ _ ?_))
              clear hK32 K32
              refine c_ret (x_blkR (x_thenR ?_))
              refine bp_ret Tryz.results76 rfl ?_
              refine ⟨congrArg icv ?_, rfl⟩
              repeat' split
              all_goals omega
            · try simp only [decide_eq_true_eq, decide_eq_false_iff_not, Bool.not_eq_true', Bool.not_eq_false', Bool.not_eq_eq_eq_not, Bool.not_true, Bool.not_false, beq_iff_eq, bne_iff_ne, ne_eq, beq_eq_false_iff_ne, bne_eq_false_iff_eq, gt_iff_lt, ge_iff_le, Int.not_lt, Int.not_le] at hc51
              refine c_skip (x_blk (x_then (hK3 _ _ ?_)))
              clear hK3 K3
              refine forget [(7, _), (8, _)] ⟨rfl, rfl, trivial⟩ (fun e => ?_)
              refine c_seq (fun K33 hK33 => ?_)
              refine c_reg ?_ -- region 23 move.go:199
              refine wl (ro_move rfl) ?_
              refine wl (ro_arith rfl rfl rfl (Go.IntWalk.i64_in _ (by omega))) ?_
              refine wl (ro_move rfl) ?_
              refine wl (ro_arith rfl rfl rfl (Go.IntWalk.i64_in _ (by omega))) ?_
              refine wl (ro_assign rfl) ?_
              refine wl_nil (x_then (hK33 _ _ ?_))
              clear hK33 K33
              refine c_ret ?_
              refine bp_ret Tryz.results76 rfl ?_
              refine ⟨congrArg icv ?_, rfl⟩
              repeat' split
              all_goals omega
          · try simp only [decide_eq_true_eq, decide_eq_false_iff_not, Bool.not_eq_true', Bool.not_eq_false', Bool.not_eq_eq_eq_not, Bool.not_true, Bool.not_false, beq_iff_eq, bne_iff_ne, ne_eq, beq_eq_false_iff_ne, bne_eq_false_iff_eq, gt_iff_lt, ge_iff_le, Int.not_lt, Int.not_le] at hc47
            refine c_skip (x_then (hK29 _ _ ?_))
            clear hK29 K29
            refine forget [(7, _), (8, _)] ⟨rfl, rfl, trivial⟩ (fun e => ?_)
            refine c_seq (fun K34 hK34 => ?_)
            refine c_reg ?_ -- region 21 move.go:195
            refine wl (ro_move rfl) ?_
            refine wl (ro_cmp rfl rfl rfl) ?_
            refine wl_nil (x_then (hK34 _ _ ?_))
            clear hK34 K34
            refine wc_cond rfl (fun hc51 => ?_) (fun hc51 => ?_)
            · try simp only [decide_eq_true_eq, decide_eq_false_iff_not, Bool.not_eq_true', Bool.not_eq_false', Bool.not_eq_eq_eq_not, Bool.not_true, Bool.not_false, beq_iff_eq, bne_iff_ne, ne_eq, beq_eq_false_iff_ne, bne_eq_false_iff_eq, gt_iff_lt, ge_iff_le, Int.not_lt, Int.not_le] at hc51
              refine c_seq (fun K35 hK35 => ?_)
              refine c_reg ?_ -- region 22 move.go:196
              refine wl (ro_assign rfl) ?_
              refine wl_nil (x_then (hK35 _ _ ?_))
              clear hK35 K35
              refine c_ret (x_blkR (x_thenR ?_))
              refine bp_ret Tryz.results76 rfl ?_
              refine ⟨congrArg icv ?_, rfl⟩
              repeat' split
              all_goals omega
            · try simp only [decide_eq_true_eq, decide_eq_false_iff_not, Bool.not_eq_true', Bool.not_eq_false', Bool.not_eq_eq_eq_not, Bool.not_true, Bool.not_false, beq_iff_eq, bne_iff_ne, ne_eq, beq_eq_false_iff_ne, bne_eq_false_iff_eq, gt_iff_lt, ge_iff_le, Int.not_lt, Int.not_le] at hc51
              refine c_skip (x_blk (x_then (hK3 _ _ ?_)))
              clear hK3 K3
              refine forget [(7, _), (8, _)] ⟨rfl, rfl, trivial⟩ (fun e => ?_)
              refine c_seq (fun K36 hK36 => ?_)
              refine c_reg ?_ -- region 23 move.go:199
              refine wl (ro_move rfl) ?_
              refine wl (ro_arith rfl rfl rfl (Go.IntWalk.i64_in _ (by omega))) ?_
              refine wl (ro_move rfl) ?_
              refine wl (ro_arith rfl rfl rfl (Go.IntWalk.i64_in _ (by omega))) ?_
              refine wl (ro_assign rfl) ?_
              refine wl_nil (x_then (hK36 _ _ ?_))
              clear hK36 K36
              refine c_ret ?_
              refine bp_ret Tryz.results76 rfl ?_
              refine ⟨congrArg icv ?_, rfl⟩
              repeat' split
              all_goals omega
        · try simp only [decide_eq_true_eq, decide_eq_false_iff_not, Bool.not_eq_true', Bool.not_eq_false', Bool.not_eq_eq_eq_not, Bool.not_true, Bool.not_false, beq_iff_eq, bne_iff_ne, ne_eq, beq_eq_false_iff_ne, bne_eq_false_iff_eq, gt_iff_lt, ge_iff_le, Int.not_lt, Int.not_le] at hc43
          refine c_skip (x_blk (x_then (hK3 _ _ ?_)))
          clear hK3 K3
          refine forget [(7, _), (8, _)] ⟨rfl, rfl, trivial⟩ (fun e => ?_)
          refine c_seq (fun K37 hK37 => ?_)
          refine c_reg ?_ -- region 23 move.go:199
          refine wl (ro_move rfl) ?_
          refine wl (ro_arith rfl rfl rfl (Go.IntWalk.i64_in _ (by omega))) ?_
          refine wl (ro_move rfl) ?_
          refine wl (ro_arith rfl rfl rfl (Go.IntWalk.i64_in _ (by omega))) ?_
          refine wl (ro_assign rfl) ?_
          refine wl_nil (x_then (hK37 _ _ ?_))
          clear hK37 K37
          refine c_ret ?_
          refine bp_ret Tryz.results76 rfl ?_
          refine ⟨congrArg icv ?_, rfl⟩
          repeat' split
          all_goals omega
set_option maxHeartbeats 4000000 in
theorem slide139 {w : World} {r : Rf} {dc dr : Int} (hr : RfOK r) (hd : -10 ≤ dc ∧ dc ≤ 10 ∧ -10 ≤ dr ∧ dr ≤ 10) : Ret Tryz.prog 139 [rfA r, icv dc, icv dr] w (fun v w' => v = .tuple #[rfA (cyR dc dr r), .bool (okR (cyR dc dr r))] ∧ Fram none' w w') := by
  have hF : Fram none' w w := Fram.refl _ _
  obtain ⟨r1, r2, r3, r4⟩ := hr
  refine ret_of Tryz.func139 rfl Tryz.ntmps139 rfl ?_
  refine c_seq (fun K1 hK1 => ?_)
  refine c_reg ?_ -- region 0 move.go:123
  refine wl_box (cs := (refc r)) rfl rfl (fun b3 w1 hbb3 h3 F1 => ?_)
  have hbsb3 := Nat.le_trans hF.size hbb3
  replace hF := hF.thenDrew.thenN F1
  refine wl_new (ze_141) (fun b6 w2 hbb6 h6 F2 => ?_)
  have hbsb6 := Nat.le_trans hF.size hbb6
  have hneb3b6 : b3 < b6 := Nat.lt_of_lt_of_le h3.lt hbb6
  replace hF := hF.thenDrew.thenN F2
  replace h3 := F2.blkN h3
  refine wl (ro_assign rfl) ?_
  refine wl_nil (x_then (hK1 _ _ ?_))
  clear hK1 K1
  refine c_mid (fun a' w' => Fram none' w w' ∧ Blk w'.heap b3 [icv (cyR dc dr r).c, icv r.r, .bool r.ac, .bool r.ar] 141 ∧ Blk w'.heap b6 [icv 0, icv 0, .bool false, .bool false] 141 ∧ ∃ e, a' = Fr 43 (upds e [(2, icv dr), (3, ptr b3), (6, ptr b6)]) []) ?_ ?_
  · skip
    refine c_seq (fun K2 hK2 => ?_)
    refine c_reg ?_ -- region 1 move.go:124
    refine wl (ro_fieldAddr (k := 2) rfl fo_141_2) ?_
    refine wl (ro_loadB rfl sc_4 (by assumption) rfl) ?_
    refine wl (ro_not rfl) ?_
    refine wl_nil (x_then (hK2 _ _ ?_))
    clear hK2 K2
    refine wc_cond rfl (fun hc10 => ?_) (fun hc10 => ?_)
    · try simp only [decide_eq_true_eq, decide_eq_false_iff_not, Bool.not_eq_true', Bool.not_eq_false', Bool.not_eq_eq_eq_not, Bool.not_true, Bool.not_false, beq_iff_eq, bne_iff_ne, ne_eq, beq_eq_false_iff_ne, bne_eq_false_iff_eq, gt_iff_lt, ge_iff_le, Int.not_lt, Int.not_le] at hc10
      refine c_reg ?_ -- region 2 move.go:125
      refine wl (ro_fieldAddr (k := 0) rfl fo_141_0) ?_
      refine wl (ro_loadB rfl sc_3 (by assumption) rfl) ?_
      refine wl (ro_move rfl) ?_
      refine wl (ro_arith (r := r.c + dc) rfl rfl rfl (Go.IntWalk.i64_in _ (by omega))) ?_
      refine wl (ro_fieldAddr (k := 0) rfl fo_141_0) ?_
      refine wl_put rfl rfl rfl sz_3 h3 ((by simp)) (rfl) (fun w3 h3 F3 => ?_)
      replace hF := hF.thenDrew.thenO F3 (by first | exact .inr (by omega) | exact .inl rfl | exact .inl (by assumption))
      replace h6 := F3.blkO h6 (by omega)
      refine wl_nil (x_then ?_)
      exact ⟨hF, by rw [cy_cc, if_neg (by simpa using hc10)]; exact h3, h6, kp _ ⟨rfl, rfl, rfl, trivial⟩⟩
    · try simp only [decide_eq_true_eq, decide_eq_false_iff_not, Bool.not_eq_true', Bool.not_eq_false', Bool.not_eq_eq_eq_not, Bool.not_true, Bool.not_false, beq_iff_eq, bne_iff_ne, ne_eq, beq_eq_false_iff_ne, bne_eq_false_iff_eq, gt_iff_lt, ge_iff_le, Int.not_lt, Int.not_le] at hc10
      refine c_skip (x_then ?_)
      exact ⟨hF, by rw [cy_cc, if_pos (by simpa using hc10)]; exact h3, h6, kp _ ⟨rfl, rfl, rfl, trivial⟩⟩
  clear hF h3 h6
  rintro a' u1 ⟨hF, h3, h6, e, rfl⟩
  refine c_mid (fun a' w' => Fram none' w w' ∧ Blk w'.heap b3 (refc (cyR dc dr r)) 141 ∧ Blk w'.heap b6 [icv 0, icv 0, .bool false, .bool false] 141 ∧ ∃ e, a' = Fr 43 (upds e [(3, ptr b3), (6, ptr b6)]) []) ?_ ?_
  · skip
    refine c_seq (fun K3 hK3 => ?_)
    refine c_reg ?_ -- region 3 move.go:127
    refine wl (ro_fieldAddr (k := 3) rfl fo_141_3) ?_
    refine wl (ro_loadB rfl sc_4 (by assumption) rfl) ?_
    refine wl (ro_not rfl) ?_
    refine wl_nil (x_then (hK3 _ _ ?_))
    clear hK3 K3
    refine wc_cond rfl (fun hc18 => ?_) (fun hc18 => ?_)
    · try simp only [decide_eq_true_eq, decide_eq_false_iff_not, Bool.not_eq_true', Bool.not_eq_false', Bool.not_eq_eq_eq_not, Bool.not_true, Bool.not_false, beq_iff_eq, bne_iff_ne, ne_eq, beq_eq_false_iff_ne, bne_eq_false_iff_eq, gt_iff_lt, ge_iff_le, Int.not_lt, Int.not_le] at hc18
      refine c_reg ?_ -- region 4 move.go:128
      refine wl (ro_fieldAddr (k := 1) rfl fo_141_1) ?_
      refine wl (ro_loadB rfl sc_3 (by assumption) rfl) ?_
      refine wl (ro_move rfl) ?_
      refine wl (ro_arith (r := r.r + dr) rfl rfl rfl (Go.IntWalk.i64_in _ (by omega))) ?_
      refine wl (ro_fieldAddr (k := 1) rfl fo_141_1) ?_
      refine wl_put rfl rfl rfl sz_3 h3 ((by simp)) (rfl) (fun w4 h3 F4 => ?_)
      replace hF := hF.thenDrew.thenO F4 (by first | exact .inr (by omega) | exact .inl rfl | exact .inl (by assumption))
      replace h6 := F4.blkO h6 (by omega)
      refine wl_nil (x_then ?_)
      exact ⟨hF, by show Blk _ b3 [icv (cyR dc dr r).c, icv (cyR dc dr r).r, .bool r.ac, .bool r.ar] 141; rw [cy_rr, if_neg (by simpa using hc18)]; exact h3, h6, kp _ ⟨rfl, rfl, trivial⟩⟩
    · try simp only [decide_eq_true_eq, decide_eq_false_iff_not, Bool.not_eq_true', Bool.not_eq_false', Bool.not_eq_eq_eq_not, Bool.not_true, Bool.not_false, beq_iff_eq, bne_iff_ne, ne_eq, beq_eq_false_iff_ne, bne_eq_false_iff_eq, gt_iff_lt, ge_iff_le, Int.not_lt, Int.not_le] at hc18
      refine c_skip (x_then ?_)
      exact ⟨hF, by show Blk _ b3 [icv (cyR dc dr r).c, icv (cyR dc dr r).r, .bool r.ac, .bool r.ar] 141; rw [cy_rr, if_pos (by simpa using hc18)]; exact h3, h6, kp _ ⟨rfl, rfl, trivial⟩⟩
  clear hF h3 h6
  rintro a' u2 ⟨hF, h3, h6, e, rfl⟩
  generalize cyR dc dr r = r' at h3 ⊢
  have h3l := h3.lt
  refine c_seq (fun K4 hK4 => ?_)
  rcases (by omega : (0 ≤ r'.c ∧ r'.c ≤ 25 ∧ 0 ≤ r'.r) ∨ r'.c < 0 ∨ (0 ≤ r'.c ∧ 25 < r'.c) ∨ (0 ≤ r'.c ∧ r'.c ≤ 25 ∧ r'.r < 0)) with hq | hq | hq | hq
  · skip
    refine c_pi [(0, false), (1, false), (2, false), (3, false), (4, false), (5, false), (6, false), (7, false), (8, false), (9, false), (10, false), (11, false), (12, false), (13, false), (14, false), (15, false), (16, false), (17, false), (18, false), (19, true), (20, false)] (fun w' => Blk w'.heap b3 (refc r') 141) mixed (by kernel_rfl) rfl (by kernel_rfl) (po_then (po_bp)) (h3) ?_ -- region 5 move.go:130
    refine pi_ro rfl (fun w hS => ro_loadAggB rfl ag_141 (hS) (rfl) (rfl)) ?_
    refine pi_ro rfl (fun w hS => ro_fieldAddr (k := 0) rfl fo_141_0) ?_
    refine pi_ro rfl (fun w hS => ro_loadB rfl sc_3 (hS) (rfl)) ?_
    refine pi_ro rfl (fun w hS => ro_cmp (r := true) rfl rfl (congrArg some (decide_eq_true (by omega)))) ?_
    refine pi_ro rfl (fun w hS => ro_move rfl) ?_
    refine pi_gyes rfl rfl (fun w hS => ro_fieldAddr (k := 0) rfl fo_141_0) ?_
    refine pi_gyes rfl rfl (fun w hS => ro_loadB rfl sc_3 (hS) (rfl)) ?_
    refine pi_gyes rfl rfl (fun w hS => ro_cmp (r := true) rfl rfl (congrArg some (decide_eq_true (by omega)))) ?_
    refine pi_ro rfl (fun w hS => ro_pick rfl rfl rfl) ?_
    refine pi_ro rfl (fun w hS => ro_move rfl) ?_
    refine pi_gyes rfl rfl (fun w hS => ro_fieldAddr (k := 1) rfl fo_141_1) ?_
    refine pi_gyes rfl rfl (fun w hS => ro_loadB rfl sc_3 (hS) (rfl)) ?_
    refine pi_gyes rfl rfl (fun w hS => ro_cmp (r := true) rfl rfl (congrArg some (decide_eq_true (by omega)))) ?_
    refine pi_ro rfl (fun w hS => ro_pick rfl rfl rfl) ?_
    refine pi_ro rfl (fun w hS => ro_move rfl) ?_
    refine pi_gyes rfl rfl (fun w hS => ro_fieldAddr (k := 1) rfl fo_141_1) ?_
    refine pi_gyes rfl rfl (fun w hS => ro_loadB rfl sc_3 (hS) (rfl)) ?_
    refine pi_gyes rfl rfl (fun w hS => ro_cmp (r := decide (r'.r ≤ 98)) rfl rfl rfl) ?_
    refine pi_ro rfl (fun w hS => ro_pick rfl rfl rfl) ?_
    refine pi_putam rfl rfl rfl ((refc_cells r')) sz_141 (rfl) h6 ((by simp)) (rfl) (fun w1 hB1 F ↦ (F.blkO h3 (by omega))) (fun w5 h6 F5 => ?_)
    replace hF := hF.thenDrew.thenO F5 (by first | exact .inr (by omega) | exact .inl rfl | exact .inl (by assumption))
    replace h3 := F5.blkO h3 (by omega)
    refine pi_ro rfl (fun w hS => ro_assign rfl) ?_
    refine pi_nil (x_then (hK4 _ _ ?_))
    clear hK4 K4
    refine c_ret ?_
    refine bq_ret (res2 Tryz.results139 (rv_c rfl ag_141 (h6) (rfl)) (rv_t rfl)) ?_
    refine ⟨congrArg (fun b => Value.tuple #[rfA r', .bool b]) ?_, hF⟩
    unfold okR
    rw [Bool.eq_iff_iff]
    simp
    try omega
  · skip
    refine c_pi [(0, false), (1, false), (2, false), (3, false), (4, false), (5, false), (6, false), (7, false), (8, false), (9, false), (10, false), (11, false), (12, false), (13, false), (14, false), (15, false), (16, false), (17, false), (18, false), (19, true), (20, false)] (fun w' => Blk w'.heap b3 (refc r') 141) mixed (by kernel_rfl) rfl (by kernel_rfl) (po_then (po_bp)) (h3) ?_ -- region 5 move.go:130
    refine pi_ro rfl (fun w hS => ro_loadAggB rfl ag_141 (hS) (rfl) (rfl)) ?_
    refine pi_ro rfl (fun w hS => ro_fieldAddr (k := 0) rfl fo_141_0) ?_
    refine pi_ro rfl (fun w hS => ro_loadB rfl sc_3 (hS) (rfl)) ?_
    refine pi_ro rfl (fun w hS => ro_cmp (r := false) rfl rfl (congrArg some (decide_eq_false (by omega)))) ?_
    refine pi_ro rfl (fun w hS => ro_move rfl) ?_
    refine pi_gno rfl rfl ?_
    refine pi_gno rfl rfl ?_
    refine pi_gno rfl rfl ?_
    refine pi_ro rfl (fun w hS => ro_pick rfl rfl rfl) ?_
    refine pi_ro rfl (fun w hS => ro_move rfl) ?_
    refine pi_gno rfl rfl ?_
    refine pi_gno rfl rfl ?_
    refine pi_gno rfl rfl ?_
    refine pi_ro rfl (fun w hS => ro_pick rfl rfl rfl) ?_
    refine pi_ro rfl (fun w hS => ro_move rfl) ?_
    refine pi_gno rfl rfl ?_
    refine pi_gno rfl rfl ?_
    refine pi_gno rfl rfl ?_
    refine pi_ro rfl (fun w hS => ro_pick rfl rfl rfl) ?_
    refine pi_putam rfl rfl rfl ((refc_cells r')) sz_141 (rfl) h6 ((by simp)) (rfl) (fun w1 hB1 F ↦ (F.blkO h3 (by omega))) (fun w6 h6 F6 => ?_)
    replace hF := hF.thenDrew.thenO F6 (by first | exact .inr (by omega) | exact .inl rfl | exact .inl (by assumption))
    replace h3 := F6.blkO h3 (by omega)
    refine pi_ro rfl (fun w hS => ro_assign rfl) ?_
    refine pi_nil (x_then (hK4 _ _ ?_))
    clear hK4 K4
    refine c_ret ?_
    refine bq_ret (res2 Tryz.results139 (rv_c rfl ag_141 (h6) (rfl)) (rv_t rfl)) ?_
    refine ⟨congrArg (fun b => Value.tuple #[rfA r', .bool b]) ?_, hF⟩
    unfold okR
    rw [Bool.eq_iff_iff]
    simp
    try omega
  · skip
    refine c_pi [(0, false), (1, false), (2, false), (3, false), (4, false), (5, false), (6, false), (7, false), (8, false), (9, false), (10, false), (11, false), (12, false), (13, false), (14, false), (15, false), (16, false), (17, false), (18, false), (19, true), (20, false)] (fun w' => Blk w'.heap b3 (refc r') 141) mixed (by kernel_rfl) rfl (by kernel_rfl) (po_then (po_bp)) (h3) ?_ -- region 5 move.go:130
    refine pi_ro rfl (fun w hS => ro_loadAggB rfl ag_141 (hS) (rfl) (rfl)) ?_
    refine pi_ro rfl (fun w hS => ro_fieldAddr (k := 0) rfl fo_141_0) ?_
    refine pi_ro rfl (fun w hS => ro_loadB rfl sc_3 (hS) (rfl)) ?_
    refine pi_ro rfl (fun w hS => ro_cmp (r := true) rfl rfl (congrArg some (decide_eq_true (by omega)))) ?_
    refine pi_ro rfl (fun w hS => ro_move rfl) ?_
    refine pi_gyes rfl rfl (fun w hS => ro_fieldAddr (k := 0) rfl fo_141_0) ?_
    refine pi_gyes rfl rfl (fun w hS => ro_loadB rfl sc_3 (hS) (rfl)) ?_
    refine pi_gyes rfl rfl (fun w hS => ro_cmp (r := false) rfl rfl (congrArg some (decide_eq_false (by omega)))) ?_
    refine pi_ro rfl (fun w hS => ro_pick rfl rfl rfl) ?_
    refine pi_ro rfl (fun w hS => ro_move rfl) ?_
    refine pi_gno rfl rfl ?_
    refine pi_gno rfl rfl ?_
    refine pi_gno rfl rfl ?_
    refine pi_ro rfl (fun w hS => ro_pick rfl rfl rfl) ?_
    refine pi_ro rfl (fun w hS => ro_move rfl) ?_
    refine pi_gno rfl rfl ?_
    refine pi_gno rfl rfl ?_
    refine pi_gno rfl rfl ?_
    refine pi_ro rfl (fun w hS => ro_pick rfl rfl rfl) ?_
    refine pi_putam rfl rfl rfl ((refc_cells r')) sz_141 (rfl) h6 ((by simp)) (rfl) (fun w1 hB1 F ↦ (F.blkO h3 (by omega))) (fun w7 h6 F7 => ?_)
    replace hF := hF.thenDrew.thenO F7 (by first | exact .inr (by omega) | exact .inl rfl | exact .inl (by assumption))
    replace h3 := F7.blkO h3 (by omega)
    refine pi_ro rfl (fun w hS => ro_assign rfl) ?_
    refine pi_nil (x_then (hK4 _ _ ?_))
    clear hK4 K4
    refine c_ret ?_
    refine bq_ret (res2 Tryz.results139 (rv_c rfl ag_141 (h6) (rfl)) (rv_t rfl)) ?_
    refine ⟨congrArg (fun b => Value.tuple #[rfA r', .bool b]) ?_, hF⟩
    unfold okR
    rw [Bool.eq_iff_iff]
    simp
    try omega
  · skip
    refine c_pi [(0, false), (1, false), (2, false), (3, false), (4, false), (5, false), (6, false), (7, false), (8, false), (9, false), (10, false), (11, false), (12, false), (13, false), (14, false), (15, false), (16, false), (17, false), (18, false), (19, true), (20, false)] (fun w' => Blk w'.heap b3 (refc r') 141) mixed (by kernel_rfl) rfl (by kernel_rfl) (po_then (po_bp)) (h3) ?_ -- region 5 move.go:130
    refine pi_ro rfl (fun w hS => ro_loadAggB rfl ag_141 (hS) (rfl) (rfl)) ?_
    refine pi_ro rfl (fun w hS => ro_fieldAddr (k := 0) rfl fo_141_0) ?_
    refine pi_ro rfl (fun w hS => ro_loadB rfl sc_3 (hS) (rfl)) ?_
    refine pi_ro rfl (fun w hS => ro_cmp (r := true) rfl rfl (congrArg some (decide_eq_true (by omega)))) ?_
    refine pi_ro rfl (fun w hS => ro_move rfl) ?_
    refine pi_gyes rfl rfl (fun w hS => ro_fieldAddr (k := 0) rfl fo_141_0) ?_
    refine pi_gyes rfl rfl (fun w hS => ro_loadB rfl sc_3 (hS) (rfl)) ?_
    refine pi_gyes rfl rfl (fun w hS => ro_cmp (r := true) rfl rfl (congrArg some (decide_eq_true (by omega)))) ?_
    refine pi_ro rfl (fun w hS => ro_pick rfl rfl rfl) ?_
    refine pi_ro rfl (fun w hS => ro_move rfl) ?_
    refine pi_gyes rfl rfl (fun w hS => ro_fieldAddr (k := 1) rfl fo_141_1) ?_
    refine pi_gyes rfl rfl (fun w hS => ro_loadB rfl sc_3 (hS) (rfl)) ?_
    refine pi_gyes rfl rfl (fun w hS => ro_cmp (r := false) rfl rfl (congrArg some (decide_eq_false (by omega)))) ?_
    refine pi_ro rfl (fun w hS => ro_pick rfl rfl rfl) ?_
    refine pi_ro rfl (fun w hS => ro_move rfl) ?_
    refine pi_gno rfl rfl ?_
    refine pi_gno rfl rfl ?_
    refine pi_gno rfl rfl ?_
    refine pi_ro rfl (fun w hS => ro_pick rfl rfl rfl) ?_
    refine pi_putam rfl rfl rfl ((refc_cells r')) sz_141 (rfl) h6 ((by simp)) (rfl) (fun w1 hB1 F ↦ (F.blkO h3 (by omega))) (fun w8 h6 F8 => ?_)
    replace hF := hF.thenDrew.thenO F8 (by first | exact .inr (by omega) | exact .inl rfl | exact .inl (by assumption))
    replace h3 := F8.blkO h3 (by omega)
    refine pi_ro rfl (fun w hS => ro_assign rfl) ?_
    refine pi_nil (x_then (hK4 _ _ ?_))
    clear hK4 K4
    refine c_ret ?_
    refine bq_ret (res2 Tryz.results139 (rv_c rfl ag_141 (h6) (rfl)) (rv_t rfl)) ?_
    refine ⟨congrArg (fun b => Value.tuple #[rfA r', .bool b]) ?_, hF⟩
    unfold okR
    rw [Bool.eq_iff_iff]
    simp
    try omega

theorem CopyNodesL {w : World} {nb : Nat} {n : List Nd} (hN : Blk w.heap nb (rws ndc n) 143) (h1 : 1 ≤ n.length) (h2 : n.length ≤ 24) : Ret Tryz.prog 103 [sl nb n.length] w (fun v w' => ∃ qb, v = sl qb n.length ∧ w.heap.size ≤ qb ∧ Blk w'.heap qb (rws ndc n) 143 ∧ Fram none' w w') := by
  have hl : (rws ndc n).length = n.length * 13 := rws_len ndc_len n
  rw [cel_of (rws ndc n)] at hN
  refine CopyNodes103 (N := (rws ndc n).length) hN (fun k x hk j v hj => ?_) h1 (by omega) (by omega)
  have := rw_get ndc_len hk (j := j) (o := k * 13 + j) rfl hj
  show (rws ndc n).getD (k * 13 + j) undef = v
  rw [List.getD_eq_getElem?_getD, this]
  rfl
set_option maxHeartbeats 8000000 in
theorem CopyNode108 {w : World} {x : Nd} {dc dr : Int} (hp : RfOK x.p) (hq : RfOK x.q) (hd : -10 ≤ dc ∧ dc ≤ 10 ∧ -10 ≤ dr ∧ dr ≤ 10) : Ret Tryz.prog 108 [.agg (ndc x).toArray, icv dc, icv dr] w (fun v w' => v = .agg (ndc (cyN dc dr x)).toArray ∧ Fram none' w w') := by
  have hF : Fram none' w w := Fram.refl _ _
  have hcy : cyN dc dr x = if x.k = 3 then (if okR (cyR dc dr x.p) = true then setP x (cyR dc dr x.p) else nBad) else if x.k = 4 then (if okR (cyR dc dr x.p) = true ∧ okR (cyR dc dr x.q) = true then setQ (setP x (cyR dc dr x.p)) (cyR dc dr x.q) else nBad) else x := rfl
  rw [hcy]
  refine ret_of Tryz.func108 rfl Tryz.ntmps108 rfl ?_
  refine c_seq (fun K1 hK1 => ?_)
  refine c_reg ?_ -- region 0 move.go:134
  refine wl_box (cs := (ndc x)) rfl rfl (fun b3 w1 hbb3 h3 F1 => ?_)
  have hbsb3 := Nat.le_trans hF.size hbb3
  replace hF := hF.thenDrew.thenN F1
  refine wl_new (ze_143) (fun b6 w2 hbb6 h6 F2 => ?_)
  have hbsb6 := Nat.le_trans hF.size hbb6
  have hneb3b6 : b3 < b6 := Nat.lt_of_lt_of_le h3.lt hbb6
  replace hF := hF.thenDrew.thenN F2
  replace h3 := F2.blkN h3
  refine wl_nil (x_then (hK1 _ _ ?_))
  clear hK1 K1
  refine c_seq (fun K2 hK2 => ?_)
  refine c_seq (fun K3 hK3 => ?_)
  refine c_reg ?_ -- region 1 move.go:135
  refine wl (ro_fieldAddr (k := 0) rfl fo_143_0) ?_
  refine wl (ro_loadB rfl sc_3 (h3) (rfl)) ?_
  refine wl (ro_cmp (r := decide (x.k ≠ 3)) rfl rfl (congrArg some (bne_dec _ _))) ?_
  refine wl_fork rfl (fun hg12 => ?_) (fun hg12 => ?_)
  · try simp only [decide_eq_true_eq, decide_eq_false_iff_not, Bool.not_eq_true', Bool.not_eq_false', Bool.not_eq_eq_eq_not, Bool.not_true, Bool.not_false, beq_iff_eq, bne_iff_ne, ne_eq, beq_eq_false_iff_ne, bne_eq_false_iff_eq, gt_iff_lt, ge_iff_le, Int.not_lt, Int.not_le] at hg12
    refine wlg_yes rfl (ro_fieldAddr (k := 0) rfl fo_143_0) ?_
    refine wlg_yes rfl (ro_loadB rfl sc_3 (h3) (rfl)) ?_
    refine wlg_yes rfl (ro_cmp (r := decide (x.k ≠ 4)) rfl rfl (congrArg some (bne_dec _ _))) ?_
    refine wl (ro_pick rfl rfl rfl) ?_
    refine wl_nil (x_then (hK3 _ _ ?_))
    clear hK3 K3
    refine wc_cond rfl (fun hc16 => ?_) (fun hc16 => ?_)
    · try simp only [decide_eq_true_eq, decide_eq_false_iff_not, Bool.not_eq_true', Bool.not_eq_false', Bool.not_eq_eq_eq_not, Bool.not_true, Bool.not_false, beq_iff_eq, bne_iff_ne, ne_eq, beq_eq_false_iff_ne, bne_eq_false_iff_eq, gt_iff_lt, ge_iff_le, Int.not_lt, Int.not_le] at hc16
      refine c_seq (fun K4 hK4 => ?_)
      refine c_reg ?_ -- region 2 move.go:136
      refine wl (ro_loadAggB rfl ag_143 (h3) (rfl) (rfl)) ?_
      refine wl_puta rfl rfl ((ndc_cells x)) sz_143 (rfl) h6 ((by simp)) ((show _ = ndc x from rfl)) (fun w3 h6 F3 => ?_)
      replace hF := hF.thenDrew.thenO F3 (by first | exact .inr (by omega) | exact .inl rfl | exact .inl (by assumption))
      replace h3 := F3.blkO h3 (by omega)
      refine wl_nil (x_then (hK4 _ _ ?_))
      clear hK4 K4
      refine c_ret (x_thenR ?_)
      refine bq_ret (res1 Tryz.results108 (rv_c rfl ag_143 (h6) (rfl))) ?_
      refine ⟨congrArg (fun y => Value.agg (ndc y).toArray) ?_, hF⟩
      simp_all
    · try simp only [decide_eq_true_eq, decide_eq_false_iff_not, Bool.not_eq_true', Bool.not_eq_false', Bool.not_eq_eq_eq_not, Bool.not_true, Bool.not_false, beq_iff_eq, bne_iff_ne, ne_eq, beq_eq_false_iff_ne, bne_eq_false_iff_eq, gt_iff_lt, ge_iff_le, Int.not_lt, Int.not_le] at hc16
      refine c_skip (x_then (hK2 _ _ ?_))
      clear hK2 K2
      refine forget [(1, _), (2, _), (3, _), (6, _)] ⟨rfl, rfl, rfl, rfl, trivial⟩ (fun e => ?_)
      refine c_seq (fun K5 hK5 => ?_)
      refine c_reg ?_ -- region 3 move.go:138
      refine wl (ro_assign rfl) ?_
      refine wl (ro_assign rfl) ?_
      refine wl_nil (x_then (hK5 _ _ ?_))
      clear hK5 K5
      refine forget [(1, _), (2, _), (3, _), (6, _), (8, _)] ⟨rfl, rfl, rfl, rfl, rfl, trivial⟩ (fun e => ?_)
      refine c_seq (fun K6 hK6 => ?_)
      refine c_reg ?_ -- region 4 move.go:139
      refine wl (ro_fieldAddr (k := 5) rfl fo_143_5) ?_
      refine wl (ro_loadAggB rfl ag_141 (h3) (rfl) (rfl)) ?_
      refine wl (ro_move rfl) ?_
      refine wl (ro_move rfl) ?_
      refine wl_call rfl en_139 (slide139 hp hd) ?_
      rintro _ u1 ⟨rfl, G1⟩
      replace hF := hF.transG G1 (by intro k hk h; simp only [none'] at h ⊢ <;> omega)
      replace h3 := G1.blkF h3 (by intro h; simp only [none'] at h <;> omega)
      replace h6 := G1.blkF h6 (by intro h; simp only [none'] at h <;> omega)
      refine wl (ro_move rfl) ?_
      refine wl (ro_extract rfl rfl) ?_
      refine wl (ro_extract rfl rfl) ?_
      refine wl (ro_fieldAddr (k := 5) rfl fo_143_5) ?_
      refine wl_puta rfl rfl ((refc_cells _)) sz_141 (rfl) h3 ((by simp)) ((show _ = ndc (setP x (cyR dc dr x.p)) from rfl)) (fun w4 h3 F4 => ?_)
      replace hF := hF.thenDrew.thenO F4 (by first | exact .inr (by omega) | exact .inl rfl | exact .inl (by assumption))
      replace h6 := F4.blkO h6 (by omega)
      refine wl (ro_assign rfl) ?_
      refine wl_nil (x_then (hK6 _ _ ?_))
      clear hK6 K6
      refine c_seq (fun K7 hK7 => ?_)
      refine c_seq (fun K8 hK8 => ?_)
      refine c_reg ?_ -- region 5 move.go:140
      refine wl (ro_fieldAddr (k := 0) rfl fo_143_0) ?_
      refine wl (ro_loadB rfl sc_3 (h3) (rfl)) ?_
      refine wl (ro_cmp (r := decide (x.k = 4)) rfl rfl rfl) ?_
      refine wl_nil (x_then (hK8 _ _ ?_))
      clear hK8 K8
      refine wc_cond rfl (fun hc29 => ?_) (fun hc29 => ?_)
      · try simp only [decide_eq_true_eq, decide_eq_false_iff_not, Bool.not_eq_true', Bool.not_eq_false', Bool.not_eq_eq_eq_not, Bool.not_true, Bool.not_false, beq_iff_eq, bne_iff_ne, ne_eq, beq_eq_false_iff_ne, bne_eq_false_iff_eq, gt_iff_lt, ge_iff_le, Int.not_lt, Int.not_le] at hc29
        refine c_reg ?_ -- region 6 move.go:141
        refine wl (ro_fieldAddr (k := 9) rfl fo_143_6) ?_
        refine wl (ro_loadAggB rfl ag_141 (h3) (rfl) (rfl)) ?_
        refine wl (ro_move rfl) ?_
        refine wl (ro_move rfl) ?_
        refine wl_call rfl en_139 (slide139 hq hd) ?_
        rintro _ u2 ⟨rfl, G2⟩
        replace hF := hF.transG G2 (by intro k hk h; simp only [none'] at h ⊢ <;> omega)
        replace h3 := G2.blkF h3 (by intro h; simp only [none'] at h <;> omega)
        replace h6 := G2.blkF h6 (by intro h; simp only [none'] at h <;> omega)
        refine wl (ro_move rfl) ?_
        refine wl (ro_extract rfl rfl) ?_
        refine wl (ro_extract rfl rfl) ?_
        refine wl (ro_fieldAddr (k := 9) rfl fo_143_6) ?_
        refine wl_puta rfl rfl ((refc_cells _)) sz_141 (rfl) h3 ((by simp)) ((show _ = ndc (setQ (setP x (cyR dc dr x.p)) (cyR dc dr x.q)) from rfl)) (fun w5 h3 F5 => ?_)
        replace hF := hF.thenDrew.thenO F5 (by first | exact .inr (by omega) | exact .inl rfl | exact .inl (by assumption))
        replace h6 := F5.blkO h6 (by omega)
        refine wl (ro_assign rfl) ?_
        refine wl_nil (x_then (hK7 _ _ ?_))
        clear hK7 K7
        refine c_seq (fun K9 hK9 => ?_)
        refine c_seq (fun K10 hK10 => ?_)
        refine c_reg ?_ -- region 7 move.go:143
        refine wl (ro_move rfl) ?_
        refine wl (ro_not rfl) ?_
        refine wl_fork rfl (fun hg41 => ?_) (fun hg41 => ?_)
        · try simp only [decide_eq_true_eq, decide_eq_false_iff_not, Bool.not_eq_true', Bool.not_eq_false', Bool.not_eq_eq_eq_not, Bool.not_true, Bool.not_false, beq_iff_eq, bne_iff_ne, ne_eq, beq_eq_false_iff_ne, bne_eq_false_iff_eq, gt_iff_lt, ge_iff_le, Int.not_lt, Int.not_le] at hg41
          refine wlg_no rfl ?_
          refine wlg_no rfl ?_
          refine wl (ro_pick rfl rfl rfl) ?_
          refine wl_nil (x_then (hK10 _ _ ?_))
          clear hK10 K10
          refine wc_condT rfl ?_
          refine c_seq (fun K11 hK11 => ?_)
          refine c_reg ?_ -- region 8 move.go:144
          refine wl_call rfl en_135 (bad135) ?_
          rintro _ u3 ⟨rfl, G3⟩
          replace hF := hF.transG G3 (by intro k hk h; simp only [none'] at h ⊢ <;> omega)
          replace h3 := G3.blkF h3 (by intro h; simp only [none'] at h <;> omega)
          replace h6 := G3.blkF h6 (by intro h; simp only [none'] at h <;> omega)
          refine wl_puta rfl rfl ((ndc_cells _)) sz_143 (rfl) h6 ((by simp)) ((show _ = ndc nBad from rfl)) (fun w6 h6 F6 => ?_)
          replace hF := hF.thenDrew.thenO F6 (by first | exact .inr (by omega) | exact .inl rfl | exact .inl (by assumption))
          replace h3 := F6.blkO h3 (by omega)
          refine wl_nil (x_then (hK11 _ _ ?_))
          clear hK11 K11
          refine c_ret (x_thenR ?_)
          refine bq_ret (res1 Tryz.results108 (rv_c rfl ag_143 (h6) (rfl))) ?_
          refine ⟨congrArg (fun y => Value.agg (ndc y).toArray) ?_, hF⟩
          simp_all
        · try simp only [decide_eq_true_eq, decide_eq_false_iff_not, Bool.not_eq_true', Bool.not_eq_false', Bool.not_eq_eq_eq_not, Bool.not_true, Bool.not_false, beq_iff_eq, bne_iff_ne, ne_eq, beq_eq_false_iff_ne, bne_eq_false_iff_eq, gt_iff_lt, ge_iff_le, Int.not_lt, Int.not_le] at hg41
          refine wlg_yes rfl (ro_move rfl) ?_
          refine wlg_yes rfl (ro_not rfl) ?_
          refine wl (ro_pick rfl rfl rfl) ?_
          refine wl_nil (x_then (hK10 _ _ ?_))
          clear hK10 K10
          refine wc_cond rfl (fun hc44 => ?_) (fun hc44 => ?_)
          · try simp only [decide_eq_true_eq, decide_eq_false_iff_not, Bool.not_eq_true', Bool.not_eq_false', Bool.not_eq_eq_eq_not, Bool.not_true, Bool.not_false, beq_iff_eq, bne_iff_ne, ne_eq, beq_eq_false_iff_ne, bne_eq_false_iff_eq, gt_iff_lt, ge_iff_le, Int.not_lt, Int.not_le] at hc44
            refine c_seq (fun K12 hK12 => ?_)
            refine c_reg ?_ -- region 8 move.go:144
            refine wl_call rfl en_135 (bad135) ?_
            rintro _ u3 ⟨rfl, G3⟩
            replace hF := hF.transG G3 (by intro k hk h; simp only [none'] at h ⊢ <;> omega)
            replace h3 := G3.blkF h3 (by intro h; simp only [none'] at h <;> omega)
            replace h6 := G3.blkF h6 (by intro h; simp only [none'] at h <;> omega)
            refine wl_puta rfl rfl ((ndc_cells _)) sz_143 (rfl) h6 ((by simp)) ((show _ = ndc nBad from rfl)) (fun w7 h6 F7 => ?_)
            replace hF := hF.thenDrew.thenO F7 (by first | exact .inr (by omega) | exact .inl rfl | exact .inl (by assumption))
            replace h3 := F7.blkO h3 (by omega)
            refine wl_nil (x_then (hK12 _ _ ?_))
            clear hK12 K12
            refine c_ret (x_thenR ?_)
            refine bq_ret (res1 Tryz.results108 (rv_c rfl ag_143 (h6) (rfl))) ?_
            refine ⟨congrArg (fun y => Value.agg (ndc y).toArray) ?_, hF⟩
            simp_all
          · try simp only [decide_eq_true_eq, decide_eq_false_iff_not, Bool.not_eq_true', Bool.not_eq_false', Bool.not_eq_eq_eq_not, Bool.not_true, Bool.not_false, beq_iff_eq, bne_iff_ne, ne_eq, beq_eq_false_iff_ne, bne_eq_false_iff_eq, gt_iff_lt, ge_iff_le, Int.not_lt, Int.not_le] at hc44
            refine c_skip (x_then (hK9 _ _ ?_))
            clear hK9 K9
            refine forget [(3, _), (6, _)] ⟨rfl, rfl, trivial⟩ (fun e => ?_)
            refine c_seq (fun K13 hK13 => ?_)
            refine c_reg ?_ -- region 9 move.go:146
            refine wl (ro_loadAggB rfl ag_143 (h3) (rfl) (rfl)) ?_
            refine wl_puta rfl rfl ((ndc_cells _)) sz_143 (rfl) h6 ((by simp)) (rfl) (fun w8 h6 F8 => ?_)
            replace hF := hF.thenDrew.thenO F8 (by first | exact .inr (by omega) | exact .inl rfl | exact .inl (by assumption))
            replace h3 := F8.blkO h3 (by omega)
            refine wl_nil (x_then (hK13 _ _ ?_))
            clear hK13 K13
            refine c_ret ?_
            refine bq_ret (res1 Tryz.results108 (rv_c rfl ag_143 (h6) (rfl))) ?_
            refine ⟨congrArg (fun y => Value.agg (ndc y).toArray) ?_, hF⟩
            simp_all
      · try simp only [decide_eq_true_eq, decide_eq_false_iff_not, Bool.not_eq_true', Bool.not_eq_false', Bool.not_eq_eq_eq_not, Bool.not_true, Bool.not_false, beq_iff_eq, bne_iff_ne, ne_eq, beq_eq_false_iff_ne, bne_eq_false_iff_eq, gt_iff_lt, ge_iff_le, Int.not_lt, Int.not_le] at hc29
        refine c_skip (x_then (hK7 _ _ ?_))
        clear hK7 K7
        refine c_seq (fun K14 hK14 => ?_)
        refine c_seq (fun K15 hK15 => ?_)
        refine c_reg ?_ -- region 7 move.go:143
        refine wl (ro_move rfl) ?_
        refine wl (ro_not rfl) ?_
        refine wl_fork rfl (fun hg41 => ?_) (fun hg41 => ?_)
        · try simp only [decide_eq_true_eq, decide_eq_false_iff_not, Bool.not_eq_true', Bool.not_eq_false', Bool.not_eq_eq_eq_not, Bool.not_true, Bool.not_false, beq_iff_eq, bne_iff_ne, ne_eq, beq_eq_false_iff_ne, bne_eq_false_iff_eq, gt_iff_lt, ge_iff_le, Int.not_lt, Int.not_le] at hg41
          refine wlg_no rfl ?_
          refine wlg_no rfl ?_
          refine wl (ro_pick rfl rfl rfl) ?_
          refine wl_nil (x_then (hK15 _ _ ?_))
          clear hK15 K15
          refine wc_condT rfl ?_
          refine c_seq (fun K16 hK16 => ?_)
          refine c_reg ?_ -- region 8 move.go:144
          refine wl_call rfl en_135 (bad135) ?_
          rintro _ u3 ⟨rfl, G3⟩
          replace hF := hF.transG G3 (by intro k hk h; simp only [none'] at h ⊢ <;> omega)
          replace h3 := G3.blkF h3 (by intro h; simp only [none'] at h <;> omega)
          replace h6 := G3.blkF h6 (by intro h; simp only [none'] at h <;> omega)
          refine wl_puta rfl rfl ((ndc_cells _)) sz_143 (rfl) h6 ((by simp)) ((show _ = ndc nBad from rfl)) (fun w9 h6 F9 => ?_)
          replace hF := hF.thenDrew.thenO F9 (by first | exact .inr (by omega) | exact .inl rfl | exact .inl (by assumption))
          replace h3 := F9.blkO h3 (by omega)
          refine wl_nil (x_then (hK16 _ _ ?_))
          clear hK16 K16
          refine c_ret (x_thenR ?_)
          refine bq_ret (res1 Tryz.results108 (rv_c rfl ag_143 (h6) (rfl))) ?_
          refine ⟨congrArg (fun y => Value.agg (ndc y).toArray) ?_, hF⟩
          simp_all
        · try simp only [decide_eq_true_eq, decide_eq_false_iff_not, Bool.not_eq_true', Bool.not_eq_false', Bool.not_eq_eq_eq_not, Bool.not_true, Bool.not_false, beq_iff_eq, bne_iff_ne, ne_eq, beq_eq_false_iff_ne, bne_eq_false_iff_eq, gt_iff_lt, ge_iff_le, Int.not_lt, Int.not_le] at hg41
          refine wlg_yes rfl (ro_move rfl) ?_
          refine wlg_yes rfl (ro_not rfl) ?_
          refine wl (ro_pick rfl rfl rfl) ?_
          refine wl_nil (x_then (hK15 _ _ ?_))
          clear hK15 K15
          refine wc_condF rfl ?_
          refine c_skip (x_then (hK14 _ _ ?_))
          clear hK14 K14
          refine forget [(3, _), (6, _)] ⟨rfl, rfl, trivial⟩ (fun e => ?_)
          refine c_seq (fun K17 hK17 => ?_)
          refine c_reg ?_ -- region 9 move.go:146
          refine wl (ro_loadAggB rfl ag_143 (h3) (rfl) (rfl)) ?_
          refine wl_puta rfl rfl ((ndc_cells _)) sz_143 (rfl) h6 ((by simp)) (rfl) (fun w10 h6 F10 => ?_)
          replace hF := hF.thenDrew.thenO F10 (by first | exact .inr (by omega) | exact .inl rfl | exact .inl (by assumption))
          replace h3 := F10.blkO h3 (by omega)
          refine wl_nil (x_then (hK17 _ _ ?_))
          clear hK17 K17
          refine c_ret ?_
          refine bq_ret (res1 Tryz.results108 (rv_c rfl ag_143 (h6) (rfl))) ?_
          refine ⟨congrArg (fun y => Value.agg (ndc y).toArray) ?_, hF⟩
          simp_all
  · try simp only [decide_eq_true_eq, decide_eq_false_iff_not, Bool.not_eq_true', Bool.not_eq_false', Bool.not_eq_eq_eq_not, Bool.not_true, Bool.not_false, beq_iff_eq, bne_iff_ne, ne_eq, beq_eq_false_iff_ne, bne_eq_false_iff_eq, gt_iff_lt, ge_iff_le, Int.not_lt, Int.not_le] at hg12
    refine wlg_no rfl ?_
    refine wlg_no rfl ?_
    refine wlg_no rfl ?_
    refine wl (ro_pick rfl rfl rfl) ?_
    refine wl_nil (x_then (hK3 _ _ ?_))
    clear hK3 K3
    refine wc_condF rfl ?_
    refine c_skip (x_then (hK2 _ _ ?_))
    clear hK2 K2
    refine forget [(1, _), (2, _), (3, _), (6, _)] ⟨rfl, rfl, rfl, rfl, trivial⟩ (fun e => ?_)
    refine c_seq (fun K18 hK18 => ?_)
    refine c_reg ?_ -- region 3 move.go:138
    refine wl (ro_assign rfl) ?_
    refine wl (ro_assign rfl) ?_
    refine wl_nil (x_then (hK18 _ _ ?_))
    clear hK18 K18
    refine forget [(1, _), (2, _), (3, _), (6, _), (8, _)] ⟨rfl, rfl, rfl, rfl, rfl, trivial⟩ (fun e => ?_)
    refine c_seq (fun K19 hK19 => ?_)
    refine c_reg ?_ -- region 4 move.go:139
    refine wl (ro_fieldAddr (k := 5) rfl fo_143_5) ?_
    refine wl (ro_loadAggB rfl ag_141 (h3) (rfl) (rfl)) ?_
    refine wl (ro_move rfl) ?_
    refine wl (ro_move rfl) ?_
    refine wl_call rfl en_139 (slide139 hp hd) ?_
    rintro _ u1 ⟨rfl, G1⟩
    replace hF := hF.transG G1 (by intro k hk h; simp only [none'] at h ⊢ <;> omega)
    replace h3 := G1.blkF h3 (by intro h; simp only [none'] at h <;> omega)
    replace h6 := G1.blkF h6 (by intro h; simp only [none'] at h <;> omega)
    refine wl (ro_move rfl) ?_
    refine wl (ro_extract rfl rfl) ?_
    refine wl (ro_extract rfl rfl) ?_
    refine wl (ro_fieldAddr (k := 5) rfl fo_143_5) ?_
    refine wl_puta rfl rfl ((refc_cells _)) sz_141 (rfl) h3 ((by simp)) ((show _ = ndc (setP x (cyR dc dr x.p)) from rfl)) (fun w11 h3 F11 => ?_)
    replace hF := hF.thenDrew.thenO F11 (by first | exact .inr (by omega) | exact .inl rfl | exact .inl (by assumption))
    replace h6 := F11.blkO h6 (by omega)
    refine wl (ro_assign rfl) ?_
    refine wl_nil (x_then (hK19 _ _ ?_))
    clear hK19 K19
    refine c_seq (fun K20 hK20 => ?_)
    refine c_seq (fun K21 hK21 => ?_)
    refine c_reg ?_ -- region 5 move.go:140
    refine wl (ro_fieldAddr (k := 0) rfl fo_143_0) ?_
    refine wl (ro_loadB rfl sc_3 (h3) (rfl)) ?_
    refine wl (ro_cmp (r := decide (x.k = 4)) rfl rfl rfl) ?_
    refine wl_nil (x_then (hK21 _ _ ?_))
    clear hK21 K21
    refine wc_cond rfl (fun hc29 => ?_) (fun hc29 => ?_)
    · try simp only [decide_eq_true_eq, decide_eq_false_iff_not, Bool.not_eq_true', Bool.not_eq_false', Bool.not_eq_eq_eq_not, Bool.not_true, Bool.not_false, beq_iff_eq, bne_iff_ne, ne_eq, beq_eq_false_iff_ne, bne_eq_false_iff_eq, gt_iff_lt, ge_iff_le, Int.not_lt, Int.not_le] at hc29
      refine c_reg ?_ -- region 6 move.go:141
      refine wl (ro_fieldAddr (k := 9) rfl fo_143_6) ?_
      refine wl (ro_loadAggB rfl ag_141 (h3) (rfl) (rfl)) ?_
      refine wl (ro_move rfl) ?_
      refine wl (ro_move rfl) ?_
      refine wl_call rfl en_139 (slide139 hq hd) ?_
      rintro _ u2 ⟨rfl, G2⟩
      replace hF := hF.transG G2 (by intro k hk h; simp only [none'] at h ⊢ <;> omega)
      replace h3 := G2.blkF h3 (by intro h; simp only [none'] at h <;> omega)
      replace h6 := G2.blkF h6 (by intro h; simp only [none'] at h <;> omega)
      refine wl (ro_move rfl) ?_
      refine wl (ro_extract rfl rfl) ?_
      refine wl (ro_extract rfl rfl) ?_
      refine wl (ro_fieldAddr (k := 9) rfl fo_143_6) ?_
      refine wl_puta rfl rfl ((refc_cells _)) sz_141 (rfl) h3 ((by simp)) ((show _ = ndc (setQ (setP x (cyR dc dr x.p)) (cyR dc dr x.q)) from rfl)) (fun w12 h3 F12 => ?_)
      replace hF := hF.thenDrew.thenO F12 (by first | exact .inr (by omega) | exact .inl rfl | exact .inl (by assumption))
      replace h6 := F12.blkO h6 (by omega)
      refine wl (ro_assign rfl) ?_
      refine wl_nil (x_then (hK20 _ _ ?_))
      clear hK20 K20
      refine c_seq (fun K22 hK22 => ?_)
      refine c_seq (fun K23 hK23 => ?_)
      refine c_reg ?_ -- region 7 move.go:143
      refine wl (ro_move rfl) ?_
      refine wl (ro_not rfl) ?_
      refine wl_fork rfl (fun hg41 => ?_) (fun hg41 => ?_)
      · try simp only [decide_eq_true_eq, decide_eq_false_iff_not, Bool.not_eq_true', Bool.not_eq_false', Bool.not_eq_eq_eq_not, Bool.not_true, Bool.not_false, beq_iff_eq, bne_iff_ne, ne_eq, beq_eq_false_iff_ne, bne_eq_false_iff_eq, gt_iff_lt, ge_iff_le, Int.not_lt, Int.not_le] at hg41
        refine wlg_no rfl ?_
        refine wlg_no rfl ?_
        refine wl (ro_pick rfl rfl rfl) ?_
        refine wl_nil (x_then (hK23 _ _ ?_))
        clear hK23 K23
        refine wc_condT rfl ?_
        refine c_seq (fun K24 hK24 => ?_)
        refine c_reg ?_ -- region 8 move.go:144
        refine wl_call rfl en_135 (bad135) ?_
        rintro _ u3 ⟨rfl, G3⟩
        replace hF := hF.transG G3 (by intro k hk h; simp only [none'] at h ⊢ <;> omega)
        replace h3 := G3.blkF h3 (by intro h; simp only [none'] at h <;> omega)
        replace h6 := G3.blkF h6 (by intro h; simp only [none'] at h <;> omega)
        refine wl_puta rfl rfl ((ndc_cells _)) sz_143 (rfl) h6 ((by simp)) ((show _ = ndc nBad from rfl)) (fun w13 h6 F13 => ?_)
        replace hF := hF.thenDrew.thenO F13 (by first | exact .inr (by omega) | exact .inl rfl | exact .inl (by assumption))
        replace h3 := F13.blkO h3 (by omega)
        refine wl_nil (x_then (hK24 _ _ ?_))
        clear hK24 K24
        refine c_ret (x_thenR ?_)
        refine bq_ret (res1 Tryz.results108 (rv_c rfl ag_143 (h6) (rfl))) ?_
        refine ⟨congrArg (fun y => Value.agg (ndc y).toArray) ?_, hF⟩
        simp_all
      · try simp only [decide_eq_true_eq, decide_eq_false_iff_not, Bool.not_eq_true', Bool.not_eq_false', Bool.not_eq_eq_eq_not, Bool.not_true, Bool.not_false, beq_iff_eq, bne_iff_ne, ne_eq, beq_eq_false_iff_ne, bne_eq_false_iff_eq, gt_iff_lt, ge_iff_le, Int.not_lt, Int.not_le] at hg41
        refine wlg_yes rfl (ro_move rfl) ?_
        refine wlg_yes rfl (ro_not rfl) ?_
        refine wl (ro_pick rfl rfl rfl) ?_
        refine wl_nil (x_then (hK23 _ _ ?_))
        clear hK23 K23
        refine wc_cond rfl (fun hc44 => ?_) (fun hc44 => ?_)
        · try simp only [decide_eq_true_eq, decide_eq_false_iff_not, Bool.not_eq_true', Bool.not_eq_false', Bool.not_eq_eq_eq_not, Bool.not_true, Bool.not_false, beq_iff_eq, bne_iff_ne, ne_eq, beq_eq_false_iff_ne, bne_eq_false_iff_eq, gt_iff_lt, ge_iff_le, Int.not_lt, Int.not_le] at hc44
          refine c_seq (fun K25 hK25 => ?_)
          refine c_reg ?_ -- region 8 move.go:144
          refine wl_call rfl en_135 (bad135) ?_
          rintro _ u3 ⟨rfl, G3⟩
          replace hF := hF.transG G3 (by intro k hk h; simp only [none'] at h ⊢ <;> omega)
          replace h3 := G3.blkF h3 (by intro h; simp only [none'] at h <;> omega)
          replace h6 := G3.blkF h6 (by intro h; simp only [none'] at h <;> omega)
          refine wl_puta rfl rfl ((ndc_cells _)) sz_143 (rfl) h6 ((by simp)) ((show _ = ndc nBad from rfl)) (fun w14 h6 F14 => ?_)
          replace hF := hF.thenDrew.thenO F14 (by first | exact .inr (by omega) | exact .inl rfl | exact .inl (by assumption))
          replace h3 := F14.blkO h3 (by omega)
          refine wl_nil (x_then (hK25 _ _ ?_))
          clear hK25 K25
          refine c_ret (x_thenR ?_)
          refine bq_ret (res1 Tryz.results108 (rv_c rfl ag_143 (h6) (rfl))) ?_
          refine ⟨congrArg (fun y => Value.agg (ndc y).toArray) ?_, hF⟩
          simp_all
        · try simp only [decide_eq_true_eq, decide_eq_false_iff_not, Bool.not_eq_true', Bool.not_eq_false', Bool.not_eq_eq_eq_not, Bool.not_true, Bool.not_false, beq_iff_eq, bne_iff_ne, ne_eq, beq_eq_false_iff_ne, bne_eq_false_iff_eq, gt_iff_lt, ge_iff_le, Int.not_lt, Int.not_le] at hc44
          refine c_skip (x_then (hK22 _ _ ?_))
          clear hK22 K22
          refine forget [(3, _), (6, _)] ⟨rfl, rfl, trivial⟩ (fun e => ?_)
          refine c_seq (fun K26 hK26 => ?_)
          refine c_reg ?_ -- region 9 move.go:146
          refine wl (ro_loadAggB rfl ag_143 (h3) (rfl) (rfl)) ?_
          refine wl_puta rfl rfl ((ndc_cells _)) sz_143 (rfl) h6 ((by simp)) (rfl) (fun w15 h6 F15 => ?_)
          replace hF := hF.thenDrew.thenO F15 (by first | exact .inr (by omega) | exact .inl rfl | exact .inl (by assumption))
          replace h3 := F15.blkO h3 (by omega)
          refine wl_nil (x_then (hK26 _ _ ?_))
          clear hK26 K26
          refine c_ret ?_
          refine bq_ret (res1 Tryz.results108 (rv_c rfl ag_143 (h6) (rfl))) ?_
          refine ⟨congrArg (fun y => Value.agg (ndc y).toArray) ?_, hF⟩
          simp_all
    · try simp only [decide_eq_true_eq, decide_eq_false_iff_not, Bool.not_eq_true', Bool.not_eq_false', Bool.not_eq_eq_eq_not, Bool.not_true, Bool.not_false, beq_iff_eq, bne_iff_ne, ne_eq, beq_eq_false_iff_ne, bne_eq_false_iff_eq, gt_iff_lt, ge_iff_le, Int.not_lt, Int.not_le] at hc29
      refine c_skip (x_then (hK20 _ _ ?_))
      clear hK20 K20
      refine c_seq (fun K27 hK27 => ?_)
      refine c_seq (fun K28 hK28 => ?_)
      refine c_reg ?_ -- region 7 move.go:143
      refine wl (ro_move rfl) ?_
      refine wl (ro_not rfl) ?_
      refine wl_fork rfl (fun hg41 => ?_) (fun hg41 => ?_)
      · try simp only [decide_eq_true_eq, decide_eq_false_iff_not, Bool.not_eq_true', Bool.not_eq_false', Bool.not_eq_eq_eq_not, Bool.not_true, Bool.not_false, beq_iff_eq, bne_iff_ne, ne_eq, beq_eq_false_iff_ne, bne_eq_false_iff_eq, gt_iff_lt, ge_iff_le, Int.not_lt, Int.not_le] at hg41
        refine wlg_no rfl ?_
        refine wlg_no rfl ?_
        refine wl (ro_pick rfl rfl rfl) ?_
        refine wl_nil (x_then (hK28 _ _ ?_))
        clear hK28 K28
        refine wc_condT rfl ?_
        refine c_seq (fun K29 hK29 => ?_)
        refine c_reg ?_ -- region 8 move.go:144
        refine wl_call rfl en_135 (bad135) ?_
        rintro _ u3 ⟨rfl, G3⟩
        replace hF := hF.transG G3 (by intro k hk h; simp only [none'] at h ⊢ <;> omega)
        replace h3 := G3.blkF h3 (by intro h; simp only [none'] at h <;> omega)
        replace h6 := G3.blkF h6 (by intro h; simp only [none'] at h <;> omega)
        refine wl_puta rfl rfl ((ndc_cells _)) sz_143 (rfl) h6 ((by simp)) ((show _ = ndc nBad from rfl)) (fun w16 h6 F16 => ?_)
        replace hF := hF.thenDrew.thenO F16 (by first | exact .inr (by omega) | exact .inl rfl | exact .inl (by assumption))
        replace h3 := F16.blkO h3 (by omega)
        refine wl_nil (x_then (hK29 _ _ ?_))
        clear hK29 K29
        refine c_ret (x_thenR ?_)
        refine bq_ret (res1 Tryz.results108 (rv_c rfl ag_143 (h6) (rfl))) ?_
        refine ⟨congrArg (fun y => Value.agg (ndc y).toArray) ?_, hF⟩
        simp_all
      · try simp only [decide_eq_true_eq, decide_eq_false_iff_not, Bool.not_eq_true', Bool.not_eq_false', Bool.not_eq_eq_eq_not, Bool.not_true, Bool.not_false, beq_iff_eq, bne_iff_ne, ne_eq, beq_eq_false_iff_ne, bne_eq_false_iff_eq, gt_iff_lt, ge_iff_le, Int.not_lt, Int.not_le] at hg41
        refine wlg_yes rfl (ro_move rfl) ?_
        refine wlg_yes rfl (ro_not rfl) ?_
        refine wl (ro_pick rfl rfl rfl) ?_
        refine wl_nil (x_then (hK28 _ _ ?_))
        clear hK28 K28
        refine wc_condF rfl ?_
        refine c_skip (x_then (hK27 _ _ ?_))
        clear hK27 K27
        refine forget [(3, _), (6, _)] ⟨rfl, rfl, trivial⟩ (fun e => ?_)
        refine c_seq (fun K30 hK30 => ?_)
        refine c_reg ?_ -- region 9 move.go:146
        refine wl (ro_loadAggB rfl ag_143 (h3) (rfl) (rfl)) ?_
        refine wl_puta rfl rfl ((ndc_cells _)) sz_143 (rfl) h6 ((by simp)) (rfl) (fun w17 h6 F17 => ?_)
        replace hF := hF.thenDrew.thenO F17 (by first | exact .inr (by omega) | exact .inl rfl | exact .inl (by assumption))
        replace h3 := F17.blkO h3 (by omega)
        refine wl_nil (x_then (hK30 _ _ ?_))
        clear hK30 K30
        refine c_ret ?_
        refine bq_ret (res1 Tryz.results108 (rv_c rfl ag_143 (h6) (rfl))) ?_
        refine ⟨congrArg (fun y => Value.agg (ndc y).toArray) ?_, hF⟩
        simp_all

end Go.Proofs.Qxb6500570aGreat
