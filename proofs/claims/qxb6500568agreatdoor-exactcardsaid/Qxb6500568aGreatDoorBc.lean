import Derived.Test.Qxb6500568aGreatDoorBb
/- Numbers of the model: sums, products, quotients, floors. -/
namespace Go.Proofs.Qxb6500568aGreatDoor
open Ieee
set_option linter.unusedVariables false
set_option linter.unusedSimpArgs false

theorem sgB_and {a b : Nat} (ha : W64 a) (hb : W64 b) (h : rgW a = 0) (h2 : rgW b = 0) : a &&& b = sgB (ngW a && ngW b) := by
  have ea := split_w ha
  have eb := split_w hb
  rw [h, Nat.add_zero] at ea
  rw [h2, Nat.add_zero] at eb
  generalize ngW a = x at *
  generalize ngW b = y at *
  subst ea eb
  cases x <;> cases y <;> decide
theorem sgB_eq {x y : Bool} : sgB x = sgB y ↔ x = y := by cases x <;> cases y <;> decide
theorem sgB_ne {x : Bool} : sgB x ≠ 0 ↔ x = true := by cases x <;> decide

theorem add115 {w : World} {a b : Nat} (ha : W64 a) (hb : W64 b) : Ret Tryz.prog 115 [u64c a, u64c b] w (fun v w' => v = u64c (fAdd a b) ∧ w' = w) := by
  refine ret_of Tryz.func115 rfl Tryz.ntmps115 rfl ?_
  refine c_seq (fun K1 hK1 => ?_)
  refine c_reg ?_ -- region 0 numm.go:90
  refine wl (ro_assign rfl) ?_
  refine wl_nil (x_then (hK1 _ _ ?_))
  clear hK1 K1
  refine c_seq (fun K2 hK2 => ?_)
  refine c_seq (fun K3 hK3 => ?_)
  refine c_reg ?_ -- region 1 numm.go:91
  refine wl (ro_move rfl) ?_
  refine wl (ro_move rfl) ?_
  refine wl_call rfl en_112 (anyNaN112 ha hb) ?_
  rintro _ u0 ⟨rfl, hw0⟩
  rw [hw0]
  clear hw0 u0
  refine wl_nil (x_then (hK3 _ _ ?_))
  clear hK3 K3
  refine wc_cond rfl (fun hc15 => ?_) (fun hc15 => ?_)
  · try simp only [decide_eq_true_eq, decide_eq_false_iff_not, Bool.not_eq_true', Bool.not_eq_false', Bool.not_eq_eq_eq_not, Bool.not_true, Bool.not_false, beq_iff_eq, bne_iff_ne, ne_eq, beq_eq_false_iff_ne, bne_eq_false_iff_eq, gt_iff_lt, ge_iff_le, Int.not_lt, Int.not_le] at hc15
    refine c_seq (fun K4 hK4 => ?_)
    refine c_reg ?_ -- region 2 numm.go:92
    refine wl (ro_assign rfl) ?_
    refine wl_nil (x_then (hK4 _ _ ?_))
    clear hK4 K4
    refine c_ret (x_thenR ?_)
    refine bp_ret Tryz.results115 rfl ?_
    exact ⟨by rw [add_nan ha hb hc15]; all_goals rfl, rfl⟩
  · try simp only [decide_eq_true_eq, decide_eq_false_iff_not, Bool.not_eq_true', Bool.not_eq_false', Bool.not_eq_eq_eq_not, Bool.not_true, Bool.not_false, beq_iff_eq, bne_iff_ne, ne_eq, beq_eq_false_iff_ne, bne_eq_false_iff_eq, gt_iff_lt, ge_iff_le, Int.not_lt, Int.not_le] at hc15
    have hna : rgW a ≤ infB := by omega
    have hnb : rgW b ≤ infB := by omega
    refine c_skip (x_then (hK2 _ _ ?_))
    clear hK2 K2
    refine c_seq (fun K5 hK5 => ?_)
    refine c_seq (fun K6 hK6 => ?_)
    refine c_reg ?_ -- region 3 numm.go:94
    refine wl (ro_move rfl) ?_
    refine wl_call rfl en_164 (isInf164 ha) ?_
    rintro _ u0 ⟨rfl, hw0⟩
    rw [hw0]
    clear hw0 u0
    refine wl_nil (x_then (hK6 _ _ ?_))
    clear hK6 K6
    refine wc_cond rfl (fun hc17 => ?_) (fun hc17 => ?_)
    · try simp only [decide_eq_true_eq, decide_eq_false_iff_not, Bool.not_eq_true', Bool.not_eq_false', Bool.not_eq_eq_eq_not, Bool.not_true, Bool.not_false, beq_iff_eq, bne_iff_ne, ne_eq, beq_eq_false_iff_ne, bne_eq_false_iff_eq, gt_iff_lt, ge_iff_le, Int.not_lt, Int.not_le] at hc17
      refine c_seq (fun K7 hK7 => ?_)
      refine c_seq (fun K8 hK8 => ?_)
      refine c_reg ?_ -- region 4 numm.go:95
      refine wl (ro_move rfl) ?_
      refine wl_call rfl en_164 (isInf164 hb) ?_
      rintro _ u0 ⟨rfl, hw0⟩
      rw [hw0]
      clear hw0 u0
      refine wl_fork rfl (fun hg20 => ?_) (fun hg20 => ?_)
      · try simp only [decide_eq_true_eq, decide_eq_false_iff_not, Bool.not_eq_true', Bool.not_eq_false', Bool.not_eq_eq_eq_not, Bool.not_true, Bool.not_false, beq_iff_eq, bne_iff_ne, ne_eq, beq_eq_false_iff_ne, bne_eq_false_iff_eq, gt_iff_lt, ge_iff_le, Int.not_lt, Int.not_le] at hg20
        refine wlg_yes rfl (ro_move rfl) ?_
        refine wlg_yes rfl (ro_move rfl) ?_
        refine wlg_yes rfl (ro_cmpU rfl rfl rfl) ?_
        refine wl (ro_pick rfl rfl rfl) ?_
        refine wl_nil (x_then (hK8 _ _ ?_))
        clear hK8 K8
        refine wc_cond rfl (fun hc24 => ?_) (fun hc24 => ?_)
        · try simp only [decide_eq_true_eq, decide_eq_false_iff_not, Bool.not_eq_true', Bool.not_eq_false', Bool.not_eq_eq_eq_not, Bool.not_true, Bool.not_false, beq_iff_eq, bne_iff_ne, ne_eq, beq_eq_false_iff_ne, bne_eq_false_iff_eq, gt_iff_lt, ge_iff_le, Int.not_lt, Int.not_le] at hc24
          refine c_seq (fun K9 hK9 => ?_)
          refine c_reg ?_ -- region 5 numm.go:96
          refine wl (ro_assign rfl) ?_
          refine wl_nil (x_then (hK9 _ _ ?_))
          clear hK9 K9
          refine c_ret (x_thenR (x_thenR ?_))
          refine bp_ret Tryz.results115 rfl ?_
          exact ⟨by rw [add_inf_lr ha hb hc17 hg20, if_neg (by assumption)]; all_goals rfl, rfl⟩
        · try simp only [decide_eq_true_eq, decide_eq_false_iff_not, Bool.not_eq_true', Bool.not_eq_false', Bool.not_eq_eq_eq_not, Bool.not_true, Bool.not_false, beq_iff_eq, bne_iff_ne, ne_eq, beq_eq_false_iff_ne, bne_eq_false_iff_eq, gt_iff_lt, ge_iff_le, Int.not_lt, Int.not_le] at hc24
          refine c_skip (x_then (hK7 _ _ ?_))
          clear hK7 K7
          refine forget [(0, _)] ⟨rfl, trivial⟩ (fun e => ?_)
          refine c_seq (fun K10 hK10 => ?_)
          refine c_reg ?_ -- region 6 numm.go:98
          refine wl (ro_move rfl) ?_
          refine wl (ro_assign rfl) ?_
          refine wl_nil (x_then (hK10 _ _ ?_))
          clear hK10 K10
          refine c_ret (x_thenR ?_)
          refine bp_ret Tryz.results115 rfl ?_
          exact ⟨by rw [add_inf_lr ha hb hc17 hg20, if_pos (by omega)]; all_goals rfl, rfl⟩
      · try simp only [decide_eq_true_eq, decide_eq_false_iff_not, Bool.not_eq_true', Bool.not_eq_false', Bool.not_eq_eq_eq_not, Bool.not_true, Bool.not_false, beq_iff_eq, bne_iff_ne, ne_eq, beq_eq_false_iff_ne, bne_eq_false_iff_eq, gt_iff_lt, ge_iff_le, Int.not_lt, Int.not_le] at hg20
        refine wlg_no rfl ?_
        refine wlg_no rfl ?_
        refine wlg_no rfl ?_
        refine wl (ro_pick rfl rfl rfl) ?_
        refine wl_nil (x_then (hK8 _ _ ?_))
        clear hK8 K8
        refine wc_condF rfl ?_
        refine c_skip (x_then (hK7 _ _ ?_))
        clear hK7 K7
        refine forget [(0, _)] ⟨rfl, trivial⟩ (fun e => ?_)
        refine c_seq (fun K11 hK11 => ?_)
        refine c_reg ?_ -- region 6 numm.go:98
        refine wl (ro_move rfl) ?_
        refine wl (ro_assign rfl) ?_
        refine wl_nil (x_then (hK11 _ _ ?_))
        clear hK11 K11
        refine c_ret (x_thenR ?_)
        refine bp_ret Tryz.results115 rfl ?_
        exact ⟨by rw [add_inf_l ha hb hc17 (by omega)]; all_goals rfl, rfl⟩
    · try simp only [decide_eq_true_eq, decide_eq_false_iff_not, Bool.not_eq_true', Bool.not_eq_false', Bool.not_eq_eq_eq_not, Bool.not_true, Bool.not_false, beq_iff_eq, bne_iff_ne, ne_eq, beq_eq_false_iff_ne, bne_eq_false_iff_eq, gt_iff_lt, ge_iff_le, Int.not_lt, Int.not_le] at hc17
      have hfa : rgW a < infB := by omega
      refine c_skip (x_then (hK5 _ _ ?_))
      clear hK5 K5
      refine c_seq (fun K12 hK12 => ?_)
      refine c_seq (fun K13 hK13 => ?_)
      refine c_reg ?_ -- region 7 numm.go:100
      refine wl (ro_move rfl) ?_
      refine wl_call rfl en_164 (isInf164 hb) ?_
      rintro _ u0 ⟨rfl, hw0⟩
      rw [hw0]
      clear hw0 u0
      refine wl_nil (x_then (hK13 _ _ ?_))
      clear hK13 K13
      refine wc_cond rfl (fun hc27 => ?_) (fun hc27 => ?_)
      · try simp only [decide_eq_true_eq, decide_eq_false_iff_not, Bool.not_eq_true', Bool.not_eq_false', Bool.not_eq_eq_eq_not, Bool.not_true, Bool.not_false, beq_iff_eq, bne_iff_ne, ne_eq, beq_eq_false_iff_ne, bne_eq_false_iff_eq, gt_iff_lt, ge_iff_le, Int.not_lt, Int.not_le] at hc27
        refine c_seq (fun K14 hK14 => ?_)
        refine c_reg ?_ -- region 8 numm.go:101
        refine wl (ro_move rfl) ?_
        refine wl (ro_assign rfl) ?_
        refine wl_nil (x_then (hK14 _ _ ?_))
        clear hK14 K14
        refine c_ret (x_thenR ?_)
        refine bp_ret Tryz.results115 rfl ?_
        exact ⟨by rw [add_inf_r ha hb hc27 hfa]; all_goals rfl, rfl⟩
      · try simp only [decide_eq_true_eq, decide_eq_false_iff_not, Bool.not_eq_true', Bool.not_eq_false', Bool.not_eq_eq_eq_not, Bool.not_true, Bool.not_false, beq_iff_eq, bne_iff_ne, ne_eq, beq_eq_false_iff_ne, bne_eq_false_iff_eq, gt_iff_lt, ge_iff_le, Int.not_lt, Int.not_le] at hc27
        have hfb : rgW b < infB := by omega
        refine c_skip (x_then (hK12 _ _ ?_))
        clear hK12 K12
        refine c_seq (fun K15 hK15 => ?_)
        refine c_seq (fun K16 hK16 => ?_)
        refine c_reg ?_ -- region 9 numm.go:103
        refine wl (ro_move rfl) ?_
        refine wl (ro_move rfl) ?_
        refine wl_call rfl en_113 (bothZero113 ha hb) ?_
        rintro _ u0 ⟨rfl, hw0⟩
        rw [hw0]
        clear hw0 u0
        refine wl_nil (x_then (hK16 _ _ ?_))
        clear hK16 K16
        refine wc_cond rfl (fun hc31 => ?_) (fun hc31 => ?_)
        · try simp only [decide_eq_true_eq, decide_eq_false_iff_not, Bool.not_eq_true', Bool.not_eq_false', Bool.not_eq_eq_eq_not, Bool.not_true, Bool.not_false, beq_iff_eq, bne_iff_ne, ne_eq, beq_eq_false_iff_ne, bne_eq_false_iff_eq, gt_iff_lt, ge_iff_le, Int.not_lt, Int.not_le] at hc31
          refine c_seq (fun K17 hK17 => ?_)
          refine c_reg ?_ -- region 10 numm.go:104
          refine wl (ro_move rfl) ?_
          refine wl (ro_move rfl) ?_
          refine wl (ro_andU rfl rfl ha hb) ?_
          refine wl (ro_assign rfl) ?_
          refine wl_nil (x_then (hK17 _ _ ?_))
          clear hK17 K17
          refine c_ret (x_thenR ?_)
          refine bp_ret Tryz.results115 rfl ?_
          exact ⟨by rw [add_zero_both ha hb hc31.1 hc31.2, ← sgB_and ha hb hc31.1 hc31.2], rfl⟩
        · try simp only [decide_eq_true_eq, decide_eq_false_iff_not, Bool.not_eq_true', Bool.not_eq_false', Bool.not_eq_eq_eq_not, Bool.not_true, Bool.not_false, beq_iff_eq, bne_iff_ne, ne_eq, beq_eq_false_iff_ne, bne_eq_false_iff_eq, gt_iff_lt, ge_iff_le, Int.not_lt, Int.not_le] at hc31
          refine c_skip (x_then (hK15 _ _ ?_))
          clear hK15 K15
          refine c_seq (fun K18 hK18 => ?_)
          refine c_seq (fun K19 hK19 => ?_)
          refine c_reg ?_ -- region 11 numm.go:106
          refine wl (ro_move rfl) ?_
          refine wl_call rfl en_165 (isZero165 ha) ?_
          rintro _ u0 ⟨rfl, hw0⟩
          rw [hw0]
          clear hw0 u0
          refine wl_nil (x_then (hK19 _ _ ?_))
          clear hK19 K19
          refine wc_cond rfl (fun hc36 => ?_) (fun hc36 => ?_)
          · try simp only [decide_eq_true_eq, decide_eq_false_iff_not, Bool.not_eq_true', Bool.not_eq_false', Bool.not_eq_eq_eq_not, Bool.not_true, Bool.not_false, beq_iff_eq, bne_iff_ne, ne_eq, beq_eq_false_iff_ne, bne_eq_false_iff_eq, gt_iff_lt, ge_iff_le, Int.not_lt, Int.not_le] at hc36
            refine c_seq (fun K20 hK20 => ?_)
            refine c_reg ?_ -- region 12 numm.go:107
            refine wl (ro_move rfl) ?_
            refine wl (ro_assign rfl) ?_
            refine wl_nil (x_then (hK20 _ _ ?_))
            clear hK20 K20
            refine c_ret (x_thenR ?_)
            refine bp_ret Tryz.results115 rfl ?_
            exact ⟨by rw [add_zero_l ha hb hc36 hfb (fun h => hc31 ⟨hc36, h⟩)]; all_goals rfl, rfl⟩
          · try simp only [decide_eq_true_eq, decide_eq_false_iff_not, Bool.not_eq_true', Bool.not_eq_false', Bool.not_eq_eq_eq_not, Bool.not_true, Bool.not_false, beq_iff_eq, bne_iff_ne, ne_eq, beq_eq_false_iff_ne, bne_eq_false_iff_eq, gt_iff_lt, ge_iff_le, Int.not_lt, Int.not_le] at hc36
            refine c_skip (x_then (hK18 _ _ ?_))
            clear hK18 K18
            refine c_seq (fun K21 hK21 => ?_)
            refine c_seq (fun K22 hK22 => ?_)
            refine c_reg ?_ -- region 13 numm.go:109
            refine wl (ro_move rfl) ?_
            refine wl_call rfl en_165 (isZero165 hb) ?_
            rintro _ u0 ⟨rfl, hw0⟩
            rw [hw0]
            clear hw0 u0
            refine wl_nil (x_then (hK22 _ _ ?_))
            clear hK22 K22
            refine wc_cond rfl (fun hc39 => ?_) (fun hc39 => ?_)
            · try simp only [decide_eq_true_eq, decide_eq_false_iff_not, Bool.not_eq_true', Bool.not_eq_false', Bool.not_eq_eq_eq_not, Bool.not_true, Bool.not_false, beq_iff_eq, bne_iff_ne, ne_eq, beq_eq_false_iff_ne, bne_eq_false_iff_eq, gt_iff_lt, ge_iff_le, Int.not_lt, Int.not_le] at hc39
              refine c_seq (fun K23 hK23 => ?_)
              refine c_reg ?_ -- region 14 numm.go:110
              refine wl (ro_move rfl) ?_
              refine wl (ro_assign rfl) ?_
              refine wl_nil (x_then (hK23 _ _ ?_))
              clear hK23 K23
              refine c_ret (x_thenR ?_)
              refine bp_ret Tryz.results115 rfl ?_
              exact ⟨by rw [add_zero_r ha hb hc39 hfa hc36]; all_goals rfl, rfl⟩
            · try simp only [decide_eq_true_eq, decide_eq_false_iff_not, Bool.not_eq_true', Bool.not_eq_false', Bool.not_eq_eq_eq_not, Bool.not_true, Bool.not_false, beq_iff_eq, bne_iff_ne, ne_eq, beq_eq_false_iff_ne, bne_eq_false_iff_eq, gt_iff_lt, ge_iff_le, Int.not_lt, Int.not_le] at hc39
              refine c_skip (x_then (hK21 _ _ ?_))
              clear hK21 K21
              refine forget [(0, _), (1, _)] ⟨rfl, rfl, trivial⟩ (fun e => ?_)
              refine c_seq (fun K24 hK24 => ?_)
              refine c_reg ?_ -- region 15 numm.go:112
              refine wl (ro_move rfl) ?_
              refine wl_call rfl en_166 (parts166 ha) ?_
              rintro _ u0 ⟨rfl, hw0⟩
              rw [hw0]
              clear hw0 u0
              refine wl (ro_move rfl) ?_
              refine wl (ro_extract rfl rfl) ?_
              refine wl (ro_extract rfl rfl) ?_
              refine wl (ro_assign rfl) ?_
              refine wl (ro_assign rfl) ?_
              refine wl_nil (x_then (hK24 _ _ ?_))
              clear hK24 K24
              refine forget [(0, _), (1, _), (5, _), (6, _)] ⟨rfl, rfl, rfl, rfl, trivial⟩ (fun e => ?_)
              refine c_seq (fun K25 hK25 => ?_)
              refine c_reg ?_ -- region 16 numm.go:113
              refine wl (ro_move rfl) ?_
              refine wl_call rfl en_166 (parts166 hb) ?_
              rintro _ u0 ⟨rfl, hw0⟩
              rw [hw0]
              clear hw0 u0
              refine wl (ro_move rfl) ?_
              refine wl (ro_extract rfl rfl) ?_
              refine wl (ro_extract rfl rfl) ?_
              refine wl (ro_assign rfl) ?_
              refine wl (ro_assign rfl) ?_
              refine wl_nil (x_then (hK25 _ _ ?_))
              clear hK25 K25
              refine forget [(0, _), (1, _), (5, _), (6, _), (7, _), (8, _)] ⟨rfl, rfl, rfl, rfl, rfl, rfl, trivial⟩ (fun e => ?_)
              refine c_seq (fun K26 hK26 => ?_)
              refine c_reg ?_ -- region 17 numm.go:114
              refine wl (ro_move rfl) ?_
              refine wl (ro_sg rfl (by assumption)) ?_
              refine wl (ro_assign rfl) ?_
              refine wl_nil (x_then (hK26 _ _ ?_))
              clear hK26 K26
              refine forget [(1, _), (5, _), (6, _), (7, _), (8, _), (9, _)] ⟨rfl, rfl, rfl, rfl, rfl, rfl, trivial⟩ (fun e => ?_)
              refine c_seq (fun K27 hK27 => ?_)
              refine c_reg ?_ -- region 18 numm.go:115
              refine wl (ro_move rfl) ?_
              refine wl (ro_sg rfl (by assumption)) ?_
              refine wl (ro_assign rfl) ?_
              refine wl_nil (x_then (hK27 _ _ ?_))
              clear hK27 K27
              refine c_mid (fun a' w' => w' = w ∧ ∃ x y, fAdd a b = fAdd x y ∧ W64 x ∧ W64 y ∧ rgW x < infB ∧ rgW y < infB ∧ rgW x ≠ 0 ∧ rgW y ≠ 0 ∧ peW y ≤ peW x ∧ ∃ e, a' = Fr 132 (upds e [(5, u64c (pmW x)), (6, icv (peW x)), (7, u64c (pmW y)), (8, icv (peW y)), (9, u64c (sgB (ngW x))), (10, u64c (sgB (ngW y)))]) []) ?_ ?_
              · skip
                refine c_seq (fun K28 hK28 => ?_)
                refine c_reg ?_ -- region 19 numm.go:116
                refine wl (ro_move rfl) ?_
                refine wl (ro_move rfl) ?_
                refine wl (ro_cmp rfl rfl rfl) ?_
                refine wl_nil (x_then (hK28 _ _ ?_))
                clear hK28 K28
                refine wc_cond rfl (fun hc57 => ?_) (fun hc57 => ?_)
                · try simp only [decide_eq_true_eq, decide_eq_false_iff_not, Bool.not_eq_true', Bool.not_eq_false', Bool.not_eq_eq_eq_not, Bool.not_true, Bool.not_false, beq_iff_eq, bne_iff_ne, ne_eq, beq_eq_false_iff_ne, bne_eq_false_iff_eq, gt_iff_lt, ge_iff_le, Int.not_lt, Int.not_le] at hc57
                  refine c_seq (fun K29 hK29 => ?_)
                  refine c_reg ?_ -- region 20 numm.go:117
                  refine wl (ro_move rfl) ?_
                  refine wl (ro_move rfl) ?_
                  refine wl (ro_assign rfl) ?_
                  refine wl (ro_assign rfl) ?_
                  refine wl_nil (x_then (hK29 _ _ ?_))
                  clear hK29 K29
                  refine forget [(5, _), (6, _), (7, _), (8, _), (9, _), (10, _)] ⟨rfl, rfl, rfl, rfl, rfl, rfl, trivial⟩ (fun e => ?_)
                  refine c_seq (fun K30 hK30 => ?_)
                  refine c_reg ?_ -- region 21 numm.go:118
                  refine wl (ro_move rfl) ?_
                  refine wl (ro_move rfl) ?_
                  refine wl (ro_assign rfl) ?_
                  refine wl (ro_assign rfl) ?_
                  refine wl_nil (x_then (hK30 _ _ ?_))
                  clear hK30 K30
                  refine c_reg ?_ -- region 22 numm.go:119
                  refine wl (ro_move rfl) ?_
                  refine wl (ro_move rfl) ?_
                  refine wl (ro_assign rfl) ?_
                  refine wl (ro_assign rfl) ?_
                  refine wl_nil (x_then ?_)
                  exact ⟨rfl, b, a, add_comm' ha hb hfa hfb, hb, ha, hfb, hfa, hc39, hc36, by omega, kp _ ⟨rfl, rfl, rfl, rfl, rfl, rfl, trivial⟩⟩
                · try simp only [decide_eq_true_eq, decide_eq_false_iff_not, Bool.not_eq_true', Bool.not_eq_false', Bool.not_eq_eq_eq_not, Bool.not_true, Bool.not_false, beq_iff_eq, bne_iff_ne, ne_eq, beq_eq_false_iff_ne, bne_eq_false_iff_eq, gt_iff_lt, ge_iff_le, Int.not_lt, Int.not_le] at hc57
                  refine c_skip (x_then ?_)
                  exact ⟨rfl, a, b, rfl, ha, hb, hfa, hfb, hc36, hc39, by omega, kp _ ⟨rfl, rfl, rfl, rfl, rfl, rfl, trivial⟩⟩
              rintro a' w' ⟨hw, x, y, hxy, hx, hy, hfx, hfy, hzx, hzy, hpe, e, rfl⟩
              rw [hw]
              clear hw w'
              have hpx := pe_ge x
              have hpy := pe_ge y
              have hlx := pe_le hfx
              have hmx := pm_lt x
              have hmy := pm_lt y
              refine c_seq (fun K31 hK31 => ?_)
              refine c_reg ?_ -- region 23 numm.go:121
              refine wl (ro_move rfl) ?_
              refine wl (ro_move rfl) ?_
              refine wl (ro_arith (k := .i64) (r := ((peW x - peW y).toNat : Int)) rfl rfl (by show some (peW x - peW y) = _; congr 1; omega) (Go.IntWalk.i64_in _ (by omega)) ) ?_
              refine wl (ro_assign rfl) ?_
              refine wl_nil (x_then (hK31 _ _ ?_))
              clear hK31 K31
              refine forget [(5, _), (6, _), (7, _), (8, _), (9, _), (10, _), (11, _)] ⟨rfl, rfl, rfl, rfl, rfl, rfl, rfl, trivial⟩ (fun e => ?_)
              refine c_seq (fun K32 hK32 => ?_)
              refine c_reg ?_ -- region 24 numm.go:122
              refine wl (ro_assign rfl) ?_
              refine wl_nil (x_then (hK32 _ _ ?_))
              clear hK32 K32
              refine c_mid (fun a' w' => w' = w ∧ ∃ A B ex st, AddP x y A B ex st ∧ ∃ e, a' = Fr 132 (upds e [(5, u64c A), (7, u64c B), (8, icv ex), (9, u64c (sgB (ngW x))), (10, u64c (sgB (ngW y))), (12, .bool st)]) []) ?_ ?_
              · skip
                refine c_seq (fun K33 hK33 => ?_)
                generalize hd : (peW x - peW y).toNat = d
                have hde : peW x = peW y + d := by omega
                refine c_reg ?_ -- region 25 numm.go:123
                refine wl (ro_move rfl) ?_
                refine wl (ro_cmp rfl rfl rfl) ?_
                refine wl_nil (x_then (hK33 _ _ ?_))
                clear hK33 K33
                refine wc_cond rfl (fun hc68 => ?_) (fun hc68 => ?_)
                · try simp only [decide_eq_true_eq, decide_eq_false_iff_not, Bool.not_eq_true', Bool.not_eq_false', Bool.not_eq_eq_eq_not, Bool.not_true, Bool.not_false, beq_iff_eq, bne_iff_ne, ne_eq, beq_eq_false_iff_ne, bne_eq_false_iff_eq, gt_iff_lt, ge_iff_le, Int.not_lt, Int.not_le] at hc68
                  have hpd : pmW x * 2 ^ d < 9223372036854775808 := by
                    have h1 : 2 ^ d ≤ 2 ^ 10 := Nat.pow_le_pow_right (by omega) (by omega)
                    have h2 := Nat.mul_le_mul_left (pmW x) h1
                    omega
                  refine c_reg ?_ -- region 26 numm.go:124
                  refine wl (ro_move rfl) ?_
                  refine wl (ro_move rfl) ?_
                  refine wl (ro_conv (a := (d : Int)) rfl sc_3 in_206 (Go.IntWalk.u64_in _ (by omega))) ?_
                  refine wl (ro_shlX (a := pmW x) (b := d) rfl rfl (by omega) (by unfold W64; omega)) ?_
                  refine wl (ro_assign rfl) ?_
                  refine wl_nil (x_then ?_)
                  exact ⟨rfl, _, _, _, _, ⟨d, hde, .inl ⟨by omega, rfl, rfl, rfl, rfl⟩⟩, kp _ ⟨rfl, rfl, rfl, rfl, rfl, rfl, trivial⟩⟩
                · try simp only [decide_eq_true_eq, decide_eq_false_iff_not, Bool.not_eq_true', Bool.not_eq_false', Bool.not_eq_eq_eq_not, Bool.not_true, Bool.not_false, beq_iff_eq, bne_iff_ne, ne_eq, beq_eq_false_iff_ne, bne_eq_false_iff_eq, gt_iff_lt, ge_iff_le, Int.not_lt, Int.not_le] at hc68
                  obtain ⟨j, rfl⟩ : ∃ j, d = 10 + j := ⟨d - 10, by omega⟩
                  have hmx52 : 4503599627370496 ≤ pmW x := pm_norm (by omega)
                  refine c_seq (fun K34 hK34 => ?_)
                  refine c_reg ?_ -- region 27 numm.go:126
                  refine wl (ro_move rfl) ?_
                  refine wl (ro_shlX (a := pmW x) (b := 10) rfl rfl (by decide) (by unfold W64; omega)) ?_
                  refine wl (ro_assign rfl) ?_
                  refine wl_nil (x_then (hK34 _ _ ?_))
                  clear hK34 K34
                  refine forget [(5, _), (6, _), (7, _), (9, _), (10, _), (11, _)] ⟨rfl, rfl, rfl, rfl, rfl, rfl, trivial⟩ (fun e => ?_)
                  refine c_seq (fun K35 hK35 => ?_)
                  refine c_reg ?_ -- region 28 numm.go:127
                  refine wl (ro_move rfl) ?_
                  refine wl (ro_arith (k := .i64) (a := ((10 + j : Nat) : Int)) (r := (j : Int)) rfl rfl (by show some (((10 + j : Nat) : Int) - 10) = _; congr 1; omega) (Go.IntWalk.i64_in _ (by omega))) ?_
                  refine wl (ro_assign rfl) ?_
                  refine wl_nil (x_then (hK35 _ _ ?_))
                  clear hK35 K35
                  refine c_mid (fun a' w' => w' = w ∧ ∃ e, a' = Fr 132 (upds e [(5, u64c (pmW x * 2 ^ 10)), (6, icv (peW x)), (7, u64c (pmW y / 2 ^ j)), (9, u64c (sgB (ngW x))), (10, u64c (sgB (ngW y))), (12, .bool (decide (pmW y % 2 ^ j ≠ 0)))]) []) ?_ ?_
                  · skip
                    refine c_seq (fun K36 hK36 => ?_)
                    refine c_reg ?_ -- region 29 numm.go:128
                    refine wl (ro_move rfl) ?_
                    refine wl (ro_cmp rfl rfl rfl) ?_
                    refine wl_nil (x_then (hK36 _ _ ?_))
                    clear hK36 K36
                    refine wc_cond rfl (fun hc78 => ?_) (fun hc78 => ?_)
                    · try simp only [decide_eq_true_eq, decide_eq_false_iff_not, Bool.not_eq_true', Bool.not_eq_false', Bool.not_eq_eq_eq_not, Bool.not_true, Bool.not_false, beq_iff_eq, bne_iff_ne, ne_eq, beq_eq_false_iff_ne, bne_eq_false_iff_eq, gt_iff_lt, ge_iff_le, Int.not_lt, Int.not_le] at hc78
                      refine c_seq (fun K37 hK37 => ?_)
                      refine c_reg ?_ -- region 30 numm.go:129
                      refine wl (ro_assign rfl) ?_
                      refine wl_nil (x_then (hK37 _ _ ?_))
                      clear hK37 K37
                      refine c_reg ?_ -- region 31 numm.go:130
                      refine wl (ro_assign rfl) ?_
                      refine wl_nil (x_then ?_)
                      have hbig : pmW y < 2 ^ j := Nat.lt_of_lt_of_le (show pmW y < 2 ^ 64 by omega) (Nat.pow_le_pow_right (by omega) (by omega))
                      have hny : pmW y ≠ 0 := fun c => hzy (pm_zero.1 c)
                      refine ⟨rfl, kp _ ⟨rfl, rfl, ?_, rfl, rfl, ?_, trivial⟩⟩
                      · rw [Nat.div_eq_of_lt hbig]; rfl
                      · rw [Nat.mod_eq_of_lt hbig]; simp [hny]; rfl
                    · try simp only [decide_eq_true_eq, decide_eq_false_iff_not, Bool.not_eq_true', Bool.not_eq_false', Bool.not_eq_eq_eq_not, Bool.not_true, Bool.not_false, beq_iff_eq, bne_iff_ne, ne_eq, beq_eq_false_iff_ne, bne_eq_false_iff_eq, gt_iff_lt, ge_iff_le, Int.not_lt, Int.not_le] at hc78
                      refine c_seq (fun K38 hK38 => ?_)
                      refine c_reg ?_ -- region 32 numm.go:132
                      refine wl (ro_move rfl) ?_
                      refine wl (ro_move rfl) ?_
                      refine wl (ro_conv (a := (j : Int)) rfl sc_3 in_206 (Go.IntWalk.u64_in _ (by omega))) ?_
                      refine wl (ro_shl1 (b := j) rfl (by omega)) ?_
                      refine wl (ro_subU (a := 2 ^ j) (b := 1) rfl rfl (Nat.two_pow_pos j) (Nat.lt_of_lt_of_le (Nat.pow_lt_pow_right (a := 2) (by omega) (show j < 64 by omega)) (by decide))) ?_
                      refine wl (ro_lowU (a := pmW y) (k := j) rfl rfl (by unfold W64; omega) (by omega)) ?_
                      refine wl (ro_cmpU rfl rfl rfl) ?_
                      refine wl (ro_assign rfl) ?_
                      refine wl_nil (x_then (hK38 _ _ ?_))
                      clear hK38 K38
                      refine c_reg ?_ -- region 33 numm.go:133
                      refine wl (ro_move rfl) ?_
                      refine wl (ro_move rfl) ?_
                      refine wl (ro_conv (a := (j : Int)) rfl sc_3 in_206 (Go.IntWalk.u64_in _ (by omega))) ?_
                      refine wl (ro_shrU (a := pmW y) (b := j) rfl rfl (by omega)) ?_
                      refine wl (ro_assign rfl) ?_
                      refine wl_nil (x_then ?_)
                      exact ⟨rfl, kp _ ⟨rfl, rfl, rfl, rfl, rfl, rfl, trivial⟩⟩
                  rintro a' w' ⟨hw, e, rfl⟩
                  rw [hw]
                  clear hw w'
                  refine c_reg ?_ -- region 34 numm.go:135
                  refine wl (ro_move rfl) ?_
                  refine wl (ro_arith (k := .i64) (a := peW x) rfl rfl rfl (Go.IntWalk.i64_in _ (by omega))) ?_
                  refine wl (ro_assign rfl) ?_
                  refine wl_nil (x_then ?_)
                  exact ⟨rfl, _, _, _, _, ⟨10 + j, hde, .inr ⟨by omega, hmx52, rfl, by rw [show 10 + j - 10 = j by omega], rfl, by rw [show 10 + j - 10 = j by omega]⟩⟩, kp _ ⟨rfl, rfl, rfl, rfl, rfl, rfl, trivial⟩⟩
              rintro a' w' ⟨hw, A, B, ex, st, hP, e, rfl⟩
              rw [hw]
              clear hw w'
              obtain ⟨hA, hB, he1, he2, hs1, hs2⟩ := hP.bd hfx
              refine c_seq (fun K39 hK39 => ?_)
              refine c_seq (fun K40 hK40 => ?_)
              refine c_reg ?_ -- region 35 numm.go:137
              refine wl (ro_move rfl) ?_
              refine wl (ro_move rfl) ?_
              refine wl (ro_cmpU rfl rfl rfl) ?_
              refine wl_nil (x_then (hK40 _ _ ?_))
              clear hK40 K40
              refine wc_cond rfl (fun hc94 => ?_) (fun hc94 => ?_)
              · try simp only [decide_eq_true_eq, decide_eq_false_iff_not, Bool.not_eq_true', Bool.not_eq_false', Bool.not_eq_eq_eq_not, Bool.not_true, Bool.not_false, beq_iff_eq, bne_iff_ne, ne_eq, beq_eq_false_iff_ne, bne_eq_false_iff_eq, gt_iff_lt, ge_iff_le, Int.not_lt, Int.not_le] at hc94
                have hsg := sgB_eq.1 hc94
                refine c_seq (fun K41 hK41 => ?_)
                refine c_reg ?_ -- region 36 numm.go:138
                refine wl (ro_move rfl) ?_
                refine wl (ro_move rfl) ?_
                refine wl (ro_move rfl) ?_
                refine wl (ro_addU (a := A) (b := B) rfl rfl (by unfold W64; omega)) ?_
                refine wl (ro_move rfl) ?_
                refine wl (ro_move rfl) ?_
                refine wl_call rfl en_122 (pack122 (man := A + B) (by unfold W64; omega) (by omega) (fun h ↦ by have := hs1 h; omega)) ?_
                rintro _ u0 ⟨rfl, hw0⟩
                rw [hw0]
                clear hw0 u0
                refine wl (ro_assign rfl) ?_
                refine wl_nil (x_then (hK41 _ _ ?_))
                clear hK41 K41
                refine c_ret (x_thenR ?_)
                refine bp_ret Tryz.results115 rfl ?_
                exact ⟨by rw [hxy, add_sameP hx hy hfx hfy hzx hsg hP], rfl⟩
              · try simp only [decide_eq_true_eq, decide_eq_false_iff_not, Bool.not_eq_true', Bool.not_eq_false', Bool.not_eq_eq_eq_not, Bool.not_true, Bool.not_false, beq_iff_eq, bne_iff_ne, ne_eq, beq_eq_false_iff_ne, bne_eq_false_iff_eq, gt_iff_lt, ge_iff_le, Int.not_lt, Int.not_le] at hc94
                have hsg : ngW x ≠ ngW y := fun h => hc94 (sgB_eq.2 h)
                have hfin := add_diffP hx hy hfx hfy hsg hP
                rw [← hxy] at hfin
                refine c_skip (x_then (hK39 _ _ ?_))
                clear hK39 K39
                refine c_seq (fun K42 hK42 => ?_)
                refine c_seq (fun K43 hK43 => ?_)
                refine c_reg ?_ -- region 37 numm.go:140
                refine wl (ro_move rfl) ?_
                refine wl (ro_move rfl) ?_
                refine wl (ro_cmpU rfl rfl rfl) ?_
                refine wl_fork rfl (fun hg105 => ?_) (fun hg105 => ?_)
                · try simp only [decide_eq_true_eq, decide_eq_false_iff_not, Bool.not_eq_true', Bool.not_eq_false', Bool.not_eq_eq_eq_not, Bool.not_true, Bool.not_false, beq_iff_eq, bne_iff_ne, ne_eq, beq_eq_false_iff_ne, bne_eq_false_iff_eq, gt_iff_lt, ge_iff_le, Int.not_lt, Int.not_le] at hg105
                  refine wlg_yes rfl (ro_move rfl) ?_
                  refine wlg_yes rfl (ro_not rfl) ?_
                  refine wl (ro_pick rfl rfl rfl) ?_
                  refine wl_nil (x_then (hK43 _ _ ?_))
                  clear hK43 K43
                  refine wc_cond rfl (fun hc108 => ?_) (fun hc108 => ?_)
                  · try simp only [decide_eq_true_eq, decide_eq_false_iff_not, Bool.not_eq_true', Bool.not_eq_false', Bool.not_eq_eq_eq_not, Bool.not_true, Bool.not_false, beq_iff_eq, bne_iff_ne, ne_eq, beq_eq_false_iff_ne, bne_eq_false_iff_eq, gt_iff_lt, ge_iff_le, Int.not_lt, Int.not_le] at hc108
                    refine c_seq (fun K44 hK44 => ?_)
                    refine c_reg ?_ -- region 38 numm.go:141
                    refine wl (ro_assign rfl) ?_
                    refine wl_nil (x_then (hK44 _ _ ?_))
                    clear hK44 K44
                    refine c_ret (x_thenR ?_)
                    refine bp_ret Tryz.results115 rfl ?_
                    exact ⟨by rw [hfin, if_pos ⟨hg105, by simpa using hc108⟩]; all_goals rfl, rfl⟩
                  · try simp only [decide_eq_true_eq, decide_eq_false_iff_not, Bool.not_eq_true', Bool.not_eq_false', Bool.not_eq_eq_eq_not, Bool.not_true, Bool.not_false, beq_iff_eq, bne_iff_ne, ne_eq, beq_eq_false_iff_ne, bne_eq_false_iff_eq, gt_iff_lt, ge_iff_le, Int.not_lt, Int.not_le] at hc108
                    refine c_skip (x_then (hK42 _ _ ?_))
                    clear hK42 K42
                    refine c_seq (fun K45 hK45 => ?_)
                    refine c_seq (fun K46 hK46 => ?_)
                    refine c_reg ?_ -- region 39 numm.go:143
                    refine wl (ro_move rfl) ?_
                    refine wl (ro_move rfl) ?_
                    refine wl (ro_cmpU rfl rfl rfl) ?_
                    refine wl_nil (x_then (hK46 _ _ ?_))
                    clear hK46 K46
                    refine wc_cond rfl (fun hc111 => ?_) (fun hc111 => ?_)
                    · try simp only [decide_eq_true_eq, decide_eq_false_iff_not, Bool.not_eq_true', Bool.not_eq_false', Bool.not_eq_eq_eq_not, Bool.not_true, Bool.not_false, beq_iff_eq, bne_iff_ne, ne_eq, beq_eq_false_iff_ne, bne_eq_false_iff_eq, gt_iff_lt, ge_iff_le, Int.not_lt, Int.not_le] at hc111
                      refine c_seq (fun K47 hK47 => ?_)
                      refine c_reg ?_ -- region 40 numm.go:144
                      refine wl (ro_move rfl) ?_
                      refine wl (ro_move rfl) ?_
                      refine wl (ro_move rfl) ?_
                      refine wl (ro_subU (a := B) (b := A) rfl rfl (by omega) (by unfold W64; omega)) ?_
                      refine wl (ro_move rfl) ?_
                      refine wl_call rfl en_122 (pack122 (man := B - A) (st := false) (by unfold W64; omega) (by omega) (fun h ↦ by simp at h)) ?_
                      rintro _ u0 ⟨rfl, hw0⟩
                      rw [hw0]
                      clear hw0 u0
                      refine wl (ro_assign rfl) ?_
                      refine wl_nil (x_then (hK47 _ _ ?_))
                      clear hK47 K47
                      refine c_ret (x_thenR ?_)
                      refine bp_ret Tryz.results115 rfl ?_
                      first
                        | exact ⟨by rw [hfin, if_neg (by rintro ⟨h1, h2⟩; simp_all), if_pos hc111], rfl⟩
                        | exact ⟨by rw [hfin, if_neg (by rintro ⟨h1, h2⟩; simp_all), if_neg (by omega), if_pos hc118], rfl⟩
                        | exact ⟨by rw [hfin, if_neg (by rintro ⟨h1, h2⟩; simp_all), if_neg (by omega), if_neg (by simp [hc118])], rfl⟩
                    · try simp only [decide_eq_true_eq, decide_eq_false_iff_not, Bool.not_eq_true', Bool.not_eq_false', Bool.not_eq_eq_eq_not, Bool.not_true, Bool.not_false, beq_iff_eq, bne_iff_ne, ne_eq, beq_eq_false_iff_ne, bne_eq_false_iff_eq, gt_iff_lt, ge_iff_le, Int.not_lt, Int.not_le] at hc111
                      refine c_skip (x_then (hK45 _ _ ?_))
                      clear hK45 K45
                      refine c_seq (fun K48 hK48 => ?_)
                      refine c_seq (fun K49 hK49 => ?_)
                      refine c_reg ?_ -- region 41 numm.go:146
                      refine wl (ro_move rfl) ?_
                      refine wl_nil (x_then (hK49 _ _ ?_))
                      clear hK49 K49
                      refine wc_cond rfl (fun hc118 => ?_) (fun hc118 => ?_)
                      · try simp only [decide_eq_true_eq, decide_eq_false_iff_not, Bool.not_eq_true', Bool.not_eq_false', Bool.not_eq_eq_eq_not, Bool.not_true, Bool.not_false, beq_iff_eq, bne_iff_ne, ne_eq, beq_eq_false_iff_ne, bne_eq_false_iff_eq, gt_iff_lt, ge_iff_le, Int.not_lt, Int.not_le] at hc118
                        refine c_seq (fun K50 hK50 => ?_)
                        refine c_reg ?_ -- region 42 numm.go:147
                        refine wl (ro_move rfl) ?_
                        refine wl (ro_move rfl) ?_
                        refine wl (ro_move rfl) ?_
                        refine wl (ro_subU (a := A) (b := B) rfl rfl (by omega) (by unfold W64; omega)) ?_
                        refine wl (ro_subU (a := A - B) (b := 1) rfl rfl (by have := hs1 hc118; have := hs2 hc118; omega) (by unfold W64; omega)) ?_
                        refine wl (ro_move rfl) ?_
                        refine wl_call rfl en_122 (pack122 (man := A - B - 1) (st := true) (by unfold W64; omega) (by omega) (fun _ ↦ by have := hs1 hc118; have := hs2 hc118; omega)) ?_
                        rintro _ u0 ⟨rfl, hw0⟩
                        rw [hw0]
                        clear hw0 u0
                        refine wl (ro_assign rfl) ?_
                        refine wl_nil (x_then (hK50 _ _ ?_))
                        clear hK50 K50
                        refine c_ret (x_thenR ?_)
                        refine bp_ret Tryz.results115 rfl ?_
                        first
                          | exact ⟨by rw [hfin, if_neg (by rintro ⟨h1, h2⟩; simp_all), if_pos hc111], rfl⟩
                          | exact ⟨by rw [hfin, if_neg (by rintro ⟨h1, h2⟩; simp_all), if_neg (by omega), if_pos hc118], rfl⟩
                          | exact ⟨by rw [hfin, if_neg (by rintro ⟨h1, h2⟩; simp_all), if_neg (by omega), if_neg (by simp [hc118])], rfl⟩
                      · try simp only [decide_eq_true_eq, decide_eq_false_iff_not, Bool.not_eq_true', Bool.not_eq_false', Bool.not_eq_eq_eq_not, Bool.not_true, Bool.not_false, beq_iff_eq, bne_iff_ne, ne_eq, beq_eq_false_iff_ne, bne_eq_false_iff_eq, gt_iff_lt, ge_iff_le, Int.not_lt, Int.not_le] at hc118
                        refine c_skip (x_then (hK48 _ _ ?_))
                        clear hK48 K48
                        refine forget [(5, _), (7, _), (8, _), (9, _)] ⟨rfl, rfl, rfl, rfl, trivial⟩ (fun e => ?_)
                        refine c_seq (fun K51 hK51 => ?_)
                        refine c_reg ?_ -- region 43 numm.go:149
                        refine wl (ro_move rfl) ?_
                        refine wl (ro_move rfl) ?_
                        refine wl (ro_move rfl) ?_
                        refine wl (ro_subU (a := A) (b := B) rfl rfl (by omega) (by unfold W64; omega)) ?_
                        refine wl (ro_move rfl) ?_
                        refine wl_call rfl en_122 (pack122 (man := A - B) (st := false) (by unfold W64; omega) (by omega) (fun h ↦ by simp at h)) ?_
                        rintro _ u0 ⟨rfl, hw0⟩
                        rw [hw0]
                        clear hw0 u0
                        refine wl (ro_assign rfl) ?_
                        refine wl_nil (x_then (hK51 _ _ ?_))
                        clear hK51 K51
                        refine c_ret ?_
                        refine bp_ret Tryz.results115 rfl ?_
                        first
                          | exact ⟨by rw [hfin, if_neg (by rintro ⟨h1, h2⟩; simp_all), if_pos hc111], rfl⟩
                          | exact ⟨by rw [hfin, if_neg (by rintro ⟨h1, h2⟩; simp_all), if_neg (by omega), if_pos hc118], rfl⟩
                          | exact ⟨by rw [hfin, if_neg (by rintro ⟨h1, h2⟩; simp_all), if_neg (by omega), if_neg (by simp [hc118])], rfl⟩
                · try simp only [decide_eq_true_eq, decide_eq_false_iff_not, Bool.not_eq_true', Bool.not_eq_false', Bool.not_eq_eq_eq_not, Bool.not_true, Bool.not_false, beq_iff_eq, bne_iff_ne, ne_eq, beq_eq_false_iff_ne, bne_eq_false_iff_eq, gt_iff_lt, ge_iff_le, Int.not_lt, Int.not_le] at hg105
                  refine wlg_no rfl ?_
                  refine wlg_no rfl ?_
                  refine wl (ro_pick rfl rfl rfl) ?_
                  refine wl_nil (x_then (hK43 _ _ ?_))
                  clear hK43 K43
                  refine wc_condF rfl ?_
                  refine c_skip (x_then (hK42 _ _ ?_))
                  clear hK42 K42
                  refine c_seq (fun K52 hK52 => ?_)
                  refine c_seq (fun K53 hK53 => ?_)
                  refine c_reg ?_ -- region 39 numm.go:143
                  refine wl (ro_move rfl) ?_
                  refine wl (ro_move rfl) ?_
                  refine wl (ro_cmpU rfl rfl rfl) ?_
                  refine wl_nil (x_then (hK53 _ _ ?_))
                  clear hK53 K53
                  refine wc_cond rfl (fun hc111 => ?_) (fun hc111 => ?_)
                  · try simp only [decide_eq_true_eq, decide_eq_false_iff_not, Bool.not_eq_true', Bool.not_eq_false', Bool.not_eq_eq_eq_not, Bool.not_true, Bool.not_false, beq_iff_eq, bne_iff_ne, ne_eq, beq_eq_false_iff_ne, bne_eq_false_iff_eq, gt_iff_lt, ge_iff_le, Int.not_lt, Int.not_le] at hc111
                    refine c_seq (fun K54 hK54 => ?_)
                    refine c_reg ?_ -- region 40 numm.go:144
                    refine wl (ro_move rfl) ?_
                    refine wl (ro_move rfl) ?_
                    refine wl (ro_move rfl) ?_
                    refine wl (ro_subU (a := B) (b := A) rfl rfl (by omega) (by unfold W64; omega)) ?_
                    refine wl (ro_move rfl) ?_
                    refine wl_call rfl en_122 (pack122 (man := B - A) (st := false) (by unfold W64; omega) (by omega) (fun h ↦ by simp at h)) ?_
                    rintro _ u0 ⟨rfl, hw0⟩
                    rw [hw0]
                    clear hw0 u0
                    refine wl (ro_assign rfl) ?_
                    refine wl_nil (x_then (hK54 _ _ ?_))
                    clear hK54 K54
                    refine c_ret (x_thenR ?_)
                    refine bp_ret Tryz.results115 rfl ?_
                    first
                      | exact ⟨by rw [hfin, if_neg (by rintro ⟨h1, h2⟩; simp_all), if_pos hc111], rfl⟩
                      | exact ⟨by rw [hfin, if_neg (by rintro ⟨h1, h2⟩; simp_all), if_neg (by omega), if_pos hc118], rfl⟩
                      | exact ⟨by rw [hfin, if_neg (by rintro ⟨h1, h2⟩; simp_all), if_neg (by omega), if_neg (by simp [hc118])], rfl⟩
                  · try simp only [decide_eq_true_eq, decide_eq_false_iff_not, Bool.not_eq_true', Bool.not_eq_false', Bool.not_eq_eq_eq_not, Bool.not_true, Bool.not_false, beq_iff_eq, bne_iff_ne, ne_eq, beq_eq_false_iff_ne, bne_eq_false_iff_eq, gt_iff_lt, ge_iff_le, Int.not_lt, Int.not_le] at hc111
                    refine c_skip (x_then (hK52 _ _ ?_))
                    clear hK52 K52
                    refine c_seq (fun K55 hK55 => ?_)
                    refine c_seq (fun K56 hK56 => ?_)
                    refine c_reg ?_ -- region 41 numm.go:146
                    refine wl (ro_move rfl) ?_
                    refine wl_nil (x_then (hK56 _ _ ?_))
                    clear hK56 K56
                    refine wc_cond rfl (fun hc118 => ?_) (fun hc118 => ?_)
                    · try simp only [decide_eq_true_eq, decide_eq_false_iff_not, Bool.not_eq_true', Bool.not_eq_false', Bool.not_eq_eq_eq_not, Bool.not_true, Bool.not_false, beq_iff_eq, bne_iff_ne, ne_eq, beq_eq_false_iff_ne, bne_eq_false_iff_eq, gt_iff_lt, ge_iff_le, Int.not_lt, Int.not_le] at hc118
                      refine c_seq (fun K57 hK57 => ?_)
                      refine c_reg ?_ -- region 42 numm.go:147
                      refine wl (ro_move rfl) ?_
                      refine wl (ro_move rfl) ?_
                      refine wl (ro_move rfl) ?_
                      refine wl (ro_subU (a := A) (b := B) rfl rfl (by omega) (by unfold W64; omega)) ?_
                      refine wl (ro_subU (a := A - B) (b := 1) rfl rfl (by have := hs1 hc118; have := hs2 hc118; omega) (by unfold W64; omega)) ?_
                      refine wl (ro_move rfl) ?_
                      refine wl_call rfl en_122 (pack122 (man := A - B - 1) (st := true) (by unfold W64; omega) (by omega) (fun _ ↦ by have := hs1 hc118; have := hs2 hc118; omega)) ?_
                      rintro _ u0 ⟨rfl, hw0⟩
                      rw [hw0]
                      clear hw0 u0
                      refine wl (ro_assign rfl) ?_
                      refine wl_nil (x_then (hK57 _ _ ?_))
                      clear hK57 K57
                      refine c_ret (x_thenR ?_)
                      refine bp_ret Tryz.results115 rfl ?_
                      first
                        | exact ⟨by rw [hfin, if_neg (by rintro ⟨h1, h2⟩; simp_all), if_pos hc111], rfl⟩
                        | exact ⟨by rw [hfin, if_neg (by rintro ⟨h1, h2⟩; simp_all), if_neg (by omega), if_pos hc118], rfl⟩
                        | exact ⟨by rw [hfin, if_neg (by rintro ⟨h1, h2⟩; simp_all), if_neg (by omega), if_neg (by simp [hc118])], rfl⟩
                    · try simp only [decide_eq_true_eq, decide_eq_false_iff_not, Bool.not_eq_true', Bool.not_eq_false', Bool.not_eq_eq_eq_not, Bool.not_true, Bool.not_false, beq_iff_eq, bne_iff_ne, ne_eq, beq_eq_false_iff_ne, bne_eq_false_iff_eq, gt_iff_lt, ge_iff_le, Int.not_lt, Int.not_le] at hc118
                      refine c_skip (x_then (hK55 _ _ ?_))
                      clear hK55 K55
                      refine forget [(5, _), (7, _), (8, _), (9, _)] ⟨rfl, rfl, rfl, rfl, trivial⟩ (fun e => ?_)
                      refine c_seq (fun K58 hK58 => ?_)
                      refine c_reg ?_ -- region 43 numm.go:149
                      refine wl (ro_move rfl) ?_
                      refine wl (ro_move rfl) ?_
                      refine wl (ro_move rfl) ?_
                      refine wl (ro_subU (a := A) (b := B) rfl rfl (by omega) (by unfold W64; omega)) ?_
                      refine wl (ro_move rfl) ?_
                      refine wl_call rfl en_122 (pack122 (man := A - B) (st := false) (by unfold W64; omega) (by omega) (fun h ↦ by simp at h)) ?_
                      rintro _ u0 ⟨rfl, hw0⟩
                      rw [hw0]
                      clear hw0 u0
                      refine wl (ro_assign rfl) ?_
                      refine wl_nil (x_then (hK58 _ _ ?_))
                      clear hK58 K58
                      refine c_ret ?_
                      refine bp_ret Tryz.results115 rfl ?_
                      first
                        | exact ⟨by rw [hfin, if_neg (by rintro ⟨h1, h2⟩; simp_all), if_pos hc111], rfl⟩
                        | exact ⟨by rw [hfin, if_neg (by rintro ⟨h1, h2⟩; simp_all), if_neg (by omega), if_pos hc118], rfl⟩
                        | exact ⟨by rw [hfin, if_neg (by rintro ⟨h1, h2⟩; simp_all), if_neg (by omega), if_neg (by simp [hc118])], rfl⟩
end Go.Proofs.Qxb6500568aGreatDoor
