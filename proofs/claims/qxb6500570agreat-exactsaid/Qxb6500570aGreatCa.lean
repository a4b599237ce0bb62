import Derived.Test.Qxb6500570aGreatBn
import Derived.Test.Qxb6500570aGreatPf
import Derived.Test.Qxb6500570aGreatFh
/- The model's reader: its small parts. -/
namespace Go.Proofs.Qxb6500570aGreat
set_option linter.unusedVariables false
set_option linter.unusedSimpArgs false

/-- The signs, and the bytes, that the reader knows. -/
abbrev knS (n : Nat) : Prop := n = 36 ∨ n = 35 ∨ n = 40 ∨ n = 41 ∨ n = 44 ∨ n = 58 ∨ n = 43 ∨ n = 45 ∨ n = 42 ∨ n = 47 ∨ n = 61 ∨ n = 60 ∨ n = 62
abbrev knP (n : Nat) : Prop := (48 ≤ n ∧ n ≤ 57) ∨ (65 ≤ n ∧ n ≤ 90) ∨ knS n

set_option maxHeartbeats 2000000 in
theorem known176 {w : World} {c : UInt8} : Ret Tryz.prog 176 [u8c c] w (fun v w' => v = .bool (decide (knP c.toNat)) ∧ w' = w) := by
  refine ret_of Tryz.func176 rfl Tryz.ntmps176 rfl ?_
  refine c_seq (fun K1 hK1 => ?_)
  refine c_reg ?_ -- region 0 formm.go:37
  refine wl (ro_assign rfl) ?_
  refine wl_nil (x_then (hK1 _ _ ?_))
  clear hK1 K1
  refine c_seq (fun K2 hK2 => ?_)
  refine c_seq (fun K3 hK3 => ?_)
  have hq : c.toNat < 48 ∨ (48 ≤ c.toNat ∧ c.toNat ≤ 57) ∨ (58 ≤ c.toNat ∧ c.toNat ≤ 64) ∨ (65 ≤ c.toNat ∧ c.toNat ≤ 90) ∨ 90 < c.toNat := by omega
  rcases hq with q | q | q | q | q
  · skip
    refine c_reg ?_ -- region 1 formm.go:38
    refine wl (ro_move rfl) ?_
    refine wl (ro_cmp (r := false) rfl rfl (congrArg some (decide_eq_false (by omega)))) ?_
    refine wl (ro_move rfl) ?_
    refine wlg_no rfl ?_
    refine wlg_no rfl ?_
    refine wl (ro_pick rfl rfl rfl) ?_
    refine wl (ro_move rfl) ?_
    refine wlg_yes rfl (ro_move rfl) ?_
    refine wlg_yes rfl (ro_cmp (r := false) rfl rfl (congrArg some (decide_eq_false (by omega)))) ?_
    refine wlg_yes rfl (ro_move rfl) ?_
    refine wlg_no rfl ?_
    refine wlg_no rfl ?_
    refine wlg_yes rfl (ro_pick rfl rfl rfl) ?_
    refine wl (ro_pick rfl rfl rfl) ?_
    refine wl_nil (x_then (hK3 _ _ ?_))
    clear hK3 K3
    refine wc_condF rfl ?_
    refine c_skip (x_then (hK2 _ _ ?_))
    clear hK2 K2
    refine c_seq (fun K4 hK4 => ?_)
    refine c_seq (fun K5 hK5 => ?_)
    refine c_reg ?_ -- region 3 formm.go:41
    refine wl (ro_move rfl) ?_
    refine wl_nil (x_then (hK5 _ _ ?_))
    clear hK5 K5
    refine c_block ?_
    refine c_mid (fun a' w' => w' = w ∧ ∃ e, a' = Fr 32 (upds e [(18, .bool (decide (knS c.toNat)))]) []) ?_ ?_
    · skip
      refine c_seq (fun K6 hK6 => ?_)
      refine c_reg ?_ -- region 4 formm.go:42
      refine wl (ro_cmp (r := decide (c.toNat = 36)) rfl rfl (congrArg some (beqc c.toNat 36))) ?_
      refine wl (ro_assign rfl) ?_
      refine wl_nil (x_then (hK6 _ _ ?_))
      clear hK6 K6
      refine wc_cond rfl (fun hc18 => ?_) (fun hc18 => ?_)
      · try simp only [decide_eq_true_eq, decide_eq_false_iff_not, Bool.not_eq_true', Bool.not_eq_false', Bool.not_eq_eq_eq_not, Bool.not_true, Bool.not_false, beq_iff_eq, bne_iff_ne, ne_eq, beq_eq_false_iff_ne, bne_eq_false_iff_eq, gt_iff_lt, ge_iff_le, Int.not_lt, Int.not_le] at hc18
        refine c_skip (x_then ?_)
        exact ⟨rfl, kp _ ⟨ubo rfl (by unfold knS; omega), trivial⟩⟩
      · try simp only [decide_eq_true_eq, decide_eq_false_iff_not, Bool.not_eq_true', Bool.not_eq_false', Bool.not_eq_eq_eq_not, Bool.not_true, Bool.not_false, beq_iff_eq, bne_iff_ne, ne_eq, beq_eq_false_iff_ne, bne_eq_false_iff_eq, gt_iff_lt, ge_iff_le, Int.not_lt, Int.not_le] at hc18
        refine c_seq (fun K7 hK7 => ?_)
        refine c_reg ?_ -- region 5 formm.go:42
        refine wl (ro_cmp (r := decide (c.toNat = 35)) rfl rfl (congrArg some (beqc c.toNat 35))) ?_
        refine wl (ro_assign rfl) ?_
        refine wl_nil (x_then (hK7 _ _ ?_))
        clear hK7 K7
        refine wc_cond rfl (fun hc18 => ?_) (fun hc18 => ?_)
        · try simp only [decide_eq_true_eq, decide_eq_false_iff_not, Bool.not_eq_true', Bool.not_eq_false', Bool.not_eq_eq_eq_not, Bool.not_true, Bool.not_false, beq_iff_eq, bne_iff_ne, ne_eq, beq_eq_false_iff_ne, bne_eq_false_iff_eq, gt_iff_lt, ge_iff_le, Int.not_lt, Int.not_le] at hc18
          refine c_skip (x_then ?_)
          exact ⟨rfl, kp _ ⟨ubo rfl (by unfold knS; omega), trivial⟩⟩
        · try simp only [decide_eq_true_eq, decide_eq_false_iff_not, Bool.not_eq_true', Bool.not_eq_false', Bool.not_eq_eq_eq_not, Bool.not_true, Bool.not_false, beq_iff_eq, bne_iff_ne, ne_eq, beq_eq_false_iff_ne, bne_eq_false_iff_eq, gt_iff_lt, ge_iff_le, Int.not_lt, Int.not_le] at hc18
          refine c_seq (fun K8 hK8 => ?_)
          refine c_reg ?_ -- region 6 formm.go:42
          refine wl (ro_cmp (r := decide (c.toNat = 40)) rfl rfl (congrArg some (beqc c.toNat 40))) ?_
          refine wl (ro_assign rfl) ?_
          refine wl_nil (x_then (hK8 _ _ ?_))
          clear hK8 K8
          refine wc_cond rfl (fun hc18 => ?_) (fun hc18 => ?_)
          · try simp only [decide_eq_true_eq, decide_eq_false_iff_not, Bool.not_eq_true', Bool.not_eq_false', Bool.not_eq_eq_eq_not, Bool.not_true, Bool.not_false, beq_iff_eq, bne_iff_ne, ne_eq, beq_eq_false_iff_ne, bne_eq_false_iff_eq, gt_iff_lt, ge_iff_le, Int.not_lt, Int.not_le] at hc18
            refine c_skip (x_then ?_)
            exact ⟨rfl, kp _ ⟨ubo rfl (by unfold knS; omega), trivial⟩⟩
          · try simp only [decide_eq_true_eq, decide_eq_false_iff_not, Bool.not_eq_true', Bool.not_eq_false', Bool.not_eq_eq_eq_not, Bool.not_true, Bool.not_false, beq_iff_eq, bne_iff_ne, ne_eq, beq_eq_false_iff_ne, bne_eq_false_iff_eq, gt_iff_lt, ge_iff_le, Int.not_lt, Int.not_le] at hc18
            refine c_seq (fun K9 hK9 => ?_)
            refine c_reg ?_ -- region 7 formm.go:42
            refine wl (ro_cmp (r := decide (c.toNat = 41)) rfl rfl (congrArg some (beqc c.toNat 41))) ?_
            refine wl (ro_assign rfl) ?_
            refine wl_nil (x_then (hK9 _ _ ?_))
            clear hK9 K9
            refine wc_cond rfl (fun hc18 => ?_) (fun hc18 => ?_)
            · try simp only [decide_eq_true_eq, decide_eq_false_iff_not, Bool.not_eq_true', Bool.not_eq_false', Bool.not_eq_eq_eq_not, Bool.not_true, Bool.not_false, beq_iff_eq, bne_iff_ne, ne_eq, beq_eq_false_iff_ne, bne_eq_false_iff_eq, gt_iff_lt, ge_iff_le, Int.not_lt, Int.not_le] at hc18
              refine c_skip (x_then ?_)
              exact ⟨rfl, kp _ ⟨ubo rfl (by unfold knS; omega), trivial⟩⟩
            · try simp only [decide_eq_true_eq, decide_eq_false_iff_not, Bool.not_eq_true', Bool.not_eq_false', Bool.not_eq_eq_eq_not, Bool.not_true, Bool.not_false, beq_iff_eq, bne_iff_ne, ne_eq, beq_eq_false_iff_ne, bne_eq_false_iff_eq, gt_iff_lt, ge_iff_le, Int.not_lt, Int.not_le] at hc18
              refine c_seq (fun K10 hK10 => ?_)
              refine c_reg ?_ -- region 8 formm.go:42
              refine wl (ro_cmp (r := decide (c.toNat = 44)) rfl rfl (congrArg some (beqc c.toNat 44))) ?_
              refine wl (ro_assign rfl) ?_
              refine wl_nil (x_then (hK10 _ _ ?_))
              clear hK10 K10
              refine wc_cond rfl (fun hc18 => ?_) (fun hc18 => ?_)
              · try simp only [decide_eq_true_eq, decide_eq_false_iff_not, Bool.not_eq_true', Bool.not_eq_false', Bool.not_eq_eq_eq_not, Bool.not_true, Bool.not_false, beq_iff_eq, bne_iff_ne, ne_eq, beq_eq_false_iff_ne, bne_eq_false_iff_eq, gt_iff_lt, ge_iff_le, Int.not_lt, Int.not_le] at hc18
                refine c_skip (x_then ?_)
                exact ⟨rfl, kp _ ⟨ubo rfl (by unfold knS; omega), trivial⟩⟩
              · try simp only [decide_eq_true_eq, decide_eq_false_iff_not, Bool.not_eq_true', Bool.not_eq_false', Bool.not_eq_eq_eq_not, Bool.not_true, Bool.not_false, beq_iff_eq, bne_iff_ne, ne_eq, beq_eq_false_iff_ne, bne_eq_false_iff_eq, gt_iff_lt, ge_iff_le, Int.not_lt, Int.not_le] at hc18
                refine c_seq (fun K11 hK11 => ?_)
                refine c_reg ?_ -- region 9 formm.go:42
                refine wl (ro_cmp (r := decide (c.toNat = 58)) rfl rfl (congrArg some (beqc c.toNat 58))) ?_
                refine wl (ro_assign rfl) ?_
                refine wl_nil (x_then (hK11 _ _ ?_))
                clear hK11 K11
                refine wc_cond rfl (fun hc18 => ?_) (fun hc18 => ?_)
                · try simp only [decide_eq_true_eq, decide_eq_false_iff_not, Bool.not_eq_true', Bool.not_eq_false', Bool.not_eq_eq_eq_not, Bool.not_true, Bool.not_false, beq_iff_eq, bne_iff_ne, ne_eq, beq_eq_false_iff_ne, bne_eq_false_iff_eq, gt_iff_lt, ge_iff_le, Int.not_lt, Int.not_le] at hc18
                  refine c_skip (x_then ?_)
                  exact ⟨rfl, kp _ ⟨ubo rfl (by unfold knS; omega), trivial⟩⟩
                · try simp only [decide_eq_true_eq, decide_eq_false_iff_not, Bool.not_eq_true', Bool.not_eq_false', Bool.not_eq_eq_eq_not, Bool.not_true, Bool.not_false, beq_iff_eq, bne_iff_ne, ne_eq, beq_eq_false_iff_ne, bne_eq_false_iff_eq, gt_iff_lt, ge_iff_le, Int.not_lt, Int.not_le] at hc18
                  refine c_seq (fun K12 hK12 => ?_)
                  refine c_reg ?_ -- region 10 formm.go:42
                  refine wl (ro_cmp (r := decide (c.toNat = 43)) rfl rfl (congrArg some (beqc c.toNat 43))) ?_
                  refine wl (ro_assign rfl) ?_
                  refine wl_nil (x_then (hK12 _ _ ?_))
                  clear hK12 K12
                  refine wc_cond rfl (fun hc18 => ?_) (fun hc18 => ?_)
                  · try simp only [decide_eq_true_eq, decide_eq_false_iff_not, Bool.not_eq_true', Bool.not_eq_false', Bool.not_eq_eq_eq_not, Bool.not_true, Bool.not_false, beq_iff_eq, bne_iff_ne, ne_eq, beq_eq_false_iff_ne, bne_eq_false_iff_eq, gt_iff_lt, ge_iff_le, Int.not_lt, Int.not_le] at hc18
                    refine c_skip (x_then ?_)
                    exact ⟨rfl, kp _ ⟨ubo rfl (by unfold knS; omega), trivial⟩⟩
                  · try simp only [decide_eq_true_eq, decide_eq_false_iff_not, Bool.not_eq_true', Bool.not_eq_false', Bool.not_eq_eq_eq_not, Bool.not_true, Bool.not_false, beq_iff_eq, bne_iff_ne, ne_eq, beq_eq_false_iff_ne, bne_eq_false_iff_eq, gt_iff_lt, ge_iff_le, Int.not_lt, Int.not_le] at hc18
                    refine c_seq (fun K13 hK13 => ?_)
                    refine c_reg ?_ -- region 11 formm.go:42
                    refine wl (ro_cmp (r := decide (c.toNat = 45)) rfl rfl (congrArg some (beqc c.toNat 45))) ?_
                    refine wl (ro_assign rfl) ?_
                    refine wl_nil (x_then (hK13 _ _ ?_))
                    clear hK13 K13
                    refine wc_cond rfl (fun hc18 => ?_) (fun hc18 => ?_)
                    · try simp only [decide_eq_true_eq, decide_eq_false_iff_not, Bool.not_eq_true', Bool.not_eq_false', Bool.not_eq_eq_eq_not, Bool.not_true, Bool.not_false, beq_iff_eq, bne_iff_ne, ne_eq, beq_eq_false_iff_ne, bne_eq_false_iff_eq, gt_iff_lt, ge_iff_le, Int.not_lt, Int.not_le] at hc18
                      refine c_skip (x_then ?_)
                      exact ⟨rfl, kp _ ⟨ubo rfl (by unfold knS; omega), trivial⟩⟩
                    · try simp only [decide_eq_true_eq, decide_eq_false_iff_not, Bool.not_eq_true', Bool.not_eq_false', Bool.not_eq_eq_eq_not, Bool.not_true, Bool.not_false, beq_iff_eq, bne_iff_ne, ne_eq, beq_eq_false_iff_ne, bne_eq_false_iff_eq, gt_iff_lt, ge_iff_le, Int.not_lt, Int.not_le] at hc18
                      refine c_seq (fun K14 hK14 => ?_)
                      refine c_reg ?_ -- region 12 formm.go:42
                      refine wl (ro_cmp (r := decide (c.toNat = 42)) rfl rfl (congrArg some (beqc c.toNat 42))) ?_
                      refine wl (ro_assign rfl) ?_
                      refine wl_nil (x_then (hK14 _ _ ?_))
                      clear hK14 K14
                      refine wc_cond rfl (fun hc18 => ?_) (fun hc18 => ?_)
                      · try simp only [decide_eq_true_eq, decide_eq_false_iff_not, Bool.not_eq_true', Bool.not_eq_false', Bool.not_eq_eq_eq_not, Bool.not_true, Bool.not_false, beq_iff_eq, bne_iff_ne, ne_eq, beq_eq_false_iff_ne, bne_eq_false_iff_eq, gt_iff_lt, ge_iff_le, Int.not_lt, Int.not_le] at hc18
                        refine c_skip (x_then ?_)
                        exact ⟨rfl, kp _ ⟨ubo rfl (by unfold knS; omega), trivial⟩⟩
                      · try simp only [decide_eq_true_eq, decide_eq_false_iff_not, Bool.not_eq_true', Bool.not_eq_false', Bool.not_eq_eq_eq_not, Bool.not_true, Bool.not_false, beq_iff_eq, bne_iff_ne, ne_eq, beq_eq_false_iff_ne, bne_eq_false_iff_eq, gt_iff_lt, ge_iff_le, Int.not_lt, Int.not_le] at hc18
                        refine c_seq (fun K15 hK15 => ?_)
                        refine c_reg ?_ -- region 13 formm.go:42
                        refine wl (ro_cmp (r := decide (c.toNat = 47)) rfl rfl (congrArg some (beqc c.toNat 47))) ?_
                        refine wl (ro_assign rfl) ?_
                        refine wl_nil (x_then (hK15 _ _ ?_))
                        clear hK15 K15
                        refine wc_cond rfl (fun hc18 => ?_) (fun hc18 => ?_)
                        · try simp only [decide_eq_true_eq, decide_eq_false_iff_not, Bool.not_eq_true', Bool.not_eq_false', Bool.not_eq_eq_eq_not, Bool.not_true, Bool.not_false, beq_iff_eq, bne_iff_ne, ne_eq, beq_eq_false_iff_ne, bne_eq_false_iff_eq, gt_iff_lt, ge_iff_le, Int.not_lt, Int.not_le] at hc18
                          refine c_skip (x_then ?_)
                          exact ⟨rfl, kp _ ⟨ubo rfl (by unfold knS; omega), trivial⟩⟩
                        · try simp only [decide_eq_true_eq, decide_eq_false_iff_not, Bool.not_eq_true', Bool.not_eq_false', Bool.not_eq_eq_eq_not, Bool.not_true, Bool.not_false, beq_iff_eq, bne_iff_ne, ne_eq, beq_eq_false_iff_ne, bne_eq_false_iff_eq, gt_iff_lt, ge_iff_le, Int.not_lt, Int.not_le] at hc18
                          refine c_seq (fun K16 hK16 => ?_)
                          refine c_reg ?_ -- region 14 formm.go:42
                          refine wl (ro_cmp (r := decide (c.toNat = 61)) rfl rfl (congrArg some (beqc c.toNat 61))) ?_
                          refine wl (ro_assign rfl) ?_
                          refine wl_nil (x_then (hK16 _ _ ?_))
                          clear hK16 K16
                          refine wc_cond rfl (fun hc18 => ?_) (fun hc18 => ?_)
                          · try simp only [decide_eq_true_eq, decide_eq_false_iff_not, Bool.not_eq_true', Bool.not_eq_false', Bool.not_eq_eq_eq_not, Bool.not_true, Bool.not_false, beq_iff_eq, bne_iff_ne, ne_eq, beq_eq_false_iff_ne, bne_eq_false_iff_eq, gt_iff_lt, ge_iff_le, Int.not_lt, Int.not_le] at hc18
                            refine c_skip (x_then ?_)
                            exact ⟨rfl, kp _ ⟨ubo rfl (by unfold knS; omega), trivial⟩⟩
                          · try simp only [decide_eq_true_eq, decide_eq_false_iff_not, Bool.not_eq_true', Bool.not_eq_false', Bool.not_eq_eq_eq_not, Bool.not_true, Bool.not_false, beq_iff_eq, bne_iff_ne, ne_eq, beq_eq_false_iff_ne, bne_eq_false_iff_eq, gt_iff_lt, ge_iff_le, Int.not_lt, Int.not_le] at hc18
                            refine c_seq (fun K17 hK17 => ?_)
                            refine c_reg ?_ -- region 15 formm.go:42
                            refine wl (ro_cmp (r := decide (c.toNat = 60)) rfl rfl (congrArg some (beqc c.toNat 60))) ?_
                            refine wl (ro_assign rfl) ?_
                            refine wl_nil (x_then (hK17 _ _ ?_))
                            clear hK17 K17
                            refine wc_cond rfl (fun hc18 => ?_) (fun hc18 => ?_)
                            · try simp only [decide_eq_true_eq, decide_eq_false_iff_not, Bool.not_eq_true', Bool.not_eq_false', Bool.not_eq_eq_eq_not, Bool.not_true, Bool.not_false, beq_iff_eq, bne_iff_ne, ne_eq, beq_eq_false_iff_ne, bne_eq_false_iff_eq, gt_iff_lt, ge_iff_le, Int.not_lt, Int.not_le] at hc18
                              refine c_skip (x_then ?_)
                              exact ⟨rfl, kp _ ⟨ubo rfl (by unfold knS; omega), trivial⟩⟩
                            · try simp only [decide_eq_true_eq, decide_eq_false_iff_not, Bool.not_eq_true', Bool.not_eq_false', Bool.not_eq_eq_eq_not, Bool.not_true, Bool.not_false, beq_iff_eq, bne_iff_ne, ne_eq, beq_eq_false_iff_ne, bne_eq_false_iff_eq, gt_iff_lt, ge_iff_le, Int.not_lt, Int.not_le] at hc18
                              refine c_reg ?_ -- region 16 formm.go:42
                              refine wl (ro_cmp (r := decide (c.toNat = 62)) rfl rfl (congrArg some (beqc c.toNat 62))) ?_
                              refine wl (ro_assign rfl) ?_
                              refine wl_nil (x_then ?_)
                              exact ⟨rfl, kp _ ⟨ubo rfl (by unfold knS; omega), trivial⟩⟩
    rintro a' w2 ⟨rfl, e, rfl⟩
    refine wc_cond rfl (fun hc18 => ?_) (fun hc18 => ?_)
    · try simp only [decide_eq_true_eq, decide_eq_false_iff_not, Bool.not_eq_true', Bool.not_eq_false', Bool.not_eq_eq_eq_not, Bool.not_true, Bool.not_false, beq_iff_eq, bne_iff_ne, ne_eq, beq_eq_false_iff_ne, bne_eq_false_iff_eq, gt_iff_lt, ge_iff_le, Int.not_lt, Int.not_le] at hc18
      refine c_seq (fun K18 hK18 => ?_)
      refine c_reg ?_ -- region 17 formm.go:43
      refine wl (ro_assign rfl) ?_
      refine wl_nil (x_then (hK18 _ _ ?_))
      clear hK18 K18
      refine c_ret (x_blkR (x_thenR ?_))
      refine bp_ret Tryz.results176 rfl ?_
      first
        | exact ⟨congrArg Value.bool (decide_eq_true (by unfold knP; exact .inr (.inr hc18))).symm, rfl⟩
        | exact ⟨congrArg Value.bool (decide_eq_false (by unfold knP; rintro (h | h | h); { omega }; { omega }; { exact hc18 h })).symm, rfl⟩
    · try simp only [decide_eq_true_eq, decide_eq_false_iff_not, Bool.not_eq_true', Bool.not_eq_false', Bool.not_eq_eq_eq_not, Bool.not_true, Bool.not_false, beq_iff_eq, bne_iff_ne, ne_eq, beq_eq_false_iff_ne, bne_eq_false_iff_eq, gt_iff_lt, ge_iff_le, Int.not_lt, Int.not_le] at hc18
      refine c_skip (x_blk (x_then (hK4 _ _ ?_)))
      clear hK4 K4
      refine forget [] trivial (fun e => ?_)
      refine c_seq (fun K19 hK19 => ?_)
      refine c_reg ?_ -- region 18 formm.go:45
      refine wl (ro_assign rfl) ?_
      refine wl_nil (x_then (hK19 _ _ ?_))
      clear hK19 K19
      refine c_ret ?_
      refine bp_ret Tryz.results176 rfl ?_
      first
        | exact ⟨congrArg Value.bool (decide_eq_true (by unfold knP; exact .inr (.inr hc18))).symm, rfl⟩
        | exact ⟨congrArg Value.bool (decide_eq_false (by unfold knP; rintro (h | h | h); { omega }; { omega }; { exact hc18 h })).symm, rfl⟩
  · skip
    refine c_reg ?_ -- region 1 formm.go:38
    refine wl (ro_move rfl) ?_
    refine wl (ro_cmp (r := true) rfl rfl (congrArg some (decide_eq_true (by omega)))) ?_
    refine wl (ro_move rfl) ?_
    refine wlg_yes rfl (ro_move rfl) ?_
    refine wlg_yes rfl (ro_cmp (r := true) rfl rfl (congrArg some (decide_eq_true (by omega)))) ?_
    refine wl (ro_pick rfl rfl rfl) ?_
    refine wl (ro_move rfl) ?_
    refine wlg_no rfl ?_
    refine wlg_no rfl ?_
    refine wlg_no rfl ?_
    refine wlg_no rfl ?_
    refine wlg_no rfl ?_
    refine wlg_no rfl ?_
    refine wl (ro_pick rfl rfl rfl) ?_
    refine wl_nil (x_then (hK3 _ _ ?_))
    clear hK3 K3
    refine wc_condT rfl ?_
    refine c_seq (fun K20 hK20 => ?_)
    refine c_reg ?_ -- region 2 formm.go:39
    refine wl (ro_assign rfl) ?_
    refine wl_nil (x_then (hK20 _ _ ?_))
    clear hK20 K20
    refine c_ret (x_thenR ?_)
    refine bp_ret Tryz.results176 rfl ?_
    exact ⟨congrArg Value.bool (decide_eq_true (by unfold knP; omega)).symm, rfl⟩
  · skip
    refine c_reg ?_ -- region 1 formm.go:38
    refine wl (ro_move rfl) ?_
    refine wl (ro_cmp (r := true) rfl rfl (congrArg some (decide_eq_true (by omega)))) ?_
    refine wl (ro_move rfl) ?_
    refine wlg_yes rfl (ro_move rfl) ?_
    refine wlg_yes rfl (ro_cmp (r := false) rfl rfl (congrArg some (decide_eq_false (by omega)))) ?_
    refine wl (ro_pick rfl rfl rfl) ?_
    refine wl (ro_move rfl) ?_
    refine wlg_yes rfl (ro_move rfl) ?_
    refine wlg_yes rfl (ro_cmp (r := false) rfl rfl (congrArg some (decide_eq_false (by omega)))) ?_
    refine wlg_yes rfl (ro_move rfl) ?_
    refine wlg_no rfl ?_
    refine wlg_no rfl ?_
    refine wlg_yes rfl (ro_pick rfl rfl rfl) ?_
    refine wl (ro_pick rfl rfl rfl) ?_
    refine wl_nil (x_then (hK3 _ _ ?_))
    clear hK3 K3
    refine wc_condF rfl ?_
    refine c_skip (x_then (hK2 _ _ ?_))
    clear hK2 K2
    refine c_seq (fun K21 hK21 => ?_)
    refine c_seq (fun K22 hK22 => ?_)
    refine c_reg ?_ -- region 3 formm.go:41
    refine wl (ro_move rfl) ?_
    refine wl_nil (x_then (hK22 _ _ ?_))
    clear hK22 K22
    refine c_block ?_
    refine c_mid (fun a' w' => w' = w ∧ ∃ e, a' = Fr 32 (upds e [(18, .bool (decide (knS c.toNat)))]) []) ?_ ?_
    · skip
      refine c_seq (fun K23 hK23 => ?_)
      refine c_reg ?_ -- region 4 formm.go:42
      refine wl (ro_cmp (r := decide (c.toNat = 36)) rfl rfl (congrArg some (beqc c.toNat 36))) ?_
      refine wl (ro_assign rfl) ?_
      refine wl_nil (x_then (hK23 _ _ ?_))
      clear hK23 K23
      refine wc_cond rfl (fun hc18 => ?_) (fun hc18 => ?_)
      · try simp only [decide_eq_true_eq, decide_eq_false_iff_not, Bool.not_eq_true', Bool.not_eq_false', Bool.not_eq_eq_eq_not, Bool.not_true, Bool.not_false, beq_iff_eq, bne_iff_ne, ne_eq, beq_eq_false_iff_ne, bne_eq_false_iff_eq, gt_iff_lt, ge_iff_le, Int.not_lt, Int.not_le] at hc18
        refine c_skip (x_then ?_)
        exact ⟨rfl, kp _ ⟨ubo rfl (by unfold knS; omega), trivial⟩⟩
      · try simp only [decide_eq_true_eq, decide_eq_false_iff_not, Bool.not_eq_true', Bool.not_eq_false', Bool.not_eq_eq_eq_not, Bool.not_true, Bool.not_false, beq_iff_eq, bne_iff_ne, ne_eq, beq_eq_false_iff_ne, bne_eq_false_iff_eq, gt_iff_lt, ge_iff_le, Int.not_lt, Int.not_le] at hc18
        refine c_seq (fun K24 hK24 => ?_)
        refine c_reg ?_ -- region 5 formm.go:42
        refine wl (ro_cmp (r := decide (c.toNat = 35)) rfl rfl (congrArg some (beqc c.toNat 35))) ?_
        refine wl (ro_assign rfl) ?_
        refine wl_nil (x_then (hK24 _ _ ?_))
        clear hK24 K24
        refine wc_cond rfl (fun hc18 => ?_) (fun hc18 => ?_)
        · try simp only [decide_eq_true_eq, decide_eq_false_iff_not, Bool.not_eq_true', Bool.not_eq_false', Bool.not_eq_eq_eq_not, Bool.not_true, Bool.not_false, beq_iff_eq, bne_iff_ne, ne_eq, beq_eq_false_iff_ne, bne_eq_false_iff_eq, gt_iff_lt, ge_iff_le, Int.not_lt, Int.not_le] at hc18
          refine c_skip (x_then ?_)
          exact ⟨rfl, kp _ ⟨ubo rfl (by unfold knS; omega), trivial⟩⟩
        · try simp only [decide_eq_true_eq, decide_eq_false_iff_not, Bool.not_eq_true', Bool.not_eq_false', Bool.not_eq_eq_eq_not, Bool.not_true, Bool.not_false, beq_iff_eq, bne_iff_ne, ne_eq, beq_eq_false_iff_ne, bne_eq_false_iff_eq, gt_iff_lt, ge_iff_le, Int.not_lt, Int.not_le] at hc18
          refine c_seq (fun K25 hK25 => ?_)
          refine c_reg ?_ -- region 6 formm.go:42
          refine wl (ro_cmp (r := decide (c.toNat = 40)) rfl rfl (congrArg some (beqc c.toNat 40))) ?_
          refine wl (ro_assign rfl) ?_
          refine wl_nil (x_then (hK25 _ _ ?_))
          clear hK25 K25
          refine wc_cond rfl (fun hc18 => ?_) (fun hc18 => ?_)
          · try simp only [decide_eq_true_eq, decide_eq_false_iff_not, Bool.not_eq_true', Bool.not_eq_false', Bool.not_eq_eq_eq_not, Bool.not_true, Bool.not_false, beq_iff_eq, bne_iff_ne, ne_eq, beq_eq_false_iff_ne, bne_eq_false_iff_eq, gt_iff_lt, ge_iff_le, Int.not_lt, Int.not_le] at hc18
            refine c_skip (x_then ?_)
            exact ⟨rfl, kp _ ⟨ubo rfl (by unfold knS; omega), trivial⟩⟩
          · try simp only [decide_eq_true_eq, decide_eq_false_iff_not, Bool.not_eq_true', Bool.not_eq_false', Bool.not_eq_eq_eq_not, Bool.not_true, Bool.not_false, beq_iff_eq, bne_iff_ne, ne_eq, beq_eq_false_iff_ne, bne_eq_false_iff_eq, gt_iff_lt, ge_iff_le, Int.not_lt, Int.not_le] at hc18
            refine c_seq (fun K26 hK26 => ?_)
            refine c_reg ?_ -- region 7 formm.go:42
            refine wl (ro_cmp (r := decide (c.toNat = 41)) rfl rfl (congrArg some (beqc c.toNat 41))) ?_
            refine wl (ro_assign rfl) ?_
            refine wl_nil (x_then (hK26 _ _ ?_))
            clear hK26 K26
            refine wc_cond rfl (fun hc18 => ?_) (fun hc18 => ?_)
            · try simp only [decide_eq_true_eq, decide_eq_false_iff_not, Bool.not_eq_true', Bool.not_eq_false', Bool.not_eq_eq_eq_not, Bool.not_true, Bool.not_false, beq_iff_eq, bne_iff_ne, ne_eq, beq_eq_false_iff_ne, bne_eq_false_iff_eq, gt_iff_lt, ge_iff_le, Int.not_lt, Int.not_le] at hc18
              refine c_skip (x_then ?_)
              exact ⟨rfl, kp _ ⟨ubo rfl (by unfold knS; omega), trivial⟩⟩
            · try simp only [decide_eq_true_eq, decide_eq_false_iff_not, Bool.not_eq_true', Bool.not_eq_false', Bool.not_eq_eq_eq_not, Bool.not_true, Bool.not_false, beq_iff_eq, bne_iff_ne, ne_eq, beq_eq_false_iff_ne, bne_eq_false_iff_eq, gt_iff_lt, ge_iff_le, Int.not_lt, Int.not_le] at hc18
              refine c_seq (fun K27 hK27 => ?_)
              refine c_reg ?_ -- region 8 formm.go:42
              refine wl (ro_cmp (r := decide (c.toNat = 44)) rfl rfl (congrArg some (beqc c.toNat 44))) ?_
              refine wl (ro_assign rfl) ?_
              refine wl_nil (x_then (hK27 _ _ ?_))
              clear hK27 K27
              refine wc_cond rfl (fun hc18 => ?_) (fun hc18 => ?_)
              · try simp only [decide_eq_true_eq, decide_eq_false_iff_not, Bool.not_eq_true', Bool.not_eq_false', Bool.not_eq_eq_eq_not, Bool.not_true, Bool.not_false, beq_iff_eq, bne_iff_ne, ne_eq, beq_eq_false_iff_ne, bne_eq_false_iff_eq, gt_iff_lt, ge_iff_le, Int.not_lt, Int.not_le] at hc18
                refine c_skip (x_then ?_)
                exact ⟨rfl, kp _ ⟨ubo rfl (by unfold knS; omega), trivial⟩⟩
              · try simp only [decide_eq_true_eq, decide_eq_false_iff_not, Bool.not_eq_true', Bool.not_eq_false', Bool.not_eq_eq_eq_not, Bool.not_true, Bool.not_false, beq_iff_eq, bne_iff_ne, ne_eq, beq_eq_false_iff_ne, bne_eq_false_iff_eq, gt_iff_lt, ge_iff_le, Int.not_lt, Int.not_le] at hc18
                refine c_seq (fun K28 hK28 => ?_)
                refine c_reg ?_ -- region 9 formm.go:42
                refine wl (ro_cmp (r := decide (c.toNat = 58)) rfl rfl (congrArg some (beqc c.toNat 58))) ?_
                refine wl (ro_assign rfl) ?_
                refine wl_nil (x_then (hK28 _ _ ?_))
                clear hK28 K28
                refine wc_cond rfl (fun hc18 => ?_) (fun hc18 => ?_)
                · try simp only [decide_eq_true_eq, decide_eq_false_iff_not, Bool.not_eq_true', Bool.not_eq_false', Bool.not_eq_eq_eq_not, Bool.not_true, Bool.not_false, beq_iff_eq, bne_iff_ne, ne_eq, beq_eq_false_iff_ne, bne_eq_false_iff_eq, gt_iff_lt, ge_iff_le, Int.not_lt, Int.not_le] at hc18
                  refine c_skip (x_then ?_)
                  exact ⟨rfl, kp _ ⟨ubo rfl (by unfold knS; omega), trivial⟩⟩
                · try simp only [decide_eq_true_eq, decide_eq_false_iff_not, Bool.not_eq_true', Bool.not_eq_false', Bool.not_eq_eq_eq_not, Bool.not_true, Bool.not_false, beq_iff_eq, bne_iff_ne, ne_eq, beq_eq_false_iff_ne, bne_eq_false_iff_eq, gt_iff_lt, ge_iff_le, Int.not_lt, Int.not_le] at hc18
                  refine c_seq (fun K29 hK29 => ?_)
                  refine c_reg ?_ -- region 10 formm.go:42
                  refine wl (ro_cmp (r := decide (c.toNat = 43)) rfl rfl (congrArg some (beqc c.toNat 43))) ?_
                  refine wl (ro_assign rfl) ?_
                  refine wl_nil (x_then (hK29 _ _ ?_))
                  clear hK29 K29
                  refine wc_cond rfl (fun hc18 => ?_) (fun hc18 => ?_)
                  · try simp only [decide_eq_true_eq, decide_eq_false_iff_not, Bool.not_eq_true', Bool.not_eq_false', Bool.not_eq_eq_eq_not, Bool.not_true, Bool.not_false, beq_iff_eq, bne_iff_ne, ne_eq, beq_eq_false_iff_ne, bne_eq_false_iff_eq, gt_iff_lt, ge_iff_le, Int.not_lt, Int.not_le] at hc18
                    refine c_skip (x_then ?_)
                    exact ⟨rfl, kp _ ⟨ubo rfl (by unfold knS; omega), trivial⟩⟩
                  · try simp only [decide_eq_true_eq, decide_eq_false_iff_not, Bool.not_eq_true', Bool.not_eq_false', Bool.not_eq_eq_eq_not, Bool.not_true, Bool.not_false, beq_iff_eq, bne_iff_ne, ne_eq, beq_eq_false_iff_ne, bne_eq_false_iff_eq, gt_iff_lt, ge_iff_le, Int.not_lt, Int.not_le] at hc18
                    refine c_seq (fun K30 hK30 => ?_)
                    refine c_reg ?_ -- region 11 formm.go:42
                    refine wl (ro_cmp (r := decide (c.toNat = 45)) rfl rfl (congrArg some (beqc c.toNat 45))) ?_
                    refine wl (ro_assign rfl) ?_
                    refine wl_nil (x_then (hK30 _ _ ?_))
                    clear hK30 K30
                    refine wc_cond rfl (fun hc18 => ?_) (fun hc18 => ?_)
                    · try simp only [decide_eq_true_eq, decide_eq_false_iff_not, Bool.not_eq_true', Bool.not_eq_false', Bool.not_eq_eq_eq_not, Bool.not_true, Bool.not_false, beq_iff_eq, bne_iff_ne, ne_eq, beq_eq_false_iff_ne, bne_eq_false_iff_eq, gt_iff_lt, ge_iff_le, Int.not_lt, Int.not_le] at hc18
                      refine c_skip (x_then ?_)
                      exact ⟨rfl, kp _ ⟨ubo rfl (by unfold knS; omega), trivial⟩⟩
                    · try simp only [decide_eq_true_eq, decide_eq_false_iff_not, Bool.not_eq_true', Bool.not_eq_false', Bool.not_eq_eq_eq_not, Bool.not_true, Bool.not_false, beq_iff_eq, bne_iff_ne, ne_eq, beq_eq_false_iff_ne, bne_eq_false_iff_eq, gt_iff_lt, ge_iff_le, Int.not_lt, Int.not_le] at hc18
                      refine c_seq (fun K31 hK31 => ?_)
                      refine c_reg ?_ -- region 12 formm.go:42
                      refine wl (ro_cmp (r := decide (c.toNat = 42)) rfl rfl (congrArg some (beqc c.toNat 42))) ?_
                      refine wl (ro_assign rfl) ?_
                      refine wl_nil (x_then (hK31 _ _ ?_))
                      clear hK31 K31
                      refine wc_cond rfl (fun hc18 => ?_) (fun hc18 => ?_)
                      · try simp only [decide_eq_true_eq, decide_eq_false_iff_not, Bool.not_eq_true', Bool.not_eq_false', Bool.not_eq_eq_eq_not, Bool.not_true, Bool.not_false, beq_iff_eq, bne_iff_ne, ne_eq, beq_eq_false_iff_ne, bne_eq_false_iff_eq, gt_iff_lt, ge_iff_le, Int.not_lt, Int.not_le] at hc18
                        refine c_skip (x_then ?_)
                        exact ⟨rfl, kp _ ⟨ubo rfl (by unfold knS; omega), trivial⟩⟩
                      · try simp only [decide_eq_true_eq, decide_eq_false_iff_not, Bool.not_eq_true', Bool.not_eq_false', Bool.not_eq_eq_eq_not, Bool.not_true, Bool.not_false, beq_iff_eq, bne_iff_ne, ne_eq, beq_eq_false_iff_ne, bne_eq_false_iff_eq, gt_iff_lt, ge_iff_le, Int.not_lt, Int.not_le] at hc18
                        refine c_seq (fun K32 hK32 => ?_)
                        refine c_reg ?_ -- region 13 formm.go:42
                        refine wl (ro_cmp (r := decide (c.toNat = 47)) rfl rfl (congrArg some (beqc c.toNat 47))) ?_
                        refine wl (ro_assign rfl) ?_
                        refine wl_nil (x_then (hK32 _ _ ?_))
                        clear hK32 K32
                        refine wc_cond rfl (fun hc18 => ?_) (fun hc18 => ?_)
                        · try simp only [decide_eq_true_eq, decide_eq_false_iff_not, Bool.not_eq_true', Bool.not_eq_false', Bool.not_eq_eq_eq_not, Bool.not_true, Bool.not_false, beq_iff_eq, bne_iff_ne, ne_eq, beq_eq_false_iff_ne, bne_eq_false_iff_eq, gt_iff_lt, ge_iff_le, Int.not_lt, Int.not_le] at hc18
                          refine c_skip (x_then ?_)
                          exact ⟨rfl, kp _ ⟨ubo rfl (by unfold knS; omega), trivial⟩⟩
                        · try simp only [decide_eq_true_eq, decide_eq_false_iff_not, Bool.not_eq_true', Bool.not_eq_false', Bool.not_eq_eq_eq_not, Bool.not_true, Bool.not_false, beq_iff_eq, bne_iff_ne, ne_eq, beq_eq_false_iff_ne, bne_eq_false_iff_eq, gt_iff_lt, ge_iff_le, Int.not_lt, Int.not_le] at hc18
                          refine c_seq (fun K33 hK33 => ?_)
                          refine c_reg ?_ -- region 14 formm.go:42
                          refine wl (ro_cmp (r := decide (c.toNat = 61)) rfl rfl (congrArg some (beqc c.toNat 61))) ?_
                          refine wl (ro_assign rfl) ?_
                          refine wl_nil (x_then (hK33 _ _ ?_))
                          clear hK33 K33
                          refine wc_cond rfl (fun hc18 => ?_) (fun hc18 => ?_)
                          · try simp only [decide_eq_true_eq, decide_eq_false_iff_not, Bool.not_eq_true', Bool.not_eq_false', Bool.not_eq_eq_eq_not, Bool.not_true, Bool.not_false, beq_iff_eq, bne_iff_ne, ne_eq, beq_eq_false_iff_ne, bne_eq_false_iff_eq, gt_iff_lt, ge_iff_le, Int.not_lt, Int.not_le] at hc18
                            refine c_skip (x_then ?_)
                            exact ⟨rfl, kp _ ⟨ubo rfl (by unfold knS; omega), trivial⟩⟩
                          · try simp only [decide_eq_true_eq, decide_eq_false_iff_not, Bool.not_eq_true', Bool.not_eq_false', Bool.not_eq_eq_eq_not, Bool.not_true, Bool.not_false, beq_iff_eq, bne_iff_ne, ne_eq, beq_eq_false_iff_ne, bne_eq_false_iff_eq, gt_iff_lt, ge_iff_le, Int.not_lt, Int.not_le] at hc18
                            refine c_seq (fun K34 hK34 => ?_)
                            refine c_reg ?_ -- region 15 formm.go:42
                            refine wl (ro_cmp (r := decide (c.toNat = 60)) rfl rfl (congrArg some (beqc c.toNat 60))) ?_
                            refine wl (ro_assign rfl) ?_
                            refine wl_nil (x_then (hK34 _ _ ?_))
                            clear hK34 K34
                            refine wc_cond rfl (fun hc18 => ?_) (fun hc18 => ?_)
                            · try simp only [decide_eq_true_eq, decide_eq_false_iff_not, Bool.not_eq_true', Bool.not_eq_false', Bool.not_eq_eq_eq_not, Bool.not_true, Bool.not_false, beq_iff_eq, bne_iff_ne, ne_eq, beq_eq_false_iff_ne, bne_eq_false_iff_eq, gt_iff_lt, ge_iff_le, Int.not_lt, Int.not_le] at hc18
                              refine c_skip (x_then ?_)
                              exact ⟨rfl, kp _ ⟨ubo rfl (by unfold knS; omega), trivial⟩⟩
                            · try simp only [decide_eq_true_eq, decide_eq_false_iff_not, Bool.not_eq_true', Bool.not_eq_false', Bool.not_eq_eq_eq_not, Bool.not_true, Bool.not_false, beq_iff_eq, bne_iff_ne, ne_eq, beq_eq_false_iff_ne, bne_eq_false_iff_eq, gt_iff_lt, ge_iff_le, Int.not_lt, Int.not_le] at hc18
                              refine c_reg ?_ -- region 16 formm.go:42
                              refine wl (ro_cmp (r := decide (c.toNat = 62)) rfl rfl (congrArg some (beqc c.toNat 62))) ?_
                              refine wl (ro_assign rfl) ?_
                              refine wl_nil (x_then ?_)
                              exact ⟨rfl, kp _ ⟨ubo rfl (by unfold knS; omega), trivial⟩⟩
    rintro a' w2 ⟨rfl, e, rfl⟩
    refine wc_cond rfl (fun hc18 => ?_) (fun hc18 => ?_)
    · try simp only [decide_eq_true_eq, decide_eq_false_iff_not, Bool.not_eq_true', Bool.not_eq_false', Bool.not_eq_eq_eq_not, Bool.not_true, Bool.not_false, beq_iff_eq, bne_iff_ne, ne_eq, beq_eq_false_iff_ne, bne_eq_false_iff_eq, gt_iff_lt, ge_iff_le, Int.not_lt, Int.not_le] at hc18
      refine c_seq (fun K35 hK35 => ?_)
      refine c_reg ?_ -- region 17 formm.go:43
      refine wl (ro_assign rfl) ?_
      refine wl_nil (x_then (hK35 _ _ ?_))
      clear hK35 K35
      refine c_ret (x_blkR (x_thenR ?_))
      refine bp_ret Tryz.results176 rfl ?_
      first
        | exact ⟨congrArg Value.bool (decide_eq_true (by unfold knP; exact .inr (.inr hc18))).symm, rfl⟩
        | exact ⟨congrArg Value.bool (decide_eq_false (by unfold knP; rintro (h | h | h); { omega }; { omega }; { exact hc18 h })).symm, rfl⟩
    · try simp only [decide_eq_true_eq, decide_eq_false_iff_not, Bool.not_eq_true', Bool.not_eq_false', Bool.not_eq_eq_eq_not, Bool.not_true, Bool.not_false, beq_iff_eq, bne_iff_ne, ne_eq, beq_eq_false_iff_ne, bne_eq_false_iff_eq, gt_iff_lt, ge_iff_le, Int.not_lt, Int.not_le] at hc18
      refine c_skip (x_blk (x_then (hK21 _ _ ?_)))
      clear hK21 K21
      refine forget [] trivial (fun e => ?_)
      refine c_seq (fun K36 hK36 => ?_)
      refine c_reg ?_ -- region 18 formm.go:45
      refine wl (ro_assign rfl) ?_
      refine wl_nil (x_then (hK36 _ _ ?_))
      clear hK36 K36
      refine c_ret ?_
      refine bp_ret Tryz.results176 rfl ?_
      first
        | exact ⟨congrArg Value.bool (decide_eq_true (by unfold knP; exact .inr (.inr hc18))).symm, rfl⟩
        | exact ⟨congrArg Value.bool (decide_eq_false (by unfold knP; rintro (h | h | h); { omega }; { omega }; { exact hc18 h })).symm, rfl⟩
  · skip
    refine c_reg ?_ -- region 1 formm.go:38
    refine wl (ro_move rfl) ?_
    refine wl (ro_cmp (r := true) rfl rfl (congrArg some (decide_eq_true (by omega)))) ?_
    refine wl (ro_move rfl) ?_
    refine wlg_yes rfl (ro_move rfl) ?_
    refine wlg_yes rfl (ro_cmp (r := false) rfl rfl (congrArg some (decide_eq_false (by omega)))) ?_
    refine wl (ro_pick rfl rfl rfl) ?_
    refine wl (ro_move rfl) ?_
    refine wlg_yes rfl (ro_move rfl) ?_
    refine wlg_yes rfl (ro_cmp (r := true) rfl rfl (congrArg some (decide_eq_true (by omega)))) ?_
    refine wlg_yes rfl (ro_move rfl) ?_
    refine wlg_yes rfl (ro_move rfl) ?_
    refine wlg_yes rfl (ro_cmp (r := true) rfl rfl (congrArg some (decide_eq_true (by omega)))) ?_
    refine wlg_yes rfl (ro_pick rfl rfl rfl) ?_
    refine wl (ro_pick rfl rfl rfl) ?_
    refine wl_nil (x_then (hK3 _ _ ?_))
    clear hK3 K3
    refine wc_condT rfl ?_
    refine c_seq (fun K37 hK37 => ?_)
    refine c_reg ?_ -- region 2 formm.go:39
    refine wl (ro_assign rfl) ?_
    refine wl_nil (x_then (hK37 _ _ ?_))
    clear hK37 K37
    refine c_ret (x_thenR ?_)
    refine bp_ret Tryz.results176 rfl ?_
    exact ⟨congrArg Value.bool (decide_eq_true (by unfold knP; omega)).symm, rfl⟩
  · skip
    refine c_reg ?_ -- region 1 formm.go:38
    refine wl (ro_move rfl) ?_
    refine wl (ro_cmp (r := true) rfl rfl (congrArg some (decide_eq_true (by omega)))) ?_
    refine wl (ro_move rfl) ?_
    refine wlg_yes rfl (ro_move rfl) ?_
    refine wlg_yes rfl (ro_cmp (r := false) rfl rfl (congrArg some (decide_eq_false (by omega)))) ?_
    refine wl (ro_pick rfl rfl rfl) ?_
    refine wl (ro_move rfl) ?_
    refine wlg_yes rfl (ro_move rfl) ?_
    refine wlg_yes rfl (ro_cmp (r := true) rfl rfl (congrArg some (decide_eq_true (by omega)))) ?_
    refine wlg_yes rfl (ro_move rfl) ?_
    refine wlg_yes rfl (ro_move rfl) ?_
    refine wlg_yes rfl (ro_cmp (r := false) rfl rfl (congrArg some (decide_eq_false (by omega)))) ?_
    refine wlg_yes rfl (ro_pick rfl rfl rfl) ?_
    refine wl (ro_pick rfl rfl rfl) ?_
    refine wl_nil (x_then (hK3 _ _ ?_))
    clear hK3 K3
    refine wc_condF rfl ?_
    refine c_skip (x_then (hK2 _ _ ?_))
    clear hK2 K2
    refine c_seq (fun K38 hK38 => ?_)
    refine c_seq (fun K39 hK39 => ?_)
    refine c_reg ?_ -- region 3 formm.go:41
    refine wl (ro_move rfl) ?_
    refine wl_nil (x_then (hK39 _ _ ?_))
    clear hK39 K39
    refine c_block ?_
    refine c_mid (fun a' w' => w' = w ∧ ∃ e, a' = Fr 32 (upds e [(18, .bool (decide (knS c.toNat)))]) []) ?_ ?_
    · skip
      refine c_seq (fun K40 hK40 => ?_)
      refine c_reg ?_ -- region 4 formm.go:42
      refine wl (ro_cmp (r := decide (c.toNat = 36)) rfl rfl (congrArg some (beqc c.toNat 36))) ?_
      refine wl (ro_assign rfl) ?_
      refine wl_nil (x_then (hK40 _ _ ?_))
      clear hK40 K40
      refine wc_cond rfl (fun hc18 => ?_) (fun hc18 => ?_)
      · try simp only [decide_eq_true_eq, decide_eq_false_iff_not, Bool.not_eq_true', Bool.not_eq_false', Bool.not_eq_eq_eq_not, Bool.not_true, Bool.not_false, beq_iff_eq, bne_iff_ne, ne_eq, beq_eq_false_iff_ne, bne_eq_false_iff_eq, gt_iff_lt, ge_iff_le, Int.not_lt, Int.not_le] at hc18
        refine c_skip (x_then ?_)
        exact ⟨rfl, kp _ ⟨ubo rfl (by unfold knS; omega), trivial⟩⟩
      · try simp only [decide_eq_true_eq, decide_eq_false_iff_not, Bool.not_eq_true', Bool.not_eq_false', Bool.not_eq_eq_eq_not, Bool.not_true, Bool.not_false, beq_iff_eq, bne_iff_ne, ne_eq, beq_eq_false_iff_ne, bne_eq_false_iff_eq, gt_iff_lt, ge_iff_le, Int.not_lt, Int.not_le] at hc18
        refine c_seq (fun K41 hK41 => ?_)
        refine c_reg ?_ -- region 5 formm.go:42
        refine wl (ro_cmp (r := decide (c.toNat = 35)) rfl rfl (congrArg some (beqc c.toNat 35))) ?_
        refine wl (ro_assign rfl) ?_
        refine wl_nil (x_then (hK41 _ _ ?_))
        clear hK41 K41
        refine wc_cond rfl (fun hc18 => ?_) (fun hc18 => ?_)
        · try simp only [decide_eq_true_eq, decide_eq_false_iff_not, Bool.not_eq_true', Bool.not_eq_false', Bool.not_eq_eq_eq_not, Bool.not_true, Bool.not_false, beq_iff_eq, bne_iff_ne, ne_eq, beq_eq_false_iff_ne, bne_eq_false_iff_eq, gt_iff_lt, ge_iff_le, Int.not_lt, Int.not_le] at hc18
          refine c_skip (x_then ?_)
          exact ⟨rfl, kp _ ⟨ubo rfl (by unfold knS; omega), trivial⟩⟩
        · try simp only [decide_eq_true_eq, decide_eq_false_iff_not, Bool.not_eq_true', Bool.not_eq_false', Bool.not_eq_eq_eq_not, Bool.not_true, Bool.not_false, beq_iff_eq, bne_iff_ne, ne_eq, beq_eq_false_iff_ne, bne_eq_false_iff_eq, gt_iff_lt, ge_iff_le, Int.not_lt, Int.not_le] at hc18
          refine c_seq (fun K42 hK42 => ?_)
          refine c_reg ?_ -- region 6 formm.go:42
          refine wl (ro_cmp (r := decide (c.toNat = 40)) rfl rfl (congrArg some (beqc c.toNat 40))) ?_
          refine wl (ro_assign rfl) ?_
          refine wl_nil (x_then (hK42 _ _ ?_))
          clear hK42 K42
          refine wc_cond rfl (fun hc18 => ?_) (fun hc18 => ?_)
          · try simp only [decide_eq_true_eq, decide_eq_false_iff_not, Bool.not_eq_true', Bool.not_eq_false', Bool.not_eq_eq_eq_not, Bool.not_true, Bool.not_false, beq_iff_eq, bne_iff_ne, ne_eq, beq_eq_false_iff_ne, bne_eq_false_iff_eq, gt_iff_lt, ge_iff_le, Int.not_lt, Int.not_le] at hc18
            refine c_skip (x_then ?_)
            exact ⟨rfl, kp _ ⟨ubo rfl (by unfold knS; omega), trivial⟩⟩
          · try simp only [decide_eq_true_eq, decide_eq_false_iff_not, Bool.not_eq_true', Bool.not_eq_false', Bool.not_eq_eq_eq_not, Bool.not_true, Bool.not_false, beq_iff_eq, bne_iff_ne, ne_eq, beq_eq_false_iff_ne, bne_eq_false_iff_eq, gt_iff_lt, ge_iff_le, Int.not_lt, Int.not_le] at hc18
            refine c_seq (fun K43 hK43 => ?_)
            refine c_reg ?_ -- region 7 formm.go:42
            refine wl (ro_cmp (r := decide (c.toNat = 41)) rfl rfl (congrArg some (beqc c.toNat 41))) ?_
            refine wl (ro_assign rfl) ?_
            refine wl_nil (x_then (hK43 _ _ ?_))
            clear hK43 K43
            refine wc_cond rfl (fun hc18 => ?_) (fun hc18 => ?_)
            · try simp only [decide_eq_true_eq, decide_eq_false_iff_not, Bool.not_eq_true', Bool.not_eq_false', Bool.not_eq_eq_eq_not, Bool.not_true, Bool.not_false, beq_iff_eq, bne_iff_ne, ne_eq, beq_eq_false_iff_ne, bne_eq_false_iff_eq, gt_iff_lt, ge_iff_le, Int.not_lt, Int.not_le] at hc18
              refine c_skip (x_then ?_)
              exact ⟨rfl, kp _ ⟨ubo rfl (by unfold knS; omega), trivial⟩⟩
            · try simp only [decide_eq_true_eq, decide_eq_false_iff_not, Bool.not_eq_true', Bool.not_eq_false', Bool.not_eq_eq_eq_not, Bool.not_true, Bool.not_false, beq_iff_eq, bne_iff_ne, ne_eq, beq_eq_false_iff_ne, bne_eq_false_iff_eq, gt_iff_lt, ge_iff_le, Int.not_lt, Int.not_le] at hc18
              refine c_seq (fun K44 hK44 => ?_)
              refine c_reg ?_ -- region 8 formm.go:42
              refine wl (ro_cmp (r := decide (c.toNat = 44)) rfl rfl (congrArg some (beqc c.toNat 44))) ?_
              refine wl (ro_assign rfl) ?_
              refine wl_nil (x_then (hK44 _ _ ?_))
              clear hK44 K44
              refine wc_cond rfl (fun hc18 => ?_) (fun hc18 => ?_)
              · try simp only [decide_eq_true_eq, decide_eq_false_iff_not, Bool.not_eq_true', Bool.not_eq_false', Bool.not_eq_eq_eq_not, Bool.not_true, Bool.not_false, beq_iff_eq, bne_iff_ne, ne_eq, beq_eq_false_iff_ne, bne_eq_false_iff_eq, gt_iff_lt, ge_iff_le, Int.not_lt, Int.not_le] at hc18
                refine c_skip (x_then ?_)
                exact ⟨rfl, kp _ ⟨ubo rfl (by unfold knS; omega), trivial⟩⟩
              · try simp only [decide_eq_true_eq, decide_eq_false_iff_not, Bool.not_eq_true', Bool.not_eq_false', Bool.not_eq_eq_eq_not, Bool.not_true, Bool.not_false, beq_iff_eq, bne_iff_ne, ne_eq, beq_eq_false_iff_ne, bne_eq_false_iff_eq, gt_iff_lt, ge_iff_le, Int.not_lt, Int.not_le] at hc18
                refine c_seq (fun K45 hK45 => ?_)
                refine c_reg ?_ -- region 9 formm.go:42
                refine wl (ro_cmp (r := decide (c.toNat = 58)) rfl rfl (congrArg some (beqc c.toNat 58))) ?_
                refine wl (ro_assign rfl) ?_
                refine wl_nil (x_then (hK45 _ _ ?_))
                clear hK45 K45
                refine wc_cond rfl (fun hc18 => ?_) (fun hc18 => ?_)
                · try simp only [decide_eq_true_eq, decide_eq_false_iff_not, Bool.not_eq_true', Bool.not_eq_false', Bool.not_eq_eq_eq_not, Bool.not_true, Bool.not_false, beq_iff_eq, bne_iff_ne, ne_eq, beq_eq_false_iff_ne, bne_eq_false_iff_eq, gt_iff_lt, ge_iff_le, Int.not_lt, Int.not_le] at hc18
                  refine c_skip (x_then ?_)
                  exact ⟨rfl, kp _ ⟨ubo rfl (by unfold knS; omega), trivial⟩⟩
                · try simp only [decide_eq_true_eq, decide_eq_false_iff_not, Bool.not_eq_true', Bool.not_eq_false', Bool.not_eq_eq_eq_not, Bool.not_true, Bool.not_false, beq_iff_eq, bne_iff_ne, ne_eq, beq_eq_false_iff_ne, bne_eq_false_iff_eq, gt_iff_lt, ge_iff_le, Int.not_lt, Int.not_le] at hc18
                  refine c_seq (fun K46 hK46 => ?_)
                  refine c_reg ?_ -- region 10 formm.go:42
                  refine wl (ro_cmp (r := decide (c.toNat = 43)) rfl rfl (congrArg some (beqc c.toNat 43))) ?_
                  refine wl (ro_assign rfl) ?_
                  refine wl_nil (x_then (hK46 _ _ ?_))
                  clear hK46 K46
                  refine wc_cond rfl (fun hc18 => ?_) (fun hc18 => ?_)
                  · try simp only [decide_eq_true_eq, decide_eq_false_iff_not, Bool.not_eq_true', Bool.not_eq_false', Bool.not_eq_eq_eq_not, Bool.not_true, Bool.not_false, beq_iff_eq, bne_iff_ne, ne_eq, beq_eq_false_iff_ne, bne_eq_false_iff_eq, gt_iff_lt, ge_iff_le, Int.not_lt, Int.not_le] at hc18
                    refine c_skip (x_then ?_)
                    exact ⟨rfl, kp _ ⟨ubo rfl (by unfold knS; omega), trivial⟩⟩
                  · try simp only [decide_eq_true_eq, decide_eq_false_iff_not, Bool.not_eq_true', Bool.not_eq_false', Bool.not_eq_eq_eq_not, Bool.not_true, Bool.not_false, beq_iff_eq, bne_iff_ne, ne_eq, beq_eq_false_iff_ne, bne_eq_false_iff_eq, gt_iff_lt, ge_iff_le, Int.not_lt, Int.not_le] at hc18
                    refine c_seq (fun K47 hK47 => ?_)
                    refine c_reg ?_ -- region 11 formm.go:42
                    refine wl (ro_cmp (r := decide (c.toNat = 45)) rfl rfl (congrArg some (beqc c.toNat 45))) ?_
                    refine wl (ro_assign rfl) ?_
                    refine wl_nil (x_then (hK47 _ _ ?_))
                    clear hK47 K47
                    refine wc_cond rfl (fun hc18 => ?_) (fun hc18 => ?_)
                    · try simp only [decide_eq_true_eq, decide_eq_false_iff_not, Bool.not_eq_true', Bool.not_eq_false', Bool.not_eq_eq_eq_not, Bool.not_true, Bool.not_false, beq_iff_eq, bne_iff_ne, ne_eq, beq_eq_false_iff_ne, bne_eq_false_iff_eq, gt_iff_lt, ge_iff_le, Int.not_lt, Int.not_le] at hc18
                      refine c_skip (x_then ?_)
                      exact ⟨rfl, kp _ ⟨ubo rfl (by unfold knS; omega), trivial⟩⟩
                    · try simp only [decide_eq_true_eq, decide_eq_false_iff_not, Bool.not_eq_true', Bool.not_eq_false', Bool.not_eq_eq_eq_not, Bool.not_true, Bool.not_false, beq_iff_eq, bne_iff_ne, ne_eq, beq_eq_false_iff_ne, bne_eq_false_iff_eq, gt_iff_lt, ge_iff_le, Int.not_lt, Int.not_le] at hc18
                      refine c_seq (fun K48 hK48 => ?_)
                      refine c_reg ?_ -- region 12 formm.go:42
                      refine wl (ro_cmp (r := decide (c.toNat = 42)) rfl rfl (congrArg some (beqc c.toNat 42))) ?_
                      refine wl (ro_assign rfl) ?_
                      refine wl_nil (x_then (hK48 _ _ ?_))
                      clear hK48 K48
                      refine wc_cond rfl (fun hc18 => ?_) (fun hc18 => ?_)
                      · try simp only [decide_eq_true_eq, decide_eq_false_iff_not, Bool.not_eq_true', Bool.not_eq_false', Bool.not_eq_eq_eq_not, Bool.not_true, Bool.not_false, beq_iff_eq, bne_iff_ne, ne_eq, beq_eq_false_iff_ne, bne_eq_false_iff_eq, gt_iff_lt, ge_iff_le, Int.not_lt, Int.not_le] at hc18
                        refine c_skip (x_then ?_)
                        exact ⟨rfl, kp _ ⟨ubo rfl (by unfold knS; omega), trivial⟩⟩
                      · try simp only [decide_eq_true_eq, decide_eq_false_iff_not, Bool.not_eq_true', Bool.not_eq_false', Bool.not_eq_eq_eq_not, Bool.not_true, Bool.not_false, beq_iff_eq, bne_iff_ne, ne_eq, beq_eq_false_iff_ne, bne_eq_false_iff_eq, gt_iff_lt, ge_iff_le, Int.not_lt, Int.not_le] at hc18
                        refine c_seq (fun K49 hK49 => ?_)
                        refine c_reg ?_ -- region 13 formm.go:42
                        refine wl (ro_cmp (r := decide (c.toNat = 47)) rfl rfl (congrArg some (beqc c.toNat 47))) ?_
                        refine wl (ro_assign rfl) ?_
                        refine wl_nil (x_then (hK49 _ _ ?_))
                        clear hK49 K49
                        refine wc_cond rfl (fun hc18 => ?_) (fun hc18 => ?_)
                        · try simp only [decide_eq_true_eq, decide_eq_false_iff_not, Bool.not_eq_true', Bool.not_eq_false', Bool.not_eq_eq_eq_not, Bool.not_true, Bool.not_false, beq_iff_eq, bne_iff_ne, ne_eq, beq_eq_false_iff_ne, bne_eq_false_iff_eq, gt_iff_lt, ge_iff_le, Int.not_lt, Int.not_le] at hc18
                          refine c_skip (x_then ?_)
                          exact ⟨rfl, kp _ ⟨ubo rfl (by unfold knS; omega), trivial⟩⟩
                        · try simp only [decide_eq_true_eq, decide_eq_false_iff_not, Bool.not_eq_true', Bool.not_eq_false', Bool.not_eq_eq_eq_not, Bool.not_true, Bool.not_false, beq_iff_eq, bne_iff_ne, ne_eq, beq_eq_false_iff_ne, bne_eq_false_iff_eq, gt_iff_lt, ge_iff_le, Int.not_lt, Int.not_le] at hc18
                          refine c_seq (fun K50 hK50 => ?_)
                          refine c_reg ?_ -- region 14 formm.go:42
                          refine wl (ro_cmp (r := decide (c.toNat = 61)) rfl rfl (congrArg some (beqc c.toNat 61))) ?_
                          refine wl (ro_assign rfl) ?_
                          refine wl_nil (x_then (hK50 _ _ ?_))
                          clear hK50 K50
                          refine wc_cond rfl (fun hc18 => ?_) (fun hc18 => ?_)
                          · try simp only [decide_eq_true_eq, decide_eq_false_iff_not, Bool.not_eq_true', Bool.not_eq_false', Bool.not_eq_eq_eq_not, Bool.not_true, Bool.not_false, beq_iff_eq, bne_iff_ne, ne_eq, beq_eq_false_iff_ne, bne_eq_false_iff_eq, gt_iff_lt, ge_iff_le, Int.not_lt, Int.not_le] at hc18
                            refine c_skip (x_then ?_)
                            exact ⟨rfl, kp _ ⟨ubo rfl (by unfold knS; omega), trivial⟩⟩
                          · try simp only [decide_eq_true_eq, decide_eq_false_iff_not, Bool.not_eq_true', Bool.not_eq_false', Bool.not_eq_eq_eq_not, Bool.not_true, Bool.not_false, beq_iff_eq, bne_iff_ne, ne_eq, beq_eq_false_iff_ne, bne_eq_false_iff_eq, gt_iff_lt, ge_iff_le, Int.not_lt, Int.not_le] at hc18
                            refine c_seq (fun K51 hK51 => ?_)
                            refine c_reg ?_ -- region 15 formm.go:42
                            refine wl (ro_cmp (r := decide (c.toNat = 60)) rfl rfl (congrArg some (beqc c.toNat 60))) ?_
                            refine wl (ro_assign rfl) ?_
                            refine wl_nil (x_then (hK51 _ _ ?_))
                            clear hK51 K51
                            refine wc_cond rfl (fun hc18 => ?_) (fun hc18 => ?_)
                            · try simp only [decide_eq_true_eq, decide_eq_false_iff_not, Bool.not_eq_true', Bool.not_eq_false', Bool.not_eq_eq_eq_not, Bool.not_true, Bool.not_false, beq_iff_eq, bne_iff_ne, ne_eq, beq_eq_false_iff_ne, bne_eq_false_iff_eq, gt_iff_lt, ge_iff_le, Int.not_lt, Int.not_le] at hc18
                              refine c_skip (x_then ?_)
                              exact ⟨rfl, kp _ ⟨ubo rfl (by unfold knS; omega), trivial⟩⟩
                            · try simp only [decide_eq_true_eq, decide_eq_false_iff_not, Bool.not_eq_true', Bool.not_eq_false', Bool.not_eq_eq_eq_not, Bool.not_true, Bool.not_false, beq_iff_eq, bne_iff_ne, ne_eq, beq_eq_false_iff_ne, bne_eq_false_iff_eq, gt_iff_lt, ge_iff_le, Int.not_lt, Int.not_le] at hc18
                              refine c_reg ?_ -- region 16 formm.go:42
                              refine wl (ro_cmp (r := decide (c.toNat = 62)) rfl rfl (congrArg some (beqc c.toNat 62))) ?_
                              refine wl (ro_assign rfl) ?_
                              refine wl_nil (x_then ?_)
                              exact ⟨rfl, kp _ ⟨ubo rfl (by unfold knS; omega), trivial⟩⟩
    rintro a' w2 ⟨rfl, e, rfl⟩
    refine wc_cond rfl (fun hc18 => ?_) (fun hc18 => ?_)
    · try simp only [decide_eq_true_eq, decide_eq_false_iff_not, Bool.not_eq_true', Bool.not_eq_false', Bool.not_eq_eq_eq_not, Bool.not_true, Bool.not_false, beq_iff_eq, bne_iff_ne, ne_eq, beq_eq_false_iff_ne, bne_eq_false_iff_eq, gt_iff_lt, ge_iff_le, Int.not_lt, Int.not_le] at hc18
      refine c_seq (fun K52 hK52 => ?_)
      refine c_reg ?_ -- region 17 formm.go:43
      refine wl (ro_assign rfl) ?_
      refine wl_nil (x_then (hK52 _ _ ?_))
      clear hK52 K52
      refine c_ret (x_blkR (x_thenR ?_))
      refine bp_ret Tryz.results176 rfl ?_
      first
        | exact ⟨congrArg Value.bool (decide_eq_true (by unfold knP; exact .inr (.inr hc18))).symm, rfl⟩
        | exact ⟨congrArg Value.bool (decide_eq_false (by unfold knP; rintro (h | h | h); { omega }; { omega }; { exact hc18 h })).symm, rfl⟩
    · try simp only [decide_eq_true_eq, decide_eq_false_iff_not, Bool.not_eq_true', Bool.not_eq_false', Bool.not_eq_eq_eq_not, Bool.not_true, Bool.not_false, beq_iff_eq, bne_iff_ne, ne_eq, beq_eq_false_iff_ne, bne_eq_false_iff_eq, gt_iff_lt, ge_iff_le, Int.not_lt, Int.not_le] at hc18
      refine c_skip (x_blk (x_then (hK38 _ _ ?_)))
      clear hK38 K38
      refine forget [] trivial (fun e => ?_)
      refine c_seq (fun K53 hK53 => ?_)
      refine c_reg ?_ -- region 18 formm.go:45
      refine wl (ro_assign rfl) ?_
      refine wl_nil (x_then (hK53 _ _ ?_))
      clear hK53 K53
      refine c_ret ?_
      refine bp_ret Tryz.results176 rfl ?_
      first
        | exact ⟨congrArg Value.bool (decide_eq_true (by unfold knP; exact .inr (.inr hc18))).symm, rfl⟩
        | exact ⟨congrArg Value.bool (decide_eq_false (by unfold knP; rintro (h | h | h); { omega }; { omega }; { exact hc18 h })).symm, rfl⟩

/-- The reader's cells. -/
abbrev rdl (s : List UInt8) (p : Nat) (V : Value) (er at' : Int) : List Value := [S s, i64c p, V, icv er, icv at']

theorem fail133 {w : World} {pb : Nat} {s : List UInt8} {p : Nat} {V : Value} {er at' x a : Int} (he : x ≠ 0) (hB : Blk w.heap pb (rdl s p V er at') 168) :
    Ret Tryz.prog 133 [ptr pb, icv x, icv a] w (fun v w' => v = icv (-1) ∧ (∃ er' at', er' ≠ 0 ∧ Blk w'.heap pb (rdl s p V er' at') 168) ∧ Fram (one pb) w w') := by
  have hF : Fram (one pb) w w := Fram.refl _ _
  refine ret_of Tryz.func133 rfl Tryz.ntmps133 rfl ?_
  refine c_seq (fun K1 hK1 => ?_)
  refine c_reg ?_ -- region 0 formm.go:29
  refine wl (ro_assign rfl) ?_
  refine wl_nil (x_then (hK1 _ _ ?_))
  clear hK1 K1
  refine c_seq (fun K2 hK2 => ?_)
  refine c_seq (fun K3 hK3 => ?_)
  refine c_reg ?_ -- region 1 formm.go:30
  refine wl (ro_move rfl) ?_
  refine wl (ro_nilCheck rfl) ?_
  refine wl (ro_fieldAddr (k := 3) rfl fo_168_3) ?_
  refine wl (ro_loadB rfl sc_26 (hB) (rfl)) ?_
  refine wl (ro_cmp (r := decide (er = 0)) rfl rfl (congrArg some (by by_cases h : er = 0 <;> simp [h]))) ?_
  refine wl_nil (x_then (hK3 _ _ ?_))
  clear hK3 K3
  refine wc_cond rfl (fun hc11 => ?_) (fun hc11 => ?_)
  · try simp only [decide_eq_true_eq, decide_eq_false_iff_not, Bool.not_eq_true', Bool.not_eq_false', Bool.not_eq_eq_eq_not, Bool.not_true, Bool.not_false, beq_iff_eq, bne_iff_ne, ne_eq, beq_eq_false_iff_ne, bne_eq_false_iff_eq, gt_iff_lt, ge_iff_le, Int.not_lt, Int.not_le] at hc11
    refine c_reg ?_ -- region 2 formm.go:31
    refine wl (ro_move rfl) ?_
    refine wl (ro_move rfl) ?_
    refine wl (ro_move rfl) ?_
    refine wl (ro_move rfl) ?_
    refine wl (ro_nilCheck rfl) ?_
    refine wl (ro_fieldAddr (k := 3) rfl fo_168_3) ?_
    refine wl_put rfl rfl rfl sz_26 hB ((by simp)) ((show _ = rdl s p V x at' from rfl)) (fun w1 hB F1 => ?_)
    replace hF := hF.thenDrew.thenO F1 (by first | exact .inr (by omega) | exact .inl rfl | exact .inl (by assumption))
    refine wl (ro_nilCheck rfl) ?_
    refine wl (ro_fieldAddr (k := 4) rfl fo_168_4) ?_
    refine wl_put rfl rfl rfl sz_3 hB ((by simp)) ((show _ = rdl s p V x a from rfl)) (fun w2 hB F2 => ?_)
    replace hF := hF.thenDrew.thenO F2 (by first | exact .inr (by omega) | exact .inl rfl | exact .inl (by assumption))
    refine wl_nil (x_then (hK2 _ _ ?_))
    clear hK2 K2
    refine forget [] trivial (fun e => ?_)
    refine c_seq (fun K4 hK4 => ?_)
    refine c_reg ?_ -- region 3 formm.go:33
    refine wl (ro_assign rfl) ?_
    refine wl_nil (x_then (hK4 _ _ ?_))
    clear hK4 K4
    refine c_ret ?_
    refine bp_ret Tryz.results133 rfl ?_
    exact ⟨rfl, ⟨x, a, he, hB⟩, hF⟩
  · try simp only [decide_eq_true_eq, decide_eq_false_iff_not, Bool.not_eq_true', Bool.not_eq_false', Bool.not_eq_eq_eq_not, Bool.not_true, Bool.not_false, beq_iff_eq, bne_iff_ne, ne_eq, beq_eq_false_iff_ne, bne_eq_false_iff_eq, gt_iff_lt, ge_iff_le, Int.not_lt, Int.not_le] at hc11
    refine c_skip (x_then (hK2 _ _ ?_))
    clear hK2 K2
    refine forget [] trivial (fun e => ?_)
    refine c_seq (fun K5 hK5 => ?_)
    refine c_reg ?_ -- region 3 formm.go:33
    refine wl (ro_assign rfl) ?_
    refine wl_nil (x_then (hK5 _ _ ?_))
    clear hK5 K5
    refine c_ret ?_
    refine bp_ret Tryz.results133 rfl ?_
    exact ⟨rfl, ⟨er, at', hc11, hB⟩, hF⟩

/-- Behind the blanks. -/
def lk (s : List UInt8) (p : Nat) : Nat := p + ((s.drop p).takeWhile (fun c => c == 32)).length
theorem drop_get {s : List UInt8} {p : Nat} {c : UInt8} (h : s[p]? = some c) : s.drop p = c :: s.drop (p + 1) := by
  obtain ⟨hl, rfl⟩ := List.getElem?_eq_some_iff.1 h
  exact List.drop_eq_getElem_cons hl
theorem lk_sp {s : List UInt8} {p : Nat} (h : s[p]? = some 32) : lk s p = lk s (p + 1) := by
  unfold lk
  rw [drop_get h, List.takeWhile_cons_of_pos (by decide)]
  simp only [List.length_cons]
  omega
theorem lk_no {s : List UInt8} {p : Nat} {c : UInt8} (h : s[p]? = some c) (hc : c ≠ 32) : lk s p = p := by
  unfold lk
  rw [drop_get h, List.takeWhile_cons_of_neg (by simpa using hc)]
  rfl
theorem lk_end {s : List UInt8} {p : Nat} (h : s.length ≤ p) : lk s p = p := by
  unfold lk
  rw [List.drop_eq_nil_of_le h]
  rfl
theorem lk_ge (s : List UInt8) (p : Nat) : p ≤ lk s p := Nat.le_add_right _ _
theorem lk_le {s : List UInt8} {p : Nat} (h : p ≤ s.length) : lk s p ≤ s.length := by
  unfold lk
  have := tw_le (fun c => c == 32) (s.drop p)
  rw [List.length_drop] at this
  omega
theorem lk_toks (s : List UInt8) : ∀ (n p : Nat), s.length - p ≤ n → toks (s.drop (lk s p)) = toks (s.drop p)
  | 0, p, h => by rw [lk_end (by omega)]
  | n + 1, p, h => by
    by_cases hp : p < s.length
    · have hx := List.getElem?_eq_getElem hp
      by_cases hc : s[p] = 32
      · rw [hc] at hx
        rw [lk_sp hx, lk_toks s n (p + 1) (by omega), drop_get hx, toks_blank]
      · rw [lk_no hx hc]
    · rw [lk_end (by omega)]
theorem lk_lk {s : List UInt8} : ∀ (n p : Nat), s.length - p ≤ n → lk s (lk s p) = lk s p
  | 0, p, h => by rw [lk_end (show s.length ≤ p by omega), lk_end (by omega)]
  | n + 1, p, h => by
    by_cases hp : p < s.length
    · have hx := List.getElem?_eq_getElem hp
      by_cases hc : s[p] = 32
      · rw [hc] at hx
        rw [lk_sp hx, lk_lk n (p + 1) (by omega)]
      · rw [lk_no hx hc, lk_no hx hc]
    · rw [lk_end (show s.length ≤ p by omega), lk_end (by omega)]
theorem lk_stop {s : List UInt8} {p : Nat} {c : UInt8} (h : s[lk s p]? = some c) : c ≠ 32 := by
  rintro rfl
  have h1 := lk_lk (s := s) _ p (Nat.le_refl _)
  rw [lk_sp h] at h1
  have := lk_ge s (lk s p + 1)
  omega

/-- What a look sees: the byte, and is there a fault behind it. -/
def lkc (s : List UInt8) (p : Nat) (bad : Bool) : UInt8 × Bool := if bad = true then (0, true) else match s[lk s p]? with
  | none => (0, false)
  | some c => if knP c.toNat then (c, false) else (0, true)

set_option maxHeartbeats 2000000 in
theorem look132 {w : World} {pb : Nat} {s : List UInt8} {p : Nat} {V : Value} {er at' : Int} (hs : s.length ≤ 40) (hp : p ≤ s.length) (hB : Blk w.heap pb (rdl s p V er at') 168) :
    Ret Tryz.prog 132 [ptr pb] w (fun v w' => v = u8c (lkc s p (decide (er ≠ 0))).1 ∧ (∃ er' at'', decide (er' ≠ 0) = (lkc s p (decide (er ≠ 0))).2 ∧ Blk w'.heap pb (rdl s (lk s p) V er' at'') 168) ∧ Fram (one pb) w w') := by
  have hF : Fram (one pb) w w := Fram.refl _ _
  refine ret_of Tryz.func132 rfl Tryz.ntmps132 rfl ?_
  refine c_seq (fun K1 hK1 => ?_)
  refine c_reg ?_ -- region 0 formm.go:49
  refine wl (ro_assign rfl) ?_
  refine wl_nil (x_then (hK1 _ _ ?_))
  clear hK1 K1
  refine forget [(0, _)] ⟨rfl, trivial⟩ (fun e => ?_)
  refine c_seq (fun K2 hK2 => ?_)
  refine c_block ?_
  -- loop@r1: live slots [0]
  refine c_loopG (fun m a' w' => ∃ q, m = s.length - q ∧ q ≤ s.length ∧ lk s q = lk s p ∧ Blk w'.heap pb (rdl s q V er at') 168 ∧ Fram (one pb) w w' ∧ ∃ e, a' = Fr 75 (upds e [(0, ptr pb)]) []) (s.length - p) ⟨p, rfl, hp, rfl, hB, hF, kp _ ⟨rfl, trivial⟩⟩ ?_
  clear hF hB
  rintro mm a' u1 ⟨q, rfl, hq, hlq, hB, hF, e, rfl⟩
  refine c_seq (fun K3 hK3 => ?_)
  refine c_seq (fun K4 hK4 => ?_)
  have hcs : s.length ≤ q ∨ (∃ c, s[q]? = some c ∧ c ≠ 32) ∨ s[q]? = some 32 := by
    by_cases h : q < s.length
    · by_cases hc : s[q] = 32
      · exact .inr (.inr (by rw [List.getElem?_eq_getElem h, hc]))
      · exact .inr (.inl ⟨_, List.getElem?_eq_getElem h, hc⟩)
    · exact .inl (by omega)
  rcases hcs with hge | ⟨c, hc, hcn⟩ | hc
  · skip
    rw [lk_end hge] at hlq
    refine c_pi [(0, false), (1, false), (2, false), (3, false), (4, false), (5, false), (6, false), (7, false), (8, false), (9, false), (10, false), (11, false), (12, false), (13, false), (14, false), (15, false), (16, false), (17, false), (18, false), (19, false), (20, false), (21, false)] (SameH _) mixed (by kernel_rfl) rfl (by kernel_rfl) (po_then (po_then (po_then (po_blk (po_then (po_bp)))))) (sameH_now _ _) ?_ -- region 1 formm.go:50
    refine pi_ro rfl (fun w hS => ro_move rfl) ?_
    refine pi_ro rfl (fun w hS => ro_nilCheck rfl) ?_
    refine pi_ro rfl (fun w hS => ro_fieldAddr (k := 1) rfl fo_168_1) ?_
    refine pi_ro rfl (fun w hS => ro_loadB rfl sc_3 (Blk.of_heap hB hS) (rfl)) ?_
    refine pi_ro rfl (fun w hS => ro_move rfl) ?_
    refine pi_ro rfl (fun w hS => ro_nilCheck rfl) ?_
    refine pi_ro rfl (fun w hS => ro_fieldAddr (k := 0) rfl fo_168_0) ?_
    refine pi_ro rfl (fun w hS => ro_loadB rfl sc_9 (Blk.of_heap hB hS) (rfl)) ?_
    refine pi_ro rfl (fun w hS => ro_lenS rfl st_9) ?_
    refine pi_ro rfl (fun w hS => ro_cmp (r := false) rfl rfl (congrArg some (decide_eq_false (by omega)))) ?_
    refine pi_ro rfl (fun w hS => ro_move rfl) ?_
    refine pi_gno rfl rfl ?_
    refine pi_gno rfl rfl ?_
    refine pi_gno rfl rfl ?_
    refine pi_gno rfl rfl ?_
    refine pi_gno rfl rfl ?_
    refine pi_gno rfl rfl ?_
    refine pi_gno rfl rfl ?_
    refine pi_gno rfl rfl ?_
    refine pi_gno rfl rfl ?_
    refine pi_gno rfl rfl ?_
    refine pi_ro rfl (fun w hS => ro_pick rfl rfl rfl) ?_
    refine pi_nil (x_then (hK4 _ _ ?_))
    clear hK4 K4
    refine wc_condF rfl ?_
    refine c_exit (x_thenX (x_thenX (x_blkX (x_then (hK2 _ _ ?_)))))
    clear hK3 K3 hK2 K2
    refine c_seq (fun K5 hK5 => ?_)
    refine c_seq (fun K6 hK6 => ?_)
    have hee : er ≠ 0 ∨ er = 0 := by by_cases h : er = 0; { exact .inr h }; { exact .inl h }
    rcases hee with her | her
    · skip
      have hlc : lkc s p (decide (er ≠ 0)) = (0, true) := by unfold lkc; rw [if_pos (by simpa using her)]
      refine c_pi [(0, false), (1, false), (2, false), (3, false), (4, false), (5, false), (6, false), (7, false), (8, false), (9, false), (10, false), (11, false), (12, false), (13, false), (14, false), (15, false), (16, false)] (SameH _) mixed (by kernel_rfl) rfl (by kernel_rfl) (po_then (po_then (po_bp))) (sameH_now _ _) ?_ -- region 3 formm.go:53
      refine pi_ro rfl (fun w hS => ro_move rfl) ?_
      refine pi_ro rfl (fun w hS => ro_nilCheck rfl) ?_
      refine pi_ro rfl (fun w hS => ro_fieldAddr (k := 3) rfl fo_168_3) ?_
      refine pi_ro rfl (fun w hS => ro_loadB rfl sc_26 (Blk.of_heap hB hS) (rfl)) ?_
      refine pi_ro rfl (fun w hS => ro_cmp (r := true) rfl rfl (congrArg some (by simpa using her))) ?_
      refine pi_ro rfl (fun w hS => ro_move rfl) ?_
      refine pi_gno rfl rfl ?_
      refine pi_gno rfl rfl ?_
      refine pi_gno rfl rfl ?_
      refine pi_gno rfl rfl ?_
      refine pi_gno rfl rfl ?_
      refine pi_gno rfl rfl ?_
      refine pi_gno rfl rfl ?_
      refine pi_gno rfl rfl ?_
      refine pi_gno rfl rfl ?_
      refine pi_gno rfl rfl ?_
      refine pi_ro rfl (fun w hS => ro_pick rfl rfl rfl) ?_
      refine pi_nil (x_then (hK6 _ _ ?_))
      clear hK6 K6
      refine wc_condT rfl ?_
      refine c_seq (fun K7 hK7 => ?_)
      refine c_reg ?_ -- region 4 formm.go:54
      refine wl (ro_assign rfl) ?_
      refine wl_nil (x_then (hK7 _ _ ?_))
      clear hK7 K7
      refine c_ret (x_thenR ?_)
      refine bp_ret Tryz.results132 rfl ?_
      exact ⟨by rw [hlc]; rfl, ⟨er, at', by rw [hlc]; simpa using her, by rw [← hlq]; exact hB⟩, (by first | exact hF | exact hF.thenDrew | exact hF.thenDrew.thenDrew | exact hF.thenDrew.thenDrew.thenDrew | exact hF.thenDrew.thenDrew.thenDrew.thenDrew)⟩
    · skip
      have hbf : decide (er ≠ 0) = false := by simp [her]
      refine c_pi [(0, false), (1, false), (2, false), (3, false), (4, false), (5, false), (6, false), (7, false), (8, false), (9, false), (10, false), (11, false), (12, false), (13, false), (14, false), (15, false), (16, false)] (SameH _) mixed (by kernel_rfl) rfl (by kernel_rfl) (po_then (po_then (po_bp))) (sameH_now _ _) ?_ -- region 3 formm.go:53
      refine pi_ro rfl (fun w hS => ro_move rfl) ?_
      refine pi_ro rfl (fun w hS => ro_nilCheck rfl) ?_
      refine pi_ro rfl (fun w hS => ro_fieldAddr (k := 3) rfl fo_168_3) ?_
      refine pi_ro rfl (fun w hS => ro_loadB rfl sc_26 (Blk.of_heap hB hS) (rfl)) ?_
      refine pi_ro rfl (fun w hS => ro_cmp (r := false) rfl rfl (congrArg some (by simpa using her))) ?_
      refine pi_ro rfl (fun w hS => ro_move rfl) ?_
      refine pi_gyes rfl rfl (fun w hS => ro_move rfl) ?_
      refine pi_gyes rfl rfl (fun w hS => ro_nilCheck rfl) ?_
      refine pi_gyes rfl rfl (fun w hS => ro_fieldAddr (k := 1) rfl fo_168_1) ?_
      refine pi_gyes rfl rfl (fun w hS => ro_loadB rfl sc_3 (Blk.of_heap hB hS) (rfl)) ?_
      refine pi_gyes rfl rfl (fun w hS => ro_move rfl) ?_
      refine pi_gyes rfl rfl (fun w hS => ro_nilCheck rfl) ?_
      refine pi_gyes rfl rfl (fun w hS => ro_fieldAddr (k := 0) rfl fo_168_0) ?_
      refine pi_gyes rfl rfl (fun w hS => ro_loadB rfl sc_9 (Blk.of_heap hB hS) (rfl)) ?_
      refine pi_gyes rfl rfl (fun w hS => ro_lenS rfl st_9) ?_
      refine pi_gyes rfl rfl (fun w hS => ro_cmp (r := true) rfl rfl (congrArg some (decide_eq_true (by omega)))) ?_
      refine pi_ro rfl (fun w hS => ro_pick rfl rfl rfl) ?_
      refine pi_nil (x_then (hK6 _ _ ?_))
      clear hK6 K6
      refine wc_condT rfl ?_
      refine c_seq (fun K8 hK8 => ?_)
      refine c_reg ?_ -- region 4 formm.go:54
      refine wl (ro_assign rfl) ?_
      refine wl_nil (x_then (hK8 _ _ ?_))
      clear hK8 K8
      refine c_ret (x_thenR ?_)
      refine bp_ret Tryz.results132 rfl ?_
      exact ⟨by rw [hbf]; unfold lkc; rw [if_neg (by decide), ← hlq, List.getElem?_eq_none hge]; rfl, ⟨er, at', by rw [hbf]; unfold lkc; rw [if_neg (by decide), ← hlq, List.getElem?_eq_none hge], by rw [← hlq]; exact hB⟩, (by first | exact hF | exact hF.thenDrew | exact hF.thenDrew.thenDrew | exact hF.thenDrew.thenDrew.thenDrew | exact hF.thenDrew.thenDrew.thenDrew.thenDrew)⟩
  · skip
    rw [lk_no hc hcn] at hlq
    have hql := (List.getElem?_eq_some_iff.1 hc).1
    have hc32 : c.toNat ≠ 32 := fun h => hcn ((u8_eq (n := 32) (by omega)).2 h)
    refine c_pi [(0, false), (1, false), (2, false), (3, false), (4, false), (5, false), (6, false), (7, false), (8, false), (9, false), (10, false), (11, false), (12, false), (13, false), (14, false), (15, false), (16, false), (17, false), (18, false), (19, false), (20, false), (21, false)] (SameH _) mixed (by kernel_rfl) rfl (by kernel_rfl) (po_then (po_then (po_then (po_blk (po_then (po_bp)))))) (sameH_now _ _) ?_ -- region 1 formm.go:50
    refine pi_ro rfl (fun w hS => ro_move rfl) ?_
    refine pi_ro rfl (fun w hS => ro_nilCheck rfl) ?_
    refine pi_ro rfl (fun w hS => ro_fieldAddr (k := 1) rfl fo_168_1) ?_
    refine pi_ro rfl (fun w hS => ro_loadB rfl sc_3 (Blk.of_heap hB hS) (rfl)) ?_
    refine pi_ro rfl (fun w hS => ro_move rfl) ?_
    refine pi_ro rfl (fun w hS => ro_nilCheck rfl) ?_
    refine pi_ro rfl (fun w hS => ro_fieldAddr (k := 0) rfl fo_168_0) ?_
    refine pi_ro rfl (fun w hS => ro_loadB rfl sc_9 (Blk.of_heap hB hS) (rfl)) ?_
    refine pi_ro rfl (fun w hS => ro_lenS rfl st_9) ?_
    refine pi_ro rfl (fun w hS => ro_cmp (r := true) rfl rfl (congrArg some (decide_eq_true (by omega)))) ?_
    refine pi_ro rfl (fun w hS => ro_move rfl) ?_
    refine pi_gyes rfl rfl (fun w hS => ro_move rfl) ?_
    refine pi_gyes rfl rfl (fun w hS => ro_nilCheck rfl) ?_
    refine pi_gyes rfl rfl (fun w hS => ro_fieldAddr (k := 0) rfl fo_168_0) ?_
    refine pi_gyes rfl rfl (fun w hS => ro_loadB rfl sc_9 (Blk.of_heap hB hS) (rfl)) ?_
    refine pi_gyes rfl rfl (fun w hS => ro_move rfl) ?_
    refine pi_gyes rfl rfl (fun w hS => ro_nilCheck rfl) ?_
    refine pi_gyes rfl rfl (fun w hS => ro_fieldAddr (k := 1) rfl fo_168_1) ?_
    refine pi_gyes rfl rfl (fun w hS => ro_loadB rfl sc_3 (Blk.of_heap hB hS) (rfl)) ?_
    refine pi_gyes rfl rfl (fun w hS => ro_indexS rfl rfl st_9 rfl (hc)) ?_
    refine pi_gyes rfl rfl (fun w hS => ro_cmp (r := false) rfl rfl (congrArg some ((beqc c.toNat 32).trans (decide_eq_false hc32)))) ?_
    refine pi_ro rfl (fun w hS => ro_pick rfl rfl rfl) ?_
    refine pi_nil (x_then (hK4 _ _ ?_))
    clear hK4 K4
    refine wc_condF rfl ?_
    refine c_exit (x_thenX (x_thenX (x_blkX (x_then (hK2 _ _ ?_)))))
    clear hK3 K3 hK2 K2
    refine c_seq (fun K9 hK9 => ?_)
    refine c_seq (fun K10 hK10 => ?_)
    have hee : er ≠ 0 ∨ er = 0 := by by_cases h : er = 0; { exact .inr h }; { exact .inl h }
    rcases hee with her | her
    · skip
      have hlc : lkc s p (decide (er ≠ 0)) = (0, true) := by unfold lkc; rw [if_pos (by simpa using her)]
      refine c_pi [(0, false), (1, false), (2, false), (3, false), (4, false), (5, false), (6, false), (7, false), (8, false), (9, false), (10, false), (11, false), (12, false), (13, false), (14, false), (15, false), (16, false)] (SameH _) mixed (by kernel_rfl) rfl (by kernel_rfl) (po_then (po_then (po_bp))) (sameH_now _ _) ?_ -- region 3 formm.go:53
      refine pi_ro rfl (fun w hS => ro_move rfl) ?_
      refine pi_ro rfl (fun w hS => ro_nilCheck rfl) ?_
      refine pi_ro rfl (fun w hS => ro_fieldAddr (k := 3) rfl fo_168_3) ?_
      refine pi_ro rfl (fun w hS => ro_loadB rfl sc_26 (Blk.of_heap hB hS) (rfl)) ?_
      refine pi_ro rfl (fun w hS => ro_cmp (r := true) rfl rfl (congrArg some (by simpa using her))) ?_
      refine pi_ro rfl (fun w hS => ro_move rfl) ?_
      refine pi_gno rfl rfl ?_
      refine pi_gno rfl rfl ?_
      refine pi_gno rfl rfl ?_
      refine pi_gno rfl rfl ?_
      refine pi_gno rfl rfl ?_
      refine pi_gno rfl rfl ?_
      refine pi_gno rfl rfl ?_
      refine pi_gno rfl rfl ?_
      refine pi_gno rfl rfl ?_
      refine pi_gno rfl rfl ?_
      refine pi_ro rfl (fun w hS => ro_pick rfl rfl rfl) ?_
      refine pi_nil (x_then (hK10 _ _ ?_))
      clear hK10 K10
      refine wc_condT rfl ?_
      refine c_seq (fun K11 hK11 => ?_)
      refine c_reg ?_ -- region 4 formm.go:54
      refine wl (ro_assign rfl) ?_
      refine wl_nil (x_then (hK11 _ _ ?_))
      clear hK11 K11
      refine c_ret (x_thenR ?_)
      refine bp_ret Tryz.results132 rfl ?_
      exact ⟨by rw [hlc]; rfl, ⟨er, at', by rw [hlc]; simpa using her, by rw [← hlq]; exact hB⟩, (by first | exact hF | exact hF.thenDrew | exact hF.thenDrew.thenDrew | exact hF.thenDrew.thenDrew.thenDrew | exact hF.thenDrew.thenDrew.thenDrew.thenDrew)⟩
    · skip
      have hbf : decide (er ≠ 0) = false := by simp [her]
      refine c_pi [(0, false), (1, false), (2, false), (3, false), (4, false), (5, false), (6, false), (7, false), (8, false), (9, false), (10, false), (11, false), (12, false), (13, false), (14, false), (15, false), (16, false)] (SameH _) mixed (by kernel_rfl) rfl (by kernel_rfl) (po_then (po_then (po_bp))) (sameH_now _ _) ?_ -- region 3 formm.go:53
      refine pi_ro rfl (fun w hS => ro_move rfl) ?_
      refine pi_ro rfl (fun w hS => ro_nilCheck rfl) ?_
      refine pi_ro rfl (fun w hS => ro_fieldAddr (k := 3) rfl fo_168_3) ?_
      refine pi_ro rfl (fun w hS => ro_loadB rfl sc_26 (Blk.of_heap hB hS) (rfl)) ?_
      refine pi_ro rfl (fun w hS => ro_cmp (r := false) rfl rfl (congrArg some (by simpa using her))) ?_
      refine pi_ro rfl (fun w hS => ro_move rfl) ?_
      refine pi_gyes rfl rfl (fun w hS => ro_move rfl) ?_
      refine pi_gyes rfl rfl (fun w hS => ro_nilCheck rfl) ?_
      refine pi_gyes rfl rfl (fun w hS => ro_fieldAddr (k := 1) rfl fo_168_1) ?_
      refine pi_gyes rfl rfl (fun w hS => ro_loadB rfl sc_3 (Blk.of_heap hB hS) (rfl)) ?_
      refine pi_gyes rfl rfl (fun w hS => ro_move rfl) ?_
      refine pi_gyes rfl rfl (fun w hS => ro_nilCheck rfl) ?_
      refine pi_gyes rfl rfl (fun w hS => ro_fieldAddr (k := 0) rfl fo_168_0) ?_
      refine pi_gyes rfl rfl (fun w hS => ro_loadB rfl sc_9 (Blk.of_heap hB hS) (rfl)) ?_
      refine pi_gyes rfl rfl (fun w hS => ro_lenS rfl st_9) ?_
      refine pi_gyes rfl rfl (fun w hS => ro_cmp (r := false) rfl rfl (congrArg some (decide_eq_false (by omega)))) ?_
      refine pi_ro rfl (fun w hS => ro_pick rfl rfl rfl) ?_
      refine pi_nil (x_then (hK10 _ _ ?_))
      clear hK10 K10
      refine wc_condF rfl ?_
      refine c_skip (x_then (hK9 _ _ ?_))
      clear hK9 K9
      refine c_seq (fun K12 hK12 => ?_)
      refine c_seq (fun K13 hK13 => ?_)
      have hlv : lkc s p false = if knP c.toNat then (c, false) else (0, true) := by unfold lkc; rw [if_neg (by decide), ← hlq, hc]
      refine c_pi [(0, false), (1, false), (2, false), (3, false), (4, false), (5, false), (6, false), (7, false), (8, false), (9, true), (10, false)] (SameH _) mixed (by kernel_rfl) rfl (by kernel_rfl) (po_then (po_then (po_bp))) (sameH_now _ _) ?_ -- region 5 formm.go:56
      refine pi_ro rfl (fun w hS => ro_move rfl) ?_
      refine pi_ro rfl (fun w hS => ro_nilCheck rfl) ?_
      refine pi_ro rfl (fun w hS => ro_fieldAddr (k := 0) rfl fo_168_0) ?_
      refine pi_ro rfl (fun w hS => ro_loadB rfl sc_9 (Blk.of_heap hB hS) (rfl)) ?_
      refine pi_ro rfl (fun w hS => ro_move rfl) ?_
      refine pi_ro rfl (fun w hS => ro_nilCheck rfl) ?_
      refine pi_ro rfl (fun w hS => ro_fieldAddr (k := 1) rfl fo_168_1) ?_
      refine pi_ro rfl (fun w hS => ro_loadB rfl sc_3 (Blk.of_heap hB hS) (rfl)) ?_
      refine pi_ro rfl (fun w hS => ro_indexS rfl rfl st_9 rfl (hc)) ?_
      refine pi_call rfl rfl en_176 (known176) ?_
      rintro _ _ ⟨rfl, rfl⟩
      refine ⟨rfl, ?_⟩
      refine pi_ro rfl (fun w hS => ro_not rfl) ?_
      refine pi_nil (x_then (hK13 _ _ ?_))
      clear hK13 K13
      refine wc_cond rfl (fun hc59 => ?_) (fun hc59 => ?_)
      · try simp only [decide_eq_true_eq, decide_eq_false_iff_not, Bool.not_eq_true', Bool.not_eq_false', Bool.not_eq_eq_eq_not, Bool.not_true, Bool.not_false, beq_iff_eq, bne_iff_ne, ne_eq, beq_eq_false_iff_ne, bne_eq_false_iff_eq, gt_iff_lt, ge_iff_le, Int.not_lt, Int.not_le] at hc59
        have hkn : ¬ knP c.toNat := by simpa using hc59
        rw [if_neg hkn] at hlv
        refine c_seq (fun K14 hK14 => ?_)
        refine c_reg ?_ -- region 6 formm.go:57
        refine wl (ro_move rfl) ?_
        refine wl (ro_move rfl) ?_
        refine wl (ro_nilCheck rfl) ?_
        refine wl (ro_fieldAddr (k := 1) rfl fo_168_1) ?_
        refine wl (ro_loadB rfl sc_3 (hB) (rfl)) ?_
        refine wl_call rfl en_133 (fail133 (by decide) hB) ?_
        rintro _ u8 ⟨rfl, ⟨er7, at7, hne7, hB⟩, G8⟩
        replace hF := hF.transG G8 (by intro k hk h; simp only [one, none'] at h ⊢ <;> omega)
        refine wl_nil (x_then (hK14 _ _ ?_))
        clear hK14 K14
        refine forget [] trivial (fun e => ?_)
        refine c_seq (fun K15 hK15 => ?_)
        refine c_reg ?_ -- region 7 formm.go:58
        refine wl (ro_assign rfl) ?_
        refine wl_nil (x_then (hK15 _ _ ?_))
        clear hK15 K15
        refine c_ret (x_thenR ?_)
        refine bp_ret Tryz.results132 rfl ?_
        exact ⟨by rw [hbf, hlv]; rfl, ⟨er7, at7, by rw [hbf, hlv]; simpa using hne7, by rw [← hlq]; exact hB⟩, (by first | exact hF | exact hF.thenDrew | exact hF.thenDrew.thenDrew | exact hF.thenDrew.thenDrew.thenDrew | exact hF.thenDrew.thenDrew.thenDrew.thenDrew)⟩
      · try simp only [decide_eq_true_eq, decide_eq_false_iff_not, Bool.not_eq_true', Bool.not_eq_false', Bool.not_eq_eq_eq_not, Bool.not_true, Bool.not_false, beq_iff_eq, bne_iff_ne, ne_eq, beq_eq_false_iff_ne, bne_eq_false_iff_eq, gt_iff_lt, ge_iff_le, Int.not_lt, Int.not_le] at hc59
        have hkn : knP c.toNat := by simpa using hc59
        rw [if_pos hkn] at hlv
        refine c_skip (x_then (hK12 _ _ ?_))
        clear hK12 K12
        refine forget [(0, _)] ⟨rfl, trivial⟩ (fun e => ?_)
        refine c_seq (fun K16 hK16 => ?_)
        refine c_pi [(0, false), (1, false), (2, false), (3, false), (4, false), (5, false), (6, false), (7, false), (8, false), (9, false)] (SameH _) mixed (by kernel_rfl) rfl (by kernel_rfl) (po_then (po_bp)) (sameH_now _ _) ?_ -- region 8 formm.go:60
        refine pi_ro rfl (fun w hS => ro_move rfl) ?_
        refine pi_ro rfl (fun w hS => ro_nilCheck rfl) ?_
        refine pi_ro rfl (fun w hS => ro_fieldAddr (k := 0) rfl fo_168_0) ?_
        refine pi_ro rfl (fun w hS => ro_loadB rfl sc_9 (Blk.of_heap hB hS) (rfl)) ?_
        refine pi_ro rfl (fun w hS => ro_move rfl) ?_
        refine pi_ro rfl (fun w hS => ro_nilCheck rfl) ?_
        refine pi_ro rfl (fun w hS => ro_fieldAddr (k := 1) rfl fo_168_1) ?_
        refine pi_ro rfl (fun w hS => ro_loadB rfl sc_3 (Blk.of_heap hB hS) (rfl)) ?_
        refine pi_ro rfl (fun w hS => ro_indexS rfl rfl st_9 rfl (hc)) ?_
        refine pi_ro rfl (fun w hS => ro_assign rfl) ?_
        refine pi_nil (x_then (hK16 _ _ ?_))
        clear hK16 K16
        refine c_ret ?_
        refine bp_ret Tryz.results132 rfl ?_
        exact ⟨by rw [hbf, hlv]; rfl, ⟨er, at', by rw [hbf, hlv], by rw [← hlq]; exact hB⟩, (by first | exact hF | exact hF.thenDrew | exact hF.thenDrew.thenDrew | exact hF.thenDrew.thenDrew.thenDrew | exact hF.thenDrew.thenDrew.thenDrew.thenDrew)⟩
  · skip
    have hql := (List.getElem?_eq_some_iff.1 hc).1
    refine c_pi [(0, false), (1, false), (2, false), (3, false), (4, false), (5, false), (6, false), (7, false), (8, false), (9, false), (10, false), (11, false), (12, false), (13, false), (14, false), (15, false), (16, false), (17, false), (18, false), (19, false), (20, false), (21, false)] (SameH _) mixed (by kernel_rfl) rfl (by kernel_rfl) (po_then (po_then (po_then (po_blk (po_then (po_bp)))))) (sameH_now _ _) ?_ -- region 1 formm.go:50
    refine pi_ro rfl (fun w hS => ro_move rfl) ?_
    refine pi_ro rfl (fun w hS => ro_nilCheck rfl) ?_
    refine pi_ro rfl (fun w hS => ro_fieldAddr (k := 1) rfl fo_168_1) ?_
    refine pi_ro rfl (fun w hS => ro_loadB rfl sc_3 (Blk.of_heap hB hS) (rfl)) ?_
    refine pi_ro rfl (fun w hS => ro_move rfl) ?_
    refine pi_ro rfl (fun w hS => ro_nilCheck rfl) ?_
    refine pi_ro rfl (fun w hS => ro_fieldAddr (k := 0) rfl fo_168_0) ?_
    refine pi_ro rfl (fun w hS => ro_loadB rfl sc_9 (Blk.of_heap hB hS) (rfl)) ?_
    refine pi_ro rfl (fun w hS => ro_lenS rfl st_9) ?_
    refine pi_ro rfl (fun w hS => ro_cmp (r := true) rfl rfl (congrArg some (decide_eq_true (by omega)))) ?_
    refine pi_ro rfl (fun w hS => ro_move rfl) ?_
    refine pi_gyes rfl rfl (fun w hS => ro_move rfl) ?_
    refine pi_gyes rfl rfl (fun w hS => ro_nilCheck rfl) ?_
    refine pi_gyes rfl rfl (fun w hS => ro_fieldAddr (k := 0) rfl fo_168_0) ?_
    refine pi_gyes rfl rfl (fun w hS => ro_loadB rfl sc_9 (Blk.of_heap hB hS) (rfl)) ?_
    refine pi_gyes rfl rfl (fun w hS => ro_move rfl) ?_
    refine pi_gyes rfl rfl (fun w hS => ro_nilCheck rfl) ?_
    refine pi_gyes rfl rfl (fun w hS => ro_fieldAddr (k := 1) rfl fo_168_1) ?_
    refine pi_gyes rfl rfl (fun w hS => ro_loadB rfl sc_3 (Blk.of_heap hB hS) (rfl)) ?_
    refine pi_gyes rfl rfl (fun w hS => ro_indexS rfl rfl st_9 rfl (hc)) ?_
    refine pi_gyes rfl rfl (fun w hS => ro_cmp (r := true) rfl rfl rfl) ?_
    refine pi_ro rfl (fun w hS => ro_pick rfl rfl rfl) ?_
    refine pi_nil (x_then (hK4 _ _ ?_))
    clear hK4 K4
    refine wc_condT rfl ?_
    refine c_skip (x_then (hK3 _ _ ?_))
    clear hK3 K3
    refine c_block ?_
    refine c_reg ?_ -- region 2 formm.go:51
    refine wl (ro_move rfl) ?_
    refine wl (ro_nilCheck rfl) ?_
    refine wl (ro_fieldAddr (k := 1) rfl fo_168_1) ?_
    refine wl (ro_loadB rfl sc_3 (hB) (rfl)) ?_
    refine wl (ro_arith (r := ((q + 1 : Nat) : Int)) rfl rfl rfl (Go.IntWalk.i64_in _ (by omega))) ?_
    refine wl (ro_nilCheck rfl) ?_
    refine wl (ro_fieldAddr (k := 1) rfl fo_168_1) ?_
    refine wl_put rfl rfl rfl sz_3 hB ((by simp)) ((show _ = rdl s (q + 1) V er at' from rfl)) (fun w1 hB F1 => ?_)
    replace hF := hF.thenDrew.thenO F1 (by first | exact .inr (by omega) | exact .inl rfl | exact .inl (by assumption))
    refine wl_nil (x_blk (x_then ?_))
    exact ⟨s.length - (q + 1), by omega, q + 1, rfl, by omega, by rw [← lk_sp hc]; exact hlq, hB, hF, kp _ ⟨rfl, trivial⟩⟩

/-- The reader at work. -/
structure MRV (w : World) (pb n0 : Nat) (s : List UInt8) (p : Nat) (ar : List Nd) (V : Value) (er at' : Int) : Prop where
  blk : Blk w.heap pb (rdl s p V er at') 168
  own : Own w.heap V 143 13 ar.length (rws ndc ar)
  lo : n0 ≤ pb
  vlo : ∀ b, V.ownBlock = some b → n0 ≤ b
  l24 : ar.length ≤ 24
  pl : p ≤ s.length
  sl40 : s.length ≤ 40
def MR (w : World) (pb n0 : Nat) (s : List UInt8) (p : Nat) (ar : List Nd) (bad : Bool) : Prop := ∃ V er at', MRV w pb n0 s p ar V er at' ∧ decide (er ≠ 0) = bad
/-- Whatever lies at or above a place. -/
def fre (n0 : Nat) : Nat → Prop := fun b => n0 ≤ b

theorem MRV.look {w w' : World} {pb n0 : Nat} {s : List UInt8} {p p' : Nat} {ar : List Nd} {V : Value} {er er' at' at'' : Int} (h : MRV w pb n0 s p ar V er at') (hB : Blk w'.heap pb (rdl s p' V er' at'') 168) (hF : Fram (one pb) w w') (hp : p' ≤ s.length) : MRV w' pb n0 s p' ar V er' at'' :=
  ⟨hB, h.own.fram hF (fun b hb he => h.own.neblk h.blk (by decide) b hb he), h.lo, h.vlo, h.l24, hp, h.sl40⟩

theorem lookM {w : World} {pb n0 : Nat} {s : List UInt8} {p : Nat} {ar : List Nd} {bad : Bool} (h : MR w pb n0 s p ar bad) :
    Ret Tryz.prog 132 [ptr pb] w (fun v w' => v = u8c (lkc s p bad).1 ∧ MR w' pb n0 s (lk s p) ar (lkc s p bad).2 ∧ Fram (one pb) w w') := by
  obtain ⟨V, er, at', M, rfl⟩ := h
  refine (look132 M.sl40 M.pl M.blk).mono ?_
  rintro v w' ⟨hv, ⟨er', at'', he, hB⟩, hF⟩
  exact ⟨hv, ⟨V, er', at'', M.look hB hF (lk_le M.pl), he⟩, hF⟩
theorem failM {w : World} {pb n0 : Nat} {s : List UInt8} {p : Nat} {ar : List Nd} {bad : Bool} {x a : Int} (hx : x ≠ 0) (h : MR w pb n0 s p ar bad) :
    Ret Tryz.prog 133 [ptr pb, icv x, icv a] w (fun v w' => v = icv (-1) ∧ MR w' pb n0 s p ar true ∧ Fram (one pb) w w') := by
  obtain ⟨V, er, at', M, rfl⟩ := h
  refine (fail133 hx M.blk).mono ?_
  rintro v w' ⟨hv, ⟨er', at'', he, hB⟩, hF⟩
  exact ⟨hv, ⟨V, er', at'', M.look hB hF M.pl, by simpa using he⟩, hF⟩

end Go.Proofs.Qxb6500570aGreat
