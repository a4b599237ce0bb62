import Derived.Test.Qxb6500568aGreatDoorVc
/- The model's scanner: its small functions. -/
namespace Go.Proofs.Qxb6500568aGreatDoor
open Ieee
set_option linter.unusedVariables false
set_option linter.unusedSimpArgs false

theorem posS_none {w : Str} {l : List Str} (h : ∀ u ∈ l, u ≠ w) : posS w l = none := posP_no (fun x hx => by simp [h x hx])
theorem keyword100 {w : World} {s : Str} : Ret Tryz.prog 100 [S s] w (fun r w' => r = .bool (posS s kwL).isSome ∧ w' = w) := by
  have hall : True := trivial
  refine ret_of Tryz.func100 rfl Tryz.ntmps100 rfl ?_
  refine c_seq (fun K1 hK1 => ?_)
  refine c_reg ?_ -- region 0 syntaxm.go:65
  refine wl (ro_assign rfl) ?_
  refine wl_nil (x_then (hK1 _ _ ?_))
  clear hK1 K1
  refine c_seq (fun K2 hK2 => ?_)
  refine c_seq (fun K3 hK3 => ?_)
  refine c_reg ?_ -- region 1 syntaxm.go:66
  refine wl (ro_move rfl) ?_
  refine wl_nil (x_then (hK3 _ _ ?_))
  clear hK3 K3
  refine c_block ?_
  refine c_mid (fun a' w' => w' = w ∧ ∃ e, a' = Fr 24 (upds e [(4, .bool (posS s kwL).isSome)]) []) ?_ ?_
  · skip
    refine c_seq (fun K4 hK4 => ?_)
    refine c_reg ?_ -- region 2 syntaxm.go:67
    refine wl (ro_eqS rfl rfl rfl) ?_
    refine wl (ro_assign rfl) ?_
    refine wl_nil (x_then (hK4 _ _ ?_))
    clear hK4 K4
    refine wc_cond rfl (fun hc4 => ?_) (fun hc4 => ?_)
    · try simp only [decide_eq_true_eq, decide_eq_false_iff_not, Bool.not_eq_true', Bool.not_eq_false', Bool.not_eq_eq_eq_not, Bool.not_true, Bool.not_false, beq_iff_eq, bne_iff_ne, ne_eq, beq_eq_false_iff_ne, bne_eq_false_iff_eq, gt_iff_lt, ge_iff_le, Int.not_lt, Int.not_le] at hc4
      refine c_skip (x_then ?_)
      exact ⟨rfl, kp _ ⟨by subst hc4; rfl, trivial⟩⟩
    · try simp only [decide_eq_true_eq, decide_eq_false_iff_not, Bool.not_eq_true', Bool.not_eq_false', Bool.not_eq_eq_eq_not, Bool.not_true, Bool.not_false, beq_iff_eq, bne_iff_ne, ne_eq, beq_eq_false_iff_ne, bne_eq_false_iff_eq, gt_iff_lt, ge_iff_le, Int.not_lt, Int.not_le] at hc4
      replace hall := And.intro hc4 hall
      refine c_seq (fun K5 hK5 => ?_)
      refine c_reg ?_ -- region 3 syntaxm.go:67
      refine wl (ro_eqS rfl rfl rfl) ?_
      refine wl (ro_assign rfl) ?_
      refine wl_nil (x_then (hK5 _ _ ?_))
      clear hK5 K5
      refine wc_cond rfl (fun hc4 => ?_) (fun hc4 => ?_)
      · try simp only [decide_eq_true_eq, decide_eq_false_iff_not, Bool.not_eq_true', Bool.not_eq_false', Bool.not_eq_eq_eq_not, Bool.not_true, Bool.not_false, beq_iff_eq, bne_iff_ne, ne_eq, beq_eq_false_iff_ne, bne_eq_false_iff_eq, gt_iff_lt, ge_iff_le, Int.not_lt, Int.not_le] at hc4
        refine c_skip (x_then ?_)
        exact ⟨rfl, kp _ ⟨by subst hc4; rfl, trivial⟩⟩
      · try simp only [decide_eq_true_eq, decide_eq_false_iff_not, Bool.not_eq_true', Bool.not_eq_false', Bool.not_eq_eq_eq_not, Bool.not_true, Bool.not_false, beq_iff_eq, bne_iff_ne, ne_eq, beq_eq_false_iff_ne, bne_eq_false_iff_eq, gt_iff_lt, ge_iff_le, Int.not_lt, Int.not_le] at hc4
        replace hall := And.intro hc4 hall
        refine c_seq (fun K6 hK6 => ?_)
        refine c_reg ?_ -- region 4 syntaxm.go:67
        refine wl (ro_eqS rfl rfl rfl) ?_
        refine wl (ro_assign rfl) ?_
        refine wl_nil (x_then (hK6 _ _ ?_))
        clear hK6 K6
        refine wc_cond rfl (fun hc4 => ?_) (fun hc4 => ?_)
        · try simp only [decide_eq_true_eq, decide_eq_false_iff_not, Bool.not_eq_true', Bool.not_eq_false', Bool.not_eq_eq_eq_not, Bool.not_true, Bool.not_false, beq_iff_eq, bne_iff_ne, ne_eq, beq_eq_false_iff_ne, bne_eq_false_iff_eq, gt_iff_lt, ge_iff_le, Int.not_lt, Int.not_le] at hc4
          refine c_skip (x_then ?_)
          exact ⟨rfl, kp _ ⟨by subst hc4; rfl, trivial⟩⟩
        · try simp only [decide_eq_true_eq, decide_eq_false_iff_not, Bool.not_eq_true', Bool.not_eq_false', Bool.not_eq_eq_eq_not, Bool.not_true, Bool.not_false, beq_iff_eq, bne_iff_ne, ne_eq, beq_eq_false_iff_ne, bne_eq_false_iff_eq, gt_iff_lt, ge_iff_le, Int.not_lt, Int.not_le] at hc4
          replace hall := And.intro hc4 hall
          refine c_seq (fun K7 hK7 => ?_)
          refine c_reg ?_ -- region 5 syntaxm.go:67
          refine wl (ro_eqS rfl rfl rfl) ?_
          refine wl (ro_assign rfl) ?_
          refine wl_nil (x_then (hK7 _ _ ?_))
          clear hK7 K7
          refine wc_cond rfl (fun hc4 => ?_) (fun hc4 => ?_)
          · try simp only [decide_eq_true_eq, decide_eq_false_iff_not, Bool.not_eq_true', Bool.not_eq_false', Bool.not_eq_eq_eq_not, Bool.not_true, Bool.not_false, beq_iff_eq, bne_iff_ne, ne_eq, beq_eq_false_iff_ne, bne_eq_false_iff_eq, gt_iff_lt, ge_iff_le, Int.not_lt, Int.not_le] at hc4
            refine c_skip (x_then ?_)
            exact ⟨rfl, kp _ ⟨by subst hc4; rfl, trivial⟩⟩
          · try simp only [decide_eq_true_eq, decide_eq_false_iff_not, Bool.not_eq_true', Bool.not_eq_false', Bool.not_eq_eq_eq_not, Bool.not_true, Bool.not_false, beq_iff_eq, bne_iff_ne, ne_eq, beq_eq_false_iff_ne, bne_eq_false_iff_eq, gt_iff_lt, ge_iff_le, Int.not_lt, Int.not_le] at hc4
            replace hall := And.intro hc4 hall
            refine c_seq (fun K8 hK8 => ?_)
            refine c_reg ?_ -- region 6 syntaxm.go:67
            refine wl (ro_eqS rfl rfl rfl) ?_
            refine wl (ro_assign rfl) ?_
            refine wl_nil (x_then (hK8 _ _ ?_))
            clear hK8 K8
            refine wc_cond rfl (fun hc4 => ?_) (fun hc4 => ?_)
            · try simp only [decide_eq_true_eq, decide_eq_false_iff_not, Bool.not_eq_true', Bool.not_eq_false', Bool.not_eq_eq_eq_not, Bool.not_true, Bool.not_false, beq_iff_eq, bne_iff_ne, ne_eq, beq_eq_false_iff_ne, bne_eq_false_iff_eq, gt_iff_lt, ge_iff_le, Int.not_lt, Int.not_le] at hc4
              refine c_skip (x_then ?_)
              exact ⟨rfl, kp _ ⟨by subst hc4; rfl, trivial⟩⟩
            · try simp only [decide_eq_true_eq, decide_eq_false_iff_not, Bool.not_eq_true', Bool.not_eq_false', Bool.not_eq_eq_eq_not, Bool.not_true, Bool.not_false, beq_iff_eq, bne_iff_ne, ne_eq, beq_eq_false_iff_ne, bne_eq_false_iff_eq, gt_iff_lt, ge_iff_le, Int.not_lt, Int.not_le] at hc4
              replace hall := And.intro hc4 hall
              refine c_seq (fun K9 hK9 => ?_)
              refine c_reg ?_ -- region 7 syntaxm.go:67
              refine wl (ro_eqS rfl rfl rfl) ?_
              refine wl (ro_assign rfl) ?_
              refine wl_nil (x_then (hK9 _ _ ?_))
              clear hK9 K9
              refine wc_cond rfl (fun hc4 => ?_) (fun hc4 => ?_)
              · try simp only [decide_eq_true_eq, decide_eq_false_iff_not, Bool.not_eq_true', Bool.not_eq_false', Bool.not_eq_eq_eq_not, Bool.not_true, Bool.not_false, beq_iff_eq, bne_iff_ne, ne_eq, beq_eq_false_iff_ne, bne_eq_false_iff_eq, gt_iff_lt, ge_iff_le, Int.not_lt, Int.not_le] at hc4
                refine c_skip (x_then ?_)
                exact ⟨rfl, kp _ ⟨by subst hc4; rfl, trivial⟩⟩
              · try simp only [decide_eq_true_eq, decide_eq_false_iff_not, Bool.not_eq_true', Bool.not_eq_false', Bool.not_eq_eq_eq_not, Bool.not_true, Bool.not_false, beq_iff_eq, bne_iff_ne, ne_eq, beq_eq_false_iff_ne, bne_eq_false_iff_eq, gt_iff_lt, ge_iff_le, Int.not_lt, Int.not_le] at hc4
                replace hall := And.intro hc4 hall
                refine c_seq (fun K10 hK10 => ?_)
                refine c_reg ?_ -- region 8 syntaxm.go:67
                refine wl (ro_eqS rfl rfl rfl) ?_
                refine wl (ro_assign rfl) ?_
                refine wl_nil (x_then (hK10 _ _ ?_))
                clear hK10 K10
                refine wc_cond rfl (fun hc4 => ?_) (fun hc4 => ?_)
                · try simp only [decide_eq_true_eq, decide_eq_false_iff_not, Bool.not_eq_true', Bool.not_eq_false', Bool.not_eq_eq_eq_not, Bool.not_true, Bool.not_false, beq_iff_eq, bne_iff_ne, ne_eq, beq_eq_false_iff_ne, bne_eq_false_iff_eq, gt_iff_lt, ge_iff_le, Int.not_lt, Int.not_le] at hc4
                  refine c_skip (x_then ?_)
                  exact ⟨rfl, kp _ ⟨by subst hc4; rfl, trivial⟩⟩
                · try simp only [decide_eq_true_eq, decide_eq_false_iff_not, Bool.not_eq_true', Bool.not_eq_false', Bool.not_eq_eq_eq_not, Bool.not_true, Bool.not_false, beq_iff_eq, bne_iff_ne, ne_eq, beq_eq_false_iff_ne, bne_eq_false_iff_eq, gt_iff_lt, ge_iff_le, Int.not_lt, Int.not_le] at hc4
                  replace hall := And.intro hc4 hall
                  refine c_seq (fun K11 hK11 => ?_)
                  refine c_reg ?_ -- region 9 syntaxm.go:67
                  refine wl (ro_eqS rfl rfl rfl) ?_
                  refine wl (ro_assign rfl) ?_
                  refine wl_nil (x_then (hK11 _ _ ?_))
                  clear hK11 K11
                  refine wc_cond rfl (fun hc4 => ?_) (fun hc4 => ?_)
                  · try simp only [decide_eq_true_eq, decide_eq_false_iff_not, Bool.not_eq_true', Bool.not_eq_false', Bool.not_eq_eq_eq_not, Bool.not_true, Bool.not_false, beq_iff_eq, bne_iff_ne, ne_eq, beq_eq_false_iff_ne, bne_eq_false_iff_eq, gt_iff_lt, ge_iff_le, Int.not_lt, Int.not_le] at hc4
                    refine c_skip (x_then ?_)
                    exact ⟨rfl, kp _ ⟨by subst hc4; rfl, trivial⟩⟩
                  · try simp only [decide_eq_true_eq, decide_eq_false_iff_not, Bool.not_eq_true', Bool.not_eq_false', Bool.not_eq_eq_eq_not, Bool.not_true, Bool.not_false, beq_iff_eq, bne_iff_ne, ne_eq, beq_eq_false_iff_ne, bne_eq_false_iff_eq, gt_iff_lt, ge_iff_le, Int.not_lt, Int.not_le] at hc4
                    replace hall := And.intro hc4 hall
                    refine c_seq (fun K12 hK12 => ?_)
                    refine c_reg ?_ -- region 10 syntaxm.go:67
                    refine wl (ro_eqS rfl rfl rfl) ?_
                    refine wl (ro_assign rfl) ?_
                    refine wl_nil (x_then (hK12 _ _ ?_))
                    clear hK12 K12
                    refine wc_cond rfl (fun hc4 => ?_) (fun hc4 => ?_)
                    · try simp only [decide_eq_true_eq, decide_eq_false_iff_not, Bool.not_eq_true', Bool.not_eq_false', Bool.not_eq_eq_eq_not, Bool.not_true, Bool.not_false, beq_iff_eq, bne_iff_ne, ne_eq, beq_eq_false_iff_ne, bne_eq_false_iff_eq, gt_iff_lt, ge_iff_le, Int.not_lt, Int.not_le] at hc4
                      refine c_skip (x_then ?_)
                      exact ⟨rfl, kp _ ⟨by subst hc4; rfl, trivial⟩⟩
                    · try simp only [decide_eq_true_eq, decide_eq_false_iff_not, Bool.not_eq_true', Bool.not_eq_false', Bool.not_eq_eq_eq_not, Bool.not_true, Bool.not_false, beq_iff_eq, bne_iff_ne, ne_eq, beq_eq_false_iff_ne, bne_eq_false_iff_eq, gt_iff_lt, ge_iff_le, Int.not_lt, Int.not_le] at hc4
                      replace hall := And.intro hc4 hall
                      refine c_seq (fun K13 hK13 => ?_)
                      refine c_reg ?_ -- region 11 syntaxm.go:67
                      refine wl (ro_eqS rfl rfl rfl) ?_
                      refine wl (ro_assign rfl) ?_
                      refine wl_nil (x_then (hK13 _ _ ?_))
                      clear hK13 K13
                      refine wc_cond rfl (fun hc4 => ?_) (fun hc4 => ?_)
                      · try simp only [decide_eq_true_eq, decide_eq_false_iff_not, Bool.not_eq_true', Bool.not_eq_false', Bool.not_eq_eq_eq_not, Bool.not_true, Bool.not_false, beq_iff_eq, bne_iff_ne, ne_eq, beq_eq_false_iff_ne, bne_eq_false_iff_eq, gt_iff_lt, ge_iff_le, Int.not_lt, Int.not_le] at hc4
                        refine c_skip (x_then ?_)
                        exact ⟨rfl, kp _ ⟨by subst hc4; rfl, trivial⟩⟩
                      · try simp only [decide_eq_true_eq, decide_eq_false_iff_not, Bool.not_eq_true', Bool.not_eq_false', Bool.not_eq_eq_eq_not, Bool.not_true, Bool.not_false, beq_iff_eq, bne_iff_ne, ne_eq, beq_eq_false_iff_ne, bne_eq_false_iff_eq, gt_iff_lt, ge_iff_le, Int.not_lt, Int.not_le] at hc4
                        replace hall := And.intro hc4 hall
                        refine c_seq (fun K14 hK14 => ?_)
                        refine c_reg ?_ -- region 12 syntaxm.go:67
                        refine wl (ro_eqS rfl rfl rfl) ?_
                        refine wl (ro_assign rfl) ?_
                        refine wl_nil (x_then (hK14 _ _ ?_))
                        clear hK14 K14
                        refine wc_cond rfl (fun hc4 => ?_) (fun hc4 => ?_)
                        · try simp only [decide_eq_true_eq, decide_eq_false_iff_not, Bool.not_eq_true', Bool.not_eq_false', Bool.not_eq_eq_eq_not, Bool.not_true, Bool.not_false, beq_iff_eq, bne_iff_ne, ne_eq, beq_eq_false_iff_ne, bne_eq_false_iff_eq, gt_iff_lt, ge_iff_le, Int.not_lt, Int.not_le] at hc4
                          refine c_skip (x_then ?_)
                          exact ⟨rfl, kp _ ⟨by subst hc4; rfl, trivial⟩⟩
                        · try simp only [decide_eq_true_eq, decide_eq_false_iff_not, Bool.not_eq_true', Bool.not_eq_false', Bool.not_eq_eq_eq_not, Bool.not_true, Bool.not_false, beq_iff_eq, bne_iff_ne, ne_eq, beq_eq_false_iff_ne, bne_eq_false_iff_eq, gt_iff_lt, ge_iff_le, Int.not_lt, Int.not_le] at hc4
                          replace hall := And.intro hc4 hall
                          refine c_seq (fun K15 hK15 => ?_)
                          refine c_reg ?_ -- region 13 syntaxm.go:67
                          refine wl (ro_eqS rfl rfl rfl) ?_
                          refine wl (ro_assign rfl) ?_
                          refine wl_nil (x_then (hK15 _ _ ?_))
                          clear hK15 K15
                          refine wc_cond rfl (fun hc4 => ?_) (fun hc4 => ?_)
                          · try simp only [decide_eq_true_eq, decide_eq_false_iff_not, Bool.not_eq_true', Bool.not_eq_false', Bool.not_eq_eq_eq_not, Bool.not_true, Bool.not_false, beq_iff_eq, bne_iff_ne, ne_eq, beq_eq_false_iff_ne, bne_eq_false_iff_eq, gt_iff_lt, ge_iff_le, Int.not_lt, Int.not_le] at hc4
                            refine c_skip (x_then ?_)
                            exact ⟨rfl, kp _ ⟨by subst hc4; rfl, trivial⟩⟩
                          · try simp only [decide_eq_true_eq, decide_eq_false_iff_not, Bool.not_eq_true', Bool.not_eq_false', Bool.not_eq_eq_eq_not, Bool.not_true, Bool.not_false, beq_iff_eq, bne_iff_ne, ne_eq, beq_eq_false_iff_ne, bne_eq_false_iff_eq, gt_iff_lt, ge_iff_le, Int.not_lt, Int.not_le] at hc4
                            replace hall := And.intro hc4 hall
                            refine c_seq (fun K16 hK16 => ?_)
                            refine c_reg ?_ -- region 14 syntaxm.go:67
                            refine wl (ro_eqS rfl rfl rfl) ?_
                            refine wl (ro_assign rfl) ?_
                            refine wl_nil (x_then (hK16 _ _ ?_))
                            clear hK16 K16
                            refine wc_cond rfl (fun hc4 => ?_) (fun hc4 => ?_)
                            · try simp only [decide_eq_true_eq, decide_eq_false_iff_not, Bool.not_eq_true', Bool.not_eq_false', Bool.not_eq_eq_eq_not, Bool.not_true, Bool.not_false, beq_iff_eq, bne_iff_ne, ne_eq, beq_eq_false_iff_ne, bne_eq_false_iff_eq, gt_iff_lt, ge_iff_le, Int.not_lt, Int.not_le] at hc4
                              refine c_skip (x_then ?_)
                              exact ⟨rfl, kp _ ⟨by subst hc4; rfl, trivial⟩⟩
                            · try simp only [decide_eq_true_eq, decide_eq_false_iff_not, Bool.not_eq_true', Bool.not_eq_false', Bool.not_eq_eq_eq_not, Bool.not_true, Bool.not_false, beq_iff_eq, bne_iff_ne, ne_eq, beq_eq_false_iff_ne, bne_eq_false_iff_eq, gt_iff_lt, ge_iff_le, Int.not_lt, Int.not_le] at hc4
                              replace hall := And.intro hc4 hall
                              refine c_seq (fun K17 hK17 => ?_)
                              refine c_reg ?_ -- region 15 syntaxm.go:67
                              refine wl (ro_eqS rfl rfl rfl) ?_
                              refine wl (ro_assign rfl) ?_
                              refine wl_nil (x_then (hK17 _ _ ?_))
                              clear hK17 K17
                              refine wc_cond rfl (fun hc4 => ?_) (fun hc4 => ?_)
                              · try simp only [decide_eq_true_eq, decide_eq_false_iff_not, Bool.not_eq_true', Bool.not_eq_false', Bool.not_eq_eq_eq_not, Bool.not_true, Bool.not_false, beq_iff_eq, bne_iff_ne, ne_eq, beq_eq_false_iff_ne, bne_eq_false_iff_eq, gt_iff_lt, ge_iff_le, Int.not_lt, Int.not_le] at hc4
                                refine c_skip (x_then ?_)
                                exact ⟨rfl, kp _ ⟨by subst hc4; rfl, trivial⟩⟩
                              · try simp only [decide_eq_true_eq, decide_eq_false_iff_not, Bool.not_eq_true', Bool.not_eq_false', Bool.not_eq_eq_eq_not, Bool.not_true, Bool.not_false, beq_iff_eq, bne_iff_ne, ne_eq, beq_eq_false_iff_ne, bne_eq_false_iff_eq, gt_iff_lt, ge_iff_le, Int.not_lt, Int.not_le] at hc4
                                replace hall := And.intro hc4 hall
                                refine c_seq (fun K18 hK18 => ?_)
                                refine c_reg ?_ -- region 16 syntaxm.go:67
                                refine wl (ro_eqS rfl rfl rfl) ?_
                                refine wl (ro_assign rfl) ?_
                                refine wl_nil (x_then (hK18 _ _ ?_))
                                clear hK18 K18
                                refine wc_cond rfl (fun hc4 => ?_) (fun hc4 => ?_)
                                · try simp only [decide_eq_true_eq, decide_eq_false_iff_not, Bool.not_eq_true', Bool.not_eq_false', Bool.not_eq_eq_eq_not, Bool.not_true, Bool.not_false, beq_iff_eq, bne_iff_ne, ne_eq, beq_eq_false_iff_ne, bne_eq_false_iff_eq, gt_iff_lt, ge_iff_le, Int.not_lt, Int.not_le] at hc4
                                  refine c_skip (x_then ?_)
                                  exact ⟨rfl, kp _ ⟨by subst hc4; rfl, trivial⟩⟩
                                · try simp only [decide_eq_true_eq, decide_eq_false_iff_not, Bool.not_eq_true', Bool.not_eq_false', Bool.not_eq_eq_eq_not, Bool.not_true, Bool.not_false, beq_iff_eq, bne_iff_ne, ne_eq, beq_eq_false_iff_ne, bne_eq_false_iff_eq, gt_iff_lt, ge_iff_le, Int.not_lt, Int.not_le] at hc4
                                  replace hall := And.intro hc4 hall
                                  refine c_seq (fun K19 hK19 => ?_)
                                  refine c_reg ?_ -- region 17 syntaxm.go:67
                                  refine wl (ro_eqS rfl rfl rfl) ?_
                                  refine wl (ro_assign rfl) ?_
                                  refine wl_nil (x_then (hK19 _ _ ?_))
                                  clear hK19 K19
                                  refine wc_cond rfl (fun hc4 => ?_) (fun hc4 => ?_)
                                  · try simp only [decide_eq_true_eq, decide_eq_false_iff_not, Bool.not_eq_true', Bool.not_eq_false', Bool.not_eq_eq_eq_not, Bool.not_true, Bool.not_false, beq_iff_eq, bne_iff_ne, ne_eq, beq_eq_false_iff_ne, bne_eq_false_iff_eq, gt_iff_lt, ge_iff_le, Int.not_lt, Int.not_le] at hc4
                                    refine c_skip (x_then ?_)
                                    exact ⟨rfl, kp _ ⟨by subst hc4; rfl, trivial⟩⟩
                                  · try simp only [decide_eq_true_eq, decide_eq_false_iff_not, Bool.not_eq_true', Bool.not_eq_false', Bool.not_eq_eq_eq_not, Bool.not_true, Bool.not_false, beq_iff_eq, bne_iff_ne, ne_eq, beq_eq_false_iff_ne, bne_eq_false_iff_eq, gt_iff_lt, ge_iff_le, Int.not_lt, Int.not_le] at hc4
                                    replace hall := And.intro hc4 hall
                                    refine c_seq (fun K20 hK20 => ?_)
                                    refine c_reg ?_ -- region 18 syntaxm.go:67
                                    refine wl (ro_eqS rfl rfl rfl) ?_
                                    refine wl (ro_assign rfl) ?_
                                    refine wl_nil (x_then (hK20 _ _ ?_))
                                    clear hK20 K20
                                    refine wc_cond rfl (fun hc4 => ?_) (fun hc4 => ?_)
                                    · try simp only [decide_eq_true_eq, decide_eq_false_iff_not, Bool.not_eq_true', Bool.not_eq_false', Bool.not_eq_eq_eq_not, Bool.not_true, Bool.not_false, beq_iff_eq, bne_iff_ne, ne_eq, beq_eq_false_iff_ne, bne_eq_false_iff_eq, gt_iff_lt, ge_iff_le, Int.not_lt, Int.not_le] at hc4
                                      refine c_skip (x_then ?_)
                                      exact ⟨rfl, kp _ ⟨by subst hc4; rfl, trivial⟩⟩
                                    · try simp only [decide_eq_true_eq, decide_eq_false_iff_not, Bool.not_eq_true', Bool.not_eq_false', Bool.not_eq_eq_eq_not, Bool.not_true, Bool.not_false, beq_iff_eq, bne_iff_ne, ne_eq, beq_eq_false_iff_ne, bne_eq_false_iff_eq, gt_iff_lt, ge_iff_le, Int.not_lt, Int.not_le] at hc4
                                      replace hall := And.intro hc4 hall
                                      refine c_seq (fun K21 hK21 => ?_)
                                      refine c_reg ?_ -- region 19 syntaxm.go:67
                                      refine wl (ro_eqS rfl rfl rfl) ?_
                                      refine wl (ro_assign rfl) ?_
                                      refine wl_nil (x_then (hK21 _ _ ?_))
                                      clear hK21 K21
                                      refine wc_cond rfl (fun hc4 => ?_) (fun hc4 => ?_)
                                      · try simp only [decide_eq_true_eq, decide_eq_false_iff_not, Bool.not_eq_true', Bool.not_eq_false', Bool.not_eq_eq_eq_not, Bool.not_true, Bool.not_false, beq_iff_eq, bne_iff_ne, ne_eq, beq_eq_false_iff_ne, bne_eq_false_iff_eq, gt_iff_lt, ge_iff_le, Int.not_lt, Int.not_le] at hc4
                                        refine c_skip (x_then ?_)
                                        exact ⟨rfl, kp _ ⟨by subst hc4; rfl, trivial⟩⟩
                                      · try simp only [decide_eq_true_eq, decide_eq_false_iff_not, Bool.not_eq_true', Bool.not_eq_false', Bool.not_eq_eq_eq_not, Bool.not_true, Bool.not_false, beq_iff_eq, bne_iff_ne, ne_eq, beq_eq_false_iff_ne, bne_eq_false_iff_eq, gt_iff_lt, ge_iff_le, Int.not_lt, Int.not_le] at hc4
                                        replace hall := And.intro hc4 hall
                                        refine c_reg ?_ -- region 20 syntaxm.go:67
                                        refine wl (ro_eqS rfl rfl rfl) ?_
                                        refine wl (ro_assign rfl) ?_
                                        refine wl_nil (x_then ?_)
                                        refine ⟨rfl, kp _ ⟨?_, trivial⟩⟩
                                        by_cases hw : s = [119, 104, 105, 108, 101]
                                        · subst hw; rfl
                                        · obtain ⟨n1, n2, n3, n4, n5, n6, n7, n8, n9, n10, n11, n12, n13, n14, n15, n16, n17, n18, _⟩ := hall
                                          rw [posS_none (w := s)]
                                          · show some (Value.bool (s == [119, 104, 105, 108, 101])) = some (Value.bool false)
                                            rw [beq_eq_false_iff_ne.2 hw]
                                          · intro u hu
                                            simp only [kwL, List.mem_cons, List.not_mem_nil, or_false] at hu
                                            rcases hu with rfl | rfl | rfl | rfl | rfl | rfl | rfl | rfl | rfl | rfl | rfl | rfl | rfl | rfl | rfl | rfl | rfl | rfl | rfl
                                            all_goals (intro e; subst e)
                                            all_goals first | exact hw rfl | exact n1 rfl | exact n2 rfl | exact n3 rfl | exact n4 rfl | exact n5 rfl | exact n6 rfl | exact n7 rfl | exact n8 rfl | exact n9 rfl | exact n10 rfl | exact n11 rfl | exact n12 rfl | exact n13 rfl | exact n14 rfl | exact n15 rfl | exact n16 rfl | exact n17 rfl | exact n18 rfl
  rintro a' w' ⟨rfl, e, rfl⟩
  refine wc_cond rfl (fun hc4 => ?_) (fun hc4 => ?_)
  · try simp only [decide_eq_true_eq, decide_eq_false_iff_not, Bool.not_eq_true', Bool.not_eq_false', Bool.not_eq_eq_eq_not, Bool.not_true, Bool.not_false, beq_iff_eq, bne_iff_ne, ne_eq, beq_eq_false_iff_ne, bne_eq_false_iff_eq, gt_iff_lt, ge_iff_le, Int.not_lt, Int.not_le] at hc4
    refine c_seq (fun K22 hK22 => ?_)
    refine c_reg ?_ -- region 21 syntaxm.go:68
    refine wl (ro_assign rfl) ?_
    refine wl_nil (x_then (hK22 _ _ ?_))
    clear hK22 K22
    refine c_ret (x_blkR (x_thenR ?_))
    refine bp_ret Tryz.results100 rfl ?_
    exact ⟨by rw [hc4], rfl⟩
  · try simp only [decide_eq_true_eq, decide_eq_false_iff_not, Bool.not_eq_true', Bool.not_eq_false', Bool.not_eq_eq_eq_not, Bool.not_true, Bool.not_false, beq_iff_eq, bne_iff_ne, ne_eq, beq_eq_false_iff_ne, bne_eq_false_iff_eq, gt_iff_lt, ge_iff_le, Int.not_lt, Int.not_le] at hc4
    replace hall := And.intro hc4 hall
    refine c_skip (x_blk (x_then (hK2 _ _ ?_)))
    clear hK2 K2
    refine forget [] trivial (fun e => ?_)
    refine c_seq (fun K23 hK23 => ?_)
    refine c_reg ?_ -- region 22 syntaxm.go:70
    refine wl (ro_assign rfl) ?_
    refine wl_nil (x_then (hK23 _ _ ?_))
    clear hK23 K23
    refine c_ret ?_
    refine bp_ret Tryz.results100 rfl ?_
    exact ⟨by rw [hc4], rfl⟩
theorem dgA_lt {s : Str} {j : Nat} (h : dgA s j = true) : j < s.length := by
  unfold dgA at h
  cases hj : s[j]? with
  | none => rw [hj] at h; cases h
  | some c => exact (List.getElem?_eq_some_iff.1 hj).1
theorem dgA_at {s : Str} {j : Nat} {c : UInt8} (h : s[j]? = some c) : dgA s j = isDig c := by unfold dgA; rw [h]; rfl
/-- at i stands 'p' D or 'p' '-' D. -/
def powB (s : Str) (i : Nat) : Bool := s[i]? == some 112 && (dgA s (i + 1) || (s[i + 1]? == some 45 && dgA s (i + 2)))
theorem power102 {w : World} {s : Str} {i : Nat} (hs : s.length < 4611686018427387904) (hi : i ≤ s.length) : Ret Tryz.prog 102 [S s, i64c i] w (fun r w' => r = .bool (powB s i) ∧ w' = w) := by
  refine ret_of Tryz.func102 rfl Tryz.ntmps102 rfl ?_
  refine c_seq (fun K1 hK1 => ?_)
  refine c_reg ?_ -- region 0 syntaxm.go:55
  refine wl (ro_assign rfl) ?_
  refine wl_nil (x_then (hK1 _ _ ?_))
  clear hK1 K1
  refine c_seq (fun K2 hK2 => ?_)
  refine c_seq (fun K3 hK3 => ?_)
  refine c_reg ?_ -- region 1 syntaxm.go:56
  refine wl (ro_move rfl) ?_
  refine wl (ro_arith rfl rfl rfl (Go.IntWalk.i64_in _ (by omega))) ?_
  refine wl (ro_move rfl) ?_
  refine wl (ro_lenS rfl st_9) ?_
  refine wl (ro_cmp rfl rfl rfl) ?_
  refine wl_fork rfl (fun hg10 => ?_) (fun hg10 => ?_)
  · try simp only [decide_eq_true_eq, decide_eq_false_iff_not, Bool.not_eq_true', Bool.not_eq_false', Bool.not_eq_eq_eq_not, Bool.not_true, Bool.not_false, beq_iff_eq, bne_iff_ne, ne_eq, beq_eq_false_iff_ne, bne_eq_false_iff_eq, gt_iff_lt, ge_iff_le, Int.not_lt, Int.not_le] at hg10
    refine wlg_no rfl ?_
    refine wlg_no rfl ?_
    refine wlg_no rfl ?_
    refine wlg_no rfl ?_
    refine wl (ro_pick rfl rfl rfl) ?_
    refine wl_nil (x_then (hK3 _ _ ?_))
    clear hK3 K3
    refine wc_condT rfl ?_
    refine c_seq (fun K4 hK4 => ?_)
    refine c_reg ?_ -- region 2 syntaxm.go:57
    refine wl (ro_assign rfl) ?_
    refine wl_nil (x_then (hK4 _ _ ?_))
    clear hK4 K4
    refine c_ret (x_thenR ?_)
    refine bp_ret Tryz.results102 rfl ?_
    refine ⟨congrArg Value.bool ?_, rfl⟩
    have h1 : s[i + 1]? = none := List.getElem?_eq_none (by omega)
    unfold powB dgA
    rw [h1]
    simp
  · try simp only [decide_eq_true_eq, decide_eq_false_iff_not, Bool.not_eq_true', Bool.not_eq_false', Bool.not_eq_eq_eq_not, Bool.not_true, Bool.not_false, beq_iff_eq, bne_iff_ne, ne_eq, beq_eq_false_iff_ne, bne_eq_false_iff_eq, gt_iff_lt, ge_iff_le, Int.not_lt, Int.not_le] at hg10
    obtain ⟨c, hc⟩ : ∃ c, s[i]? = some c := ⟨_, List.getElem?_eq_getElem (by omega)⟩
    obtain ⟨d, hd⟩ : ∃ d, s[i + 1]? = some d := ⟨_, List.getElem?_eq_getElem (by omega)⟩
    refine wlg_yes rfl (ro_move rfl) ?_
    refine wlg_yes rfl (ro_move rfl) ?_
    refine wlg_yes rfl (ro_indexS rfl rfl st_9 rfl (hc)) ?_
    refine wlg_yes rfl (ro_cmp rfl rfl rfl) ?_
    refine wl (ro_pick rfl rfl rfl) ?_
    refine wl_nil (x_then (hK3 _ _ ?_))
    clear hK3 K3
    refine wc_cond rfl (fun hc15 => ?_) (fun hc15 => ?_)
    · try simp only [decide_eq_true_eq, decide_eq_false_iff_not, Bool.not_eq_true', Bool.not_eq_false', Bool.not_eq_eq_eq_not, Bool.not_true, Bool.not_false, beq_iff_eq, bne_iff_ne, ne_eq, beq_eq_false_iff_ne, bne_eq_false_iff_eq, gt_iff_lt, ge_iff_le, Int.not_lt, Int.not_le] at hc15
      refine c_seq (fun K5 hK5 => ?_)
      refine c_reg ?_ -- region 2 syntaxm.go:57
      refine wl (ro_assign rfl) ?_
      refine wl_nil (x_then (hK5 _ _ ?_))
      clear hK5 K5
      refine c_ret (x_thenR ?_)
      refine bp_ret Tryz.results102 rfl ?_
      refine ⟨congrArg Value.bool ?_, rfl⟩
      have h1 : c ≠ 112 := fun e => by subst e; exact hc15 rfl
      unfold powB
      rw [hc]
      simp [h1]
    · try simp only [decide_eq_true_eq, decide_eq_false_iff_not, Bool.not_eq_true', Bool.not_eq_false', Bool.not_eq_eq_eq_not, Bool.not_true, Bool.not_false, beq_iff_eq, bne_iff_ne, ne_eq, beq_eq_false_iff_ne, bne_eq_false_iff_eq, gt_iff_lt, ge_iff_le, Int.not_lt, Int.not_le] at hc15
      have h112 : c = 112 := (u8_beq c 112 (by decide)).2 (by omega)
      subst h112
      refine c_skip (x_then (hK2 _ _ ?_))
      clear hK2 K2
      refine c_seq (fun K6 hK6 => ?_)
      refine c_seq (fun K7 hK7 => ?_)
      refine c_reg ?_ -- region 3 syntaxm.go:59
      refine wl (ro_move rfl) ?_
      refine wl (ro_move rfl) ?_
      refine wl (ro_arith rfl rfl rfl (Go.IntWalk.i64_in _ (by omega))) ?_
      refine wl (ro_indexS rfl rfl st_9 rfl (hd)) ?_
      refine wl (ro_cmp rfl rfl rfl) ?_
      refine wl_nil (x_then (hK7 _ _ ?_))
      clear hK7 K7
      refine wc_cond rfl (fun hc20 => ?_) (fun hc20 => ?_)
      · try simp only [decide_eq_true_eq, decide_eq_false_iff_not, Bool.not_eq_true', Bool.not_eq_false', Bool.not_eq_eq_eq_not, Bool.not_true, Bool.not_false, beq_iff_eq, bne_iff_ne, ne_eq, beq_eq_false_iff_ne, bne_eq_false_iff_eq, gt_iff_lt, ge_iff_le, Int.not_lt, Int.not_le] at hc20
        have h45 : d = 45 := (u8_beq d 45 (by decide)).2 (by omega)
        subst h45
        have hp : powB s i = dgA s (i + 2) := by unfold powB; rw [hc, dgA_at hd, hd]; simp [show isDig 45 = false from rfl]
        refine c_seq (fun K8 hK8 => ?_)
        refine c_reg ?_ -- region 4 syntaxm.go:60
        refine wl (ro_move rfl) ?_
        refine wl (ro_arith rfl rfl rfl (Go.IntWalk.i64_in _ (by omega))) ?_
        refine wl (ro_move rfl) ?_
        refine wl (ro_lenS rfl st_9) ?_
        refine wl (ro_cmp rfl rfl rfl) ?_
        refine wl_fork rfl (fun hg26 => ?_) (fun hg26 => ?_)
        · try simp only [decide_eq_true_eq, decide_eq_false_iff_not, Bool.not_eq_true', Bool.not_eq_false', Bool.not_eq_eq_eq_not, Bool.not_true, Bool.not_false, beq_iff_eq, bne_iff_ne, ne_eq, beq_eq_false_iff_ne, bne_eq_false_iff_eq, gt_iff_lt, ge_iff_le, Int.not_lt, Int.not_le] at hg26
          obtain ⟨x, hx⟩ : ∃ x, s[i + 2]? = some x := ⟨_, List.getElem?_eq_getElem (by omega)⟩
          have hq : dgA s (i + 2) = isDig x := dgA_at hx
          refine wlg_yes rfl (ro_move rfl) ?_
          refine wlg_yes rfl (ro_move rfl) ?_
          refine wlg_yes rfl (ro_arith rfl rfl rfl (Go.IntWalk.i64_in _ (by omega))) ?_
          refine wlg_yes rfl (ro_indexS rfl rfl st_9 rfl (hx)) ?_
          refine wlg_yes rfl (ro_cmp rfl rfl rfl) ?_
          refine wl (ro_pick rfl rfl rfl) ?_
          refine wl_fork rfl (fun hg33 => ?_) (fun hg33 => ?_)
          · try simp only [decide_eq_true_eq, decide_eq_false_iff_not, Bool.not_eq_true', Bool.not_eq_false', Bool.not_eq_eq_eq_not, Bool.not_true, Bool.not_false, beq_iff_eq, bne_iff_ne, ne_eq, beq_eq_false_iff_ne, bne_eq_false_iff_eq, gt_iff_lt, ge_iff_le, Int.not_lt, Int.not_le] at hg33
            refine wlg_yes rfl (ro_move rfl) ?_
            refine wlg_yes rfl (ro_move rfl) ?_
            refine wlg_yes rfl (ro_arith rfl rfl rfl (Go.IntWalk.i64_in _ (by omega))) ?_
            refine wlg_yes rfl (ro_indexS rfl rfl st_9 rfl (hx)) ?_
            refine wlg_yes rfl (ro_cmp rfl rfl rfl) ?_
            refine wl (ro_pick rfl rfl rfl) ?_
            refine wl (ro_assign rfl) ?_
            refine wl_nil (x_then (hK8 _ _ ?_))
            clear hK8 K8
            refine c_ret (x_thenR ?_)
            refine bp_ret Tryz.results102 rfl ?_
            refine ⟨congrArg Value.bool ?_, rfl⟩
            rw [hp, hq]
            have := isDig_iff x
            cases hb : isDig x <;> simp_all
          · try simp only [decide_eq_true_eq, decide_eq_false_iff_not, Bool.not_eq_true', Bool.not_eq_false', Bool.not_eq_eq_eq_not, Bool.not_true, Bool.not_false, beq_iff_eq, bne_iff_ne, ne_eq, beq_eq_false_iff_ne, bne_eq_false_iff_eq, gt_iff_lt, ge_iff_le, Int.not_lt, Int.not_le] at hg33
            refine wlg_no rfl ?_
            refine wlg_no rfl ?_
            refine wlg_no rfl ?_
            refine wlg_no rfl ?_
            refine wlg_no rfl ?_
            refine wl (ro_pick rfl rfl rfl) ?_
            refine wl (ro_assign rfl) ?_
            refine wl_nil (x_then (hK8 _ _ ?_))
            clear hK8 K8
            refine c_ret (x_thenR ?_)
            refine bp_ret Tryz.results102 rfl ?_
            refine ⟨congrArg Value.bool ?_, rfl⟩
            rw [hp, hq]
            have := isDig_iff x
            cases hb : isDig x
            · rfl
            · have := this.1 hb; omega
        · try simp only [decide_eq_true_eq, decide_eq_false_iff_not, Bool.not_eq_true', Bool.not_eq_false', Bool.not_eq_eq_eq_not, Bool.not_true, Bool.not_false, beq_iff_eq, bne_iff_ne, ne_eq, beq_eq_false_iff_ne, bne_eq_false_iff_eq, gt_iff_lt, ge_iff_le, Int.not_lt, Int.not_le] at hg26
          refine wlg_no rfl ?_
          refine wlg_no rfl ?_
          refine wlg_no rfl ?_
          refine wlg_no rfl ?_
          refine wlg_no rfl ?_
          refine wl (ro_pick rfl rfl rfl) ?_
          refine wl (ro_move rfl) ?_
          refine wlg_no rfl ?_
          refine wlg_no rfl ?_
          refine wlg_no rfl ?_
          refine wlg_no rfl ?_
          refine wlg_no rfl ?_
          refine wl (ro_pick rfl rfl rfl) ?_
          refine wl (ro_assign rfl) ?_
          refine wl_nil (x_then (hK8 _ _ ?_))
          clear hK8 K8
          refine c_ret (x_thenR ?_)
          refine bp_ret Tryz.results102 rfl ?_
          refine ⟨congrArg Value.bool ?_, rfl⟩
          rw [hp]
          unfold dgA
          rw [List.getElem?_eq_none (by omega)]
          rfl
      · try simp only [decide_eq_true_eq, decide_eq_false_iff_not, Bool.not_eq_true', Bool.not_eq_false', Bool.not_eq_eq_eq_not, Bool.not_true, Bool.not_false, beq_iff_eq, bne_iff_ne, ne_eq, beq_eq_false_iff_ne, bne_eq_false_iff_eq, gt_iff_lt, ge_iff_le, Int.not_lt, Int.not_le] at hc20
        have h45 : d ≠ 45 := fun e => by subst e; exact hc20 rfl
        have hp : powB s i = isDig d := by unfold powB; rw [hc, dgA_at hd, hd]; simp [h45]
        refine c_skip (x_then (hK6 _ _ ?_))
        clear hK6 K6
        refine forget [(0, _), (1, _)] ⟨rfl, rfl, trivial⟩ (fun e => ?_)
        refine c_seq (fun K9 hK9 => ?_)
        refine c_reg ?_ -- region 5 syntaxm.go:62
        refine wl (ro_move rfl) ?_
        refine wl (ro_move rfl) ?_
        refine wl (ro_arith rfl rfl rfl (Go.IntWalk.i64_in _ (by omega))) ?_
        refine wl (ro_indexS rfl rfl st_9 rfl (hd)) ?_
        refine wl (ro_cmp rfl rfl rfl) ?_
        refine wl_fork rfl (fun hg45 => ?_) (fun hg45 => ?_)
        · try simp only [decide_eq_true_eq, decide_eq_false_iff_not, Bool.not_eq_true', Bool.not_eq_false', Bool.not_eq_eq_eq_not, Bool.not_true, Bool.not_false, beq_iff_eq, bne_iff_ne, ne_eq, beq_eq_false_iff_ne, bne_eq_false_iff_eq, gt_iff_lt, ge_iff_le, Int.not_lt, Int.not_le] at hg45
          refine wlg_yes rfl (ro_move rfl) ?_
          refine wlg_yes rfl (ro_move rfl) ?_
          refine wlg_yes rfl (ro_arith rfl rfl rfl (Go.IntWalk.i64_in _ (by omega))) ?_
          refine wlg_yes rfl (ro_indexS rfl rfl st_9 rfl (hd)) ?_
          refine wlg_yes rfl (ro_cmp rfl rfl rfl) ?_
          refine wl (ro_pick rfl rfl rfl) ?_
          refine wl (ro_assign rfl) ?_
          refine wl_nil (x_then (hK9 _ _ ?_))
          clear hK9 K9
          refine c_ret ?_
          refine bp_ret Tryz.results102 rfl ?_
          refine ⟨congrArg Value.bool ?_, rfl⟩
          rw [hp]
          have := isDig_iff d
          cases hb : isDig d <;> simp_all
        · try simp only [decide_eq_true_eq, decide_eq_false_iff_not, Bool.not_eq_true', Bool.not_eq_false', Bool.not_eq_eq_eq_not, Bool.not_true, Bool.not_false, beq_iff_eq, bne_iff_ne, ne_eq, beq_eq_false_iff_ne, bne_eq_false_iff_eq, gt_iff_lt, ge_iff_le, Int.not_lt, Int.not_le] at hg45
          refine wlg_no rfl ?_
          refine wlg_no rfl ?_
          refine wlg_no rfl ?_
          refine wlg_no rfl ?_
          refine wlg_no rfl ?_
          refine wl (ro_pick rfl rfl rfl) ?_
          refine wl (ro_assign rfl) ?_
          refine wl_nil (x_then (hK9 _ _ ?_))
          clear hK9 K9
          refine c_ret ?_
          refine bp_ret Tryz.results102 rfl ?_
          refine ⟨congrArg Value.bool ?_, rfl⟩
          rw [hp]
          have := isDig_iff d
          cases hb : isDig d
          · rfl
          · have := this.1 hb; omega
end Go.Proofs.Qxb6500568aGreatDoor
