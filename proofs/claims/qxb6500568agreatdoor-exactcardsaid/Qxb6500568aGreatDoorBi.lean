import Derived.Test.Qxb6500568aGreatDoorBh
/- The real numbers: Arith, Neg, Cmp, FromInt. -/
namespace Go.Proofs.Qxb6500568aGreatDoor
open Ieee
set_option linter.unusedVariables false
set_option linter.unusedSimpArgs false

theorem cmp_self (r : Nat) : fCmp 2 r r = isNaNW r := by
  unfold fCmp isNaNW
  by_cases c : infB < rgW r
  · rw [if_pos (.inl c)]; simp [c]
  · rw [if_neg (by simp [c])]; simp [c]
theorem bits300 {w : World} {r : Nat} (h : W64 r) : Ret Tryz.prog 300 [fl r] w (fun v w' => v = u64c (nrm r) ∧ w' = w) := by
  refine ret_of Tryz.func300 rfl Tryz.ntmps300 rfl ?_
  refine c_seq (fun K1 hK1 => ?_)
  refine c_reg ?_ -- region 0 num.go:48
  refine wl (ro_assign rfl) ?_
  refine wl_nil (x_then (hK1 _ _ ?_))
  clear hK1 K1
  refine c_seq (fun K2 hK2 => ?_)
  refine c_seq (fun K3 hK3 => ?_)
  refine c_reg ?_ -- region 1 num.go:49
  refine wl (ro_move rfl) ?_
  refine wl (ro_move rfl) ?_
  refine wl (ro_fcmp rfl rfl h h rfl) ?_
  refine wl_nil (x_then (hK3 _ _ ?_))
  clear hK3 K3
  refine wc_cond rfl (fun hc5 => ?_) (fun hc5 => ?_)
  · try simp only [decide_eq_true_eq, decide_eq_false_iff_not, Bool.not_eq_true', Bool.not_eq_false', Bool.not_eq_eq_eq_not, Bool.not_true, Bool.not_false, beq_iff_eq, bne_iff_ne, ne_eq, beq_eq_false_iff_ne, bne_eq_false_iff_eq, gt_iff_lt, ge_iff_le, Int.not_lt, Int.not_le] at hc5
    refine c_seq (fun K4 hK4 => ?_)
    refine c_reg ?_ -- region 2 num.go:50
    refine wl (ro_assign rfl) ?_
    refine wl_nil (x_then (hK4 _ _ ?_))
    clear hK4 K4
    refine c_ret (x_thenR ?_)
    refine bp_ret Tryz.results300 rfl ?_
    exact ⟨by rw [cmp_self] at hc5; unfold nrm; rw [if_pos hc5]; rfl, rfl⟩
  · try simp only [decide_eq_true_eq, decide_eq_false_iff_not, Bool.not_eq_true', Bool.not_eq_false', Bool.not_eq_eq_eq_not, Bool.not_true, Bool.not_false, beq_iff_eq, bne_iff_ne, ne_eq, beq_eq_false_iff_ne, bne_eq_false_iff_eq, gt_iff_lt, ge_iff_le, Int.not_lt, Int.not_le] at hc5
    refine c_skip (x_then (hK2 _ _ ?_))
    clear hK2 K2
    refine forget [(0, _)] ⟨rfl, trivial⟩ (fun e => ?_)
    refine c_seq (fun K5 hK5 => ?_)
    refine c_reg ?_ -- region 3 num.go:52
    refine wl (ro_move rfl) ?_
    refine wl (ro_bitsF rfl) ?_
    refine wl (ro_assign rfl) ?_
    refine wl_nil (x_then (hK5 _ _ ?_))
    clear hK5 K5
    refine c_ret ?_
    refine bp_ret Tryz.results300 rfl ?_
    exact ⟨by rw [cmp_self] at hc5; unfold nrm; rw [if_neg (by rw [hc5]; simp)], rfl⟩
theorem Floor299 {w : World} {a : Nat} (h : W64 a) : Ret Tryz.prog 299 [fl a] w (fun v w' => ∃ r, v = fl r ∧ nrm r = fFlr a ∧ W64 r ∧ Fram none' w w') := by
  refine ret_of Tryz.func299 rfl Tryz.ntmps299 rfl ?_
  refine c_seq (fun K1 hK1 => ?_)
  refine c_reg ?_ -- region 0 floor.go:14
  refine wl (ro_assign rfl) ?_
  refine wl_nil (x_then (hK1 _ _ ?_))
  clear hK1 K1
  refine forget [(0, _)] ⟨rfl, trivial⟩ (fun e => ?_)
  refine c_seq (fun K2 hK2 => ?_)
  refine wc_condT rfl ?_
  refine c_seq (fun K3 hK3 => ?_)
  refine c_reg ?_ -- region 1 floor.go:16
  refine wl (ro_move rfl) ?_
  refine wl_arch rfl h (fun r u1 hr hW hF => ?_)
  refine wl (ro_assign rfl) ?_
  refine wl_nil (x_then (hK3 _ _ ?_))
  clear hK3 K3
  refine c_ret (x_thenR ?_)
  refine bp_ret Tryz.results299 rfl ?_
  exact ⟨r, rfl, hr, hW, hF⟩
theorem flr_nrm (r : Nat) : fFlr (nrm r) = fFlr r := by
  unfold nrm
  by_cases h : isNaNW r = true
  · rw [if_pos h, flr_nan h, flr_nan (by decide)]
  · rw [if_neg h]
theorem mul_nrm {r b : Nat} (hr : W64 r) (hb : W64 b) : fMul (nrm r) b = fMul r b := by
  unfold nrm
  by_cases h : isNaNW r = true
  · have : infB < rgW r := by unfold isNaNW at h; simpa using h
    rw [if_pos h, mul_nan hr hb (.inl this), mul_nan (by decide) hb (.inl (by decide))]
  · rw [if_neg h]
theorem sub_nrm {r a : Nat} (hr : W64 r) (ha : W64 a) : fSub a (nrm r) = fSub a r := by
  unfold nrm
  by_cases h : isNaNW r = true
  · have : infB < rgW r := by unfold isNaNW at h; simpa using h
    rw [if_pos h, sub_add ha hr, sub_add ha (by decide), add_nan ha (negW_lt hr) (.inr (by rw [rg_negW hr]; exact this)), add_nan ha (negW_lt (by decide)) (.inr (by rw [rg_negW (by decide)]; decide))]
  · rw [if_neg h]
theorem Arith291 {w : World} {p : Value} {op : Int} {a b : Nat} (ha : W64 a) (hb : W64 b) : Ret Tryz.prog 291 [p, icv op, u64c a, u64c b] w (fun v w' => v = u64c (fAri op a b) ∧ Fram none' w w') := by
  have hF : Fram none' w w := Fram.refl _ _
  refine ret_of Tryz.func291 rfl Tryz.ntmps291 rfl ?_
  refine c_seq (fun K1 hK1 => ?_)
  refine c_reg ?_ -- region 0 num.go:57
  refine wl (ro_assign rfl) ?_
  refine wl_nil (x_then (hK1 _ _ ?_))
  clear hK1 K1
  refine forget [(1, _), (2, _), (3, _)] ⟨rfl, rfl, rfl, trivial⟩ (fun e => ?_)
  refine c_seq (fun K2 hK2 => ?_)
  refine c_reg ?_ -- region 1 num.go:58
  refine wl (ro_move rfl) ?_
  refine wl (ro_from rfl) ?_
  refine wl (ro_assign rfl) ?_
  refine wl_nil (x_then (hK2 _ _ ?_))
  clear hK2 K2
  refine forget [(1, _), (3, _), (9, _)] ⟨rfl, rfl, rfl, trivial⟩ (fun e => ?_)
  refine c_seq (fun K3 hK3 => ?_)
  refine c_reg ?_ -- region 2 num.go:59
  refine wl (ro_move rfl) ?_
  refine wl (ro_from rfl) ?_
  refine wl (ro_assign rfl) ?_
  refine wl_nil (x_then (hK3 _ _ ?_))
  clear hK3 K3
  refine forget [(1, _), (9, _), (10, _)] ⟨rfl, rfl, rfl, trivial⟩ (fun e => ?_)
  refine c_seq (fun K4 hK4 => ?_)
  refine c_reg ?_ -- region 3 num.go:60
  refine wl (ro_assign rfl) ?_
  refine wl_nil (x_then (hK4 _ _ ?_))
  clear hK4 K4
  refine c_mid (fun a' w' => Fram none' w w' ∧ ∃ r, nrm r = fAri op a b ∧ W64 r ∧ ∃ e, a' = Fr 57 (upds e [(11, fl r)]) []) ?_ ?_
  · skip
    refine c_seq (fun K5 hK5 => ?_)
    refine c_reg ?_ -- region 4 num.go:61
    refine wl (ro_move rfl) ?_
    refine wl_nil (x_then (hK5 _ _ ?_))
    clear hK5 K5
    refine c_block ?_
    refine forget [(9, _), (10, _), (17, _)] ⟨rfl, rfl, rfl, trivial⟩ (fun e => ?_)
    refine c_seq (fun K6 hK6 => ?_)
    refine c_reg ?_ -- region 6 num.go:62
    refine wl (ro_cmp rfl rfl rfl) ?_
    refine wl (ro_assign rfl) ?_
    refine wl_nil (x_then (hK6 _ _ ?_))
    clear hK6 K6
    refine wc_cond rfl (fun hc18 => ?_) (fun hc18 => ?_)
    · try simp only [decide_eq_true_eq, decide_eq_false_iff_not, Bool.not_eq_true', Bool.not_eq_false', Bool.not_eq_eq_eq_not, Bool.not_true, Bool.not_false, beq_iff_eq, bne_iff_ne, ne_eq, beq_eq_false_iff_ne, bne_eq_false_iff_eq, gt_iff_lt, ge_iff_le, Int.not_lt, Int.not_le] at hc18
      refine c_reg ?_ -- region 7 num.go:63
      refine wl (ro_move rfl) ?_
      refine wl (ro_move rfl) ?_
      refine wl_far rfl rfl rfl (fun r u1 hr hW F1 => ?_)
      refine wl (ro_assign rfl) ?_
      refine wl_nil (x_blk (x_then ?_))
      exact ⟨F1, r, by rw [hr]; unfold fAri; rw [if_pos hc18]; rfl, hW, kp _ ⟨rfl, trivial⟩⟩
    · try simp only [decide_eq_true_eq, decide_eq_false_iff_not, Bool.not_eq_true', Bool.not_eq_false', Bool.not_eq_eq_eq_not, Bool.not_true, Bool.not_false, beq_iff_eq, bne_iff_ne, ne_eq, beq_eq_false_iff_ne, bne_eq_false_iff_eq, gt_iff_lt, ge_iff_le, Int.not_lt, Int.not_le] at hc18
      refine c_seq (fun K7 hK7 => ?_)
      refine c_reg ?_ -- region 8 num.go:64
      refine wl (ro_cmp rfl rfl rfl) ?_
      refine wl (ro_assign rfl) ?_
      refine wl_nil (x_then (hK7 _ _ ?_))
      clear hK7 K7
      refine wc_cond rfl (fun hc23 => ?_) (fun hc23 => ?_)
      · try simp only [decide_eq_true_eq, decide_eq_false_iff_not, Bool.not_eq_true', Bool.not_eq_false', Bool.not_eq_eq_eq_not, Bool.not_true, Bool.not_false, beq_iff_eq, bne_iff_ne, ne_eq, beq_eq_false_iff_ne, bne_eq_false_iff_eq, gt_iff_lt, ge_iff_le, Int.not_lt, Int.not_le] at hc23
        refine c_reg ?_ -- region 9 num.go:65
        refine wl (ro_move rfl) ?_
        refine wl (ro_move rfl) ?_
        refine wl_far rfl rfl rfl (fun r u1 hr hW F1 => ?_)
        refine wl (ro_assign rfl) ?_
        refine wl_nil (x_blk (x_then ?_))
        exact ⟨F1, r, by rw [hr]; unfold fAri; rw [if_neg hc18, if_pos hc23]; rfl, hW, kp _ ⟨rfl, trivial⟩⟩
      · try simp only [decide_eq_true_eq, decide_eq_false_iff_not, Bool.not_eq_true', Bool.not_eq_false', Bool.not_eq_eq_eq_not, Bool.not_true, Bool.not_false, beq_iff_eq, bne_iff_ne, ne_eq, beq_eq_false_iff_ne, bne_eq_false_iff_eq, gt_iff_lt, ge_iff_le, Int.not_lt, Int.not_le] at hc23
        refine c_seq (fun K8 hK8 => ?_)
        refine c_reg ?_ -- region 10 num.go:66
        refine wl (ro_cmp rfl rfl rfl) ?_
        refine wl (ro_assign rfl) ?_
        refine wl_nil (x_then (hK8 _ _ ?_))
        clear hK8 K8
        refine wc_cond rfl (fun hc28 => ?_) (fun hc28 => ?_)
        · try simp only [decide_eq_true_eq, decide_eq_false_iff_not, Bool.not_eq_true', Bool.not_eq_false', Bool.not_eq_eq_eq_not, Bool.not_true, Bool.not_false, beq_iff_eq, bne_iff_ne, ne_eq, beq_eq_false_iff_ne, bne_eq_false_iff_eq, gt_iff_lt, ge_iff_le, Int.not_lt, Int.not_le] at hc28
          refine c_reg ?_ -- region 11 num.go:67
          refine wl (ro_move rfl) ?_
          refine wl (ro_move rfl) ?_
          refine wl_far rfl rfl rfl (fun r u1 hr hW F1 => ?_)
          refine wl (ro_assign rfl) ?_
          refine wl_nil (x_blk (x_then ?_))
          exact ⟨F1, r, by rw [hr]; unfold fAri; rw [if_neg hc18, if_neg hc23, if_pos hc28]; rfl, hW, kp _ ⟨rfl, trivial⟩⟩
        · try simp only [decide_eq_true_eq, decide_eq_false_iff_not, Bool.not_eq_true', Bool.not_eq_false', Bool.not_eq_eq_eq_not, Bool.not_true, Bool.not_false, beq_iff_eq, bne_iff_ne, ne_eq, beq_eq_false_iff_ne, bne_eq_false_iff_eq, gt_iff_lt, ge_iff_le, Int.not_lt, Int.not_le] at hc28
          refine c_seq (fun K9 hK9 => ?_)
          refine c_reg ?_ -- region 12 num.go:68
          refine wl (ro_cmp rfl rfl rfl) ?_
          refine wl (ro_assign rfl) ?_
          refine wl_nil (x_then (hK9 _ _ ?_))
          clear hK9 K9
          refine wc_cond rfl (fun hc33 => ?_) (fun hc33 => ?_)
          · try simp only [decide_eq_true_eq, decide_eq_false_iff_not, Bool.not_eq_true', Bool.not_eq_false', Bool.not_eq_eq_eq_not, Bool.not_true, Bool.not_false, beq_iff_eq, bne_iff_ne, ne_eq, beq_eq_false_iff_ne, bne_eq_false_iff_eq, gt_iff_lt, ge_iff_le, Int.not_lt, Int.not_le] at hc33
            refine c_reg ?_ -- region 13 num.go:69
            refine wl (ro_move rfl) ?_
            refine wl (ro_move rfl) ?_
            refine wl_far rfl rfl rfl (fun r u1 hr hW F1 => ?_)
            refine wl (ro_assign rfl) ?_
            refine wl_nil (x_blk (x_then ?_))
            exact ⟨F1, r, by rw [hr]; unfold fAri; rw [if_neg hc18, if_neg hc23, if_neg hc28, if_pos hc33]; rfl, hW, kp _ ⟨rfl, trivial⟩⟩
          · try simp only [decide_eq_true_eq, decide_eq_false_iff_not, Bool.not_eq_true', Bool.not_eq_false', Bool.not_eq_eq_eq_not, Bool.not_true, Bool.not_false, beq_iff_eq, bne_iff_ne, ne_eq, beq_eq_false_iff_ne, bne_eq_false_iff_eq, gt_iff_lt, ge_iff_le, Int.not_lt, Int.not_le] at hc33
            refine c_seq (fun K10 hK10 => ?_)
            refine c_reg ?_ -- region 14 num.go:70
            refine wl (ro_cmp rfl rfl rfl) ?_
            refine wl (ro_assign rfl) ?_
            refine wl_nil (x_then (hK10 _ _ ?_))
            clear hK10 K10
            refine wc_cond rfl (fun hc38 => ?_) (fun hc38 => ?_)
            · try simp only [decide_eq_true_eq, decide_eq_false_iff_not, Bool.not_eq_true', Bool.not_eq_false', Bool.not_eq_eq_eq_not, Bool.not_true, Bool.not_false, beq_iff_eq, bne_iff_ne, ne_eq, beq_eq_false_iff_ne, bne_eq_false_iff_eq, gt_iff_lt, ge_iff_le, Int.not_lt, Int.not_le] at hc38
              refine c_reg ?_ -- region 15 num.go:71
              refine wl (ro_move rfl) ?_
              refine wl (ro_move rfl) ?_
              refine wl_far rfl rfl rfl (fun q u1 hq hWq F1 => ?_)
              refine wl_call rfl en_299 (Floor299 hWq) ?_
              rintro _ u2 ⟨r, rfl, hr, hW, F2⟩
              refine wl (ro_assign rfl) ?_
              refine wl_nil (x_blk (x_then ?_))
              exact ⟨F1.trans F2, r, by rw [hr, ← flr_nrm, hq]; unfold fAri; rw [if_neg hc18, if_neg hc23, if_neg hc28, if_neg hc33, if_pos hc38]; rfl, hW, kp _ ⟨rfl, trivial⟩⟩
            · try simp only [decide_eq_true_eq, decide_eq_false_iff_not, Bool.not_eq_true', Bool.not_eq_false', Bool.not_eq_eq_eq_not, Bool.not_true, Bool.not_false, beq_iff_eq, bne_iff_ne, ne_eq, beq_eq_false_iff_ne, bne_eq_false_iff_eq, gt_iff_lt, ge_iff_le, Int.not_lt, Int.not_le] at hc38
              refine c_seq (fun K11 hK11 => ?_)
              refine c_reg ?_ -- region 16 num.go:72
              refine wl (ro_cmp rfl rfl rfl) ?_
              refine wl (ro_assign rfl) ?_
              refine wl_nil (x_then (hK11 _ _ ?_))
              clear hK11 K11
              refine wc_cond rfl (fun hc44 => ?_) (fun hc44 => ?_)
              · try simp only [decide_eq_true_eq, decide_eq_false_iff_not, Bool.not_eq_true', Bool.not_eq_false', Bool.not_eq_eq_eq_not, Bool.not_true, Bool.not_false, beq_iff_eq, bne_iff_ne, ne_eq, beq_eq_false_iff_ne, bne_eq_false_iff_eq, gt_iff_lt, ge_iff_le, Int.not_lt, Int.not_le] at hc44
                refine c_seq (fun K12 hK12 => ?_)
                refine c_reg ?_ -- region 17 num.go:73
                refine wl (ro_move rfl) ?_
                refine wl (ro_move rfl) ?_
                refine wl_far rfl rfl rfl (fun q u1 hq hWq F1 => ?_)
                refine wl_call rfl en_299 (Floor299 hWq) ?_
                rintro _ u2 ⟨f, rfl, hf, hWf, F2⟩
                refine wl (ro_assign rfl) ?_
                refine wl_nil (x_then (hK12 _ _ ?_))
                clear hK12 K12
                refine c_reg ?_ -- region 18 num.go:75
                refine wl (ro_move rfl) ?_
                refine wl (ro_move rfl) ?_
                refine wl (ro_move rfl) ?_
                refine wl_far rfl rfl rfl (fun m u3 hm hWm F3 => ?_)
                refine wl_far rfl rfl rfl (fun r u4 hr hW F4 => ?_)
                refine wl (ro_assign rfl) ?_
                refine wl_nil (x_blk (x_then ?_))
                refine ⟨((F1.trans F2).trans F3).trans F4, r, ?_, hW, kp _ ⟨rfl, trivial⟩⟩
                rw [hr]
                unfold fAri
                rw [if_neg hc18, if_neg hc23, if_neg hc28, if_neg hc33, if_neg hc38, if_pos hc44]
                show fSub a m = _
                rw [← sub_nrm hWm ha, hm]
                show fSub a (fMul f b) = _
                rw [← mul_nrm hWf hb, hf, ← flr_nrm, hq]
                rfl
              · try simp only [decide_eq_true_eq, decide_eq_false_iff_not, Bool.not_eq_true', Bool.not_eq_false', Bool.not_eq_eq_eq_not, Bool.not_true, Bool.not_false, beq_iff_eq, bne_iff_ne, ne_eq, beq_eq_false_iff_ne, bne_eq_false_iff_eq, gt_iff_lt, ge_iff_le, Int.not_lt, Int.not_le] at hc44
                refine c_seq (fun K13 hK13 => ?_)
                refine c_reg ?_ -- region 5 num.go:77
                refine wl (ro_assign rfl) ?_
                refine wl_nil (x_then (hK13 _ _ ?_))
                clear hK13 K13
                refine c_ret (x_blkR (x_thenR ?_))
                refine bp_ret Tryz.results291 rfl ?_
                exact ⟨by unfold fAri; rw [if_neg hc18, if_neg hc23, if_neg hc28, if_neg hc33, if_neg hc38, if_neg hc44]; rfl, hF⟩
  clear hF
  rintro a' u9 ⟨hF, r, hr, hW, e, rfl⟩
  refine c_seq (fun K14 hK14 => ?_)
  refine c_reg ?_ -- region 19 num.go:79
  refine wl (ro_move rfl) ?_
  refine wl_call rfl en_300 (bits300 hW) ?_
  rintro _ u0 ⟨rfl, hw0⟩
  rw [hw0]
  clear hw0 u0
  refine wl (ro_assign rfl) ?_
  refine wl_nil (x_then (hK14 _ _ ?_))
  clear hK14 K14
  refine c_ret ?_
  refine bp_ret Tryz.results291 rfl ?_
  exact ⟨by rw [hr], hF⟩
theorem Neg293 {w : World} {p : Value} {a : Nat} (ha : W64 a) : Ret Tryz.prog 293 [p, u64c a] w (fun v w' => v = u64c (fNeg a) ∧ w' = w) := by
  refine ret_of Tryz.func293 rfl Tryz.ntmps293 rfl ?_
  refine c_seq (fun K1 hK1 => ?_)
  refine c_reg ?_ -- region 0 num.go:83
  refine wl (ro_assign rfl) ?_
  refine wl_nil (x_then (hK1 _ _ ?_))
  clear hK1 K1
  refine forget [(1, _)] ⟨rfl, trivial⟩ (fun e => ?_)
  refine c_seq (fun K2 hK2 => ?_)
  refine c_reg ?_ -- region 1 num.go:84
  refine wl (ro_move rfl) ?_
  refine wl (ro_from rfl) ?_
  refine wl (ro_assign rfl) ?_
  refine wl_nil (x_then (hK2 _ _ ?_))
  clear hK2 K2
  refine forget [(5, _)] ⟨rfl, trivial⟩ (fun e => ?_)
  refine c_seq (fun K3 hK3 => ?_)
  refine c_reg ?_ -- region 2 num.go:85
  refine wl (ro_move rfl) ?_
  refine wl (ro_fneg rfl ha) ?_
  refine wl_call rfl en_300 (bits300 (negW_lt ha)) ?_
  rintro _ u0 ⟨rfl, hw0⟩
  rw [hw0]
  clear hw0 u0
  refine wl (ro_assign rfl) ?_
  refine wl_nil (x_then (hK3 _ _ ?_))
  clear hK3 K3
  refine c_ret ?_
  refine bp_ret Tryz.results293 rfl ?_
  refine ⟨?_, rfl⟩
  congr 1
  unfold nrm fNeg isNaNW
  rw [rg_negW ha]
  rfl
theorem Cmp142 {w : World} {p : Value} {op : Int} {a b : Nat} (ha : W64 a) (hb : W64 b) : Ret Tryz.prog 142 [p, icv op, u64c a, u64c b] w (fun v w' => v = .bool (fCmp op a b) ∧ w' = w) := by
  refine ret_of Tryz.func142 rfl Tryz.ntmps142 rfl ?_
  refine c_seq (fun K1 hK1 => ?_)
  refine c_reg ?_ -- region 0 num.go:89
  refine wl (ro_assign rfl) ?_
  refine wl_nil (x_then (hK1 _ _ ?_))
  clear hK1 K1
  refine forget [(1, _), (2, _), (3, _)] ⟨rfl, rfl, rfl, trivial⟩ (fun e => ?_)
  refine c_seq (fun K2 hK2 => ?_)
  refine c_reg ?_ -- region 1 num.go:90
  refine wl (ro_move rfl) ?_
  refine wl (ro_from rfl) ?_
  refine wl (ro_assign rfl) ?_
  refine wl_nil (x_then (hK2 _ _ ?_))
  clear hK2 K2
  refine forget [(1, _), (3, _), (9, _)] ⟨rfl, rfl, rfl, trivial⟩ (fun e => ?_)
  refine c_seq (fun K3 hK3 => ?_)
  refine c_reg ?_ -- region 2 num.go:91
  refine wl (ro_move rfl) ?_
  refine wl (ro_from rfl) ?_
  refine wl (ro_assign rfl) ?_
  refine wl_nil (x_then (hK3 _ _ ?_))
  clear hK3 K3
  refine c_seq (fun K4 hK4 => ?_)
  refine c_seq (fun K5 hK5 => ?_)
  refine c_reg ?_ -- region 3 num.go:92
  refine wl (ro_move rfl) ?_
  refine wl_nil (x_then (hK5 _ _ ?_))
  clear hK5 K5
  refine c_block ?_
  refine forget [(9, _), (10, _), (15, _)] ⟨rfl, rfl, rfl, trivial⟩ (fun e => ?_)
  refine c_seq (fun K6 hK6 => ?_)
  refine c_reg ?_ -- region 4 num.go:93
  refine wl (ro_cmp rfl rfl rfl) ?_
  refine wl (ro_assign rfl) ?_
  refine wl_nil (x_then (hK6 _ _ ?_))
  clear hK6 K6
  refine wc_cond rfl (fun hc16 => ?_) (fun hc16 => ?_)
  · try simp only [decide_eq_true_eq, decide_eq_false_iff_not, Bool.not_eq_true', Bool.not_eq_false', Bool.not_eq_eq_eq_not, Bool.not_true, Bool.not_false, beq_iff_eq, bne_iff_ne, ne_eq, beq_eq_false_iff_ne, bne_eq_false_iff_eq, gt_iff_lt, ge_iff_le, Int.not_lt, Int.not_le] at hc16
    refine c_seq (fun K7 hK7 => ?_)
    refine c_reg ?_ -- region 5 num.go:94
    refine wl (ro_move rfl) ?_
    refine wl (ro_move rfl) ?_
    refine wl (ro_fcmp rfl rfl ha hb rfl) ?_
    refine wl (ro_assign rfl) ?_
    refine wl_nil (x_then (hK7 _ _ ?_))
    clear hK7 K7
    refine c_ret (x_blkR (x_thenR ?_))
    refine bp_ret Tryz.results142 rfl ?_
    exact ⟨by rw [hc16], rfl⟩
  · try simp only [decide_eq_true_eq, decide_eq_false_iff_not, Bool.not_eq_true', Bool.not_eq_false', Bool.not_eq_eq_eq_not, Bool.not_true, Bool.not_false, beq_iff_eq, bne_iff_ne, ne_eq, beq_eq_false_iff_ne, bne_eq_false_iff_eq, gt_iff_lt, ge_iff_le, Int.not_lt, Int.not_le] at hc16
    refine c_seq (fun K8 hK8 => ?_)
    refine c_reg ?_ -- region 6 num.go:95
    refine wl (ro_cmp rfl rfl rfl) ?_
    refine wl (ro_assign rfl) ?_
    refine wl_nil (x_then (hK8 _ _ ?_))
    clear hK8 K8
    refine wc_cond rfl (fun hc21 => ?_) (fun hc21 => ?_)
    · try simp only [decide_eq_true_eq, decide_eq_false_iff_not, Bool.not_eq_true', Bool.not_eq_false', Bool.not_eq_eq_eq_not, Bool.not_true, Bool.not_false, beq_iff_eq, bne_iff_ne, ne_eq, beq_eq_false_iff_ne, bne_eq_false_iff_eq, gt_iff_lt, ge_iff_le, Int.not_lt, Int.not_le] at hc21
      refine c_seq (fun K9 hK9 => ?_)
      refine c_reg ?_ -- region 7 num.go:96
      refine wl (ro_move rfl) ?_
      refine wl (ro_move rfl) ?_
      refine wl (ro_fcmp rfl rfl ha hb rfl) ?_
      refine wl (ro_assign rfl) ?_
      refine wl_nil (x_then (hK9 _ _ ?_))
      clear hK9 K9
      refine c_ret (x_blkR (x_thenR ?_))
      refine bp_ret Tryz.results142 rfl ?_
      exact ⟨by rw [hc21], rfl⟩
    · try simp only [decide_eq_true_eq, decide_eq_false_iff_not, Bool.not_eq_true', Bool.not_eq_false', Bool.not_eq_eq_eq_not, Bool.not_true, Bool.not_false, beq_iff_eq, bne_iff_ne, ne_eq, beq_eq_false_iff_ne, bne_eq_false_iff_eq, gt_iff_lt, ge_iff_le, Int.not_lt, Int.not_le] at hc21
      refine c_seq (fun K10 hK10 => ?_)
      refine c_reg ?_ -- region 8 num.go:97
      refine wl (ro_cmp rfl rfl rfl) ?_
      refine wl (ro_assign rfl) ?_
      refine wl_nil (x_then (hK10 _ _ ?_))
      clear hK10 K10
      refine wc_cond rfl (fun hc26 => ?_) (fun hc26 => ?_)
      · try simp only [decide_eq_true_eq, decide_eq_false_iff_not, Bool.not_eq_true', Bool.not_eq_false', Bool.not_eq_eq_eq_not, Bool.not_true, Bool.not_false, beq_iff_eq, bne_iff_ne, ne_eq, beq_eq_false_iff_ne, bne_eq_false_iff_eq, gt_iff_lt, ge_iff_le, Int.not_lt, Int.not_le] at hc26
        refine c_seq (fun K11 hK11 => ?_)
        refine c_reg ?_ -- region 9 num.go:98
        refine wl (ro_move rfl) ?_
        refine wl (ro_move rfl) ?_
        refine wl (ro_fcmp rfl rfl ha hb rfl) ?_
        refine wl (ro_assign rfl) ?_
        refine wl_nil (x_then (hK11 _ _ ?_))
        clear hK11 K11
        refine c_ret (x_blkR (x_thenR ?_))
        refine bp_ret Tryz.results142 rfl ?_
        exact ⟨by rw [hc26], rfl⟩
      · try simp only [decide_eq_true_eq, decide_eq_false_iff_not, Bool.not_eq_true', Bool.not_eq_false', Bool.not_eq_eq_eq_not, Bool.not_true, Bool.not_false, beq_iff_eq, bne_iff_ne, ne_eq, beq_eq_false_iff_ne, bne_eq_false_iff_eq, gt_iff_lt, ge_iff_le, Int.not_lt, Int.not_le] at hc26
        refine c_seq (fun K12 hK12 => ?_)
        refine c_reg ?_ -- region 10 num.go:99
        refine wl (ro_cmp rfl rfl rfl) ?_
        refine wl (ro_assign rfl) ?_
        refine wl_nil (x_then (hK12 _ _ ?_))
        clear hK12 K12
        refine wc_cond rfl (fun hc31 => ?_) (fun hc31 => ?_)
        · try simp only [decide_eq_true_eq, decide_eq_false_iff_not, Bool.not_eq_true', Bool.not_eq_false', Bool.not_eq_eq_eq_not, Bool.not_true, Bool.not_false, beq_iff_eq, bne_iff_ne, ne_eq, beq_eq_false_iff_ne, bne_eq_false_iff_eq, gt_iff_lt, ge_iff_le, Int.not_lt, Int.not_le] at hc31
          refine c_seq (fun K13 hK13 => ?_)
          refine c_reg ?_ -- region 11 num.go:100
          refine wl (ro_move rfl) ?_
          refine wl (ro_move rfl) ?_
          refine wl (ro_fcmp rfl rfl ha hb rfl) ?_
          refine wl (ro_assign rfl) ?_
          refine wl_nil (x_then (hK13 _ _ ?_))
          clear hK13 K13
          refine c_ret (x_blkR (x_thenR ?_))
          refine bp_ret Tryz.results142 rfl ?_
          exact ⟨by rw [hc31], rfl⟩
        · try simp only [decide_eq_true_eq, decide_eq_false_iff_not, Bool.not_eq_true', Bool.not_eq_false', Bool.not_eq_eq_eq_not, Bool.not_true, Bool.not_false, beq_iff_eq, bne_iff_ne, ne_eq, beq_eq_false_iff_ne, bne_eq_false_iff_eq, gt_iff_lt, ge_iff_le, Int.not_lt, Int.not_le] at hc31
          refine c_seq (fun K14 hK14 => ?_)
          refine c_reg ?_ -- region 12 num.go:101
          refine wl (ro_cmp rfl rfl rfl) ?_
          refine wl (ro_assign rfl) ?_
          refine wl_nil (x_then (hK14 _ _ ?_))
          clear hK14 K14
          refine wc_cond rfl (fun hc36 => ?_) (fun hc36 => ?_)
          · try simp only [decide_eq_true_eq, decide_eq_false_iff_not, Bool.not_eq_true', Bool.not_eq_false', Bool.not_eq_eq_eq_not, Bool.not_true, Bool.not_false, beq_iff_eq, bne_iff_ne, ne_eq, beq_eq_false_iff_ne, bne_eq_false_iff_eq, gt_iff_lt, ge_iff_le, Int.not_lt, Int.not_le] at hc36
            refine c_seq (fun K15 hK15 => ?_)
            refine c_reg ?_ -- region 13 num.go:102
            refine wl (ro_move rfl) ?_
            refine wl (ro_move rfl) ?_
            refine wl (ro_fcmp rfl rfl ha hb rfl) ?_
            refine wl (ro_assign rfl) ?_
            refine wl_nil (x_then (hK15 _ _ ?_))
            clear hK15 K15
            refine c_ret (x_blkR (x_thenR ?_))
            refine bp_ret Tryz.results142 rfl ?_
            exact ⟨by rw [hc36], rfl⟩
          · try simp only [decide_eq_true_eq, decide_eq_false_iff_not, Bool.not_eq_true', Bool.not_eq_false', Bool.not_eq_eq_eq_not, Bool.not_true, Bool.not_false, beq_iff_eq, bne_iff_ne, ne_eq, beq_eq_false_iff_ne, bne_eq_false_iff_eq, gt_iff_lt, ge_iff_le, Int.not_lt, Int.not_le] at hc36
            refine c_seq (fun K16 hK16 => ?_)
            refine c_reg ?_ -- region 14 num.go:103
            refine wl (ro_cmp rfl rfl rfl) ?_
            refine wl (ro_assign rfl) ?_
            refine wl_nil (x_then (hK16 _ _ ?_))
            clear hK16 K16
            refine wc_cond rfl (fun hc41 => ?_) (fun hc41 => ?_)
            · try simp only [decide_eq_true_eq, decide_eq_false_iff_not, Bool.not_eq_true', Bool.not_eq_false', Bool.not_eq_eq_eq_not, Bool.not_true, Bool.not_false, beq_iff_eq, bne_iff_ne, ne_eq, beq_eq_false_iff_ne, bne_eq_false_iff_eq, gt_iff_lt, ge_iff_le, Int.not_lt, Int.not_le] at hc41
              refine c_seq (fun K17 hK17 => ?_)
              refine c_reg ?_ -- region 15 num.go:104
              refine wl (ro_move rfl) ?_
              refine wl (ro_move rfl) ?_
              refine wl (ro_fcmp rfl rfl ha hb rfl) ?_
              refine wl (ro_assign rfl) ?_
              refine wl_nil (x_then (hK17 _ _ ?_))
              clear hK17 K17
              refine c_ret (x_blkR (x_thenR ?_))
              refine bp_ret Tryz.results142 rfl ?_
              exact ⟨by rw [hc41], rfl⟩
            · try simp only [decide_eq_true_eq, decide_eq_false_iff_not, Bool.not_eq_true', Bool.not_eq_false', Bool.not_eq_eq_eq_not, Bool.not_true, Bool.not_false, beq_iff_eq, bne_iff_ne, ne_eq, beq_eq_false_iff_ne, bne_eq_false_iff_eq, gt_iff_lt, ge_iff_le, Int.not_lt, Int.not_le] at hc41
              refine c_skip (x_blk (x_then (hK4 _ _ ?_)))
              clear hK4 K4
              refine forget [] trivial (fun e => ?_)
              refine c_seq (fun K18 hK18 => ?_)
              refine c_reg ?_ -- region 16 num.go:106
              refine wl (ro_assign rfl) ?_
              refine wl_nil (x_then (hK18 _ _ ?_))
              clear hK18 K18
              refine c_ret ?_
              refine bp_ret Tryz.results142 rfl ?_
              refine ⟨congrArg Value.bool ?_, rfl⟩
              unfold fCmp
              rw [if_neg hc16, if_neg hc21, if_neg hc26, if_neg hc31, if_neg hc36, if_neg hc41]
              split
              · symm; simp; exact hc21
              · rfl
theorem FromInt249 {w : World} {p : Value} {i : Nat} : Ret Tryz.prog 249 [p, i64c i] w (fun v w' => v = u64c (fInt i) ∧ w' = w) := by
  refine ret_of Tryz.func249 rfl Tryz.ntmps249 rfl ?_
  refine c_seq (fun K1 hK1 => ?_)
  refine c_reg ?_ -- region 0 num.go:110
  refine wl (ro_assign rfl) ?_
  refine wl_nil (x_then (hK1 _ _ ?_))
  clear hK1 K1
  refine forget [(1, _)] ⟨rfl, trivial⟩ (fun e => ?_)
  refine c_seq (fun K2 hK2 => ?_)
  refine c_reg ?_ -- region 1 num.go:111
  refine wl (ro_move rfl) ?_
  refine wl ((show RO _ _ _ _ _ (fl (fInt i)) from ro_i2f (m := (i : Int)) rfl sc_3 (by kernel_rfl))) ?_
  refine wl (ro_assign rfl) ?_
  refine wl_nil (x_then (hK2 _ _ ?_))
  clear hK2 K2
  refine forget [(5, _)] ⟨rfl, trivial⟩ (fun e => ?_)
  refine c_seq (fun K3 hK3 => ?_)
  refine c_reg ?_ -- region 2 num.go:112
  refine wl (ro_move rfl) ?_
  refine wl (ro_bitsF rfl) ?_
  refine wl (ro_assign rfl) ?_
  refine wl_nil (x_then (hK3 _ _ ?_))
  clear hK3 K3
  refine c_ret ?_
  refine bp_ret Tryz.results249 rfl ?_
  exact ⟨rfl, rfl⟩
end Go.Proofs.Qxb6500568aGreatDoor
