import Derived.Test.Qxb6500570aGreatDb
/- Values: blocks of cells; plain texts. -/
namespace Go.Proofs.Qxb6500570aGreat
set_option linter.unusedVariables false
set_option linter.unusedSimpArgs false

abbrev rfA (r : Rf) : Value := .agg (refc r).toArray
set_option maxHeartbeats 4000000 in
theorem Block136 {w : World} {a b : Rf} : Ret Tryz.prog 136 [rfA a, rfA b] w (fun v w' => v = .tuple #[u32c ((blkR a b).getD 0), .bool (blkR a b).isSome] ∧ Fram none' w w') := by
  have hF : Fram none' w w := Fram.refl _ _
  refine ret_of Tryz.func136 rfl Tryz.ntmps136 rfl ?_
  refine c_seq (fun K1 hK1 => ?_)
  refine c_reg ?_ -- region 0 const.go:215
  refine wl_box rfl rfl (fun b2 w1 hbb2 h2 F1 => ?_)
  have hbsb2 := Nat.le_trans hF.size hbb2
  replace hF := hF.thenDrew.thenN F1
  refine wl_box rfl rfl (fun b3 w2 hbb3 h3 F2 => ?_)
  have hbsb3 := Nat.le_trans hF.size hbb3
  have hneb2b3 : b2 < b3 := Nat.lt_of_lt_of_le h2.lt hbb3
  replace hF := hF.thenDrew.thenN F2
  replace h2 := F2.blkN h2
  refine wl (ro_assign rfl) ?_
  refine wl (ro_assign rfl) ?_
  refine wl_nil (x_then (hK1 _ _ ?_))
  clear hK1 K1
  refine c_seq (fun K2 hK2 => ?_)
  refine c_seq (fun K3 hK3 => ?_)
  refine c_reg ?_ -- region 1 const.go:216
  refine wl (ro_loadAggB rfl ag_141 (by assumption) rfl rfl) ?_
  refine wl_call rfl en_98 (InGrid98) ?_
  rintro _ w3 ⟨rfl, F3⟩
  replace hF := hF.thenDrew.thenN F3
  replace h2 := F3.blkN h2
  replace h3 := F3.blkN h3
  refine wl (ro_not rfl) ?_
  refine wl_nil (x_then (hK3 _ _ ?_))
  clear hK3 K3
  refine wc_cond rfl (fun hc15 => ?_) (fun hc15 => ?_)
  · try simp only [decide_eq_true_eq, decide_eq_false_iff_not, Bool.not_eq_true', Bool.not_eq_false', Bool.not_eq_eq_eq_not, Bool.not_true, Bool.not_false, beq_iff_eq, bne_iff_ne, ne_eq, beq_eq_false_iff_ne, bne_eq_false_iff_eq, gt_iff_lt, ge_iff_le, Int.not_lt, Int.not_le] at hc15
    refine c_seq (fun K4 hK4 => ?_)
    refine c_reg ?_ -- region 2 const.go:217
    refine wl (ro_assign rfl) ?_
    refine wl (ro_assign rfl) ?_
    refine wl_nil (x_then (hK4 _ _ ?_))
    clear hK4 K4
    refine c_ret (x_thenR ?_)
    refine bp_ret Tryz.results136 rfl ?_
    refine ⟨?_, hF⟩
    unfold blkR
    rw [if_neg (by rw [hc15]; decide)]
    rfl
  · try simp only [decide_eq_true_eq, decide_eq_false_iff_not, Bool.not_eq_true', Bool.not_eq_false', Bool.not_eq_eq_eq_not, Bool.not_true, Bool.not_false, beq_iff_eq, bne_iff_ne, ne_eq, beq_eq_false_iff_ne, bne_eq_false_iff_eq, gt_iff_lt, ge_iff_le, Int.not_lt, Int.not_le] at hc15
    refine c_skip (x_then (hK2 _ _ ?_))
    clear hK2 K2
    refine c_seq (fun K5 hK5 => ?_)
    refine c_seq (fun K6 hK6 => ?_)
    refine c_reg ?_ -- region 3 const.go:219
    refine wl (ro_loadAggB rfl ag_141 (by assumption) rfl rfl) ?_
    refine wl_call rfl en_98 (InGrid98) ?_
    rintro _ w4 ⟨rfl, F4⟩
    replace hF := hF.thenDrew.thenN F4
    replace h2 := F4.blkN h2
    replace h3 := F4.blkN h3
    refine wl (ro_not rfl) ?_
    refine wl_nil (x_then (hK6 _ _ ?_))
    clear hK6 K6
    refine wc_cond rfl (fun hc18 => ?_) (fun hc18 => ?_)
    · try simp only [decide_eq_true_eq, decide_eq_false_iff_not, Bool.not_eq_true', Bool.not_eq_false', Bool.not_eq_eq_eq_not, Bool.not_true, Bool.not_false, beq_iff_eq, bne_iff_ne, ne_eq, beq_eq_false_iff_ne, bne_eq_false_iff_eq, gt_iff_lt, ge_iff_le, Int.not_lt, Int.not_le] at hc18
      refine c_seq (fun K7 hK7 => ?_)
      refine c_reg ?_ -- region 4 const.go:220
      refine wl (ro_assign rfl) ?_
      refine wl (ro_assign rfl) ?_
      refine wl_nil (x_then (hK7 _ _ ?_))
      clear hK7 K7
      refine c_ret (x_thenR ?_)
      refine bp_ret Tryz.results136 rfl ?_
      refine ⟨?_, hF⟩
      unfold blkR
      rw [if_pos (by assumption), if_neg (by rw [hc18]; decide)]
      rfl
    · try simp only [decide_eq_true_eq, decide_eq_false_iff_not, Bool.not_eq_true', Bool.not_eq_false', Bool.not_eq_eq_eq_not, Bool.not_true, Bool.not_false, beq_iff_eq, bne_iff_ne, ne_eq, beq_eq_false_iff_ne, bne_eq_false_iff_eq, gt_iff_lt, ge_iff_le, Int.not_lt, Int.not_le] at hc18
      refine c_skip (x_then (hK5 _ _ ?_))
      clear hK5 K5
      refine forget [(2, _), (3, _)] ⟨rfl, rfl, trivial⟩ (fun e => ?_)
      refine c_seq (fun K8 hK8 => ?_)
      have hga := grid_iff.1 hc15
      have hgb := grid_iff.1 hc18
      have hbe : blkR a b = some (orB (min a.c b.c).toNat ((max a.c b.c).toNat + 1 - (min a.c b.c).toNat) (min a.r b.r).toNat ((max a.r b.r).toNat + 1 - (min a.r b.r).toNat)) := by unfold blkR; rw [if_pos hc15, if_pos hc18]
      generalize hc0 : (min a.c b.c).toNat = c0 at hbe
      generalize hc1 : (max a.c b.c).toNat = c1 at hbe
      generalize hr0 : (min a.r b.r).toNat = r0 at hbe
      generalize hr1 : (max a.r b.r).toNat = r1 at hbe
      refine c_pi [(0, false), (1, false), (2, false), (3, false), (4, false), (5, false), (6, false), (7, false), (8, false), (9, false), (10, false), (11, false)] (SameH _) mixed (by kernel_rfl) rfl (by kernel_rfl) (po_then (po_bp)) (sameH_now _ _) ?_ -- region 5 const.go:222
      refine pi_ro rfl (fun w hS => ro_fieldAddr (k := 0) rfl fo_141_0) ?_
      refine pi_ro rfl (fun w hS => ro_loadB rfl sc_3 (Blk.of_heap (by assumption) hS) rfl) ?_
      refine pi_ro rfl (fun w hS => ro_fieldAddr (k := 0) rfl fo_141_0) ?_
      refine pi_ro rfl (fun w hS => ro_loadB rfl sc_3 (Blk.of_heap (by assumption) hS) rfl) ?_
      refine pi_ro rfl (fun w hS => ro_fieldAddr (k := 1) rfl fo_141_1) ?_
      refine pi_ro rfl (fun w hS => ro_loadB rfl sc_3 (Blk.of_heap (by assumption) hS) rfl) ?_
      refine pi_ro rfl (fun w hS => ro_fieldAddr (k := 1) rfl fo_141_1) ?_
      refine pi_ro rfl (fun w hS => ro_loadB rfl sc_3 (Blk.of_heap (by assumption) hS) rfl) ?_
      refine pi_ro rfl (fun w hS => ro_assign rfl) ?_
      refine pi_ro rfl (fun w hS => ro_assign rfl) ?_
      refine pi_ro rfl (fun w hS => ro_assign rfl) ?_
      refine pi_ro rfl (fun w hS => ro_assign rfl) ?_
      refine pi_nil (x_then (hK8 _ _ ?_))
      clear hK8 K8
      refine c_mid (fun a' w' => Fram none' w w' ∧ ∃ e, a' = Fr 58 (upds e [(6, i64c c0), (7, i64c c1), (8, icv a.r), (9, icv b.r)]) []) ?_ ?_
      · skip
        refine c_seq (fun K9 hK9 => ?_)
        refine c_reg ?_ -- region 6 const.go:223
        refine wl (ro_move rfl) ?_
        refine wl (ro_move rfl) ?_
        refine wl (ro_cmp rfl rfl rfl) ?_
        refine wl_nil (x_then (hK9 _ _ ?_))
        clear hK9 K9
        refine wc_cond rfl (fun hc29 => ?_) (fun hc29 => ?_)
        · try simp only [decide_eq_true_eq, decide_eq_false_iff_not, Bool.not_eq_true', Bool.not_eq_false', Bool.not_eq_eq_eq_not, Bool.not_true, Bool.not_false, beq_iff_eq, bne_iff_ne, ne_eq, beq_eq_false_iff_ne, bne_eq_false_iff_eq, gt_iff_lt, ge_iff_le, Int.not_lt, Int.not_le] at hc29
          refine c_reg ?_ -- region 7 const.go:224
          refine wl (ro_move rfl) ?_
          refine wl (ro_move rfl) ?_
          refine wl (ro_assign rfl) ?_
          refine wl (ro_assign rfl) ?_
          refine wl_nil (x_then ?_)
          first
            | exact ⟨hF.thenDrew, kp _ ⟨congrArg some (congrArg icv (show b.c = (c0 : Int) by omega)), congrArg some (congrArg icv (show a.c = (c1 : Int) by omega)), rfl, rfl, trivial⟩⟩
            | exact ⟨hF.thenDrew, kp _ ⟨congrArg some (congrArg icv (show a.c = (c0 : Int) by omega)), congrArg some (congrArg icv (show b.c = (c1 : Int) by omega)), rfl, rfl, trivial⟩⟩
        · try simp only [decide_eq_true_eq, decide_eq_false_iff_not, Bool.not_eq_true', Bool.not_eq_false', Bool.not_eq_eq_eq_not, Bool.not_true, Bool.not_false, beq_iff_eq, bne_iff_ne, ne_eq, beq_eq_false_iff_ne, bne_eq_false_iff_eq, gt_iff_lt, ge_iff_le, Int.not_lt, Int.not_le] at hc29
          refine c_skip (x_then ?_)
          first
            | exact ⟨hF.thenDrew, kp _ ⟨congrArg some (congrArg icv (show b.c = (c0 : Int) by omega)), congrArg some (congrArg icv (show a.c = (c1 : Int) by omega)), rfl, rfl, trivial⟩⟩
            | exact ⟨hF.thenDrew, kp _ ⟨congrArg some (congrArg icv (show a.c = (c0 : Int) by omega)), congrArg some (congrArg icv (show b.c = (c1 : Int) by omega)), rfl, rfl, trivial⟩⟩
      clear hF h2 h3
      rintro a' u6 ⟨hF, e, rfl⟩
      refine c_mid (fun a' w' => Fram none' w w' ∧ ∃ e, a' = Fr 58 (upds e [(6, i64c c0), (7, i64c c1), (8, i64c r0), (9, i64c r1)]) []) ?_ ?_
      · skip
        refine c_seq (fun K10 hK10 => ?_)
        refine c_reg ?_ -- region 8 const.go:226
        refine wl (ro_move rfl) ?_
        refine wl (ro_move rfl) ?_
        refine wl (ro_cmp rfl rfl rfl) ?_
        refine wl_nil (x_then (hK10 _ _ ?_))
        clear hK10 K10
        refine wc_cond rfl (fun hc34 => ?_) (fun hc34 => ?_)
        · try simp only [decide_eq_true_eq, decide_eq_false_iff_not, Bool.not_eq_true', Bool.not_eq_false', Bool.not_eq_eq_eq_not, Bool.not_true, Bool.not_false, beq_iff_eq, bne_iff_ne, ne_eq, beq_eq_false_iff_ne, bne_eq_false_iff_eq, gt_iff_lt, ge_iff_le, Int.not_lt, Int.not_le] at hc34
          refine c_reg ?_ -- region 9 const.go:227
          refine wl (ro_move rfl) ?_
          refine wl (ro_move rfl) ?_
          refine wl (ro_assign rfl) ?_
          refine wl (ro_assign rfl) ?_
          refine wl_nil (x_then ?_)
          first
            | exact ⟨hF, kp _ ⟨rfl, rfl, congrArg some (congrArg icv (show b.r = (r0 : Int) by omega)), congrArg some (congrArg icv (show a.r = (r1 : Int) by omega)), trivial⟩⟩
            | exact ⟨hF, kp _ ⟨rfl, rfl, congrArg some (congrArg icv (show a.r = (r0 : Int) by omega)), congrArg some (congrArg icv (show b.r = (r1 : Int) by omega)), trivial⟩⟩
        · try simp only [decide_eq_true_eq, decide_eq_false_iff_not, Bool.not_eq_true', Bool.not_eq_false', Bool.not_eq_eq_eq_not, Bool.not_true, Bool.not_false, beq_iff_eq, bne_iff_ne, ne_eq, beq_eq_false_iff_ne, bne_eq_false_iff_eq, gt_iff_lt, ge_iff_le, Int.not_lt, Int.not_le] at hc34
          refine c_skip (x_then ?_)
          first
            | exact ⟨hF, kp _ ⟨rfl, rfl, congrArg some (congrArg icv (show b.r = (r0 : Int) by omega)), congrArg some (congrArg icv (show a.r = (r1 : Int) by omega)), trivial⟩⟩
            | exact ⟨hF, kp _ ⟨rfl, rfl, congrArg some (congrArg icv (show a.r = (r0 : Int) by omega)), congrArg some (congrArg icv (show b.r = (r1 : Int) by omega)), trivial⟩⟩
      clear hF
      rintro a' u8 ⟨hF, e, rfl⟩
      refine c_seq (fun K11 hK11 => ?_)
      have hb1 : c0 ≤ c1 ∧ c1 < 4 ∧ r0 ≤ r1 ∧ r1 < 6 := by omega
      generalize hkc : c1 + 1 - c0 = kc at hbe
      generalize hkr : r1 + 1 - r0 = kr at hbe
      refine c_reg ?_ -- region 10 const.go:229
      refine wl (ro_assign rfl) ?_
      refine wl_nil (x_then (hK11 _ _ ?_))
      clear hK11 K11
      refine c_seq (fun K12 hK12 => ?_)
      refine c_seq (fun K13 hK13 => ?_)
      refine c_reg ?_ -- region 11 const.go:230
      refine wl (ro_move rfl) ?_
      refine wl (ro_assign rfl) ?_
      refine wl_nil (x_then (hK13 _ _ ?_))
      clear hK13 K13
      refine c_block ?_
      -- loop@r12: live slots [6, 7, 9, 10, 11]
      refine c_loopG (fun m a' w' => ∃ k, m = kr - k ∧ k ≤ kr ∧ Fram none' w w' ∧ ∃ e, a' = Fr 58 (upds e [(6, i64c c0), (7, i64c c1), (9, i64c r1), (10, u32c (orB c0 kc r0 k)), (11, i64c (r0 + k))]) []) kr ⟨0, rfl, by omega, hF, kp _ ⟨rfl, rfl, rfl, rfl, rfl, trivial⟩⟩ ?_
      clear hF
      rintro m a' u9 ⟨k, rfl, hk, hF, e, rfl⟩
      have hB1 := orB_lt (c0 := c0) (kc := kc) (r0 := r0) (k := k) (by omega) (by omega)
      refine c_seq (fun K14 hK14 => ?_)
      refine c_seq (fun K15 hK15 => ?_)
      refine c_reg ?_ -- region 12 const.go:230
      refine wl (ro_move rfl) ?_
      refine wl (ro_move rfl) ?_
      refine wl (ro_cmp (r := decide (r0 + k ≤ r1)) rfl rfl (congrArg some (decide_eq_decide.2 (by omega)))) ?_
      refine wl_nil (x_then (hK15 _ _ ?_))
      clear hK15 K15
      refine wc_cond rfl (fun hc40 => ?_) (fun hc40 => ?_)
      · try simp only [decide_eq_true_eq, decide_eq_false_iff_not, Bool.not_eq_true', Bool.not_eq_false', Bool.not_eq_eq_eq_not, Bool.not_true, Bool.not_false, beq_iff_eq, bne_iff_ne, ne_eq, beq_eq_false_iff_ne, bne_eq_false_iff_eq, gt_iff_lt, ge_iff_le, Int.not_lt, Int.not_le] at hc40
        refine c_skip (x_then (hK14 _ _ ?_))
        clear hK14 K14
        refine forget [(6, _), (7, _), (9, _), (10, _), (11, _)] ⟨rfl, rfl, rfl, rfl, rfl, trivial⟩ (fun e => ?_)
        refine c_seq (fun K16 hK16 => ?_)
        refine c_block ?_
        refine c_seq (fun K17 hK17 => ?_)
        refine c_reg ?_ -- region 14 const.go:231
        refine wl (ro_move rfl) ?_
        refine wl (ro_assign rfl) ?_
        refine wl_nil (x_then (hK17 _ _ ?_))
        clear hK17 K17
        refine c_block ?_
        -- loop@r15: live slots [6, 7, 9, 10, 11, 12]
        refine c_loopG (fun m a' w' => ∃ j, m = kc - j ∧ j ≤ kc ∧ Fram none' w w' ∧ ∃ e, a' = Fr 58 (upds e [(6, i64c c0), (7, i64c c1), (9, i64c r1), (10, u32c (orC (r0 + k) c0 j (orB c0 kc r0 k))), (11, i64c (r0 + k)), (12, i64c (c0 + j))]) []) kc ⟨0, rfl, by omega, hF, kp _ ⟨rfl, rfl, rfl, rfl, rfl, rfl, trivial⟩⟩ ?_
        clear hF
        rintro m a' u10 ⟨j, rfl, hj, hF, e, rfl⟩
        have hB2 := orC_lt (r := r0 + k) (c0 := c0) (k := j) hB1 (by omega)
        refine c_seq (fun K18 hK18 => ?_)
        refine c_seq (fun K19 hK19 => ?_)
        refine c_reg ?_ -- region 15 const.go:231
        refine wl (ro_move rfl) ?_
        refine wl (ro_move rfl) ?_
        refine wl (ro_cmp (r := decide (c0 + j ≤ c1)) rfl rfl (congrArg some (decide_eq_decide.2 (by omega)))) ?_
        refine wl_nil (x_then (hK19 _ _ ?_))
        clear hK19 K19
        refine wc_cond rfl (fun hc46 => ?_) (fun hc46 => ?_)
        · try simp only [decide_eq_true_eq, decide_eq_false_iff_not, Bool.not_eq_true', Bool.not_eq_false', Bool.not_eq_eq_eq_not, Bool.not_true, Bool.not_false, beq_iff_eq, bne_iff_ne, ne_eq, beq_eq_false_iff_ne, bne_eq_false_iff_eq, gt_iff_lt, ge_iff_le, Int.not_lt, Int.not_le] at hc46
          refine c_skip (x_then (hK18 _ _ ?_))
          clear hK18 K18
          refine forget [(6, _), (7, _), (9, _), (10, _), (11, _), (12, _)] ⟨rfl, rfl, rfl, rfl, rfl, rfl, trivial⟩ (fun e => ?_)
          refine c_seq (fun K20 hK20 => ?_)
          refine c_block ?_
          refine c_reg ?_ -- region 17 const.go:232
          refine wl (ro_move rfl) ?_
          refine wl (ro_move rfl) ?_
          refine wl (ro_arith (r := (((r0 + k) * 4 : Nat) : Int)) rfl rfl (congrArg some (by omega)) (Go.IntWalk.i64_in _ (by omega))) ?_
          refine wl (ro_move rfl) ?_
          refine wl (ro_arith (r := (((r0 + k) * 4 + (c0 + j) : Nat) : Int)) rfl rfl (congrArg some (by omega)) (Go.IntWalk.i64_in _ (by omega))) ?_
          refine wl (ro_conv rfl sc_3 in_122 (Go.IntWalk.u64_in _ (by omega))) ?_
          refine wl (ro_shl32 rfl rfl (by omega)) ?_
          refine wl (ro_or32 rfl rfl (by omega) (Nat.pow_lt_pow_right (by omega) (by omega))) ?_
          refine wl (ro_assign rfl) ?_
          refine wl_nil (x_blk (x_then (hK20 _ _ ?_)))
          clear hK20 K20
          refine c_reg ?_ -- region 16 const.go:231
          refine wl (ro_move rfl) ?_
          refine wl (ro_arith (r := ((c0 + (j + 1) : Nat) : Int)) rfl rfl (congrArg some (by omega)) (Go.IntWalk.i64_in _ (by omega))) ?_
          refine wl (ro_assign rfl) ?_
          refine wl_nil (x_then ?_)
          exact ⟨kc - (j + 1), by omega, j + 1, rfl, by omega, hF, kp _ ⟨rfl, rfl, rfl, rfl, rfl, rfl, trivial⟩⟩
        · try simp only [decide_eq_true_eq, decide_eq_false_iff_not, Bool.not_eq_true', Bool.not_eq_false', Bool.not_eq_eq_eq_not, Bool.not_true, Bool.not_false, beq_iff_eq, bne_iff_ne, ne_eq, beq_eq_false_iff_ne, bne_eq_false_iff_eq, gt_iff_lt, ge_iff_le, Int.not_lt, Int.not_le] at hc46
          refine c_exit (x_thenX (x_thenX (x_blkX (x_blk (x_then (hK16 _ _ ?_))))))
          clear hK18 K18 hK16 K16
          refine c_reg ?_ -- region 13 const.go:230
          refine wl (ro_move rfl) ?_
          refine wl (ro_arith (r := ((r0 + (k + 1) : Nat) : Int)) rfl rfl (congrArg some (by omega)) (Go.IntWalk.i64_in _ (by omega))) ?_
          refine wl (ro_assign rfl) ?_
          refine wl_nil (x_then ?_)
          have hjk : j = kc := by omega
          subst hjk
          exact ⟨kr - (k + 1), by omega, k + 1, rfl, by omega, hF, kp _ ⟨rfl, rfl, rfl, rfl, rfl, trivial⟩⟩
      · try simp only [decide_eq_true_eq, decide_eq_false_iff_not, Bool.not_eq_true', Bool.not_eq_false', Bool.not_eq_eq_eq_not, Bool.not_true, Bool.not_false, beq_iff_eq, bne_iff_ne, ne_eq, beq_eq_false_iff_ne, bne_eq_false_iff_eq, gt_iff_lt, ge_iff_le, Int.not_lt, Int.not_le] at hc40
        refine c_exit (x_thenX (x_thenX (x_blkX (x_then (hK12 _ _ ?_)))))
        clear hK14 K14 hK12 K12
        refine forget [(10, _)] ⟨rfl, trivial⟩ (fun e => ?_)
        refine c_seq (fun K21 hK21 => ?_)
        refine c_reg ?_ -- region 18 const.go:235
        refine wl (ro_move rfl) ?_
        refine wl (ro_assign rfl) ?_
        refine wl (ro_assign rfl) ?_
        refine wl_nil (x_then (hK21 _ _ ?_))
        clear hK21 K21
        refine c_ret ?_
        refine bp_ret Tryz.results136 rfl ?_
        have hkk : k = kr := by omega
        subst hkk
        rw [hbe]
        exact ⟨rfl, hF⟩

/-- What a text that is no formula means. -/
def plainV (s : List UInt8) : Vl :=
  if s = [] then vZ
  else if (s.drop (if s[0]? = some 45 then 1 else 0)).length < 1 ∨ 9 < (s.drop (if s[0]? = some 45 then 1 else 0)).length ∨ (s.drop (if s[0]? = some 45 then 1 else 0)).all dg = false then ⟨2, 0, s⟩
  else vI (if s[0]? = some 45 then -(numF (s.drop 1) : Int) else (numF s : Int))

set_option maxHeartbeats 4000000 in
theorem Plain143 {w : World} {s : List UInt8} (hs : s.length ≤ 40) : Ret Tryz.prog 143 [S s] w (fun v w' => v = vlA (plainV s) ∧ Fram none' w w') := by
  have hF : Fram none' w w := Fram.refl _ _
  refine ret_of Tryz.func143 rfl Tryz.ntmps143 rfl ?_
  refine c_seq (fun K1 hK1 => ?_)
  refine c_reg ?_ -- region 0 const.go:315
  refine wl_new (ze_104) (fun b2 w1 hbb2 h2 F1 => ?_)
  have hbsb2 := Nat.le_trans hF.size hbb2
  replace hF := hF.thenDrew.thenN F1
  refine wl_nil (x_then (hK1 _ _ ?_))
  clear hK1 K1
  refine c_seq (fun K2 hK2 => ?_)
  refine c_seq (fun K3 hK3 => ?_)
  refine c_reg ?_ -- region 1 const.go:316
  refine wl (ro_move rfl) ?_
  refine wl (ro_eqS rfl rfl rfl) ?_
  refine wl_nil (x_then (hK3 _ _ ?_))
  clear hK3 K3
  refine wc_cond rfl (fun hc7 => ?_) (fun hc7 => ?_)
  · try simp only [decide_eq_true_eq, decide_eq_false_iff_not, Bool.not_eq_true', Bool.not_eq_false', Bool.not_eq_eq_eq_not, Bool.not_true, Bool.not_false, beq_iff_eq, bne_iff_ne, ne_eq, beq_eq_false_iff_ne, bne_eq_false_iff_eq, gt_iff_lt, ge_iff_le, Int.not_lt, Int.not_le] at hc7
    refine c_seq (fun K4 hK4 => ?_)
    refine c_reg ?_ -- region 2 const.go:317
    refine wl (ro_build rfl bld_104) ?_
    refine wl_puta rfl rfl ((by (try exact vlc_cells _); all_goals simp [Value.oneCell', i64c, icv, u64c, u8c, ptr, S])) sz_104 (rfl) h2 ((by simp)) (rfl) (fun w2 h2 F2 => ?_)
    replace hF := hF.thenDrew.thenO F2 (by first | exact .inr (by omega) | exact .inl rfl | exact .inl (by assumption))
    refine wl_nil (x_then (hK4 _ _ ?_))
    clear hK4 K4
    refine c_ret (x_thenR ?_)
    refine bq_ret (res1 Tryz.results143 (rv_c rfl ag_104 (h2) rfl)) ?_
    exact ⟨by unfold plainV; rw [if_pos hc7]; rfl, hF⟩
  · try simp only [decide_eq_true_eq, decide_eq_false_iff_not, Bool.not_eq_true', Bool.not_eq_false', Bool.not_eq_eq_eq_not, Bool.not_true, Bool.not_false, beq_iff_eq, bne_iff_ne, ne_eq, beq_eq_false_iff_ne, bne_eq_false_iff_eq, gt_iff_lt, ge_iff_le, Int.not_lt, Int.not_le] at hc7
    refine c_skip (x_then (hK2 _ _ ?_))
    clear hK2 K2
    refine forget [(0, _), (2, _)] ⟨rfl, rfl, trivial⟩ (fun e => ?_)
    refine c_seq (fun K5 hK5 => ?_)
    obtain ⟨c0, hc0⟩ : ∃ c, s[0]? = some c := by
      cases s with
      | nil => exact absurd rfl hc7
      | cons c t => exact ⟨c, rfl⟩
    generalize hi : (if s[0]? = some 45 then 1 else 0) = i
    have hi1 : (i = 1 ∧ c0 = 45) ∨ (i = 0 ∧ c0 ≠ 45) := by
      rw [hc0] at hi
      by_cases h : c0 = 45
      · left; rw [h] at hi; simp at hi; exact ⟨hi.symm, h⟩
      · right; rw [if_neg (by simpa using h)] at hi; exact ⟨hi.symm, h⟩
    have hil : i ≤ s.length := by have := (List.getElem?_eq_some_iff.1 hc0).1; omega
    refine c_reg ?_ -- region 3 const.go:319
    refine wl (ro_assign rfl) ?_
    refine wl_nil (x_then (hK5 _ _ ?_))
    clear hK5 K5
    refine c_mid (fun a' w' => Fram none' w w' ∧ Blk w'.heap b2 [icv 0, icv 0, S []] 104 ∧ ∃ e, a' = Fr 59 (upds e [(0, S s), (2, ptr b2), (3, i64c i)]) []) ?_ ?_
    · skip
      refine c_seq (fun K6 hK6 => ?_)
      refine c_reg ?_ -- region 4 const.go:320
      refine wl (ro_move rfl) ?_
      refine wl (ro_indexS rfl rfl st_9 rfl (hc0)) ?_
      refine wl (ro_cmp (r := decide (c0.toNat = 45)) rfl rfl (congrArg some (beqc c0.toNat 45))) ?_
      refine wl_nil (x_then (hK6 _ _ ?_))
      clear hK6 K6
      refine wc_cond rfl (fun hc11 => ?_) (fun hc11 => ?_)
      · try simp only [decide_eq_true_eq, decide_eq_false_iff_not, Bool.not_eq_true', Bool.not_eq_false', Bool.not_eq_eq_eq_not, Bool.not_true, Bool.not_false, beq_iff_eq, bne_iff_ne, ne_eq, beq_eq_false_iff_ne, bne_eq_false_iff_eq, gt_iff_lt, ge_iff_le, Int.not_lt, Int.not_le] at hc11
        refine c_reg ?_ -- region 5 const.go:321
        refine wl (ro_assign rfl) ?_
        refine wl_nil (x_then ?_)
        first
          | exact ⟨hF, h2, kp _ ⟨rfl, rfl, congrArg some (congrArg i64c (show 1 = i by have := (u8_eq (n := 45) (by omega)).2 hc11; rcases hi1 with h | h; exact h.1.symm; exact absurd this h.2)), trivial⟩⟩
          | exact ⟨hF, h2, kp _ ⟨rfl, rfl, congrArg some (congrArg i64c (show 0 = i by rcases hi1 with h | h; exact absurd (by rw [h.2]; rfl) hc11; exact h.1.symm)), trivial⟩⟩
      · try simp only [decide_eq_true_eq, decide_eq_false_iff_not, Bool.not_eq_true', Bool.not_eq_false', Bool.not_eq_eq_eq_not, Bool.not_true, Bool.not_false, beq_iff_eq, bne_iff_ne, ne_eq, beq_eq_false_iff_ne, bne_eq_false_iff_eq, gt_iff_lt, ge_iff_le, Int.not_lt, Int.not_le] at hc11
        refine c_skip (x_then ?_)
        first
          | exact ⟨hF, h2, kp _ ⟨rfl, rfl, congrArg some (congrArg i64c (show 1 = i by have := (u8_eq (n := 45) (by omega)).2 hc11; rcases hi1 with h | h; exact h.1.symm; exact absurd this h.2)), trivial⟩⟩
          | exact ⟨hF, h2, kp _ ⟨rfl, rfl, congrArg some (congrArg i64c (show 0 = i by rcases hi1 with h | h; exact absurd (by rw [h.2]; rfl) hc11; exact h.1.symm)), trivial⟩⟩
    clear hF h2
    rintro a' u4 ⟨hF, h2, e, rfl⟩
    refine c_seq (fun K7 hK7 => ?_)
    refine c_seq (fun K8 hK8 => ?_)
    generalize hD : s.drop i = D
    have hDl : D.length = s.length - i := by rw [← hD, List.length_drop]
    have hpv : plainV s = if D.length < 1 ∨ 9 < D.length ∨ D.all dg = false then ⟨2, 0, s⟩ else vI (if i = 1 then -(numF D : Int) else (numF D : Int)) := by
      unfold plainV
      rw [if_neg hc7, hi, hD]
      congr 2
      rcases hi1 with ⟨rfl, h⟩ | ⟨rfl, h⟩
      · rw [hc0, h, if_pos rfl, if_pos rfl, hD]
      · rw [hc0, if_neg (by simpa using h), if_neg (by decide), ← hD]; rfl
    refine c_reg ?_ -- region 6 const.go:323
    refine wl (ro_move rfl) ?_
    refine wl (ro_lenS rfl st_9) ?_
    refine wl (ro_move rfl) ?_
    refine wl (ro_arith rfl rfl rfl (Go.IntWalk.i64_in _ (by omega))) ?_
    refine wl (ro_cmp rfl rfl rfl) ?_
    refine wl_fork rfl (fun hg17 => ?_) (fun hg17 => ?_)
    · try simp only [decide_eq_true_eq, decide_eq_false_iff_not, Bool.not_eq_true', Bool.not_eq_false', Bool.not_eq_eq_eq_not, Bool.not_true, Bool.not_false, beq_iff_eq, bne_iff_ne, ne_eq, beq_eq_false_iff_ne, bne_eq_false_iff_eq, gt_iff_lt, ge_iff_le, Int.not_lt, Int.not_le] at hg17
      refine wlg_no rfl ?_
      refine wlg_no rfl ?_
      refine wlg_no rfl ?_
      refine wlg_no rfl ?_
      refine wlg_no rfl ?_
      refine wl (ro_pick rfl rfl rfl) ?_
      refine wl_nil (x_then (hK8 _ _ ?_))
      clear hK8 K8
      refine wc_condT rfl ?_
      refine c_seq (fun K9 hK9 => ?_)
      refine c_reg ?_ -- region 7 const.go:324
      refine wl (ro_move rfl) ?_
      refine wl (ro_build rfl bld_104_0_2) ?_
      refine wl_puta rfl rfl ((by (try exact vlc_cells _); all_goals simp [Value.oneCell', i64c, icv, u64c, u8c, ptr, S])) sz_104 (rfl) h2 ((by simp)) (rfl) (fun w3 h2 F3 => ?_)
      replace hF := hF.thenDrew.thenO F3 (by first | exact .inr (by omega) | exact .inl rfl | exact .inl (by assumption))
      refine wl_nil (x_then (hK9 _ _ ?_))
      clear hK9 K9
      refine c_ret (x_thenR ?_)
      refine bq_ret (res1 Tryz.results143 (rv_c rfl ag_104 (h2) rfl)) ?_
      exact ⟨by rw [hpv, if_pos (by omega)]; rfl, hF⟩
    · try simp only [decide_eq_true_eq, decide_eq_false_iff_not, Bool.not_eq_true', Bool.not_eq_false', Bool.not_eq_eq_eq_not, Bool.not_true, Bool.not_false, beq_iff_eq, bne_iff_ne, ne_eq, beq_eq_false_iff_ne, bne_eq_false_iff_eq, gt_iff_lt, ge_iff_le, Int.not_lt, Int.not_le] at hg17
      refine wlg_yes rfl (ro_move rfl) ?_
      refine wlg_yes rfl (ro_lenS rfl st_9) ?_
      refine wlg_yes rfl (ro_move rfl) ?_
      refine wlg_yes rfl (ro_arith rfl rfl rfl (Go.IntWalk.i64_in _ (by omega))) ?_
      refine wlg_yes rfl (ro_cmp rfl rfl rfl) ?_
      refine wl (ro_pick rfl rfl rfl) ?_
      refine wl_nil (x_then (hK8 _ _ ?_))
      clear hK8 K8
      refine wc_cond rfl (fun hc23 => ?_) (fun hc23 => ?_)
      · try simp only [decide_eq_true_eq, decide_eq_false_iff_not, Bool.not_eq_true', Bool.not_eq_false', Bool.not_eq_eq_eq_not, Bool.not_true, Bool.not_false, beq_iff_eq, bne_iff_ne, ne_eq, beq_eq_false_iff_ne, bne_eq_false_iff_eq, gt_iff_lt, ge_iff_le, Int.not_lt, Int.not_le] at hc23
        refine c_seq (fun K10 hK10 => ?_)
        refine c_reg ?_ -- region 7 const.go:324
        refine wl (ro_move rfl) ?_
        refine wl (ro_build rfl bld_104_0_2) ?_
        refine wl_puta rfl rfl ((by (try exact vlc_cells _); all_goals simp [Value.oneCell', i64c, icv, u64c, u8c, ptr, S])) sz_104 (rfl) h2 ((by simp)) (rfl) (fun w4 h2 F4 => ?_)
        replace hF := hF.thenDrew.thenO F4 (by first | exact .inr (by omega) | exact .inl rfl | exact .inl (by assumption))
        refine wl_nil (x_then (hK10 _ _ ?_))
        clear hK10 K10
        refine c_ret (x_thenR ?_)
        refine bq_ret (res1 Tryz.results143 (rv_c rfl ag_104 (h2) rfl)) ?_
        exact ⟨by rw [hpv, if_pos (by omega)]; rfl, hF⟩
      · try simp only [decide_eq_true_eq, decide_eq_false_iff_not, Bool.not_eq_true', Bool.not_eq_false', Bool.not_eq_eq_eq_not, Bool.not_true, Bool.not_false, beq_iff_eq, bne_iff_ne, ne_eq, beq_eq_false_iff_ne, bne_eq_false_iff_eq, gt_iff_lt, ge_iff_le, Int.not_lt, Int.not_le] at hc23
        refine c_skip (x_then (hK7 _ _ ?_))
        clear hK7 K7
        refine forget [(0, _), (2, _), (3, _)] ⟨rfl, rfl, rfl, trivial⟩ (fun e => ?_)
        refine c_seq (fun K11 hK11 => ?_)
        refine c_reg ?_ -- region 8 const.go:326
        refine wl (ro_assign rfl) ?_
        refine wl_nil (x_then (hK11 _ _ ?_))
        clear hK11 K11
        refine c_seq (fun K12 hK12 => ?_)
        refine c_seq (fun K13 hK13 => ?_)
        refine c_reg ?_ -- region 9 const.go:327
        refine wl (ro_move rfl) ?_
        refine wl (ro_assign rfl) ?_
        refine wl_nil (x_then (hK13 _ _ ?_))
        clear hK13 K13
        refine c_block ?_
        -- loop@r10: live slots [0, 2, 3, 4, 5]
        refine c_loopG (fun m a' w' => ∃ j, m = D.length - j ∧ j ≤ D.length ∧ (∀ x ∈ D.take j, dg x = true) ∧ Fram none' w w' ∧ Blk w'.heap b2 [icv 0, icv 0, S []] 104 ∧ ∃ e, a' = Fr 59 (upds e [(0, S s), (2, ptr b2), (3, i64c i), (4, i64c (numF (D.take j))), (5, i64c (i + j))]) []) D.length ⟨0, rfl, by omega, by simp, hF, h2, kp _ ⟨rfl, rfl, rfl, rfl, rfl, trivial⟩⟩ ?_
        clear hF h2
        rintro m a' u10 ⟨j, rfl, hj, hdj, hF, h2, e, rfl⟩
        refine c_seq (fun K14 hK14 => ?_)
        refine c_seq (fun K15 hK15 => ?_)
        refine c_reg ?_ -- region 10 const.go:327
        refine wl (ro_move rfl) ?_
        refine wl (ro_move rfl) ?_
        refine wl (ro_lenS rfl st_9) ?_
        refine wl (ro_cmp (r := decide (i + j < s.length)) rfl rfl (congrArg some (decide_eq_decide.2 (by omega)))) ?_
        refine wl_nil (x_then (hK15 _ _ ?_))
        clear hK15 K15
        refine wc_cond rfl (fun hc30 => ?_) (fun hc30 => ?_)
        · try simp only [decide_eq_true_eq, decide_eq_false_iff_not, Bool.not_eq_true', Bool.not_eq_false', Bool.not_eq_eq_eq_not, Bool.not_true, Bool.not_false, beq_iff_eq, bne_iff_ne, ne_eq, beq_eq_false_iff_ne, bne_eq_false_iff_eq, gt_iff_lt, ge_iff_le, Int.not_lt, Int.not_le] at hc30
          obtain ⟨x, hx⟩ : ∃ x, s[i + j]? = some x := ⟨_, List.getElem?_eq_getElem hc30⟩
          have hxD : D[j]? = some x := by rw [← hD, List.getElem?_drop]; exact hx
          have hnb := numF_all (d := D.take j) j hdj (by omega)
          rw [List.take_take, Nat.min_self] at hnb
          refine c_skip (x_then (hK14 _ _ ?_))
          clear hK14 K14
          refine forget [(0, _), (2, _), (3, _), (4, _), (5, _)] ⟨rfl, rfl, rfl, rfl, rfl, trivial⟩ (fun e => ?_)
          refine c_seq (fun K16 hK16 => ?_)
          refine c_block ?_
          refine c_seq (fun K17 hK17 => ?_)
          refine c_seq (fun K18 hK18 => ?_)
          refine c_reg ?_ -- region 12 const.go:328
          refine wl (ro_move rfl) ?_
          refine wl (ro_move rfl) ?_
          refine wl (ro_indexS rfl rfl st_9 rfl (hx)) ?_
          refine wl (ro_cmp (r := decide (x.toNat < 48)) rfl rfl (congrArg some (decide_eq_decide.2 (by omega)))) ?_
          refine wl_fork rfl (fun hg37 => ?_) (fun hg37 => ?_)
          · try simp only [decide_eq_true_eq, decide_eq_false_iff_not, Bool.not_eq_true', Bool.not_eq_false', Bool.not_eq_eq_eq_not, Bool.not_true, Bool.not_false, beq_iff_eq, bne_iff_ne, ne_eq, beq_eq_false_iff_ne, bne_eq_false_iff_eq, gt_iff_lt, ge_iff_le, Int.not_lt, Int.not_le] at hg37
            refine wlg_no rfl ?_
            refine wlg_no rfl ?_
            refine wlg_no rfl ?_
            refine wlg_no rfl ?_
            refine wl (ro_pick rfl rfl rfl) ?_
            refine wl_nil (x_then (hK18 _ _ ?_))
            clear hK18 K18
            refine wc_condT rfl ?_
            refine c_seq (fun K19 hK19 => ?_)
            refine c_reg ?_ -- region 13 const.go:329
            refine wl (ro_move rfl) ?_
            refine wl (ro_build rfl bld_104_0_2) ?_
            refine wl_puta rfl rfl ((by (try exact vlc_cells _); all_goals simp [Value.oneCell', i64c, icv, u64c, u8c, ptr, S])) sz_104 (rfl) h2 ((by simp)) (rfl) (fun w5 h2 F5 => ?_)
            replace hF := hF.thenDrew.thenO F5 (by first | exact .inr (by omega) | exact .inl rfl | exact .inl (by assumption))
            refine wl_nil (x_then (hK19 _ _ ?_))
            clear hK19 K19
            refine c_ret (x_thenR (x_blkR (x_thenR (x_thenR (x_blkR (x_thenR ?_))))))
            refine bq_ret (res1 Tryz.results143 (rv_c rfl ag_104 (h2) rfl)) ?_
            refine ⟨?_, hF⟩
            have ha : D.all dg = false := List.all_eq_false.2 ⟨x, List.mem_of_getElem? hxD, by rw [dg_not.2 (by omega)]; decide⟩
            rw [hpv, if_pos (.inr (.inr ha))]
            rfl
          · try simp only [decide_eq_true_eq, decide_eq_false_iff_not, Bool.not_eq_true', Bool.not_eq_false', Bool.not_eq_eq_eq_not, Bool.not_true, Bool.not_false, beq_iff_eq, bne_iff_ne, ne_eq, beq_eq_false_iff_ne, bne_eq_false_iff_eq, gt_iff_lt, ge_iff_le, Int.not_lt, Int.not_le] at hg37
            refine wlg_yes rfl (ro_move rfl) ?_
            refine wlg_yes rfl (ro_move rfl) ?_
            refine wlg_yes rfl (ro_indexS rfl rfl st_9 rfl (hx)) ?_
            refine wlg_yes rfl (ro_cmp (r := decide (57 < x.toNat)) rfl rfl (congrArg some (decide_eq_decide.2 (by omega)))) ?_
            refine wl (ro_pick rfl rfl rfl) ?_
            refine wl_nil (x_then (hK18 _ _ ?_))
            clear hK18 K18
            refine wc_cond rfl (fun hc42 => ?_) (fun hc42 => ?_)
            · try simp only [decide_eq_true_eq, decide_eq_false_iff_not, Bool.not_eq_true', Bool.not_eq_false', Bool.not_eq_eq_eq_not, Bool.not_true, Bool.not_false, beq_iff_eq, bne_iff_ne, ne_eq, beq_eq_false_iff_ne, bne_eq_false_iff_eq, gt_iff_lt, ge_iff_le, Int.not_lt, Int.not_le] at hc42
              refine c_seq (fun K20 hK20 => ?_)
              refine c_reg ?_ -- region 13 const.go:329
              refine wl (ro_move rfl) ?_
              refine wl (ro_build rfl bld_104_0_2) ?_
              refine wl_puta rfl rfl ((by (try exact vlc_cells _); all_goals simp [Value.oneCell', i64c, icv, u64c, u8c, ptr, S])) sz_104 (rfl) h2 ((by simp)) (rfl) (fun w6 h2 F6 => ?_)
              replace hF := hF.thenDrew.thenO F6 (by first | exact .inr (by omega) | exact .inl rfl | exact .inl (by assumption))
              refine wl_nil (x_then (hK20 _ _ ?_))
              clear hK20 K20
              refine c_ret (x_thenR (x_blkR (x_thenR (x_thenR (x_blkR (x_thenR ?_))))))
              refine bq_ret (res1 Tryz.results143 (rv_c rfl ag_104 (h2) rfl)) ?_
              refine ⟨?_, hF⟩
              have ha : D.all dg = false := List.all_eq_false.2 ⟨x, List.mem_of_getElem? hxD, by rw [dg_not.2 (by omega)]; decide⟩
              rw [hpv, if_pos (.inr (.inr ha))]
              rfl
            · try simp only [decide_eq_true_eq, decide_eq_false_iff_not, Bool.not_eq_true', Bool.not_eq_false', Bool.not_eq_eq_eq_not, Bool.not_true, Bool.not_false, beq_iff_eq, bne_iff_ne, ne_eq, beq_eq_false_iff_ne, bne_eq_false_iff_eq, gt_iff_lt, ge_iff_le, Int.not_lt, Int.not_le] at hc42
              refine c_skip (x_then (hK17 _ _ ?_))
              clear hK17 K17
              have hdx : dg x = true := dg_iff.2 (by omega)
              have hnf : numF (D.take (j + 1)) = numF (D.take j) * 10 + dv x := by rw [take_snocG hxD, numF_snoc]
              have hdj1 : ∀ y ∈ D.take (j + 1), dg y = true := by
                intro y hy
                rw [take_snocG hxD] at hy
                rcases List.mem_append.1 hy with h | h
                · exact hdj y h
                · rw [List.mem_singleton.1 h]; exact hdx
              have hdr := dg_iff.1 hdx
              have hj9 : j < 9 := by omega
              have hnb1 := numF_all (d := D.take (j + 1)) (j + 1) hdj1 (by omega)
              rw [List.take_take, Nat.min_self] at hnb1
              refine c_reg ?_ -- region 14 const.go:331
              refine wl (ro_move rfl) ?_
              refine wl (ro_arith (r := ((numF (D.take j) * 10 : Nat) : Int)) rfl rfl (congrArg some (by omega)) (Go.IntWalk.i64_in _ (by omega))) ?_
              refine wl (ro_move rfl) ?_
              refine wl (ro_move rfl) ?_
              refine wl (ro_indexS rfl rfl st_9 rfl (hx)) ?_
              refine wl (ro_arith (r := ((dv x : Nat) : Int)) rfl rfl (congrArg some (by unfold dv; show ((x.toNat : Int)) - 48 = _; omega)) (Go.IntWalk.u8_in _ (by unfold dv; omega))) ?_
              refine wl (ro_conv rfl sc_5 in_3 (Go.IntWalk.i64_in _ (by unfold dv; omega))) ?_
              refine wl (ro_arith (r := ((numF (D.take (j + 1)) : Nat) : Int)) rfl rfl (congrArg some (by rw [hnf]; omega)) (Go.IntWalk.i64_in _ (by omega))) ?_
              refine wl (ro_assign rfl) ?_
              refine wl_nil (x_blk (x_then (hK16 _ _ ?_)))
              clear hK16 K16
              refine c_reg ?_ -- region 11 const.go:327
              refine wl (ro_move rfl) ?_
              refine wl (ro_arith (r := ((i + (j + 1) : Nat) : Int)) rfl rfl (congrArg some (by omega)) (Go.IntWalk.i64_in _ (by omega))) ?_
              refine wl (ro_assign rfl) ?_
              refine wl_nil (x_then ?_)
              exact ⟨D.length - (j + 1), by omega, j + 1, rfl, by omega, hdj1, hF, h2, kp _ ⟨rfl, rfl, rfl, rfl, rfl, trivial⟩⟩
        · try simp only [decide_eq_true_eq, decide_eq_false_iff_not, Bool.not_eq_true', Bool.not_eq_false', Bool.not_eq_eq_eq_not, Bool.not_true, Bool.not_false, beq_iff_eq, bne_iff_ne, ne_eq, beq_eq_false_iff_ne, bne_eq_false_iff_eq, gt_iff_lt, ge_iff_le, Int.not_lt, Int.not_le] at hc30
          have hjD : j = D.length := by omega
          subst hjD
          rw [List.take_length] at hdj ⊢
          have hall : D.all dg = true := List.all_eq_true.2 hdj
          have hnb := numF_all (d := D) D.length hdj (by omega)
          rw [List.take_length] at hnb
          refine c_exit (x_thenX (x_thenX (x_blkX (x_then (hK12 _ _ ?_)))))
          clear hK14 K14 hK12 K12
          refine c_seq (fun K21 hK21 => ?_)
          refine c_seq (fun K22 hK22 => ?_)
          refine c_reg ?_ -- region 15 const.go:333
          refine wl (ro_move rfl) ?_
          refine wl (ro_cmp (r := decide (i = 1)) rfl rfl (congrArg some (beqc i 1))) ?_
          refine wl_nil (x_then (hK22 _ _ ?_))
          clear hK22 K22
          refine wc_cond rfl (fun hc54 => ?_) (fun hc54 => ?_)
          · try simp only [decide_eq_true_eq, decide_eq_false_iff_not, Bool.not_eq_true', Bool.not_eq_false', Bool.not_eq_eq_eq_not, Bool.not_true, Bool.not_false, beq_iff_eq, bne_iff_ne, ne_eq, beq_eq_false_iff_ne, bne_eq_false_iff_eq, gt_iff_lt, ge_iff_le, Int.not_lt, Int.not_le] at hc54
            refine c_reg ?_ -- region 16 const.go:334
            refine wl (ro_move rfl) ?_
            refine wl (ro_neg rfl (by omega)) ?_
            refine wl (ro_assign rfl) ?_
            refine wl_nil (x_then (hK21 _ _ ?_))
            clear hK21 K21
            refine forget [(2, _), (4, _)] ⟨rfl, rfl, trivial⟩ (fun e => ?_)
            refine c_seq (fun K23 hK23 => ?_)
            refine c_reg ?_ -- region 17 const.go:336
            refine wl (ro_move rfl) ?_
            refine wl_call rfl en_187 (Int187) ?_
            rintro _ w7 ⟨rfl, F7⟩
            replace hF := hF.thenDrew.thenN F7
            replace h2 := F7.blkN h2
            refine wl_puta rfl rfl ((by (try exact vlc_cells _); all_goals simp [Value.oneCell', i64c, icv, u64c, u8c, ptr, S])) sz_104 (rfl) h2 ((by simp)) (rfl) (fun w8 h2 F8 => ?_)
            replace hF := hF.thenDrew.thenO F8 (by first | exact .inr (by omega) | exact .inl rfl | exact .inl (by assumption))
            refine wl_nil (x_then (hK23 _ _ ?_))
            clear hK23 K23
            refine c_ret ?_
            refine bq_ret (res1 Tryz.results143 (rv_c rfl ag_104 (h2) rfl)) ?_
            refine ⟨?_, hF⟩
            rw [hpv, if_neg (fun h => by rcases h with h | h | h; omega; omega; (rw [hall] at h; cases h)), if_pos (by assumption)]
            rfl
          · try simp only [decide_eq_true_eq, decide_eq_false_iff_not, Bool.not_eq_true', Bool.not_eq_false', Bool.not_eq_eq_eq_not, Bool.not_true, Bool.not_false, beq_iff_eq, bne_iff_ne, ne_eq, beq_eq_false_iff_ne, bne_eq_false_iff_eq, gt_iff_lt, ge_iff_le, Int.not_lt, Int.not_le] at hc54
            refine c_skip (x_then (hK21 _ _ ?_))
            clear hK21 K21
            refine forget [(2, _), (4, _)] ⟨rfl, rfl, trivial⟩ (fun e => ?_)
            refine c_seq (fun K24 hK24 => ?_)
            refine c_reg ?_ -- region 17 const.go:336
            refine wl (ro_move rfl) ?_
            refine wl_call rfl en_187 (Int187) ?_
            rintro _ w9 ⟨rfl, F9⟩
            replace hF := hF.thenDrew.thenN F9
            replace h2 := F9.blkN h2
            refine wl_puta rfl rfl ((by (try exact vlc_cells _); all_goals simp [Value.oneCell', i64c, icv, u64c, u8c, ptr, S])) sz_104 (rfl) h2 ((by simp)) (rfl) (fun w10 h2 F10 => ?_)
            replace hF := hF.thenDrew.thenO F10 (by first | exact .inr (by omega) | exact .inl rfl | exact .inl (by assumption))
            refine wl_nil (x_then (hK24 _ _ ?_))
            clear hK24 K24
            refine c_ret ?_
            refine bq_ret (res1 Tryz.results143 (rv_c rfl ag_104 (h2) rfl)) ?_
            refine ⟨?_, hF⟩
            rw [hpv, if_neg (fun h => by rcases h with h | h | h; omega; omega; (rw [hall] at h; cases h)), if_neg (by assumption)]
            rfl

end Go.Proofs.Qxb6500570aGreat
