import Derived.Test.Qxb6500567aGreatSa
/- Ranges of bytes and the named sets: the walks. -/
namespace Go.Proofs.Qxb6500567aGreat
set_option linter.unusedVariables false
set_option linter.unusedSimpArgs false

theorem between128 {w : World} {lo hi : UInt8} : Ret Tryz.prog 128 [u8c lo, u8c hi] w (fun r w' => r = setV (rng lo.toNat hi.toNat) ∧ Fram none' w w') := by
  have hlo : lo.toNat < 256 := lo.toBitVec.isLt
  have hhi : hi.toNat < 256 := hi.toBitVec.isLt
  have hF : Fram none' w w := Fram.refl _ _
  refine ret_of Tryz.func128 rfl Tryz.ntmps128 rfl ?_
  refine c_seq (fun K1 hK1 => ?_)
  refine c_reg ?_ -- region 0 class.go:6
  refine wl_new (ze_87) (fun mb w1 hbmb hM F1 => ?_)
  have hbsmb := Nat.le_trans hF.size hbmb
  replace hF := hF.thenDrew.thenN F1
  refine wl_nil (x_then (hK1 _ _ ?_))
  clear hK1 K1
  refine forget [(0, _), (1, _), (4, _)] ⟨rfl, rfl, rfl, trivial⟩ (fun e => ?_)
  refine c_seq (fun K2 hK2 => ?_)
  refine c_reg ?_ -- region 1 class.go:7
  refine wl_new (ze_87) (fun nb w2 hbnb hB F2 => ?_)
  have hbsnb := Nat.le_trans hF.size hbnb
  have hnembnb : mb < nb := Nat.lt_of_lt_of_le hM.lt hbnb
  replace hF := hF.thenDrew.thenN F2
  replace hM := F2.blkN hM
  refine wl_nil (x_then (hK2 _ _ ?_))
  clear hK2 K2
  refine c_seq (fun K3 hK3 => ?_)
  refine c_seq (fun K4 hK4 => ?_)
  refine c_reg ?_ -- region 2 class.go:8
  refine wl (ro_assign rfl) ?_
  refine wl_nil (x_then (hK4 _ _ ?_))
  clear hK4 K4
  refine c_block ?_
  -- loop@r3: live slots [0, 1, 4, 5, 6]
  refine c_loopG (fun m a' w' => ∃ (i : Nat), m = 4 - i ∧ i ≤ 4 ∧ Blk w'.heap nb (w4 (fun j => if j < i then wd (rng lo.toNat hi.toNat) j else 0)) 87 ∧ Blk w'.heap mb (w4 (fun _ => 0)) 87 ∧ Fram none' w w' ∧ ∃ e, a' = Fr 41 (upds e [(0, u8c lo), (1, u8c hi), (4, ptr mb), (5, ptr nb), (6, i64c i)]) []) 4 ⟨0, by omega, by omega, hB, hM, hF, kp _ ⟨rfl, rfl, rfl, rfl, rfl, trivial⟩⟩ ?_
  clear hB hM hF
  rintro m a' w1 ⟨i, rfl, hi', hB, hM, hF, e, rfl⟩
  refine c_seq (fun K5 hK5 => ?_)
  refine c_seq (fun K6 hK6 => ?_)
  refine c_reg ?_ -- region 3 class.go:8
  refine wl (ro_move rfl) ?_
  refine wl (ro_cmp rfl rfl rfl) ?_
  refine wl_nil (x_then (hK6 _ _ ?_))
  clear hK6 K6
  refine wc_cond rfl (fun hc10 => ?_) (fun hc10 => ?_)
  · try simp only [decide_eq_true_eq, decide_eq_false_iff_not, Bool.not_eq_true', Bool.not_eq_false', Bool.not_eq_eq_eq_not, Bool.not_true, Bool.not_false, beq_iff_eq, bne_iff_ne, ne_eq, beq_eq_false_iff_ne, bne_eq_false_iff_eq, gt_iff_lt, ge_iff_le, Int.not_lt, Int.not_le] at hc10
    have hi4 : i < 4 := by omega
    have hz : (if i < i then wd (rng lo.toNat hi.toNat) i else 0) = 0 := by simp
    refine c_skip (x_then (hK5 _ _ ?_))
    clear hK5 K5
    refine forget [(0, _), (1, _), (4, _), (5, _), (6, _)] ⟨rfl, rfl, rfl, rfl, rfl, trivial⟩ (fun e => ?_)
    refine c_seq (fun K7 hK7 => ?_)
    refine c_block ?_
    refine c_seq (fun K8 hK8 => ?_)
    refine c_reg ?_ -- region 5 class.go:9
    refine wl (ro_move rfl) ?_
    refine wl (ro_conv rfl sc_5 in_3 (Go.IntWalk.i64_in _ (by omega))) ?_
    refine wl (ro_move rfl) ?_
    refine wl (ro_arith rfl rfl rfl (Go.IntWalk.i64_in _ (by omega))) ?_
    refine wl (ro_arith rfl rfl rfl (Go.IntWalk.i64_in _ (by omega))) ?_
    refine wl (ro_assign rfl) ?_
    refine wl_nil (x_then (hK8 _ _ ?_))
    clear hK8 K8
    refine forget [(0, _), (1, _), (4, _), (5, _), (6, _), (7, _)] ⟨rfl, rfl, rfl, rfl, rfl, rfl, trivial⟩ (fun e => ?_)
    refine c_seq (fun K9 hK9 => ?_)
    refine c_reg ?_ -- region 6 class.go:10
    refine wl (ro_move rfl) ?_
    refine wl (ro_conv rfl sc_5 in_3 (Go.IntWalk.i64_in _ (by omega))) ?_
    refine wl (ro_move rfl) ?_
    refine wl (ro_arith rfl rfl rfl (Go.IntWalk.i64_in _ (by omega))) ?_
    refine wl (ro_arith rfl rfl rfl (Go.IntWalk.i64_in _ (by omega))) ?_
    refine wl (ro_assign rfl) ?_
    refine wl_nil (x_then (hK9 _ _ ?_))
    clear hK9 K9
    refine c_seq (fun K10 hK10 => ?_)
    refine c_seq (fun K11 hK11 => ?_)
    refine c_reg ?_ -- region 7 class.go:11
    refine wl (ro_move rfl) ?_
    refine wl (ro_cmp rfl rfl rfl) ?_
    refine wl_nil (x_then (hK11 _ _ ?_))
    clear hK11 K11
    refine wc_cond rfl (fun hc24 => ?_) (fun hc24 => ?_)
    · try simp only [decide_eq_true_eq, decide_eq_false_iff_not, Bool.not_eq_true', Bool.not_eq_false', Bool.not_eq_eq_eq_not, Bool.not_true, Bool.not_false, beq_iff_eq, bne_iff_ne, ne_eq, beq_eq_false_iff_ne, bne_eq_false_iff_eq, gt_iff_lt, ge_iff_le, Int.not_lt, Int.not_le] at hc24
      refine c_reg ?_ -- region 8 class.go:12
      refine wl (ro_assign rfl) ?_
      refine wl_nil (x_then (hK10 _ _ ?_))
      clear hK10 K10
      refine c_seq (fun K12 hK12 => ?_)
      refine c_seq (fun K13 hK13 => ?_)
      refine c_reg ?_ -- region 9 class.go:14
      refine wl (ro_move rfl) ?_
      refine wl (ro_cmp rfl rfl rfl) ?_
      refine wl_nil (x_then (hK13 _ _ ?_))
      clear hK13 K13
      refine wc_cond rfl (fun hc26 => ?_) (fun hc26 => ?_)
      · try simp only [decide_eq_true_eq, decide_eq_false_iff_not, Bool.not_eq_true', Bool.not_eq_false', Bool.not_eq_eq_eq_not, Bool.not_true, Bool.not_false, beq_iff_eq, bne_iff_ne, ne_eq, beq_eq_false_iff_ne, bne_eq_false_iff_eq, gt_iff_lt, ge_iff_le, Int.not_lt, Int.not_le] at hc26
        refine c_reg ?_ -- region 10 class.go:15
        refine wl (ro_assign rfl) ?_
        refine wl_nil (x_then (hK12 _ _ ?_))
        clear hK12 K12
        refine forget [(0, _), (1, _), (4, _), (5, _), (6, _), (7, _), (8, _)] ⟨rfl, rfl, rfl, rfl, rfl, rfl, rfl, trivial⟩ (fun e => ?_)
        refine c_seq (fun K14 hK14 => ?_)
        refine c_reg ?_ -- region 11 class.go:17
        refine wl (ro_move rfl) ?_
        refine wl (ro_move rfl) ?_
        refine wl (ro_cmp rfl rfl rfl) ?_
        refine wl_nil (x_then (hK14 _ _ ?_))
        clear hK14 K14
        refine wc_cond rfl (fun hc29 => ?_) (fun hc29 => ?_)
        · try simp only [decide_eq_true_eq, decide_eq_false_iff_not, Bool.not_eq_true', Bool.not_eq_false', Bool.not_eq_eq_eq_not, Bool.not_true, Bool.not_false, beq_iff_eq, bne_iff_ne, ne_eq, beq_eq_false_iff_ne, bne_eq_false_iff_eq, gt_iff_lt, ge_iff_le, Int.not_lt, Int.not_le] at hc29
          refine c_reg ?_ -- region 12 class.go:18
          refine wl (ro_move rfl) ?_
          refine wl (ro_move rfl) ?_
          refine wl (ro_conv rfl sc_3 in_209 (Go.IntWalk.u64_in _ (by omega))) ?_
          refine wl (ro_shlU (a := 2 ^ 64 - 1) (b := lo.toNat - 64 * i) rfl (by show some (Value.int .u64 _) = some (Value.int .u64 _); congr 2; omega) (by omega)) ?_
          refine wl (ro_move rfl) ?_
          refine wl (ro_arith rfl rfl rfl (Go.IntWalk.i64_in _ (by omega))) ?_
          refine wl (ro_conv rfl sc_3 in_209 (Go.IntWalk.u64_in _ (by omega))) ?_
          refine wl (ro_shrU (a := 2 ^ 64 - 1) (b := 63 - min 63 (hi.toNat - 64 * i)) rfl (by show some (Value.int .u64 _) = some (Value.int .u64 _); congr 2; omega) (by omega)) ?_
          refine wl (ro_andU rfl rfl (Nat.mod_lt _ (by decide)) (Nat.lt_of_le_of_lt (Nat.div_le_self _ _) (by decide))) ?_
          refine wl (ro_indexAddrA (et := 85) (k := 1) rfl rfl ar_87 (rfl) (hi4)) ?_
          refine wl_put rfl rfl rfl sz_85 hB ((by simp; omega)) ((show _ = w4 (fun j ↦ if j < i + 1 then wd (rng lo.toNat hi.toNat) j else 0) by rw [show 0 + i * 1 = i by omega, ← wd_rng (lo := lo.toNat) (hi := hi.toNat) hi4 hhi rfl rfl (by omega) (by omega)]; exact w4_set hi4 (fun j hj ↦ lt_succ_if (g := fun _ ↦ 0)))) (fun w3 hB F3 => ?_)
          replace hF := hF.thenDrew.thenO F3 (by first | exact .inr (by omega) | exact .inl rfl | exact .inl (by assumption))
          replace hM := F3.blkO hM (by omega)
          refine wl_nil (x_blk (x_then (hK7 _ _ ?_)))
          clear hK7 K7
          refine c_reg ?_ -- region 4 class.go:8
          refine wl (ro_move rfl) ?_
          refine wl (ro_arith rfl rfl rfl (Go.IntWalk.i64_in _ (by omega))) ?_
          refine wl (ro_assign rfl) ?_
          refine wl_nil (x_then ?_)
          exact ⟨4 - (i + 1), by omega, i + 1, rfl, by omega, hB, hM, hF, kp _ ⟨rfl, rfl, rfl, rfl, rfl, trivial⟩⟩
        · try simp only [decide_eq_true_eq, decide_eq_false_iff_not, Bool.not_eq_true', Bool.not_eq_false', Bool.not_eq_eq_eq_not, Bool.not_true, Bool.not_false, beq_iff_eq, bne_iff_ne, ne_eq, beq_eq_false_iff_ne, bne_eq_false_iff_eq, gt_iff_lt, ge_iff_le, Int.not_lt, Int.not_le] at hc29
          have hzz : wd (rng lo.toNat hi.toNat) i = 0 := wd_rng0 (by omega) hhi
          replace hB : Blk w1.heap nb (w4 (fun j => if j < i + 1 then wd (rng lo.toNat hi.toNat) j else 0)) 87 := by
            rw [w4_congr (g := fun j => if j < i then wd (rng lo.toNat hi.toNat) j else 0)]
            · exact hB
            · intro j hj
              rw [lt_succ_if (f := wd (rng lo.toNat hi.toNat)) (g := fun _ => 0)]
              by_cases h : j = i
              · subst h; simp [hzz]
              · simp [h]
          refine c_skip (x_blk (x_then (hK7 _ _ ?_)))
          clear hK7 K7
          refine c_reg ?_ -- region 4 class.go:8
          refine wl (ro_move rfl) ?_
          refine wl (ro_arith rfl rfl rfl (Go.IntWalk.i64_in _ (by omega))) ?_
          refine wl (ro_assign rfl) ?_
          refine wl_nil (x_then ?_)
          exact ⟨4 - (i + 1), by omega, i + 1, rfl, by omega, hB, hM, hF, kp _ ⟨rfl, rfl, rfl, rfl, rfl, trivial⟩⟩
      · try simp only [decide_eq_true_eq, decide_eq_false_iff_not, Bool.not_eq_true', Bool.not_eq_false', Bool.not_eq_eq_eq_not, Bool.not_true, Bool.not_false, beq_iff_eq, bne_iff_ne, ne_eq, beq_eq_false_iff_ne, bne_eq_false_iff_eq, gt_iff_lt, ge_iff_le, Int.not_lt, Int.not_le] at hc26
        refine c_skip (x_then (hK12 _ _ ?_))
        clear hK12 K12
        refine forget [(0, _), (1, _), (4, _), (5, _), (6, _), (7, _), (8, _)] ⟨rfl, rfl, rfl, rfl, rfl, rfl, rfl, trivial⟩ (fun e => ?_)
        refine c_seq (fun K15 hK15 => ?_)
        refine c_reg ?_ -- region 11 class.go:17
        refine wl (ro_move rfl) ?_
        refine wl (ro_move rfl) ?_
        refine wl (ro_cmp rfl rfl rfl) ?_
        refine wl_nil (x_then (hK15 _ _ ?_))
        clear hK15 K15
        refine wc_cond rfl (fun hc29 => ?_) (fun hc29 => ?_)
        · try simp only [decide_eq_true_eq, decide_eq_false_iff_not, Bool.not_eq_true', Bool.not_eq_false', Bool.not_eq_eq_eq_not, Bool.not_true, Bool.not_false, beq_iff_eq, bne_iff_ne, ne_eq, beq_eq_false_iff_ne, bne_eq_false_iff_eq, gt_iff_lt, ge_iff_le, Int.not_lt, Int.not_le] at hc29
          refine c_reg ?_ -- region 12 class.go:18
          refine wl (ro_move rfl) ?_
          refine wl (ro_move rfl) ?_
          refine wl (ro_conv rfl sc_3 in_209 (Go.IntWalk.u64_in _ (by omega))) ?_
          refine wl (ro_shlU (a := 2 ^ 64 - 1) (b := lo.toNat - 64 * i) rfl (by show some (Value.int .u64 _) = some (Value.int .u64 _); congr 2; omega) (by omega)) ?_
          refine wl (ro_move rfl) ?_
          refine wl (ro_arith rfl rfl rfl (Go.IntWalk.i64_in _ (by omega))) ?_
          refine wl (ro_conv rfl sc_3 in_209 (Go.IntWalk.u64_in _ (by omega))) ?_
          refine wl (ro_shrU (a := 2 ^ 64 - 1) (b := 63 - min 63 (hi.toNat - 64 * i)) rfl (by show some (Value.int .u64 _) = some (Value.int .u64 _); congr 2; omega) (by omega)) ?_
          refine wl (ro_andU rfl rfl (Nat.mod_lt _ (by decide)) (Nat.lt_of_le_of_lt (Nat.div_le_self _ _) (by decide))) ?_
          refine wl (ro_indexAddrA (et := 85) (k := 1) rfl rfl ar_87 (rfl) (hi4)) ?_
          refine wl_put rfl rfl rfl sz_85 hB ((by simp; omega)) ((show _ = w4 (fun j ↦ if j < i + 1 then wd (rng lo.toNat hi.toNat) j else 0) by rw [show 0 + i * 1 = i by omega, ← wd_rng (lo := lo.toNat) (hi := hi.toNat) hi4 hhi rfl rfl (by omega) (by omega)]; exact w4_set hi4 (fun j hj ↦ lt_succ_if (g := fun _ ↦ 0)))) (fun w4 hB F4 => ?_)
          replace hF := hF.thenDrew.thenO F4 (by first | exact .inr (by omega) | exact .inl rfl | exact .inl (by assumption))
          replace hM := F4.blkO hM (by omega)
          refine wl_nil (x_blk (x_then (hK7 _ _ ?_)))
          clear hK7 K7
          refine c_reg ?_ -- region 4 class.go:8
          refine wl (ro_move rfl) ?_
          refine wl (ro_arith rfl rfl rfl (Go.IntWalk.i64_in _ (by omega))) ?_
          refine wl (ro_assign rfl) ?_
          refine wl_nil (x_then ?_)
          exact ⟨4 - (i + 1), by omega, i + 1, rfl, by omega, hB, hM, hF, kp _ ⟨rfl, rfl, rfl, rfl, rfl, trivial⟩⟩
        · try simp only [decide_eq_true_eq, decide_eq_false_iff_not, Bool.not_eq_true', Bool.not_eq_false', Bool.not_eq_eq_eq_not, Bool.not_true, Bool.not_false, beq_iff_eq, bne_iff_ne, ne_eq, beq_eq_false_iff_ne, bne_eq_false_iff_eq, gt_iff_lt, ge_iff_le, Int.not_lt, Int.not_le] at hc29
          have hzz : wd (rng lo.toNat hi.toNat) i = 0 := wd_rng0 (by omega) hhi
          replace hB : Blk w1.heap nb (w4 (fun j => if j < i + 1 then wd (rng lo.toNat hi.toNat) j else 0)) 87 := by
            rw [w4_congr (g := fun j => if j < i then wd (rng lo.toNat hi.toNat) j else 0)]
            · exact hB
            · intro j hj
              rw [lt_succ_if (f := wd (rng lo.toNat hi.toNat)) (g := fun _ => 0)]
              by_cases h : j = i
              · subst h; simp [hzz]
              · simp [h]
          refine c_skip (x_blk (x_then (hK7 _ _ ?_)))
          clear hK7 K7
          refine c_reg ?_ -- region 4 class.go:8
          refine wl (ro_move rfl) ?_
          refine wl (ro_arith rfl rfl rfl (Go.IntWalk.i64_in _ (by omega))) ?_
          refine wl (ro_assign rfl) ?_
          refine wl_nil (x_then ?_)
          exact ⟨4 - (i + 1), by omega, i + 1, rfl, by omega, hB, hM, hF, kp _ ⟨rfl, rfl, rfl, rfl, rfl, trivial⟩⟩
    · try simp only [decide_eq_true_eq, decide_eq_false_iff_not, Bool.not_eq_true', Bool.not_eq_false', Bool.not_eq_eq_eq_not, Bool.not_true, Bool.not_false, beq_iff_eq, bne_iff_ne, ne_eq, beq_eq_false_iff_ne, bne_eq_false_iff_eq, gt_iff_lt, ge_iff_le, Int.not_lt, Int.not_le] at hc24
      refine c_skip (x_then (hK10 _ _ ?_))
      clear hK10 K10
      refine c_seq (fun K16 hK16 => ?_)
      refine c_seq (fun K17 hK17 => ?_)
      refine c_reg ?_ -- region 9 class.go:14
      refine wl (ro_move rfl) ?_
      refine wl (ro_cmp rfl rfl rfl) ?_
      refine wl_nil (x_then (hK17 _ _ ?_))
      clear hK17 K17
      refine wc_cond rfl (fun hc26 => ?_) (fun hc26 => ?_)
      · try simp only [decide_eq_true_eq, decide_eq_false_iff_not, Bool.not_eq_true', Bool.not_eq_false', Bool.not_eq_eq_eq_not, Bool.not_true, Bool.not_false, beq_iff_eq, bne_iff_ne, ne_eq, beq_eq_false_iff_ne, bne_eq_false_iff_eq, gt_iff_lt, ge_iff_le, Int.not_lt, Int.not_le] at hc26
        refine c_reg ?_ -- region 10 class.go:15
        refine wl (ro_assign rfl) ?_
        refine wl_nil (x_then (hK16 _ _ ?_))
        clear hK16 K16
        refine forget [(0, _), (1, _), (4, _), (5, _), (6, _), (7, _), (8, _)] ⟨rfl, rfl, rfl, rfl, rfl, rfl, rfl, trivial⟩ (fun e => ?_)
        refine c_seq (fun K18 hK18 => ?_)
        refine c_reg ?_ -- region 11 class.go:17
        refine wl (ro_move rfl) ?_
        refine wl (ro_move rfl) ?_
        refine wl (ro_cmp rfl rfl rfl) ?_
        refine wl_nil (x_then (hK18 _ _ ?_))
        clear hK18 K18
        refine wc_cond rfl (fun hc29 => ?_) (fun hc29 => ?_)
        · try simp only [decide_eq_true_eq, decide_eq_false_iff_not, Bool.not_eq_true', Bool.not_eq_false', Bool.not_eq_eq_eq_not, Bool.not_true, Bool.not_false, beq_iff_eq, bne_iff_ne, ne_eq, beq_eq_false_iff_ne, bne_eq_false_iff_eq, gt_iff_lt, ge_iff_le, Int.not_lt, Int.not_le] at hc29
          refine c_reg ?_ -- region 12 class.go:18
          refine wl (ro_move rfl) ?_
          refine wl (ro_move rfl) ?_
          refine wl (ro_conv rfl sc_3 in_209 (Go.IntWalk.u64_in _ (by omega))) ?_
          refine wl (ro_shlU (a := 2 ^ 64 - 1) (b := lo.toNat - 64 * i) rfl (by show some (Value.int .u64 _) = some (Value.int .u64 _); congr 2; omega) (by omega)) ?_
          refine wl (ro_move rfl) ?_
          refine wl (ro_arith rfl rfl rfl (Go.IntWalk.i64_in _ (by omega))) ?_
          refine wl (ro_conv rfl sc_3 in_209 (Go.IntWalk.u64_in _ (by omega))) ?_
          refine wl (ro_shrU (a := 2 ^ 64 - 1) (b := 63 - min 63 (hi.toNat - 64 * i)) rfl (by show some (Value.int .u64 _) = some (Value.int .u64 _); congr 2; omega) (by omega)) ?_
          refine wl (ro_andU rfl rfl (Nat.mod_lt _ (by decide)) (Nat.lt_of_le_of_lt (Nat.div_le_self _ _) (by decide))) ?_
          refine wl (ro_indexAddrA (et := 85) (k := 1) rfl rfl ar_87 (rfl) (hi4)) ?_
          refine wl_put rfl rfl rfl sz_85 hB ((by simp; omega)) ((show _ = w4 (fun j ↦ if j < i + 1 then wd (rng lo.toNat hi.toNat) j else 0) by rw [show 0 + i * 1 = i by omega, ← wd_rng (lo := lo.toNat) (hi := hi.toNat) hi4 hhi rfl rfl (by omega) (by omega)]; exact w4_set hi4 (fun j hj ↦ lt_succ_if (g := fun _ ↦ 0)))) (fun w5 hB F5 => ?_)
          replace hF := hF.thenDrew.thenO F5 (by first | exact .inr (by omega) | exact .inl rfl | exact .inl (by assumption))
          replace hM := F5.blkO hM (by omega)
          refine wl_nil (x_blk (x_then (hK7 _ _ ?_)))
          clear hK7 K7
          refine c_reg ?_ -- region 4 class.go:8
          refine wl (ro_move rfl) ?_
          refine wl (ro_arith rfl rfl rfl (Go.IntWalk.i64_in _ (by omega))) ?_
          refine wl (ro_assign rfl) ?_
          refine wl_nil (x_then ?_)
          exact ⟨4 - (i + 1), by omega, i + 1, rfl, by omega, hB, hM, hF, kp _ ⟨rfl, rfl, rfl, rfl, rfl, trivial⟩⟩
        · try simp only [decide_eq_true_eq, decide_eq_false_iff_not, Bool.not_eq_true', Bool.not_eq_false', Bool.not_eq_eq_eq_not, Bool.not_true, Bool.not_false, beq_iff_eq, bne_iff_ne, ne_eq, beq_eq_false_iff_ne, bne_eq_false_iff_eq, gt_iff_lt, ge_iff_le, Int.not_lt, Int.not_le] at hc29
          have hzz : wd (rng lo.toNat hi.toNat) i = 0 := wd_rng0 (by omega) hhi
          replace hB : Blk w1.heap nb (w4 (fun j => if j < i + 1 then wd (rng lo.toNat hi.toNat) j else 0)) 87 := by
            rw [w4_congr (g := fun j => if j < i then wd (rng lo.toNat hi.toNat) j else 0)]
            · exact hB
            · intro j hj
              rw [lt_succ_if (f := wd (rng lo.toNat hi.toNat)) (g := fun _ => 0)]
              by_cases h : j = i
              · subst h; simp [hzz]
              · simp [h]
          refine c_skip (x_blk (x_then (hK7 _ _ ?_)))
          clear hK7 K7
          refine c_reg ?_ -- region 4 class.go:8
          refine wl (ro_move rfl) ?_
          refine wl (ro_arith rfl rfl rfl (Go.IntWalk.i64_in _ (by omega))) ?_
          refine wl (ro_assign rfl) ?_
          refine wl_nil (x_then ?_)
          exact ⟨4 - (i + 1), by omega, i + 1, rfl, by omega, hB, hM, hF, kp _ ⟨rfl, rfl, rfl, rfl, rfl, trivial⟩⟩
      · try simp only [decide_eq_true_eq, decide_eq_false_iff_not, Bool.not_eq_true', Bool.not_eq_false', Bool.not_eq_eq_eq_not, Bool.not_true, Bool.not_false, beq_iff_eq, bne_iff_ne, ne_eq, beq_eq_false_iff_ne, bne_eq_false_iff_eq, gt_iff_lt, ge_iff_le, Int.not_lt, Int.not_le] at hc26
        refine c_skip (x_then (hK16 _ _ ?_))
        clear hK16 K16
        refine forget [(0, _), (1, _), (4, _), (5, _), (6, _), (7, _), (8, _)] ⟨rfl, rfl, rfl, rfl, rfl, rfl, rfl, trivial⟩ (fun e => ?_)
        refine c_seq (fun K19 hK19 => ?_)
        refine c_reg ?_ -- region 11 class.go:17
        refine wl (ro_move rfl) ?_
        refine wl (ro_move rfl) ?_
        refine wl (ro_cmp rfl rfl rfl) ?_
        refine wl_nil (x_then (hK19 _ _ ?_))
        clear hK19 K19
        refine wc_cond rfl (fun hc29 => ?_) (fun hc29 => ?_)
        · try simp only [decide_eq_true_eq, decide_eq_false_iff_not, Bool.not_eq_true', Bool.not_eq_false', Bool.not_eq_eq_eq_not, Bool.not_true, Bool.not_false, beq_iff_eq, bne_iff_ne, ne_eq, beq_eq_false_iff_ne, bne_eq_false_iff_eq, gt_iff_lt, ge_iff_le, Int.not_lt, Int.not_le] at hc29
          refine c_reg ?_ -- region 12 class.go:18
          refine wl (ro_move rfl) ?_
          refine wl (ro_move rfl) ?_
          refine wl (ro_conv rfl sc_3 in_209 (Go.IntWalk.u64_in _ (by omega))) ?_
          refine wl (ro_shlU (a := 2 ^ 64 - 1) (b := lo.toNat - 64 * i) rfl (by show some (Value.int .u64 _) = some (Value.int .u64 _); congr 2; omega) (by omega)) ?_
          refine wl (ro_move rfl) ?_
          refine wl (ro_arith rfl rfl rfl (Go.IntWalk.i64_in _ (by omega))) ?_
          refine wl (ro_conv rfl sc_3 in_209 (Go.IntWalk.u64_in _ (by omega))) ?_
          refine wl (ro_shrU (a := 2 ^ 64 - 1) (b := 63 - min 63 (hi.toNat - 64 * i)) rfl (by show some (Value.int .u64 _) = some (Value.int .u64 _); congr 2; omega) (by omega)) ?_
          refine wl (ro_andU rfl rfl (Nat.mod_lt _ (by decide)) (Nat.lt_of_le_of_lt (Nat.div_le_self _ _) (by decide))) ?_
          refine wl (ro_indexAddrA (et := 85) (k := 1) rfl rfl ar_87 (rfl) (hi4)) ?_
          refine wl_put rfl rfl rfl sz_85 hB ((by simp; omega)) ((show _ = w4 (fun j ↦ if j < i + 1 then wd (rng lo.toNat hi.toNat) j else 0) by rw [show 0 + i * 1 = i by omega, ← wd_rng (lo := lo.toNat) (hi := hi.toNat) hi4 hhi rfl rfl (by omega) (by omega)]; exact w4_set hi4 (fun j hj ↦ lt_succ_if (g := fun _ ↦ 0)))) (fun w6 hB F6 => ?_)
          replace hF := hF.thenDrew.thenO F6 (by first | exact .inr (by omega) | exact .inl rfl | exact .inl (by assumption))
          replace hM := F6.blkO hM (by omega)
          refine wl_nil (x_blk (x_then (hK7 _ _ ?_)))
          clear hK7 K7
          refine c_reg ?_ -- region 4 class.go:8
          refine wl (ro_move rfl) ?_
          refine wl (ro_arith rfl rfl rfl (Go.IntWalk.i64_in _ (by omega))) ?_
          refine wl (ro_assign rfl) ?_
          refine wl_nil (x_then ?_)
          exact ⟨4 - (i + 1), by omega, i + 1, rfl, by omega, hB, hM, hF, kp _ ⟨rfl, rfl, rfl, rfl, rfl, trivial⟩⟩
        · try simp only [decide_eq_true_eq, decide_eq_false_iff_not, Bool.not_eq_true', Bool.not_eq_false', Bool.not_eq_eq_eq_not, Bool.not_true, Bool.not_false, beq_iff_eq, bne_iff_ne, ne_eq, beq_eq_false_iff_ne, bne_eq_false_iff_eq, gt_iff_lt, ge_iff_le, Int.not_lt, Int.not_le] at hc29
          have hzz : wd (rng lo.toNat hi.toNat) i = 0 := wd_rng0 (by omega) hhi
          replace hB : Blk w1.heap nb (w4 (fun j => if j < i + 1 then wd (rng lo.toNat hi.toNat) j else 0)) 87 := by
            rw [w4_congr (g := fun j => if j < i then wd (rng lo.toNat hi.toNat) j else 0)]
            · exact hB
            · intro j hj
              rw [lt_succ_if (f := wd (rng lo.toNat hi.toNat)) (g := fun _ => 0)]
              by_cases h : j = i
              · subst h; simp [hzz]
              · simp [h]
          refine c_skip (x_blk (x_then (hK7 _ _ ?_)))
          clear hK7 K7
          refine c_reg ?_ -- region 4 class.go:8
          refine wl (ro_move rfl) ?_
          refine wl (ro_arith rfl rfl rfl (Go.IntWalk.i64_in _ (by omega))) ?_
          refine wl (ro_assign rfl) ?_
          refine wl_nil (x_then ?_)
          exact ⟨4 - (i + 1), by omega, i + 1, rfl, by omega, hB, hM, hF, kp _ ⟨rfl, rfl, rfl, rfl, rfl, trivial⟩⟩
  · try simp only [decide_eq_true_eq, decide_eq_false_iff_not, Bool.not_eq_true', Bool.not_eq_false', Bool.not_eq_eq_eq_not, Bool.not_true, Bool.not_false, beq_iff_eq, bne_iff_ne, ne_eq, beq_eq_false_iff_ne, bne_eq_false_iff_eq, gt_iff_lt, ge_iff_le, Int.not_lt, Int.not_le] at hc10
    have hi4 : i = 4 := by omega
    subst hi4
    rw [w4_congr (g := wd (rng lo.toNat hi.toNat)) (by intro j hj; simp [hj])] at hB
    refine c_exit (x_thenX (x_thenX (x_blkX (x_then (hK3 _ _ ?_)))))
    clear hK5 K5 hK3 K3
    refine forget [(4, _), (5, _)] ⟨rfl, rfl, trivial⟩ (fun e => ?_)
    refine c_seq (fun K20 hK20 => ?_)
    refine c_reg ?_ -- region 13 class.go:21
    refine wl (ro_loadAggB rfl ag_87 (hB) rfl rfl) ?_
    refine wl_puta rfl rfl (by simp [Value.oneCell', i64c, u64c, u8c, ptr]) sz_87 (rfl) hM ((by simp)) (rfl) (fun w7 hM F7 => ?_)
    replace hF := hF.thenDrew.thenO F7 (by first | exact .inr (by omega) | exact .inl rfl | exact .inl (by assumption))
    replace hB := F7.blkO hB (by omega)
    refine wl_nil (x_then (hK20 _ _ ?_))
    clear hK20 K20
    refine c_ret ?_
    refine bq_ret (res1 Tryz.results128 (rv_c rfl ag_87 (hM) rfl)) ?_
    exact ⟨rfl, hF⟩

/-- The set with the bytes from lo on, below c. -/
def spn (S lo c : Nat) : Nat := if lo < c then S ||| rng lo (c - 1) else S

theorem spn_bit {S lo c k : Nat} : (spn S lo c).testBit k = (S.testBit k || decide (lo ≤ k ∧ k < c)) := by
  unfold spn
  split
  · rw [Nat.testBit_or, rng_bit]
    congr 1
    rw [decide_eq_decide]
    omega
  · simp
    omega

theorem spn_succ {S lo c i : Nat} (hl : lo ≤ c) (hc : c < 256) (hi : i < 4) : wd (spn S lo (c + 1)) i = if i = c / 64 then wd (spn S lo c) (c / 64) ||| (1 * 2 ^ (c % 64) % 2 ^ 64) else wd (spn S lo c) i := by
  have hp : 1 * 2 ^ (c % 64) % 2 ^ 64 = 2 ^ (c % 64) := by
    rw [Nat.one_mul, Nat.mod_eq_of_lt (Nat.pow_lt_pow_right (by omega) (by omega))]
  rw [hp]
  apply w64_ext (wd_lt _ _)
  · split
    · exact Nat.or_lt_two_pow (wd_lt _ _) (Nat.pow_lt_pow_right (by omega) (by omega))
    · exact wd_lt _ _
  · intro k hk
    rw [wd_bit, spn_bit]
    split
    · rename_i h
      rw [Nat.testBit_or, wd_bit, spn_bit, Nat.testBit_two_pow]
      simp only [hk, decide_true, Bool.true_and]
      rw [h, Bool.or_assoc]
      congr 1
      rw [Bool.eq_iff_iff]
      simp
      omega
    · rename_i h
      rw [wd_bit, spn_bit]
      simp only [hk, decide_true, Bool.true_and]
      congr 1
      rw [Bool.eq_iff_iff]
      simp
      omega

theorem Span158 {w : World} {S : Nat} {lo hi : UInt8} : Ret Tryz.prog 158 [setV S, u8c lo, u8c hi] w (fun r w' => r = setV (S ||| rng lo.toNat hi.toNat) ∧ Fram none' w w') := by
  have hlo : lo.toNat < 256 := lo.toBitVec.isLt
  have hhi : hi.toNat < 256 := hi.toBitVec.isLt
  have hF : Fram none' w w := Fram.refl _ _
  refine ret_of Tryz.func158 rfl Tryz.ntmps158 rfl ?_
  refine c_seq (fun K1 hK1 => ?_)
  refine c_reg ?_ -- region 0 const.go:99
  refine wl_box (cs := (setC S)) rfl rfl (fun nb w1 hbnb hB F1 => ?_)
  have hbsnb := Nat.le_trans hF.size hbnb
  replace hF := hF.thenDrew.thenN F1
  refine wl_new (ze_87) (fun mb w2 hbmb hM F2 => ?_)
  have hbsmb := Nat.le_trans hF.size hbmb
  have hnenbmb : nb < mb := Nat.lt_of_lt_of_le hB.lt hbmb
  replace hF := hF.thenDrew.thenN F2
  replace hB := F2.blkN hB
  refine wl_nil (x_then (hK1 _ _ ?_))
  clear hK1 K1
  refine c_seq (fun K2 hK2 => ?_)
  refine c_seq (fun K3 hK3 => ?_)
  refine c_reg ?_ -- region 1 const.go:100
  refine wl (ro_move rfl) ?_
  refine wl (ro_conv rfl sc_5 in_3 (Go.IntWalk.i64_in _ (by omega))) ?_
  refine wl (ro_assign rfl) ?_
  refine wl_nil (x_then (hK3 _ _ ?_))
  clear hK3 K3
  refine c_block ?_
  -- loop@r2: live slots [2, 3, 6, 7]
  refine c_loopG (fun m a' w' => ∃ (c : Nat), m = 256 - c ∧ lo.toNat ≤ c ∧ (c ≤ hi.toNat + 1 ∨ c = lo.toNat) ∧ Blk w'.heap nb (setC (spn S lo.toNat c)) 87 ∧ Blk w'.heap mb (w4 (fun _ => 0)) 87 ∧ Fram none' w w' ∧ ∃ e, a' = Fr 29 (upds e [(2, u8c hi), (3, ptr nb), (6, ptr mb), (7, i64c c)]) []) (256 - lo.toNat) ⟨lo.toNat, rfl, by omega, by omega, by simpa [spn] using hB, hM, hF, kp _ ⟨rfl, rfl, rfl, rfl, trivial⟩⟩ ?_
  clear hB hM hF
  rintro m a' w1 ⟨c, rfl, hc1, hc2, hB, hM, hF, e, rfl⟩
  refine c_seq (fun K4 hK4 => ?_)
  refine c_seq (fun K5 hK5 => ?_)
  refine c_reg ?_ -- region 2 const.go:100
  refine wl (ro_move rfl) ?_
  refine wl (ro_move rfl) ?_
  refine wl (ro_conv rfl sc_5 in_3 (Go.IntWalk.i64_in _ (by omega))) ?_
  refine wl (ro_cmp rfl rfl rfl) ?_
  refine wl_nil (x_then (hK5 _ _ ?_))
  clear hK5 K5
  refine wc_cond rfl (fun hc13 => ?_) (fun hc13 => ?_)
  · try simp only [decide_eq_true_eq, decide_eq_false_iff_not, Bool.not_eq_true', Bool.not_eq_false', Bool.not_eq_eq_eq_not, Bool.not_true, Bool.not_false, beq_iff_eq, bne_iff_ne, ne_eq, beq_eq_false_iff_ne, bne_eq_false_iff_eq, gt_iff_lt, ge_iff_le, Int.not_lt, Int.not_le] at hc13
    have hc : c < 256 := by omega
    refine c_skip (x_then (hK4 _ _ ?_))
    clear hK4 K4
    refine forget [(2, _), (3, _), (6, _), (7, _)] ⟨rfl, rfl, rfl, rfl, trivial⟩ (fun e => ?_)
    refine c_seq (fun K6 hK6 => ?_)
    refine c_block ?_
    refine c_reg ?_ -- region 4 const.go:101
    refine wl (ro_move rfl) ?_
    refine wl (ro_shrN (a := c) (b := 6) rfl rfl (by decide)) ?_
    refine wl (ro_move rfl) ?_
    refine wl (ro_shrN (a := c) (b := 6) rfl rfl (by decide)) ?_
    refine wl (ro_indexAddrA (et := 85) (k := 1) rfl rfl ar_87 (rfl) ((by omega : c / 2 ^ 6 < 4))) ?_
    refine wl (ro_loadB rfl sc_85 (hB) ((by simpa using w4_get (g := wd (spn S lo.toNat c)) (show c / 64 < 4 by omega)))) ?_
    refine wl (ro_move rfl) ?_
    refine wl (ro_and63i rfl rfl (by omega)) ?_
    refine wl (ro_conv rfl sc_3 in_209 (Go.IntWalk.u64_in _ (by omega))) ?_
    refine wl (ro_shlU (a := 1) (b := c % 64) rfl rfl (by omega)) ?_
    refine wl (ro_orU rfl rfl (wd_lt _ _) (Nat.mod_lt _ (by decide))) ?_
    refine wl (ro_indexAddrA (et := 85) (k := 1) rfl rfl ar_87 (rfl) ((by omega : c / 2 ^ 6 < 4))) ?_
    refine wl_put rfl rfl rfl sz_85 hB ((by simp; omega)) ((show _ = setC (spn S lo.toNat (c + 1)) by rw [show 0 + c / 2 ^ 6 * 1 = c / 64 by omega]; exact w4_set (by omega) (fun j hj ↦ spn_succ hc1 hc hj))) (fun w3 hB F3 => ?_)
    replace hF := hF.thenDrew.thenO F3 (by first | exact .inr (by omega) | exact .inl rfl | exact .inl (by assumption))
    replace hM := F3.blkO hM (by omega)
    refine wl_nil (x_blk (x_then (hK6 _ _ ?_)))
    clear hK6 K6
    refine c_reg ?_ -- region 3 const.go:100
    refine wl (ro_move rfl) ?_
    refine wl (ro_arith rfl rfl rfl (Go.IntWalk.i64_in _ (by omega))) ?_
    refine wl (ro_assign rfl) ?_
    refine wl_nil (x_then ?_)
    exact ⟨256 - (c + 1), by omega, c + 1, rfl, by omega, by omega, hB, hM, hF, kp _ ⟨rfl, rfl, rfl, rfl, trivial⟩⟩
  · try simp only [decide_eq_true_eq, decide_eq_false_iff_not, Bool.not_eq_true', Bool.not_eq_false', Bool.not_eq_eq_eq_not, Bool.not_true, Bool.not_false, beq_iff_eq, bne_iff_ne, ne_eq, beq_eq_false_iff_ne, bne_eq_false_iff_eq, gt_iff_lt, ge_iff_le, Int.not_lt, Int.not_le] at hc13
    have he : spn S lo.toNat c = S ||| rng lo.toNat hi.toNat := by
      apply Nat.eq_of_testBit_eq
      intro k
      rw [spn_bit, Nat.testBit_or, rng_bit]
      congr 1
      rw [decide_eq_decide]
      omega
    rw [he] at hB
    refine c_exit (x_thenX (x_thenX (x_blkX (x_then (hK2 _ _ ?_)))))
    clear hK4 K4 hK2 K2
    refine forget [(3, _), (6, _)] ⟨rfl, rfl, trivial⟩ (fun e => ?_)
    refine c_seq (fun K7 hK7 => ?_)
    refine c_reg ?_ -- region 5 const.go:103
    refine wl (ro_loadAggB rfl ag_87 (hB) rfl rfl) ?_
    refine wl_puta rfl rfl (by simp [Value.oneCell', i64c, u64c, u8c, ptr]) sz_87 (rfl) hM ((by simp)) (rfl) (fun w4 hM F4 => ?_)
    replace hF := hF.thenDrew.thenO F4 (by first | exact .inr (by omega) | exact .inl rfl | exact .inl (by assumption))
    replace hB := F4.blkO hB (by omega)
    refine wl_nil (x_then (hK7 _ _ ?_))
    clear hK7 K7
    refine c_ret ?_
    refine bq_ret (res1 Tryz.results158 (rv_c rfl ag_87 (hM) rfl)) ?_
    exact ⟨rfl, hF⟩

theorem zeroS : Value.agg #[.int .u64 0, .int .u64 0, .int .u64 0, .int .u64 0] = setV 0 := by rw [setV, setC_zero]

theorem one155 {w : World} {c : UInt8} : Ret Tryz.prog 155 [u8c c] w (fun r w' => r = setV (rng c.toNat c.toNat) ∧ Fram none' w w') := by
  have hF : Fram none' w w := Fram.refl _ _
  refine ret_of Tryz.func155 rfl Tryz.ntmps155 rfl ?_
  refine c_seq (fun K1 hK1 => ?_)
  refine c_reg ?_ -- region 0 syntaxm.go:159
  refine wl_new (ze_87) (fun mb w1 hbmb hM F1 => ?_)
  have hbsmb := Nat.le_trans hF.size hbmb
  replace hF := hF.thenDrew.thenN F1
  refine wl_nil (x_then (hK1 _ _ ?_))
  clear hK1 K1
  refine forget [(0, _), (2, _)] ⟨rfl, rfl, trivial⟩ (fun e => ?_)
  refine c_seq (fun K2 hK2 => ?_)
  refine c_reg ?_ -- region 1 syntaxm.go:159
  refine wl (ro_build rfl bld_87) ?_
  rw [zeroS]
  refine wl (ro_move rfl) ?_
  refine wl (ro_move rfl) ?_
  refine wl_call rfl en_158 (Span158 (S := 0) (lo := c) (hi := c)) ?_
  rintro _ w2 ⟨rfl, F2⟩
  replace hF := hF.thenDrew.thenN F2
  replace hM := F2.blkN hM
  refine wl_puta rfl rfl (by simp [Value.oneCell', i64c, u64c, u8c, ptr]) sz_87 (rfl) hM ((by simp)) (rfl) (fun w3 hM F3 => ?_)
  replace hF := hF.thenDrew.thenO F3 (by first | exact .inr (by omega) | exact .inl rfl | exact .inl (by assumption))
  refine wl_nil (x_then (hK2 _ _ ?_))
  clear hK2 K2
  refine c_ret ?_
  refine bq_ret (res1 Tryz.results155 (rv_c rfl ag_87 (hM) rfl)) ?_
  exact ⟨by rw [Nat.zero_or]; rfl, hF⟩

theorem digits148 {w : World} : Ret Tryz.prog 148 [] w (fun r w' => r = setV (rng 48 57) ∧ Fram none' w w') := by
  have hF : Fram none' w w := Fram.refl _ _
  refine ret_of Tryz.func148 rfl Tryz.ntmps148 rfl ?_
  refine c_seq (fun K1 hK1 => ?_)
  refine c_reg ?_ -- region 0 class.go:25
  refine wl_new (ze_87) (fun mb w1 hbmb hM F1 => ?_)
  have hbsmb := Nat.le_trans hF.size hbmb
  replace hF := hF.thenDrew.thenN F1
  refine wl_nil (x_then (hK1 _ _ ?_))
  clear hK1 K1
  refine forget [(0, _)] ⟨rfl, trivial⟩ (fun e => ?_)
  refine c_seq (fun K2 hK2 => ?_)
  refine c_reg ?_ -- region 1 class.go:25
  refine wl_call rfl en_128 (between128 (lo := 48) (hi := 57)) ?_
  rintro _ w2 ⟨rfl, F2⟩
  replace hF := hF.thenDrew.thenN F2
  replace hM := F2.blkN hM
  refine wl_puta rfl rfl (by simp [Value.oneCell', i64c, u64c, u8c, ptr]) sz_87 (rfl) hM ((by simp)) (rfl) (fun w3 hM F3 => ?_)
  replace hF := hF.thenDrew.thenO F3 (by first | exact .inr (by omega) | exact .inl rfl | exact .inl (by assumption))
  refine wl_nil (x_then (hK2 _ _ ?_))
  clear hK2 K2
  refine c_ret ?_
  refine bq_ret (res1 Tryz.results148 (rv_c rfl ag_87 (hM) rfl)) ?_
  exact ⟨rfl, hF⟩

theorem wordy149 {w : World} : Ret Tryz.prog 149 [] w (fun r w' => r = setV wordS ∧ Fram none' w w') := by
  have hF : Fram none' w w := Fram.refl _ _
  refine ret_of Tryz.func149 rfl Tryz.ntmps149 rfl ?_
  refine c_seq (fun K1 hK1 => ?_)
  refine c_reg ?_ -- region 0 class.go:27
  refine wl_new (ze_87) (fun mb w1 hbmb hM F1 => ?_)
  have hbsmb := Nat.le_trans hF.size hbmb
  replace hF := hF.thenDrew.thenN F1
  refine wl_nil (x_then (hK1 _ _ ?_))
  clear hK1 K1
  refine forget [(0, _)] ⟨rfl, trivial⟩ (fun e => ?_)
  refine c_seq (fun K2 hK2 => ?_)
  refine c_reg ?_ -- region 1 class.go:28
  refine wl_call rfl en_128 (between128 (lo := 48) (hi := 57)) ?_
  rintro _ w2 ⟨rfl, F2⟩
  replace hF := hF.thenDrew.thenN F2
  replace hM := F2.blkN hM
  refine wl_new (ze_87) (fun ab w3 hbab hA F3 => ?_)
  have hbsab := Nat.le_trans hF.size hbab
  have hnembab : mb < ab := Nat.lt_of_lt_of_le hM.lt hbab
  replace hF := hF.thenDrew.thenN F3
  replace hM := F3.blkN hM
  refine wl_puta rfl rfl (by simp [Value.oneCell', i64c, u64c, u8c, ptr]) sz_87 (rfl) hA ((by simp)) (rfl) (fun w4 hA F4 => ?_)
  replace hF := hF.thenDrew.thenO F4 (by first | exact .inr (by omega) | exact .inl rfl | exact .inl (by assumption))
  replace hM := F4.blkO hM (by omega)
  refine wl_nil (x_then (hK2 _ _ ?_))
  clear hK2 K2
  refine forget [(0, _), (1, _)] ⟨rfl, rfl, trivial⟩ (fun e => ?_)
  refine c_seq (fun K3 hK3 => ?_)
  refine c_reg ?_ -- region 2 class.go:29
  refine wl_call rfl en_128 (between128 (lo := 65) (hi := 90)) ?_
  rintro _ w5 ⟨rfl, F5⟩
  replace hF := hF.thenDrew.thenN F5
  replace hM := F5.blkN hM
  replace hA := F5.blkN hA
  refine wl_new (ze_87) (fun bb w6 hbbb hB F6 => ?_)
  have hbsbb := Nat.le_trans hF.size hbbb
  have hnembbb : mb < bb := Nat.lt_of_lt_of_le hM.lt hbbb
  have hneabbb : ab < bb := Nat.lt_of_lt_of_le hA.lt hbbb
  replace hF := hF.thenDrew.thenN F6
  replace hM := F6.blkN hM
  replace hA := F6.blkN hA
  refine wl_puta rfl rfl (by simp [Value.oneCell', i64c, u64c, u8c, ptr]) sz_87 (rfl) hB ((by simp)) (rfl) (fun w7 hB F7 => ?_)
  replace hF := hF.thenDrew.thenO F7 (by first | exact .inr (by omega) | exact .inl rfl | exact .inl (by assumption))
  replace hM := F7.blkO hM (by omega)
  replace hA := F7.blkO hA (by omega)
  refine wl_nil (x_then (hK3 _ _ ?_))
  clear hK3 K3
  refine forget [(0, _), (1, _), (2, _)] ⟨rfl, rfl, rfl, trivial⟩ (fun e => ?_)
  refine c_seq (fun K4 hK4 => ?_)
  refine c_reg ?_ -- region 3 class.go:30
  refine wl (ro_loadAggB rfl ag_87 (hA) rfl rfl) ?_
  refine wl (ro_loadAggB rfl ag_87 (hB) rfl rfl) ?_
  refine wl_call rfl en_140 (Join140) ?_
  rintro _ w8 ⟨rfl, F8⟩
  replace hF := hF.thenDrew.thenN F8
  replace hM := F8.blkN hM
  replace hA := F8.blkN hA
  replace hB := F8.blkN hB
  refine wl_puta rfl rfl (by simp [Value.oneCell', i64c, u64c, u8c, ptr]) sz_87 (rfl) hA ((by simp)) (rfl) (fun w9 hA F9 => ?_)
  replace hF := hF.thenDrew.thenO F9 (by first | exact .inr (by omega) | exact .inl rfl | exact .inl (by assumption))
  replace hM := F9.blkO hM (by omega)
  replace hB := F9.blkO hB (by omega)
  refine wl_nil (x_then (hK4 _ _ ?_))
  clear hK4 K4
  refine forget [(0, _), (1, _), (2, _)] ⟨rfl, rfl, rfl, trivial⟩ (fun e => ?_)
  refine c_seq (fun K5 hK5 => ?_)
  refine c_reg ?_ -- region 4 class.go:31
  refine wl_call rfl en_128 (between128 (lo := 97) (hi := 122)) ?_
  rintro _ w10 ⟨rfl, F10⟩
  replace hF := hF.thenDrew.thenN F10
  replace hM := F10.blkN hM
  replace hA := F10.blkN hA
  replace hB := F10.blkN hB
  refine wl_puta rfl rfl (by simp [Value.oneCell', i64c, u64c, u8c, ptr]) sz_87 (rfl) hB ((by simp)) (rfl) (fun w11 hB F11 => ?_)
  replace hF := hF.thenDrew.thenO F11 (by first | exact .inr (by omega) | exact .inl rfl | exact .inl (by assumption))
  replace hM := F11.blkO hM (by omega)
  replace hA := F11.blkO hA (by omega)
  refine wl_nil (x_then (hK5 _ _ ?_))
  clear hK5 K5
  refine forget [(0, _), (1, _), (2, _)] ⟨rfl, rfl, rfl, trivial⟩ (fun e => ?_)
  refine c_seq (fun K6 hK6 => ?_)
  refine c_reg ?_ -- region 5 class.go:32
  refine wl (ro_loadAggB rfl ag_87 (hA) rfl rfl) ?_
  refine wl (ro_loadAggB rfl ag_87 (hB) rfl rfl) ?_
  refine wl_call rfl en_140 (Join140) ?_
  rintro _ w12 ⟨rfl, F12⟩
  replace hF := hF.thenDrew.thenN F12
  replace hM := F12.blkN hM
  replace hA := F12.blkN hA
  replace hB := F12.blkN hB
  refine wl_puta rfl rfl (by simp [Value.oneCell', i64c, u64c, u8c, ptr]) sz_87 (rfl) hA ((by simp)) (rfl) (fun w13 hA F13 => ?_)
  replace hF := hF.thenDrew.thenO F13 (by first | exact .inr (by omega) | exact .inl rfl | exact .inl (by assumption))
  replace hM := F13.blkO hM (by omega)
  replace hB := F13.blkO hB (by omega)
  refine wl_nil (x_then (hK6 _ _ ?_))
  clear hK6 K6
  refine forget [(0, _), (1, _), (2, _)] ⟨rfl, rfl, rfl, trivial⟩ (fun e => ?_)
  refine c_seq (fun K7 hK7 => ?_)
  refine c_reg ?_ -- region 6 class.go:33
  refine wl_call rfl en_128 (between128 (lo := 95) (hi := 95)) ?_
  rintro _ w14 ⟨rfl, F14⟩
  replace hF := hF.thenDrew.thenN F14
  replace hM := F14.blkN hM
  replace hA := F14.blkN hA
  replace hB := F14.blkN hB
  refine wl_puta rfl rfl (by simp [Value.oneCell', i64c, u64c, u8c, ptr]) sz_87 (rfl) hB ((by simp)) (rfl) (fun w15 hB F15 => ?_)
  replace hF := hF.thenDrew.thenO F15 (by first | exact .inr (by omega) | exact .inl rfl | exact .inl (by assumption))
  replace hM := F15.blkO hM (by omega)
  replace hA := F15.blkO hA (by omega)
  refine wl_nil (x_then (hK7 _ _ ?_))
  clear hK7 K7
  refine forget [(0, _), (1, _), (2, _)] ⟨rfl, rfl, rfl, trivial⟩ (fun e => ?_)
  refine c_seq (fun K8 hK8 => ?_)
  refine c_reg ?_ -- region 7 class.go:34
  refine wl (ro_loadAggB rfl ag_87 (hA) rfl rfl) ?_
  refine wl (ro_loadAggB rfl ag_87 (hB) rfl rfl) ?_
  refine wl_call rfl en_140 (Join140) ?_
  rintro _ w16 ⟨rfl, F16⟩
  replace hF := hF.thenDrew.thenN F16
  replace hM := F16.blkN hM
  replace hA := F16.blkN hA
  replace hB := F16.blkN hB
  refine wl_puta rfl rfl (by simp [Value.oneCell', i64c, u64c, u8c, ptr]) sz_87 (rfl) hM ((by simp)) (rfl) (fun w17 hM F17 => ?_)
  replace hF := hF.thenDrew.thenO F17 (by first | exact .inr (by omega) | exact .inl rfl | exact .inl (by assumption))
  replace hA := F17.blkO hA (by omega)
  replace hB := F17.blkO hB (by omega)
  refine wl_nil (x_then (hK8 _ _ ?_))
  clear hK8 K8
  refine c_ret ?_
  refine bq_ret (res1 Tryz.results149 (rv_c rfl ag_87 (hM) rfl)) ?_
  exact ⟨rfl, hF⟩

theorem blanks150 {w : World} : Ret Tryz.prog 150 [] w (fun r w' => r = setV blankS ∧ Fram none' w w') := by
  have hF : Fram none' w w := Fram.refl _ _
  refine ret_of Tryz.func150 rfl Tryz.ntmps150 rfl ?_
  refine c_seq (fun K1 hK1 => ?_)
  refine c_reg ?_ -- region 0 class.go:37
  refine wl_new (ze_87) (fun mb w1 hbmb hM F1 => ?_)
  have hbsmb := Nat.le_trans hF.size hbmb
  replace hF := hF.thenDrew.thenN F1
  refine wl_nil (x_then (hK1 _ _ ?_))
  clear hK1 K1
  refine forget [(0, _)] ⟨rfl, trivial⟩ (fun e => ?_)
  refine c_seq (fun K2 hK2 => ?_)
  refine c_reg ?_ -- region 1 class.go:38
  refine wl_call rfl en_128 (between128 (lo := 9) (hi := 10)) ?_
  rintro _ w2 ⟨rfl, F2⟩
  replace hF := hF.thenDrew.thenN F2
  replace hM := F2.blkN hM
  refine wl_new (ze_87) (fun ab w3 hbab hA F3 => ?_)
  have hbsab := Nat.le_trans hF.size hbab
  have hnembab : mb < ab := Nat.lt_of_lt_of_le hM.lt hbab
  replace hF := hF.thenDrew.thenN F3
  replace hM := F3.blkN hM
  refine wl_puta rfl rfl (by simp [Value.oneCell', i64c, u64c, u8c, ptr]) sz_87 (rfl) hA ((by simp)) (rfl) (fun w4 hA F4 => ?_)
  replace hF := hF.thenDrew.thenO F4 (by first | exact .inr (by omega) | exact .inl rfl | exact .inl (by assumption))
  replace hM := F4.blkO hM (by omega)
  refine wl_nil (x_then (hK2 _ _ ?_))
  clear hK2 K2
  refine forget [(0, _), (1, _)] ⟨rfl, rfl, trivial⟩ (fun e => ?_)
  refine c_seq (fun K3 hK3 => ?_)
  refine c_reg ?_ -- region 2 class.go:39
  refine wl_call rfl en_128 (between128 (lo := 13) (hi := 13)) ?_
  rintro _ w5 ⟨rfl, F5⟩
  replace hF := hF.thenDrew.thenN F5
  replace hM := F5.blkN hM
  replace hA := F5.blkN hA
  refine wl_new (ze_87) (fun bb w6 hbbb hB F6 => ?_)
  have hbsbb := Nat.le_trans hF.size hbbb
  have hnembbb : mb < bb := Nat.lt_of_lt_of_le hM.lt hbbb
  have hneabbb : ab < bb := Nat.lt_of_lt_of_le hA.lt hbbb
  replace hF := hF.thenDrew.thenN F6
  replace hM := F6.blkN hM
  replace hA := F6.blkN hA
  refine wl_puta rfl rfl (by simp [Value.oneCell', i64c, u64c, u8c, ptr]) sz_87 (rfl) hB ((by simp)) (rfl) (fun w7 hB F7 => ?_)
  replace hF := hF.thenDrew.thenO F7 (by first | exact .inr (by omega) | exact .inl rfl | exact .inl (by assumption))
  replace hM := F7.blkO hM (by omega)
  replace hA := F7.blkO hA (by omega)
  refine wl_nil (x_then (hK3 _ _ ?_))
  clear hK3 K3
  refine forget [(0, _), (1, _), (2, _)] ⟨rfl, rfl, rfl, trivial⟩ (fun e => ?_)
  refine c_seq (fun K4 hK4 => ?_)
  refine c_reg ?_ -- region 3 class.go:40
  refine wl (ro_loadAggB rfl ag_87 (hA) rfl rfl) ?_
  refine wl (ro_loadAggB rfl ag_87 (hB) rfl rfl) ?_
  refine wl_call rfl en_140 (Join140) ?_
  rintro _ w8 ⟨rfl, F8⟩
  replace hF := hF.thenDrew.thenN F8
  replace hM := F8.blkN hM
  replace hA := F8.blkN hA
  replace hB := F8.blkN hB
  refine wl_puta rfl rfl (by simp [Value.oneCell', i64c, u64c, u8c, ptr]) sz_87 (rfl) hA ((by simp)) (rfl) (fun w9 hA F9 => ?_)
  replace hF := hF.thenDrew.thenO F9 (by first | exact .inr (by omega) | exact .inl rfl | exact .inl (by assumption))
  replace hM := F9.blkO hM (by omega)
  replace hB := F9.blkO hB (by omega)
  refine wl_nil (x_then (hK4 _ _ ?_))
  clear hK4 K4
  refine forget [(0, _), (1, _), (2, _)] ⟨rfl, rfl, rfl, trivial⟩ (fun e => ?_)
  refine c_seq (fun K5 hK5 => ?_)
  refine c_reg ?_ -- region 4 class.go:41
  refine wl_call rfl en_128 (between128 (lo := 32) (hi := 32)) ?_
  rintro _ w10 ⟨rfl, F10⟩
  replace hF := hF.thenDrew.thenN F10
  replace hM := F10.blkN hM
  replace hA := F10.blkN hA
  replace hB := F10.blkN hB
  refine wl_puta rfl rfl (by simp [Value.oneCell', i64c, u64c, u8c, ptr]) sz_87 (rfl) hB ((by simp)) (rfl) (fun w11 hB F11 => ?_)
  replace hF := hF.thenDrew.thenO F11 (by first | exact .inr (by omega) | exact .inl rfl | exact .inl (by assumption))
  replace hM := F11.blkO hM (by omega)
  replace hA := F11.blkO hA (by omega)
  refine wl_nil (x_then (hK5 _ _ ?_))
  clear hK5 K5
  refine forget [(0, _), (1, _), (2, _)] ⟨rfl, rfl, rfl, trivial⟩ (fun e => ?_)
  refine c_seq (fun K6 hK6 => ?_)
  refine c_reg ?_ -- region 5 class.go:42
  refine wl (ro_loadAggB rfl ag_87 (hA) rfl rfl) ?_
  refine wl (ro_loadAggB rfl ag_87 (hB) rfl rfl) ?_
  refine wl_call rfl en_140 (Join140) ?_
  rintro _ w12 ⟨rfl, F12⟩
  replace hF := hF.thenDrew.thenN F12
  replace hM := F12.blkN hM
  replace hA := F12.blkN hA
  replace hB := F12.blkN hB
  refine wl_puta rfl rfl (by simp [Value.oneCell', i64c, u64c, u8c, ptr]) sz_87 (rfl) hM ((by simp)) (rfl) (fun w13 hM F13 => ?_)
  replace hF := hF.thenDrew.thenO F13 (by first | exact .inr (by omega) | exact .inl rfl | exact .inl (by assumption))
  replace hA := F13.blkO hA (by omega)
  replace hB := F13.blkO hB (by omega)
  refine wl_nil (x_then (hK6 _ _ ?_))
  clear hK6 K6
  refine c_ret ?_
  refine bq_ret (res1 Tryz.results150 (rv_c rfl ag_87 (hM) rfl)) ?_
  exact ⟨rfl, hF⟩

theorem word159 {w : World} : Ret Tryz.prog 159 [] w (fun r w' => r = setV wordS ∧ Fram none' w w') := by
  have hF : Fram none' w w := Fram.refl _ _
  refine ret_of Tryz.func159 rfl Tryz.ntmps159 rfl ?_
  refine c_seq (fun K1 hK1 => ?_)
  refine c_reg ?_ -- region 0 syntaxm.go:161
  refine wl_new (ze_87) (fun mb w1 hbmb hM F1 => ?_)
  have hbsmb := Nat.le_trans hF.size hbmb
  replace hF := hF.thenDrew.thenN F1
  refine wl_nil (x_then (hK1 _ _ ?_))
  clear hK1 K1
  refine forget [(0, _)] ⟨rfl, trivial⟩ (fun e => ?_)
  refine c_seq (fun K2 hK2 => ?_)
  refine c_reg ?_ -- region 1 syntaxm.go:162
  refine wl (ro_build rfl bld_87) ?_
  rw [zeroS]
  refine wl_call rfl en_158 (Span158 (S := 0) (lo := 48) (hi := 57)) ?_
  rintro _ w2 ⟨rfl, F2⟩
  replace hF := hF.thenDrew.thenN F2
  replace hM := F2.blkN hM
  refine wl_new (ze_87) (fun ab w3 hbab hA F3 => ?_)
  have hbsab := Nat.le_trans hF.size hbab
  have hnembab : mb < ab := Nat.lt_of_lt_of_le hM.lt hbab
  replace hF := hF.thenDrew.thenN F3
  replace hM := F3.blkN hM
  refine wl_puta rfl rfl (by simp [Value.oneCell', i64c, u64c, u8c, ptr]) sz_87 (rfl) hA ((by simp)) (rfl) (fun w4 hA F4 => ?_)
  replace hF := hF.thenDrew.thenO F4 (by first | exact .inr (by omega) | exact .inl rfl | exact .inl (by assumption))
  replace hM := F4.blkO hM (by omega)
  refine wl_nil (x_then (hK2 _ _ ?_))
  clear hK2 K2
  refine forget [(0, _), (1, _)] ⟨rfl, rfl, trivial⟩ (fun e => ?_)
  refine c_seq (fun K3 hK3 => ?_)
  refine c_reg ?_ -- region 2 syntaxm.go:163
  refine wl (ro_loadAggB rfl ag_87 (hA) rfl rfl) ?_
  refine wl_call rfl en_158 (Span158 (lo := 65) (hi := 90)) ?_
  rintro _ w5 ⟨rfl, F5⟩
  replace hF := hF.thenDrew.thenN F5
  replace hM := F5.blkN hM
  replace hA := F5.blkN hA
  refine wl_puta rfl rfl (by simp [Value.oneCell', i64c, u64c, u8c, ptr]) sz_87 (rfl) hA ((by simp)) (rfl) (fun w6 hA F6 => ?_)
  replace hF := hF.thenDrew.thenO F6 (by first | exact .inr (by omega) | exact .inl rfl | exact .inl (by assumption))
  replace hM := F6.blkO hM (by omega)
  refine wl_nil (x_then (hK3 _ _ ?_))
  clear hK3 K3
  refine forget [(0, _), (1, _)] ⟨rfl, rfl, trivial⟩ (fun e => ?_)
  refine c_seq (fun K4 hK4 => ?_)
  refine c_reg ?_ -- region 3 syntaxm.go:164
  refine wl (ro_loadAggB rfl ag_87 (hA) rfl rfl) ?_
  refine wl_call rfl en_158 (Span158 (lo := 97) (hi := 122)) ?_
  rintro _ w7 ⟨rfl, F7⟩
  replace hF := hF.thenDrew.thenN F7
  replace hM := F7.blkN hM
  replace hA := F7.blkN hA
  refine wl_puta rfl rfl (by simp [Value.oneCell', i64c, u64c, u8c, ptr]) sz_87 (rfl) hA ((by simp)) (rfl) (fun w8 hA F8 => ?_)
  replace hF := hF.thenDrew.thenO F8 (by first | exact .inr (by omega) | exact .inl rfl | exact .inl (by assumption))
  replace hM := F8.blkO hM (by omega)
  refine wl_nil (x_then (hK4 _ _ ?_))
  clear hK4 K4
  refine forget [(0, _), (1, _)] ⟨rfl, rfl, trivial⟩ (fun e => ?_)
  refine c_seq (fun K5 hK5 => ?_)
  refine c_reg ?_ -- region 4 syntaxm.go:165
  refine wl (ro_loadAggB rfl ag_87 (hA) rfl rfl) ?_
  refine wl_call rfl en_158 (Span158 (lo := 95) (hi := 95)) ?_
  rintro _ w9 ⟨rfl, F9⟩
  replace hF := hF.thenDrew.thenN F9
  replace hM := F9.blkN hM
  replace hA := F9.blkN hA
  refine wl_puta rfl rfl (by simp [Value.oneCell', i64c, u64c, u8c, ptr]) sz_87 (rfl) hM ((by simp)) (rfl) (fun w10 hM F10 => ?_)
  replace hF := hF.thenDrew.thenO F10 (by first | exact .inr (by omega) | exact .inl rfl | exact .inl (by assumption))
  replace hA := F10.blkO hA (by omega)
  refine wl_nil (x_then (hK5 _ _ ?_))
  clear hK5 K5
  refine c_ret ?_
  refine bq_ret (res1 Tryz.results159 (rv_c rfl ag_87 (hM) rfl)) ?_
  exact ⟨by rw [Nat.zero_or]; rfl, hF⟩

theorem blank160 {w : World} : Ret Tryz.prog 160 [] w (fun r w' => r = setV blankS ∧ Fram none' w w') := by
  have hF : Fram none' w w := Fram.refl _ _
  refine ret_of Tryz.func160 rfl Tryz.ntmps160 rfl ?_
  refine c_seq (fun K1 hK1 => ?_)
  refine c_reg ?_ -- region 0 syntaxm.go:168
  refine wl_new (ze_87) (fun mb w1 hbmb hM F1 => ?_)
  have hbsmb := Nat.le_trans hF.size hbmb
  replace hF := hF.thenDrew.thenN F1
  refine wl_nil (x_then (hK1 _ _ ?_))
  clear hK1 K1
  refine forget [(0, _)] ⟨rfl, trivial⟩ (fun e => ?_)
  refine c_seq (fun K2 hK2 => ?_)
  refine c_reg ?_ -- region 1 syntaxm.go:169
  refine wl (ro_build rfl bld_87) ?_
  rw [zeroS]
  refine wl_call rfl en_158 (Span158 (S := 0) (lo := 9) (hi := 10)) ?_
  rintro _ w2 ⟨rfl, F2⟩
  replace hF := hF.thenDrew.thenN F2
  replace hM := F2.blkN hM
  refine wl_new (ze_87) (fun ab w3 hbab hA F3 => ?_)
  have hbsab := Nat.le_trans hF.size hbab
  have hnembab : mb < ab := Nat.lt_of_lt_of_le hM.lt hbab
  replace hF := hF.thenDrew.thenN F3
  replace hM := F3.blkN hM
  refine wl_puta rfl rfl (by simp [Value.oneCell', i64c, u64c, u8c, ptr]) sz_87 (rfl) hA ((by simp)) (rfl) (fun w4 hA F4 => ?_)
  replace hF := hF.thenDrew.thenO F4 (by first | exact .inr (by omega) | exact .inl rfl | exact .inl (by assumption))
  replace hM := F4.blkO hM (by omega)
  refine wl_nil (x_then (hK2 _ _ ?_))
  clear hK2 K2
  refine forget [(0, _), (1, _)] ⟨rfl, rfl, trivial⟩ (fun e => ?_)
  refine c_seq (fun K3 hK3 => ?_)
  refine c_reg ?_ -- region 2 syntaxm.go:170
  refine wl (ro_loadAggB rfl ag_87 (hA) rfl rfl) ?_
  refine wl_call rfl en_158 (Span158 (lo := 13) (hi := 13)) ?_
  rintro _ w5 ⟨rfl, F5⟩
  replace hF := hF.thenDrew.thenN F5
  replace hM := F5.blkN hM
  replace hA := F5.blkN hA
  refine wl_puta rfl rfl (by simp [Value.oneCell', i64c, u64c, u8c, ptr]) sz_87 (rfl) hA ((by simp)) (rfl) (fun w6 hA F6 => ?_)
  replace hF := hF.thenDrew.thenO F6 (by first | exact .inr (by omega) | exact .inl rfl | exact .inl (by assumption))
  replace hM := F6.blkO hM (by omega)
  refine wl_nil (x_then (hK3 _ _ ?_))
  clear hK3 K3
  refine forget [(0, _), (1, _)] ⟨rfl, rfl, trivial⟩ (fun e => ?_)
  refine c_seq (fun K4 hK4 => ?_)
  refine c_reg ?_ -- region 3 syntaxm.go:171
  refine wl (ro_loadAggB rfl ag_87 (hA) rfl rfl) ?_
  refine wl_call rfl en_158 (Span158 (lo := 32) (hi := 32)) ?_
  rintro _ w7 ⟨rfl, F7⟩
  replace hF := hF.thenDrew.thenN F7
  replace hM := F7.blkN hM
  replace hA := F7.blkN hA
  refine wl_puta rfl rfl (by simp [Value.oneCell', i64c, u64c, u8c, ptr]) sz_87 (rfl) hM ((by simp)) (rfl) (fun w8 hM F8 => ?_)
  replace hF := hF.thenDrew.thenO F8 (by first | exact .inr (by omega) | exact .inl rfl | exact .inl (by assumption))
  replace hA := F8.blkO hA (by omega)
  refine wl_nil (x_then (hK4 _ _ ?_))
  clear hK4 K4
  refine c_ret ?_
  refine bq_ret (res1 Tryz.results160 (rv_c rfl ag_87 (hM) rfl)) ?_
  exact ⟨by rw [Nat.zero_or]; rfl, hF⟩

end Go.Proofs.Qxb6500567aGreat
