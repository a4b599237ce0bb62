import Derived.Test.Qxb6500570aGreatGe
import Derived.Test.Qxb6500570aGreatFz
import Derived.Test.Qxb6500570aGreatPz
/- Lawful trees: named. -/
namespace Go.Proofs.Qxb6500570aGreat
set_option linter.unusedVariables false
set_option linter.unusedSimpArgs false

abbrev ndV (x : Nd) : Value := .agg (ndc x).toArray
set_option maxHeartbeats 4000000 in
theorem named197 {w : World} {x : Nd} : Ret Tryz.prog 197 [ndV x] w (fun v w' => v = ndV (nmF x) ∧ Fram none' w w') := by
  have hF : Fram none' w w := Fram.refl _ _
  refine ret_of Tryz.func197 rfl Tryz.ntmps197 rfl ?_
  refine c_seq (fun K1 hK1 => ?_)
  refine c_reg ?_ -- region 0 eval.go:6
  refine wl_box (cs := (ndc x)) rfl rfl (fun b1 w1 hbb1 h1 F1 => ?_)
  have hbsb1 := Nat.le_trans hF.size hbb1
  replace hF := hF.thenDrew.thenN F1
  refine wl_new (ze_143) (fun b2 w2 hbb2 h2 F2 => ?_)
  have hbsb2 := Nat.le_trans hF.size hbb2
  have hneb1b2 : b1 < b2 := Nat.lt_of_lt_of_le h1.lt hbb2
  replace hF := hF.thenDrew.thenN F2
  replace h1 := F2.blkN h1
  refine wl_nil (x_then (hK1 _ _ ?_))
  clear hK1 K1
  refine forget [(1, _), (2, _)] ⟨rfl, rfl, trivial⟩ (fun e => ?_)
  refine c_seq (fun K2 hK2 => ?_)
  refine c_reg ?_ -- region 1 eval.go:7
  refine wl (ro_fieldAddr (k := 0) rfl fo_143_0) ?_
  refine wl (ro_loadB rfl sc_3 (by assumption) rfl) ?_
  refine wl (ro_build rfl bld_143_0_2_3) ?_
  refine wl_new (ze_143) (fun b3 w3 hbb3 h3 F3 => ?_)
  have hbsb3 := Nat.le_trans hF.size hbb3
  have hneb1b3 : b1 < b3 := Nat.lt_of_lt_of_le h1.lt hbb3
  have hneb2b3 : b2 < b3 := Nat.lt_of_lt_of_le h2.lt hbb3
  replace hF := hF.thenDrew.thenN F3
  replace h1 := F3.blkN h1
  replace h2 := F3.blkN h2
  refine wl_puta rfl rfl ((ndc_cells ⟨x.k, 0, -1, -1, 0, zR, zR⟩)) sz_143 (rfl) h3 ((by simp)) ((show _ = ndc ⟨x.k, 0, -1, -1, 0, zR, zR⟩ from rfl)) (fun w4 h3 F4 => ?_)
  replace hF := hF.thenDrew.thenO F4 (by first | exact .inr (by omega) | exact .inl rfl | exact .inl (by assumption))
  replace h1 := F4.blkO h1 (by omega)
  replace h2 := F4.blkO h2 (by omega)
  refine wl_nil (x_then (hK2 _ _ ?_))
  clear hK2 K2
  refine c_seq (fun K3 hK3 => ?_)
  refine c_seq (fun K4 hK4 => ?_)
  refine c_reg ?_ -- region 2 eval.go:8
  refine wl (ro_fieldAddr (k := 0) rfl fo_143_0) ?_
  refine wl (ro_loadB rfl sc_3 (by assumption) rfl) ?_
  refine wl_nil (x_then (hK4 _ _ ?_))
  clear hK4 K4
  refine c_block ?_
  refine c_mid (fun a' w' => Fram none' w w' ∧ Blk w'.heap b1 (ndc x) 143 ∧ Blk w'.heap b2 (ndc ⟨0, 0, 0, 0, 0, zR, zR⟩) 143 ∧ Blk w'.heap b3 (ndc ⟨x.k, 0, -1, -1, 0, zR, zR⟩) 143 ∧ ∃ e, a' = Fr 64 (upds e [(1, ptr b1), (2, ptr b2), (3, ptr b3), (8, icv x.k), (9, .bool (decide (x.k = 1 ∨ x.k = 2)))]) []) ?_ ?_
  · skip
    refine c_seq (fun K5 hK5 => ?_)
    refine c_reg ?_ -- region 3 eval.go:9
    refine wl (ro_cmp rfl rfl rfl) ?_
    refine wl (ro_assign rfl) ?_
    refine wl_nil (x_then (hK5 _ _ ?_))
    clear hK5 K5
    refine wc_cond rfl (fun hc9 => ?_) (fun hc9 => ?_)
    · try simp only [decide_eq_true_eq, decide_eq_false_iff_not, Bool.not_eq_true', Bool.not_eq_false', Bool.not_eq_eq_eq_not, Bool.not_true, Bool.not_false, beq_iff_eq, bne_iff_ne, ne_eq, beq_eq_false_iff_ne, bne_eq_false_iff_eq, gt_iff_lt, ge_iff_le, Int.not_lt, Int.not_le] at hc9
      refine c_skip (x_then ?_)
      first
        | exact ⟨hF, h1, h2, h3, kp _ ⟨rfl, rfl, rfl, rfl, congrArg some (congrArg Value.bool (by rw [Bool.eq_iff_iff]; simp [hc9])), trivial⟩⟩
        | exact ⟨hF, h1, h2, h3, kp _ ⟨rfl, rfl, rfl, rfl, congrArg some (congrArg Value.bool (by rw [Bool.eq_iff_iff]; simp; omega)), trivial⟩⟩
    · try simp only [decide_eq_true_eq, decide_eq_false_iff_not, Bool.not_eq_true', Bool.not_eq_false', Bool.not_eq_eq_eq_not, Bool.not_true, Bool.not_false, beq_iff_eq, bne_iff_ne, ne_eq, beq_eq_false_iff_ne, bne_eq_false_iff_eq, gt_iff_lt, ge_iff_le, Int.not_lt, Int.not_le] at hc9
      refine c_reg ?_ -- region 4 eval.go:9
      refine wl (ro_cmp rfl rfl rfl) ?_
      refine wl (ro_assign rfl) ?_
      refine wl_nil (x_then ?_)
      first
        | exact ⟨hF, h1, h2, h3, kp _ ⟨rfl, rfl, rfl, rfl, congrArg some (congrArg Value.bool (by rw [Bool.eq_iff_iff]; simp [hc9])), trivial⟩⟩
        | exact ⟨hF, h1, h2, h3, kp _ ⟨rfl, rfl, rfl, rfl, congrArg some (congrArg Value.bool (by rw [Bool.eq_iff_iff]; simp; omega)), trivial⟩⟩
  have hn1 : b1 < b2 := by assumption
  have hn2 : b1 < b3 := by assumption
  have hn3 : b2 < b3 := by assumption
  clear hF h1 h2 h3
  rintro a' u3 ⟨hF, h1, h2, h3, e, rfl⟩
  refine wc_cond rfl (fun hc9 => ?_) (fun hc9 => ?_)
  · try simp only [decide_eq_true_eq, decide_eq_false_iff_not, Bool.not_eq_true', Bool.not_eq_false', Bool.not_eq_eq_eq_not, Bool.not_true, Bool.not_false, beq_iff_eq, bne_iff_ne, ne_eq, beq_eq_false_iff_ne, bne_eq_false_iff_eq, gt_iff_lt, ge_iff_le, Int.not_lt, Int.not_le] at hc9
    refine c_reg ?_ -- region 5 eval.go:10
    refine wl (ro_fieldAddr (k := 4) rfl fo_143_4) ?_
    refine wl (ro_loadB rfl sc_3 (by assumption) rfl) ?_
    refine wl (ro_fieldAddr (k := 4) rfl fo_143_4) ?_
    refine wl_put rfl rfl rfl sz_3 h3 ((by simp)) ((show _ = ndc ⟨x.k, 0, -1, -1, x.n, zR, zR⟩ from rfl)) (fun w5 h3 F5 => ?_)
    replace hF := hF.thenDrew.thenO F5 (by first | exact .inr (by omega) | exact .inl rfl | exact .inl (by assumption))
    replace h1 := F5.blkO h1 (by omega)
    replace h2 := F5.blkO h2 (by omega)
    refine wl_nil (x_blk (x_then (hK3 _ _ ?_)))
    clear hK3 K3
    refine forget [(2, _), (3, _)] ⟨rfl, rfl, trivial⟩ (fun e => ?_)
    refine c_seq (fun K6 hK6 => ?_)
    refine c_reg ?_ -- region 18 eval.go:24
    refine wl (ro_loadAggB rfl ag_143 (by assumption) rfl rfl) ?_
    refine wl_puta rfl rfl ((ndc_cells _)) sz_143 (rfl) h2 ((by simp)) (rfl) (fun w6 h2 F6 => ?_)
    replace hF := hF.thenDrew.thenO F6 (by first | exact .inr (by omega) | exact .inl rfl | exact .inl (by assumption))
    replace h1 := F6.blkO h1 (by omega)
    replace h3 := F6.blkO h3 (by omega)
    refine wl_nil (x_then (hK6 _ _ ?_))
    clear hK6 K6
    refine c_ret ?_
    refine bq_ret (res1 Tryz.results197 (rv_c rfl ag_143 (h2) rfl)) ?_
    exact ⟨by unfold nmF; rw [if_pos hc9]; rfl, hF⟩
  · try simp only [decide_eq_true_eq, decide_eq_false_iff_not, Bool.not_eq_true', Bool.not_eq_false', Bool.not_eq_eq_eq_not, Bool.not_true, Bool.not_false, beq_iff_eq, bne_iff_ne, ne_eq, beq_eq_false_iff_ne, bne_eq_false_iff_eq, gt_iff_lt, ge_iff_le, Int.not_lt, Int.not_le] at hc9
    refine c_seq (fun K7 hK7 => ?_)
    refine c_reg ?_ -- region 6 eval.go:11
    refine wl (ro_cmp rfl rfl rfl) ?_
    refine wl (ro_assign rfl) ?_
    refine wl_nil (x_then (hK7 _ _ ?_))
    clear hK7 K7
    refine wc_cond rfl (fun hc15 => ?_) (fun hc15 => ?_)
    · try simp only [decide_eq_true_eq, decide_eq_false_iff_not, Bool.not_eq_true', Bool.not_eq_false', Bool.not_eq_eq_eq_not, Bool.not_true, Bool.not_false, beq_iff_eq, bne_iff_ne, ne_eq, beq_eq_false_iff_ne, bne_eq_false_iff_eq, gt_iff_lt, ge_iff_le, Int.not_lt, Int.not_le] at hc15
      refine c_reg ?_ -- region 7 eval.go:12
      refine wl (ro_fieldAddr (k := 5) rfl fo_143_5) ?_
      refine wl (ro_loadAggB rfl ag_141 (by assumption) rfl rfl) ?_
      refine wl (ro_fieldAddr (k := 5) rfl fo_143_5) ?_
      refine wl_puta rfl rfl ((refc_cells x.p)) sz_141 (rfl) h3 ((by simp)) ((show _ = ndc ⟨x.k, 0, -1, -1, 0, x.p, zR⟩ from rfl)) (fun w7 h3 F7 => ?_)
      replace hF := hF.thenDrew.thenO F7 (by first | exact .inr (by omega) | exact .inl rfl | exact .inl (by assumption))
      replace h1 := F7.blkO h1 (by omega)
      replace h2 := F7.blkO h2 (by omega)
      refine wl_nil (x_blk (x_then (hK3 _ _ ?_)))
      clear hK3 K3
      refine forget [(2, _), (3, _)] ⟨rfl, rfl, trivial⟩ (fun e => ?_)
      refine c_seq (fun K8 hK8 => ?_)
      refine c_reg ?_ -- region 18 eval.go:24
      refine wl (ro_loadAggB rfl ag_143 (by assumption) rfl rfl) ?_
      refine wl_puta rfl rfl ((ndc_cells _)) sz_143 (rfl) h2 ((by simp)) (rfl) (fun w8 h2 F8 => ?_)
      replace hF := hF.thenDrew.thenO F8 (by first | exact .inr (by omega) | exact .inl rfl | exact .inl (by assumption))
      replace h1 := F8.blkO h1 (by omega)
      replace h3 := F8.blkO h3 (by omega)
      refine wl_nil (x_then (hK8 _ _ ?_))
      clear hK8 K8
      refine c_ret ?_
      refine bq_ret (res1 Tryz.results197 (rv_c rfl ag_143 (h2) rfl)) ?_
      exact ⟨by unfold nmF; rw [if_neg (by omega), if_pos (by omega)]; rfl, hF⟩
    · try simp only [decide_eq_true_eq, decide_eq_false_iff_not, Bool.not_eq_true', Bool.not_eq_false', Bool.not_eq_eq_eq_not, Bool.not_true, Bool.not_false, beq_iff_eq, bne_iff_ne, ne_eq, beq_eq_false_iff_ne, bne_eq_false_iff_eq, gt_iff_lt, ge_iff_le, Int.not_lt, Int.not_le] at hc15
      refine c_seq (fun K9 hK9 => ?_)
      refine c_reg ?_ -- region 8 eval.go:13
      refine wl (ro_cmp rfl rfl rfl) ?_
      refine wl (ro_assign rfl) ?_
      refine wl_nil (x_then (hK9 _ _ ?_))
      clear hK9 K9
      refine wc_cond rfl (fun hc20 => ?_) (fun hc20 => ?_)
      · try simp only [decide_eq_true_eq, decide_eq_false_iff_not, Bool.not_eq_true', Bool.not_eq_false', Bool.not_eq_eq_eq_not, Bool.not_true, Bool.not_false, beq_iff_eq, bne_iff_ne, ne_eq, beq_eq_false_iff_ne, bne_eq_false_iff_eq, gt_iff_lt, ge_iff_le, Int.not_lt, Int.not_le] at hc20
        refine c_piL 7 [(0, false), (1, false), (2, false), (3, false), (4, false), (5, true), (6, false)] (fun w' => Blk w'.heap b1 (ndc x) 143) mixed (by kernel_rfl) rfl (by kernel_rfl) (po_blk (po_then (po_bp))) (h1) ?_ -- region 9 eval.go:14
        refine ql_ro rfl (fun w hS => ro_fieldAddr (k := 5) rfl fo_143_5) ?_
        refine ql_ro rfl (fun w hS => ro_loadAggB rfl ag_141 (hS) (rfl) (rfl)) ?_
        refine ql_ro rfl (fun w hS => ro_fieldAddr (k := 9) rfl fo_143_6) ?_
        refine ql_ro rfl (fun w hS => ro_loadAggB rfl ag_141 (hS) (rfl) (rfl)) ?_
        refine ql_ro rfl (fun w hS => ro_fieldAddr (k := 5) rfl fo_143_5) ?_
        refine ql_putam rfl rfl rfl ((refc_cells x.p)) sz_141 rfl h3 ((by simp)) ((show _ = ndc ⟨x.k, 0, -1, -1, 0, x.p, zR⟩ from rfl)) (fun w1 hB1 F ↦ (F.blkO h1 (by omega))) (fun w9 h3 F9 => ?_)
        replace hF := hF.thenDrew.thenO F9 (by first | exact .inr (by omega) | exact .inl rfl | exact .inl (by assumption))
        replace h1 := F9.blkO h1 (by omega)
        replace h2 := F9.blkO h2 (by omega)
        refine ql_ro rfl (fun w hS => ro_fieldAddr (k := 9) rfl fo_143_6) ?_
        refine ql_puta rfl rfl rfl ((refc_cells x.q)) sz_141 (rfl) h3 ((by simp)) ((show _ = ndc ⟨x.k, 0, -1, -1, 0, x.p, x.q⟩ from rfl)) (fun w10 h3 F10 => ?_)
        replace hF := hF.thenDrew.thenO F10 (by first | exact .inr (by omega) | exact .inl rfl | exact .inl (by assumption))
        replace h1 := F10.blkO h1 (by omega)
        replace h2 := F10.blkO h2 (by omega)
        refine x_blk (x_then (hK3 _ _ ?_))
        clear hK3 K3
        refine forget [(2, _), (3, _)] ⟨rfl, rfl, trivial⟩ (fun e => ?_)
        refine c_seq (fun K10 hK10 => ?_)
        refine c_reg ?_ -- region 18 eval.go:24
        refine wl (ro_loadAggB rfl ag_143 (by assumption) rfl rfl) ?_
        refine wl_puta rfl rfl ((ndc_cells _)) sz_143 (rfl) h2 ((by simp)) (rfl) (fun w11 h2 F11 => ?_)
        replace hF := hF.thenDrew.thenO F11 (by first | exact .inr (by omega) | exact .inl rfl | exact .inl (by assumption))
        replace h1 := F11.blkO h1 (by omega)
        replace h3 := F11.blkO h3 (by omega)
        refine wl_nil (x_then (hK10 _ _ ?_))
        clear hK10 K10
        refine c_ret ?_
        refine bq_ret (res1 Tryz.results197 (rv_c rfl ag_143 (h2) rfl)) ?_
        exact ⟨by unfold nmF; rw [if_neg (by omega), if_neg (by omega), if_pos (by omega)]; rfl, hF⟩
      · try simp only [decide_eq_true_eq, decide_eq_false_iff_not, Bool.not_eq_true', Bool.not_eq_false', Bool.not_eq_eq_eq_not, Bool.not_true, Bool.not_false, beq_iff_eq, bne_iff_ne, ne_eq, beq_eq_false_iff_ne, bne_eq_false_iff_eq, gt_iff_lt, ge_iff_le, Int.not_lt, Int.not_le] at hc20
        refine c_seq (fun K11 hK11 => ?_)
        refine c_reg ?_ -- region 10 eval.go:15
        refine wl (ro_cmp rfl rfl rfl) ?_
        refine wl (ro_assign rfl) ?_
        refine wl_nil (x_then (hK11 _ _ ?_))
        clear hK11 K11
        refine wc_cond rfl (fun hc28 => ?_) (fun hc28 => ?_)
        · try simp only [decide_eq_true_eq, decide_eq_false_iff_not, Bool.not_eq_true', Bool.not_eq_false', Bool.not_eq_eq_eq_not, Bool.not_true, Bool.not_false, beq_iff_eq, bne_iff_ne, ne_eq, beq_eq_false_iff_ne, bne_eq_false_iff_eq, gt_iff_lt, ge_iff_le, Int.not_lt, Int.not_le] at hc28
          refine c_reg ?_ -- region 11 eval.go:16
          refine wl (ro_fieldAddr (k := 2) rfl fo_143_2) ?_
          refine wl (ro_loadB rfl sc_3 (by assumption) rfl) ?_
          refine wl (ro_fieldAddr (k := 2) rfl fo_143_2) ?_
          refine wl_put rfl rfl rfl sz_3 h3 ((by simp)) ((show _ = ndc ⟨x.k, 0, x.a, -1, 0, zR, zR⟩ from rfl)) (fun w12 h3 F12 => ?_)
          replace hF := hF.thenDrew.thenO F12 (by first | exact .inr (by omega) | exact .inl rfl | exact .inl (by assumption))
          replace h1 := F12.blkO h1 (by omega)
          replace h2 := F12.blkO h2 (by omega)
          refine wl_nil (x_blk (x_then (hK3 _ _ ?_)))
          clear hK3 K3
          refine forget [(2, _), (3, _)] ⟨rfl, rfl, trivial⟩ (fun e => ?_)
          refine c_seq (fun K12 hK12 => ?_)
          refine c_reg ?_ -- region 18 eval.go:24
          refine wl (ro_loadAggB rfl ag_143 (by assumption) rfl rfl) ?_
          refine wl_puta rfl rfl ((ndc_cells _)) sz_143 (rfl) h2 ((by simp)) (rfl) (fun w13 h2 F13 => ?_)
          replace hF := hF.thenDrew.thenO F13 (by first | exact .inr (by omega) | exact .inl rfl | exact .inl (by assumption))
          replace h1 := F13.blkO h1 (by omega)
          replace h3 := F13.blkO h3 (by omega)
          refine wl_nil (x_then (hK12 _ _ ?_))
          clear hK12 K12
          refine c_ret ?_
          refine bq_ret (res1 Tryz.results197 (rv_c rfl ag_143 (h2) rfl)) ?_
          exact ⟨by unfold nmF; rw [if_neg (by omega), if_neg (by omega), if_neg (by omega), if_pos (by omega)]; rfl, hF⟩
        · try simp only [decide_eq_true_eq, decide_eq_false_iff_not, Bool.not_eq_true', Bool.not_eq_false', Bool.not_eq_eq_eq_not, Bool.not_true, Bool.not_false, beq_iff_eq, bne_iff_ne, ne_eq, beq_eq_false_iff_ne, bne_eq_false_iff_eq, gt_iff_lt, ge_iff_le, Int.not_lt, Int.not_le] at hc28
          refine c_seq (fun K13 hK13 => ?_)
          refine c_reg ?_ -- region 12 eval.go:17
          refine wl (ro_cmp rfl rfl rfl) ?_
          refine wl (ro_assign rfl) ?_
          refine wl_nil (x_then (hK13 _ _ ?_))
          clear hK13 K13
          refine wc_cond rfl (fun hc33 => ?_) (fun hc33 => ?_)
          · try simp only [decide_eq_true_eq, decide_eq_false_iff_not, Bool.not_eq_true', Bool.not_eq_false', Bool.not_eq_eq_eq_not, Bool.not_true, Bool.not_false, beq_iff_eq, bne_iff_ne, ne_eq, beq_eq_false_iff_ne, bne_eq_false_iff_eq, gt_iff_lt, ge_iff_le, Int.not_lt, Int.not_le] at hc33
            refine c_piL 11 [(0, false), (1, false), (2, false), (3, false), (4, false), (5, false), (6, false), (7, true), (8, false), (9, true), (10, false)] (fun w' => Blk w'.heap b1 (ndc x) 143) mixed (by kernel_rfl) rfl (by kernel_rfl) (po_blk (po_then (po_bp))) (h1) ?_ -- region 13 eval.go:18
            refine ql_ro rfl (fun w hS => ro_fieldAddr (k := 1) rfl fo_143_1) ?_
            refine ql_ro rfl (fun w hS => ro_loadB rfl sc_3 (hS) (rfl)) ?_
            refine ql_ro rfl (fun w hS => ro_fieldAddr (k := 2) rfl fo_143_2) ?_
            refine ql_ro rfl (fun w hS => ro_loadB rfl sc_3 (hS) (rfl)) ?_
            refine ql_ro rfl (fun w hS => ro_fieldAddr (k := 3) rfl fo_143_3) ?_
            refine ql_ro rfl (fun w hS => ro_loadB rfl sc_3 (hS) (rfl)) ?_
            refine ql_ro rfl (fun w hS => ro_fieldAddr (k := 1) rfl fo_143_1) ?_
            refine ql_putm rfl rfl rfl rfl sz_3 h3 ((by simp)) ((show _ = ndc ⟨x.k, x.o, -1, -1, 0, zR, zR⟩ from rfl)) (fun w1 hB1 F ↦ (F.blkO h1 (by omega))) (fun w14 h3 F14 => ?_)
            replace hF := hF.thenDrew.thenO F14 (by first | exact .inr (by omega) | exact .inl rfl | exact .inl (by assumption))
            replace h1 := F14.blkO h1 (by omega)
            replace h2 := F14.blkO h2 (by omega)
            refine ql_ro rfl (fun w hS => ro_fieldAddr (k := 2) rfl fo_143_2) ?_
            refine ql_putm rfl rfl rfl rfl sz_3 h3 ((by simp)) ((show _ = ndc ⟨x.k, x.o, x.a, -1, 0, zR, zR⟩ from rfl)) (fun w1 hB1 F ↦ (F.blkO h1 (by omega))) (fun w15 h3 F15 => ?_)
            replace hF := hF.thenDrew.thenO F15 (by first | exact .inr (by omega) | exact .inl rfl | exact .inl (by assumption))
            replace h1 := F15.blkO h1 (by omega)
            replace h2 := F15.blkO h2 (by omega)
            refine ql_ro rfl (fun w hS => ro_fieldAddr (k := 3) rfl fo_143_3) ?_
            refine ql_put rfl rfl rfl rfl sz_3 h3 ((by simp)) ((show _ = ndc ⟨x.k, x.o, x.a, x.b, 0, zR, zR⟩ from rfl)) (fun w16 h3 F16 => ?_)
            replace hF := hF.thenDrew.thenO F16 (by first | exact .inr (by omega) | exact .inl rfl | exact .inl (by assumption))
            replace h1 := F16.blkO h1 (by omega)
            replace h2 := F16.blkO h2 (by omega)
            refine x_blk (x_then (hK3 _ _ ?_))
            clear hK3 K3
            refine forget [(2, _), (3, _)] ⟨rfl, rfl, trivial⟩ (fun e => ?_)
            refine c_seq (fun K14 hK14 => ?_)
            refine c_reg ?_ -- region 18 eval.go:24
            refine wl (ro_loadAggB rfl ag_143 (by assumption) rfl rfl) ?_
            refine wl_puta rfl rfl ((ndc_cells _)) sz_143 (rfl) h2 ((by simp)) (rfl) (fun w17 h2 F17 => ?_)
            replace hF := hF.thenDrew.thenO F17 (by first | exact .inr (by omega) | exact .inl rfl | exact .inl (by assumption))
            replace h1 := F17.blkO h1 (by omega)
            replace h3 := F17.blkO h3 (by omega)
            refine wl_nil (x_then (hK14 _ _ ?_))
            clear hK14 K14
            refine c_ret ?_
            refine bq_ret (res1 Tryz.results197 (rv_c rfl ag_143 (h2) rfl)) ?_
            exact ⟨by unfold nmF; rw [if_neg (by omega), if_neg (by omega), if_neg (by omega), if_neg (by omega), if_pos (by omega)]; rfl, hF⟩
          · try simp only [decide_eq_true_eq, decide_eq_false_iff_not, Bool.not_eq_true', Bool.not_eq_false', Bool.not_eq_eq_eq_not, Bool.not_true, Bool.not_false, beq_iff_eq, bne_iff_ne, ne_eq, beq_eq_false_iff_ne, bne_eq_false_iff_eq, gt_iff_lt, ge_iff_le, Int.not_lt, Int.not_le] at hc33
            refine c_seq (fun K15 hK15 => ?_)
            refine c_reg ?_ -- region 14 eval.go:19
            refine wl (ro_cmp rfl rfl rfl) ?_
            refine wl (ro_assign rfl) ?_
            refine wl_nil (x_then (hK15 _ _ ?_))
            clear hK15 K15
            refine wc_cond rfl (fun hc44 => ?_) (fun hc44 => ?_)
            · try simp only [decide_eq_true_eq, decide_eq_false_iff_not, Bool.not_eq_true', Bool.not_eq_false', Bool.not_eq_eq_eq_not, Bool.not_true, Bool.not_false, beq_iff_eq, bne_iff_ne, ne_eq, beq_eq_false_iff_ne, bne_eq_false_iff_eq, gt_iff_lt, ge_iff_le, Int.not_lt, Int.not_le] at hc44
              refine c_piL 11 [(0, false), (1, false), (2, false), (3, false), (4, false), (5, false), (6, false), (7, true), (8, false), (9, true), (10, false)] (fun w' => Blk w'.heap b1 (ndc x) 143) mixed (by kernel_rfl) rfl (by kernel_rfl) (po_blk (po_then (po_bp))) (h1) ?_ -- region 15 eval.go:20
              refine ql_ro rfl (fun w hS => ro_fieldAddr (k := 1) rfl fo_143_1) ?_
              refine ql_ro rfl (fun w hS => ro_loadB rfl sc_3 (hS) (rfl)) ?_
              refine ql_ro rfl (fun w hS => ro_fieldAddr (k := 2) rfl fo_143_2) ?_
              refine ql_ro rfl (fun w hS => ro_loadB rfl sc_3 (hS) (rfl)) ?_
              refine ql_ro rfl (fun w hS => ro_fieldAddr (k := 4) rfl fo_143_4) ?_
              refine ql_ro rfl (fun w hS => ro_loadB rfl sc_3 (hS) (rfl)) ?_
              refine ql_ro rfl (fun w hS => ro_fieldAddr (k := 1) rfl fo_143_1) ?_
              refine ql_putm rfl rfl rfl rfl sz_3 h3 ((by simp)) ((show _ = ndc ⟨x.k, x.o, -1, -1, 0, zR, zR⟩ from rfl)) (fun w1 hB1 F ↦ (F.blkO h1 (by omega))) (fun w18 h3 F18 => ?_)
              replace hF := hF.thenDrew.thenO F18 (by first | exact .inr (by omega) | exact .inl rfl | exact .inl (by assumption))
              replace h1 := F18.blkO h1 (by omega)
              replace h2 := F18.blkO h2 (by omega)
              refine ql_ro rfl (fun w hS => ro_fieldAddr (k := 2) rfl fo_143_2) ?_
              refine ql_putm rfl rfl rfl rfl sz_3 h3 ((by simp)) ((show _ = ndc ⟨x.k, x.o, x.a, -1, 0, zR, zR⟩ from rfl)) (fun w1 hB1 F ↦ (F.blkO h1 (by omega))) (fun w19 h3 F19 => ?_)
              replace hF := hF.thenDrew.thenO F19 (by first | exact .inr (by omega) | exact .inl rfl | exact .inl (by assumption))
              replace h1 := F19.blkO h1 (by omega)
              replace h2 := F19.blkO h2 (by omega)
              refine ql_ro rfl (fun w hS => ro_fieldAddr (k := 4) rfl fo_143_4) ?_
              refine ql_put rfl rfl rfl rfl sz_3 h3 ((by simp)) ((show _ = ndc ⟨x.k, x.o, x.a, -1, x.n, zR, zR⟩ from rfl)) (fun w20 h3 F20 => ?_)
              replace hF := hF.thenDrew.thenO F20 (by first | exact .inr (by omega) | exact .inl rfl | exact .inl (by assumption))
              replace h1 := F20.blkO h1 (by omega)
              replace h2 := F20.blkO h2 (by omega)
              refine x_blk (x_then (hK3 _ _ ?_))
              clear hK3 K3
              refine forget [(2, _), (3, _)] ⟨rfl, rfl, trivial⟩ (fun e => ?_)
              refine c_seq (fun K16 hK16 => ?_)
              refine c_reg ?_ -- region 18 eval.go:24
              refine wl (ro_loadAggB rfl ag_143 (by assumption) rfl rfl) ?_
              refine wl_puta rfl rfl ((ndc_cells _)) sz_143 (rfl) h2 ((by simp)) (rfl) (fun w21 h2 F21 => ?_)
              replace hF := hF.thenDrew.thenO F21 (by first | exact .inr (by omega) | exact .inl rfl | exact .inl (by assumption))
              replace h1 := F21.blkO h1 (by omega)
              replace h3 := F21.blkO h3 (by omega)
              refine wl_nil (x_then (hK16 _ _ ?_))
              clear hK16 K16
              refine c_ret ?_
              refine bq_ret (res1 Tryz.results197 (rv_c rfl ag_143 (h2) rfl)) ?_
              exact ⟨by unfold nmF; rw [if_neg (by omega), if_neg (by omega), if_neg (by omega), if_neg (by omega), if_neg (by omega), if_pos (by omega)]; rfl, hF⟩
            · try simp only [decide_eq_true_eq, decide_eq_false_iff_not, Bool.not_eq_true', Bool.not_eq_false', Bool.not_eq_eq_eq_not, Bool.not_true, Bool.not_false, beq_iff_eq, bne_iff_ne, ne_eq, beq_eq_false_iff_ne, bne_eq_false_iff_eq, gt_iff_lt, ge_iff_le, Int.not_lt, Int.not_le] at hc44
              refine c_seq (fun K17 hK17 => ?_)
              refine c_reg ?_ -- region 16 eval.go:21
              refine wl (ro_cmp rfl rfl rfl) ?_
              refine wl (ro_assign rfl) ?_
              refine wl_nil (x_then (hK17 _ _ ?_))
              clear hK17 K17
              refine wc_cond rfl (fun hc55 => ?_) (fun hc55 => ?_)
              · try simp only [decide_eq_true_eq, decide_eq_false_iff_not, Bool.not_eq_true', Bool.not_eq_false', Bool.not_eq_eq_eq_not, Bool.not_true, Bool.not_false, beq_iff_eq, bne_iff_ne, ne_eq, beq_eq_false_iff_ne, bne_eq_false_iff_eq, gt_iff_lt, ge_iff_le, Int.not_lt, Int.not_le] at hc55
                refine c_piL 7 [(0, false), (1, false), (2, false), (3, false), (4, false), (5, true), (6, false)] (fun w' => Blk w'.heap b1 (ndc x) 143) mixed (by kernel_rfl) rfl (by kernel_rfl) (po_blk (po_then (po_bp))) (h1) ?_ -- region 17 eval.go:22
                refine ql_ro rfl (fun w hS => ro_fieldAddr (k := 2) rfl fo_143_2) ?_
                refine ql_ro rfl (fun w hS => ro_loadB rfl sc_3 (hS) (rfl)) ?_
                refine ql_ro rfl (fun w hS => ro_fieldAddr (k := 3) rfl fo_143_3) ?_
                refine ql_ro rfl (fun w hS => ro_loadB rfl sc_3 (hS) (rfl)) ?_
                refine ql_ro rfl (fun w hS => ro_fieldAddr (k := 2) rfl fo_143_2) ?_
                refine ql_putm rfl rfl rfl rfl sz_3 h3 ((by simp)) ((show _ = ndc ⟨x.k, 0, x.a, -1, 0, zR, zR⟩ from rfl)) (fun w1 hB1 F ↦ (F.blkO h1 (by omega))) (fun w22 h3 F22 => ?_)
                replace hF := hF.thenDrew.thenO F22 (by first | exact .inr (by omega) | exact .inl rfl | exact .inl (by assumption))
                replace h1 := F22.blkO h1 (by omega)
                replace h2 := F22.blkO h2 (by omega)
                refine ql_ro rfl (fun w hS => ro_fieldAddr (k := 3) rfl fo_143_3) ?_
                refine ql_put rfl rfl rfl rfl sz_3 h3 ((by simp)) ((show _ = ndc ⟨x.k, 0, x.a, x.b, 0, zR, zR⟩ from rfl)) (fun w23 h3 F23 => ?_)
                replace hF := hF.thenDrew.thenO F23 (by first | exact .inr (by omega) | exact .inl rfl | exact .inl (by assumption))
                replace h1 := F23.blkO h1 (by omega)
                replace h2 := F23.blkO h2 (by omega)
                refine x_blk (x_then (hK3 _ _ ?_))
                clear hK3 K3
                refine forget [(2, _), (3, _)] ⟨rfl, rfl, trivial⟩ (fun e => ?_)
                refine c_seq (fun K18 hK18 => ?_)
                refine c_reg ?_ -- region 18 eval.go:24
                refine wl (ro_loadAggB rfl ag_143 (by assumption) rfl rfl) ?_
                refine wl_puta rfl rfl ((ndc_cells _)) sz_143 (rfl) h2 ((by simp)) (rfl) (fun w24 h2 F24 => ?_)
                replace hF := hF.thenDrew.thenO F24 (by first | exact .inr (by omega) | exact .inl rfl | exact .inl (by assumption))
                replace h1 := F24.blkO h1 (by omega)
                replace h3 := F24.blkO h3 (by omega)
                refine wl_nil (x_then (hK18 _ _ ?_))
                clear hK18 K18
                refine c_ret ?_
                refine bq_ret (res1 Tryz.results197 (rv_c rfl ag_143 (h2) rfl)) ?_
                exact ⟨by unfold nmF; rw [if_neg (by omega), if_neg (by omega), if_neg (by omega), if_neg (by omega), if_neg (by omega), if_neg (by omega), if_pos (by omega)]; rfl, hF⟩
              · try simp only [decide_eq_true_eq, decide_eq_false_iff_not, Bool.not_eq_true', Bool.not_eq_false', Bool.not_eq_eq_eq_not, Bool.not_true, Bool.not_false, beq_iff_eq, bne_iff_ne, ne_eq, beq_eq_false_iff_ne, bne_eq_false_iff_eq, gt_iff_lt, ge_iff_le, Int.not_lt, Int.not_le] at hc55
                refine c_skip (x_blk (x_then (hK3 _ _ ?_)))
                clear hK3 K3
                refine forget [(2, _), (3, _)] ⟨rfl, rfl, trivial⟩ (fun e => ?_)
                refine c_seq (fun K19 hK19 => ?_)
                refine c_reg ?_ -- region 18 eval.go:24
                refine wl (ro_loadAggB rfl ag_143 (by assumption) rfl rfl) ?_
                refine wl_puta rfl rfl ((ndc_cells _)) sz_143 (rfl) h2 ((by simp)) (rfl) (fun w25 h2 F25 => ?_)
                replace hF := hF.thenDrew.thenO F25 (by first | exact .inr (by omega) | exact .inl rfl | exact .inl (by assumption))
                replace h1 := F25.blkO h1 (by omega)
                replace h3 := F25.blkO h3 (by omega)
                refine wl_nil (x_then (hK19 _ _ ?_))
                clear hK19 K19
                refine c_ret ?_
                refine bq_ret (res1 Tryz.results197 (rv_c rfl ag_143 (h2) rfl)) ?_
                exact ⟨by unfold nmF; rw [if_neg (by omega), if_neg (by omega), if_neg (by omega), if_neg (by omega), if_neg (by omega), if_neg (by omega), if_neg (by omega)]; rfl, hF⟩

end Go.Proofs.Qxb6500570aGreat
