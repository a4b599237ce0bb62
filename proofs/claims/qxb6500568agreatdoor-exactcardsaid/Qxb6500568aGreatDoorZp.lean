import Derived.Test.Qxb6500568aGreatDoorZo
/- The compiler: expressions of parts (written by tools/mk_zx.py). -/
namespace Go.Proofs.Qxb6500568aGreatDoor
open Ieee
set_option linter.unusedVariables false
set_option linter.unusedSimpArgs false
set_option linter.unusedSectionVars false

theorem binary233 {w : World} {op : Nat} (ho : op < 60000) : Ret Tryz.prog 233 [u64c op] w (fun r w' => r = .agg (inc (binI op)).toArray ∧ Fram none' w w') := by
  have hF : Fram none' w w := Fram.refl _ _
  refine ret_of Tryz.func233 rfl Tryz.ntmps233 rfl ?_
  refine c_seq (fun K1 hK1 => ?_)
  refine c_reg ?_ -- region 0 expr.go:62
  refine wl_new (ze_203) (fun b2 w1 hbb2 h2 F1 => ?_)
  have hbsb2 := Nat.le_trans hF.size hbb2
  replace hF := hF.thenDrew.thenN F1
  refine wl_nil (x_then (hK1 _ _ ?_))
  clear hK1 K1
  refine c_seq (fun K2 hK2 => ?_)
  refine c_seq (fun K3 hK3 => ?_)
  refine c_reg ?_ -- region 1 expr.go:63
  refine wl (ro_move rfl) ?_
  refine wl (ro_cmpU rfl rfl rfl) ?_
  refine wl_nil (x_then (hK3 _ _ ?_))
  clear hK3 K3
  refine wc_cond rfl (fun hc4 => ?_) (fun hc4 => ?_)
  · try simp only [decide_eq_true_eq, decide_eq_false_iff_not, Bool.not_eq_true', Bool.not_eq_false', Bool.not_eq_eq_eq_not, Bool.not_true, Bool.not_false, beq_iff_eq, bne_iff_ne, ne_eq, beq_eq_false_iff_ne, bne_eq_false_iff_eq, gt_iff_lt, ge_iff_le, Int.not_lt, Int.not_le] at hc4
    refine c_seq (fun K4 hK4 => ?_)
    refine c_reg ?_ -- region 2 expr.go:64
    refine wl (ro_build rfl bld_203_0) ?_
    refine wl_puta rfl rfl ((by simp [Value.oneCell'])) sz_203 (rfl) h2 ((by simp)) (rfl) (fun w2 h2 F2 => ?_)
    replace hF := hF.thenDrew.thenO F2 (by first | exact .inr (by omega) | exact .inl rfl | exact .inl (by assumption) | assumption)
    refine wl_nil (x_then (hK4 _ _ ?_))
    clear hK4 K4
    refine c_ret (x_thenR ?_)
    refine bq_ret (res1 Tryz.results233 (rv_c rfl ag_203 (h2) (rfl))) ?_
    refine ⟨?_, hF⟩
    unfold binI
    rw [if_pos (by omega)]; rfl
  · try simp only [decide_eq_true_eq, decide_eq_false_iff_not, Bool.not_eq_true', Bool.not_eq_false', Bool.not_eq_eq_eq_not, Bool.not_true, Bool.not_false, beq_iff_eq, bne_iff_ne, ne_eq, beq_eq_false_iff_ne, bne_eq_false_iff_eq, gt_iff_lt, ge_iff_le, Int.not_lt, Int.not_le] at hc4
    refine c_skip (x_then (hK2 _ _ ?_))
    clear hK2 K2
    refine c_seq (fun K5 hK5 => ?_)
    refine c_seq (fun K6 hK6 => ?_)
    refine c_reg ?_ -- region 3 expr.go:66
    refine wl (ro_move rfl) ?_
    refine wl (ro_cmpU rfl rfl rfl) ?_
    refine wl_nil (x_then (hK6 _ _ ?_))
    clear hK6 K6
    refine wc_cond rfl (fun hc7 => ?_) (fun hc7 => ?_)
    · try simp only [decide_eq_true_eq, decide_eq_false_iff_not, Bool.not_eq_true', Bool.not_eq_false', Bool.not_eq_eq_eq_not, Bool.not_true, Bool.not_false, beq_iff_eq, bne_iff_ne, ne_eq, beq_eq_false_iff_ne, bne_eq_false_iff_eq, gt_iff_lt, ge_iff_le, Int.not_lt, Int.not_le] at hc7
      refine c_seq (fun K7 hK7 => ?_)
      refine c_reg ?_ -- region 4 expr.go:67
      refine wl (ro_move rfl) ?_
      refine wl (ro_subU rfl rfl (show 10 ≤ op by omega) (by omega)) ?_
      refine wl (ro_conv rfl sc_117 in_201 (Go.IntWalk.u16_in _ (by omega))) ?_
      refine wl (ro_build rfl bld_203_0_1) ?_
      refine wl_puta rfl rfl ((by simp [Value.oneCell'])) sz_203 (rfl) h2 ((by simp)) (rfl) (fun w3 h2 F3 => ?_)
      replace hF := hF.thenDrew.thenO F3 (by first | exact .inr (by omega) | exact .inl rfl | exact .inl (by assumption) | assumption)
      refine wl_nil (x_then (hK7 _ _ ?_))
      clear hK7 K7
      refine c_ret (x_thenR ?_)
      refine bq_ret (res1 Tryz.results233 (rv_c rfl ag_203 (h2) (rfl))) ?_
      refine ⟨?_, hF⟩
      unfold binI
      rw [if_neg (by omega), if_pos (by omega)]
      rfl
    · try simp only [decide_eq_true_eq, decide_eq_false_iff_not, Bool.not_eq_true', Bool.not_eq_false', Bool.not_eq_eq_eq_not, Bool.not_true, Bool.not_false, beq_iff_eq, bne_iff_ne, ne_eq, beq_eq_false_iff_ne, bne_eq_false_iff_eq, gt_iff_lt, ge_iff_le, Int.not_lt, Int.not_le] at hc7
      refine c_skip (x_then (hK5 _ _ ?_))
      clear hK5 K5
      refine forget [(0, _), (2, _)] ⟨rfl, rfl, trivial⟩ (fun e => ?_)
      refine c_seq (fun K8 hK8 => ?_)
      refine c_reg ?_ -- region 5 expr.go:69
      refine wl (ro_move rfl) ?_
      refine wl (ro_conv rfl sc_117 in_201 (Go.IntWalk.u16_in _ (by omega))) ?_
      refine wl (ro_build rfl bld_203_0_1) ?_
      refine wl_puta rfl rfl ((by simp [Value.oneCell'])) sz_203 (rfl) h2 ((by simp)) (rfl) (fun w4 h2 F4 => ?_)
      replace hF := hF.thenDrew.thenO F4 (by first | exact .inr (by omega) | exact .inl rfl | exact .inl (by assumption) | assumption)
      refine wl_nil (x_then (hK8 _ _ ?_))
      clear hK8 K8
      refine c_ret ?_
      refine bq_ret (res1 Tryz.results233 (rv_c rfl ag_203 (h2) (rfl))) ?_
      refine ⟨?_, hF⟩
      unfold binI
      rw [if_neg (by omega), if_neg (by omega)]; rfl
theorem unary234 {w : World} {op : Nat} (ho : op < 60000) : Ret Tryz.prog 234 [u64c op] w (fun r w' => r = .agg (inc (unI op)).toArray ∧ Fram none' w w') := by
  have hF : Fram none' w w := Fram.refl _ _
  refine ret_of Tryz.func234 rfl Tryz.ntmps234 rfl ?_
  refine c_seq (fun K1 hK1 => ?_)
  refine c_reg ?_ -- region 0 expr.go:73
  refine wl_new (ze_203) (fun b2 w1 hbb2 h2 F1 => ?_)
  have hbsb2 := Nat.le_trans hF.size hbb2
  replace hF := hF.thenDrew.thenN F1
  refine wl_nil (x_then (hK1 _ _ ?_))
  clear hK1 K1
  refine c_seq (fun K2 hK2 => ?_)
  refine c_seq (fun K3 hK3 => ?_)
  refine c_reg ?_ -- region 1 expr.go:74
  refine wl (ro_move rfl) ?_
  refine wl_nil (x_then (hK3 _ _ ?_))
  clear hK3 K3
  refine c_block ?_
  refine forget [(2, _), (3, _)] ⟨rfl, rfl, trivial⟩ (fun e => ?_)
  refine c_seq (fun K4 hK4 => ?_)
  refine c_reg ?_ -- region 2 expr.go:75
  refine wl (ro_cmpU rfl rfl rfl) ?_
  refine wl (ro_assign rfl) ?_
  refine wl_nil (x_then (hK4 _ _ ?_))
  clear hK4 K4
  refine wc_cond rfl (fun hc4 => ?_) (fun hc4 => ?_)
  · try simp only [decide_eq_true_eq, decide_eq_false_iff_not, Bool.not_eq_true', Bool.not_eq_false', Bool.not_eq_eq_eq_not, Bool.not_true, Bool.not_false, beq_iff_eq, bne_iff_ne, ne_eq, beq_eq_false_iff_ne, bne_eq_false_iff_eq, gt_iff_lt, ge_iff_le, Int.not_lt, Int.not_le] at hc4
    refine c_seq (fun K5 hK5 => ?_)
    refine c_reg ?_ -- region 3 expr.go:76
    refine wl (ro_build rfl bld_203_0) ?_
    refine wl_puta rfl rfl ((by simp [Value.oneCell'])) sz_203 (rfl) h2 ((by simp)) (rfl) (fun w2 h2 F2 => ?_)
    replace hF := hF.thenDrew.thenO F2 (by first | exact .inr (by omega) | exact .inl rfl | exact .inl (by assumption) | assumption)
    refine wl_nil (x_then (hK5 _ _ ?_))
    clear hK5 K5
    refine c_ret (x_blkR (x_thenR ?_))
    refine bq_ret (res1 Tryz.results234 (rv_c rfl ag_203 (h2) (rfl))) ?_
    refine ⟨?_, hF⟩
    unfold unI
    rw [if_pos (by omega)]; rfl
  · try simp only [decide_eq_true_eq, decide_eq_false_iff_not, Bool.not_eq_true', Bool.not_eq_false', Bool.not_eq_eq_eq_not, Bool.not_true, Bool.not_false, beq_iff_eq, bne_iff_ne, ne_eq, beq_eq_false_iff_ne, bne_eq_false_iff_eq, gt_iff_lt, ge_iff_le, Int.not_lt, Int.not_le] at hc4
    refine c_seq (fun K6 hK6 => ?_)
    refine c_reg ?_ -- region 4 expr.go:77
    refine wl (ro_cmpU rfl rfl rfl) ?_
    refine wl (ro_assign rfl) ?_
    refine wl_nil (x_then (hK6 _ _ ?_))
    clear hK6 K6
    refine wc_cond rfl (fun hc7 => ?_) (fun hc7 => ?_)
    · try simp only [decide_eq_true_eq, decide_eq_false_iff_not, Bool.not_eq_true', Bool.not_eq_false', Bool.not_eq_eq_eq_not, Bool.not_true, Bool.not_false, beq_iff_eq, bne_iff_ne, ne_eq, beq_eq_false_iff_ne, bne_eq_false_iff_eq, gt_iff_lt, ge_iff_le, Int.not_lt, Int.not_le] at hc7
      refine c_seq (fun K7 hK7 => ?_)
      refine c_reg ?_ -- region 5 expr.go:78
      refine wl (ro_build rfl bld_203_0) ?_
      refine wl_puta rfl rfl ((by simp [Value.oneCell'])) sz_203 (rfl) h2 ((by simp)) (rfl) (fun w3 h2 F3 => ?_)
      replace hF := hF.thenDrew.thenO F3 (by first | exact .inr (by omega) | exact .inl rfl | exact .inl (by assumption) | assumption)
      refine wl_nil (x_then (hK7 _ _ ?_))
      clear hK7 K7
      refine c_ret (x_blkR (x_thenR ?_))
      refine bq_ret (res1 Tryz.results234 (rv_c rfl ag_203 (h2) (rfl))) ?_
      refine ⟨?_, hF⟩
      unfold unI
      rw [if_neg (by omega), if_pos (by omega)]; rfl
    · try simp only [decide_eq_true_eq, decide_eq_false_iff_not, Bool.not_eq_true', Bool.not_eq_false', Bool.not_eq_eq_eq_not, Bool.not_true, Bool.not_false, beq_iff_eq, bne_iff_ne, ne_eq, beq_eq_false_iff_ne, bne_eq_false_iff_eq, gt_iff_lt, ge_iff_le, Int.not_lt, Int.not_le] at hc7
      refine c_skip (x_blk (x_then (hK2 _ _ ?_)))
      clear hK2 K2
      refine forget [(2, _)] ⟨rfl, trivial⟩ (fun e => ?_)
      refine c_seq (fun K8 hK8 => ?_)
      refine c_reg ?_ -- region 6 expr.go:80
      refine wl (ro_build rfl bld_203_0) ?_
      refine wl_puta rfl rfl ((by simp [Value.oneCell'])) sz_203 (rfl) h2 ((by simp)) (rfl) (fun w4 h2 F4 => ?_)
      replace hF := hF.thenDrew.thenO F4 (by first | exact .inr (by omega) | exact .inl rfl | exact .inl (by assumption) | assumption)
      refine wl_nil (x_then (hK8 _ _ ?_))
      clear hK8 K8
      refine c_ret ?_
      refine bq_ret (res1 Tryz.results234 (rv_c rfl ag_203 (h2) (rfl))) ?_
      refine ⟨?_, hF⟩
      unfold unI
      rw [if_neg (by omega), if_neg (by omega)]; rfl
set_option maxHeartbeats 16000000 in
theorem xe_index {a b : Tr} (ha : XE a) (hb : XE b) : XE (Ex.index a b) := by
  intro E w ow O S f q n hR hi hw hpa hx
  obtain ⟨hn0, hK, hi1, hi2⟩ := IsE_index.1 hi
  have hn : n < E.G.length := nd_lt (by rw [hK]; decide)
  obtain ⟨hw1, hw2⟩ : W a false f.L.length ∧ W b false f.L.length := hw
  obtain ⟨hp1, hp2⟩ : PaT E.pa a f.j ∧ PaT E.pa b f.j := hpa
  have hx0 : FX E S f q (numsT a ++ (numsT b ++ [])) (100 * ndT a + (100 * ndT b + 100)) := by
    have hx : FX E S f q (numsT a ++ numsT b) (100 * (1 + ndT a + ndT b)) := hx
    rw [List.append_nil]
    exact hx.le (by omega)
  have hF : Fram (tg ow cpT) w w := Fram.refl _ _
  have hX : Xt w ow ow := Xt.refl _ _
  obtain ⟨gn, capn, ln_, env, hN, khN, hcapn, hrow⟩ := hR.nodes (by omega)
  obtain ⟨pn, hpn⟩ := hrow n hn
  have hcl : 3 * f.code.length ≤ 31000 := hx.clen
  refine ret_of Tryz.func186 rfl Tryz.ntmps186 rfl ?_
  refine c_seq (fun K1 hK1 => ?_)
  refine c_reg ?_ -- region 0 expr.go:6
  refine wl_box rfl rfl (fun b2 w1 hbb2 h2 F1 => ?_)
  have hbsb2 := Nat.le_trans hF.size hbb2
  have hnegnb2 : gn < b2 := Nat.lt_of_lt_of_le hN.lt hbb2
  have kh2 := hR.df b2 hbb2
  replace hF := hF.thenDrew.thenN F1
  replace hR := hR.thruN ((Fram.refl none' _).thenDrew.thenN F1)
  replace hN := F1.blkN hN
  refine wl_nil (x_then (hK1 _ _ ?_))
  clear hK1 K1
  refine forget [(1, _), (2, _)] ⟨rfl, rfl, trivial⟩ (fun e => ?_)
  refine c_seq (fun K2 hK2 => ?_)
  obtain ⟨R_, z_, op⟩ := hR.open (f := f) (by simp)
  have hG := op.B
  have hC := hR.cb
  have khG := hR.ta
  have khC := hR.tc
  rw [env] at hC
  refine c_reg ?_ -- region 1 expr.go:7
  refine wl (ro_loadB rfl sc_128 (by assumption) rfl) ?_
  refine wl (ro_nilCheck rfl) ?_
  refine wl (ro_fieldAddr (k := 0) rfl fo_199_0) ?_
  refine wl (ro_loadB rfl sc_22 hG (op.row 0 (by decide))) ?_
  refine wl (ro_nilCheck rfl) ?_
  refine wl (ro_fieldAddr (k := 2) rfl fo_94_2) ?_
  refine wl (ro_loadB rfl sc_77 (hC) rfl) ?_
  refine wl (ro_move rfl) ?_
  refine wl (ro_indexAddr (et := 148) (k := 8) rfl rfl se_77 (rfl) (hn)) ?_
  refine wl (ro_loadAggB rfl ag_148 (hN) (rfl) (hpn)) ?_
  refine wl_new (ze_148) (fun b4 w2 hbb4 h4 F2 => ?_)
  have hbsb4 := Nat.le_trans hF.size hbb4
  have hnegnb4 : gn < b4 := Nat.lt_of_lt_of_le hN.lt hbb4
  have hneb2b4 : b2 < b4 := Nat.lt_of_lt_of_le h2.lt hbb4
  have hneE.gbb4 : E.gb < b4 := Nat.lt_of_lt_of_le hG.lt hbb4
  have hneE.cbb4 : E.cb < b4 := Nat.lt_of_lt_of_le hC.lt hbb4
  have kh4 := hR.df b4 hbb4
  replace hF := hF.thenDrew.thenN F2
  replace hR := hR.thruN ((Fram.refl none' _).thenDrew.thenN F2)
  replace hN := F2.blkN hN
  replace h2 := F2.blkN h2
  replace hG := F2.blkN hG
  replace hC := F2.blkN hC
  refine wl_puta rfl rfl ((ndc_one _)) sz_148 (rfl) h4 ((by simp)) (rfl) (fun w3 h4 F3 => ?_)
  replace hF := hF.thenDrew.thenO F3 (by first | exact .inr (by omega) | exact .inl rfl | exact .inl (by assumption) | assumption)
  replace hR := hR.hbput ((Fram.refl (one b4) _).thenDrew.thenO F3 (.inl rfl))
  replace hN := F3.blkO hN (by first | omega | exact ow_ne (by assumption) (by assumption) (by omega))
  replace h2 := F3.blkO h2 (by first | omega | exact ow_ne (by assumption) (by assumption) (by omega))
  replace hG := F3.blkO hG (by first | omega | exact ow_ne (by assumption) (by assumption) (by omega))
  replace hC := F3.blkO hC (by first | omega | exact ow_ne (by assumption) (by assumption) (by omega))
  have h4 : Blk (w3).heap b4 [i64c 18, i64c (nd E.G n).A, i64c (nd E.G n).B, i64c (nd E.G n).C, i64c (nd E.G n).Nx, u64c (nd E.G n).N, Go.Proofs.Qxb6500568aGreatDoor.S (nd E.G n).S, i64c pn] 148 := by rw [← hK]; exact h4
  refine wl_nil (x_then (hK2 _ _ ?_))
  clear hK2 K2
  refine forget [(1, _), (2, _), (4, _)] ⟨rfl, rfl, rfl, trivial⟩ (fun e => ?_)
  refine c_seq (fun K3 hK3 => ?_)
  refine c_reg ?_ -- region 2 expr.go:8
  refine wl (ro_fieldAddr (k := 0) rfl fo_148_0) ?_
  refine wl (ro_loadB rfl sc_3 (by assumption) rfl) ?_
  refine wl_nil (x_then (hK3 _ _ ?_))
  clear hK3 K3
  refine c_block ?_
  refine c_seq (fun K4 hK4 => ?_)
  refine c_seq (fun K5 hK5 => ?_)
  refine c_reg ?_ -- region 3 expr.go:9
  refine wl (ro_cmp rfl rfl rfl) ?_
  refine wl (ro_assign rfl) ?_
  refine wl_nil (x_then (hK5 _ _ ?_))
  clear hK5 K5
  refine wc_condF rfl ?_
  refine c_reg ?_ -- region 4 expr.go:9
  refine wl (ro_cmp rfl rfl rfl) ?_
  refine wl (ro_assign rfl) ?_
  refine wl_nil (x_then (hK4 _ _ ?_))
  clear hK4 K4
  refine wc_condF rfl ?_
  refine c_seq (fun K6 hK6 => ?_)
  refine c_reg ?_ -- region 6 expr.go:11
  refine wl (ro_cmp rfl rfl rfl) ?_
  refine wl (ro_assign rfl) ?_
  refine wl_nil (x_then (hK6 _ _ ?_))
  clear hK6 K6
  refine wc_condF rfl ?_
  refine c_seq (fun K7 hK7 => ?_)
  refine c_reg ?_ -- region 8 expr.go:13
  refine wl (ro_cmp rfl rfl rfl) ?_
  refine wl (ro_assign rfl) ?_
  refine wl_nil (x_then (hK7 _ _ ?_))
  clear hK7 K7
  refine wc_condF rfl ?_
  refine c_seq (fun K8 hK8 => ?_)
  refine c_reg ?_ -- region 10 expr.go:15
  refine wl (ro_cmp rfl rfl rfl) ?_
  refine wl (ro_assign rfl) ?_
  refine wl_nil (x_then (hK8 _ _ ?_))
  clear hK8 K8
  refine wc_condF rfl ?_
  refine c_seq (fun K9 hK9 => ?_)
  refine c_reg ?_ -- region 13 expr.go:18
  refine wl (ro_cmp rfl rfl rfl) ?_
  refine wl (ro_assign rfl) ?_
  refine wl_nil (x_then (hK9 _ _ ?_))
  clear hK9 K9
  refine wc_condF rfl ?_
  refine c_seq (fun K10 hK10 => ?_)
  refine c_reg ?_ -- region 16 expr.go:21
  refine wl (ro_cmp rfl rfl rfl) ?_
  refine wl (ro_assign rfl) ?_
  refine wl_nil (x_then (hK10 _ _ ?_))
  clear hK10 K10
  refine wc_condF rfl ?_
  refine c_seq (fun K11 hK11 => ?_)
  refine c_reg ?_ -- region 18 expr.go:23
  refine wl (ro_cmp rfl rfl rfl) ?_
  refine wl (ro_assign rfl) ?_
  refine wl_nil (x_then (hK11 _ _ ?_))
  clear hK11 K11
  refine wc_condT rfl ?_
  refine c_seq (fun K12 hK12 => ?_)
  refine c_reg ?_ -- region 19 expr.go:24
  refine wl (ro_loadB rfl sc_128 (by assumption) rfl) ?_
  refine wl (ro_fieldAddr (k := 1) rfl fo_148_1) ?_
  refine wl (ro_loadB rfl sc_3 (by assumption) rfl) ?_
  refine wl_call rfl en_186 (ha E _ _ _ _ f q _ hR.dr hi1 hw1 hp1 (hx0.left.le (by omega))) ?_
  rintro _ u4 ⟨rfl, ow4, x4, f4, r4⟩
  obtain ⟨hN, khN⟩ := cp_loc x4 f4 hN khN
  obtain ⟨h2, kh2⟩ := cp_loc x4 f4 h2 kh2
  obtain ⟨h4, kh4⟩ := cp_loc x4 f4 h4 kh4
  have hs4 := hF.size
  replace hF := cp_trans hX hF f4
  replace hX := hX.trans hs4 x4
  replace hR := r4
  have hx1 := hx0.eE hi1 hw1
  obtain ⟨S1, hS1⟩ : ∃ z9, z9 = (cmp a 0 (chn (f :: q)) 0 f.code.length S).2 := ⟨_, rfl⟩
  obtain ⟨c1, hc1⟩ : ∃ z9, z9 = f.code ++ (cmp a 0 (chn (f :: q)) 0 f.code.length S).1 65535 := ⟨_, rfl⟩
  have hl1 : c1.length = f.code.length + ln (cmp a 0 (chn (f :: q)) 0 f.code.length S) := by rw [hc1, List.length_append]; congr 1; exact hx0.ln
  replace hx1 : FX E (cmp a 0 (chn (f :: q)) 0 f.code.length S).2 { f with code := f.code ++ (cmp a 0 (chn (f :: q)) 0 f.code.length S).1 65535 } q _ _ := hx1
  have hR : CM E _ _ _ (cmp a 0 (chn (f :: q)) 0 f.code.length S).2 ({ f with code := f.code ++ (cmp a 0 (chn (f :: q)) 0 f.code.length S).1 65535 } :: q) := hR
  rw [← hS1, ← hc1] at hR hx1
  have hk1 : 3 * c1.length ≤ 31000 := hx1.clen
  refine wl_nil (x_then (hK12 _ _ ?_))
  clear hK12 K12
  refine forget [(2, _), (4, _)] ⟨rfl, rfl, trivial⟩ (fun e => ?_)
  refine c_seq (fun K13 hK13 => ?_)
  refine c_reg ?_ -- region 20 expr.go:25
  refine wl (ro_loadB rfl sc_128 (by assumption) rfl) ?_
  refine wl (ro_fieldAddr (k := 2) rfl fo_148_2) ?_
  refine wl (ro_loadB rfl sc_3 (by assumption) rfl) ?_
  refine wl_call rfl en_186 (hb E _ _ _ _ { f with code := c1 } q _ hR.dr hi2 hw2 hp2 (hx1.left.le (by omega))) ?_
  rintro _ u5 ⟨rfl, ow5, x5, f5, r5⟩
  obtain ⟨hN, khN⟩ := cp_loc x5 f5 hN khN
  obtain ⟨h2, kh2⟩ := cp_loc x5 f5 h2 kh2
  obtain ⟨h4, kh4⟩ := cp_loc x5 f5 h4 kh4
  have hs5 := hF.size
  replace hF := cp_trans hX hF f5
  replace hX := hX.trans hs5 x5
  replace hR := r5
  have hx2 := hx1.eE hi2 hw2
  obtain ⟨S2, hS2⟩ : ∃ z9, z9 = (cmp b 0 (chn (f :: q)) 0 c1.length S1).2 := ⟨_, rfl⟩
  obtain ⟨c2, hc2⟩ : ∃ z9, z9 = c1 ++ (cmp b 0 (chn (f :: q)) 0 c1.length S1).1 65535 := ⟨_, rfl⟩
  have hl2 : c2.length = c1.length + ln (cmp b 0 (chn (f :: q)) 0 c1.length S1) := by rw [hc2, List.length_append]; congr 1; exact hx1.ln
  replace hx2 : FX E (cmp b 0 (chn (f :: q)) 0 c1.length S1).2 { f with code := c1 ++ (cmp b 0 (chn (f :: q)) 0 c1.length S1).1 65535 } q _ _ := hx2
  have hR : CM E _ _ _ (cmp b 0 (chn (f :: q)) 0 c1.length S1).2 ({ f with code := c1 ++ (cmp b 0 (chn (f :: q)) 0 c1.length S1).1 65535 } :: q) := hR
  rw [← hS2, ← hc2] at hR hx2
  have hk2 : 3 * c2.length ≤ 31000 := hx2.clen
  refine wl_nil (x_then (hK13 _ _ ?_))
  clear hK13 K13
  refine c_reg ?_ -- region 21 expr.go:26
  refine wl (ro_loadB rfl sc_128 (by assumption) rfl) ?_
  refine wl (ro_build rfl bld_203_0) ?_
  refine wl_em (is := [(11, 0)]) (eo_bsI1 rfl se_196 zx_203) rfl hR rfl (by simp; omega) ?_
  intro u6 ow6 x6 f6 r6
  obtain ⟨hN, khN⟩ := cp_loc' x6 f6 hN khN
  obtain ⟨h2, kh2⟩ := cp_loc' x6 f6 h2 kh2
  obtain ⟨h4, kh4⟩ := cp_loc' x6 f6 h4 kh4
  have hs6 := hF.size
  replace hF := cp_trans' hX hF f6
  replace hX := hX.trans hs6 x6
  replace hR := r6
  refine wl_nil (x_blk ?_)
  refine bp_end Tryz.results186 rfl ?_
  refine ⟨rfl, _, hX, hF, ?_⟩
  rw [List.append_assoc] at hR
  show CM E _ _ (O ++ (numsT a ++ numsT b)) (cmp b 0 (chn (f :: q)) 0 (f.code.length + ln (cmp a 0 (chn (f :: q)) 0 f.code.length S)) (cmp a 0 (chn (f :: q)) 0 f.code.length S).2).2 ({ f with code := f.code ++ ((cmp a 0 (chn (f :: q)) 0 f.code.length S).1 65535 ++ (cmp b 0 (chn (f :: q)) 0 (f.code.length + ln (cmp a 0 (chn (f :: q)) 0 f.code.length S)) (cmp a 0 (chn (f :: q)) 0 f.code.length S).2).1 65535 ++ [(11, 0)]) } :: q)
  rw [← hl1, ← hS1, ← hS2, show f.code ++ ((cmp a 0 (chn (f :: q)) 0 f.code.length S).1 65535 ++ (cmp b 0 (chn (f :: q)) 0 c1.length S1).1 65535 ++ [(11, 0)]) = c2 ++ [(11, 0)] by rw [hc2, hc1]; simp only [List.append_assoc]]
  exact hR
set_option maxHeartbeats 16000000 in
theorem xe_bin {a b : Tr} {oc : Nat} (ha : XE a) (hb : XE b) : XE (Ex.bin oc a b) := by
  intro E w ow O S f q n hR hi hw hpa hx
  obtain ⟨hn0, hK, hop, hi1, hi2⟩ := IsE_bin.1 hi
  have hn : n < E.G.length := nd_lt (by rw [hK]; decide)
  obtain ⟨hwo, hw1, hw2⟩ : (oc = 20 ∨ (11 ≤ oc ∧ oc ≤ 16) ∨ (1 ≤ oc ∧ oc ≤ 6)) ∧ W a false f.L.length ∧ W b false f.L.length := hw
  obtain ⟨hp1, hp2⟩ : PaT E.pa a f.j ∧ PaT E.pa b f.j := hpa
  have hx0 : FX E S f q (numsT a ++ (numsT b ++ [])) (100 * ndT a + (100 * ndT b + 100)) := by
    have hx : FX E S f q (numsT a ++ numsT b) (100 * (1 + ndT a + ndT b)) := hx
    rw [List.append_nil]
    exact hx.le (by omega)
  have hF : Fram (tg ow cpT) w w := Fram.refl _ _
  have hX : Xt w ow ow := Xt.refl _ _
  obtain ⟨gn, capn, ln_, env, hN, khN, hcapn, hrow⟩ := hR.nodes (by omega)
  obtain ⟨pn, hpn⟩ := hrow n hn
  have hcl : 3 * f.code.length ≤ 31000 := hx.clen
  refine ret_of Tryz.func186 rfl Tryz.ntmps186 rfl ?_
  refine c_seq (fun K1 hK1 => ?_)
  refine c_reg ?_ -- region 0 expr.go:6
  refine wl_box rfl rfl (fun b2 w1 hbb2 h2 F1 => ?_)
  have hbsb2 := Nat.le_trans hF.size hbb2
  have hnegnb2 : gn < b2 := Nat.lt_of_lt_of_le hN.lt hbb2
  have kh2 := hR.df b2 hbb2
  replace hF := hF.thenDrew.thenN F1
  replace hR := hR.thruN ((Fram.refl none' _).thenDrew.thenN F1)
  replace hN := F1.blkN hN
  refine wl_nil (x_then (hK1 _ _ ?_))
  clear hK1 K1
  refine forget [(1, _), (2, _)] ⟨rfl, rfl, trivial⟩ (fun e => ?_)
  refine c_seq (fun K2 hK2 => ?_)
  obtain ⟨R_, z_, op⟩ := hR.open (f := f) (by simp)
  have hG := op.B
  have hC := hR.cb
  have khG := hR.ta
  have khC := hR.tc
  rw [env] at hC
  refine c_reg ?_ -- region 1 expr.go:7
  refine wl (ro_loadB rfl sc_128 (by assumption) rfl) ?_
  refine wl (ro_nilCheck rfl) ?_
  refine wl (ro_fieldAddr (k := 0) rfl fo_199_0) ?_
  refine wl (ro_loadB rfl sc_22 hG (op.row 0 (by decide))) ?_
  refine wl (ro_nilCheck rfl) ?_
  refine wl (ro_fieldAddr (k := 2) rfl fo_94_2) ?_
  refine wl (ro_loadB rfl sc_77 (hC) rfl) ?_
  refine wl (ro_move rfl) ?_
  refine wl (ro_indexAddr (et := 148) (k := 8) rfl rfl se_77 (rfl) (hn)) ?_
  refine wl (ro_loadAggB rfl ag_148 (hN) (rfl) (hpn)) ?_
  refine wl_new (ze_148) (fun b4 w2 hbb4 h4 F2 => ?_)
  have hbsb4 := Nat.le_trans hF.size hbb4
  have hnegnb4 : gn < b4 := Nat.lt_of_lt_of_le hN.lt hbb4
  have hneb2b4 : b2 < b4 := Nat.lt_of_lt_of_le h2.lt hbb4
  have hneE.gbb4 : E.gb < b4 := Nat.lt_of_lt_of_le hG.lt hbb4
  have hneE.cbb4 : E.cb < b4 := Nat.lt_of_lt_of_le hC.lt hbb4
  have kh4 := hR.df b4 hbb4
  replace hF := hF.thenDrew.thenN F2
  replace hR := hR.thruN ((Fram.refl none' _).thenDrew.thenN F2)
  replace hN := F2.blkN hN
  replace h2 := F2.blkN h2
  replace hG := F2.blkN hG
  replace hC := F2.blkN hC
  refine wl_puta rfl rfl ((ndc_one _)) sz_148 (rfl) h4 ((by simp)) (rfl) (fun w3 h4 F3 => ?_)
  replace hF := hF.thenDrew.thenO F3 (by first | exact .inr (by omega) | exact .inl rfl | exact .inl (by assumption) | assumption)
  replace hR := hR.hbput ((Fram.refl (one b4) _).thenDrew.thenO F3 (.inl rfl))
  replace hN := F3.blkO hN (by first | omega | exact ow_ne (by assumption) (by assumption) (by omega))
  replace h2 := F3.blkO h2 (by first | omega | exact ow_ne (by assumption) (by assumption) (by omega))
  replace hG := F3.blkO hG (by first | omega | exact ow_ne (by assumption) (by assumption) (by omega))
  replace hC := F3.blkO hC (by first | omega | exact ow_ne (by assumption) (by assumption) (by omega))
  have h4 : Blk (w3).heap b4 [i64c 22, i64c (nd E.G n).A, i64c (nd E.G n).B, i64c (nd E.G n).C, i64c (nd E.G n).Nx, u64c (nd E.G n).N, Go.Proofs.Qxb6500568aGreatDoor.S (nd E.G n).S, i64c pn] 148 := by rw [← hK]; exact h4
  refine wl_nil (x_then (hK2 _ _ ?_))
  clear hK2 K2
  refine forget [(1, _), (2, _), (4, _)] ⟨rfl, rfl, rfl, trivial⟩ (fun e => ?_)
  refine c_seq (fun K3 hK3 => ?_)
  refine c_reg ?_ -- region 2 expr.go:8
  refine wl (ro_fieldAddr (k := 0) rfl fo_148_0) ?_
  refine wl (ro_loadB rfl sc_3 (by assumption) rfl) ?_
  refine wl_nil (x_then (hK3 _ _ ?_))
  clear hK3 K3
  refine c_block ?_
  refine c_seq (fun K4 hK4 => ?_)
  refine c_seq (fun K5 hK5 => ?_)
  refine c_reg ?_ -- region 3 expr.go:9
  refine wl (ro_cmp rfl rfl rfl) ?_
  refine wl (ro_assign rfl) ?_
  refine wl_nil (x_then (hK5 _ _ ?_))
  clear hK5 K5
  refine wc_condF rfl ?_
  refine c_reg ?_ -- region 4 expr.go:9
  refine wl (ro_cmp rfl rfl rfl) ?_
  refine wl (ro_assign rfl) ?_
  refine wl_nil (x_then (hK4 _ _ ?_))
  clear hK4 K4
  refine wc_condF rfl ?_
  refine c_seq (fun K6 hK6 => ?_)
  refine c_reg ?_ -- region 6 expr.go:11
  refine wl (ro_cmp rfl rfl rfl) ?_
  refine wl (ro_assign rfl) ?_
  refine wl_nil (x_then (hK6 _ _ ?_))
  clear hK6 K6
  refine wc_condF rfl ?_
  refine c_seq (fun K7 hK7 => ?_)
  refine c_reg ?_ -- region 8 expr.go:13
  refine wl (ro_cmp rfl rfl rfl) ?_
  refine wl (ro_assign rfl) ?_
  refine wl_nil (x_then (hK7 _ _ ?_))
  clear hK7 K7
  refine wc_condF rfl ?_
  refine c_seq (fun K8 hK8 => ?_)
  refine c_reg ?_ -- region 10 expr.go:15
  refine wl (ro_cmp rfl rfl rfl) ?_
  refine wl (ro_assign rfl) ?_
  refine wl_nil (x_then (hK8 _ _ ?_))
  clear hK8 K8
  refine wc_condF rfl ?_
  refine c_seq (fun K9 hK9 => ?_)
  refine c_reg ?_ -- region 13 expr.go:18
  refine wl (ro_cmp rfl rfl rfl) ?_
  refine wl (ro_assign rfl) ?_
  refine wl_nil (x_then (hK9 _ _ ?_))
  clear hK9 K9
  refine wc_condF rfl ?_
  refine c_seq (fun K10 hK10 => ?_)
  refine c_reg ?_ -- region 16 expr.go:21
  refine wl (ro_cmp rfl rfl rfl) ?_
  refine wl (ro_assign rfl) ?_
  refine wl_nil (x_then (hK10 _ _ ?_))
  clear hK10 K10
  refine wc_condF rfl ?_
  refine c_seq (fun K11 hK11 => ?_)
  refine c_reg ?_ -- region 18 expr.go:23
  refine wl (ro_cmp rfl rfl rfl) ?_
  refine wl (ro_assign rfl) ?_
  refine wl_nil (x_then (hK11 _ _ ?_))
  clear hK11 K11
  refine wc_condF rfl ?_
  refine c_seq (fun K12 hK12 => ?_)
  refine c_reg ?_ -- region 22 expr.go:27
  refine wl (ro_cmp rfl rfl rfl) ?_
  refine wl (ro_assign rfl) ?_
  refine wl_nil (x_then (hK12 _ _ ?_))
  clear hK12 K12
  refine wc_condF rfl ?_
  refine c_seq (fun K13 hK13 => ?_)
  refine c_reg ?_ -- region 25 expr.go:30
  refine wl (ro_cmp rfl rfl rfl) ?_
  refine wl (ro_assign rfl) ?_
  refine wl_nil (x_then (hK13 _ _ ?_))
  clear hK13 K13
  refine wc_condF rfl ?_
  refine c_seq (fun K14 hK14 => ?_)
  refine c_reg ?_ -- region 27 expr.go:32
  refine wl (ro_cmp rfl rfl rfl) ?_
  refine wl (ro_assign rfl) ?_
  refine wl_nil (x_then (hK14 _ _ ?_))
  clear hK14 K14
  refine wc_condF rfl ?_
  refine c_seq (fun K15 hK15 => ?_)
  refine c_reg ?_ -- region 31 expr.go:40
  refine wl (ro_cmp rfl rfl rfl) ?_
  refine wl (ro_assign rfl) ?_
  refine wl_nil (x_then (hK15 _ _ ?_))
  clear hK15 K15
  refine wc_condT rfl ?_
  refine c_seq (fun K16 hK16 => ?_)
  refine c_reg ?_ -- region 32 expr.go:41
  refine wl (ro_loadB rfl sc_128 (by assumption) rfl) ?_
  refine wl (ro_fieldAddr (k := 1) rfl fo_148_1) ?_
  refine wl (ro_loadB rfl sc_3 (by assumption) rfl) ?_
  refine wl_call rfl en_186 (ha E _ _ _ _ f q _ hR.dr hi1 hw1 hp1 (hx0.left.le (by omega))) ?_
  rintro _ u4 ⟨rfl, ow4, x4, f4, r4⟩
  obtain ⟨hN, khN⟩ := cp_loc x4 f4 hN khN
  obtain ⟨h2, kh2⟩ := cp_loc x4 f4 h2 kh2
  obtain ⟨h4, kh4⟩ := cp_loc x4 f4 h4 kh4
  have hs4 := hF.size
  replace hF := cp_trans hX hF f4
  replace hX := hX.trans hs4 x4
  replace hR := r4
  have hx1 := hx0.eE hi1 hw1
  obtain ⟨S1, hS1⟩ : ∃ z9, z9 = (cmp a 0 (chn (f :: q)) 0 f.code.length S).2 := ⟨_, rfl⟩
  obtain ⟨c1, hc1⟩ : ∃ z9, z9 = f.code ++ (cmp a 0 (chn (f :: q)) 0 f.code.length S).1 65535 := ⟨_, rfl⟩
  have hl1 : c1.length = f.code.length + ln (cmp a 0 (chn (f :: q)) 0 f.code.length S) := by rw [hc1, List.length_append]; congr 1; exact hx0.ln
  replace hx1 : FX E (cmp a 0 (chn (f :: q)) 0 f.code.length S).2 { f with code := f.code ++ (cmp a 0 (chn (f :: q)) 0 f.code.length S).1 65535 } q _ _ := hx1
  have hR : CM E _ _ _ (cmp a 0 (chn (f :: q)) 0 f.code.length S).2 ({ f with code := f.code ++ (cmp a 0 (chn (f :: q)) 0 f.code.length S).1 65535 } :: q) := hR
  rw [← hS1, ← hc1] at hR hx1
  have hk1 : 3 * c1.length ≤ 31000 := hx1.clen
  refine wl_nil (x_then (hK16 _ _ ?_))
  clear hK16 K16
  refine forget [(2, _), (4, _)] ⟨rfl, rfl, trivial⟩ (fun e => ?_)
  refine c_seq (fun K17 hK17 => ?_)
  refine c_reg ?_ -- region 33 expr.go:42
  refine wl (ro_loadB rfl sc_128 (by assumption) rfl) ?_
  refine wl (ro_fieldAddr (k := 2) rfl fo_148_2) ?_
  refine wl (ro_loadB rfl sc_3 (by assumption) rfl) ?_
  refine wl_call rfl en_186 (hb E _ _ _ _ { f with code := c1 } q _ hR.dr hi2 hw2 hp2 (hx1.left.le (by omega))) ?_
  rintro _ u5 ⟨rfl, ow5, x5, f5, r5⟩
  obtain ⟨hN, khN⟩ := cp_loc x5 f5 hN khN
  obtain ⟨h2, kh2⟩ := cp_loc x5 f5 h2 kh2
  obtain ⟨h4, kh4⟩ := cp_loc x5 f5 h4 kh4
  have hs5 := hF.size
  replace hF := cp_trans hX hF f5
  replace hX := hX.trans hs5 x5
  replace hR := r5
  have hx2 := hx1.eE hi2 hw2
  obtain ⟨S2, hS2⟩ : ∃ z9, z9 = (cmp b 0 (chn (f :: q)) 0 c1.length S1).2 := ⟨_, rfl⟩
  obtain ⟨c2, hc2⟩ : ∃ z9, z9 = c1 ++ (cmp b 0 (chn (f :: q)) 0 c1.length S1).1 65535 := ⟨_, rfl⟩
  have hl2 : c2.length = c1.length + ln (cmp b 0 (chn (f :: q)) 0 c1.length S1) := by rw [hc2, List.length_append]; congr 1; exact hx1.ln
  replace hx2 : FX E (cmp b 0 (chn (f :: q)) 0 c1.length S1).2 { f with code := c1 ++ (cmp b 0 (chn (f :: q)) 0 c1.length S1).1 65535 } q _ _ := hx2
  have hR : CM E _ _ _ (cmp b 0 (chn (f :: q)) 0 c1.length S1).2 ({ f with code := c1 ++ (cmp b 0 (chn (f :: q)) 0 c1.length S1).1 65535 } :: q) := hR
  rw [← hS2, ← hc2] at hR hx2
  have hk2 : 3 * c2.length ≤ 31000 := hx2.clen
  refine wl_nil (x_then (hK17 _ _ ?_))
  clear hK17 K17
  refine forget [(2, _), (4, _)] ⟨rfl, rfl, trivial⟩ (fun e => ?_)
  refine c_seq (fun K18 hK18 => ?_)
  refine c_reg ?_ -- region 34 expr.go:43
  refine wl (ro_fieldAddr (k := 5) rfl fo_148_5) ?_
  refine wl (ro_loadB rfl sc_117 (by assumption) rfl) ?_
  refine wl_call rfl en_233 (binary233 (op := (nd E.G n).N) (by omega)) ?_
  rintro _ w6 ⟨rfl, F6⟩
  replace hF := hF.thenDrew.thenN F6
  replace hR := hR.thruN ((Fram.refl none' _).thenDrew.thenN F6)
  replace hN := F6.blkN hN
  replace h2 := F6.blkN h2
  replace h4 := F6.blkN h4
  refine wl_new (ze_203) (fun b8 w7 hbb8 h8 F7 => ?_)
  have hbsb8 := Nat.le_trans hF.size hbb8
  have hnegnb8 : gn < b8 := Nat.lt_of_lt_of_le hN.lt hbb8
  have hneb2b8 : b2 < b8 := Nat.lt_of_lt_of_le h2.lt hbb8
  have hneb4b8 : b4 < b8 := Nat.lt_of_lt_of_le h4.lt hbb8
  have kh8 := hR.df b8 hbb8
  replace hF := hF.thenDrew.thenN F7
  replace hR := hR.thruN ((Fram.refl none' _).thenDrew.thenN F7)
  replace hN := F7.blkN hN
  replace h2 := F7.blkN h2
  replace h4 := F7.blkN h4
  refine wl_puta rfl rfl ((inc_one _)) sz_203 (rfl) h8 ((by simp)) (rfl) (fun w8 h8 F8 => ?_)
  replace hF := hF.thenDrew.thenO F8 (by first | exact .inr (by omega) | exact .inl rfl | exact .inl (by assumption) | assumption)
  replace hR := hR.hbput ((Fram.refl (one b8) _).thenDrew.thenO F8 (.inl rfl))
  replace hN := F8.blkO hN (by first | omega | exact ow_ne (by assumption) (by assumption) (by omega))
  replace h2 := F8.blkO h2 (by first | omega | exact ow_ne (by assumption) (by assumption) (by omega))
  replace h4 := F8.blkO h4 (by first | omega | exact ow_ne (by assumption) (by assumption) (by omega))
  refine wl_nil (x_then (hK18 _ _ ?_))
  clear hK18 K18
  refine c_reg ?_ -- region 35 expr.go:44
  refine wl (ro_loadB rfl sc_128 (by assumption) rfl) ?_
  refine wl (ro_loadAggB rfl ag_203 (h8) (rfl) (rfl)) ?_
  refine wl_em (is := [binI (nd E.G n).N]) (eo_bsI1 rfl se_196 zx_203) rfl hR rfl (by simp; omega) ?_
  intro u9 ow9 x9 f9 r9
  obtain ⟨hN, khN⟩ := cp_loc' x9 f9 hN khN
  obtain ⟨h2, kh2⟩ := cp_loc' x9 f9 h2 kh2
  obtain ⟨h4, kh4⟩ := cp_loc' x9 f9 h4 kh4
  obtain ⟨h8, kh8⟩ := cp_loc' x9 f9 h8 kh8
  have hs9 := hF.size
  replace hF := cp_trans' hX hF f9
  replace hX := hX.trans hs9 x9
  replace hR := r9
  rw [hop] at hR
  refine wl_nil (x_blk ?_)
  refine bp_end Tryz.results186 rfl ?_
  refine ⟨rfl, _, hX, hF, ?_⟩
  rw [List.append_assoc] at hR
  show CM E _ _ (O ++ (numsT a ++ numsT b)) (cmp b 0 (chn (f :: q)) 0 (f.code.length + ln (cmp a 0 (chn (f :: q)) 0 f.code.length S)) (cmp a 0 (chn (f :: q)) 0 f.code.length S).2).2 ({ f with code := f.code ++ ((cmp a 0 (chn (f :: q)) 0 f.code.length S).1 65535 ++ (cmp b 0 (chn (f :: q)) 0 (f.code.length + ln (cmp a 0 (chn (f :: q)) 0 f.code.length S)) (cmp a 0 (chn (f :: q)) 0 f.code.length S).2).1 65535 ++ [binI oc]) } :: q)
  rw [← hl1, ← hS1, ← hS2, show f.code ++ ((cmp a 0 (chn (f :: q)) 0 f.code.length S).1 65535 ++ (cmp b 0 (chn (f :: q)) 0 c1.length S1).1 65535 ++ [binI oc]) = c2 ++ [binI oc] by rw [hc2, hc1]; simp only [List.append_assoc]]
  exact hR
set_option maxHeartbeats 16000000 in
theorem xe_un {a : Tr} {oc : Nat} (ha : XE a) : XE (Ex.un oc a) := by
  intro E w ow O S f q n hR hi hw hpa hx
  obtain ⟨hn0, hK, hop, hi1⟩ := IsE_un.1 hi
  have hn : n < E.G.length := nd_lt (by rw [hK]; decide)
  obtain ⟨hwo, hw1⟩ : (1 ≤ oc ∧ oc ≤ 3) ∧ W a false f.L.length := hw
  have hp1 : PaT E.pa a f.j := hpa
  have hx0 : FX E S f q (numsT a ++ []) (100 * ndT a + 100) := by
    have hx : FX E S f q (numsT a) (100 * (1 + ndT a)) := hx
    rw [List.append_nil]
    exact hx.le (by omega)
  have hF : Fram (tg ow cpT) w w := Fram.refl _ _
  have hX : Xt w ow ow := Xt.refl _ _
  obtain ⟨gn, capn, ln_, env, hN, khN, hcapn, hrow⟩ := hR.nodes (by omega)
  obtain ⟨pn, hpn⟩ := hrow n hn
  have hcl : 3 * f.code.length ≤ 31000 := hx.clen
  refine ret_of Tryz.func186 rfl Tryz.ntmps186 rfl ?_
  refine c_seq (fun K1 hK1 => ?_)
  refine c_reg ?_ -- region 0 expr.go:6
  refine wl_box rfl rfl (fun b2 w1 hbb2 h2 F1 => ?_)
  have hbsb2 := Nat.le_trans hF.size hbb2
  have hnegnb2 : gn < b2 := Nat.lt_of_lt_of_le hN.lt hbb2
  have kh2 := hR.df b2 hbb2
  replace hF := hF.thenDrew.thenN F1
  replace hR := hR.thruN ((Fram.refl none' _).thenDrew.thenN F1)
  replace hN := F1.blkN hN
  refine wl_nil (x_then (hK1 _ _ ?_))
  clear hK1 K1
  refine forget [(1, _), (2, _)] ⟨rfl, rfl, trivial⟩ (fun e => ?_)
  refine c_seq (fun K2 hK2 => ?_)
  obtain ⟨R_, z_, op⟩ := hR.open (f := f) (by simp)
  have hG := op.B
  have hC := hR.cb
  have khG := hR.ta
  have khC := hR.tc
  rw [env] at hC
  refine c_reg ?_ -- region 1 expr.go:7
  refine wl (ro_loadB rfl sc_128 (by assumption) rfl) ?_
  refine wl (ro_nilCheck rfl) ?_
  refine wl (ro_fieldAddr (k := 0) rfl fo_199_0) ?_
  refine wl (ro_loadB rfl sc_22 hG (op.row 0 (by decide))) ?_
  refine wl (ro_nilCheck rfl) ?_
  refine wl (ro_fieldAddr (k := 2) rfl fo_94_2) ?_
  refine wl (ro_loadB rfl sc_77 (hC) rfl) ?_
  refine wl (ro_move rfl) ?_
  refine wl (ro_indexAddr (et := 148) (k := 8) rfl rfl se_77 (rfl) (hn)) ?_
  refine wl (ro_loadAggB rfl ag_148 (hN) (rfl) (hpn)) ?_
  refine wl_new (ze_148) (fun b4 w2 hbb4 h4 F2 => ?_)
  have hbsb4 := Nat.le_trans hF.size hbb4
  have hnegnb4 : gn < b4 := Nat.lt_of_lt_of_le hN.lt hbb4
  have hneb2b4 : b2 < b4 := Nat.lt_of_lt_of_le h2.lt hbb4
  have hneE.gbb4 : E.gb < b4 := Nat.lt_of_lt_of_le hG.lt hbb4
  have hneE.cbb4 : E.cb < b4 := Nat.lt_of_lt_of_le hC.lt hbb4
  have kh4 := hR.df b4 hbb4
  replace hF := hF.thenDrew.thenN F2
  replace hR := hR.thruN ((Fram.refl none' _).thenDrew.thenN F2)
  replace hN := F2.blkN hN
  replace h2 := F2.blkN h2
  replace hG := F2.blkN hG
  replace hC := F2.blkN hC
  refine wl_puta rfl rfl ((ndc_one _)) sz_148 (rfl) h4 ((by simp)) (rfl) (fun w3 h4 F3 => ?_)
  replace hF := hF.thenDrew.thenO F3 (by first | exact .inr (by omega) | exact .inl rfl | exact .inl (by assumption) | assumption)
  replace hR := hR.hbput ((Fram.refl (one b4) _).thenDrew.thenO F3 (.inl rfl))
  replace hN := F3.blkO hN (by first | omega | exact ow_ne (by assumption) (by assumption) (by omega))
  replace h2 := F3.blkO h2 (by first | omega | exact ow_ne (by assumption) (by assumption) (by omega))
  replace hG := F3.blkO hG (by first | omega | exact ow_ne (by assumption) (by assumption) (by omega))
  replace hC := F3.blkO hC (by first | omega | exact ow_ne (by assumption) (by assumption) (by omega))
  have h4 : Blk (w3).heap b4 [i64c 23, i64c (nd E.G n).A, i64c (nd E.G n).B, i64c (nd E.G n).C, i64c (nd E.G n).Nx, u64c (nd E.G n).N, Go.Proofs.Qxb6500568aGreatDoor.S (nd E.G n).S, i64c pn] 148 := by rw [← hK]; exact h4
  refine wl_nil (x_then (hK2 _ _ ?_))
  clear hK2 K2
  refine forget [(1, _), (2, _), (4, _)] ⟨rfl, rfl, rfl, trivial⟩ (fun e => ?_)
  refine c_seq (fun K3 hK3 => ?_)
  refine c_reg ?_ -- region 2 expr.go:8
  refine wl (ro_fieldAddr (k := 0) rfl fo_148_0) ?_
  refine wl (ro_loadB rfl sc_3 (by assumption) rfl) ?_
  refine wl_nil (x_then (hK3 _ _ ?_))
  clear hK3 K3
  refine c_block ?_
  refine c_seq (fun K4 hK4 => ?_)
  refine c_seq (fun K5 hK5 => ?_)
  refine c_reg ?_ -- region 3 expr.go:9
  refine wl (ro_cmp rfl rfl rfl) ?_
  refine wl (ro_assign rfl) ?_
  refine wl_nil (x_then (hK5 _ _ ?_))
  clear hK5 K5
  refine wc_condF rfl ?_
  refine c_reg ?_ -- region 4 expr.go:9
  refine wl (ro_cmp rfl rfl rfl) ?_
  refine wl (ro_assign rfl) ?_
  refine wl_nil (x_then (hK4 _ _ ?_))
  clear hK4 K4
  refine wc_condF rfl ?_
  refine c_seq (fun K6 hK6 => ?_)
  refine c_reg ?_ -- region 6 expr.go:11
  refine wl (ro_cmp rfl rfl rfl) ?_
  refine wl (ro_assign rfl) ?_
  refine wl_nil (x_then (hK6 _ _ ?_))
  clear hK6 K6
  refine wc_condF rfl ?_
  refine c_seq (fun K7 hK7 => ?_)
  refine c_reg ?_ -- region 8 expr.go:13
  refine wl (ro_cmp rfl rfl rfl) ?_
  refine wl (ro_assign rfl) ?_
  refine wl_nil (x_then (hK7 _ _ ?_))
  clear hK7 K7
  refine wc_condF rfl ?_
  refine c_seq (fun K8 hK8 => ?_)
  refine c_reg ?_ -- region 10 expr.go:15
  refine wl (ro_cmp rfl rfl rfl) ?_
  refine wl (ro_assign rfl) ?_
  refine wl_nil (x_then (hK8 _ _ ?_))
  clear hK8 K8
  refine wc_condF rfl ?_
  refine c_seq (fun K9 hK9 => ?_)
  refine c_reg ?_ -- region 13 expr.go:18
  refine wl (ro_cmp rfl rfl rfl) ?_
  refine wl (ro_assign rfl) ?_
  refine wl_nil (x_then (hK9 _ _ ?_))
  clear hK9 K9
  refine wc_condF rfl ?_
  refine c_seq (fun K10 hK10 => ?_)
  refine c_reg ?_ -- region 16 expr.go:21
  refine wl (ro_cmp rfl rfl rfl) ?_
  refine wl (ro_assign rfl) ?_
  refine wl_nil (x_then (hK10 _ _ ?_))
  clear hK10 K10
  refine wc_condF rfl ?_
  refine c_seq (fun K11 hK11 => ?_)
  refine c_reg ?_ -- region 18 expr.go:23
  refine wl (ro_cmp rfl rfl rfl) ?_
  refine wl (ro_assign rfl) ?_
  refine wl_nil (x_then (hK11 _ _ ?_))
  clear hK11 K11
  refine wc_condF rfl ?_
  refine c_seq (fun K12 hK12 => ?_)
  refine c_reg ?_ -- region 22 expr.go:27
  refine wl (ro_cmp rfl rfl rfl) ?_
  refine wl (ro_assign rfl) ?_
  refine wl_nil (x_then (hK12 _ _ ?_))
  clear hK12 K12
  refine wc_condF rfl ?_
  refine c_seq (fun K13 hK13 => ?_)
  refine c_reg ?_ -- region 25 expr.go:30
  refine wl (ro_cmp rfl rfl rfl) ?_
  refine wl (ro_assign rfl) ?_
  refine wl_nil (x_then (hK13 _ _ ?_))
  clear hK13 K13
  refine wc_condF rfl ?_
  refine c_seq (fun K14 hK14 => ?_)
  refine c_reg ?_ -- region 27 expr.go:32
  refine wl (ro_cmp rfl rfl rfl) ?_
  refine wl (ro_assign rfl) ?_
  refine wl_nil (x_then (hK14 _ _ ?_))
  clear hK14 K14
  refine wc_condF rfl ?_
  refine c_seq (fun K15 hK15 => ?_)
  refine c_reg ?_ -- region 31 expr.go:40
  refine wl (ro_cmp rfl rfl rfl) ?_
  refine wl (ro_assign rfl) ?_
  refine wl_nil (x_then (hK15 _ _ ?_))
  clear hK15 K15
  refine wc_condF rfl ?_
  refine c_seq (fun K16 hK16 => ?_)
  refine c_reg ?_ -- region 36 expr.go:45
  refine wl (ro_cmp rfl rfl rfl) ?_
  refine wl (ro_assign rfl) ?_
  refine wl_nil (x_then (hK16 _ _ ?_))
  clear hK16 K16
  refine wc_condT rfl ?_
  refine c_seq (fun K17 hK17 => ?_)
  refine c_reg ?_ -- region 37 expr.go:46
  refine wl (ro_loadB rfl sc_128 (by assumption) rfl) ?_
  refine wl (ro_fieldAddr (k := 1) rfl fo_148_1) ?_
  refine wl (ro_loadB rfl sc_3 (by assumption) rfl) ?_
  refine wl_call rfl en_186 (ha E _ _ _ _ f q _ hR.dr hi1 hw1 hp1 (hx0.left.le (by omega))) ?_
  rintro _ u4 ⟨rfl, ow4, x4, f4, r4⟩
  obtain ⟨hN, khN⟩ := cp_loc x4 f4 hN khN
  obtain ⟨h2, kh2⟩ := cp_loc x4 f4 h2 kh2
  obtain ⟨h4, kh4⟩ := cp_loc x4 f4 h4 kh4
  have hs4 := hF.size
  replace hF := cp_trans hX hF f4
  replace hX := hX.trans hs4 x4
  replace hR := r4
  have hx1 := hx0.eE hi1 hw1
  obtain ⟨S1, hS1⟩ : ∃ z9, z9 = (cmp a 0 (chn (f :: q)) 0 f.code.length S).2 := ⟨_, rfl⟩
  obtain ⟨c1, hc1⟩ : ∃ z9, z9 = f.code ++ (cmp a 0 (chn (f :: q)) 0 f.code.length S).1 65535 := ⟨_, rfl⟩
  have hl1 : c1.length = f.code.length + ln (cmp a 0 (chn (f :: q)) 0 f.code.length S) := by rw [hc1, List.length_append]; congr 1; exact hx0.ln
  replace hx1 : FX E (cmp a 0 (chn (f :: q)) 0 f.code.length S).2 { f with code := f.code ++ (cmp a 0 (chn (f :: q)) 0 f.code.length S).1 65535 } q _ _ := hx1
  have hR : CM E _ _ _ (cmp a 0 (chn (f :: q)) 0 f.code.length S).2 ({ f with code := f.code ++ (cmp a 0 (chn (f :: q)) 0 f.code.length S).1 65535 } :: q) := hR
  rw [← hS1, ← hc1] at hR hx1
  have hk1 : 3 * c1.length ≤ 31000 := hx1.clen
  refine wl_nil (x_then (hK17 _ _ ?_))
  clear hK17 K17
  refine forget [(2, _), (4, _)] ⟨rfl, rfl, trivial⟩ (fun e => ?_)
  refine c_seq (fun K18 hK18 => ?_)
  refine c_reg ?_ -- region 38 expr.go:47
  refine wl (ro_fieldAddr (k := 5) rfl fo_148_5) ?_
  refine wl (ro_loadB rfl sc_117 (by assumption) rfl) ?_
  refine wl_call rfl en_234 (unary234 (op := (nd E.G n).N) (by omega)) ?_
  rintro _ w5 ⟨rfl, F5⟩
  replace hF := hF.thenDrew.thenN F5
  replace hR := hR.thruN ((Fram.refl none' _).thenDrew.thenN F5)
  replace hN := F5.blkN hN
  replace h2 := F5.blkN h2
  replace h4 := F5.blkN h4
  refine wl_new (ze_203) (fun b9 w6 hbb9 h9 F6 => ?_)
  have hbsb9 := Nat.le_trans hF.size hbb9
  have hnegnb9 : gn < b9 := Nat.lt_of_lt_of_le hN.lt hbb9
  have hneb2b9 : b2 < b9 := Nat.lt_of_lt_of_le h2.lt hbb9
  have hneb4b9 : b4 < b9 := Nat.lt_of_lt_of_le h4.lt hbb9
  have kh9 := hR.df b9 hbb9
  replace hF := hF.thenDrew.thenN F6
  replace hR := hR.thruN ((Fram.refl none' _).thenDrew.thenN F6)
  replace hN := F6.blkN hN
  replace h2 := F6.blkN h2
  replace h4 := F6.blkN h4
  refine wl_puta rfl rfl ((inc_one _)) sz_203 (rfl) h9 ((by simp)) (rfl) (fun w7 h9 F7 => ?_)
  replace hF := hF.thenDrew.thenO F7 (by first | exact .inr (by omega) | exact .inl rfl | exact .inl (by assumption) | assumption)
  replace hR := hR.hbput ((Fram.refl (one b9) _).thenDrew.thenO F7 (.inl rfl))
  replace hN := F7.blkO hN (by first | omega | exact ow_ne (by assumption) (by assumption) (by omega))
  replace h2 := F7.blkO h2 (by first | omega | exact ow_ne (by assumption) (by assumption) (by omega))
  replace h4 := F7.blkO h4 (by first | omega | exact ow_ne (by assumption) (by assumption) (by omega))
  refine wl_nil (x_then (hK18 _ _ ?_))
  clear hK18 K18
  refine c_reg ?_ -- region 39 expr.go:48
  refine wl (ro_loadB rfl sc_128 (by assumption) rfl) ?_
  refine wl (ro_loadAggB rfl ag_203 (h9) (rfl) (rfl)) ?_
  refine wl_em (is := [unI (nd E.G n).N]) (eo_bsI1 rfl se_196 zx_203) rfl hR rfl (by simp; omega) ?_
  intro u8 ow8 x8 f8 r8
  obtain ⟨hN, khN⟩ := cp_loc' x8 f8 hN khN
  obtain ⟨h2, kh2⟩ := cp_loc' x8 f8 h2 kh2
  obtain ⟨h4, kh4⟩ := cp_loc' x8 f8 h4 kh4
  obtain ⟨h9, kh9⟩ := cp_loc' x8 f8 h9 kh9
  have hs8 := hF.size
  replace hF := cp_trans' hX hF f8
  replace hX := hX.trans hs8 x8
  replace hR := r8
  refine wl_nil (x_blk ?_)
  refine bp_end Tryz.results186 rfl ?_
  refine ⟨rfl, _, hX, hF, ?_⟩
  rw [hop] at hR
  show CM E _ _ (O ++ numsT a) (cmp a 0 (chn (f :: q)) 0 f.code.length S).2 ({ f with code := f.code ++ ((cmp a 0 (chn (f :: q)) 0 f.code.length S).1 65535 ++ [unI oc]) } :: q)
  rw [← hS1, ← List.append_assoc, ← hc1]
  exact hR
end Go.Proofs.Qxb6500568aGreatDoor
