import Derived.Test.Qxb6500567aGreatId
/- ProgOK. -/
namespace Go.Proofs.Qxb6500567aGreat
set_option linter.unusedVariables false
set_option linter.unusedSimpArgs false

theorem pg_load {p : List Ins} {pc : Nat} {x : Ins} (h : p[pc]? = some x) : ((rws ric (insL p)).drop (0 + pc * 7)).take 7 = ric (insR x) := by
  rw [Nat.zero_add]
  apply rws_at ric_len
  simp [insL, h]

theorem insL_len (p : List Ins) : (insL p).length = p.length := by simp

set_option maxHeartbeats 4000000 in
theorem ProgOK59 {w : World} {gb : Nat} {p : List Ins} (hG : PGB w.heap gb (insL p)) (hp : PrgOK p) : Ret Tryz.prog 59 [pgs gb p.length] w (fun v w' => v = .bool true ∧ Fram none' w w') := by
  have hF : Fram none' w w := Fram.refl _ _
  have h1 := hp.pos
  have h2 := hp.le
  refine ret_of Tryz.func59 rfl Tryz.ntmps59 rfl ?_
  refine c_seq (fun K1 hK1 => ?_)
  refine c_reg ?_ -- region 0 code.go:21
  refine wl (ro_assign rfl) ?_
  refine wl_nil (x_then (hK1 _ _ ?_))
  clear hK1 K1
  refine c_seq (fun K2 hK2 => ?_)
  refine c_seq (fun K3 hK3 => ?_)
  refine c_reg ?_ -- region 1 code.go:22
  refine wl (ro_move rfl) ?_
  refine wl (ro_lenL rfl se_109) ?_
  refine wl (ro_cmp (r := false) rfl rfl (congrArg some (decide_eq_false (by omega)))) ?_
  refine wl (ro_move rfl) ?_
  refine wlg_yes rfl (ro_move rfl) ?_
  refine wlg_yes rfl (ro_lenL rfl se_109) ?_
  refine wlg_yes rfl (ro_cmp (r := false) rfl rfl (congrArg some (decide_eq_false (by omega)))) ?_
  refine wl (ro_pick rfl rfl rfl) ?_
  refine wl_nil (x_then (hK3 _ _ ?_))
  clear hK3 K3
  refine wc_condF rfl ?_
  refine c_skip (x_then (hK2 _ _ ?_))
  clear hK2 K2
  refine c_seq (fun K4 hK4 => ?_)
  refine c_seq (fun K5 hK5 => ?_)
  refine c_reg ?_ -- region 3 code.go:25
  refine wl (ro_assign rfl) ?_
  refine wl_nil (x_then (hK5 _ _ ?_))
  clear hK5 K5
  refine c_block ?_
  -- loop@r4: live slots [0, 3]
  refine c_loopG (fun m a' w' => ∃ pc : Nat, m = p.length - pc ∧ pc ≤ p.length ∧ PGB w'.heap gb (insL p) ∧ Fram none' w w' ∧ ∃ e, a' = Fr 89 (upds e [(0, pgs gb p.length), (3, i64c pc)]) []) p.length ⟨0, rfl, by omega, hG, hF, kp _ ⟨rfl, rfl, trivial⟩⟩ ?_
  clear hG hF
  rintro m a' w1 ⟨pc, rfl, hpc, hG, hF, e, rfl⟩
  refine c_seq (fun K6 hK6 => ?_)
  refine c_seq (fun K7 hK7 => ?_)
  refine c_reg ?_ -- region 4 code.go:25
  refine wl (ro_move rfl) ?_
  refine wl (ro_move rfl) ?_
  refine wl (ro_lenL rfl se_109) ?_
  refine wl (ro_cmp (r := decide (pc < p.length)) rfl rfl (congrArg some (decide_eq_decide.2 (by omega)))) ?_
  refine wl_nil (x_then (hK7 _ _ ?_))
  clear hK7 K7
  refine wc_cond rfl (fun hc16 => ?_) (fun hc16 => ?_)
  · try simp only [decide_eq_true_eq, decide_eq_false_iff_not, Bool.not_eq_true', Bool.not_eq_false', Bool.not_eq_eq_eq_not, Bool.not_true, Bool.not_false, beq_iff_eq, bne_iff_ne, ne_eq, beq_eq_false_iff_ne, bne_eq_false_iff_eq, gt_iff_lt, ge_iff_le, Int.not_lt, Int.not_le] at hc16
    obtain ⟨x, hx⟩ : ∃ x, p[pc]? = some x := ⟨_, List.getElem?_eq_getElem hc16⟩
    have hok := hp.ok pc x hx
    have hld := pg_load hx
    refine c_skip (x_then (hK6 _ _ ?_))
    clear hK6 K6
    refine forget [(0, _), (3, _)] ⟨rfl, rfl, trivial⟩ (fun e => ?_)
    refine c_seq (fun K8 hK8 => ?_)
    refine c_block ?_
    refine c_seq (fun K9 hK9 => ?_)
    rcases x with S | ⟨a, b⟩ | a | a | ⟨⟩ | ⟨⟩ | ⟨⟩
    · skip
      have hok1 : pc + 1 < p.length := hok
      refine c_reg ?_ -- region 6 code.go:26
      refine wl (ro_move rfl) ?_
      refine wl (ro_move rfl) ?_
      refine wl (ro_indexAddr (et := 175) (k := 7) rfl rfl se_109 (rfl) (hc16)) ?_
      refine wl (ro_loadAggB rfl ag_175 (hG) (rfl) (hld)) ?_
      refine wl_new (ze_175) (fun xb w1 hbxb hX F1 => ?_)
      have hbsxb := Nat.le_trans hF.size hbxb
      have hnegbxb : gb < xb := Nat.lt_of_lt_of_le hG.lt hbxb
      replace hF := hF.thenDrew.thenN F1
      replace hG := F1.blkN hG
      refine wl_puta rfl rfl ((ric_cells _)) sz_175 (rfl) hX ((by simp)) (rfl) (fun w2 hX F2 => ?_)
      replace hF := hF.thenDrew.thenO F2 (by first | exact .inr (by omega) | exact .inl rfl | exact .inl (by assumption))
      replace hG := F2.blkO hG (by omega)
      refine wl_nil (x_then (hK9 _ _ ?_))
      clear hK9 K9
      refine forget [(0, _), (3, _), (4, _)] ⟨rfl, rfl, rfl, trivial⟩ (fun e => ?_)
      refine c_seq (fun K10 hK10 => ?_)
      refine c_reg ?_ -- region 7 code.go:27
      refine wl (ro_fieldAddr (k := 0) rfl fo_175_0) ?_
      refine wl (ro_loadB rfl sc_3 (hX) (rfl)) ?_
      refine wl_nil (x_then (hK10 _ _ ?_))
      clear hK10 K10
      refine c_block ?_
      refine c_seq (fun K11 hK11 => ?_)
      refine c_seq (fun K12 hK12 => ?_)
      refine c_reg ?_ -- region 9 code.go:28
      refine wl (ro_cmp rfl rfl rfl) ?_
      refine wl (ro_assign rfl) ?_
      refine wl_nil (x_then (hK12 _ _ ?_))
      clear hK12 K12
      refine wc_condT rfl ?_
      refine c_skip (x_then (hK11 _ _ ?_))
      clear hK11 K11
      refine wc_condT rfl ?_
      refine c_seq (fun K13 hK13 => ?_)
      refine c_reg ?_ -- region 12 code.go:29
      refine wl (ro_move rfl) ?_
      refine wl (ro_arith rfl rfl rfl (Go.IntWalk.i64_in _ (by omega))) ?_
      refine wl (ro_move rfl) ?_
      refine wl (ro_lenL rfl se_109) ?_
      refine wl (ro_cmp (r := false) rfl rfl (congrArg some (decide_eq_false (by omega)))) ?_
      refine wl_nil (x_then (hK13 _ _ ?_))
      clear hK13 K13
      refine wc_condF rfl ?_
      refine c_skip (x_blk (x_blk (x_then (hK8 _ _ ?_))))
      clear hK8 K8
      refine c_reg ?_ -- region 5 code.go:25
      refine wl (ro_move rfl) ?_
      refine wl (ro_arith rfl rfl rfl (Go.IntWalk.i64_in _ (by omega))) ?_
      refine wl (ro_assign rfl) ?_
      refine wl_nil (x_then ?_)
      exact ⟨p.length - (pc + 1), by omega, pc + 1, rfl, by omega, hG, hF, kp _ ⟨rfl, rfl, trivial⟩⟩
    · skip
      have hok1 : a < p.length := hok.1
      have hok2 : b < p.length := hok.2
      refine c_reg ?_ -- region 6 code.go:26
      refine wl (ro_move rfl) ?_
      refine wl (ro_move rfl) ?_
      refine wl (ro_indexAddr (et := 175) (k := 7) rfl rfl se_109 (rfl) (hc16)) ?_
      refine wl (ro_loadAggB rfl ag_175 (hG) (rfl) (hld)) ?_
      refine wl_new (ze_175) (fun xb w3 hbxb hX F3 => ?_)
      have hbsxb := Nat.le_trans hF.size hbxb
      have hnegbxb : gb < xb := Nat.lt_of_lt_of_le hG.lt hbxb
      replace hF := hF.thenDrew.thenN F3
      replace hG := F3.blkN hG
      refine wl_puta rfl rfl ((ric_cells _)) sz_175 (rfl) hX ((by simp)) (rfl) (fun w4 hX F4 => ?_)
      replace hF := hF.thenDrew.thenO F4 (by first | exact .inr (by omega) | exact .inl rfl | exact .inl (by assumption))
      replace hG := F4.blkO hG (by omega)
      refine wl_nil (x_then (hK9 _ _ ?_))
      clear hK9 K9
      refine forget [(0, _), (3, _), (4, _)] ⟨rfl, rfl, rfl, trivial⟩ (fun e => ?_)
      refine c_seq (fun K14 hK14 => ?_)
      refine c_reg ?_ -- region 7 code.go:27
      refine wl (ro_fieldAddr (k := 0) rfl fo_175_0) ?_
      refine wl (ro_loadB rfl sc_3 (hX) (rfl)) ?_
      refine wl_nil (x_then (hK14 _ _ ?_))
      clear hK14 K14
      refine c_block ?_
      refine c_seq (fun K15 hK15 => ?_)
      refine c_seq (fun K16 hK16 => ?_)
      refine c_reg ?_ -- region 9 code.go:28
      refine wl (ro_cmp rfl rfl rfl) ?_
      refine wl (ro_assign rfl) ?_
      refine wl_nil (x_then (hK16 _ _ ?_))
      clear hK16 K16
      refine wc_condF rfl ?_
      refine c_seq (fun K17 hK17 => ?_)
      refine c_reg ?_ -- region 10 code.go:28
      refine wl (ro_cmp rfl rfl rfl) ?_
      refine wl (ro_assign rfl) ?_
      refine wl_nil (x_then (hK17 _ _ ?_))
      clear hK17 K17
      refine wc_condF rfl ?_
      refine c_reg ?_ -- region 11 code.go:28
      refine wl (ro_cmp rfl rfl rfl) ?_
      refine wl (ro_assign rfl) ?_
      refine wl_nil (x_then (hK15 _ _ ?_))
      clear hK15 K15
      refine wc_condF rfl ?_
      refine c_seq (fun K18 hK18 => ?_)
      refine c_reg ?_ -- region 14 code.go:32
      refine wl (ro_cmp rfl rfl rfl) ?_
      refine wl (ro_assign rfl) ?_
      refine wl_nil (x_then (hK18 _ _ ?_))
      clear hK18 K18
      refine wc_condF rfl ?_
      refine c_seq (fun K19 hK19 => ?_)
      refine c_reg ?_ -- region 17 code.go:36
      refine wl (ro_cmp rfl rfl rfl) ?_
      refine wl (ro_assign rfl) ?_
      refine wl_nil (x_then (hK19 _ _ ?_))
      clear hK19 K19
      refine wc_condT rfl ?_
      refine c_seq (fun K20 hK20 => ?_)
      refine c_reg ?_ -- region 18 code.go:37
      refine wl (ro_fieldAddr (k := 1) rfl fo_175_1) ?_
      refine wl (ro_loadB rfl sc_3 (hX) ((show _ = some (i64c a) from rfl))) ?_
      refine wl (ro_cmp (r := false) rfl rfl (congrArg some (decide_eq_false (by omega)))) ?_
      refine wl (ro_move rfl) ?_
      refine wlg_yes rfl (ro_fieldAddr (k := 1) rfl fo_175_1) ?_
      refine wlg_yes rfl (ro_loadB rfl sc_3 (hX) ((show _ = some (i64c a) from rfl))) ?_
      refine wlg_yes rfl (ro_move rfl) ?_
      refine wlg_yes rfl (ro_lenL rfl se_109) ?_
      refine wlg_yes rfl (ro_cmp (r := false) rfl rfl (congrArg some (decide_eq_false (by omega)))) ?_
      refine wl (ro_pick rfl rfl rfl) ?_
      refine wl (ro_move rfl) ?_
      refine wlg_yes rfl (ro_fieldAddr (k := 2) rfl fo_175_2) ?_
      refine wlg_yes rfl (ro_loadB rfl sc_3 (hX) ((show _ = some (i64c b) from rfl))) ?_
      refine wlg_yes rfl (ro_cmp (r := false) rfl rfl (congrArg some (decide_eq_false (by omega)))) ?_
      refine wl (ro_pick rfl rfl rfl) ?_
      refine wl (ro_move rfl) ?_
      refine wlg_yes rfl (ro_fieldAddr (k := 2) rfl fo_175_2) ?_
      refine wlg_yes rfl (ro_loadB rfl sc_3 (hX) ((show _ = some (i64c b) from rfl))) ?_
      refine wlg_yes rfl (ro_move rfl) ?_
      refine wlg_yes rfl (ro_lenL rfl se_109) ?_
      refine wlg_yes rfl (ro_cmp (r := false) rfl rfl (congrArg some (decide_eq_false (by omega)))) ?_
      refine wl (ro_pick rfl rfl rfl) ?_
      refine wl_nil (x_then (hK20 _ _ ?_))
      clear hK20 K20
      refine wc_condF rfl ?_
      refine c_skip (x_blk (x_blk (x_then (hK8 _ _ ?_))))
      clear hK8 K8
      refine c_reg ?_ -- region 5 code.go:25
      refine wl (ro_move rfl) ?_
      refine wl (ro_arith rfl rfl rfl (Go.IntWalk.i64_in _ (by omega))) ?_
      refine wl (ro_assign rfl) ?_
      refine wl_nil (x_then ?_)
      exact ⟨p.length - (pc + 1), by omega, pc + 1, rfl, by omega, hG, hF, kp _ ⟨rfl, rfl, trivial⟩⟩
    · skip
      have hok1 : a < p.length := hok
      refine c_reg ?_ -- region 6 code.go:26
      refine wl (ro_move rfl) ?_
      refine wl (ro_move rfl) ?_
      refine wl (ro_indexAddr (et := 175) (k := 7) rfl rfl se_109 (rfl) (hc16)) ?_
      refine wl (ro_loadAggB rfl ag_175 (hG) (rfl) (hld)) ?_
      refine wl_new (ze_175) (fun xb w5 hbxb hX F5 => ?_)
      have hbsxb := Nat.le_trans hF.size hbxb
      have hnegbxb : gb < xb := Nat.lt_of_lt_of_le hG.lt hbxb
      replace hF := hF.thenDrew.thenN F5
      replace hG := F5.blkN hG
      refine wl_puta rfl rfl ((ric_cells _)) sz_175 (rfl) hX ((by simp)) (rfl) (fun w6 hX F6 => ?_)
      replace hF := hF.thenDrew.thenO F6 (by first | exact .inr (by omega) | exact .inl rfl | exact .inl (by assumption))
      replace hG := F6.blkO hG (by omega)
      refine wl_nil (x_then (hK9 _ _ ?_))
      clear hK9 K9
      refine forget [(0, _), (3, _), (4, _)] ⟨rfl, rfl, rfl, trivial⟩ (fun e => ?_)
      refine c_seq (fun K21 hK21 => ?_)
      refine c_reg ?_ -- region 7 code.go:27
      refine wl (ro_fieldAddr (k := 0) rfl fo_175_0) ?_
      refine wl (ro_loadB rfl sc_3 (hX) (rfl)) ?_
      refine wl_nil (x_then (hK21 _ _ ?_))
      clear hK21 K21
      refine c_block ?_
      refine c_seq (fun K22 hK22 => ?_)
      refine c_seq (fun K23 hK23 => ?_)
      refine c_reg ?_ -- region 9 code.go:28
      refine wl (ro_cmp rfl rfl rfl) ?_
      refine wl (ro_assign rfl) ?_
      refine wl_nil (x_then (hK23 _ _ ?_))
      clear hK23 K23
      refine wc_condF rfl ?_
      refine c_seq (fun K24 hK24 => ?_)
      refine c_reg ?_ -- region 10 code.go:28
      refine wl (ro_cmp rfl rfl rfl) ?_
      refine wl (ro_assign rfl) ?_
      refine wl_nil (x_then (hK24 _ _ ?_))
      clear hK24 K24
      refine wc_condF rfl ?_
      refine c_reg ?_ -- region 11 code.go:28
      refine wl (ro_cmp rfl rfl rfl) ?_
      refine wl (ro_assign rfl) ?_
      refine wl_nil (x_then (hK22 _ _ ?_))
      clear hK22 K22
      refine wc_condF rfl ?_
      refine c_seq (fun K25 hK25 => ?_)
      refine c_reg ?_ -- region 14 code.go:32
      refine wl (ro_cmp rfl rfl rfl) ?_
      refine wl (ro_assign rfl) ?_
      refine wl_nil (x_then (hK25 _ _ ?_))
      clear hK25 K25
      refine wc_condF rfl ?_
      refine c_seq (fun K26 hK26 => ?_)
      refine c_reg ?_ -- region 17 code.go:36
      refine wl (ro_cmp rfl rfl rfl) ?_
      refine wl (ro_assign rfl) ?_
      refine wl_nil (x_then (hK26 _ _ ?_))
      clear hK26 K26
      refine wc_condF rfl ?_
      refine c_seq (fun K27 hK27 => ?_)
      refine c_reg ?_ -- region 20 code.go:40
      refine wl (ro_cmp rfl rfl rfl) ?_
      refine wl (ro_assign rfl) ?_
      refine wl_nil (x_then (hK27 _ _ ?_))
      clear hK27 K27
      refine wc_condT rfl ?_
      refine c_seq (fun K28 hK28 => ?_)
      refine c_reg ?_ -- region 21 code.go:41
      refine wl (ro_fieldAddr (k := 1) rfl fo_175_1) ?_
      refine wl (ro_loadB rfl sc_3 (hX) ((show _ = some (i64c a) from rfl))) ?_
      refine wl (ro_cmp (r := false) rfl rfl (congrArg some (decide_eq_false (by omega)))) ?_
      refine wl (ro_move rfl) ?_
      refine wlg_yes rfl (ro_fieldAddr (k := 1) rfl fo_175_1) ?_
      refine wlg_yes rfl (ro_loadB rfl sc_3 (hX) ((show _ = some (i64c a) from rfl))) ?_
      refine wlg_yes rfl (ro_move rfl) ?_
      refine wlg_yes rfl (ro_lenL rfl se_109) ?_
      refine wlg_yes rfl (ro_cmp (r := false) rfl rfl (congrArg some (decide_eq_false (by omega)))) ?_
      refine wl (ro_pick rfl rfl rfl) ?_
      refine wl_nil (x_then (hK28 _ _ ?_))
      clear hK28 K28
      refine wc_condF rfl ?_
      refine c_skip (x_blk (x_blk (x_then (hK8 _ _ ?_))))
      clear hK8 K8
      refine c_reg ?_ -- region 5 code.go:25
      refine wl (ro_move rfl) ?_
      refine wl (ro_arith rfl rfl rfl (Go.IntWalk.i64_in _ (by omega))) ?_
      refine wl (ro_assign rfl) ?_
      refine wl_nil (x_then ?_)
      exact ⟨p.length - (pc + 1), by omega, pc + 1, rfl, by omega, hG, hF, kp _ ⟨rfl, rfl, trivial⟩⟩
    · skip
      obtain ⟨hok1, hok2, hok3⟩ : pc + 1 < p.length ∧ 2 ≤ a ∧ a < 8 := hok
      refine c_reg ?_ -- region 6 code.go:26
      refine wl (ro_move rfl) ?_
      refine wl (ro_move rfl) ?_
      refine wl (ro_indexAddr (et := 175) (k := 7) rfl rfl se_109 (rfl) (hc16)) ?_
      refine wl (ro_loadAggB rfl ag_175 (hG) (rfl) (hld)) ?_
      refine wl_new (ze_175) (fun xb w7 hbxb hX F7 => ?_)
      have hbsxb := Nat.le_trans hF.size hbxb
      have hnegbxb : gb < xb := Nat.lt_of_lt_of_le hG.lt hbxb
      replace hF := hF.thenDrew.thenN F7
      replace hG := F7.blkN hG
      refine wl_puta rfl rfl ((ric_cells _)) sz_175 (rfl) hX ((by simp)) (rfl) (fun w8 hX F8 => ?_)
      replace hF := hF.thenDrew.thenO F8 (by first | exact .inr (by omega) | exact .inl rfl | exact .inl (by assumption))
      replace hG := F8.blkO hG (by omega)
      refine wl_nil (x_then (hK9 _ _ ?_))
      clear hK9 K9
      refine forget [(0, _), (3, _), (4, _)] ⟨rfl, rfl, rfl, trivial⟩ (fun e => ?_)
      refine c_seq (fun K29 hK29 => ?_)
      refine c_reg ?_ -- region 7 code.go:27
      refine wl (ro_fieldAddr (k := 0) rfl fo_175_0) ?_
      refine wl (ro_loadB rfl sc_3 (hX) (rfl)) ?_
      refine wl_nil (x_then (hK29 _ _ ?_))
      clear hK29 K29
      refine c_block ?_
      refine c_seq (fun K30 hK30 => ?_)
      refine c_seq (fun K31 hK31 => ?_)
      refine c_reg ?_ -- region 9 code.go:28
      refine wl (ro_cmp rfl rfl rfl) ?_
      refine wl (ro_assign rfl) ?_
      refine wl_nil (x_then (hK31 _ _ ?_))
      clear hK31 K31
      refine wc_condF rfl ?_
      refine c_seq (fun K32 hK32 => ?_)
      refine c_reg ?_ -- region 10 code.go:28
      refine wl (ro_cmp rfl rfl rfl) ?_
      refine wl (ro_assign rfl) ?_
      refine wl_nil (x_then (hK32 _ _ ?_))
      clear hK32 K32
      refine wc_condF rfl ?_
      refine c_reg ?_ -- region 11 code.go:28
      refine wl (ro_cmp rfl rfl rfl) ?_
      refine wl (ro_assign rfl) ?_
      refine wl_nil (x_then (hK30 _ _ ?_))
      clear hK30 K30
      refine wc_condF rfl ?_
      refine c_seq (fun K33 hK33 => ?_)
      refine c_reg ?_ -- region 14 code.go:32
      refine wl (ro_cmp rfl rfl rfl) ?_
      refine wl (ro_assign rfl) ?_
      refine wl_nil (x_then (hK33 _ _ ?_))
      clear hK33 K33
      refine wc_condT rfl ?_
      refine c_seq (fun K34 hK34 => ?_)
      refine c_reg ?_ -- region 15 code.go:33
      refine wl (ro_move rfl) ?_
      refine wl (ro_arith rfl rfl rfl (Go.IntWalk.i64_in _ (by omega))) ?_
      refine wl (ro_move rfl) ?_
      refine wl (ro_lenL rfl se_109) ?_
      refine wl (ro_cmp (r := false) rfl rfl (congrArg some (decide_eq_false (by omega)))) ?_
      refine wl (ro_move rfl) ?_
      refine wlg_yes rfl (ro_fieldAddr (k := 1) rfl fo_175_1) ?_
      refine wlg_yes rfl (ro_loadB rfl sc_3 (hX) ((show _ = some (i64c a) from rfl))) ?_
      refine wlg_yes rfl (ro_cmp (r := false) rfl rfl (congrArg some (decide_eq_false (by omega)))) ?_
      refine wl (ro_pick rfl rfl rfl) ?_
      refine wl (ro_move rfl) ?_
      refine wlg_yes rfl (ro_fieldAddr (k := 1) rfl fo_175_1) ?_
      refine wlg_yes rfl (ro_loadB rfl sc_3 (hX) ((show _ = some (i64c a) from rfl))) ?_
      refine wlg_yes rfl (ro_cmp (r := false) rfl rfl (congrArg some (decide_eq_false (by omega)))) ?_
      refine wl (ro_pick rfl rfl rfl) ?_
      refine wl_nil (x_then (hK34 _ _ ?_))
      clear hK34 K34
      refine wc_condF rfl ?_
      refine c_skip (x_blk (x_blk (x_then (hK8 _ _ ?_))))
      clear hK8 K8
      refine c_reg ?_ -- region 5 code.go:25
      refine wl (ro_move rfl) ?_
      refine wl (ro_arith rfl rfl rfl (Go.IntWalk.i64_in _ (by omega))) ?_
      refine wl (ro_assign rfl) ?_
      refine wl_nil (x_then ?_)
      exact ⟨p.length - (pc + 1), by omega, pc + 1, rfl, by omega, hG, hF, kp _ ⟨rfl, rfl, trivial⟩⟩
    · skip
      have hok1 : pc + 1 < p.length := hok
      refine c_reg ?_ -- region 6 code.go:26
      refine wl (ro_move rfl) ?_
      refine wl (ro_move rfl) ?_
      refine wl (ro_indexAddr (et := 175) (k := 7) rfl rfl se_109 (rfl) (hc16)) ?_
      refine wl (ro_loadAggB rfl ag_175 (hG) (rfl) (hld)) ?_
      refine wl_new (ze_175) (fun xb w9 hbxb hX F9 => ?_)
      have hbsxb := Nat.le_trans hF.size hbxb
      have hnegbxb : gb < xb := Nat.lt_of_lt_of_le hG.lt hbxb
      replace hF := hF.thenDrew.thenN F9
      replace hG := F9.blkN hG
      refine wl_puta rfl rfl ((ric_cells _)) sz_175 (rfl) hX ((by simp)) (rfl) (fun w10 hX F10 => ?_)
      replace hF := hF.thenDrew.thenO F10 (by first | exact .inr (by omega) | exact .inl rfl | exact .inl (by assumption))
      replace hG := F10.blkO hG (by omega)
      refine wl_nil (x_then (hK9 _ _ ?_))
      clear hK9 K9
      refine forget [(0, _), (3, _), (4, _)] ⟨rfl, rfl, rfl, trivial⟩ (fun e => ?_)
      refine c_seq (fun K35 hK35 => ?_)
      refine c_reg ?_ -- region 7 code.go:27
      refine wl (ro_fieldAddr (k := 0) rfl fo_175_0) ?_
      refine wl (ro_loadB rfl sc_3 (hX) (rfl)) ?_
      refine wl_nil (x_then (hK35 _ _ ?_))
      clear hK35 K35
      refine c_block ?_
      refine c_seq (fun K36 hK36 => ?_)
      refine c_seq (fun K37 hK37 => ?_)
      refine c_reg ?_ -- region 9 code.go:28
      refine wl (ro_cmp rfl rfl rfl) ?_
      refine wl (ro_assign rfl) ?_
      refine wl_nil (x_then (hK37 _ _ ?_))
      clear hK37 K37
      refine wc_condF rfl ?_
      refine c_seq (fun K38 hK38 => ?_)
      refine c_reg ?_ -- region 10 code.go:28
      refine wl (ro_cmp rfl rfl rfl) ?_
      refine wl (ro_assign rfl) ?_
      refine wl_nil (x_then (hK38 _ _ ?_))
      clear hK38 K38
      refine wc_condT rfl ?_
      refine c_skip (x_then (hK36 _ _ ?_))
      clear hK36 K36
      refine wc_condT rfl ?_
      refine c_seq (fun K39 hK39 => ?_)
      refine c_reg ?_ -- region 12 code.go:29
      refine wl (ro_move rfl) ?_
      refine wl (ro_arith rfl rfl rfl (Go.IntWalk.i64_in _ (by omega))) ?_
      refine wl (ro_move rfl) ?_
      refine wl (ro_lenL rfl se_109) ?_
      refine wl (ro_cmp (r := false) rfl rfl (congrArg some (decide_eq_false (by omega)))) ?_
      refine wl_nil (x_then (hK39 _ _ ?_))
      clear hK39 K39
      refine wc_condF rfl ?_
      refine c_skip (x_blk (x_blk (x_then (hK8 _ _ ?_))))
      clear hK8 K8
      refine c_reg ?_ -- region 5 code.go:25
      refine wl (ro_move rfl) ?_
      refine wl (ro_arith rfl rfl rfl (Go.IntWalk.i64_in _ (by omega))) ?_
      refine wl (ro_assign rfl) ?_
      refine wl_nil (x_then ?_)
      exact ⟨p.length - (pc + 1), by omega, pc + 1, rfl, by omega, hG, hF, kp _ ⟨rfl, rfl, trivial⟩⟩
    · skip
      have hok1 : pc + 1 < p.length := hok
      refine c_reg ?_ -- region 6 code.go:26
      refine wl (ro_move rfl) ?_
      refine wl (ro_move rfl) ?_
      refine wl (ro_indexAddr (et := 175) (k := 7) rfl rfl se_109 (rfl) (hc16)) ?_
      refine wl (ro_loadAggB rfl ag_175 (hG) (rfl) (hld)) ?_
      refine wl_new (ze_175) (fun xb w11 hbxb hX F11 => ?_)
      have hbsxb := Nat.le_trans hF.size hbxb
      have hnegbxb : gb < xb := Nat.lt_of_lt_of_le hG.lt hbxb
      replace hF := hF.thenDrew.thenN F11
      replace hG := F11.blkN hG
      refine wl_puta rfl rfl ((ric_cells _)) sz_175 (rfl) hX ((by simp)) (rfl) (fun w12 hX F12 => ?_)
      replace hF := hF.thenDrew.thenO F12 (by first | exact .inr (by omega) | exact .inl rfl | exact .inl (by assumption))
      replace hG := F12.blkO hG (by omega)
      refine wl_nil (x_then (hK9 _ _ ?_))
      clear hK9 K9
      refine forget [(0, _), (3, _), (4, _)] ⟨rfl, rfl, rfl, trivial⟩ (fun e => ?_)
      refine c_seq (fun K40 hK40 => ?_)
      refine c_reg ?_ -- region 7 code.go:27
      refine wl (ro_fieldAddr (k := 0) rfl fo_175_0) ?_
      refine wl (ro_loadB rfl sc_3 (hX) (rfl)) ?_
      refine wl_nil (x_then (hK40 _ _ ?_))
      clear hK40 K40
      refine c_block ?_
      refine c_seq (fun K41 hK41 => ?_)
      refine c_seq (fun K42 hK42 => ?_)
      refine c_reg ?_ -- region 9 code.go:28
      refine wl (ro_cmp rfl rfl rfl) ?_
      refine wl (ro_assign rfl) ?_
      refine wl_nil (x_then (hK42 _ _ ?_))
      clear hK42 K42
      refine wc_condF rfl ?_
      refine c_seq (fun K43 hK43 => ?_)
      refine c_reg ?_ -- region 10 code.go:28
      refine wl (ro_cmp rfl rfl rfl) ?_
      refine wl (ro_assign rfl) ?_
      refine wl_nil (x_then (hK43 _ _ ?_))
      clear hK43 K43
      refine wc_condF rfl ?_
      refine c_reg ?_ -- region 11 code.go:28
      refine wl (ro_cmp rfl rfl rfl) ?_
      refine wl (ro_assign rfl) ?_
      refine wl_nil (x_then (hK41 _ _ ?_))
      clear hK41 K41
      refine wc_condT rfl ?_
      refine c_seq (fun K44 hK44 => ?_)
      refine c_reg ?_ -- region 12 code.go:29
      refine wl (ro_move rfl) ?_
      refine wl (ro_arith rfl rfl rfl (Go.IntWalk.i64_in _ (by omega))) ?_
      refine wl (ro_move rfl) ?_
      refine wl (ro_lenL rfl se_109) ?_
      refine wl (ro_cmp (r := false) rfl rfl (congrArg some (decide_eq_false (by omega)))) ?_
      refine wl_nil (x_then (hK44 _ _ ?_))
      clear hK44 K44
      refine wc_condF rfl ?_
      refine c_skip (x_blk (x_blk (x_then (hK8 _ _ ?_))))
      clear hK8 K8
      refine c_reg ?_ -- region 5 code.go:25
      refine wl (ro_move rfl) ?_
      refine wl (ro_arith rfl rfl rfl (Go.IntWalk.i64_in _ (by omega))) ?_
      refine wl (ro_assign rfl) ?_
      refine wl_nil (x_then ?_)
      exact ⟨p.length - (pc + 1), by omega, pc + 1, rfl, by omega, hG, hF, kp _ ⟨rfl, rfl, trivial⟩⟩
    · skip
      refine c_reg ?_ -- region 6 code.go:26
      refine wl (ro_move rfl) ?_
      refine wl (ro_move rfl) ?_
      refine wl (ro_indexAddr (et := 175) (k := 7) rfl rfl se_109 (rfl) (hc16)) ?_
      refine wl (ro_loadAggB rfl ag_175 (hG) (rfl) (hld)) ?_
      refine wl_new (ze_175) (fun xb w13 hbxb hX F13 => ?_)
      have hbsxb := Nat.le_trans hF.size hbxb
      have hnegbxb : gb < xb := Nat.lt_of_lt_of_le hG.lt hbxb
      replace hF := hF.thenDrew.thenN F13
      replace hG := F13.blkN hG
      refine wl_puta rfl rfl ((ric_cells _)) sz_175 (rfl) hX ((by simp)) (rfl) (fun w14 hX F14 => ?_)
      replace hF := hF.thenDrew.thenO F14 (by first | exact .inr (by omega) | exact .inl rfl | exact .inl (by assumption))
      replace hG := F14.blkO hG (by omega)
      refine wl_nil (x_then (hK9 _ _ ?_))
      clear hK9 K9
      refine forget [(0, _), (3, _), (4, _)] ⟨rfl, rfl, rfl, trivial⟩ (fun e => ?_)
      refine c_seq (fun K45 hK45 => ?_)
      refine c_reg ?_ -- region 7 code.go:27
      refine wl (ro_fieldAddr (k := 0) rfl fo_175_0) ?_
      refine wl (ro_loadB rfl sc_3 (hX) (rfl)) ?_
      refine wl_nil (x_then (hK45 _ _ ?_))
      clear hK45 K45
      refine c_block ?_
      refine c_seq (fun K46 hK46 => ?_)
      refine c_seq (fun K47 hK47 => ?_)
      refine c_reg ?_ -- region 9 code.go:28
      refine wl (ro_cmp rfl rfl rfl) ?_
      refine wl (ro_assign rfl) ?_
      refine wl_nil (x_then (hK47 _ _ ?_))
      clear hK47 K47
      refine wc_condF rfl ?_
      refine c_seq (fun K48 hK48 => ?_)
      refine c_reg ?_ -- region 10 code.go:28
      refine wl (ro_cmp rfl rfl rfl) ?_
      refine wl (ro_assign rfl) ?_
      refine wl_nil (x_then (hK48 _ _ ?_))
      clear hK48 K48
      refine wc_condF rfl ?_
      refine c_reg ?_ -- region 11 code.go:28
      refine wl (ro_cmp rfl rfl rfl) ?_
      refine wl (ro_assign rfl) ?_
      refine wl_nil (x_then (hK46 _ _ ?_))
      clear hK46 K46
      refine wc_condF rfl ?_
      refine c_seq (fun K49 hK49 => ?_)
      refine c_reg ?_ -- region 14 code.go:32
      refine wl (ro_cmp rfl rfl rfl) ?_
      refine wl (ro_assign rfl) ?_
      refine wl_nil (x_then (hK49 _ _ ?_))
      clear hK49 K49
      refine wc_condF rfl ?_
      refine c_seq (fun K50 hK50 => ?_)
      refine c_reg ?_ -- region 17 code.go:36
      refine wl (ro_cmp rfl rfl rfl) ?_
      refine wl (ro_assign rfl) ?_
      refine wl_nil (x_then (hK50 _ _ ?_))
      clear hK50 K50
      refine wc_condF rfl ?_
      refine c_seq (fun K51 hK51 => ?_)
      refine c_reg ?_ -- region 20 code.go:40
      refine wl (ro_cmp rfl rfl rfl) ?_
      refine wl (ro_assign rfl) ?_
      refine wl_nil (x_then (hK51 _ _ ?_))
      clear hK51 K51
      refine wc_condF rfl ?_
      refine c_seq (fun K52 hK52 => ?_)
      refine c_reg ?_ -- region 23 code.go:44
      refine wl (ro_cmp rfl rfl rfl) ?_
      refine wl (ro_assign rfl) ?_
      refine wl_nil (x_then (hK52 _ _ ?_))
      clear hK52 K52
      refine wc_condT rfl ?_
      refine c_skip (x_blk (x_blk (x_then (hK8 _ _ ?_))))
      clear hK8 K8
      refine c_reg ?_ -- region 5 code.go:25
      refine wl (ro_move rfl) ?_
      refine wl (ro_arith rfl rfl rfl (Go.IntWalk.i64_in _ (by omega))) ?_
      refine wl (ro_assign rfl) ?_
      refine wl_nil (x_then ?_)
      exact ⟨p.length - (pc + 1), by omega, pc + 1, rfl, by omega, hG, hF, kp _ ⟨rfl, rfl, trivial⟩⟩
  · try simp only [decide_eq_true_eq, decide_eq_false_iff_not, Bool.not_eq_true', Bool.not_eq_false', Bool.not_eq_eq_eq_not, Bool.not_true, Bool.not_false, beq_iff_eq, bne_iff_ne, ne_eq, beq_eq_false_iff_ne, bne_eq_false_iff_eq, gt_iff_lt, ge_iff_le, Int.not_lt, Int.not_le] at hc16
    refine c_exit (x_thenX (x_thenX (x_blkX (x_then (hK4 _ _ ?_)))))
    clear hK6 K6 hK4 K4
    refine forget [] trivial (fun e => ?_)
    refine c_seq (fun K53 hK53 => ?_)
    refine c_reg ?_ -- region 24 code.go:49
    refine wl (ro_assign rfl) ?_
    refine wl_nil (x_then (hK53 _ _ ?_))
    clear hK53 K53
    refine c_ret ?_
    refine bp_ret Tryz.results59 rfl ?_
    exact ⟨rfl, hF⟩

end Go.Proofs.Qxb6500567aGreat
