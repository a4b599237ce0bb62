import Derived.Test.Qxb6500568aGreatDoorTh
/- The check of the compiler: CheckMid. -/
namespace Go.Proofs.Qxb6500568aGreatDoor
open Ieee
set_option linter.unusedVariables false
set_option linter.unusedSimpArgs false
set_option linter.unusedSectionVars false

section
variable {w : World} {ow : Nat → Nat} {cb gb : Nat} {sp dp bv : Value} {t : Tr} {k : Nat} {R : List ZRow} {j : Nat} {r : ZRow} {m : ZFn}
theorem FV.c7 (h : FV w ow cb gb sp dp bv t k R j r m) : ∃ b, (rws fnc R)[j * 11 + 7]? = some (.map (some b)) ∧ MF u64c u16c w.heap b (numF (fsAt (progF t (k + 1)) j).ks) := by
  obtain ⟨b, q1, q2, -⟩ := h.fo.nums
  rw [h.fo.ks] at q2
  exact ⟨b, h.cell 7 (by decide) (by show some r.nums = _; rw [q1]), q2⟩
theorem FV.c8 (h : FV w ow cb gb sp dp bv t k R j r m) : ∃ b, (rws fnc R)[j * 11 + 8]? = some (.map (some b)) ∧ MF S u16c w.heap b (strF (fsAt (progF t (k + 1)) j).ks) := by
  obtain ⟨b, q1, q2, -⟩ := h.fo.strs
  rw [h.fo.ks] at q2
  exact ⟨b, h.cell 8 (by decide) (by show some r.strs = _; rw [q1]), q2⟩
set_option maxHeartbeats 32000000 in
theorem compMid96 (h : FV w ow cb gb sp dp bv t k R j r m) (hall : ∀ y, y ≤ k → ∃ r m, FV w ow cb gb sp dp bv t k R y r m) (hln : (progF t (k + 1)).length = k + 1) :
    Ret Tryz.prog 96 [ptrAt gb (j * 11)] w (fun r w' => r = .bool true ∧ Fram none' w w') := by
  have hF : Fram none' w w := Fram.refl _ _
  have hG := h.hG
  have hG0 := h.hG
  have c1 := h.c1
  have c2 := h.c2
  obtain ⟨la, lc, c3⟩ := h.c3
  have c4 := h.c4
  obtain ⟨ua, uc, c5, oU⟩ := h.c5
  obtain ⟨ka, kc, c6, oK⟩ := h.c6
  obtain ⟨bn, c7, mN⟩ := h.c7
  obtain ⟨bs, c8, mS⟩ := h.c8
  obtain ⟨ca, cc, c9, oC⟩ := h.c9
  obtain ⟨pa, pc, c10⟩ := h.c10
  obtain ⟨⟨f1, f2, f3, f4, f5, f6⟩, fk, fnd, fu0, fup, ⟨z, hz, hz5, hins, -⟩⟩ := h.ck
  have hj13 := h.j13
  have hul : (fsAt (progF t (k + 1)) j).ups.length ≤ 144 := by
    obtain ⟨d, hd, hu⟩ := f6
    have := hu.len
    omega
  have hund : (fsAt (progF t (k + 1)) j).ups.Nodup := by
    obtain ⟨d, hd, hu⟩ := f6
    exact hu.1
  have hucap : (fsAt (progF t (k + 1)) j).ups.length ≤ uc := oU.capge
  generalize hfs : fsAt (progF t (k + 1)) j = f at *
  refine ret_of Tryz.func96 rfl Tryz.ntmps96 rfl ?_
  refine c_seq (fun K1 hK1 => ?_)
  refine c_reg ?_ -- region 0 check.go:80
  refine wl (ro_assign rfl) ?_
  refine wl_nil (x_then (hK1 _ _ ?_))
  clear hK1 K1
  refine c_seq (fun K2 hK2 => ?_)
  refine c_seq (fun K3 hK3 => ?_)
  refine c_pi [(0, false), (1, false), (2, false), (3, false), (4, false), (5, false), (6, false), (7, false), (8, false), (9, false), (10, false), (11, false), (12, false), (13, false), (14, false), (15, false), (16, false), (17, false), (18, false), (19, false), (20, false), (21, false), (22, false), (23, false), (24, false), (25, false), (26, false), (27, false), (28, false), (29, false), (30, false), (31, false), (32, false), (33, false), (34, false), (35, false)] (SameH _) mixed (by kernel_rfl) rfl (by kernel_rfl) (po_then (po_then (po_bp))) (sameH_now _ _) ?_ -- region 1 check.go:81
  refine pi_ro rfl (fun w hS => ro_move rfl) ?_
  refine pi_ro rfl (fun w hS => ro_nilCheck rfl) ?_
  refine pi_ro rfl (fun w hS => ro_fieldAddr (k := 2) rfl fo_199_2) ?_
  refine pi_ro rfl (fun w hS => ro_loadB rfl sc_3 (Blk.of_heap hG hS) (c2)) ?_
  refine pi_ro rfl (fun w hS => ro_cmp (r := false) rfl rfl (congrArg some (decide_eq_false (by omega)))) ?_
  refine pi_ro rfl (fun w hS => ro_move rfl) ?_
  refine pi_gyes rfl rfl (fun w hS => ro_move rfl) ?_
  refine pi_gyes rfl rfl (fun w hS => ro_nilCheck rfl) ?_
  refine pi_gyes rfl rfl (fun w hS => ro_fieldAddr (k := 2) rfl fo_199_2) ?_
  refine pi_gyes rfl rfl (fun w hS => ro_loadB rfl sc_3 (Blk.of_heap hG hS) (c2)) ?_
  refine pi_gyes rfl rfl (fun w hS => ro_move rfl) ?_
  refine pi_gyes rfl rfl (fun w hS => ro_nilCheck rfl) ?_
  refine pi_gyes rfl rfl (fun w hS => ro_fieldAddr (k := 3) rfl fo_199_3) ?_
  refine pi_gyes rfl rfl (fun w hS => ro_loadB rfl sc_192 (Blk.of_heap hG hS) (c3)) ?_
  refine pi_gyes rfl rfl (fun w hS => ro_lenL rfl se_192) ?_
  refine pi_gyes rfl rfl (fun w hS => ro_cmp (r := false) rfl rfl (congrArg some (decide_eq_false (by omega)))) ?_
  refine pi_ro rfl (fun w hS => ro_pick rfl rfl rfl) ?_
  refine pi_ro rfl (fun w hS => ro_move rfl) ?_
  refine pi_gyes rfl rfl (fun w hS => ro_move rfl) ?_
  refine pi_gyes rfl rfl (fun w hS => ro_nilCheck rfl) ?_
  refine pi_gyes rfl rfl (fun w hS => ro_fieldAddr (k := 3) rfl fo_199_3) ?_
  refine pi_gyes rfl rfl (fun w hS => ro_loadB rfl sc_192 (Blk.of_heap hG hS) (c3)) ?_
  refine pi_gyes rfl rfl (fun w hS => ro_lenL rfl se_192) ?_
  refine pi_gyes rfl rfl (fun w hS => ro_move rfl) ?_
  refine pi_gyes rfl rfl (fun w hS => ro_nilCheck rfl) ?_
  refine pi_gyes rfl rfl (fun w hS => ro_fieldAddr (k := 4) rfl fo_199_4) ?_
  refine pi_gyes rfl rfl (fun w hS => ro_loadB rfl sc_3 (Blk.of_heap hG hS) (c4)) ?_
  refine pi_gyes rfl rfl (fun w hS => ro_cmp (r := false) rfl rfl (congrArg some (decide_eq_false (by omega)))) ?_
  refine pi_ro rfl (fun w hS => ro_pick rfl rfl rfl) ?_
  refine pi_ro rfl (fun w hS => ro_move rfl) ?_
  refine pi_gyes rfl rfl (fun w hS => ro_move rfl) ?_
  refine pi_gyes rfl rfl (fun w hS => ro_nilCheck rfl) ?_
  refine pi_gyes rfl rfl (fun w hS => ro_fieldAddr (k := 4) rfl fo_199_4) ?_
  refine pi_gyes rfl rfl (fun w hS => ro_loadB rfl sc_3 (Blk.of_heap hG hS) (c4)) ?_
  refine pi_gyes rfl rfl (fun w hS => ro_cmp (r := false) rfl rfl (congrArg some (decide_eq_false (by omega)))) ?_
  refine pi_ro rfl (fun w hS => ro_pick rfl rfl rfl) ?_
  refine pi_nil (x_then (hK3 _ _ ?_))
  clear hK3 K3
  refine wc_condF rfl ?_
  refine c_skip (x_then (hK2 _ _ ?_))
  clear hK2 K2
  refine c_seq (fun K4 hK4 => ?_)
  refine c_seq (fun K5 hK5 => ?_)
  refine c_reg ?_ -- region 3 check.go:84
  refine wl (ro_move rfl) ?_
  refine wl (ro_nilCheck rfl) ?_
  refine wl (ro_fieldAddr (k := 5) rfl fo_199_5) ?_
  refine wl (ro_loadB rfl sc_193 (hG) (c5)) ?_
  refine wl (ro_lenL rfl se_193) ?_
  refine wl (ro_cmp (r := false) rfl rfl (congrArg some (decide_eq_false (by omega)))) ?_
  refine wl (ro_move rfl) ?_
  refine wlg_yes rfl (ro_move rfl) ?_
  refine wlg_yes rfl (ro_nilCheck rfl) ?_
  refine wlg_yes rfl (ro_fieldAddr (k := 6) rfl fo_199_6) ?_
  refine wlg_yes rfl (ro_loadB rfl sc_83 (hG) (c6)) ?_
  refine wlg_yes rfl (ro_lenL rfl se_83) ?_
  refine wlg_yes rfl (ro_cmp (r := false) rfl rfl (congrArg some (decide_eq_false (by omega)))) ?_
  refine wl (ro_pick rfl rfl rfl) ?_
  refine wl (ro_move rfl) ?_
  refine wlg_yes rfl (ro_move rfl) ?_
  refine wlg_yes rfl (ro_nilCheck rfl) ?_
  refine wlg_yes rfl (ro_fieldAddr (k := 9) rfl fo_199_9) ?_
  refine wlg_yes rfl (ro_loadB rfl sc_196 (hG) (c9)) ?_
  refine wlg_yes rfl (ro_lenL rfl se_196) ?_
  refine wlg_yes rfl (ro_cmp (r := false) rfl rfl (congrArg some (decide_eq_false (by omega)))) ?_
  refine wl (ro_pick rfl rfl rfl) ?_
  refine wl (ro_move rfl) ?_
  refine wlg_yes rfl (ro_move rfl) ?_
  refine wlg_yes rfl (ro_nilCheck rfl) ?_
  refine wlg_yes rfl (ro_fieldAddr (k := 10) rfl fo_199_10) ?_
  refine wlg_yes rfl (ro_loadB rfl sc_197 (hG) (c10)) ?_
  refine wlg_yes rfl (ro_lenL rfl se_197) ?_
  refine wlg_yes rfl (ro_cmp (r := false) rfl rfl rfl) ?_
  refine wl (ro_pick rfl rfl rfl) ?_
  refine wl_nil (x_then (hK5 _ _ ?_))
  clear hK5 K5
  refine wc_condF rfl ?_
  refine c_skip (x_then (hK4 _ _ ?_))
  clear hK4 K4
  refine c_seq (fun K6 hK6 => ?_)
  refine c_seq (fun K7 hK7 => ?_)
  refine c_reg ?_ -- region 5 check.go:87
  refine wl (ro_move rfl) ?_
  refine wl (ro_nilCheck rfl) ?_
  refine wl (ro_fieldAddr (k := 5) rfl fo_199_5) ?_
  refine wl (ro_loadB rfl sc_193 (hG) (c5)) ?_
  refine wl (ro_lenL rfl se_193) ?_
  refine wl (ro_move rfl) ?_
  refine wl_nil (x_then (hK7 _ _ ?_))
  clear hK7 K7
  refine c_block ?_
  -- loop@r6: live slots [0, 85, 86, 87]
  refine c_loopG (fun n a' w' => ∃ i, n = f.ups.length - i ∧ i ≤ f.ups.length ∧ Fram none' w w' ∧ ∃ e, a' = Fr 262 (upds e [(0, ptrAt gb (j * 11)), (85, .slice ua f.ups.length uc), (86, i64c f.ups.length), (87, i64c i)]) []) f.ups.length ⟨0, rfl, Nat.zero_le _, hF.thenDrew, kp _ ⟨rfl, rfl, rfl, rfl, trivial⟩⟩ ?_
  clear hF hG
  rintro n a' u1 ⟨i, rfl, hi, hF, e, rfl⟩
  have hG := hF.blkN hG0
  refine c_seq (fun K8 hK8 => ?_)
  refine c_reg ?_ -- region 6 check.go:87
  refine wl (ro_cmp rfl rfl rfl) ?_
  refine wl_nil (x_then (hK8 _ _ ?_))
  clear hK8 K8
  refine forget [(0, _), (85, _), (86, _), (87, _), (88, _)] ⟨rfl, rfl, rfl, rfl, rfl, trivial⟩ (fun e => ?_)
  refine c_seq (fun K9 hK9 => ?_)
  refine wc_cond rfl (fun hc88 => ?_) (fun hc88 => ?_)
  · try simp only [decide_eq_true_eq, decide_eq_false_iff_not, Bool.not_eq_true', Bool.not_eq_false', Bool.not_eq_eq_eq_not, Bool.not_true, Bool.not_false, beq_iff_eq, bne_iff_ne, ne_eq, beq_eq_false_iff_ne, bne_eq_false_iff_eq, gt_iff_lt, ge_iff_le, Int.not_lt, Int.not_le] at hc88
    have hlt : i < f.ups.length := by omega
    obtain ⟨⟨dk, dx⟩, hd⟩ : ∃ d, f.ups[i]? = some d := ⟨_, List.getElem?_eq_getElem hlt⟩
    obtain ⟨ug, ucap, ul, ev, hU, k1, k2, k3, k4, k5⟩ := OwT.at upc_len oU hd
    have hU0 := hU
    have hj0 : j ≠ 0 := fun q => by rw [fu0 q] at hd; cases hd
    obtain ⟨hpl, hups⟩ := fup hj0
    obtain ⟨pr', pm', hp⟩ := hall (paF (paL t 0) j) (by have := h.jk; omega)
    have p4 := hp.c4
    obtain ⟨pua, puc, p5, -⟩ := hp.c5
    have hdd := hups i dk dx hd
    have hdx : dx < 256 := by
      obtain ⟨d, hd2, hu⟩ := f6
      rcases hu.2 (dk, dx) (List.mem_of_getElem? hd) with q | q
      · have := q.2.1; simp only at this; omega
      · have := q.2; simp only at this; omega
    rw [if_neg hj0] at c1
    cases ev
    replace hU := hF.blkN hU
    refine c_skip (x_then (hK9 _ _ ?_))
    clear hK9 K9
    refine forget [(0, _), (85, _), (86, _), (87, _)] ⟨rfl, rfl, rfl, rfl, trivial⟩ (fun e => ?_)
    refine c_seq (fun K10 hK10 => ?_)
    refine c_block ?_
    refine c_seq (fun K11 hK11 => ?_)
    refine c_reg ?_ -- region 7 check.go:87
    refine wl (ro_move rfl) ?_
    refine wl (ro_indexAddr (et := 205) (k := 2) rfl rfl se_193 (rfl) (hlt)) ?_
    refine wl (ro_loadAggB rfl ag_205 (hU) ((upc_len _)) ((k5 i _ hd))) ?_
    refine wl_new (ze_205) (fun b4 w1 hbb4 h4 F1 => ?_)
    have hbsb4 := Nat.le_trans hF.size hbb4
    have hnegbb4 : gb < b4 := Nat.lt_of_lt_of_le hG.lt hbb4
    have hneugb4 : ug < b4 := Nat.lt_of_lt_of_le hU.lt hbb4
    replace hF := hF.thenDrew.thenN F1
    replace hG := F1.blkN hG
    replace hU := F1.blkN hU
    refine wl (ro_assign rfl) ?_
    refine wl_puta rfl rfl ((upc_one (dk, dx))) sz_205 (rfl) h4 ((by simp)) (rfl) (fun w2 h4 F2 => ?_)
    replace hF := hF.thenDrew.thenO F2 (by first | exact .inr (by omega) | exact .inl rfl | exact .inl (by assumption) | assumption)
    replace hG := F2.blkO hG (by omega)
    replace hU := F2.blkO hU (by omega)
    refine wl_nil (x_then (hK11 _ _ ?_))
    clear hK11 K11
    refine c_seq (fun K12 hK12 => ?_)
    refine c_seq (fun K13 hK13 => ?_)
    refine c_reg ?_ -- region 8 check.go:88
    refine wl (ro_move rfl) ?_
    refine wl (ro_nilCheck rfl) ?_
    refine wl (ro_fieldAddr (k := 1) rfl fo_199_1) ?_
    refine wl (ro_loadB rfl sc_128 (hG) (c1)) ?_
    refine wl (ro_eqPtrNil (r := false) rfl pt_128 rfl) ?_
    refine wl (ro_move rfl) ?_
    refine wlg_yes rfl (ro_indexAddrA (et := 5) (k := 1) rfl rfl ar_205 (rfl) ((by decide))) ?_
    refine wlg_yes rfl (ro_loadB rfl sc_5 (h4) (rfl)) ?_
    refine wlg_yes rfl (ro_cmp (r := false) rfl rfl (congrArg some (decide_eq_false (by omega)))) ?_
    refine wl (ro_pick rfl rfl rfl) ?_
    refine wl_nil (x_then (hK13 _ _ ?_))
    clear hK13 K13
    refine wc_condF rfl ?_
    refine c_skip (x_then (hK12 _ _ ?_))
    clear hK12 K12
    refine c_seq (fun K14 hK14 => ?_)
    refine c_seq (fun K15 hK15 => ?_)
    rcases hdd with ⟨hdk, hdl⟩ | ⟨hdk, hdl⟩
    · skip
      refine c_pi [(0, false), (1, false), (2, false), (3, false), (4, false), (5, false), (6, false), (7, false), (8, false), (9, false), (10, false), (11, false), (12, false), (13, false), (14, false), (15, false), (16, false), (17, false), (18, false), (19, false), (20, false), (21, false), (22, false), (23, false), (24, false), (25, false), (26, false), (27, false), (28, false), (29, false), (30, false), (31, false), (32, false), (33, false), (34, false)] (SameH _) mixed (by kernel_rfl) rfl (by kernel_rfl) (po_then (po_then (po_blk (po_then (po_then (po_blk (po_then (po_bp)))))))) (sameH_now _ _) ?_ -- region 10 check.go:91
      refine pi_ro rfl (fun w hS => ro_indexAddrA (et := 5) (k := 1) rfl rfl ar_205 (rfl) ((by decide))) ?_
      refine pi_ro rfl (fun w hS => ro_loadB rfl sc_5 (Blk.of_heap h4 hS) (rfl)) ?_
      refine pi_ro rfl (fun w hS => ro_cmp (r := true) rfl rfl (congrArg some (decide_eq_true (by omega)))) ?_
      refine pi_ro rfl (fun w hS => ro_move rfl) ?_
      refine pi_gyes rfl rfl (fun w hS => ro_indexAddrA (et := 5) (k := 1) rfl rfl ar_205 (rfl) ((by decide))) ?_
      refine pi_gyes rfl rfl (fun w hS => ro_loadB rfl sc_5 (Blk.of_heap h4 hS) (rfl)) ?_
      refine pi_gyes rfl rfl (fun w hS => ro_conv (a := (dx : Int)) rfl sc_5 in_3 (Go.IntWalk.i64_in _ (by omega))) ?_
      refine pi_gyes rfl rfl (fun w hS => ro_move rfl) ?_
      refine pi_gyes rfl rfl (fun w hS => ro_nilCheck rfl) ?_
      refine pi_gyes rfl rfl (fun w hS => ro_fieldAddr (k := 1) rfl fo_199_1) ?_
      refine pi_gyes rfl rfl (fun w hS => ro_loadB rfl sc_128 (Blk.of_heap hG hS) (c1)) ?_
      refine pi_gyes rfl rfl (fun w hS => ro_nilCheck rfl) ?_
      refine pi_gyes rfl rfl (fun w hS => ro_fieldAddr (k := 4) rfl fo_199_4) ?_
      refine pi_gyes rfl rfl (fun w hS => ro_loadB rfl sc_3 (Blk.of_heap hG hS) (p4)) ?_
      refine pi_gyes rfl rfl (fun w hS => ro_cmp (r := false) rfl rfl (congrArg some (decide_eq_false (by omega)))) ?_
      refine pi_ro rfl (fun w hS => ro_pick rfl rfl rfl) ?_
      refine pi_ro rfl (fun w hS => ro_move rfl) ?_
      refine pi_gyes rfl rfl (fun w hS => ro_indexAddrA (et := 5) (k := 1) rfl rfl ar_205 (rfl) ((by decide))) ?_
      refine pi_gyes rfl rfl (fun w hS => ro_loadB rfl sc_5 (Blk.of_heap h4 hS) (rfl)) ?_
      refine pi_gyes rfl rfl (fun w hS => ro_cmp (r := false) rfl rfl (congrArg some (decide_eq_false (by omega)))) ?_
      refine pi_gyes rfl rfl (fun w hS => ro_move rfl) ?_
      refine pi_gno rfl rfl ?_
      refine pi_gno rfl rfl ?_
      refine pi_gno rfl rfl ?_
      refine pi_gno rfl rfl ?_
      refine pi_gno rfl rfl ?_
      refine pi_gno rfl rfl ?_
      refine pi_gno rfl rfl ?_
      refine pi_gno rfl rfl ?_
      refine pi_gno rfl rfl ?_
      refine pi_gno rfl rfl ?_
      refine pi_gno rfl rfl ?_
      refine pi_gno rfl rfl ?_
      refine pi_gyes rfl rfl (fun w hS => ro_pick rfl rfl rfl) ?_
      refine pi_ro rfl (fun w hS => ro_pick rfl rfl rfl) ?_
      refine pi_nil (x_then (hK15 _ _ ?_))
      clear hK15 K15
      refine wc_condF rfl ?_
      refine c_skip (x_then (hK14 _ _ ?_))
      clear hK14 K14
      refine forget [(0, _), (3, _), (4, _), (85, _), (86, _), (87, _), (98, _), (99, _), (100, _), (106, _), (107, _), (108, _), (109, _), (110, _), (111, _), (112, _), (113, _), (114, _), (115, _), (116, _), (119, _), (120, _), (121, _), (122, _), (135, _)] ⟨rfl, rfl, rfl, rfl, rfl, rfl, rfl, rfl, rfl, rfl, rfl, rfl, rfl, rfl, rfl, rfl, rfl, rfl, rfl, rfl, rfl, rfl, rfl, rfl, rfl, trivial⟩ (fun e => ?_)
      refine c_seq (fun K16 hK16 => ?_)
      refine c_reg ?_ -- region 12 check.go:94
      refine wl (ro_move rfl) ?_
      refine wl (ro_nilCheck rfl) ?_
      refine wl (ro_fieldAddr (k := 5) rfl fo_199_5) ?_
      refine wl (ro_loadB rfl sc_193 (hG) (c5)) ?_
      refine wl (ro_move rfl) ?_
      refine wl (ro_sliceH (h := i) rfl rfl se_193 rfl (by omega)) ?_
      refine wl (ro_lenL rfl se_193) ?_
      refine wl (ro_move rfl) ?_
      refine wl_nil (x_then (hK16 _ _ ?_))
      clear hK16 K16
      refine c_block ?_
      -- loop@r13: live slots [0, 4, 85, 86, 87, 98, 99, 100, 106, 107, 108, 109, 110, 111, 112, 113, 114, 115, 116, 119, 120, 121, 122, 135, 142, 143, 144]
      refine c_loopG (fun n a' w' => ∃ i2, n = i - i2 ∧ i2 ≤ i ∧ Fram none' w w' ∧ Blk w'.heap b4 (upc (dk, dx)) 205 ∧ ∃ e, a' = Fr 262 (upds e [(0, ptrAt gb (j * 11)), (4, ptr b4), (85, .slice (some ⟨ug, 0, none⟩) f.ups.length uc), (86, i64c f.ups.length), (87, i64c i), (142, .slice (some ⟨ug, 0, none⟩) i uc), (143, i64c i), (144, i64c i2)]) []) i ⟨0, rfl, Nat.zero_le _, hF.thenDrew, h4, kp _ ⟨rfl, rfl, rfl, rfl, rfl, rfl, rfl, rfl, trivial⟩⟩ ?_
      clear hF hG h4 hU
      rintro n2 a2 u2 ⟨i2, rfl, hi2, hF, h4, e2, rfl⟩
      have hG := hF.blkN hG0
      have hU := hF.blkN hU0
      refine c_seq (fun K17 hK17 => ?_)
      refine c_reg ?_ -- region 13 check.go:94
      refine wl (ro_cmp rfl rfl rfl) ?_
      refine wl_nil (x_then (hK17 _ _ ?_))
      clear hK17 K17
      refine forget [(0, _), (4, _), (85, _), (86, _), (87, _), (142, _), (143, _), (144, _), (145, _)] ⟨rfl, rfl, rfl, rfl, rfl, rfl, rfl, rfl, rfl, trivial⟩ (fun e => ?_)
      refine c_seq (fun K18 hK18 => ?_)
      refine wc_cond rfl (fun hc145 => ?_) (fun hc145 => ?_)
      · try simp only [decide_eq_true_eq, decide_eq_false_iff_not, Bool.not_eq_true', Bool.not_eq_false', Bool.not_eq_eq_eq_not, Bool.not_true, Bool.not_false, beq_iff_eq, bne_iff_ne, ne_eq, beq_eq_false_iff_ne, bne_eq_false_iff_eq, gt_iff_lt, ge_iff_le, Int.not_lt, Int.not_le] at hc145
        have hlt2 : i2 < i := by omega
        obtain ⟨⟨ek, ex⟩, he⟩ : ∃ d, f.ups[i2]? = some d := ⟨_, List.getElem?_eq_getElem (by omega)⟩
        have hne : ¬ (ek = dk ∧ ex = dx) := fun q => by
          obtain ⟨l1, e1⟩ := List.getElem?_eq_some_iff.1 he
          obtain ⟨l2, e2⟩ := List.getElem?_eq_some_iff.1 hd
          have hp := hund
          unfold List.Nodup at hp
          rw [List.pairwise_iff_getElem] at hp
          exact hp i2 i l1 l2 hlt2 (by rw [e1, e2, q.1, q.2])
        refine c_skip (x_then (hK18 _ _ ?_))
        clear hK18 K18
        refine forget [(0, _), (4, _), (85, _), (86, _), (87, _), (142, _), (143, _), (144, _)] ⟨rfl, rfl, rfl, rfl, rfl, rfl, rfl, rfl, trivial⟩ (fun e => ?_)
        refine c_seq (fun K19 hK19 => ?_)
        refine c_block ?_
        refine c_seq (fun K20 hK20 => ?_)
        refine c_reg ?_ -- region 14 check.go:94
        refine wl (ro_indexAddr (et := 205) (k := 2) rfl rfl se_193 (rfl) (hlt2)) ?_
        refine wl (ro_loadAggB rfl ag_205 (hU) ((upc_len _)) ((k5 i2 _ he))) ?_
        refine wl_new (ze_205) (fun b6 w3 hbb6 h6 F3 => ?_)
        have hbsb6 := Nat.le_trans hF.size hbb6
        have hnegbb6 : gb < b6 := Nat.lt_of_lt_of_le hG.lt hbb6
        have hneugb6 : ug < b6 := Nat.lt_of_lt_of_le hU.lt hbb6
        have hneb4b6 : b4 < b6 := Nat.lt_of_lt_of_le h4.lt hbb6
        replace hF := hF.thenDrew.thenN F3
        replace hG := F3.blkN hG
        replace hU := F3.blkN hU
        replace h4 := F3.blkN h4
        refine wl_puta rfl rfl ((upc_one (ek, ex))) sz_205 (rfl) h6 ((by simp)) (rfl) (fun w4 h6 F4 => ?_)
        replace hF := hF.thenDrew.thenO F4 (by first | exact .inr (by omega) | exact .inl rfl | exact .inl (by assumption) | assumption)
        replace hG := F4.blkO hG (by omega)
        replace hU := F4.blkO hU (by omega)
        replace h4 := F4.blkO h4 (by omega)
        refine wl_nil (x_then (hK20 _ _ ?_))
        clear hK20 K20
        refine forget [(0, _), (4, _), (6, _), (85, _), (86, _), (87, _), (142, _), (143, _), (144, _)] ⟨rfl, rfl, rfl, rfl, rfl, rfl, rfl, rfl, rfl, trivial⟩ (fun e => ?_)
        refine c_seq (fun K21 hK21 => ?_)
        refine c_reg ?_ -- region 15 check.go:95
        refine wl (ro_loadAggB rfl ag_205 (h6) (rfl) (rfl)) ?_
        refine wl (ro_loadAggB rfl ag_205 (h4) (rfl) (rfl)) ?_
        refine wl (ro_eqArr2 (r := false) rfl rfl ar_205 in_5 (by kernel_rfl) (congrArg some (by simp; omega))) ?_
        refine wl_nil (x_then (hK21 _ _ ?_))
        clear hK21 K21
        refine wc_condF rfl ?_
        refine c_skip (x_blk (x_then (hK19 _ _ ?_)))
        clear hK19 K19
        refine c_reg ?_ -- region 17 check.go:94
        refine wl (ro_adT (m := i2) (k := 1) rfl rfl (by omega)) ?_
        refine wl (ro_move rfl) ?_
        refine wl_nil (x_then ?_)
        exact ⟨i - (i2 + 1), by omega, i2 + 1, rfl, by omega, hF, h4, kp _ ⟨rfl, rfl, rfl, rfl, rfl, rfl, rfl, rfl, trivial⟩⟩
      · try simp only [decide_eq_true_eq, decide_eq_false_iff_not, Bool.not_eq_true', Bool.not_eq_false', Bool.not_eq_eq_eq_not, Bool.not_true, Bool.not_false, beq_iff_eq, bne_iff_ne, ne_eq, beq_eq_false_iff_ne, bne_eq_false_iff_eq, gt_iff_lt, ge_iff_le, Int.not_lt, Int.not_le] at hc145
        refine c_exit (x_thenX (x_thenX (x_blkX (x_blk (x_then (hK10 _ _ ?_))))))
        clear hK18 K18 hK10 K10
        refine c_reg ?_ -- region 18 check.go:87
        refine wl (ro_adT (m := i) (k := 1) rfl rfl (by omega)) ?_
        refine wl (ro_move rfl) ?_
        refine wl_nil (x_then ?_)
        exact ⟨f.ups.length - (i + 1), by omega, i + 1, rfl, by omega, hF, kp _ ⟨rfl, rfl, rfl, rfl, trivial⟩⟩
    · skip
      refine c_pi [(0, false), (1, false), (2, false), (3, false), (4, false), (5, false), (6, false), (7, false), (8, false), (9, false), (10, false), (11, false), (12, false), (13, false), (14, false), (15, false), (16, false), (17, false), (18, false), (19, false), (20, false), (21, false), (22, false), (23, false), (24, false), (25, false), (26, false), (27, false), (28, false), (29, false), (30, false), (31, false), (32, false), (33, false), (34, false)] (SameH _) mixed (by kernel_rfl) rfl (by kernel_rfl) (po_then (po_then (po_blk (po_then (po_then (po_blk (po_then (po_bp)))))))) (sameH_now _ _) ?_ -- region 10 check.go:91
      refine pi_ro rfl (fun w hS => ro_indexAddrA (et := 5) (k := 1) rfl rfl ar_205 (rfl) ((by decide))) ?_
      refine pi_ro rfl (fun w hS => ro_loadB rfl sc_5 (Blk.of_heap h4 hS) (rfl)) ?_
      refine pi_ro rfl (fun w hS => ro_cmp (r := false) rfl rfl (congrArg some (decide_eq_false (by omega)))) ?_
      refine pi_ro rfl (fun w hS => ro_move rfl) ?_
      refine pi_gno rfl rfl ?_
      refine pi_gno rfl rfl ?_
      refine pi_gno rfl rfl ?_
      refine pi_gno rfl rfl ?_
      refine pi_gno rfl rfl ?_
      refine pi_gno rfl rfl ?_
      refine pi_gno rfl rfl ?_
      refine pi_gno rfl rfl ?_
      refine pi_gno rfl rfl ?_
      refine pi_gno rfl rfl ?_
      refine pi_gno rfl rfl ?_
      refine pi_ro rfl (fun w hS => ro_pick rfl rfl rfl) ?_
      refine pi_ro rfl (fun w hS => ro_move rfl) ?_
      refine pi_gyes rfl rfl (fun w hS => ro_indexAddrA (et := 5) (k := 1) rfl rfl ar_205 (rfl) ((by decide))) ?_
      refine pi_gyes rfl rfl (fun w hS => ro_loadB rfl sc_5 (Blk.of_heap h4 hS) (rfl)) ?_
      refine pi_gyes rfl rfl (fun w hS => ro_cmp (r := true) rfl rfl (congrArg some (decide_eq_true (by omega)))) ?_
      refine pi_gyes rfl rfl (fun w hS => ro_move rfl) ?_
      refine pi_gyes rfl rfl (fun w hS => ro_indexAddrA (et := 5) (k := 1) rfl rfl ar_205 (rfl) ((by decide))) ?_
      refine pi_gyes rfl rfl (fun w hS => ro_loadB rfl sc_5 (Blk.of_heap h4 hS) (rfl)) ?_
      refine pi_gyes rfl rfl (fun w hS => ro_conv (a := (dx : Int)) rfl sc_5 in_3 (Go.IntWalk.i64_in _ (by omega))) ?_
      refine pi_gyes rfl rfl (fun w hS => ro_move rfl) ?_
      refine pi_gyes rfl rfl (fun w hS => ro_nilCheck rfl) ?_
      refine pi_gyes rfl rfl (fun w hS => ro_fieldAddr (k := 1) rfl fo_199_1) ?_
      refine pi_gyes rfl rfl (fun w hS => ro_loadB rfl sc_128 (Blk.of_heap hG hS) (c1)) ?_
      refine pi_gyes rfl rfl (fun w hS => ro_nilCheck rfl) ?_
      refine pi_gyes rfl rfl (fun w hS => ro_fieldAddr (k := 5) rfl fo_199_5) ?_
      refine pi_gyes rfl rfl (fun w hS => ro_loadB rfl sc_193 (Blk.of_heap hG hS) (p5)) ?_
      refine pi_gyes rfl rfl (fun w hS => ro_lenL rfl se_193) ?_
      refine pi_gyes rfl rfl (fun w hS => ro_cmp (r := false) rfl rfl (congrArg some (decide_eq_false (by omega)))) ?_
      refine pi_gyes rfl rfl (fun w hS => ro_pick rfl rfl rfl) ?_
      refine pi_ro rfl (fun w hS => ro_pick rfl rfl rfl) ?_
      refine pi_nil (x_then (hK15 _ _ ?_))
      clear hK15 K15
      refine wc_condF rfl ?_
      refine c_skip (x_then (hK14 _ _ ?_))
      clear hK14 K14
      refine forget [(0, _), (3, _), (4, _), (85, _), (86, _), (87, _), (98, _), (99, _), (100, _), (119, _), (120, _), (121, _), (122, _), (123, _), (124, _), (125, _), (126, _), (127, _), (128, _), (129, _), (130, _), (131, _), (132, _), (133, _), (134, _), (135, _)] ⟨rfl, rfl, rfl, rfl, rfl, rfl, rfl, rfl, rfl, rfl, rfl, rfl, rfl, rfl, rfl, rfl, rfl, rfl, rfl, rfl, rfl, rfl, rfl, rfl, rfl, rfl, trivial⟩ (fun e => ?_)
      refine c_seq (fun K22 hK22 => ?_)
      refine c_reg ?_ -- region 12 check.go:94
      refine wl (ro_move rfl) ?_
      refine wl (ro_nilCheck rfl) ?_
      refine wl (ro_fieldAddr (k := 5) rfl fo_199_5) ?_
      refine wl (ro_loadB rfl sc_193 (hG) (c5)) ?_
      refine wl (ro_move rfl) ?_
      refine wl (ro_sliceH (h := i) rfl rfl se_193 rfl (by omega)) ?_
      refine wl (ro_lenL rfl se_193) ?_
      refine wl (ro_move rfl) ?_
      refine wl_nil (x_then (hK22 _ _ ?_))
      clear hK22 K22
      refine c_block ?_
      -- loop@r13: live slots [0, 4, 85, 86, 87, 98, 99, 100, 119, 120, 121, 122, 123, 124, 125, 126, 127, 128, 129, 130, 131, 132, 133, 134, 135, 142, 143, 144]
      refine c_loopG (fun n a' w' => ∃ i2, n = i - i2 ∧ i2 ≤ i ∧ Fram none' w w' ∧ Blk w'.heap b4 (upc (dk, dx)) 205 ∧ ∃ e, a' = Fr 262 (upds e [(0, ptrAt gb (j * 11)), (4, ptr b4), (85, .slice (some ⟨ug, 0, none⟩) f.ups.length uc), (86, i64c f.ups.length), (87, i64c i), (142, .slice (some ⟨ug, 0, none⟩) i uc), (143, i64c i), (144, i64c i2)]) []) i ⟨0, rfl, Nat.zero_le _, hF.thenDrew, h4, kp _ ⟨rfl, rfl, rfl, rfl, rfl, rfl, rfl, rfl, trivial⟩⟩ ?_
      clear hF hG h4 hU
      rintro n2 a2 u2 ⟨i2, rfl, hi2, hF, h4, e2, rfl⟩
      have hG := hF.blkN hG0
      have hU := hF.blkN hU0
      refine c_seq (fun K23 hK23 => ?_)
      refine c_reg ?_ -- region 13 check.go:94
      refine wl (ro_cmp rfl rfl rfl) ?_
      refine wl_nil (x_then (hK23 _ _ ?_))
      clear hK23 K23
      refine forget [(0, _), (4, _), (85, _), (86, _), (87, _), (142, _), (143, _), (144, _), (145, _)] ⟨rfl, rfl, rfl, rfl, rfl, rfl, rfl, rfl, rfl, trivial⟩ (fun e => ?_)
      refine c_seq (fun K24 hK24 => ?_)
      refine wc_cond rfl (fun hc145 => ?_) (fun hc145 => ?_)
      · try simp only [decide_eq_true_eq, decide_eq_false_iff_not, Bool.not_eq_true', Bool.not_eq_false', Bool.not_eq_eq_eq_not, Bool.not_true, Bool.not_false, beq_iff_eq, bne_iff_ne, ne_eq, beq_eq_false_iff_ne, bne_eq_false_iff_eq, gt_iff_lt, ge_iff_le, Int.not_lt, Int.not_le] at hc145
        have hlt2 : i2 < i := by omega
        obtain ⟨⟨ek, ex⟩, he⟩ : ∃ d, f.ups[i2]? = some d := ⟨_, List.getElem?_eq_getElem (by omega)⟩
        have hne : ¬ (ek = dk ∧ ex = dx) := fun q => by
          obtain ⟨l1, e1⟩ := List.getElem?_eq_some_iff.1 he
          obtain ⟨l2, e2⟩ := List.getElem?_eq_some_iff.1 hd
          have hp := hund
          unfold List.Nodup at hp
          rw [List.pairwise_iff_getElem] at hp
          exact hp i2 i l1 l2 hlt2 (by rw [e1, e2, q.1, q.2])
        refine c_skip (x_then (hK24 _ _ ?_))
        clear hK24 K24
        refine forget [(0, _), (4, _), (85, _), (86, _), (87, _), (142, _), (143, _), (144, _)] ⟨rfl, rfl, rfl, rfl, rfl, rfl, rfl, rfl, trivial⟩ (fun e => ?_)
        refine c_seq (fun K25 hK25 => ?_)
        refine c_block ?_
        refine c_seq (fun K26 hK26 => ?_)
        refine c_reg ?_ -- region 14 check.go:94
        refine wl (ro_indexAddr (et := 205) (k := 2) rfl rfl se_193 (rfl) (hlt2)) ?_
        refine wl (ro_loadAggB rfl ag_205 (hU) ((upc_len _)) ((k5 i2 _ he))) ?_
        refine wl_new (ze_205) (fun b6 w5 hbb6 h6 F5 => ?_)
        have hbsb6 := Nat.le_trans hF.size hbb6
        have hnegbb6 : gb < b6 := Nat.lt_of_lt_of_le hG.lt hbb6
        have hneugb6 : ug < b6 := Nat.lt_of_lt_of_le hU.lt hbb6
        have hneb4b6 : b4 < b6 := Nat.lt_of_lt_of_le h4.lt hbb6
        replace hF := hF.thenDrew.thenN F5
        replace hG := F5.blkN hG
        replace hU := F5.blkN hU
        replace h4 := F5.blkN h4
        refine wl_puta rfl rfl ((upc_one (ek, ex))) sz_205 (rfl) h6 ((by simp)) (rfl) (fun w6 h6 F6 => ?_)
        replace hF := hF.thenDrew.thenO F6 (by first | exact .inr (by omega) | exact .inl rfl | exact .inl (by assumption) | assumption)
        replace hG := F6.blkO hG (by omega)
        replace hU := F6.blkO hU (by omega)
        replace h4 := F6.blkO h4 (by omega)
        refine wl_nil (x_then (hK26 _ _ ?_))
        clear hK26 K26
        refine forget [(0, _), (4, _), (6, _), (85, _), (86, _), (87, _), (142, _), (143, _), (144, _)] ⟨rfl, rfl, rfl, rfl, rfl, rfl, rfl, rfl, rfl, trivial⟩ (fun e => ?_)
        refine c_seq (fun K27 hK27 => ?_)
        refine c_reg ?_ -- region 15 check.go:95
        refine wl (ro_loadAggB rfl ag_205 (h6) (rfl) (rfl)) ?_
        refine wl (ro_loadAggB rfl ag_205 (h4) (rfl) (rfl)) ?_
        refine wl (ro_eqArr2 (r := false) rfl rfl ar_205 in_5 (by kernel_rfl) (congrArg some (by simp; omega))) ?_
        refine wl_nil (x_then (hK27 _ _ ?_))
        clear hK27 K27
        refine wc_condF rfl ?_
        refine c_skip (x_blk (x_then (hK25 _ _ ?_)))
        clear hK25 K25
        refine c_reg ?_ -- region 17 check.go:94
        refine wl (ro_adT (m := i2) (k := 1) rfl rfl (by omega)) ?_
        refine wl (ro_move rfl) ?_
        refine wl_nil (x_then ?_)
        exact ⟨i - (i2 + 1), by omega, i2 + 1, rfl, by omega, hF, h4, kp _ ⟨rfl, rfl, rfl, rfl, rfl, rfl, rfl, rfl, trivial⟩⟩
      · try simp only [decide_eq_true_eq, decide_eq_false_iff_not, Bool.not_eq_true', Bool.not_eq_false', Bool.not_eq_eq_eq_not, Bool.not_true, Bool.not_false, beq_iff_eq, bne_iff_ne, ne_eq, beq_eq_false_iff_ne, bne_eq_false_iff_eq, gt_iff_lt, ge_iff_le, Int.not_lt, Int.not_le] at hc145
        refine c_exit (x_thenX (x_thenX (x_blkX (x_blk (x_then (hK10 _ _ ?_))))))
        clear hK24 K24 hK10 K10
        refine c_reg ?_ -- region 18 check.go:87
        refine wl (ro_adT (m := i) (k := 1) rfl rfl (by omega)) ?_
        refine wl (ro_move rfl) ?_
        refine wl_nil (x_then ?_)
        exact ⟨f.ups.length - (i + 1), by omega, i + 1, rfl, by omega, hF, kp _ ⟨rfl, rfl, rfl, rfl, trivial⟩⟩
  · try simp only [decide_eq_true_eq, decide_eq_false_iff_not, Bool.not_eq_true', Bool.not_eq_false', Bool.not_eq_eq_eq_not, Bool.not_true, Bool.not_false, beq_iff_eq, bne_iff_ne, ne_eq, beq_eq_false_iff_ne, bne_eq_false_iff_eq, gt_iff_lt, ge_iff_le, Int.not_lt, Int.not_le] at hc88
    refine c_exit (x_thenX (x_thenX (x_blkX (x_then (hK6 _ _ ?_)))))
    clear hK9 K9 hK6 K6
    refine c_seq (fun K28 hK28 => ?_)
    refine c_seq (fun K29 hK29 => ?_)
    refine c_pi [(0, false), (1, false), (2, false), (3, false), (4, false), (5, false), (6, false), (7, false), (8, false), (9, false), (10, false), (11, false), (12, false), (13, false), (14, false), (15, false), (16, false)] (SameH _) mixed (by kernel_rfl) rfl (by kernel_rfl) (po_then (po_then (po_bp))) (sameH_now _ _) ?_ -- region 19 check.go:100
    refine pi_ro rfl (fun w hS => ro_move rfl) ?_
    refine pi_ro rfl (fun w hS => ro_nilCheck rfl) ?_
    refine pi_ro rfl (fun w hS => ro_fieldAddr (k := 7) rfl fo_199_7) ?_
    refine pi_ro rfl (fun w hS => ro_loadB rfl sc_194 (Blk.of_heap hG hS) (c7)) ?_
    refine pi_ro rfl (fun w hS => ro_mfLenL (et := 201) (kt := 117) (l := numL f.ks 0) (vv := u16c) (kv := u64c) rfl (by kernel_rfl) (MF.of_heap (mN.framN hF) hS) (srt_nd (numL_srt f.ks 0).1) (fun a p => by rw [numF_iff fnd, numL_mem f4]; simp)) ?_
    refine pi_ro rfl (fun w hS => ro_move rfl) ?_
    refine pi_ro rfl (fun w hS => ro_nilCheck rfl) ?_
    refine pi_ro rfl (fun w hS => ro_fieldAddr (k := 8) rfl fo_199_8) ?_
    refine pi_ro rfl (fun w hS => ro_loadB rfl sc_195 (Blk.of_heap hG hS) (c8)) ?_
    refine pi_ro rfl (fun w hS => ro_mfLenL (et := 201) (kt := 9) (l := strL f.ks 0) (vv := u16c) (kv := S) rfl (by kernel_rfl) (MF.of_heap (mS.framN hF) hS) (srt_nd (strL_srt f.ks 0).1) (fun a p => by rw [strF_iff fnd, strL_mem f4]; simp)) ?_
    refine pi_ro rfl (fun w hS => ro_adT (m := (numL f.ks 0).length) (k := (strL f.ks 0).length) rfl rfl (by have := pool_len f.ks 0; omega)) ?_
    refine pi_ro rfl (fun w hS => ro_move rfl) ?_
    refine pi_ro rfl (fun w hS => ro_nilCheck rfl) ?_
    refine pi_ro rfl (fun w hS => ro_fieldAddr (k := 6) rfl fo_199_6) ?_
    refine pi_ro rfl (fun w hS => ro_loadB rfl sc_83 (Blk.of_heap hG hS) (c6)) ?_
    refine pi_ro rfl (fun w hS => ro_lenL rfl se_83) ?_
    refine pi_ro rfl (fun w hS => ro_cmp (r := false) rfl rfl (congrArg some (by have := pool_len f.ks 0; simp; omega))) ?_
    refine pi_nil (x_then (hK29 _ _ ?_))
    clear hK29 K29
    refine wc_condF rfl ?_
    refine c_skip (x_then (hK28 _ _ ?_))
    clear hK28 K28
    refine c_seq (fun K30 hK30 => ?_)
    refine c_seq (fun K31 hK31 => ?_)
    refine c_reg ?_ -- region 21 check.go:103
    refine wl (ro_move rfl) ?_
    refine wl (ro_nilCheck rfl) ?_
    refine wl (ro_fieldAddr (k := 6) rfl fo_199_6) ?_
    refine wl (ro_loadB rfl sc_83 (hG) (c6)) ?_
    refine wl (ro_lenL rfl se_83) ?_
    refine wl (ro_move rfl) ?_
    refine wl_nil (x_then (hK31 _ _ ?_))
    clear hK31 K31
    refine c_block ?_
    -- loop@r22: live slots [0, 173, 174, 175]
    refine c_loopG (fun n a' w' => ∃ i, n = f.ks.length - i ∧ i ≤ f.ks.length ∧ Fram none' w w' ∧ ∃ e, a' = Fr 262 (upds e [(0, ptrAt gb (j * 11)), (173, .slice ka f.ks.length kc), (174, i64c f.ks.length), (175, i64c i)]) []) f.ks.length ⟨0, rfl, Nat.zero_le _, hF.thenDrew, kp _ ⟨rfl, rfl, rfl, rfl, trivial⟩⟩ ?_
    clear hF hG
    rintro n a' u1 ⟨i, rfl, hi, hF, e, rfl⟩
    have hG := hF.blkN hG0
    refine c_seq (fun K32 hK32 => ?_)
    refine c_reg ?_ -- region 22 check.go:103
    refine wl (ro_cmp rfl rfl rfl) ?_
    refine wl_nil (x_then (hK32 _ _ ?_))
    clear hK32 K32
    refine forget [(0, _), (173, _), (174, _), (175, _), (176, _)] ⟨rfl, rfl, rfl, rfl, rfl, trivial⟩ (fun e => ?_)
    refine c_seq (fun K33 hK33 => ?_)
    refine wc_cond rfl (fun hc176 => ?_) (fun hc176 => ?_)
    · try simp only [decide_eq_true_eq, decide_eq_false_iff_not, Bool.not_eq_true', Bool.not_eq_false', Bool.not_eq_eq_eq_not, Bool.not_true, Bool.not_false, beq_iff_eq, bne_iff_ne, ne_eq, beq_eq_false_iff_ne, bne_eq_false_iff_eq, gt_iff_lt, ge_iff_le, Int.not_lt, Int.not_le] at hc176
      have hlt : i < f.ks.length := by omega
      obtain ⟨v, hv⟩ : ∃ v, f.ks[i]? = some v := ⟨_, List.getElem?_eq_getElem hlt⟩
      obtain ⟨kg, kcap, kl, ev, hKb, k1, k2, k3, k4, k5⟩ := OwT.at pvc_len oK hv
      cases ev
      replace hKb := hF.blkN hKb
      have hkv := f4 v (List.mem_of_getElem? hv)
      have hk5 := k5 i v hv
      refine c_skip (x_then (hK33 _ _ ?_))
      clear hK33 K33
      refine forget [(0, _), (173, _), (174, _), (175, _)] ⟨rfl, rfl, rfl, rfl, trivial⟩ (fun e => ?_)
      refine c_seq (fun K34 hK34 => ?_)
      refine c_block ?_
      refine c_seq (fun K35 hK35 => ?_)
      refine c_reg ?_ -- region 23 check.go:103
      refine wl (ro_move rfl) ?_
      refine wl (ro_indexAddr (et := 119) (k := 3) rfl rfl se_83 (rfl) (hlt)) ?_
      refine wl (ro_loadAggB rfl ag_119 (hKb) ((pvc_len v)) (hk5)) ?_
      refine wl_new (ze_119) (fun b8 w7 hbb8 h8 F7 => ?_)
      have hbsb8 := Nat.le_trans hF.size hbb8
      have hnegbb8 : gb < b8 := Nat.lt_of_lt_of_le hG.lt hbb8
      have hnekgb8 : kg < b8 := Nat.lt_of_lt_of_le hKb.lt hbb8
      replace hF := hF.thenDrew.thenN F7
      replace hG := F7.blkN hG
      replace hKb := F7.blkN hKb
      refine wl (ro_assign rfl) ?_
      refine wl_puta rfl rfl ((pvc_one v)) sz_119 (rfl) h8 ((by simp)) (rfl) (fun w8 h8 F8 => ?_)
      replace hF := hF.thenDrew.thenO F8 (by first | exact .inr (by omega) | exact .inl rfl | exact .inl (by assumption) | assumption)
      replace hG := F8.blkO hG (by omega)
      replace hKb := F8.blkO hKb (by omega)
      refine wl_nil (x_then (hK35 _ _ ?_))
      clear hK35 K35
      refine forget [(0, _), (7, _), (8, _), (173, _), (174, _), (175, _)] ⟨rfl, rfl, rfl, rfl, rfl, rfl, trivial⟩ (fun e => ?_)
      refine c_seq (fun K36 hK36 => ?_)
      rcases hkv with ⟨x, rfl, hkx, -⟩ | ⟨s, rfl, hks⟩
      · skip
        have hnf : numF f.ks x = some i := (numF_iff fnd).2 hv
        refine c_pi [(0, false), (1, false), (2, false), (3, false), (4, false), (5, false), (6, false), (7, false), (8, false), (9, false), (10, false), (11, false)] (SameH _) mixed (by kernel_rfl) rfl (by kernel_rfl) (po_then (po_blk (po_then (po_then (po_blk (po_then (po_bp))))))) (sameH_now _ _) ?_ -- region 24 check.go:104
        refine pi_ro rfl (fun w hS => ro_move rfl) ?_
        refine pi_ro rfl (fun w hS => ro_nilCheck rfl) ?_
        refine pi_ro rfl (fun w hS => ro_fieldAddr (k := 8) rfl fo_199_8) ?_
        refine pi_ro rfl (fun w hS => ro_loadB rfl sc_195 (Blk.of_heap hG hS) (c8)) ?_
        refine pi_ro rfl (fun w hS => ro_fieldAddr (k := 2) rfl fo_119_2) ?_
        refine pi_ro rfl (fun w hS => ro_loadB rfl sc_9 (Blk.of_heap h8 hS) (rfl)) ?_
        refine pi_ro rfl (fun w hS => ro_mfLook (et := 201) (z := .int .u16 0) (vv := u16c) (f := strF f.ks) (a := (vNum x).S) keyS249 rfl rfl (by kernel_rfl) (by kernel_rfl) (MF.of_heap (mS.framN hF) hS)) ?_
        refine pi_ro rfl (fun w hS => ro_move rfl) ?_
        refine pi_ro rfl (fun w hS => ro_extract rfl rfl) ?_
        refine pi_ro rfl (fun w hS => ro_extract rfl rfl) ?_
        refine pi_ro rfl (fun w hS => ro_assign rfl) ?_
        refine pi_ro rfl (fun w hS => ro_assign rfl) ?_
        refine pi_nil (x_then (hK36 _ _ ?_))
        clear hK36 K36
        refine c_seq (fun K37 hK37 => ?_)
        refine c_seq (fun K38 hK38 => ?_)
        refine c_reg ?_ -- region 25 check.go:105
        refine wl (ro_fieldAddr (k := 0) rfl fo_119_0) ?_
        refine wl (ro_loadB rfl sc_3 (h8) (rfl)) ?_
        refine wl (ro_cmp (r := true) rfl rfl rfl) ?_
        refine wl_nil (x_then (hK38 _ _ ?_))
        clear hK38 K38
        refine wc_condT rfl ?_
        refine c_pi [(0, false), (1, false), (2, false), (3, false), (4, false), (5, false), (6, false), (7, false), (8, false), (9, false), (10, false), (11, false)] (SameH _) mixed (by kernel_rfl) rfl (by kernel_rfl) (po_then (po_blk (po_then (po_then (po_blk (po_then (po_bp))))))) (sameH_now _ _) ?_ -- region 26 check.go:106
        refine pi_ro rfl (fun w hS => ro_move rfl) ?_
        refine pi_ro rfl (fun w hS => ro_nilCheck rfl) ?_
        refine pi_ro rfl (fun w hS => ro_fieldAddr (k := 7) rfl fo_199_7) ?_
        refine pi_ro rfl (fun w hS => ro_loadB rfl sc_194 (Blk.of_heap hG hS) (c7)) ?_
        refine pi_ro rfl (fun w hS => ro_fieldAddr (k := 1) rfl fo_119_1) ?_
        refine pi_ro rfl (fun w hS => ro_loadB rfl sc_117 (Blk.of_heap h8 hS) (rfl)) ?_
        refine pi_ro rfl (fun w hS => ro_mfGot (et := 201) (z := .int .u16 0) (vv := u16c) (f := numF f.ks) (a := x) (p := i) keyU248 rfl rfl (by kernel_rfl) (by kernel_rfl) (MF.of_heap (mN.framN hF) hS) hnf) ?_
        refine pi_ro rfl (fun w hS => ro_move rfl) ?_
        refine pi_ro rfl (fun w hS => ro_extract rfl rfl) ?_
        refine pi_ro rfl (fun w hS => ro_extract rfl rfl) ?_
        refine pi_ro rfl (fun w hS => ro_assign rfl) ?_
        refine pi_ro rfl (fun w hS => ro_assign rfl) ?_
        refine pi_nil (x_then (hK37 _ _ ?_))
        clear hK37 K37
        refine forget [(0, _), (7, _), (8, _), (9, _), (10, _), (173, _), (174, _), (175, _)] ⟨rfl, rfl, rfl, rfl, rfl, rfl, rfl, rfl, trivial⟩ (fun e => ?_)
        refine c_seq (fun K39 hK39 => ?_)
        refine c_reg ?_ -- region 27 check.go:108
        refine wl (ro_move rfl) ?_
        refine wl (ro_not rfl) ?_
        refine wl (ro_move rfl) ?_
        refine wlg_yes rfl (ro_move rfl) ?_
        refine wlg_yes rfl (ro_conv (a := (i : Int)) rfl sc_201 in_3 (Go.IntWalk.i64_in _ (by omega))) ?_
        refine wlg_yes rfl (ro_move rfl) ?_
        refine wlg_yes rfl (ro_cmp (r := false) rfl rfl (congrArg some (by simp))) ?_
        refine wl (ro_pick rfl rfl rfl) ?_
        refine wl (ro_move rfl) ?_
        refine wlg_yes rfl (ro_fieldAddr (k := 2) rfl fo_119_2) ?_
        refine wlg_yes rfl (ro_loadB rfl sc_9 (h8) (rfl)) ?_
        refine wlg_yes rfl (ro_lenS rfl st_9) ?_
        refine wlg_yes rfl (ro_cmp (r := false) rfl rfl rfl) ?_
        refine wl (ro_pick rfl rfl rfl) ?_
        refine wl_nil (x_then (hK39 _ _ ?_))
        clear hK39 K39
        refine wc_condF rfl ?_
        refine c_skip (x_blk (x_then (hK34 _ _ ?_)))
        clear hK34 K34
        refine c_reg ?_ -- region 29 check.go:103
        refine wl (ro_adT (m := i) (k := 1) rfl rfl (by omega)) ?_
        refine wl (ro_move rfl) ?_
        refine wl_nil (x_then ?_)
        exact ⟨f.ks.length - (i + 1), by omega, i + 1, rfl, by omega, hF.thenDrew.thenDrew, kp _ ⟨rfl, rfl, rfl, rfl, trivial⟩⟩
      · skip
        have hsf : strF f.ks s = some i := (strF_iff fnd).2 hv
        have hks : (vStr s).S.length ≤ 40 := hks
        refine c_pi [(0, false), (1, false), (2, false), (3, false), (4, false), (5, false), (6, false), (7, false), (8, false), (9, false), (10, false), (11, false)] (SameH _) mixed (by kernel_rfl) rfl (by kernel_rfl) (po_then (po_blk (po_then (po_then (po_blk (po_then (po_bp))))))) (sameH_now _ _) ?_ -- region 24 check.go:104
        refine pi_ro rfl (fun w hS => ro_move rfl) ?_
        refine pi_ro rfl (fun w hS => ro_nilCheck rfl) ?_
        refine pi_ro rfl (fun w hS => ro_fieldAddr (k := 8) rfl fo_199_8) ?_
        refine pi_ro rfl (fun w hS => ro_loadB rfl sc_195 (Blk.of_heap hG hS) (c8)) ?_
        refine pi_ro rfl (fun w hS => ro_fieldAddr (k := 2) rfl fo_119_2) ?_
        refine pi_ro rfl (fun w hS => ro_loadB rfl sc_9 (Blk.of_heap h8 hS) (rfl)) ?_
        refine pi_ro rfl (fun w hS => ro_mfGot (et := 201) (z := .int .u16 0) (vv := u16c) (f := strF f.ks) (a := s) (p := i) keyS249 rfl rfl (by kernel_rfl) (by kernel_rfl) (MF.of_heap (mS.framN hF) hS) hsf) ?_
        refine pi_ro rfl (fun w hS => ro_move rfl) ?_
        refine pi_ro rfl (fun w hS => ro_extract rfl rfl) ?_
        refine pi_ro rfl (fun w hS => ro_extract rfl rfl) ?_
        refine pi_ro rfl (fun w hS => ro_assign rfl) ?_
        refine pi_ro rfl (fun w hS => ro_assign rfl) ?_
        refine pi_nil (x_then (hK36 _ _ ?_))
        clear hK36 K36
        refine c_seq (fun K40 hK40 => ?_)
        refine c_seq (fun K41 hK41 => ?_)
        refine c_reg ?_ -- region 25 check.go:105
        refine wl (ro_fieldAddr (k := 0) rfl fo_119_0) ?_
        refine wl (ro_loadB rfl sc_3 (h8) (rfl)) ?_
        refine wl (ro_cmp (r := false) rfl rfl rfl) ?_
        refine wl_nil (x_then (hK41 _ _ ?_))
        clear hK41 K41
        refine wc_condF rfl ?_
        refine c_skip (x_then (hK40 _ _ ?_))
        clear hK40 K40
        refine forget [(0, _), (7, _), (8, _), (9, _), (10, _), (173, _), (174, _), (175, _)] ⟨rfl, rfl, rfl, rfl, rfl, rfl, rfl, rfl, trivial⟩ (fun e => ?_)
        refine c_seq (fun K42 hK42 => ?_)
        refine c_reg ?_ -- region 27 check.go:108
        refine wl (ro_move rfl) ?_
        refine wl (ro_not rfl) ?_
        refine wl (ro_move rfl) ?_
        refine wlg_yes rfl (ro_move rfl) ?_
        refine wlg_yes rfl (ro_conv (a := (i : Int)) rfl sc_201 in_3 (Go.IntWalk.i64_in _ (by omega))) ?_
        refine wlg_yes rfl (ro_move rfl) ?_
        refine wlg_yes rfl (ro_cmp (r := false) rfl rfl (congrArg some (by simp))) ?_
        refine wl (ro_pick rfl rfl rfl) ?_
        refine wl (ro_move rfl) ?_
        refine wlg_yes rfl (ro_fieldAddr (k := 2) rfl fo_119_2) ?_
        refine wlg_yes rfl (ro_loadB rfl sc_9 (h8) (rfl)) ?_
        refine wlg_yes rfl (ro_lenS rfl st_9) ?_
        refine wlg_yes rfl (ro_cmp (r := false) rfl rfl (congrArg some (decide_eq_false (by omega)))) ?_
        refine wl (ro_pick rfl rfl rfl) ?_
        refine wl_nil (x_then (hK42 _ _ ?_))
        clear hK42 K42
        refine wc_condF rfl ?_
        refine c_skip (x_blk (x_then (hK34 _ _ ?_)))
        clear hK34 K34
        refine c_reg ?_ -- region 29 check.go:103
        refine wl (ro_adT (m := i) (k := 1) rfl rfl (by omega)) ?_
        refine wl (ro_move rfl) ?_
        refine wl_nil (x_then ?_)
        exact ⟨f.ks.length - (i + 1), by omega, i + 1, rfl, by omega, hF.thenDrew, kp _ ⟨rfl, rfl, rfl, rfl, trivial⟩⟩
    · try simp only [decide_eq_true_eq, decide_eq_false_iff_not, Bool.not_eq_true', Bool.not_eq_false', Bool.not_eq_eq_eq_not, Bool.not_true, Bool.not_false, beq_iff_eq, bne_iff_ne, ne_eq, beq_eq_false_iff_ne, bne_eq_false_iff_eq, gt_iff_lt, ge_iff_le, Int.not_lt, Int.not_le] at hc176
      refine c_exit (x_thenX (x_thenX (x_blkX (x_then (hK30 _ _ ?_)))))
      clear hK33 K33 hK30 K30
      refine forget [(0, _)] ⟨rfl, trivial⟩ (fun e => ?_)
      refine c_seq (fun K43 hK43 => ?_)
      refine c_reg ?_ -- region 30 check.go:112
      refine wl (ro_move rfl) ?_
      refine wl (ro_nilCheck rfl) ?_
      refine wl (ro_fieldAddr (k := 2) rfl fo_199_2) ?_
      refine wl (ro_loadB rfl sc_3 (hG) (c2)) ?_
      refine wl (ro_assign rfl) ?_
      refine wl_nil (x_then (hK43 _ _ ?_))
      clear hK43 K43
      refine c_seq (fun K44 hK44 => ?_)
      refine c_seq (fun K45 hK45 => ?_)
      refine c_reg ?_ -- region 31 check.go:113
      refine wl (ro_move rfl) ?_
      refine wl (ro_nilCheck rfl) ?_
      refine wl (ro_fieldAddr (k := 10) rfl fo_199_10) ?_
      refine wl (ro_loadB rfl sc_197 (hG) (c10)) ?_
      refine wl (ro_lenL rfl se_197) ?_
      refine wl (ro_move rfl) ?_
      refine wl_nil (x_then (hK45 _ _ ?_))
      clear hK45 K45
      refine c_block ?_
      -- loop@r32: live slots [0, 11, 225, 226, 227]
      refine c_loopG (fun n a' w' => n = 0 ∧ Fram none' w w' ∧ ∃ e, a' = Fr 262 (upds e [(0, ptrAt gb (j * 11)), (226, i64c 0), (227, i64c 0)]) []) 0 ⟨rfl, hF, kp _ ⟨rfl, rfl, rfl, trivial⟩⟩ ?_
      clear hF hG
      rintro n a' u1 ⟨rfl, hF, e, rfl⟩
      have hG := hF.blkN hG0
      refine c_seq (fun K46 hK46 => ?_)
      refine c_reg ?_ -- region 32 check.go:113
      refine wl (ro_cmp (r := false) rfl rfl rfl) ?_
      refine wl_nil (x_then (hK46 _ _ ?_))
      clear hK46 K46
      refine forget [(0, _), (226, _), (227, _), (228, _)] ⟨rfl, rfl, rfl, rfl, trivial⟩ (fun e => ?_)
      refine c_seq (fun K47 hK47 => ?_)
      refine wc_condF rfl ?_
      refine c_exit (x_thenX (x_thenX (x_blkX (x_then (hK44 _ _ ?_)))))
      clear hK47 K47 hK44 K44
      refine c_seq (fun K48 hK48 => ?_)
      refine c_seq (fun K49 hK49 => ?_)
      refine c_reg ?_ -- region 38 check.go:119
      refine wl (ro_move rfl) ?_
      refine wl (ro_nilCheck rfl) ?_
      refine wl (ro_fieldAddr (k := 9) rfl fo_199_9) ?_
      refine wl (ro_loadB rfl sc_196 (hG) (c9)) ?_
      refine wl (ro_lenL rfl se_196) ?_
      refine wl (ro_move rfl) ?_
      refine wl_nil (x_then (hK49 _ _ ?_))
      clear hK49 K49
      refine c_block ?_
      -- loop@r39: live slots [0, 251, 252, 253]
      refine c_loopG (fun n a' w' => ∃ i, n = f.code.length - i ∧ i ≤ f.code.length ∧ Fram none' w w' ∧ ∃ e, a' = Fr 262 (upds e [(0, ptrAt gb (j * 11)), (251, .slice ca f.code.length cc), (252, i64c f.code.length), (253, i64c i)]) []) f.code.length ⟨0, rfl, Nat.zero_le _, hF, kp _ ⟨rfl, rfl, rfl, rfl, trivial⟩⟩ ?_
      clear hF hG
      rintro n a' u1 ⟨i, rfl, hi, hF, e, rfl⟩
      have hG := hF.blkN hG0
      refine c_seq (fun K50 hK50 => ?_)
      refine c_reg ?_ -- region 39 check.go:119
      refine wl (ro_cmp rfl rfl rfl) ?_
      refine wl_nil (x_then (hK50 _ _ ?_))
      clear hK50 K50
      refine forget [(0, _), (251, _), (252, _), (253, _), (254, _)] ⟨rfl, rfl, rfl, rfl, rfl, trivial⟩ (fun e => ?_)
      refine c_seq (fun K51 hK51 => ?_)
      refine wc_cond rfl (fun hc254 => ?_) (fun hc254 => ?_)
      · try simp only [decide_eq_true_eq, decide_eq_false_iff_not, Bool.not_eq_true', Bool.not_eq_false', Bool.not_eq_eq_eq_not, Bool.not_true, Bool.not_false, beq_iff_eq, bne_iff_ne, ne_eq, beq_eq_false_iff_ne, bne_eq_false_iff_eq, gt_iff_lt, ge_iff_le, Int.not_lt, Int.not_le] at hc254
        have hlt : i < f.code.length := by omega
        obtain ⟨⟨op, x⟩, hx⟩ : ∃ v, f.code[i]? = some v := ⟨_, List.getElem?_eq_getElem hlt⟩
        obtain ⟨cg, ccap, cl, ev, hCb, k1, k2, k3, k4, k5⟩ := OwT.at inc_len oC hx
        cases ev
        replace hCb := hF.blkN hCb
        have hox := f5 (op, x) (List.mem_of_getElem? hx)
        refine c_skip (x_then (hK51 _ _ ?_))
        clear hK51 K51
        refine forget [(0, _), (251, _), (252, _), (253, _)] ⟨rfl, rfl, rfl, rfl, trivial⟩ (fun e => ?_)
        refine c_seq (fun K52 hK52 => ?_)
        refine c_block ?_
        refine c_seq (fun K53 hK53 => ?_)
        refine c_reg ?_ -- region 40 check.go:119
        refine wl (ro_indexAddr (et := 203) (k := 2) rfl rfl se_196 (rfl) (hlt)) ?_
        refine wl (ro_loadAggB rfl ag_203 (hCb) ((inc_len _)) ((k5 i _ hx))) ?_
        refine wl_new (ze_203) (fun b15 w9 hbb15 h15 F9 => ?_)
        have hbsb15 := Nat.le_trans hF.size hbb15
        have hnegbb15 : gb < b15 := Nat.lt_of_lt_of_le hG.lt hbb15
        have hnecgb15 : cg < b15 := Nat.lt_of_lt_of_le hCb.lt hbb15
        replace hF := hF.thenDrew.thenN F9
        replace hG := F9.blkN hG
        replace hCb := F9.blkN hCb
        refine wl_puta rfl rfl ((inc_one (op, x))) sz_203 (rfl) h15 ((by simp)) (rfl) (fun w10 h15 F10 => ?_)
        replace hF := hF.thenDrew.thenO F10 (by first | exact .inr (by omega) | exact .inl rfl | exact .inl (by assumption) | assumption)
        replace hG := F10.blkO hG (by omega)
        replace hCb := F10.blkO hCb (by omega)
        refine wl_nil (x_then (hK53 _ _ ?_))
        clear hK53 K53
        refine forget [(0, _), (15, _), (251, _), (252, _), (253, _)] ⟨rfl, rfl, rfl, rfl, rfl, trivial⟩ (fun e => ?_)
        refine c_seq (fun K54 hK54 => ?_)
        refine c_reg ?_ -- region 41 check.go:120
        refine wl (ro_move rfl) ?_
        refine wl (ro_loadAggB rfl ag_203 (h15) (rfl) (rfl)) ?_
        refine wl_call rfl en_154 (fits154 (h.farN hF) (z := z) (by rw [hfs]; exact hz) (by rw [hfs]; exact (hins i _ hx).x) hox.2 hln) ?_
        rintro _ w11 ⟨rfl, F11⟩
        replace hF := hF.thenDrew.thenN F11
        replace hG := F11.blkN hG
        replace hCb := F11.blkN hCb
        replace h15 := F11.blkN h15
        refine wl (ro_not rfl) ?_
        refine wl_nil (x_then (hK54 _ _ ?_))
        clear hK54 K54
        refine wc_condF rfl ?_
        refine c_skip (x_blk (x_then (hK52 _ _ ?_)))
        clear hK52 K52
        refine c_reg ?_ -- region 43 check.go:119
        refine wl (ro_adT (m := i) (k := 1) rfl rfl (by omega)) ?_
        refine wl (ro_move rfl) ?_
        refine wl_nil (x_then ?_)
        exact ⟨f.code.length - (i + 1), by omega, i + 1, rfl, by omega, hF, kp _ ⟨rfl, rfl, rfl, rfl, trivial⟩⟩
      · try simp only [decide_eq_true_eq, decide_eq_false_iff_not, Bool.not_eq_true', Bool.not_eq_false', Bool.not_eq_eq_eq_not, Bool.not_true, Bool.not_false, beq_iff_eq, bne_iff_ne, ne_eq, beq_eq_false_iff_ne, bne_eq_false_iff_eq, gt_iff_lt, ge_iff_le, Int.not_lt, Int.not_le] at hc254
        refine c_exit (x_thenX (x_thenX (x_blkX (x_then (hK48 _ _ ?_)))))
        clear hK51 K51 hK48 K48
        refine forget [] trivial (fun e => ?_)
        refine c_seq (fun K55 hK55 => ?_)
        refine c_reg ?_ -- region 44 check.go:124
        refine wl (ro_assign rfl) ?_
        refine wl_nil (x_then (hK55 _ _ ?_))
        clear hK55 K55
        refine c_ret ?_
        refine bp_ret Tryz.results96 rfl ?_
        exact ⟨rfl, hF⟩
end
end Go.Proofs.Qxb6500568aGreatDoor
