import Derived.Test.Qxb6500567aGreatMi
import Derived.Test.Qxb6500567aGreatFn
/- The law: comparisons. -/
namespace Go.Proofs.Qxb6500567aGreat
set_option linter.unusedVariables false
set_option linter.unusedSimpArgs false

theorem sameFound22 {w : World} {e q : Nat} {b : Bool} {c : List Int} : Ret Tryz.prog 22 [.agg (fdc e q b c).toArray, .agg (fdc e q b c).toArray] w (fun v w' => v = .bool true ∧ Fram none' w w') := by
  have hF : Fram none' w w := Fram.refl _ _
  refine ret_of Tryz.func22 rfl Tryz.ntmps22 rfl ?_
  refine c_seq (fun K1 hK1 => ?_)
  refine c_reg ?_ -- region 0 law.go:59
  refine wl_box (cs := (fdc e q b c)) rfl rfl (fun ab w1 hbab hA F1 => ?_)
  have hbsab := Nat.le_trans hF.size hbab
  replace hF := hF.thenDrew.thenN F1
  refine wl_box (cs := (fdc e q b c)) rfl rfl (fun bb w2 hbbb hB F2 => ?_)
  have hbsbb := Nat.le_trans hF.size hbbb
  have hneabbb : ab < bb := Nat.lt_of_lt_of_le hA.lt hbbb
  replace hF := hF.thenDrew.thenN F2
  replace hA := F2.blkN hA
  refine wl (ro_assign rfl) ?_
  refine wl_nil (x_then (hK1 _ _ ?_))
  clear hK1 K1
  refine forget [(2, _), (3, _)] ⟨rfl, rfl, trivial⟩ (fun e => ?_)
  refine c_seq (fun K2 hK2 => ?_)
  refine c_reg ?_ -- region 1 law.go:60
  refine wl (ro_fieldAddr (k := 0) rfl fo_57_0) ?_
  refine wl (ro_loadB rfl sc_53 (hA) (rfl)) ?_
  refine wl (ro_fieldAddr (k := 0) rfl fo_57_0) ?_
  refine wl (ro_loadB rfl sc_53 (hB) (rfl)) ?_
  refine wl (ro_cmp (r := true) rfl rfl (congrArg some (by simp))) ?_
  refine wl (ro_move rfl) ?_
  refine wlg_yes rfl (ro_fieldAddr (k := 1) rfl fo_57_1) ?_
  refine wlg_yes rfl (ro_loadB rfl sc_3 (hA) (rfl)) ?_
  refine wlg_yes rfl (ro_fieldAddr (k := 1) rfl fo_57_1) ?_
  refine wlg_yes rfl (ro_loadB rfl sc_3 (hB) (rfl)) ?_
  refine wlg_yes rfl (ro_cmp (r := true) rfl rfl (congrArg some (by simp))) ?_
  refine wl (ro_pick rfl rfl rfl) ?_
  refine wl (ro_move rfl) ?_
  refine wlg_yes rfl (ro_fieldAddr (k := 2) rfl fo_57_2) ?_
  refine wlg_yes rfl (ro_loadB rfl sc_4 (hA) (rfl)) ?_
  refine wlg_yes rfl (ro_fieldAddr (k := 2) rfl fo_57_2) ?_
  refine wlg_yes rfl (ro_loadB rfl sc_4 (hB) (rfl)) ?_
  refine wlg_yes rfl (ro_eqBool (a := b) (b := b) (r := true) rfl rfl (by kernel_rfl) (congrArg some (by simp))) ?_
  refine wl (ro_pick rfl rfl rfl) ?_
  refine wl (ro_move rfl) ?_
  refine wlg_yes rfl (ro_fieldAddr (k := 3) rfl fo_57_3) ?_
  refine wlg_yes rfl (ro_loadAggB rfl ag_55 (hA) (rfl) (rfl)) ?_
  refine wlg_yes rfl (ro_fieldAddr (k := 3) rfl fo_57_3) ?_
  refine wlg_yes rfl (ro_loadAggB rfl ag_55 (hB) (rfl) (rfl)) ?_
  refine wlg_yes rfl (ro_eqCap (c := c) rfl rfl ar_55 in_3 (by kernel_rfl) rfl) ?_
  refine wl (ro_pick rfl rfl rfl) ?_
  refine wl (ro_assign rfl) ?_
  refine wl_nil (x_then (hK2 _ _ ?_))
  clear hK2 K2
  refine c_ret ?_
  refine bp_ret Tryz.results22 rfl ?_
  exact ⟨rfl, hF⟩

theorem own_form {H : Array Obj} {V : Value} {et k n : Nat} {xs : List Value} (h : Own H V et k n xs) : ∃ a c, V = .slice a n c := by
  rcases h.2 with ⟨h1, h2⟩ | ⟨g, cap, l, h1, -⟩
  · exact ⟨none, 0, by rw [h1, h2]⟩
  · exact ⟨_, cap, h1⟩

set_option maxHeartbeats 1000000 in
theorem sameAll25 {w : World} {V1 V2 : Value} {L : List (List Int)} {lo1 hi1 lo2 hi2 : Nat} (h1 : CL w V1 L lo1 hi1) (h2 : CL w V2 L lo2 hi2) (hl : L.length ≤ 1000000) : Ret Tryz.prog 25 [V1, V2] w (fun v w' => v = .bool true ∧ Fram none' w w') := by
  have hF : Fram none' w w := Fram.refl _ _
  obtain ⟨a1, c1, rfl⟩ := own_form h1.own
  obtain ⟨a2, c2, rfl⟩ := own_form h2.own
  refine ret_of Tryz.func25 rfl Tryz.ntmps25 rfl ?_
  refine c_seq (fun K1 hK1 => ?_)
  refine c_reg ?_ -- region 0 law.go:63
  refine wl (ro_assign rfl) ?_
  refine wl_nil (x_then (hK1 _ _ ?_))
  clear hK1 K1
  refine c_seq (fun K2 hK2 => ?_)
  refine c_seq (fun K3 hK3 => ?_)
  refine c_reg ?_ -- region 1 law.go:64
  refine wl (ro_move rfl) ?_
  refine wl (ro_lenL rfl se_27) ?_
  refine wl (ro_move rfl) ?_
  refine wl (ro_lenL rfl se_27) ?_
  refine wl (ro_cmp (r := false) rfl rfl (congrArg some (by simp))) ?_
  refine wl_nil (x_then (hK3 _ _ ?_))
  clear hK3 K3
  refine wc_condF rfl ?_
  refine c_skip (x_then (hK2 _ _ ?_))
  clear hK2 K2
  refine c_seq (fun K4 hK4 => ?_)
  refine c_seq (fun K5 hK5 => ?_)
  refine c_reg ?_ -- region 3 law.go:67
  refine wl (ro_assign rfl) ?_
  refine wl_nil (x_then (hK5 _ _ ?_))
  clear hK5 K5
  refine c_block ?_
  -- loop@r4: live slots [0, 1, 5]
  refine c_loopG (fun m a' w' => ∃ (k : Nat), m = L.length - k ∧ k ≤ L.length ∧ CL w' (.slice a1 L.length c1) L lo1 hi1 ∧ CL w' (.slice a2 L.length c2) L lo2 hi2 ∧ Fram none' w w' ∧ ∃ e, a' = Fr 26 (upds e [(0, .slice a1 L.length c1), (1, .slice a2 L.length c2), (5, i64c k)]) []) L.length ⟨0, rfl, by omega, h1, h2, hF, kp _ ⟨rfl, rfl, rfl, trivial⟩⟩ ?_
  clear h1 h2 hF
  rintro m a' w1 ⟨k, rfl, hk, h1, h2, hF, e, rfl⟩
  refine c_seq (fun K6 hK6 => ?_)
  refine c_seq (fun K7 hK7 => ?_)
  refine c_reg ?_ -- region 4 law.go:67
  refine wl (ro_move rfl) ?_
  refine wl (ro_move rfl) ?_
  refine wl (ro_lenL rfl se_27) ?_
  refine wl (ro_cmp (r := decide (k < L.length)) rfl rfl (congrArg some (decide_eq_decide.2 (by omega)))) ?_
  refine wl_nil (x_then (hK7 _ _ ?_))
  clear hK7 K7
  refine wc_cond rfl (fun hc14 => ?_) (fun hc14 => ?_)
  · try simp only [decide_eq_true_eq, decide_eq_false_iff_not, Bool.not_eq_true', Bool.not_eq_false', Bool.not_eq_eq_eq_not, Bool.not_true, Bool.not_false, beq_iff_eq, bne_iff_ne, ne_eq, beq_eq_false_iff_ne, bne_eq_false_iff_eq, gt_iff_lt, ge_iff_le, Int.not_lt, Int.not_le] at hc14
    obtain ⟨c, hc⟩ : ∃ c, L[k]? = some c := ⟨_, List.getElem?_eq_getElem hc14⟩
    obtain ⟨g1, cap1, l1, hV1, hG1, hc1, hl1, -, -, hr1⟩ := h1.at capc_len hc
    obtain ⟨g2, cap2, l2, hV2, hG2, hc2, hl2, -, -, hr2⟩ := h2.at capc_len hc
    cases hV1
    cases hV2
    refine c_skip (x_then (hK6 _ _ ?_))
    clear hK6 K6
    refine forget [(0, _), (1, _), (5, _)] ⟨rfl, rfl, rfl, trivial⟩ (fun e => ?_)
    refine c_seq (fun K8 hK8 => ?_)
    refine c_block ?_
    refine c_seq (fun K9 hK9 => ?_)
    refine c_pi [(0, false), (1, false), (2, false), (3, false), (4, false), (5, false), (6, false), (7, false), (8, false)] (SameH _) mixed (by kernel_rfl) rfl (by kernel_rfl) (po_then (po_blk (po_then (po_then (po_blk (po_then (po_bp))))))) (sameH_now _ _) ?_ -- region 6 law.go:68
    refine pi_ro rfl (fun w hS => ro_move rfl) ?_
    refine pi_ro rfl (fun w hS => ro_move rfl) ?_
    refine pi_ro rfl (fun w hS => ro_indexAddr (et := 55) (k := 8) rfl rfl se_27 (rfl) (hc14)) ?_
    refine pi_ro rfl (fun w hS => ro_loadAggB rfl ag_55 (Blk.of_heap hG1 hS) (rfl) ((hr1 k c hc))) ?_
    refine pi_ro rfl (fun w hS => ro_move rfl) ?_
    refine pi_ro rfl (fun w hS => ro_move rfl) ?_
    refine pi_ro rfl (fun w hS => ro_indexAddr (et := 55) (k := 8) rfl rfl se_27 (rfl) (hc14)) ?_
    refine pi_ro rfl (fun w hS => ro_loadAggB rfl ag_55 (Blk.of_heap hG2 hS) (rfl) ((hr2 k c hc))) ?_
    refine pi_ro rfl (fun w hS => ro_eqCap (c := c) rfl rfl ar_55 in_3 (by kernel_rfl) rfl) ?_
    refine pi_nil (x_then (hK9 _ _ ?_))
    clear hK9 K9
    refine wc_condF rfl ?_
    refine c_skip (x_blk (x_then (hK8 _ _ ?_)))
    clear hK8 K8
    refine c_reg ?_ -- region 5 law.go:67
    refine wl (ro_move rfl) ?_
    refine wl (ro_arith rfl rfl rfl (Go.IntWalk.i64_in _ (by omega))) ?_
    refine wl (ro_assign rfl) ?_
    refine wl_nil (x_then ?_)
    exact ⟨L.length - (k + 1), by omega, k + 1, rfl, by omega, h1.framN (Fram.drew none' w1 (w1.drawn + 1)), h2.framN (Fram.drew none' w1 (w1.drawn + 1)), hF.thenDrew, kp _ ⟨rfl, rfl, rfl, trivial⟩⟩
  · try simp only [decide_eq_true_eq, decide_eq_false_iff_not, Bool.not_eq_true', Bool.not_eq_false', Bool.not_eq_eq_eq_not, Bool.not_true, Bool.not_false, beq_iff_eq, bne_iff_ne, ne_eq, beq_eq_false_iff_ne, bne_eq_false_iff_eq, gt_iff_lt, ge_iff_le, Int.not_lt, Int.not_le] at hc14
    refine c_exit (x_thenX (x_thenX (x_blkX (x_then (hK4 _ _ ?_)))))
    clear hK6 K6 hK4 K4
    refine forget [] trivial (fun e => ?_)
    refine c_seq (fun K10 hK10 => ?_)
    refine c_reg ?_ -- region 8 law.go:72
    refine wl (ro_assign rfl) ?_
    refine wl_nil (x_then (hK10 _ _ ?_))
    clear hK10 K10
    refine c_ret ?_
    refine bp_ret Tryz.results25 rfl ?_
    exact ⟨rfl, hF⟩

set_option maxHeartbeats 1000000 in
theorem sameCut30 {w : World} {V1 V2 : Value} {L : List (List UInt8)} {lo1 hi1 lo2 hi2 : Nat} (h1 : TL w V1 L lo1 hi1) (h2 : TL w V2 L lo2 hi2) (hl : L.length ≤ 1000000) : Ret Tryz.prog 30 [V1, V2] w (fun v w' => v = .bool true ∧ Fram none' w w') := by
  have hF : Fram none' w w := Fram.refl _ _
  obtain ⟨a1, c1, rfl⟩ := own_form h1.own
  obtain ⟨a2, c2, rfl⟩ := own_form h2.own
  refine ret_of Tryz.func30 rfl Tryz.ntmps30 rfl ?_
  refine c_seq (fun K1 hK1 => ?_)
  refine c_reg ?_ -- region 0 law.go:75
  refine wl (ro_assign rfl) ?_
  refine wl_nil (x_then (hK1 _ _ ?_))
  clear hK1 K1
  refine c_seq (fun K2 hK2 => ?_)
  refine c_seq (fun K3 hK3 => ?_)
  refine c_reg ?_ -- region 1 law.go:76
  refine wl (ro_move rfl) ?_
  refine wl (ro_lenL rfl se_31) ?_
  refine wl (ro_move rfl) ?_
  refine wl (ro_lenL rfl se_31) ?_
  refine wl (ro_cmp (r := false) rfl rfl (congrArg some (by simp))) ?_
  refine wl_nil (x_then (hK3 _ _ ?_))
  clear hK3 K3
  refine wc_condF rfl ?_
  refine c_skip (x_then (hK2 _ _ ?_))
  clear hK2 K2
  refine c_seq (fun K4 hK4 => ?_)
  refine c_seq (fun K5 hK5 => ?_)
  refine c_reg ?_ -- region 3 law.go:79
  refine wl (ro_assign rfl) ?_
  refine wl_nil (x_then (hK5 _ _ ?_))
  clear hK5 K5
  refine c_block ?_
  -- loop@r4: live slots [0, 1, 5]
  refine c_loopG (fun m a' w' => ∃ (k : Nat), m = L.length - k ∧ k ≤ L.length ∧ TL w' (.slice a1 L.length c1) L lo1 hi1 ∧ TL w' (.slice a2 L.length c2) L lo2 hi2 ∧ Fram none' w w' ∧ ∃ e, a' = Fr 26 (upds e [(0, .slice a1 L.length c1), (1, .slice a2 L.length c2), (5, i64c k)]) []) L.length ⟨0, rfl, by omega, h1, h2, hF, kp _ ⟨rfl, rfl, rfl, trivial⟩⟩ ?_
  clear h1 h2 hF
  rintro m a' w1 ⟨k, rfl, hk, h1, h2, hF, e, rfl⟩
  refine c_seq (fun K6 hK6 => ?_)
  refine c_seq (fun K7 hK7 => ?_)
  refine c_reg ?_ -- region 4 law.go:79
  refine wl (ro_move rfl) ?_
  refine wl (ro_move rfl) ?_
  refine wl (ro_lenL rfl se_31) ?_
  refine wl (ro_cmp (r := decide (k < L.length)) rfl rfl (congrArg some (decide_eq_decide.2 (by omega)))) ?_
  refine wl_nil (x_then (hK7 _ _ ?_))
  clear hK7 K7
  refine wc_cond rfl (fun hc14 => ?_) (fun hc14 => ?_)
  · try simp only [decide_eq_true_eq, decide_eq_false_iff_not, Bool.not_eq_true', Bool.not_eq_false', Bool.not_eq_eq_eq_not, Bool.not_true, Bool.not_false, beq_iff_eq, bne_iff_ne, ne_eq, beq_eq_false_iff_ne, bne_eq_false_iff_eq, gt_iff_lt, ge_iff_le, Int.not_lt, Int.not_le] at hc14
    obtain ⟨c, hc⟩ : ∃ c, L[k]? = some c := ⟨_, List.getElem?_eq_getElem hc14⟩
    obtain ⟨g1, cap1, l1, hV1, hG1, hc1, hl1, -, -, hr1⟩ := h1.at st_len hc
    obtain ⟨g2, cap2, l2, hV2, hG2, hc2, hl2, -, -, hr2⟩ := h2.at st_len hc
    cases hV1
    cases hV2
    have hx1 := row_cell (j := 0) (v := S c) (hr1 k c hc) rfl
    have hx2 := row_cell (j := 0) (v := S c) (hr2 k c hc) rfl
    refine c_skip (x_then (hK6 _ _ ?_))
    clear hK6 K6
    refine forget [(0, _), (1, _), (5, _)] ⟨rfl, rfl, rfl, trivial⟩ (fun e => ?_)
    refine c_seq (fun K8 hK8 => ?_)
    refine c_block ?_
    refine c_seq (fun K9 hK9 => ?_)
    refine c_pi [(0, false), (1, false), (2, false), (3, false), (4, false), (5, false), (6, false), (7, false), (8, false)] (SameH _) mixed (by kernel_rfl) rfl (by kernel_rfl) (po_then (po_blk (po_then (po_then (po_blk (po_then (po_bp))))))) (sameH_now _ _) ?_ -- region 6 law.go:80
    refine pi_ro rfl (fun w hS => ro_move rfl) ?_
    refine pi_ro rfl (fun w hS => ro_move rfl) ?_
    refine pi_ro rfl (fun w hS => ro_indexAddr (et := 9) (k := 1) rfl rfl se_31 (rfl) (hc14)) ?_
    refine pi_ro rfl (fun w hS => ro_loadB rfl sc_9 (Blk.of_heap hG1 hS) (hx1)) ?_
    refine pi_ro rfl (fun w hS => ro_move rfl) ?_
    refine pi_ro rfl (fun w hS => ro_move rfl) ?_
    refine pi_ro rfl (fun w hS => ro_indexAddr (et := 9) (k := 1) rfl rfl se_31 (rfl) (hc14)) ?_
    refine pi_ro rfl (fun w hS => ro_loadB rfl sc_9 (Blk.of_heap hG2 hS) (hx2)) ?_
    refine pi_ro rfl (fun w hS => ro_eqS (l := c) (m := c) (r := false) rfl rfl (congrArg some (by simp))) ?_
    refine pi_nil (x_then (hK9 _ _ ?_))
    clear hK9 K9
    refine wc_condF rfl ?_
    refine c_skip (x_blk (x_then (hK8 _ _ ?_)))
    clear hK8 K8
    refine c_reg ?_ -- region 5 law.go:79
    refine wl (ro_move rfl) ?_
    refine wl (ro_arith rfl rfl rfl (Go.IntWalk.i64_in _ (by omega))) ?_
    refine wl (ro_assign rfl) ?_
    refine wl_nil (x_then ?_)
    exact ⟨L.length - (k + 1), by omega, k + 1, rfl, by omega, h1.framN (Fram.drew none' w1 (w1.drawn + 1)), h2.framN (Fram.drew none' w1 (w1.drawn + 1)), hF.thenDrew, kp _ ⟨rfl, rfl, rfl, trivial⟩⟩
  · try simp only [decide_eq_true_eq, decide_eq_false_iff_not, Bool.not_eq_true', Bool.not_eq_false', Bool.not_eq_eq_eq_not, Bool.not_true, Bool.not_false, beq_iff_eq, bne_iff_ne, ne_eq, beq_eq_false_iff_ne, bne_eq_false_iff_eq, gt_iff_lt, ge_iff_le, Int.not_lt, Int.not_le] at hc14
    refine c_exit (x_thenX (x_thenX (x_blkX (x_then (hK4 _ _ ?_)))))
    clear hK6 K6 hK4 K4
    refine forget [] trivial (fun e => ?_)
    refine c_seq (fun K10 hK10 => ?_)
    refine c_reg ?_ -- region 8 law.go:84
    refine wl (ro_assign rfl) ?_
    refine wl_nil (x_then (hK10 _ _ ?_))
    clear hK10 K10
    refine c_ret ?_
    refine bp_ret Tryz.results30 rfl ?_
    exact ⟨rfl, hF⟩

end Go.Proofs.Qxb6500567aGreat
