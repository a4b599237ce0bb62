import Derived.Test.Qxb6500568aGreatDoorRj
/- The check of the tables. -/
namespace Go.Proofs.Qxb6500568aGreatDoor
open Ieee
set_option linter.unusedVariables false
set_option linter.unusedSimpArgs false
set_option linter.unusedSectionVars false

set_option maxHeartbeats 8000000 in
theorem tabCheck207 {w : World} {ow : Nat → Nat} {nb xb : Nat} {T : List Tb} (hM : RTab w ow nb xb T) : Ret Tryz.prog 207 [ptr xb] w (fun r w' => r = .bool true ∧ Fram none' w w') := by
  have hF : Fram none' w w := Fram.refl _ _
  obtain ⟨L, cnt, hL, rfl⟩ := hM
  obtain ⟨V, hX, hV⟩ := hL.x
  obtain ⟨va, vc, rfl⟩ := hV.form
  have hcl := hL.cl
  have h12 := hL.l12
  have hX0 := hX
  refine ret_of Tryz.func207 rfl Tryz.ntmps207 rfl ?_
  refine c_seq (fun K1 hK1 => ?_)
  refine c_reg ?_ -- region 0 check.go:26
  refine wl (ro_assign rfl) ?_
  refine wl_nil (x_then (hK1 _ _ ?_))
  clear hK1 K1
  refine c_seq (fun K2 hK2 => ?_)
  refine c_seq (fun K3 hK3 => ?_)
  refine c_pi [(0, false), (1, false), (2, false), (3, false), (4, false), (5, false), (6, false), (7, false), (8, false), (9, false), (10, false), (11, false), (12, false), (13, false), (14, false), (15, false), (16, false), (17, false), (18, false), (19, false), (20, false), (21, false), (22, false), (23, false), (24, false)] (SameH _) mixed (by kernel_rfl) rfl (by kernel_rfl) (po_then (po_then (po_bp))) (sameH_now _ _) ?_ -- region 1 check.go:27
  refine pi_ro rfl (fun w hS => ro_move rfl) ?_
  refine pi_ro rfl (fun w hS => ro_nilCheck rfl) ?_
  refine pi_ro rfl (fun w hS => ro_fieldAddr (k := 2) rfl fo_75_2) ?_
  refine pi_ro rfl (fun w hS => ro_loadB rfl sc_3 (Blk.of_heap hX hS) rfl) ?_
  refine pi_ro rfl (fun w hS => ro_cmp (r := false) rfl rfl (congrArg some (by simp))) ?_
  refine pi_ro rfl (fun w hS => ro_move rfl) ?_
  refine pi_gyes rfl rfl (fun w hS => ro_move rfl) ?_
  refine pi_gyes rfl rfl (fun w hS => ro_nilCheck rfl) ?_
  refine pi_gyes rfl rfl (fun w hS => ro_fieldAddr (k := 2) rfl fo_75_2) ?_
  refine pi_gyes rfl rfl (fun w hS => ro_loadB rfl sc_3 (Blk.of_heap hX hS) rfl) ?_
  refine pi_gyes rfl rfl (fun w hS => ro_move rfl) ?_
  refine pi_gyes rfl rfl (fun w hS => ro_nilCheck rfl) ?_
  refine pi_gyes rfl rfl (fun w hS => ro_fieldAddr (k := 1) rfl fo_75_1) ?_
  refine pi_gyes rfl rfl (fun w hS => ro_loadB rfl sc_73 (Blk.of_heap hX hS) rfl) ?_
  refine pi_gyes rfl rfl (fun w hS => ro_lenL rfl se_73) ?_
  refine pi_gyes rfl rfl (fun w hS => ro_cmp (r := false) rfl rfl (congrArg some (by simp; omega))) ?_
  refine pi_ro rfl (fun w hS => ro_pick rfl rfl rfl) ?_
  refine pi_ro rfl (fun w hS => ro_move rfl) ?_
  refine pi_gyes rfl rfl (fun w hS => ro_move rfl) ?_
  refine pi_gyes rfl rfl (fun w hS => ro_nilCheck rfl) ?_
  refine pi_gyes rfl rfl (fun w hS => ro_fieldAddr (k := 1) rfl fo_75_1) ?_
  refine pi_gyes rfl rfl (fun w hS => ro_loadB rfl sc_73 (Blk.of_heap hX hS) rfl) ?_
  refine pi_gyes rfl rfl (fun w hS => ro_lenL rfl se_73) ?_
  refine pi_gyes rfl rfl (fun w hS => ro_cmp (r := false) rfl rfl (congrArg some (by simp; omega))) ?_
  refine pi_ro rfl (fun w hS => ro_pick rfl rfl rfl) ?_
  refine pi_nil (x_then (hK3 _ _ ?_))
  clear hK3 K3
  refine wc_condF rfl ?_
  refine c_skip (x_then (hK2 _ _ ?_))
  clear hK2 K2
  refine c_seq (fun K4 hK4 => ?_)
  refine c_seq (fun K5 hK5 => ?_)
  refine c_reg ?_ -- region 3 check.go:30
  refine wl (ro_move rfl) ?_
  refine wl (ro_nilCheck rfl) ?_
  refine wl (ro_fieldAddr (k := 1) rfl fo_75_1) ?_
  refine wl (ro_loadB rfl sc_73 (hX) rfl) ?_
  refine wl (ro_lenL rfl se_73) ?_
  refine wl (ro_move rfl) ?_
  refine wl_nil (x_then (hK5 _ _ ?_))
  clear hK5 K5
  refine c_block ?_
  -- loop@r4: live slots [0, 37, 38]
  refine c_loopG (fun n a' w' => ∃ h, n = L.length - h ∧ h ≤ L.length ∧ Fram none' w w' ∧ ∃ e, a' = Fr 87 (upds e [(0, ptr xb), (37, i64c L.length), (38, i64c h)]) []) L.length ⟨0, rfl, Nat.zero_le _, hF.thenDrew, kp _ ⟨rfl, rfl, rfl, trivial⟩⟩ ?_
  clear hF hX
  rintro n a' u1 ⟨h, rfl, hh, hF, e, rfl⟩
  have hX := hF.blkN hX0
  refine c_seq (fun K6 hK6 => ?_)
  refine c_reg ?_ -- region 4 check.go:30
  refine wl (ro_cmp rfl rfl rfl) ?_
  refine wl_nil (x_then (hK6 _ _ ?_))
  clear hK6 K6
  refine forget [(0, _), (37, _), (38, _), (39, _)] ⟨rfl, rfl, rfl, rfl, trivial⟩ (fun e => ?_)
  refine c_seq (fun K7 hK7 => ?_)
  refine wc_cond rfl (fun hc39 => ?_) (fun hc39 => ?_)
  · try simp only [decide_eq_true_eq, decide_eq_false_iff_not, Bool.not_eq_true', Bool.not_eq_false', Bool.not_eq_eq_eq_not, Bool.not_true, Bool.not_false, beq_iff_eq, bne_iff_ne, ne_eq, beq_eq_false_iff_ne, bne_eq_false_iff_eq, gt_iff_lt, ge_iff_le, Int.not_lt, Int.not_le] at hc39
    have hlt : h < L.length := by omega
    have hm := List.getElem?_eq_getElem hlt
    generalize L[h] = m at hm
    have hI := hL.ti h m hm
    have hTv := hL.tv h m hm
    obtain ⟨ab, cap, l, hX9, hA, hl, q1, q2, q3, q4, q5, q6⟩ := hL.row hm
    have eV := hX0.uniq hX9
    have hAl := hA.lt
    replace hA := hF.blkN hA
    obtain ⟨a1, c1', hvo⟩ := hTv.o.form
    obtain ⟨a2, c2', hva⟩ := hTv.a.form
    have hva9 : va = some ⟨ab, 0, none⟩ := by have := eV.1; simp at this; exact this.1
    subst hva9
    have hn0 : m.R.nums (fInt (m.R.arr.length + 1)) = none := by
      cases hq : m.R.nums (fInt (m.R.arr.length + 1)) with
      | none => rfl
      | some p =>
        obtain ⟨⟨v, hv⟩, -⟩ := (hI.numI _ p).1 hq
        exact absurd hv (hI.gap p v)
    have hal := hI.alen
    have hrest := hL.rest h m
    refine c_skip (x_then (hK7 _ _ ?_))
    clear hK7 K7
    refine forget [(0, _), (37, _), (38, _)] ⟨rfl, rfl, rfl, trivial⟩ (fun e => ?_)
    refine c_seq (fun K8 hK8 => ?_)
    refine c_block ?_
    refine c_seq (fun K9 hK9 => ?_)
    refine c_reg ?_ -- region 5 check.go:30
    refine wl (ro_move rfl) ?_
    refine wl (ro_assign rfl) ?_
    refine wl_nil (x_then (hK9 _ _ ?_))
    clear hK9 K9
    refine c_seq (fun K10 hK10 => ?_)
    refine c_seq (fun K11 hK11 => ?_)
    refine c_reg ?_ -- region 6 check.go:31
    refine wl (ro_move rfl) ?_
    refine wl (ro_move rfl) ?_
    refine wl_call rfl en_248 (CheckMid248 (hL.farN hF) hm) ?_
    rintro _ w1 ⟨rfl, F1⟩
    replace hF := hF.thenDrew.thenN F1
    replace hX := F1.blkN hX
    replace hA := F1.blkN hA
    refine wl (ro_not rfl) ?_
    refine wl_nil (x_then (hK11 _ _ ?_))
    clear hK11 K11
    refine wc_condF rfl ?_
    refine c_skip (x_then (hK10 _ _ ?_))
    clear hK10 K10
    refine forget [(0, _), (3, _), (37, _), (38, _)] ⟨rfl, rfl, rfl, rfl, trivial⟩ (fun e => ?_)
    refine c_seq (fun K12 hK12 => ?_)
    refine c_reg ?_ -- region 8 check.go:34
    refine wl (ro_move rfl) ?_
    refine wl (ro_nilCheck rfl) ?_
    refine wl (ro_fieldAddr (k := 1) rfl fo_75_1) ?_
    refine wl (ro_loadB rfl sc_73 (hX) rfl) ?_
    refine wl (ro_move rfl) ?_
    refine wl (ro_indexAddr (et := 251) (k := 6) rfl rfl se_73 (rfl) (hlt)) ?_
    refine wl (ro_assign rfl) ?_
    refine wl_nil (x_then (hK12 _ _ ?_))
    clear hK12 K12
    refine forget [(0, _), (3, _), (4, _), (37, _), (38, _)] ⟨rfl, rfl, rfl, rfl, rfl, trivial⟩ (fun e => ?_)
    refine c_seq (fun K13 hK13 => ?_)
    refine c_pi [(0, false), (1, false), (2, false), (3, false), (4, false), (5, false), (6, false), (7, false), (8, false), (9, false), (10, true), (11, false)] (SameH _) mixed (by kernel_rfl) rfl (by kernel_rfl) (po_then (po_blk (po_then (po_then (po_blk (po_then (po_bp))))))) (sameH_now _ _) ?_ -- region 9 check.go:35
    refine pi_ro rfl (fun w hS => ro_move rfl) ?_
    refine pi_ro rfl (fun w hS => ro_nilCheck rfl) ?_
    refine pi_ro rfl (fun w hS => ro_fieldAddr (k := 0) rfl fo_75_0) ?_
    refine pi_ro rfl (fun w hS => ro_loadB rfl sc_36 (Blk.of_heap hX hS) rfl) ?_
    refine pi_ro rfl (fun w hS => ro_move rfl) ?_
    refine pi_ro rfl (fun w hS => ro_nilCheck rfl) ?_
    refine pi_ro rfl (fun w hS => ro_fieldAddr (k := 1) rfl fo_251_1) ?_
    refine pi_ro rfl (fun w hS => ro_loadB rfl sc_247 (Blk.of_heap hA hS) ((row_cell3 (j := 1) hl (by show some m.va = _; rw [hva])))) ?_
    refine pi_ro rfl (fun w hS => ro_lenL rfl se_247) ?_
    refine pi_ro rfl (fun w hS => ro_adT (m := m.R.arr.length) (k := 1) rfl rfl (by omega)) ?_
    refine pi_call rfl rfl en_249 (FromInt249 (i := m.R.arr.length + 1)) ?_
    rintro _ _ ⟨rfl, rfl⟩
    refine ⟨rfl, ?_⟩
    refine pi_ro rfl (fun w hS => ro_assign rfl) ?_
    refine pi_nil (x_then (hK13 _ _ ?_))
    clear hK13 K13
    refine c_seq (fun K14 hK14 => ?_)
    refine c_seq (fun K15 hK15 => ?_)
    refine c_reg ?_ -- region 10 check.go:36
    refine wl (ro_move rfl) ?_
    refine wl (ro_nilCheck rfl) ?_
    refine wl (ro_fieldAddr (k := 2) rfl fo_251_2) ?_
    refine wl (ro_loadB rfl sc_248 (hA) ((row_cell3 (j := 2) hl rfl))) ?_
    refine wl (ro_move rfl) ?_
    refine wl (ro_mfLook (et := 21) (z := .int .i32 0) (vv := i32c) (f := m.R.nums) (a := fInt (m.R.arr.length + 1)) keyU248 rfl rfl (by kernel_rfl) (by kernel_rfl) (hTv.n.framN hF.thenDrew)) ?_
    refine wl (ro_move rfl) ?_
    refine wl (ro_extract rfl rfl) ?_
    refine wl (ro_extract rfl rfl) ?_
    refine wl (ro_assign rfl) ?_
    refine wl (ro_assign rfl) ?_
    refine wl_nil (x_then (hK15 _ _ ?_))
    clear hK15 K15
    refine forget [(0, _), (3, _), (4, _), (7, _), (37, _), (38, _)] ⟨rfl, rfl, rfl, rfl, rfl, rfl, trivial⟩ (fun e => ?_)
    refine c_seq (fun K16 hK16 => ?_)
    refine c_reg ?_ -- region 11 check.go:36
    refine wl (ro_move rfl) ?_
    refine wl_nil (x_then (hK16 _ _ ?_))
    clear hK16 K16
    refine wc_cond rfl (fun hc71 => ?_) (fun hc71 => ?_)
    · try simp only [decide_eq_true_eq, decide_eq_false_iff_not, Bool.not_eq_true', Bool.not_eq_false', Bool.not_eq_eq_eq_not, Bool.not_true, Bool.not_false, beq_iff_eq, bne_iff_ne, ne_eq, beq_eq_false_iff_ne, bne_eq_false_iff_eq, gt_iff_lt, ge_iff_le, Int.not_lt, Int.not_le] at hc71
      exfalso; rw [hn0] at hc71; cases hc71
    · try simp only [decide_eq_true_eq, decide_eq_false_iff_not, Bool.not_eq_true', Bool.not_eq_false', Bool.not_eq_eq_eq_not, Bool.not_true, Bool.not_false, beq_iff_eq, bne_iff_ne, ne_eq, beq_eq_false_iff_ne, bne_eq_false_iff_eq, gt_iff_lt, ge_iff_le, Int.not_lt, Int.not_le] at hc71
      refine c_skip (x_then (hK14 _ _ ?_))
      clear hK14 K14
      refine forget [(0, _), (3, _), (4, _), (37, _), (38, _)] ⟨rfl, rfl, rfl, rfl, rfl, trivial⟩ (fun e => ?_)
      refine c_seq (fun K17 hK17 => ?_)
      refine c_reg ?_ -- region 13 check.go:39
      refine wl (ro_move rfl) ?_
      refine wl (ro_move rfl) ?_
      refine wl (ro_nilCheck rfl) ?_
      refine wl (ro_fieldAddr (k := 2) rfl fo_75_2) ?_
      refine wl (ro_loadB rfl sc_3 (hX) rfl) ?_
      refine wl (ro_cmp rfl rfl rfl) ?_
      refine wl_fork rfl (fun hg78 => ?_) (fun hg78 => ?_)
      · try simp only [decide_eq_true_eq, decide_eq_false_iff_not, Bool.not_eq_true', Bool.not_eq_false', Bool.not_eq_eq_eq_not, Bool.not_true, Bool.not_false, beq_iff_eq, bne_iff_ne, ne_eq, beq_eq_false_iff_ne, bne_eq_false_iff_eq, gt_iff_lt, ge_iff_le, Int.not_lt, Int.not_le] at hg78
        have hr0 := hrest (by omega) hm
        refine wlg_yes rfl (ro_move rfl) ?_
        refine wlg_yes rfl (ro_nilCheck rfl) ?_
        refine wlg_yes rfl (ro_fieldAddr (k := 0) rfl fo_251_0) ?_
        refine wlg_yes rfl (ro_loadB rfl sc_246 (hA) ((row_cell3 (j := 0) hl (by show some m.vo = _; rw [hvo])))) ?_
        refine wlg_yes rfl (ro_lenL rfl se_246) ?_
        refine wlg_yes rfl (ro_cmp rfl rfl rfl) ?_
        refine wl (ro_pick rfl rfl rfl) ?_
        refine wl_nil (x_then (hK17 _ _ ?_))
        clear hK17 K17
        refine wc_cond rfl (fun hc85 => ?_) (fun hc85 => ?_)
        · try simp only [decide_eq_true_eq, decide_eq_false_iff_not, Bool.not_eq_true', Bool.not_eq_false', Bool.not_eq_eq_eq_not, Bool.not_true, Bool.not_false, beq_iff_eq, bne_iff_ne, ne_eq, beq_eq_false_iff_ne, bne_eq_false_iff_eq, gt_iff_lt, ge_iff_le, Int.not_lt, Int.not_le] at hc85
          exfalso; rw [hr0] at hc85; exact hc85 rfl
        · try simp only [decide_eq_true_eq, decide_eq_false_iff_not, Bool.not_eq_true', Bool.not_eq_false', Bool.not_eq_eq_eq_not, Bool.not_true, Bool.not_false, beq_iff_eq, bne_iff_ne, ne_eq, beq_eq_false_iff_ne, bne_eq_false_iff_eq, gt_iff_lt, ge_iff_le, Int.not_lt, Int.not_le] at hc85
          refine c_skip (x_blk (x_then (hK8 _ _ ?_)))
          clear hK8 K8
          refine c_reg ?_ -- region 15 check.go:30
          refine wl (ro_adT (m := h) (k := 1) rfl rfl (by omega)) ?_
          refine wl (ro_move rfl) ?_
          refine wl_nil (x_then ?_)
          exact ⟨L.length - (h + 1), by omega, h + 1, rfl, by omega, hF.thenDrew, kp _ ⟨rfl, rfl, rfl, trivial⟩⟩
      · try simp only [decide_eq_true_eq, decide_eq_false_iff_not, Bool.not_eq_true', Bool.not_eq_false', Bool.not_eq_eq_eq_not, Bool.not_true, Bool.not_false, beq_iff_eq, bne_iff_ne, ne_eq, beq_eq_false_iff_ne, bne_eq_false_iff_eq, gt_iff_lt, ge_iff_le, Int.not_lt, Int.not_le] at hg78
        refine wlg_no rfl ?_
        refine wlg_no rfl ?_
        refine wlg_no rfl ?_
        refine wlg_no rfl ?_
        refine wlg_no rfl ?_
        refine wlg_no rfl ?_
        refine wl (ro_pick rfl rfl rfl) ?_
        refine wl_nil (x_then (hK17 _ _ ?_))
        clear hK17 K17
        refine wc_condF rfl ?_
        refine c_skip (x_blk (x_then (hK8 _ _ ?_)))
        clear hK8 K8
        refine c_reg ?_ -- region 15 check.go:30
        refine wl (ro_adT (m := h) (k := 1) rfl rfl (by omega)) ?_
        refine wl (ro_move rfl) ?_
        refine wl_nil (x_then ?_)
        exact ⟨L.length - (h + 1), by omega, h + 1, rfl, by omega, hF.thenDrew, kp _ ⟨rfl, rfl, rfl, trivial⟩⟩
  · try simp only [decide_eq_true_eq, decide_eq_false_iff_not, Bool.not_eq_true', Bool.not_eq_false', Bool.not_eq_eq_eq_not, Bool.not_true, Bool.not_false, beq_iff_eq, bne_iff_ne, ne_eq, beq_eq_false_iff_ne, bne_eq_false_iff_eq, gt_iff_lt, ge_iff_le, Int.not_lt, Int.not_le] at hc39
    refine c_exit (x_thenX (x_thenX (x_blkX (x_then (hK4 _ _ ?_)))))
    clear hK7 K7 hK4 K4
    refine forget [] trivial (fun e => ?_)
    refine c_seq (fun K18 hK18 => ?_)
    refine c_reg ?_ -- region 16 check.go:43
    refine wl (ro_assign rfl) ?_
    refine wl_nil (x_then (hK18 _ _ ?_))
    clear hK18 K18
    refine c_ret ?_
    refine bp_ret Tryz.results207 rfl ?_
    exact ⟨rfl, hF⟩
end Go.Proofs.Qxb6500568aGreatDoor
