import Derived.Test.Qxb6500568aGreatDoorQl
/- The machine: valid, Status, Out, Fuel. -/
namespace Go.Proofs.Qxb6500568aGreatDoor
open Ieee
set_option linter.unusedVariables false
set_option linter.unusedSimpArgs false
set_option linter.unusedSectionVars false

section
variable {C : VC} {w w0 : World} {ow ow0 : Nat → Nat} {s b : AS} {n cu fuel : Nat} {out : Str}
theorem fCmp_self {a : Nat} : fCmp 2 a a = isNaNW a := by
  unfold fCmp isNaNW
  by_cases h : infB < rgW a
  · rw [if_pos (.inl h)]; simp [h]
  · rw [if_neg (by omega)]; simp [h]
theorem VW.clR {V : VS} {e : Nat} {T : List Tb} {Vv : Nat → Value} {U : Nat → Nat → Value} (h : VW C w ow V e fuel out T Vv U) : ∃ g c, Vv 6 = .slice g V.clos.length c := by
  obtain ⟨L, op, vl⟩ := h.ex
  obtain ⟨cl, ux, c6, c7, cR, cb⟩ := vl.c
  obtain ⟨g, c, e⟩ := (op.a 6 (.inl (by decide))).form
  rw [c6] at e
  exact ⟨g, c, by rw [e]; show Value.slice g cl.length c = _; rw [cR.1]⟩
set_option maxHeartbeats 4000000 in
theorem validA (hR : AMq C w ow s) {v : PV} (hv : VV s.clos.length s.ths.length s.tabs.length v) : Ret Tryz.prog 149 [ptr C.E.mb, pv v] w (fun r w' => r = .bool true ∧ Fram none' w w') := by
  have hF : Fram none' w w := Fram.refl _ _
  obtain ⟨V, κ, Vv, U, h1, h2⟩ := id hR
  have hcl := h2.r.clen
  have htl := h2.r.tlen
  have hc24 := h1.cb
  have ht5 : V.ths.length ≤ 5 := by
    obtain ⟨L, op, vl⟩ := h1.ex
    have := op.nt
    have := vl.n
    omega
  obtain ⟨g6, c6, e6⟩ := h1.clR
  obtain ⟨lM, hM, m0, m1, -, -, -, -, m6, -, -, m9, -⟩ := h1.mbA
  rw [e6] at m6
  have htb := h1.tb
  have hwN := hv.w
  have h12 : s.tabs.length < 4294967296 := by
    obtain ⟨L', cnt, q1, q2⟩ := h1.tb
    rw [q2, absT_len q1.cl]
    have := q1.l12
    have := q1.cl
    omega
  refine ret_of Tryz.func149 rfl Tryz.ntmps149 rfl ?_
  refine c_seq (fun K1 hK1 => ?_)
  refine c_reg ?_ -- region 0 exec.go:32
  refine wl_box (cs := (pvc v)) rfl rfl (fun b3 w1 hbb3 h3 F1 => ?_)
  have hbsb3 := Nat.le_trans hF.size hbb3
  have hneC.E.mbb3 : C.E.mb < b3 := Nat.lt_of_lt_of_le hM.lt hbb3
  replace hF := hF.thenDrew.thenN F1
  replace hM := F1.blkN hM
  refine wl (ro_assign rfl) ?_
  refine wl_nil (x_then (hK1 _ _ ?_))
  clear hK1 K1
  refine c_seq (fun K2 hK2 => ?_)
  refine c_seq (fun K3 hK3 => ?_)
  refine c_reg ?_ -- region 1 exec.go:33
  refine wl (ro_loadAggB rfl ag_119 (by assumption) rfl rfl) ?_
  refine wl_call rfl en_51 (WF51 hv.wf hv.w) ?_
  rintro _ w2 ⟨rfl, F2⟩
  replace hF := hF.thenDrew.thenN F2
  replace hM := F2.blkN hM
  replace h3 := F2.blkN h3
  refine wl (ro_not rfl) ?_
  refine wl_nil (x_then (hK3 _ _ ?_))
  clear hK3 K3
  refine wc_condF rfl ?_
  refine c_skip (x_then (hK2 _ _ ?_))
  clear hK2 K2
  refine c_seq (fun K4 hK4 => ?_)
  refine c_seq (fun K5 hK5 => ?_)
  refine c_reg ?_ -- region 3 exec.go:36
  refine wl (ro_fieldAddr (k := 0) rfl fo_119_0) ?_
  refine wl (ro_loadB rfl sc_3 (h3) rfl) ?_
  refine wl_nil (x_then (hK5 _ _ ?_))
  clear hK5 K5
  refine c_block ?_
  refine forget [(0, _), (3, _), (11, _)] ⟨rfl, rfl, rfl, trivial⟩ (fun e => ?_)
  refine c_seq (fun K6 hK6 => ?_)
  refine c_reg ?_ -- region 4 exec.go:37
  refine wl (ro_cmp rfl rfl rfl) ?_
  refine wl (ro_assign rfl) ?_
  refine wl_nil (x_then (hK6 _ _ ?_))
  clear hK6 K6
  refine wc_cond rfl (fun hc12 => ?_) (fun hc12 => ?_)
  · try simp only [decide_eq_true_eq, decide_eq_false_iff_not, Bool.not_eq_true', Bool.not_eq_false', Bool.not_eq_eq_eq_not, Bool.not_true, Bool.not_false, beq_iff_eq, bne_iff_ne, ne_eq, beq_eq_false_iff_ne, bne_eq_false_iff_eq, gt_iff_lt, ge_iff_le, Int.not_lt, Int.not_le] at hc12
    refine c_seq (fun K7 hK7 => ?_)
    refine c_pi [(0, false), (1, false), (2, false), (3, false), (4, false), (5, false), (6, false), (7, false), (8, true), (9, false)] (SameH _) mixed (by kernel_rfl) rfl (by kernel_rfl) (po_then (po_blk (po_then (po_bp)))) (sameH_now _ _) ?_ -- region 5 exec.go:38
    refine pi_ro rfl (fun w hS => ro_move rfl) ?_
    refine pi_ro rfl (fun w hS => ro_nilCheck rfl) ?_
    refine pi_ro rfl (fun w hS => ro_fieldAddr (k := 0) rfl fo_89_0) ?_
    refine pi_ro rfl (fun w hS => ro_loadB rfl sc_36 (Blk.of_heap hM hS) (m0)) ?_
    refine pi_ro rfl (fun w hS => ro_fieldAddr (k := 1) rfl fo_119_1) ?_
    refine pi_ro rfl (fun w hS => ro_loadB rfl sc_117 (Blk.of_heap h3 hS) rfl) ?_
    refine pi_ro rfl (fun w hS => ro_fieldAddr (k := 1) rfl fo_119_1) ?_
    refine pi_ro rfl (fun w hS => ro_loadB rfl sc_117 (Blk.of_heap h3 hS) rfl) ?_
    refine pi_call rfl rfl en_142 (Cmp142 (op := 2) hv.w hv.w) ?_
    rintro _ _ ⟨rfl, rfl⟩
    refine ⟨rfl, ?_⟩
    refine pi_ro rfl (fun w hS => ro_assign rfl) ?_
    refine pi_nil (x_then (hK7 _ _ ?_))
    clear hK7 K7
    refine forget [(3, _), (5, _)] ⟨rfl, rfl, trivial⟩ (fun e => ?_)
    refine c_seq (fun K8 hK8 => ?_)
    refine c_reg ?_ -- region 6 exec.go:39
    refine wl (ro_move rfl) ?_
    refine wl (ro_not rfl) ?_
    refine wl_fork rfl (fun hg25 => ?_) (fun hg25 => ?_)
    · try simp only [decide_eq_true_eq, decide_eq_false_iff_not, Bool.not_eq_true', Bool.not_eq_false', Bool.not_eq_eq_eq_not, Bool.not_true, Bool.not_false, beq_iff_eq, bne_iff_ne, ne_eq, beq_eq_false_iff_ne, bne_eq_false_iff_eq, gt_iff_lt, ge_iff_le, Int.not_lt, Int.not_le] at hg25
      refine wlg_no rfl ?_
      refine wlg_no rfl ?_
      refine wlg_no rfl ?_
      refine wl (ro_pick rfl rfl rfl) ?_
      refine wl (ro_assign rfl) ?_
      refine wl_nil (x_then (hK8 _ _ ?_))
      clear hK8 K8
      refine c_ret (x_blkR (x_thenR ?_))
      refine bp_ret Tryz.results149 rfl ?_
      exact ⟨rfl, hF.thenDrew⟩
    · try simp only [decide_eq_true_eq, decide_eq_false_iff_not, Bool.not_eq_true', Bool.not_eq_false', Bool.not_eq_eq_eq_not, Bool.not_true, Bool.not_false, beq_iff_eq, bne_iff_ne, ne_eq, beq_eq_false_iff_ne, bne_eq_false_iff_eq, gt_iff_lt, ge_iff_le, Int.not_lt, Int.not_le] at hg25
      refine wlg_yes rfl (ro_fieldAddr (k := 1) rfl fo_119_1) ?_
      refine wlg_yes rfl (ro_loadB rfl sc_117 (h3) rfl) ?_
      refine wlg_yes rfl (ro_cmpU rfl rfl rfl) ?_
      refine wl (ro_pick rfl rfl rfl) ?_
      refine wl (ro_assign rfl) ?_
      refine wl_nil (x_then (hK8 _ _ ?_))
      clear hK8 K8
      refine c_ret (x_blkR (x_thenR ?_))
      refine bp_ret Tryz.results149 rfl ?_
      refine ⟨?_, hF.thenDrew⟩
      have hn := hv.nan (by omega) (by rw [← fCmp_self]; simpa using hg25)
      rw [hn]
      rfl
  · try simp only [decide_eq_true_eq, decide_eq_false_iff_not, Bool.not_eq_true', Bool.not_eq_false', Bool.not_eq_eq_eq_not, Bool.not_true, Bool.not_false, beq_iff_eq, bne_iff_ne, ne_eq, beq_eq_false_iff_ne, bne_eq_false_iff_eq, gt_iff_lt, ge_iff_le, Int.not_lt, Int.not_le] at hc12
    refine c_seq (fun K9 hK9 => ?_)
    refine c_reg ?_ -- region 7 exec.go:40
    refine wl (ro_cmp rfl rfl rfl) ?_
    refine wl (ro_assign rfl) ?_
    refine wl_nil (x_then (hK9 _ _ ?_))
    clear hK9 K9
    refine wc_cond rfl (fun hc30 => ?_) (fun hc30 => ?_)
    · try simp only [decide_eq_true_eq, decide_eq_false_iff_not, Bool.not_eq_true', Bool.not_eq_false', Bool.not_eq_eq_eq_not, Bool.not_true, Bool.not_false, beq_iff_eq, bne_iff_ne, ne_eq, beq_eq_false_iff_ne, bne_eq_false_iff_eq, gt_iff_lt, ge_iff_le, Int.not_lt, Int.not_le] at hc30
      refine c_seq (fun K10 hK10 => ?_)
      refine c_reg ?_ -- region 8 exec.go:41
      refine wl (ro_move rfl) ?_
      refine wl (ro_nilCheck rfl) ?_
      refine wl (ro_fieldAddr (k := 1) rfl fo_89_1) ?_
      refine wl (ro_loadB rfl sc_38 (hM) (m1)) ?_
      refine wl_call rfl en_202 (Count202 (htb.far hF (fun _ _ _ q ↦ q) (Xt.refl _ _))) ?_
      rintro _ u0 ⟨rfl, hw0⟩
      rw [hw0]
      clear hw0 u0
      refine wl (ro_assign rfl) ?_
      refine wl_nil (x_then (hK10 _ _ ?_))
      clear hK10 K10
      refine forget [(3, _), (6, _)] ⟨rfl, rfl, trivial⟩ (fun e => ?_)
      refine c_seq (fun K11 hK11 => ?_)
      refine c_reg ?_ -- region 9 exec.go:42
      refine wl (ro_fieldAddr (k := 1) rfl fo_119_1) ?_
      refine wl (ro_loadB rfl sc_117 (h3) rfl) ?_
      refine wl (ro_move rfl) ?_
      refine wl (ro_conv (a := (s.tabs.length : Int)) rfl sc_3 in_117 (Go.IntWalk.u64_in _ (by omega))) ?_
      refine wl (ro_cmpU rfl rfl rfl) ?_
      refine wl (ro_assign rfl) ?_
      refine wl_nil (x_then (hK11 _ _ ?_))
      clear hK11 K11
      refine c_ret (x_blkR (x_thenR ?_))
      refine bp_ret Tryz.results149 rfl ?_
      refine ⟨congrArg Value.bool ?_, hF⟩
      have := hv.tb (by omega)
      simp
      omega
    · try simp only [decide_eq_true_eq, decide_eq_false_iff_not, Bool.not_eq_true', Bool.not_eq_false', Bool.not_eq_eq_eq_not, Bool.not_true, Bool.not_false, beq_iff_eq, bne_iff_ne, ne_eq, beq_eq_false_iff_ne, bne_eq_false_iff_eq, gt_iff_lt, ge_iff_le, Int.not_lt, Int.not_le] at hc30
      refine c_seq (fun K12 hK12 => ?_)
      refine c_reg ?_ -- region 10 exec.go:43
      refine wl (ro_cmp rfl rfl rfl) ?_
      refine wl (ro_assign rfl) ?_
      refine wl_nil (x_then (hK12 _ _ ?_))
      clear hK12 K12
      refine wc_cond rfl (fun hc42 => ?_) (fun hc42 => ?_)
      · try simp only [decide_eq_true_eq, decide_eq_false_iff_not, Bool.not_eq_true', Bool.not_eq_false', Bool.not_eq_eq_eq_not, Bool.not_true, Bool.not_false, beq_iff_eq, bne_iff_ne, ne_eq, beq_eq_false_iff_ne, bne_eq_false_iff_eq, gt_iff_lt, ge_iff_le, Int.not_lt, Int.not_le] at hc42
        refine c_seq (fun K13 hK13 => ?_)
        refine c_pi [(0, false), (1, false), (2, false), (3, false), (4, false), (5, false), (6, false), (7, false), (8, false), (9, false)] (SameH _) mixed (by kernel_rfl) rfl (by kernel_rfl) (po_then (po_blk (po_then (po_bp)))) (sameH_now _ _) ?_ -- region 11 exec.go:44
        refine pi_ro rfl (fun w hS => ro_fieldAddr (k := 1) rfl fo_119_1) ?_
        refine pi_ro rfl (fun w hS => ro_loadB rfl sc_117 (Blk.of_heap h3 hS) rfl) ?_
        refine pi_ro rfl (fun w hS => ro_move rfl) ?_
        refine pi_ro rfl (fun w hS => ro_nilCheck rfl) ?_
        refine pi_ro rfl (fun w hS => ro_fieldAddr (k := 6) rfl fo_89_6) ?_
        refine pi_ro rfl (fun w hS => ro_loadB rfl sc_85 (Blk.of_heap hM hS) (m6)) ?_
        refine pi_ro rfl (fun w hS => ro_lenL rfl se_85) ?_
        refine pi_ro rfl (fun w hS => ro_conv (a := (V.clos.length : Int)) rfl sc_3 in_117 (Go.IntWalk.u64_in _ (by omega))) ?_
        refine pi_ro rfl (fun w hS => ro_cmpU rfl rfl rfl) ?_
        refine pi_ro rfl (fun w hS => ro_assign rfl) ?_
        refine pi_nil (x_then (hK13 _ _ ?_))
        clear hK13 K13
        refine c_ret (x_blkR (x_thenR ?_))
        refine bp_ret Tryz.results149 rfl ?_
        refine ⟨congrArg Value.bool ?_, hF.thenDrew⟩
        have := hv.f (by omega)
        simp
        omega
      · try simp only [decide_eq_true_eq, decide_eq_false_iff_not, Bool.not_eq_true', Bool.not_eq_false', Bool.not_eq_eq_eq_not, Bool.not_true, Bool.not_false, beq_iff_eq, bne_iff_ne, ne_eq, beq_eq_false_iff_ne, bne_eq_false_iff_eq, gt_iff_lt, ge_iff_le, Int.not_lt, Int.not_le] at hc42
        refine c_seq (fun K14 hK14 => ?_)
        refine c_reg ?_ -- region 12 exec.go:45
        refine wl (ro_cmp rfl rfl rfl) ?_
        refine wl (ro_assign rfl) ?_
        refine wl_nil (x_then (hK14 _ _ ?_))
        clear hK14 K14
        refine wc_cond rfl (fun hc53 => ?_) (fun hc53 => ?_)
        · try simp only [decide_eq_true_eq, decide_eq_false_iff_not, Bool.not_eq_true', Bool.not_eq_false', Bool.not_eq_eq_eq_not, Bool.not_true, Bool.not_false, beq_iff_eq, bne_iff_ne, ne_eq, beq_eq_false_iff_ne, bne_eq_false_iff_eq, gt_iff_lt, ge_iff_le, Int.not_lt, Int.not_le] at hc53
          refine c_seq (fun K15 hK15 => ?_)
          refine c_pi [(0, false), (1, false), (2, false), (3, false), (4, false), (5, false), (6, false), (7, false), (8, false), (9, false)] (SameH _) mixed (by kernel_rfl) rfl (by kernel_rfl) (po_then (po_blk (po_then (po_bp)))) (sameH_now _ _) ?_ -- region 13 exec.go:46
          refine pi_ro rfl (fun w hS => ro_fieldAddr (k := 1) rfl fo_119_1) ?_
          refine pi_ro rfl (fun w hS => ro_loadB rfl sc_117 (Blk.of_heap h3 hS) rfl) ?_
          refine pi_ro rfl (fun w hS => ro_move rfl) ?_
          refine pi_ro rfl (fun w hS => ro_nilCheck rfl) ?_
          refine pi_ro rfl (fun w hS => ro_fieldAddr (k := 9) rfl fo_89_9) ?_
          refine pi_ro rfl (fun w hS => ro_loadB rfl sc_80 (Blk.of_heap hM hS) (m9)) ?_
          refine pi_ro rfl (fun w hS => ro_lenL rfl se_80) ?_
          refine pi_ro rfl (fun w hS => ro_conv (a := (V.ths.length : Int)) rfl sc_3 in_117 (Go.IntWalk.u64_in _ (by omega))) ?_
          refine pi_ro rfl (fun w hS => ro_cmpU rfl rfl rfl) ?_
          refine pi_ro rfl (fun w hS => ro_assign rfl) ?_
          refine pi_nil (x_then (hK15 _ _ ?_))
          clear hK15 K15
          refine c_ret (x_blkR (x_thenR ?_))
          refine bp_ret Tryz.results149 rfl ?_
          refine ⟨congrArg Value.bool ?_, hF.thenDrew⟩
          have := hv.co (by omega)
          simp
          omega
        · try simp only [decide_eq_true_eq, decide_eq_false_iff_not, Bool.not_eq_true', Bool.not_eq_false', Bool.not_eq_eq_eq_not, Bool.not_true, Bool.not_false, beq_iff_eq, bne_iff_ne, ne_eq, beq_eq_false_iff_ne, bne_eq_false_iff_eq, gt_iff_lt, ge_iff_le, Int.not_lt, Int.not_le] at hc53
          refine c_skip (x_blk (x_then (hK4 _ _ ?_)))
          clear hK4 K4
          refine forget [] trivial (fun e => ?_)
          refine c_seq (fun K16 hK16 => ?_)
          refine c_reg ?_ -- region 14 exec.go:48
          refine wl (ro_assign rfl) ?_
          refine wl_nil (x_then (hK16 _ _ ?_))
          clear hK16 K16
          refine c_ret ?_
          refine bp_ret Tryz.results149 rfl ?_
          exact ⟨rfl, hF⟩
theorem statusA (hR : AMq C w ow s) (hn : n < s.ths.length) : Ret Tryz.prog 90 [ptr C.E.mb, i64c n] w (fun r w' => r = i64c (thA s.ths n).st ∧ Fram none' w w') := by
  have hF : Fram none' w w := Fram.refl _ _
  obtain ⟨V, κ, Vv, U, h1, h2⟩ := hR
  have hl := h2.r.tlen
  have hx : V.ths[n]? = some V.ths[n] := List.getElem?_eq_getElem (by omega)
  have hy : s.ths[n]? = some (thA s.ths n) := by unfold thA; rw [List.getD_eq_getElem?_getD, List.getElem?_eq_getElem hn]; rfl
  have hg := h2.r.th _ _ _ hx hy
  have h5 := h1.lt hx
  obtain ⟨lT, hT, -, e1, -⟩ := h1.thA hx
  obtain ⟨lM, hM, -, -, -, -, -, -, -, -, -, e2, -⟩ := h1.mbA
  rw [hg.1] at e1
  refine ret_of Tryz.func90 rfl Tryz.ntmps90 rfl ?_
  refine c_seq (fun K1 hK1 => ?_)
  refine c_reg ?_ -- region 0 vm.go:268
  refine wl (ro_assign rfl) ?_
  refine wl_nil (x_then (hK1 _ _ ?_))
  clear hK1 K1
  refine c_seq (fun K2 hK2 => ?_)
  refine c_seq (fun K3 hK3 => ?_)
  refine c_reg ?_ -- region 1 vm.go:269
  refine wl (ro_move rfl) ?_
  refine wl (ro_cmp (r := false) rfl rfl (congrArg some (decide_eq_false (by omega)))) ?_
  refine wl (ro_move rfl) ?_
  refine wlg_yes rfl (ro_move rfl) ?_
  refine wlg_yes rfl (ro_move rfl) ?_
  refine wlg_yes rfl (ro_nilCheck rfl) ?_
  refine wlg_yes rfl (ro_fieldAddr (k := 9) rfl fo_89_9) ?_
  refine wlg_yes rfl (ro_loadB rfl sc_80 (hM) (e2)) ?_
  refine wlg_yes rfl (ro_lenL rfl se_80) ?_
  refine wlg_yes rfl (ro_cmp (r := false) rfl rfl (congrArg some (decide_eq_false (by omega)))) ?_
  refine wl (ro_pick rfl rfl rfl) ?_
  refine wl_nil (x_then (hK3 _ _ ?_))
  clear hK3 K3
  refine wc_condF rfl ?_
  refine c_skip (x_then (hK2 _ _ ?_))
  clear hK2 K2
  refine forget [(0, _), (1, _)] ⟨rfl, rfl, trivial⟩ (fun e => ?_)
  refine c_seq (fun K4 hK4 => ?_)
  refine c_reg ?_ -- region 3 vm.go:272
  refine wl (ro_move rfl) ?_
  refine wl (ro_nilCheck rfl) ?_
  refine wl (ro_fieldAddr (k := 9) rfl fo_89_9) ?_
  refine wl (ro_loadB rfl sc_80 (hM) (e2)) ?_
  refine wl (ro_move rfl) ?_
  refine wl (ro_indexAddr (et := 269) (k := 5) rfl rfl se_80 (rfl) ((by omega))) ?_
  refine wl (ro_fieldAddr (k := 0) rfl fo_269_0) ?_
  refine wl (ro_loadB rfl sc_3 (hT) ((by rw [Nat.zero_add]; exact e1))) ?_
  refine wl (ro_assign rfl) ?_
  refine wl_nil (x_then (hK4 _ _ ?_))
  clear hK4 K4
  refine c_ret ?_
  refine bp_ret Tryz.results90 rfl ?_
  exact ⟨rfl, hF⟩
theorem fuelA (hR : MOF C w ow fuel out) : Ret Tryz.prog 41 [ptr C.E.mb] w (fun r w' => r = i64c fuel ∧ Fram none' w w') := by
  have hF : Fram none' w w := Fram.refl _ _
  obtain ⟨L, Vv, U, T, op, ⟨hf, ho⟩, -⟩ := hR
  have hM := op.m
  unfold mbc at hM
  rw [hf] at hM
  refine ret_of Tryz.func41 rfl Tryz.ntmps41 rfl ?_
  refine c_seq (fun K1 hK1 => ?_)
  refine c_reg ?_ -- region 0 vm.go:262
  refine wl (ro_assign rfl) ?_
  refine wl_nil (x_then (hK1 _ _ ?_))
  clear hK1 K1
  refine forget [(0, _)] ⟨rfl, trivial⟩ (fun e => ?_)
  refine c_seq (fun K2 hK2 => ?_)
  refine c_reg ?_ -- region 1 vm.go:262
  refine wl (ro_move rfl) ?_
  refine wl (ro_nilCheck rfl) ?_
  refine wl (ro_fieldAddr (k := 10) rfl fo_89_10) ?_
  refine wl (ro_loadB rfl sc_3 (hM) rfl) ?_
  refine wl (ro_assign rfl) ?_
  refine wl_nil (x_then (hK2 _ _ ?_))
  clear hK2 K2
  refine c_ret ?_
  refine bp_ret Tryz.results41 rfl ?_
  exact ⟨rfl, hF⟩
theorem ro_toS0 {P : Program} {n : Nat} {e : Nat → Option Value} {w : World} {src dst : Nat} {x : Operand} (hx : evO n e x = some (.slice none 0 0)) (hs : selB P src 5 1 = true) (he : P.underlying 5 = some (.int .u8)) (hd : strB P dst = true) : RO P n e w (.convert src dst x) (S []) := by
  intro ds dst' ty ps af g
  have hd' := strB_spec hd
  obtain ⟨t1, t2⟩ := selB_spec hs
  have h2 := run_convert_bytes_string (P := P) w src dst 5 none 0 0 t1 he hd'
  have h1 : (Conv.bytesToString (.slice none 0 0)).run P w = .ok (.string .empty) w := rfl
  simp [execOp, evO_eval hx, h2, h1, S]
  rfl
theorem outA (hR : MOF C w ow fuel out) : Ret Tryz.prog 40 [ptr C.E.mb] w (fun r w' => r = S out ∧ Fram none' w w') := by
  have hF : Fram none' w w := Fram.refl _ _
  obtain ⟨L, Vv, U, T, op, ⟨hf, ho⟩, -⟩ := hR
  have hM := op.m
  have a11 := op.a 11 (.inr rfl)
  unfold mbc at hM
  rw [ho] at a11
  rcases a11.o.2 with ⟨e1, e2⟩ | ⟨g, cap, l, e1, hB, h1, h2, h3, h4⟩
  · obtain rfl : out = [] := List.eq_nil_of_length_eq_zero e2
    rw [e1] at hM
    refine ret_of Tryz.func40 rfl Tryz.ntmps40 rfl ?_
    refine c_seq (fun K1 hK1 => ?_)
    refine c_reg ?_ -- region 0 vm.go:259
    refine wl (ro_assign rfl) ?_
    refine wl_nil (x_then (hK1 _ _ ?_))
    clear hK1 K1
    refine forget [(0, _)] ⟨rfl, trivial⟩ (fun e => ?_)
    refine c_seq (fun K2 hK2 => ?_)
    refine c_reg ?_ -- region 1 vm.go:259
    refine wl (ro_move rfl) ?_
    refine wl (ro_nilCheck rfl) ?_
    refine wl (ro_fieldAddr (k := 11) rfl fo_89_11) ?_
    refine wl (ro_loadB rfl sc_70 (hM) rfl) ?_
    refine wl (ro_toS0 rfl se_70 (by kernel_rfl) st_9) ?_
    refine wl (ro_assign rfl) ?_
    refine wl_nil (x_then (hK2 _ _ ?_))
    clear hK2 K2
    refine c_ret ?_
    refine bp_ret Tryz.results40 rfl ?_
    exact ⟨rfl, hF⟩
  · rw [e1] at hM
    refine ret_of Tryz.func40 rfl Tryz.ntmps40 rfl ?_
    refine c_seq (fun K1 hK1 => ?_)
    refine c_reg ?_ -- region 0 vm.go:259
    refine wl (ro_assign rfl) ?_
    refine wl_nil (x_then (hK1 _ _ ?_))
    clear hK1 K1
    refine forget [(0, _)] ⟨rfl, trivial⟩ (fun e => ?_)
    refine c_seq (fun K2 hK2 => ?_)
    refine c_reg ?_ -- region 1 vm.go:259
    refine wl (ro_move rfl) ?_
    refine wl (ro_nilCheck rfl) ?_
    refine wl (ro_fieldAddr (k := 11) rfl fo_89_11) ?_
    refine wl (ro_loadB rfl sc_70 (hM) rfl) ?_
    refine wl (ro_toS (o := out) rfl se_70 (by kernel_rfl) st_9 hB rfl (take_map_str (by have h4 : l.take (out.length * 1) = out.map u8c := h4; rw [Nat.mul_one] at h4; exact h4))) ?_
    refine wl (ro_assign rfl) ?_
    refine wl_nil (x_then (hK2 _ _ ?_))
    clear hK2 K2
    refine c_ret ?_
    refine bp_ret Tryz.results40 rfl ?_
    exact ⟨rfl, hF⟩
end
end Go.Proofs.Qxb6500568aGreatDoor
