import Derived.Test.Qxb6500570aGreatSa
/- The real book: Check. -/
namespace Go.Proofs.Qxb6500570aGreat
set_option linter.unusedVariables false
set_option linter.unusedSimpArgs false

def hsL (past : List (List Tx)) (T : List Tx) (next : List (List Tx)) (k : Nat) : List Tx := (past ++ T :: next.reverse).getD k []
theorem hsL_hst {past next : List (List Tx)} {T : List Tx} {k : Nat} : hst past T next k = tF (hsL past T next k) := rfl
theorem hsL_cur {past next : List (List Tx)} {T : List Tx} : hsL past T next past.length = T := by
  unfold hsL
  rw [List.getD_eq_getElem?_getD, List.getElem?_append_right (by omega)]
  simp
theorem hsL_len {past next : List (List Tx)} {T : List Tx} {k : Nat} (hp : ∀ S ∈ past, TxOK S) (hT : TxOK T) (hn : ∀ S ∈ next, TxOK S) (hk : k ≤ past.length + next.length) : (hsL past T next k).length = 24 := by
  unfold hsL
  rw [List.getD_eq_getElem?_getD]
  have hl : k < (past ++ T :: next.reverse).length := by simp; omega
  rw [List.getElem?_eq_getElem hl]
  have hm : (past ++ T :: next.reverse)[k] ∈ past ++ T :: next.reverse := List.getElem_mem hl
  show ((past ++ T :: next.reverse)[k]).length = 24
  rcases List.mem_append.1 hm with q | q
  · exact (hp _ q).tl
  · rcases List.mem_cons.1 q with q | q
    · rw [q]; exact hT.tl
    · exact (hn _ (List.mem_reverse.1 q)).tl
set_option maxHeartbeats 16000000 in
theorem Check85 {w : World} {lo hi : Nat} {X : BB} {T : List Tx} {past next : List (List Tx)} (hb : BaB lo hi X) (hhi : hi ≤ w.heap.size) (h : BaV w X T past next) :
    Ret Tryz.prog 85 [ptr X.k] w (fun v w' => v = .bool true ∧ Fram none' w w') := by
  have hF : Fram none' w w := Fram.refl _ _
  obtain ⟨b, P, M, W, O, SL, h⟩ := h
  have hT := h.ok
  obtain ⟨hK, hP, hM, hW, hO, hwl, hR, hn6, hd, hpo, hno⟩ := id h
  have hbb := hb
  obtain ⟨hdb, b1, b2, b3, b4, b5, b6⟩ := hb
  have hb6 := hR.b6
  have hpl := hR.pl
  have hml := hR.ml
  have hll : ∀ k, k ≤ past.length + next.length → (hsL past T next k).length = 24 := fun k hk => hsL_len hpo hT hno hk
  have hcu := hsL_cur (past := past) (T := T) (next := next)
  have hrc : ∀ k, k < past.length + next.length → RecV (tF (hsL past T next k)) (tF (hsL past T next (k + 1))) P (rF M ((b + k) % 6)) ((b + k) % 6) := fun k hk => hR.slot (by omega) (decide_eq_true hk)
  generalize hu0 : past.length = u0 at *
  generalize hr0 : next.length = r0 at *
  generalize hsL past T next = HL at *
  refine ret_of Tryz.func85 rfl Tryz.ntmps85 rfl ?_
  refine c_seq (fun K1 hK1 => ?_)
  refine c_reg ?_ -- region 0 check.go:9
  refine wl (ro_assign rfl) ?_
  refine wl_nil (x_then (hK1 _ _ ?_))
  clear hK1 K1
  refine c_seq (fun K2 hK2 => ?_)
  refine c_seq (fun K3 hK3 => ?_)
  refine c_reg ?_ -- region 1 check.go:10
  refine wl (ro_move rfl) ?_
  refine wl (ro_nilCheck rfl) ?_
  refine wl (ro_fieldAddr (k := 1) rfl fo_60_1) ?_
  refine wl (ro_loadB rfl sc_56 (by assumption) rfl) ?_
  refine wl (ro_lenL rfl se_56) ?_
  refine wl (ro_cmp (r := false) rfl rfl rfl) ?_
  refine wl (ro_move rfl) ?_
  refine wlg_yes rfl (ro_move rfl) ?_
  refine wlg_yes rfl (ro_nilCheck rfl) ?_
  refine wlg_yes rfl (ro_fieldAddr (k := 2) rfl fo_60_2) ?_
  refine wlg_yes rfl (ro_loadB rfl sc_57 (by assumption) rfl) ?_
  refine wlg_yes rfl (ro_lenL rfl se_57) ?_
  refine wlg_yes rfl (ro_cmp (r := false) rfl rfl rfl) ?_
  refine wl (ro_pick rfl rfl rfl) ?_
  refine wl_nil (x_then (hK3 _ _ ?_))
  clear hK3 K3
  refine wc_condF rfl ?_
  refine c_skip (x_then (hK2 _ _ ?_))
  clear hK2 K2
  refine c_seq (fun K4 hK4 => ?_)
  refine c_seq (fun K5 hK5 => ?_)
  refine c_reg ?_ -- region 3 check.go:13
  refine wl (ro_move rfl) ?_
  refine wl (ro_nilCheck rfl) ?_
  refine wl (ro_fieldAddr (k := 6) rfl fo_60_6) ?_
  refine wl (ro_loadB rfl sc_56 (by assumption) rfl) ?_
  refine wl (ro_lenL rfl se_56) ?_
  refine wl (ro_cmp (r := false) rfl rfl rfl) ?_
  refine wl (ro_move rfl) ?_
  refine wlg_yes rfl (ro_move rfl) ?_
  refine wlg_yes rfl (ro_nilCheck rfl) ?_
  refine wlg_yes rfl (ro_fieldAddr (k := 7) rfl fo_60_7) ?_
  refine wlg_yes rfl (ro_loadB rfl sc_58 (by assumption) rfl) ?_
  refine wlg_yes rfl (ro_lenL rfl se_58) ?_
  refine wlg_yes rfl (ro_cmp (r := false) rfl rfl rfl) ?_
  refine wl (ro_pick rfl rfl rfl) ?_
  refine wl_nil (x_then (hK5 _ _ ?_))
  clear hK5 K5
  refine wc_condF rfl ?_
  refine c_skip (x_then (hK4 _ _ ?_))
  clear hK4 K4
  refine c_seq (fun K6 hK6 => ?_)
  refine c_seq (fun K7 hK7 => ?_)
  refine c_pi [(0, false), (1, false), (2, false), (3, false), (4, false), (5, false), (6, false), (7, false), (8, false), (9, false), (10, false), (11, false), (12, false), (13, false), (14, false), (15, false), (16, false), (17, false), (18, false), (19, false), (20, false), (21, false), (22, false), (23, false), (24, false), (25, false), (26, false), (27, false), (28, false), (29, false), (30, false), (31, false), (32, false), (33, false), (34, false), (35, false), (36, false), (37, false)] (fun w' => Blk w'.heap X.k (bst X b u0 r0) 60) mixed (by kernel_rfl) rfl (by kernel_rfl) (po_then (po_then (po_bp))) (hK) ?_ -- region 5 check.go:16
  refine pi_ro rfl (fun w hS => ro_move rfl) ?_
  refine pi_ro rfl (fun w hS => ro_nilCheck rfl) ?_
  refine pi_ro rfl (fun w hS => ro_fieldAddr (k := 3) rfl fo_60_3) ?_
  refine pi_ro rfl (fun w hS => ro_loadB rfl sc_3 (hS) (rfl)) ?_
  refine pi_ro rfl (fun w hS => ro_cmp (r := false) rfl rfl (congrArg some (decide_eq_false (by omega)))) ?_
  refine pi_ro rfl (fun w hS => ro_move rfl) ?_
  refine pi_gyes rfl rfl (fun w hS => ro_move rfl) ?_
  refine pi_gyes rfl rfl (fun w hS => ro_nilCheck rfl) ?_
  refine pi_gyes rfl rfl (fun w hS => ro_fieldAddr (k := 3) rfl fo_60_3) ?_
  refine pi_gyes rfl rfl (fun w hS => ro_loadB rfl sc_3 (hS) (rfl)) ?_
  refine pi_gyes rfl rfl (fun w hS => ro_cmp (r := false) rfl rfl (congrArg some (decide_eq_false (by omega)))) ?_
  refine pi_ro rfl (fun w hS => ro_pick rfl rfl rfl) ?_
  refine pi_ro rfl (fun w hS => ro_move rfl) ?_
  refine pi_gyes rfl rfl (fun w hS => ro_move rfl) ?_
  refine pi_gyes rfl rfl (fun w hS => ro_nilCheck rfl) ?_
  refine pi_gyes rfl rfl (fun w hS => ro_fieldAddr (k := 4) rfl fo_60_4) ?_
  refine pi_gyes rfl rfl (fun w hS => ro_loadB rfl sc_3 (hS) (rfl)) ?_
  refine pi_gyes rfl rfl (fun w hS => ro_cmp (r := false) rfl rfl (congrArg some (decide_eq_false (by omega)))) ?_
  refine pi_ro rfl (fun w hS => ro_pick rfl rfl rfl) ?_
  refine pi_ro rfl (fun w hS => ro_move rfl) ?_
  refine pi_gyes rfl rfl (fun w hS => ro_move rfl) ?_
  refine pi_gyes rfl rfl (fun w hS => ro_nilCheck rfl) ?_
  refine pi_gyes rfl rfl (fun w hS => ro_fieldAddr (k := 5) rfl fo_60_5) ?_
  refine pi_gyes rfl rfl (fun w hS => ro_loadB rfl sc_3 (hS) (rfl)) ?_
  refine pi_gyes rfl rfl (fun w hS => ro_cmp (r := false) rfl rfl (congrArg some (decide_eq_false (by omega)))) ?_
  refine pi_ro rfl (fun w hS => ro_pick rfl rfl rfl) ?_
  refine pi_ro rfl (fun w hS => ro_move rfl) ?_
  refine pi_gyes rfl rfl (fun w hS => ro_move rfl) ?_
  refine pi_gyes rfl rfl (fun w hS => ro_nilCheck rfl) ?_
  refine pi_gyes rfl rfl (fun w hS => ro_fieldAddr (k := 4) rfl fo_60_4) ?_
  refine pi_gyes rfl rfl (fun w hS => ro_loadB rfl sc_3 (hS) (rfl)) ?_
  refine pi_gyes rfl rfl (fun w hS => ro_move rfl) ?_
  refine pi_gyes rfl rfl (fun w hS => ro_nilCheck rfl) ?_
  refine pi_gyes rfl rfl (fun w hS => ro_fieldAddr (k := 5) rfl fo_60_5) ?_
  refine pi_gyes rfl rfl (fun w hS => ro_loadB rfl sc_3 (hS) (rfl)) ?_
  refine pi_gyes rfl rfl (fun w hS => ro_arith (r := ((u0 + r0 : Nat) : Int)) rfl rfl rfl (Go.IntWalk.i64_in _ (by omega))) ?_
  refine pi_gyes rfl rfl (fun w hS => ro_cmp (r := false) rfl rfl (congrArg some (decide_eq_false (by omega)))) ?_
  refine pi_ro rfl (fun w hS => ro_pick rfl rfl rfl) ?_
  refine pi_nil (x_then (hK7 _ _ ?_))
  clear hK7 K7
  refine wc_condF rfl ?_
  refine c_skip (x_then (hK6 _ _ ?_))
  clear hK6 K6
  refine c_seq (fun K8 hK8 => ?_)
  refine c_seq (fun K9 hK9 => ?_)
  refine c_reg ?_ -- region 7 check.go:19
  refine wl (ro_assign rfl) ?_
  refine wl_nil (x_then (hK9 _ _ ?_))
  clear hK9 K9
  refine c_block ?_
  -- loop@r8: live slots [0, 3]
  refine c_loopG (fun m a' w' => ∃ i, m = 6 - i ∧ i ≤ 6 ∧ Blk w'.heap X.k (bst X b u0 r0) 60 ∧ Blk w'.heap X.p (rws stc P) 9 ∧ Blk w'.heap X.t (rws msc M) 85 ∧ Fram none' w w' ∧ ∃ e, a' = Fr 147 (upds e [(0, ptr X.k), (3, i64c i)]) []) 6 ⟨0, rfl, by omega, hK, hP, hM, hF.thenDrew, kp _ ⟨rfl, rfl, trivial⟩⟩ ?_
  clear hF hK hP hM
  rintro m a' u1 ⟨i, rfl, hi6, hK, hP, hM, hF, e, rfl⟩
  refine c_seq (fun K10 hK10 => ?_)
  refine c_seq (fun K11 hK11 => ?_)
  refine c_reg ?_ -- region 8 check.go:19
  refine wl (ro_move rfl) ?_
  refine wl (ro_cmp (r := decide (i < 6)) rfl rfl (congrArg some (decide_eq_decide.2 (by omega)))) ?_
  refine wl_nil (x_then (hK11 _ _ ?_))
  clear hK11 K11
  refine wc_cond rfl (fun hc77 => ?_) (fun hc77 => ?_)
  · try simp only [decide_eq_true_eq, decide_eq_false_iff_not, Bool.not_eq_true', Bool.not_eq_false', Bool.not_eq_eq_eq_not, Bool.not_true, Bool.not_false, beq_iff_eq, bne_iff_ne, ne_eq, beq_eq_false_iff_ne, bne_eq_false_iff_eq, gt_iff_lt, ge_iff_le, Int.not_lt, Int.not_le] at hc77
    refine c_skip (x_then (hK10 _ _ ?_))
    clear hK10 K10
    refine forget [(0, _), (3, _)] ⟨rfl, rfl, trivial⟩ (fun e => ?_)
    refine c_seq (fun K12 hK12 => ?_)
    refine c_block ?_
    refine c_seq (fun K13 hK13 => ?_)
    refine c_reg ?_ -- region 10 check.go:20
    refine wl (ro_move rfl) ?_
    refine wl (ro_move rfl) ?_
    refine wl_call rfl en_51 (slot51 hK hb6 (by omega)) ?_
    rintro _ u9 ⟨rfl, hw0⟩
    rw [hw0]
    clear hw0 u9
    refine wl (ro_assign rfl) ?_
    refine wl_nil (x_then (hK13 _ _ ?_))
    clear hK13 K13
    refine forget [(0, _), (3, _), (4, _)] ⟨rfl, rfl, rfl, trivial⟩ (fun e => ?_)
    refine c_seq (fun K14 hK14 => ?_)
    refine c_pi [(0, false), (1, false), (2, false), (3, false), (4, false), (5, false), (6, false), (7, false), (8, false), (9, false), (10, false), (11, false), (12, false), (13, true), (14, false)] (fun w' => Blk w'.heap X.k (bst X b u0 r0) 60) mixed (by kernel_rfl) rfl (by kernel_rfl) (po_then (po_blk (po_then (po_then (po_blk (po_then (po_bp))))))) (hK) ?_ -- region 11 check.go:21
    refine pi_ro rfl (fun w hS => ro_move rfl) ?_
    refine pi_ro rfl (fun w hS => ro_move rfl) ?_
    refine pi_ro rfl (fun w hS => ro_move rfl) ?_
    refine pi_ro rfl (fun w hS => ro_move rfl) ?_
    refine pi_ro rfl (fun w hS => ro_nilCheck rfl) ?_
    refine pi_ro rfl (fun w hS => ro_fieldAddr (k := 4) rfl fo_60_4) ?_
    refine pi_ro rfl (fun w hS => ro_loadB rfl sc_3 (hS) (rfl)) ?_
    refine pi_ro rfl (fun w hS => ro_move rfl) ?_
    refine pi_ro rfl (fun w hS => ro_nilCheck rfl) ?_
    refine pi_ro rfl (fun w hS => ro_fieldAddr (k := 5) rfl fo_60_5) ?_
    refine pi_ro rfl (fun w hS => ro_loadB rfl sc_3 (hS) (rfl)) ?_
    refine pi_ro rfl (fun w hS => ro_arith (r := ((u0 + r0 : Nat) : Int)) rfl rfl rfl (Go.IntWalk.i64_in _ (by omega))) ?_
    refine pi_ro rfl (fun w hS => ro_cmp (r := decide (i < u0 + r0)) rfl rfl (congrArg some (decide_eq_decide.2 (by omega)))) ?_
    refine pi_call rfl rfl en_109 (checkSlot109 hK hP hM hpl hml (Nat.mod_lt _ (by omega)) (hR.rc i hc77) (fun q c _ ↦ by (rw [q]; rfl))) ?_
    rintro _ u2 ⟨rfl, G2⟩
    replace hF := hF.transG G2 (by intro k hk h; simp only [none', one] at h ⊢ <;> omega)
    replace hK := G2.blkF hK (by intro h; simp only [none', one] at h <;> omega)
    replace hP := G2.blkF hP (by intro h; simp only [none', one] at h <;> omega)
    replace hM := G2.blkF hM (by intro h; simp only [none', one] at h <;> omega)
    refine ⟨hK, ?_⟩
    refine pi_ro rfl (fun w hS => ro_not rfl) ?_
    refine pi_nil (x_then (hK14 _ _ ?_))
    clear hK14 K14
    refine wc_condF rfl ?_
    refine c_skip (x_blk (x_then (hK12 _ _ ?_)))
    clear hK12 K12
    refine c_reg ?_ -- region 9 check.go:19
    refine wl (ro_move rfl) ?_
    refine wl (ro_arith (r := ((i + 1 : Nat) : Int)) rfl rfl rfl (Go.IntWalk.i64_in _ (by omega))) ?_
    refine wl (ro_assign rfl) ?_
    refine wl_nil (x_then ?_)
    exact ⟨6 - (i + 1), by omega, i + 1, rfl, by omega, hK, hP, hM, hF, kp _ ⟨rfl, rfl, trivial⟩⟩
  · try simp only [decide_eq_true_eq, decide_eq_false_iff_not, Bool.not_eq_true', Bool.not_eq_false', Bool.not_eq_eq_eq_not, Bool.not_true, Bool.not_false, beq_iff_eq, bne_iff_ne, ne_eq, beq_eq_false_iff_ne, bne_eq_false_iff_eq, gt_iff_lt, ge_iff_le, Int.not_lt, Int.not_le] at hc77
    refine c_exit (x_thenX (x_thenX (x_blkX (x_then (hK8 _ _ ?_)))))
    clear hK10 K10 hK8 K8
    refine forget [(0, _)] ⟨rfl, trivial⟩ (fun e => ?_)
    refine c_seq (fun K15 hK15 => ?_)
    refine c_reg ?_ -- region 13 check.go:25
    refine wl_make (len := 24) (cap := 24) rfl rfl se_56 ze_9 (by simp) (by omega) (by omega) rfl bb_9 (fun cb w1 hbcb hC F1 => ?_)
    have hbscb := Nat.le_trans hF.size hbcb
    have hneXkcb : X.k < cb := Nat.lt_of_lt_of_le hK.lt hbcb
    have hneXpcb : X.p < cb := Nat.lt_of_lt_of_le hP.lt hbcb
    have hneXtcb : X.t < cb := Nat.lt_of_lt_of_le hM.lt hbcb
    replace hF := hF.thenDrew.thenN F1
    replace hK := F1.blkN hK
    replace hP := F1.blkN hP
    replace hM := F1.blkN hM
    replace hC : Blk w1.heap cb (rws stc zL) 9 := by (rw [← zc_rws (enc := stc) (x0 := []) rfl stc_len 24]; exact hC)
    have hcb : hi ≤ cb := by omega
    have hpc : X.p < cb := by omega
    refine wl (ro_assign rfl) ?_
    refine wl_nil (x_then (hK15 _ _ ?_))
    clear hK15 K15
    refine forget [(0, _), (5, _)] ⟨rfl, rfl, trivial⟩ (fun e => ?_)
    refine c_seq (fun K16 hK16 => ?_)
    refine c_reg ?_ -- region 14 check.go:26
    refine wl (ro_move rfl) ?_
    refine wl (ro_move rfl) ?_
    refine wl_call rfl en_110 (texts110 hbb hcb hK hC List.length_replicate (hd.far hdb hF (fun _ _ _ q ↦ q))) ?_
    rintro _ u3 ⟨hC3, G3⟩
    replace hF := hF.transG G3 (by intro k hk h; simp only [none', one] at h ⊢ <;> omega)
    replace hK := G3.blkF hK (by intro h; simp only [none', one] at h <;> omega)
    replace hP := G3.blkF hP (by intro h; simp only [none', one] at h <;> omega)
    replace hM := G3.blkF hM (by intro h; simp only [none', one] at h <;> omega)
    clear hC
    have hC := hC3
    refine wl_nil (x_then (hK16 _ _ ?_))
    clear hK16 K16
    refine c_seq (fun K17 hK17 => ?_)
    refine c_seq (fun K18 hK18 => ?_)
    refine c_reg ?_ -- region 15 check.go:27
    refine wl (ro_move rfl) ?_
    refine wl (ro_nilCheck rfl) ?_
    refine wl (ro_fieldAddr (k := 4) rfl fo_60_4) ?_
    refine wl (ro_loadB rfl sc_3 (by assumption) rfl) ?_
    refine wl (ro_arith (r := (u0 : Int) - 1) rfl rfl rfl (Go.IntWalk.i64_in _ (by omega))) ?_
    refine wl (ro_assign rfl) ?_
    refine wl_nil (x_then (hK18 _ _ ?_))
    clear hK18 K18
    refine c_block ?_
    -- loop@r16: live slots [0, 5, 6]
    refine c_loopG (fun m a' w' => ∃ j : Nat, j = m ∧ j ≤ u0 ∧ Blk w'.heap X.k (bst X b u0 r0) 60 ∧ Blk w'.heap X.p (rws stc P) 9 ∧ Blk w'.heap X.t (rws msc M) 85 ∧ Blk w'.heap cb (rws stc (HL j)) 9 ∧ Fram none' w w' ∧ ∃ e, a' = Fr 147 (upds e [(0, ptr X.k), (5, sl cb 24), (6, icv ((j : Int) - 1))]) []) u0 ⟨u0, rfl, by omega, hK, hP, hM, by rw [hcu]; exact hC, hF, kp _ ⟨rfl, rfl, rfl, trivial⟩⟩ ?_
    clear hF hK hP hM hC
    rintro m a' u4 ⟨j, rfl, hju, hK, hP, hM, hC, hF, e, rfl⟩
    refine c_seq (fun K19 hK19 => ?_)
    refine c_seq (fun K20 hK20 => ?_)
    refine c_reg ?_ -- region 16 check.go:27
    refine wl (ro_move rfl) ?_
    refine wl (ro_cmp (r := decide (0 < j)) rfl rfl (congrArg some (decide_eq_decide.2 (by omega)))) ?_
    refine wl_nil (x_then (hK20 _ _ ?_))
    clear hK20 K20
    refine wc_cond rfl (fun hc108 => ?_) (fun hc108 => ?_)
    · try simp only [decide_eq_true_eq, decide_eq_false_iff_not, Bool.not_eq_true', Bool.not_eq_false', Bool.not_eq_eq_eq_not, Bool.not_true, Bool.not_false, beq_iff_eq, bne_iff_ne, ne_eq, beq_eq_false_iff_ne, bne_eq_false_iff_eq, gt_iff_lt, ge_iff_le, Int.not_lt, Int.not_le] at hc108
      have hr := hrc (j - 1) (by omega)
      rw [show j - 1 + 1 = j by omega] at hr
      rw [show ((j : Int) - 1) = ((j - 1 : Nat) : Int) by omega]
      refine c_skip (x_then (hK19 _ _ ?_))
      clear hK19 K19
      refine forget [(0, _), (5, _), (6, _)] ⟨rfl, rfl, rfl, trivial⟩ (fun e => ?_)
      refine c_seq (fun K21 hK21 => ?_)
      refine c_block ?_
      refine c_seq (fun K22 hK22 => ?_)
      refine c_reg ?_ -- region 18 check.go:28
      refine wl (ro_move rfl) ?_
      refine wl (ro_move rfl) ?_
      refine wl_call rfl en_51 (slot51 (j := j - 1) hK hb6 (by omega)) ?_
      rintro _ u9 ⟨rfl, hw0⟩
      rw [hw0]
      clear hw0 u9
      refine wl (ro_assign rfl) ?_
      refine wl_nil (x_then (hK22 _ _ ?_))
      clear hK22 K22
      refine forget [(0, _), (5, _), (6, _), (7, _)] ⟨rfl, rfl, rfl, rfl, trivial⟩ (fun e => ?_)
      refine c_seq (fun K23 hK23 => ?_)
      refine c_reg ?_ -- region 19 check.go:29
      refine wl (ro_move rfl) ?_
      refine wl (ro_move rfl) ?_
      refine wl (ro_move rfl) ?_
      refine wl_call rfl en_111 (fits111 (sd := 1) (A := HL j) (B := HL (j - 1)) hpc b2 hK hP hM hC hpl hml (Nat.mod_lt _ (by omega)) (by omega) (hll j (by omega)) (hll (j - 1) (by omega)) hr.m24 (fun c hc q ↦ by (have hne := (hr.bt c hc).1 q; exact ⟨by rw [hr.p1 c hc, if_neg hne], by rw [Nat.add_sub_cancel, hr.p0 c hc, if_neg hne]⟩)) (fun c hc q ↦ heq (hr.bt c hc) q)) ?_
      rintro _ u5 ⟨rfl, hC5, G5⟩
      replace hF := hF.transG G5 (by intro k hk h; simp only [none', one] at h ⊢ <;> omega)
      replace hK := G5.blkF hK (by intro h; simp only [none', one] at h <;> omega)
      replace hP := G5.blkF hP (by intro h; simp only [none', one] at h <;> omega)
      replace hM := G5.blkF hM (by intro h; simp only [none', one] at h <;> omega)
      clear hC
      have hC := hC5
      refine wl (ro_not rfl) ?_
      refine wl_nil (x_then (hK23 _ _ ?_))
      clear hK23 K23
      refine wc_condF rfl ?_
      refine c_skip (x_blk (x_then (hK21 _ _ ?_)))
      clear hK21 K21
      refine c_reg ?_ -- region 17 check.go:27
      refine wl (ro_move rfl) ?_
      refine wl (ro_arith (r := ((j - 1 : Nat) : Int) - 1) rfl rfl rfl (Go.IntWalk.i64_in _ (by omega))) ?_
      refine wl (ro_assign rfl) ?_
      refine wl_nil (x_then ?_)
      exact ⟨j - 1, by omega, j - 1, rfl, by omega, hK, hP, hM, hC, hF, kp _ ⟨rfl, rfl, rfl, trivial⟩⟩
    · try simp only [decide_eq_true_eq, decide_eq_false_iff_not, Bool.not_eq_true', Bool.not_eq_false', Bool.not_eq_eq_eq_not, Bool.not_true, Bool.not_false, beq_iff_eq, bne_iff_ne, ne_eq, beq_eq_false_iff_ne, bne_eq_false_iff_eq, gt_iff_lt, ge_iff_le, Int.not_lt, Int.not_le] at hc108
      refine c_exit (x_thenX (x_thenX (x_blkX (x_then (hK17 _ _ ?_)))))
      clear hK19 K19 hK17 K17
      refine forget [(0, _), (5, _)] ⟨rfl, rfl, trivial⟩ (fun e => ?_)
      refine c_seq (fun K24 hK24 => ?_)
      refine c_reg ?_ -- region 21 check.go:33
      refine wl (ro_move rfl) ?_
      refine wl (ro_move rfl) ?_
      refine wl_call rfl en_110 (texts110 hbb hcb hK hC (hll j (by omega)) (hd.far hdb hF (fun _ _ _ q ↦ q))) ?_
      rintro _ u6 ⟨hC6, G6⟩
      replace hF := hF.transG G6 (by intro k hk h; simp only [none', one] at h ⊢ <;> omega)
      replace hK := G6.blkF hK (by intro h; simp only [none', one] at h <;> omega)
      replace hP := G6.blkF hP (by intro h; simp only [none', one] at h <;> omega)
      replace hM := G6.blkF hM (by intro h; simp only [none', one] at h <;> omega)
      clear hC
      have hC := hC6
      refine wl_nil (x_then (hK24 _ _ ?_))
      clear hK24 K24
      refine c_seq (fun K25 hK25 => ?_)
      refine c_seq (fun K26 hK26 => ?_)
      refine c_reg ?_ -- region 22 check.go:34
      refine wl (ro_move rfl) ?_
      refine wl (ro_nilCheck rfl) ?_
      refine wl (ro_fieldAddr (k := 4) rfl fo_60_4) ?_
      refine wl (ro_loadB rfl sc_3 (by assumption) rfl) ?_
      refine wl (ro_assign rfl) ?_
      refine wl_nil (x_then (hK26 _ _ ?_))
      clear hK26 K26
      refine c_block ?_
      -- loop@r23: live slots [0, 5, 8]
      refine c_loopG (fun m a' w' => ∃ k : Nat, m = u0 + r0 - k ∧ u0 ≤ k ∧ k ≤ u0 + r0 ∧ Blk w'.heap X.k (bst X b u0 r0) 60 ∧ Blk w'.heap X.p (rws stc P) 9 ∧ Blk w'.heap X.t (rws msc M) 85 ∧ Blk w'.heap cb (rws stc (HL k)) 9 ∧ Fram none' w w' ∧ ∃ e, a' = Fr 147 (upds e [(0, ptr X.k), (5, sl cb 24), (8, i64c k)]) []) r0 ⟨u0, by omega, by omega, by omega, hK, hP, hM, by rw [hcu]; exact hC, hF, kp _ ⟨rfl, rfl, rfl, trivial⟩⟩ ?_
      clear hF hK hP hM hC
      rintro m a' u7 ⟨k, rfl, hk1, hk2, hK, hP, hM, hC, hF, e, rfl⟩
      refine c_seq (fun K27 hK27 => ?_)
      refine c_seq (fun K28 hK28 => ?_)
      refine c_pi [(0, false), (1, false), (2, false), (3, false), (4, false), (5, false), (6, false), (7, false), (8, false), (9, false), (10, false)] (fun w' => Blk w'.heap X.k (bst X b u0 r0) 60) mixed (by kernel_rfl) rfl (by kernel_rfl) (po_then (po_then (po_then (po_blk (po_then (po_bp)))))) (hK) ?_ -- region 23 check.go:34
      refine pi_ro rfl (fun w hS => ro_move rfl) ?_
      refine pi_ro rfl (fun w hS => ro_move rfl) ?_
      refine pi_ro rfl (fun w hS => ro_nilCheck rfl) ?_
      refine pi_ro rfl (fun w hS => ro_fieldAddr (k := 4) rfl fo_60_4) ?_
      refine pi_ro rfl (fun w hS => ro_loadB rfl sc_3 (hS) (rfl)) ?_
      refine pi_ro rfl (fun w hS => ro_move rfl) ?_
      refine pi_ro rfl (fun w hS => ro_nilCheck rfl) ?_
      refine pi_ro rfl (fun w hS => ro_fieldAddr (k := 5) rfl fo_60_5) ?_
      refine pi_ro rfl (fun w hS => ro_loadB rfl sc_3 (hS) (rfl)) ?_
      refine pi_ro rfl (fun w hS => ro_arith (r := ((u0 + r0 : Nat) : Int)) rfl rfl rfl (Go.IntWalk.i64_in _ (by omega))) ?_
      refine pi_ro rfl (fun w hS => ro_cmp (r := decide (k < u0 + r0)) rfl rfl (congrArg some (decide_eq_decide.2 (by omega)))) ?_
      refine pi_nil (x_then (hK28 _ _ ?_))
      clear hK28 K28
      refine wc_cond rfl (fun hc136 => ?_) (fun hc136 => ?_)
      · try simp only [decide_eq_true_eq, decide_eq_false_iff_not, Bool.not_eq_true', Bool.not_eq_false', Bool.not_eq_eq_eq_not, Bool.not_true, Bool.not_false, beq_iff_eq, bne_iff_ne, ne_eq, beq_eq_false_iff_ne, bne_eq_false_iff_eq, gt_iff_lt, ge_iff_le, Int.not_lt, Int.not_le] at hc136
        have hr := hrc k hc136
        refine c_skip (x_then (hK27 _ _ ?_))
        clear hK27 K27
        refine forget [(0, _), (5, _), (8, _)] ⟨rfl, rfl, rfl, trivial⟩ (fun e => ?_)
        refine c_seq (fun K29 hK29 => ?_)
        refine c_block ?_
        refine c_seq (fun K30 hK30 => ?_)
        refine c_reg ?_ -- region 25 check.go:35
        refine wl (ro_move rfl) ?_
        refine wl (ro_move rfl) ?_
        refine wl_call rfl en_51 (slot51 (j := k) hK hb6 (by omega)) ?_
        rintro _ u9 ⟨rfl, hw0⟩
        rw [hw0]
        clear hw0 u9
        refine wl (ro_assign rfl) ?_
        refine wl_nil (x_then (hK30 _ _ ?_))
        clear hK30 K30
        refine forget [(0, _), (5, _), (8, _), (9, _)] ⟨rfl, rfl, rfl, rfl, trivial⟩ (fun e => ?_)
        refine c_seq (fun K31 hK31 => ?_)
        refine c_reg ?_ -- region 26 check.go:36
        refine wl (ro_move rfl) ?_
        refine wl (ro_move rfl) ?_
        refine wl (ro_move rfl) ?_
        refine wl_call rfl en_111 (fits111 (sd := 0) (A := HL k) (B := HL (k + 1)) hpc b2 hK hP hM hC hpl hml (Nat.mod_lt _ (by omega)) (by omega) (hll k (by omega)) (hll (k + 1) (by omega)) hr.m24 (fun c hc q ↦ by (have hne := (hr.bt c hc).1 q; exact ⟨by rw [Nat.add_zero, hr.p0 c hc, if_neg hne], by rw [Nat.sub_zero, hr.p1 c hc, if_neg hne]⟩)) (fun c hc q ↦ (heq (hr.bt c hc) q).symm)) ?_
        rintro _ u8 ⟨rfl, hC8, G8⟩
        replace hF := hF.transG G8 (by intro k hk h; simp only [none', one] at h ⊢ <;> omega)
        replace hK := G8.blkF hK (by intro h; simp only [none', one] at h <;> omega)
        replace hP := G8.blkF hP (by intro h; simp only [none', one] at h <;> omega)
        replace hM := G8.blkF hM (by intro h; simp only [none', one] at h <;> omega)
        clear hC
        have hC := hC8
        refine wl (ro_not rfl) ?_
        refine wl_nil (x_then (hK31 _ _ ?_))
        clear hK31 K31
        refine wc_condF rfl ?_
        refine c_skip (x_blk (x_then (hK29 _ _ ?_)))
        clear hK29 K29
        refine c_reg ?_ -- region 24 check.go:34
        refine wl (ro_move rfl) ?_
        refine wl (ro_arith (r := ((k + 1 : Nat) : Int)) rfl rfl rfl (Go.IntWalk.i64_in _ (by omega))) ?_
        refine wl (ro_assign rfl) ?_
        refine wl_nil (x_then ?_)
        exact ⟨u0 + r0 - (k + 1), by omega, k + 1, rfl, by omega, by omega, hK, hP, hM, hC, hF, kp _ ⟨rfl, rfl, rfl, trivial⟩⟩
      · try simp only [decide_eq_true_eq, decide_eq_false_iff_not, Bool.not_eq_true', Bool.not_eq_false', Bool.not_eq_eq_eq_not, Bool.not_true, Bool.not_false, beq_iff_eq, bne_iff_ne, ne_eq, beq_eq_false_iff_ne, bne_eq_false_iff_eq, gt_iff_lt, ge_iff_le, Int.not_lt, Int.not_le] at hc136
        refine c_exit (x_thenX (x_thenX (x_blkX (x_then (hK25 _ _ ?_)))))
        clear hK27 K27 hK25 K25
        refine forget [] trivial (fun e => ?_)
        refine c_seq (fun K32 hK32 => ?_)
        refine c_reg ?_ -- region 28 check.go:40
        refine wl (ro_assign rfl) ?_
        refine wl_nil (x_then (hK32 _ _ ?_))
        clear hK32 K32
        refine c_ret ?_
        refine bp_ret Tryz.results85 rfl ?_
        exact ⟨rfl, hF.thenDrew⟩

end Go.Proofs.Qxb6500570aGreat
