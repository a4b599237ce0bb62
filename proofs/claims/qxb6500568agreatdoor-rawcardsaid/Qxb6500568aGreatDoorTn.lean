import Derived.Test.Qxb6500568aGreatDoorTm
/- The machine's check: checkThread. -/
namespace Go.Proofs.Qxb6500568aGreatDoor
open Ieee
set_option linter.unusedVariables false
set_option linter.unusedSimpArgs false
set_option linter.unusedSectionVars false

section
variable {E : VE} {nb xb : Nat} {w : World} {ow : Nat → Nat} {F : Fns} {V : VS} {s : AS} {κ : List Nat} {d : AD} {x : PX}
set_option maxHeartbeats 32000000 in
theorem thread250n (h : MK E nb xb w ow F V s κ d x) {i : Nat} {y : VTh} {t : ATh} (hy : V.ths[i]? = some y) (ht : s.ths[i]? = some t) (hst : t.st = 1 ∨ t.st = 5) : Ret Tryz.prog 250 [ptr E.mb, i64c i, .bool false, i64c 0] w (fun r w' => r = .bool true ∧ Fram none' w w') := by
  have hF : Fram none' w w := Fram.refl _ _
  obtain ⟨t', ht', ⟨g1, g2, hG⟩, hB, hZ, hD, h4⟩ := h.th hy
  rw [ht] at ht'
  cases ht'
  obtain ⟨l0, l1, l2⟩ := h.thn hy ht hst
  have hM0 := h.m
  unfold mkL at hM0
  obtain ⟨lT, hT0, hrow⟩ := h.row hy
  have hlt := (List.getElem?_eq_some_iff.1 hy).1
  have hfn := hB.fn
  have hcl := h.z.r.clen
  have hcr := h.cr.1
  have hz := hB.z
  have r0 : lT[0 + i * 5 + 0]? = some (i64c y.st) := hrow 0 _ rfl
  have r1 : lT[0 + i * 5 + 1]? = some (i64c y.fn) := hrow 1 _ rfl
  have r2 := hrow 2 _ rfl
  have r3 := hrow 3 _ rfl
  have r4 := hrow 4 _ rfl
  refine ret_of Tryz.func250 rfl Tryz.ntmps250 rfl ?_
  refine c_seq (fun K1 hK1 => ?_)
  refine c_reg ?_ -- region 0 check.go:180
  refine wl (ro_assign rfl) ?_
  refine wl_nil (x_then (hK1 _ _ ?_))
  clear hK1 K1
  refine forget [(0, _), (1, _), (2, _), (3, _)] ⟨rfl, rfl, rfl, rfl, trivial⟩ (fun e => ?_)
  refine c_seq (fun K2 hK2 => ?_)
  refine c_reg ?_ -- region 1 check.go:181
  refine wl (ro_move rfl) ?_
  refine wl (ro_nilCheck rfl) ?_
  refine wl (ro_fieldAddr (k := 9) rfl fo_89_9) ?_
  refine wl (ro_loadB rfl sc_80 ((hF.blkN hM0)) (rfl)) ?_
  refine wl (ro_move rfl) ?_
  refine wl (ro_indexAddr (et := 269) (k := 5) rfl rfl se_80 (rfl) (hlt)) ?_
  refine wl (ro_assign rfl) ?_
  refine wl_nil (x_then (hK2 _ _ ?_))
  clear hK2 K2
  refine c_seq (fun K3 hK3 => ?_)
  refine c_seq (fun K4 hK4 => ?_)
  refine c_pi [(0, false), (1, false), (2, false), (3, false), (4, false), (5, false), (6, false), (7, false), (8, false), (9, false), (10, false), (11, false), (12, false), (13, false), (14, false), (15, false), (16, false), (17, false), (18, false), (19, false), (20, false), (21, false), (22, false), (23, false), (24, false), (25, false)] (SameH _) mixed (by kernel_rfl) rfl (by kernel_rfl) (po_then (po_then (po_bp))) (sameH_now _ _) ?_ -- region 2 check.go:182
  refine pi_ro rfl (fun w hS => ro_move rfl) ?_
  refine pi_ro rfl (fun w hS => ro_nilCheck rfl) ?_
  refine pi_ro rfl (fun w hS => ro_fieldAddr (k := 1) rfl fo_269_1) ?_
  refine pi_ro rfl (fun w hS => ro_loadB rfl sc_3 (Blk.of_heap (hF.blkN hT0) hS) (r1)) ?_
  refine pi_ro rfl (fun w hS => ro_cmp (r := false) rfl rfl (congrArg some (decide_eq_false (by omega)))) ?_
  refine pi_ro rfl (fun w hS => ro_move rfl) ?_
  refine pi_gyes rfl rfl (fun w hS => ro_move rfl) ?_
  refine pi_gyes rfl rfl (fun w hS => ro_nilCheck rfl) ?_
  refine pi_gyes rfl rfl (fun w hS => ro_fieldAddr (k := 1) rfl fo_269_1) ?_
  refine pi_gyes rfl rfl (fun w hS => ro_loadB rfl sc_3 (Blk.of_heap (hF.blkN hT0) hS) (r1)) ?_
  refine pi_gyes rfl rfl (fun w hS => ro_move rfl) ?_
  refine pi_gyes rfl rfl (fun w hS => ro_nilCheck rfl) ?_
  refine pi_gyes rfl rfl (fun w hS => ro_fieldAddr (k := 6) rfl fo_89_6) ?_
  refine pi_gyes rfl rfl (fun w hS => ro_loadB rfl sc_85 (Blk.of_heap (hF.blkN hM0) hS) (rfl)) ?_
  refine pi_gyes rfl rfl (fun w hS => ro_lenL rfl se_85) ?_
  refine pi_gyes rfl rfl (fun w hS => ro_cmp (r := false) rfl rfl (congrArg some (decide_eq_false (by omega)))) ?_
  refine pi_ro rfl (fun w hS => ro_pick rfl rfl rfl) ?_
  refine pi_ro rfl (fun w hS => ro_move rfl) ?_
  refine pi_gyes rfl rfl (fun w hS => ro_move rfl) ?_
  refine pi_gyes rfl rfl (fun w hS => ro_move rfl) ?_
  refine pi_gyes rfl rfl (fun w hS => ro_nilCheck rfl) ?_
  refine pi_gyes rfl rfl (fun w hS => ro_fieldAddr (k := 0) rfl fo_269_0) ?_
  refine pi_gyes rfl rfl (fun w hS => ro_loadB rfl sc_3 (Blk.of_heap (hF.blkN hT0) hS) (r0)) ?_
  refine pi_gyes rfl rfl (fun w hS => ro_cmp (r := false) rfl rfl (congrArg some (decide_eq_false (by omega)))) ?_
  refine pi_gyes rfl rfl (fun w hS => ro_eqBool (r := false) rfl rfl Tryz.underlying4 rfl) ?_
  refine pi_ro rfl (fun w hS => ro_pick rfl rfl rfl) ?_
  refine pi_nil (x_then (hK4 _ _ ?_))
  clear hK4 K4
  refine wc_condF rfl ?_
  refine c_skip (x_then (hK3 _ _ ?_))
  clear hK3 K3
  refine c_seq (fun K5 hK5 => ?_)
  refine c_mid (fun a' w' => Fram none' w w' ∧ ∃ e, a' = Fr 440 (upds e [(9, .pointer (some ⟨E.tb, 0 + i * 5, none⟩)), (67, .bool false)]) []) ?_ ?_
  · skip
    refine c_reg ?_ -- region 4 check.go:185
    refine wl (ro_move rfl) ?_
    refine wl (ro_cmp rfl rfl rfl) ?_
    refine wl_fork rfl (fun hg53 => ?_) (fun hg53 => ?_)
    · try simp only [decide_eq_true_eq, decide_eq_false_iff_not, Bool.not_eq_true', Bool.not_eq_false', Bool.not_eq_eq_eq_not, Bool.not_true, Bool.not_false, beq_iff_eq, bne_iff_ne, ne_eq, beq_eq_false_iff_ne, bne_eq_false_iff_eq, gt_iff_lt, ge_iff_le, Int.not_lt, Int.not_le] at hg53
      refine wlg_yes rfl (ro_move rfl) ?_
      refine wlg_yes rfl (ro_nilCheck rfl) ?_
      refine wlg_yes rfl (ro_fieldAddr (k := 0) rfl fo_269_0) ?_
      refine wlg_yes rfl (ro_loadB rfl sc_3 ((hF.blkN hT0)) (r0)) ?_
      refine wlg_yes rfl (ro_cmp (r := false) rfl rfl (congrArg some (decide_eq_false (by have := hz (by omega); omega)))) ?_
      refine wl (ro_pick rfl rfl rfl) ?_
      refine wl (ro_move rfl) ?_
      refine wlg_no rfl ?_
      refine wlg_no rfl ?_
      refine wlg_no rfl ?_
      refine wlg_no rfl ?_
      refine wlg_no rfl ?_
      refine wlg_no rfl ?_
      refine wl (ro_pick rfl rfl rfl) ?_
      refine wl_nil (x_then ?_)
      exact ⟨hF.thenDrew, kp _ ⟨rfl, rfl, trivial⟩⟩
    · try simp only [decide_eq_true_eq, decide_eq_false_iff_not, Bool.not_eq_true', Bool.not_eq_false', Bool.not_eq_eq_eq_not, Bool.not_true, Bool.not_false, beq_iff_eq, bne_iff_ne, ne_eq, beq_eq_false_iff_ne, bne_eq_false_iff_eq, gt_iff_lt, ge_iff_le, Int.not_lt, Int.not_le] at hg53
      refine wlg_no rfl ?_
      refine wlg_no rfl ?_
      refine wlg_no rfl ?_
      refine wlg_no rfl ?_
      refine wlg_no rfl ?_
      refine wl (ro_pick rfl rfl rfl) ?_
      refine wl (ro_move rfl) ?_
      refine wlg_no rfl ?_
      refine wlg_no rfl ?_
      refine wlg_no rfl ?_
      refine wlg_no rfl ?_
      refine wlg_no rfl ?_
      refine wlg_no rfl ?_
      refine wl (ro_pick rfl rfl rfl) ?_
      refine wl_nil (x_then ?_)
      exact ⟨hF.thenDrew, kp _ ⟨rfl, rfl, trivial⟩⟩
  clear hF
  rintro a' u1 ⟨hF, e, rfl⟩
  refine wc_condF rfl ?_
  refine c_skip (x_then (hK5 _ _ ?_))
  clear hK5 K5
  refine c_seq (fun K6 hK6 => ?_)
  refine c_seq (fun K7 hK7 => ?_)
  refine c_reg ?_ -- region 6 check.go:188
  refine wl (ro_move rfl) ?_
  refine wl (ro_nilCheck rfl) ?_
  refine wl (ro_fieldAddr (k := 0) rfl fo_269_0) ?_
  refine wl (ro_loadB rfl sc_3 ((hF.blkN hT0)) (r0)) ?_
  refine wl (ro_cmp rfl rfl rfl) ?_
  refine wl_fork rfl (fun hg73 => ?_) (fun hg73 => ?_)
  · try simp only [decide_eq_true_eq, decide_eq_false_iff_not, Bool.not_eq_true', Bool.not_eq_false', Bool.not_eq_eq_eq_not, Bool.not_true, Bool.not_false, beq_iff_eq, bne_iff_ne, ne_eq, beq_eq_false_iff_ne, bne_eq_false_iff_eq, gt_iff_lt, ge_iff_le, Int.not_lt, Int.not_le] at hg73
    refine wlg_no rfl ?_
    refine wlg_no rfl ?_
    refine wlg_no rfl ?_
    refine wlg_no rfl ?_
    refine wlg_no rfl ?_
    refine wl (ro_pick rfl rfl rfl) ?_
    refine wl_nil (x_then (hK7 _ _ ?_))
    clear hK7 K7
    refine wc_condT rfl ?_
    refine c_seq (fun K8 hK8 => ?_)
    refine c_pi [(0, false), (1, false), (2, false), (3, false), (4, false), (5, false), (6, false), (7, false), (8, false), (9, false), (10, false), (11, false), (12, false), (13, false), (14, false), (15, false), (16, false), (17, false), (18, false)] (SameH _) mixed (by kernel_rfl) rfl (by kernel_rfl) (po_then (po_then (po_bp))) (sameH_now _ _) ?_ -- region 7 check.go:189
    refine pi_ro rfl (fun w hS => ro_move rfl) ?_
    refine pi_ro rfl (fun w hS => ro_nilCheck rfl) ?_
    refine pi_ro rfl (fun w hS => ro_fieldAddr (k := 2) rfl fo_269_2) ?_
    refine pi_ro rfl (fun w hS => ro_loadB rfl sc_83 (Blk.of_heap (hF.blkN hT0) hS) (r2)) ?_
    refine pi_ro rfl (fun w hS => ro_lenL rfl se_83) ?_
    refine pi_ro rfl (fun w hS => ro_move rfl) ?_
    refine pi_ro rfl (fun w hS => ro_nilCheck rfl) ?_
    refine pi_ro rfl (fun w hS => ro_fieldAddr (k := 3) rfl fo_269_3) ?_
    refine pi_ro rfl (fun w hS => ro_loadB rfl sc_267 (Blk.of_heap (hF.blkN hT0) hS) (r3)) ?_
    refine pi_ro rfl (fun w hS => ro_lenL rfl se_267) ?_
    refine pi_ro rfl (fun w hS => ro_adT (m := y.stack.length) (k := y.frs.length) rfl rfl (by omega)) ?_
    refine pi_ro rfl (fun w hS => ro_move rfl) ?_
    refine pi_ro rfl (fun w hS => ro_nilCheck rfl) ?_
    refine pi_ro rfl (fun w hS => ro_fieldAddr (k := 4) rfl fo_269_4) ?_
    refine pi_ro rfl (fun w hS => ro_loadB rfl sc_86 (Blk.of_heap (hF.blkN hT0) hS) (r4)) ?_
    refine pi_ro rfl (fun w hS => ro_lenL rfl se_86) ?_
    refine pi_ro rfl (fun w hS => ro_adT (m := y.stack.length + y.frs.length) (k := y.opn.length) rfl rfl (by omega)) ?_
    refine pi_ro rfl (fun w hS => ro_cmp (r := true) rfl rfl (congrArg some (decide_eq_true (by omega)))) ?_
    refine pi_ro rfl (fun w hS => ro_assign rfl) ?_
    refine pi_nil (x_then (hK8 _ _ ?_))
    clear hK8 K8
    refine c_ret (x_thenR ?_)
    refine bp_ret Tryz.results250 rfl ?_
    exact ⟨rfl, hF.thenDrew⟩
  · try simp only [decide_eq_true_eq, decide_eq_false_iff_not, Bool.not_eq_true', Bool.not_eq_false', Bool.not_eq_eq_eq_not, Bool.not_true, Bool.not_false, beq_iff_eq, bne_iff_ne, ne_eq, beq_eq_false_iff_ne, bne_eq_false_iff_eq, gt_iff_lt, ge_iff_le, Int.not_lt, Int.not_le] at hg73
    refine wlg_yes rfl (ro_move rfl) ?_
    refine wlg_yes rfl (ro_nilCheck rfl) ?_
    refine wlg_yes rfl (ro_fieldAddr (k := 0) rfl fo_269_0) ?_
    refine wlg_yes rfl (ro_loadB rfl sc_3 ((hF.blkN hT0)) (r0)) ?_
    refine wlg_yes rfl (ro_cmp rfl rfl rfl) ?_
    refine wl (ro_pick rfl rfl rfl) ?_
    refine wl_nil (x_then (hK7 _ _ ?_))
    clear hK7 K7
    refine wc_cond rfl (fun hc79 => ?_) (fun hc79 => ?_)
    · try simp only [decide_eq_true_eq, decide_eq_false_iff_not, Bool.not_eq_true', Bool.not_eq_false', Bool.not_eq_eq_eq_not, Bool.not_true, Bool.not_false, beq_iff_eq, bne_iff_ne, ne_eq, beq_eq_false_iff_ne, bne_eq_false_iff_eq, gt_iff_lt, ge_iff_le, Int.not_lt, Int.not_le] at hc79
      refine c_seq (fun K9 hK9 => ?_)
      refine c_pi [(0, false), (1, false), (2, false), (3, false), (4, false), (5, false), (6, false), (7, false), (8, false), (9, false), (10, false), (11, false), (12, false), (13, false), (14, false), (15, false), (16, false), (17, false), (18, false)] (SameH _) mixed (by kernel_rfl) rfl (by kernel_rfl) (po_then (po_then (po_bp))) (sameH_now _ _) ?_ -- region 7 check.go:189
      refine pi_ro rfl (fun w hS => ro_move rfl) ?_
      refine pi_ro rfl (fun w hS => ro_nilCheck rfl) ?_
      refine pi_ro rfl (fun w hS => ro_fieldAddr (k := 2) rfl fo_269_2) ?_
      refine pi_ro rfl (fun w hS => ro_loadB rfl sc_83 (Blk.of_heap (hF.blkN hT0) hS) (r2)) ?_
      refine pi_ro rfl (fun w hS => ro_lenL rfl se_83) ?_
      refine pi_ro rfl (fun w hS => ro_move rfl) ?_
      refine pi_ro rfl (fun w hS => ro_nilCheck rfl) ?_
      refine pi_ro rfl (fun w hS => ro_fieldAddr (k := 3) rfl fo_269_3) ?_
      refine pi_ro rfl (fun w hS => ro_loadB rfl sc_267 (Blk.of_heap (hF.blkN hT0) hS) (r3)) ?_
      refine pi_ro rfl (fun w hS => ro_lenL rfl se_267) ?_
      refine pi_ro rfl (fun w hS => ro_adT (m := y.stack.length) (k := y.frs.length) rfl rfl (by omega)) ?_
      refine pi_ro rfl (fun w hS => ro_move rfl) ?_
      refine pi_ro rfl (fun w hS => ro_nilCheck rfl) ?_
      refine pi_ro rfl (fun w hS => ro_fieldAddr (k := 4) rfl fo_269_4) ?_
      refine pi_ro rfl (fun w hS => ro_loadB rfl sc_86 (Blk.of_heap (hF.blkN hT0) hS) (r4)) ?_
      refine pi_ro rfl (fun w hS => ro_lenL rfl se_86) ?_
      refine pi_ro rfl (fun w hS => ro_adT (m := y.stack.length + y.frs.length) (k := y.opn.length) rfl rfl (by omega)) ?_
      refine pi_ro rfl (fun w hS => ro_cmp (r := true) rfl rfl (congrArg some (decide_eq_true (by omega)))) ?_
      refine pi_ro rfl (fun w hS => ro_assign rfl) ?_
      refine pi_nil (x_then (hK9 _ _ ?_))
      clear hK9 K9
      refine c_ret (x_thenR ?_)
      refine bp_ret Tryz.results250 rfl ?_
      exact ⟨rfl, hF.thenDrew⟩
    · try simp only [decide_eq_true_eq, decide_eq_false_iff_not, Bool.not_eq_true', Bool.not_eq_false', Bool.not_eq_eq_eq_not, Bool.not_true, Bool.not_false, beq_iff_eq, bne_iff_ne, ne_eq, beq_eq_false_iff_ne, bne_eq_false_iff_eq, gt_iff_lt, ge_iff_le, Int.not_lt, Int.not_le] at hc79
      exfalso; omega
/-- one cell a member. -/
theorem OwT.one1 {w : World} {ow : Nat → Nat} {tag n : Nat} {v : Value} {e : TypeId} {vs : List Value} {i : Nat} {u : Value} (h : OwT w ow tag v e 1 n vs) (hi : vs[i]? = some u) (hn : vs.length = n) : ∃ g cap l, v = .slice (some ⟨g, 0, none⟩) n cap ∧ Blk w.heap g l e ∧ n ≤ cap ∧ ∀ (k : Nat) u, vs[k]? = some u → l[0 + k * 1]? = some u := by
  have hl := (List.getElem?_eq_some_iff.1 hi).1
  obtain ⟨g, cap, l, hV, hB, h1, h2, h3, h4⟩ := h.o.pos (by omega)
  refine ⟨g, cap, l, hV, hB, h1, fun k u hk => ?_⟩
  have hk' := (List.getElem?_eq_some_iff.1 hk).1
  rw [← h4, List.getElem?_take, if_pos (by omega)] at hk
  rw [Nat.zero_add, Nat.mul_one]
  exact hk
set_option maxHeartbeats 64000000 in
theorem thread250f (h : MK E nb xb w ow F V s κ d x) {i : Nat} {y : VTh} {t : ATh} (hy : V.ths[i]? = some y) (ht : s.ths[i]? = some t) (hst : t.st = 2 ∨ t.st = 3) : Ret Tryz.prog 250 [ptr E.mb, i64c i, .bool false, i64c 0] w (fun r w' => r = .bool true ∧ Fram none' w w') := by
  have hF : Fram none' w w := Fram.refl _ _
  have hC := h.thc hy ht hst
  obtain ⟨t', ht', ⟨g1, g2, hG⟩, hB, hZ, hD, h4⟩ := h.th hy
  rw [ht] at ht'
  cases ht'
  have hM0 := h.m
  unfold mkL at hM0
  obtain ⟨lT, hT0, hrow⟩ := h.row hy
  have hlt := (List.getElem?_eq_some_iff.1 hy).1
  have hfn := hB.fn
  have hcl := h.z.r.clen
  have hcr := h.cr.1
  have hz := hB.z
  have hsb := h.sb i y hy
  have hn1 := hC.ne
  have hn8 := hC.le
  have r0 : lT[0 + i * 5 + 0]? = some (i64c y.st) := hrow 0 _ rfl
  have r1 : lT[0 + i * 5 + 1]? = some (i64c y.fn) := hrow 1 _ rfl
  have r2 := hrow 2 _ rfl
  have r3 := hrow 3 _ rfl
  have r4 := hrow 4 _ rfl
  have u3 := h.u3 i y hy
  have u4 := h.u4 i y hy
  have o2 := h.o2
  have o6 := h.o6
  have o8 := h.o8
  have hocap := u4.le
  rw [← List.length_reverse] at u3
  obtain ⟨f0, hf0⟩ : ∃ f0, y.frs.reverse[0]? = some f0 := ⟨_, List.getElem?_eq_getElem (by rw [List.length_reverse]; omega)⟩
  obtain ⟨fg, fcap, fl, ef, hFg, -, -, -, -, k5f⟩ := OwT.at frc_len u3 hf0
  obtain ⟨g00, p0, cs0, -, hv0, hp0, -⟩ := hC.fr 0 f0 hf0
  have hclR := h.cr.2.1
  obtain ⟨up0, hcl0, -⟩ := hclR f0.clo p0 cs0 hv0
  obtain ⟨cg, ccap, cll, ec, hCg, -, -, -, -, k5c⟩ := OwT.at vcc_len o6 hcl0
  have hrl : x.rows.length = F.length := by rw [h.pt.1]; exact tilT_len F 0 0 0
  obtain ⟨rr0, hrr0⟩ : ∃ rr, x.rows[0]? = some rr := ⟨_, List.getElem?_eq_getElem (by omega)⟩
  obtain ⟨rg, rcap, rl, er, hRg, -, -, -, -, k5r⟩ := OwT.at vpr_len o2 hrr0
  have hrow8 : ∀ p, p < F.length → ∃ a b c, x.rows[p]? = some (fsAt F p, a, b, c) := fun p hp => by rw [h.pt.1]; exact tilT_at F p 0 0 0 hp
  have hda3 : d.ua i 3 = some ⟨fg, 0, none⟩ := by injection ef
  have hda6 : d.a 6 = some ⟨cg, 0, none⟩ := by injection ec
  have hda2 : d.a 2 = some ⟨rg, 0, none⟩ := by injection er
  rw [hda3] at r3
  rw [hda6, hda2] at hM0
  generalize d.ua i 4 = du4 at r4 u4
  generalize d.a 8 = da8 at hM0 o8
  clear ef ec er u3 o2 o6
  refine ret_of Tryz.func250 rfl Tryz.ntmps250 rfl ?_
  refine c_seq (fun K1 hK1 => ?_)
  refine c_reg ?_ -- region 0 check.go:180
  refine wl (ro_assign rfl) ?_
  refine wl_nil (x_then (hK1 _ _ ?_))
  clear hK1 K1
  refine forget [(0, _), (1, _), (2, _), (3, _)] ⟨rfl, rfl, rfl, rfl, trivial⟩ (fun e => ?_)
  refine c_seq (fun K2 hK2 => ?_)
  refine c_reg ?_ -- region 1 check.go:181
  refine wl (ro_move rfl) ?_
  refine wl (ro_nilCheck rfl) ?_
  refine wl (ro_fieldAddr (k := 9) rfl fo_89_9) ?_
  refine wl (ro_loadB rfl sc_80 ((hF.blkN hM0)) (rfl)) ?_
  refine wl (ro_move rfl) ?_
  refine wl (ro_indexAddr (et := 269) (k := 5) rfl rfl se_80 (rfl) (hlt)) ?_
  refine wl (ro_assign rfl) ?_
  refine wl_nil (x_then (hK2 _ _ ?_))
  clear hK2 K2
  refine c_seq (fun K3 hK3 => ?_)
  refine c_seq (fun K4 hK4 => ?_)
  refine c_pi [(0, false), (1, false), (2, false), (3, false), (4, false), (5, false), (6, false), (7, false), (8, false), (9, false), (10, false), (11, false), (12, false), (13, false), (14, false), (15, false), (16, false), (17, false), (18, false), (19, false), (20, false), (21, false), (22, false), (23, false), (24, false), (25, false)] (SameH _) mixed (by kernel_rfl) rfl (by kernel_rfl) (po_then (po_then (po_bp))) (sameH_now _ _) ?_ -- region 2 check.go:182
  refine pi_ro rfl (fun w hS => ro_move rfl) ?_
  refine pi_ro rfl (fun w hS => ro_nilCheck rfl) ?_
  refine pi_ro rfl (fun w hS => ro_fieldAddr (k := 1) rfl fo_269_1) ?_
  refine pi_ro rfl (fun w hS => ro_loadB rfl sc_3 (Blk.of_heap (hF.blkN hT0) hS) (r1)) ?_
  refine pi_ro rfl (fun w hS => ro_cmp (r := false) rfl rfl (congrArg some (decide_eq_false (by omega)))) ?_
  refine pi_ro rfl (fun w hS => ro_move rfl) ?_
  refine pi_gyes rfl rfl (fun w hS => ro_move rfl) ?_
  refine pi_gyes rfl rfl (fun w hS => ro_nilCheck rfl) ?_
  refine pi_gyes rfl rfl (fun w hS => ro_fieldAddr (k := 1) rfl fo_269_1) ?_
  refine pi_gyes rfl rfl (fun w hS => ro_loadB rfl sc_3 (Blk.of_heap (hF.blkN hT0) hS) (r1)) ?_
  refine pi_gyes rfl rfl (fun w hS => ro_move rfl) ?_
  refine pi_gyes rfl rfl (fun w hS => ro_nilCheck rfl) ?_
  refine pi_gyes rfl rfl (fun w hS => ro_fieldAddr (k := 6) rfl fo_89_6) ?_
  refine pi_gyes rfl rfl (fun w hS => ro_loadB rfl sc_85 (Blk.of_heap (hF.blkN hM0) hS) (rfl)) ?_
  refine pi_gyes rfl rfl (fun w hS => ro_lenL rfl se_85) ?_
  refine pi_gyes rfl rfl (fun w hS => ro_cmp (r := false) rfl rfl (congrArg some (decide_eq_false (by omega)))) ?_
  refine pi_ro rfl (fun w hS => ro_pick rfl rfl rfl) ?_
  refine pi_ro rfl (fun w hS => ro_move rfl) ?_
  refine pi_gyes rfl rfl (fun w hS => ro_move rfl) ?_
  refine pi_gyes rfl rfl (fun w hS => ro_move rfl) ?_
  refine pi_gyes rfl rfl (fun w hS => ro_nilCheck rfl) ?_
  refine pi_gyes rfl rfl (fun w hS => ro_fieldAddr (k := 0) rfl fo_269_0) ?_
  refine pi_gyes rfl rfl (fun w hS => ro_loadB rfl sc_3 (Blk.of_heap (hF.blkN hT0) hS) (r0)) ?_
  refine pi_gyes rfl rfl (fun w hS => ro_cmp (r := false) rfl rfl (congrArg some (decide_eq_false (by omega)))) ?_
  refine pi_gyes rfl rfl (fun w hS => ro_eqBool (r := false) rfl rfl Tryz.underlying4 rfl) ?_
  refine pi_ro rfl (fun w hS => ro_pick rfl rfl rfl) ?_
  refine pi_nil (x_then (hK4 _ _ ?_))
  clear hK4 K4
  refine wc_condF rfl ?_
  refine c_skip (x_then (hK3 _ _ ?_))
  clear hK3 K3
  refine c_seq (fun K5 hK5 => ?_)
  refine c_mid (fun a' w' => Fram none' w w' ∧ ∃ e, a' = Fr 440 (upds e [(0, ptr E.mb), (1, i64c i), (2, .bool false), (3, i64c 0), (9, .pointer (some ⟨E.tb, 0 + i * 5, none⟩)), (67, .bool false)]) []) ?_ ?_
  · skip
    refine c_reg ?_ -- region 4 check.go:185
    refine wl (ro_move rfl) ?_
    refine wl (ro_cmp rfl rfl rfl) ?_
    refine wl_fork rfl (fun hg53 => ?_) (fun hg53 => ?_)
    · try simp only [decide_eq_true_eq, decide_eq_false_iff_not, Bool.not_eq_true', Bool.not_eq_false', Bool.not_eq_eq_eq_not, Bool.not_true, Bool.not_false, beq_iff_eq, bne_iff_ne, ne_eq, beq_eq_false_iff_ne, bne_eq_false_iff_eq, gt_iff_lt, ge_iff_le, Int.not_lt, Int.not_le] at hg53
      refine wlg_yes rfl (ro_move rfl) ?_
      refine wlg_yes rfl (ro_nilCheck rfl) ?_
      refine wlg_yes rfl (ro_fieldAddr (k := 0) rfl fo_269_0) ?_
      refine wlg_yes rfl (ro_loadB rfl sc_3 ((hF.blkN hT0)) (r0)) ?_
      refine wlg_yes rfl (ro_cmp (r := false) rfl rfl (congrArg some (decide_eq_false (by omega)))) ?_
      refine wl (ro_pick rfl rfl rfl) ?_
      refine wl (ro_move rfl) ?_
      refine wlg_no rfl ?_
      refine wlg_no rfl ?_
      refine wlg_no rfl ?_
      refine wlg_no rfl ?_
      refine wlg_no rfl ?_
      refine wlg_no rfl ?_
      refine wl (ro_pick rfl rfl rfl) ?_
      refine wl_nil (x_then ?_)
      exact ⟨hF.thenDrew, kp _ ⟨rfl, rfl, rfl, rfl, rfl, rfl, trivial⟩⟩
    · try simp only [decide_eq_true_eq, decide_eq_false_iff_not, Bool.not_eq_true', Bool.not_eq_false', Bool.not_eq_eq_eq_not, Bool.not_true, Bool.not_false, beq_iff_eq, bne_iff_ne, ne_eq, beq_eq_false_iff_ne, bne_eq_false_iff_eq, gt_iff_lt, ge_iff_le, Int.not_lt, Int.not_le] at hg53
      refine wlg_no rfl ?_
      refine wlg_no rfl ?_
      refine wlg_no rfl ?_
      refine wlg_no rfl ?_
      refine wlg_no rfl ?_
      refine wl (ro_pick rfl rfl rfl) ?_
      refine wl (ro_move rfl) ?_
      refine wlg_no rfl ?_
      refine wlg_no rfl ?_
      refine wlg_no rfl ?_
      refine wlg_no rfl ?_
      refine wlg_no rfl ?_
      refine wlg_no rfl ?_
      refine wl (ro_pick rfl rfl rfl) ?_
      refine wl_nil (x_then ?_)
      exact ⟨hF.thenDrew, kp _ ⟨rfl, rfl, rfl, rfl, rfl, rfl, trivial⟩⟩
  clear hF
  rintro a' u1 ⟨hF, e, rfl⟩
  refine wc_condF rfl ?_
  refine c_skip (x_then (hK5 _ _ ?_))
  clear hK5 K5
  refine c_seq (fun K6 hK6 => ?_)
  refine c_seq (fun K7 hK7 => ?_)
  refine c_reg ?_ -- region 6 check.go:188
  refine wl (ro_move rfl) ?_
  refine wl (ro_nilCheck rfl) ?_
  refine wl (ro_fieldAddr (k := 0) rfl fo_269_0) ?_
  refine wl (ro_loadB rfl sc_3 ((hF.blkN hT0)) (r0)) ?_
  refine wl (ro_cmp (r := false) rfl rfl (congrArg some (decide_eq_false (by omega)))) ?_
  refine wl (ro_move rfl) ?_
  refine wlg_yes rfl (ro_move rfl) ?_
  refine wlg_yes rfl (ro_nilCheck rfl) ?_
  refine wlg_yes rfl (ro_fieldAddr (k := 0) rfl fo_269_0) ?_
  refine wlg_yes rfl (ro_loadB rfl sc_3 ((hF.blkN hT0)) (r0)) ?_
  refine wlg_yes rfl (ro_cmp (r := false) rfl rfl (congrArg some (decide_eq_false (by omega)))) ?_
  refine wl (ro_pick rfl rfl rfl) ?_
  refine wl_nil (x_then (hK7 _ _ ?_))
  clear hK7 K7
  refine wc_condF rfl ?_
  refine c_skip (x_then (hK6 _ _ ?_))
  clear hK6 K6
  refine c_seq (fun K8 hK8 => ?_)
  refine c_mid (fun a' w' => Fram none' w w' ∧ ∃ e, a' = Fr 440 (upds e [(0, ptr E.mb), (1, i64c i), (2, .bool false), (3, i64c 0), (9, .pointer (some ⟨E.tb, 0 + i * 5, none⟩)), (124, .bool false)]) []) ?_ ?_
  · skip
    refine c_reg ?_ -- region 8 check.go:191
    refine wl (ro_move rfl) ?_
    refine wl (ro_not rfl) ?_
    refine wl (ro_move rfl) ?_
    refine wlg_yes rfl (ro_move rfl) ?_
    refine wlg_yes rfl (ro_nilCheck rfl) ?_
    refine wlg_yes rfl (ro_fieldAddr (k := 0) rfl fo_269_0) ?_
    refine wlg_yes rfl (ro_loadB rfl sc_3 ((hF.blkN hT0)) (r0)) ?_
    refine wlg_yes rfl (ro_cmp rfl rfl rfl) ?_
    refine wl (ro_pick rfl rfl rfl) ?_
    refine wl_fork rfl (fun hg107 => ?_) (fun hg107 => ?_)
    · try simp only [decide_eq_true_eq, decide_eq_false_iff_not, Bool.not_eq_true', Bool.not_eq_false', Bool.not_eq_eq_eq_not, Bool.not_true, Bool.not_false, beq_iff_eq, bne_iff_ne, ne_eq, beq_eq_false_iff_ne, bne_eq_false_iff_eq, gt_iff_lt, ge_iff_le, Int.not_lt, Int.not_le] at hg107
      refine wlg_yes rfl (ro_move rfl) ?_
      refine wlg_yes rfl (ro_nilCheck rfl) ?_
      refine wlg_yes rfl (ro_fieldAddr (k := 0) rfl fo_269_0) ?_
      refine wlg_yes rfl (ro_loadB rfl sc_3 ((hF.blkN hT0)) (r0)) ?_
      refine wlg_yes rfl (ro_cmp rfl rfl rfl) ?_
      refine wl (ro_pick rfl rfl rfl) ?_
      refine wl_fork rfl (fun hg114 => ?_) (fun hg114 => ?_)
      · try simp only [decide_eq_true_eq, decide_eq_false_iff_not, Bool.not_eq_true', Bool.not_eq_false', Bool.not_eq_eq_eq_not, Bool.not_true, Bool.not_false, beq_iff_eq, bne_iff_ne, ne_eq, beq_eq_false_iff_ne, bne_eq_false_iff_eq, gt_iff_lt, ge_iff_le, Int.not_lt, Int.not_le] at hg114
        exfalso; omega
      · try simp only [decide_eq_true_eq, decide_eq_false_iff_not, Bool.not_eq_true', Bool.not_eq_false', Bool.not_eq_eq_eq_not, Bool.not_true, Bool.not_false, beq_iff_eq, bne_iff_ne, ne_eq, beq_eq_false_iff_ne, bne_eq_false_iff_eq, gt_iff_lt, ge_iff_le, Int.not_lt, Int.not_le] at hg114
        refine wlg_yes rfl (ro_move rfl) ?_
        refine wlg_yes rfl (ro_cmp rfl rfl rfl) ?_
        refine wlg_fork rfl rfl (fun hg117 => ?_) (fun hg117 => ?_)
        · try simp only [decide_eq_true_eq, decide_eq_false_iff_not, Bool.not_eq_true', Bool.not_eq_false', Bool.not_eq_eq_eq_not, Bool.not_true, Bool.not_false, beq_iff_eq, bne_iff_ne, ne_eq, beq_eq_false_iff_ne, bne_eq_false_iff_eq, gt_iff_lt, ge_iff_le, Int.not_lt, Int.not_le] at hg117
          refine wlg_yes rfl (ro_move rfl) ?_
          refine wlg_yes rfl (ro_nilCheck rfl) ?_
          refine wlg_yes rfl (ro_fieldAddr (k := 0) rfl fo_269_0) ?_
          refine wlg_yes rfl (ro_loadB rfl sc_3 ((hF.blkN hT0)) (r0)) ?_
          refine wlg_yes rfl (ro_cmp (r := false) rfl rfl (congrArg some (decide_eq_false (by have := hz (by omega); omega)))) ?_
          refine wlg_yes rfl (ro_pick rfl rfl rfl) ?_
          refine wl (ro_pick rfl rfl rfl) ?_
          refine wl_nil (x_then ?_)
          exact ⟨hF, kp _ ⟨rfl, rfl, rfl, rfl, rfl, rfl, trivial⟩⟩
        · try simp only [decide_eq_true_eq, decide_eq_false_iff_not, Bool.not_eq_true', Bool.not_eq_false', Bool.not_eq_eq_eq_not, Bool.not_true, Bool.not_false, beq_iff_eq, bne_iff_ne, ne_eq, beq_eq_false_iff_ne, bne_eq_false_iff_eq, gt_iff_lt, ge_iff_le, Int.not_lt, Int.not_le] at hg117
          refine wlg_no rfl ?_
          refine wlg_no rfl ?_
          refine wlg_no rfl ?_
          refine wlg_no rfl ?_
          refine wlg_no rfl ?_
          refine wlg_yes rfl (ro_pick rfl rfl rfl) ?_
          refine wl (ro_pick rfl rfl rfl) ?_
          refine wl_nil (x_then ?_)
          exact ⟨hF, kp _ ⟨rfl, rfl, rfl, rfl, rfl, rfl, trivial⟩⟩
    · try simp only [decide_eq_true_eq, decide_eq_false_iff_not, Bool.not_eq_true', Bool.not_eq_false', Bool.not_eq_eq_eq_not, Bool.not_true, Bool.not_false, beq_iff_eq, bne_iff_ne, ne_eq, beq_eq_false_iff_ne, bne_eq_false_iff_eq, gt_iff_lt, ge_iff_le, Int.not_lt, Int.not_le] at hg107
      refine wlg_no rfl ?_
      refine wlg_no rfl ?_
      refine wlg_no rfl ?_
      refine wlg_no rfl ?_
      refine wlg_no rfl ?_
      refine wl (ro_pick rfl rfl rfl) ?_
      refine wl (ro_move rfl) ?_
      refine wlg_yes rfl (ro_move rfl) ?_
      refine wlg_yes rfl (ro_cmp rfl rfl rfl) ?_
      refine wlg_fork rfl rfl (fun hg117 => ?_) (fun hg117 => ?_)
      · try simp only [decide_eq_true_eq, decide_eq_false_iff_not, Bool.not_eq_true', Bool.not_eq_false', Bool.not_eq_eq_eq_not, Bool.not_true, Bool.not_false, beq_iff_eq, bne_iff_ne, ne_eq, beq_eq_false_iff_ne, bne_eq_false_iff_eq, gt_iff_lt, ge_iff_le, Int.not_lt, Int.not_le] at hg117
        refine wlg_yes rfl (ro_move rfl) ?_
        refine wlg_yes rfl (ro_nilCheck rfl) ?_
        refine wlg_yes rfl (ro_fieldAddr (k := 0) rfl fo_269_0) ?_
        refine wlg_yes rfl (ro_loadB rfl sc_3 ((hF.blkN hT0)) (r0)) ?_
        refine wlg_yes rfl (ro_cmp (r := false) rfl rfl (congrArg some (decide_eq_false (by have := hz (by omega); omega)))) ?_
        refine wlg_yes rfl (ro_pick rfl rfl rfl) ?_
        refine wl (ro_pick rfl rfl rfl) ?_
        refine wl_nil (x_then ?_)
        exact ⟨hF, kp _ ⟨rfl, rfl, rfl, rfl, rfl, rfl, trivial⟩⟩
      · try simp only [decide_eq_true_eq, decide_eq_false_iff_not, Bool.not_eq_true', Bool.not_eq_false', Bool.not_eq_eq_eq_not, Bool.not_true, Bool.not_false, beq_iff_eq, bne_iff_ne, ne_eq, beq_eq_false_iff_ne, bne_eq_false_iff_eq, gt_iff_lt, ge_iff_le, Int.not_lt, Int.not_le] at hg117
        refine wlg_no rfl ?_
        refine wlg_no rfl ?_
        refine wlg_no rfl ?_
        refine wlg_no rfl ?_
        refine wlg_no rfl ?_
        refine wlg_yes rfl (ro_pick rfl rfl rfl) ?_
        refine wl (ro_pick rfl rfl rfl) ?_
        refine wl_nil (x_then ?_)
        exact ⟨hF, kp _ ⟨rfl, rfl, rfl, rfl, rfl, rfl, trivial⟩⟩
  clear hF
  rintro a' u1 ⟨hF, e, rfl⟩
  refine wc_condF rfl ?_
  refine c_skip (x_then (hK8 _ _ ?_))
  clear hK8 K8
  refine c_seq (fun K9 hK9 => ?_)
  refine c_seq (fun K10 hK10 => ?_)
  refine c_reg ?_ -- region 10 check.go:194
  refine wl (ro_move rfl) ?_
  refine wl (ro_nilCheck rfl) ?_
  refine wl (ro_fieldAddr (k := 3) rfl fo_269_3) ?_
  refine wl (ro_loadB rfl sc_267 ((hF.blkN hT0)) (r3)) ?_
  refine wl (ro_lenL rfl se_267) ?_
  refine wl (ro_cmp (r := false) rfl rfl (congrArg some (decide_eq_false (by omega)))) ?_
  refine wl (ro_move rfl) ?_
  refine wlg_yes rfl (ro_move rfl) ?_
  refine wlg_yes rfl (ro_nilCheck rfl) ?_
  refine wlg_yes rfl (ro_fieldAddr (k := 3) rfl fo_269_3) ?_
  refine wlg_yes rfl (ro_loadB rfl sc_267 ((hF.blkN hT0)) (r3)) ?_
  refine wlg_yes rfl (ro_lenL rfl se_267) ?_
  refine wlg_yes rfl (ro_cmp (r := false) rfl rfl (congrArg some (decide_eq_false (by omega)))) ?_
  refine wl (ro_pick rfl rfl rfl) ?_
  refine wl_nil (x_then (hK10 _ _ ?_))
  clear hK10 K10
  refine wc_condF rfl ?_
  refine c_skip (x_then (hK9 _ _ ?_))
  clear hK9 K9
  refine forget [(0, _), (1, _), (2, _), (3, _), (9, _)] ⟨rfl, rfl, rfl, rfl, rfl, trivial⟩ (fun e => ?_)
  refine c_seq (fun K11 hK11 => ?_)
  refine c_reg ?_ -- region 12 check.go:197
  refine wl (ro_assign rfl) ?_
  refine wl_nil (x_then (hK11 _ _ ?_))
  clear hK11 K11
  refine c_seq (fun K12 hK12 => ?_)
  refine c_seq (fun K13 hK13 => ?_)
  refine c_reg ?_ -- region 13 check.go:198
  refine wl (ro_move rfl) ?_
  refine wl (ro_nilCheck rfl) ?_
  refine wl (ro_fieldAddr (k := 3) rfl fo_269_3) ?_
  refine wl (ro_loadB rfl sc_267 ((hF.blkN hT0)) (r3)) ?_
  refine wl (ro_lenL rfl se_267) ?_
  refine wl (ro_move rfl) ?_
  refine wl_nil (x_then (hK13 _ _ ?_))
  clear hK13 K13
  refine c_block ?_
  -- loop@r14: live slots [0, 1, 2, 3, 9, 10, 143, 144]
  refine c_loopG (fun n a' w' => ∃ j o, n = y.frs.length - j ∧ j ≤ y.frs.length ∧ o ≤ y.opn.length ∧ (∀ k c z f, o ≤ k → y.opn.reverse[k]? = some c → V.cells[c]? = some z → y.frs.reverse[j]? = some f → f.base ≤ z.pl) ∧ (j = y.frs.length → o = y.opn.length) ∧ Fram none' w w' ∧ ∃ e, a' = Fr 440 (upds e [(0, ptr E.mb), (1, i64c i), (2, .bool false), (3, i64c 0), (9, .pointer (some ⟨E.tb, 0 + i * 5, none⟩)), (10, i64c o), (143, i64c y.frs.length), (144, i64c j)]) []) y.frs.length ⟨0, 0, rfl, Nat.zero_le _, Nat.zero_le _, fun k c z f _ _ _ hf => by rw [((hC.fr 0 f hf).choose_spec.choose_spec.choose_spec.2.2.2.2.2.2.2.2.1 rfl).1]; exact Nat.zero_le _, fun q => by omega, hF, kp _ ⟨rfl, rfl, rfl, rfl, rfl, rfl, rfl, rfl, trivial⟩⟩ ?_
  clear hF
  rintro n a' u1 ⟨j, o, rfl, hj, ho, hoA, hoE, hF, e, rfl⟩
  refine c_seq (fun K14 hK14 => ?_)
  refine c_reg ?_ -- region 14 check.go:198
  refine wl (ro_cmp rfl rfl rfl) ?_
  refine wl_nil (x_then (hK14 _ _ ?_))
  clear hK14 K14
  refine forget [(0, _), (1, _), (2, _), (3, _), (9, _), (10, _), (143, _), (144, _), (145, _)] ⟨rfl, rfl, rfl, rfl, rfl, rfl, rfl, rfl, rfl, trivial⟩ (fun e => ?_)
  refine c_seq (fun K15 hK15 => ?_)
  refine wc_cond rfl (fun hc145 => ?_) (fun hc145 => ?_)
  · try simp only [decide_eq_true_eq, decide_eq_false_iff_not, Bool.not_eq_true', Bool.not_eq_false', Bool.not_eq_eq_eq_not, Bool.not_true, Bool.not_false, beq_iff_eq, bne_iff_ne, ne_eq, beq_eq_false_iff_ne, bne_eq_false_iff_eq, gt_iff_lt, ge_iff_le, Int.not_lt, Int.not_le] at hc145
    have hjl : j < y.frs.length := by omega
    obtain ⟨f, hf⟩ : ∃ f, y.frs.reverse[j]? = some f := ⟨_, List.getElem?_eq_getElem (by rw [List.length_reverse]; omega)⟩
    obtain ⟨g, p, cs, hg, hvc, hp, hns, hpc, hrb, hst9, hops, hb0, htop, hnext⟩ := hC.fr j f hf
    obtain ⟨up, hclj, -⟩ := hclR f.clo p cs hvc
    have hcj := (List.getElem?_eq_some_iff.1 hclj).1
    obtain ⟨ra, rb, rc, hrj⟩ := hrow8 p hp
    have k5j := k5f j f hf
    have k5cj := k5c _ _ hclj
    have k5rj := k5r _ _ hrj
    have q0 : fl[0 + j * 5 + 0]? = some (i64c f.clo) := row_cell3 k5j rfl
    have q1 : fl[0 + j * 5 + 1]? = some (i64c f.pc) := row_cell3 k5j rfl
    have q2 : fl[0 + j * 5 + 2]? = some (i64c f.base) := row_cell3 k5j rfl
    have q3 : fl[0 + j * 5 + 3]? = some (i64c f.ret) := row_cell3 k5j rfl
    have q4 : fl[0 + j * 5 + 4]? = some (.bool f.prot) := row_cell3 k5j rfl
    have q5 : cll[0 + f.clo * 3 + 0]? = some (i64c p) := row_cell3 k5cj rfl
    have q6 : rl[0 + p * 8 + 1]? = some (i64c (fsAt F p).ns) := row_cell3 k5rj rfl
    have q7 : rl[0 + p * 8 + 7]? = some (i64c (fsAt F p).code.length) := row_cell3 k5rj rfl
    rw [← hns] at q6
    refine c_skip (x_then (hK15 _ _ ?_))
    clear hK15 K15
    refine forget [(0, _), (1, _), (2, _), (3, _), (9, _), (10, _), (143, _), (144, _)] ⟨rfl, rfl, rfl, rfl, rfl, rfl, rfl, rfl, trivial⟩ (fun e => ?_)
    refine c_seq (fun K16 hK16 => ?_)
    refine c_block ?_
    refine c_seq (fun K17 hK17 => ?_)
    refine c_reg ?_ -- region 15 check.go:198
    refine wl (ro_move rfl) ?_
    refine wl (ro_assign rfl) ?_
    refine wl_nil (x_then (hK17 _ _ ?_))
    clear hK17 K17
    refine forget [(0, _), (1, _), (2, _), (3, _), (9, _), (10, _), (11, _), (143, _), (144, _)] ⟨rfl, rfl, rfl, rfl, rfl, rfl, rfl, rfl, rfl, trivial⟩ (fun e => ?_)
    refine c_seq (fun K18 hK18 => ?_)
    refine c_reg ?_ -- region 16 check.go:199
    refine wl (ro_move rfl) ?_
    refine wl (ro_nilCheck rfl) ?_
    refine wl (ro_fieldAddr (k := 3) rfl fo_269_3) ?_
    refine wl (ro_loadB rfl sc_267 ((hF.blkN hT0)) (r3)) ?_
    refine wl (ro_move rfl) ?_
    refine wl (ro_indexAddr (et := 331) (k := 5) rfl rfl se_267 (rfl) (hjl)) ?_
    refine wl (ro_assign rfl) ?_
    refine wl_nil (x_then (hK18 _ _ ?_))
    clear hK18 K18
    refine c_seq (fun K19 hK19 => ?_)
    refine c_seq (fun K20 hK20 => ?_)
    refine c_pi [(0, false), (1, false), (2, false), (3, false), (4, false), (5, false), (6, false), (7, false), (8, false), (9, false), (10, false), (11, false), (12, false), (13, false), (14, false), (15, false), (16, false)] (SameH _) mixed (by kernel_rfl) rfl (by kernel_rfl) (po_then (po_then (po_blk (po_then (po_then (po_blk (po_then (po_bp)))))))) (sameH_now _ _) ?_ -- region 17 check.go:200
    refine pi_ro rfl (fun w hS => ro_move rfl) ?_
    refine pi_ro rfl (fun w hS => ro_nilCheck rfl) ?_
    refine pi_ro rfl (fun w hS => ro_fieldAddr (k := 0) rfl fo_331_0) ?_
    refine pi_ro rfl (fun w hS => ro_loadB rfl sc_3 (Blk.of_heap (hF.blkN hFg) hS) (q0)) ?_
    refine pi_ro rfl (fun w hS => ro_cmp (r := false) rfl rfl (congrArg some (decide_eq_false (by omega)))) ?_
    refine pi_ro rfl (fun w hS => ro_move rfl) ?_
    refine pi_gyes rfl rfl (fun w hS => ro_move rfl) ?_
    refine pi_gyes rfl rfl (fun w hS => ro_nilCheck rfl) ?_
    refine pi_gyes rfl rfl (fun w hS => ro_fieldAddr (k := 0) rfl fo_331_0) ?_
    refine pi_gyes rfl rfl (fun w hS => ro_loadB rfl sc_3 (Blk.of_heap (hF.blkN hFg) hS) (q0)) ?_
    refine pi_gyes rfl rfl (fun w hS => ro_move rfl) ?_
    refine pi_gyes rfl rfl (fun w hS => ro_nilCheck rfl) ?_
    refine pi_gyes rfl rfl (fun w hS => ro_fieldAddr (k := 6) rfl fo_89_6) ?_
    refine pi_gyes rfl rfl (fun w hS => ro_loadB rfl sc_85 (Blk.of_heap (hF.blkN hM0) hS) (rfl)) ?_
    refine pi_gyes rfl rfl (fun w hS => ro_lenL rfl se_85) ?_
    refine pi_gyes rfl rfl (fun w hS => ro_cmp (r := false) rfl rfl (congrArg some (decide_eq_false (by omega)))) ?_
    refine pi_ro rfl (fun w hS => ro_pick rfl rfl rfl) ?_
    refine pi_nil (x_then (hK20 _ _ ?_))
    clear hK20 K20
    refine wc_condF rfl ?_
    refine c_skip (x_then (hK19 _ _ ?_))
    clear hK19 K19
    refine forget [(0, _), (1, _), (2, _), (3, _), (9, _), (10, _), (11, _), (12, _), (143, _), (144, _), (159, _), (160, _), (161, _), (162, _), (163, _), (164, _), (165, _), (166, _), (167, _), (168, _)] ⟨rfl, rfl, rfl, rfl, rfl, rfl, rfl, rfl, rfl, rfl, rfl, rfl, rfl, rfl, rfl, rfl, rfl, rfl, rfl, rfl, trivial⟩ (fun e => ?_)
    refine c_seq (fun K21 hK21 => ?_)
    refine c_pi [(0, false), (1, false), (2, false), (3, false), (4, false), (5, false), (6, false), (7, false), (8, false), (9, false), (10, false), (11, false), (12, false), (13, false), (14, false), (15, false), (16, false)] (SameH _) mixed (by kernel_rfl) rfl (by kernel_rfl) (po_then (po_blk (po_then (po_then (po_blk (po_then (po_bp))))))) (sameH_now _ _) ?_ -- region 19 check.go:203
    refine pi_ro rfl (fun w hS => ro_move rfl) ?_
    refine pi_ro rfl (fun w hS => ro_nilCheck rfl) ?_
    refine pi_ro rfl (fun w hS => ro_fieldAddr (k := 2) rfl fo_89_2) ?_
    refine pi_ro rfl (fun w hS => ro_loadB rfl sc_81 (Blk.of_heap (hF.blkN hM0) hS) (rfl)) ?_
    refine pi_ro rfl (fun w hS => ro_move rfl) ?_
    refine pi_ro rfl (fun w hS => ro_nilCheck rfl) ?_
    refine pi_ro rfl (fun w hS => ro_fieldAddr (k := 6) rfl fo_89_6) ?_
    refine pi_ro rfl (fun w hS => ro_loadB rfl sc_85 (Blk.of_heap (hF.blkN hM0) hS) (rfl)) ?_
    refine pi_ro rfl (fun w hS => ro_move rfl) ?_
    refine pi_ro rfl (fun w hS => ro_nilCheck rfl) ?_
    refine pi_ro rfl (fun w hS => ro_fieldAddr (k := 0) rfl fo_331_0) ?_
    refine pi_ro rfl (fun w hS => ro_loadB rfl sc_3 (Blk.of_heap (hF.blkN hFg) hS) (q0)) ?_
    refine pi_ro rfl (fun w hS => ro_indexAddr (et := 209) (k := 3) rfl rfl se_85 (rfl) (hcj)) ?_
    refine pi_ro rfl (fun w hS => ro_fieldAddr (k := 0) rfl fo_209_0) ?_
    refine pi_ro rfl (fun w hS => ro_loadB rfl sc_3 (Blk.of_heap (hF.blkN hCg) hS) (q5)) ?_
    refine pi_ro rfl (fun w hS => ro_indexAddr (et := 258) (k := 8) rfl rfl se_81 (rfl) ((by omega))) ?_
    refine pi_ro rfl (fun w hS => ro_assign rfl) ?_
    refine pi_nil (x_then (hK21 _ _ ?_))
    clear hK21 K21
    refine forget [(0, _), (1, _), (2, _), (3, _), (9, _), (10, _), (11, _), (12, _), (13, _), (143, _), (144, _), (159, _), (160, _), (161, _), (162, _), (163, _), (164, _), (165, _), (166, _), (167, _), (168, _)] ⟨rfl, rfl, rfl, rfl, rfl, rfl, rfl, rfl, rfl, rfl, rfl, rfl, rfl, rfl, rfl, rfl, rfl, rfl, rfl, rfl, rfl, trivial⟩ (fun e => ?_)
    refine c_seq (fun K22 hK22 => ?_)
    refine c_pi [(0, false), (1, false), (2, false), (3, false), (4, false), (5, false), (6, false), (7, false), (8, false), (9, false)] (SameH _) mixed (by kernel_rfl) rfl (by kernel_rfl) (po_then (po_blk (po_then (po_then (po_blk (po_then (po_bp))))))) (sameH_now _ _) ?_ -- region 20 check.go:204
    refine pi_ro rfl (fun w hS => ro_move rfl) ?_
    refine pi_ro rfl (fun w hS => ro_nilCheck rfl) ?_
    refine pi_ro rfl (fun w hS => ro_fieldAddr (k := 2) rfl fo_331_2) ?_
    refine pi_ro rfl (fun w hS => ro_loadB rfl sc_3 (Blk.of_heap (hF.blkN hFg) hS) (q2)) ?_
    refine pi_ro rfl (fun w hS => ro_move rfl) ?_
    refine pi_ro rfl (fun w hS => ro_nilCheck rfl) ?_
    refine pi_ro rfl (fun w hS => ro_fieldAddr (k := 1) rfl fo_258_1) ?_
    refine pi_ro rfl (fun w hS => ro_loadB rfl sc_3 (Blk.of_heap (hF.blkN hRg) hS) (q6)) ?_
    refine pi_ro rfl (fun w hS => ro_adT (m := f.base) (k := g.slots.length) rfl rfl (by omega)) ?_
    refine pi_ro rfl (fun w hS => ro_assign rfl) ?_
    refine pi_nil (x_then (hK22 _ _ ?_))
    clear hK22 K22
    refine forget [(0, _), (1, _), (2, _), (3, _), (9, _), (10, _), (11, _), (12, _), (13, _), (14, _), (143, _), (144, _), (159, _), (160, _), (161, _), (162, _), (163, _), (164, _), (165, _), (166, _), (167, _), (168, _)] ⟨rfl, rfl, rfl, rfl, rfl, rfl, rfl, rfl, rfl, rfl, rfl, rfl, rfl, rfl, rfl, rfl, rfl, rfl, rfl, rfl, rfl, rfl, trivial⟩ (fun e => ?_)
    refine c_seq (fun K23 hK23 => ?_)
    refine c_pi [(0, false), (1, false), (2, false), (3, false), (4, false), (5, false), (6, false), (7, false), (8, false), (9, false), (10, false), (11, false), (12, false), (13, false), (14, false)] (SameH _) mixed (by kernel_rfl) rfl (by kernel_rfl) (po_then (po_blk (po_then (po_then (po_blk (po_then (po_bp))))))) (sameH_now _ _) ?_ -- region 21 check.go:205
    refine pi_ro rfl (fun w hS => ro_move rfl) ?_
    refine pi_ro rfl (fun w hS => ro_nilCheck rfl) ?_
    refine pi_ro rfl (fun w hS => ro_fieldAddr (k := 2) rfl fo_269_2) ?_
    refine pi_ro rfl (fun w hS => ro_loadB rfl sc_83 (Blk.of_heap (hF.blkN hT0) hS) (r2)) ?_
    refine pi_ro rfl (fun w hS => ro_lenL rfl se_83) ?_
    refine pi_ro rfl (fun w hS => ro_move rfl) ?_
    refine pi_ro rfl (fun w hS => ro_arith (r := ((y.stack.length : Nat) : Int)) rfl rfl (congrArg some (by omega)) (Go.IntWalk.i64_in _ (by omega))) ?_
    refine pi_ro rfl (fun w hS => ro_move rfl) ?_
    refine pi_ro rfl (fun w hS => ro_nilCheck rfl) ?_
    refine pi_ro rfl (fun w hS => ro_fieldAddr (k := 2) rfl fo_269_2) ?_
    refine pi_ro rfl (fun w hS => ro_loadB rfl sc_83 (Blk.of_heap (hF.blkN hT0) hS) (r2)) ?_
    refine pi_ro rfl (fun w hS => ro_lenL rfl se_83) ?_
    refine pi_ro rfl (fun w hS => ro_assign rfl) ?_
    refine pi_ro rfl (fun w hS => ro_assign rfl) ?_
    refine pi_ro rfl (fun w hS => ro_assign rfl) ?_
    refine pi_nil (x_then (hK23 _ _ ?_))
    clear hK23 K23
    refine c_mid (fun a' w' => ∃ en tp : Nat, Fram none' w w' ∧ (en = f.base + g.slots.length + g.ops.length ∧ en ≤ tp ∧ tp ≤ y.stack.length) ∧ (j + 1 < y.frs.length → en + 1 ≤ tp ∧ tp ≤ en + 4 ∧ tp ≤ f.base + g.slots.length + 128) ∧ ∃ e, a' = Fr 440 (upds e [(0, ptr E.mb), (1, i64c i), (2, .bool false), (3, i64c 0), (9, .pointer (some ⟨E.tb, 0 + i * 5, none⟩)), (10, i64c o), (11, i64c j), (12, .pointer (some ⟨fg, 0 + j * 5, none⟩)), (13, .pointer (some ⟨rg, 0 + p * 8, none⟩)), (14, i64c (f.base + g.slots.length)), (15, i64c en), (16, i64c tp), (17, i64c 2), (143, i64c y.frs.length), (144, i64c j)]) []) ?_ ?_
    · skip
      refine c_seq (fun K24 hK24 => ?_)
      refine c_reg ?_ -- region 22 check.go:206
      refine wl (ro_move rfl) ?_
      refine wl (ro_adT (m := j) (k := 1) rfl rfl (by omega)) ?_
      refine wl (ro_move rfl) ?_
      refine wl (ro_nilCheck rfl) ?_
      refine wl (ro_fieldAddr (k := 3) rfl fo_269_3) ?_
      refine wl (ro_loadB rfl sc_267 ((hF.blkN hT0)) (r3)) ?_
      refine wl (ro_lenL rfl se_267) ?_
      refine wl (ro_cmp rfl rfl rfl) ?_
      refine wl_nil (x_then (hK24 _ _ ?_))
      clear hK24 K24
      refine wc_cond rfl (fun hc214 => ?_) (fun hc214 => ?_)
      · try simp only [decide_eq_true_eq, decide_eq_false_iff_not, Bool.not_eq_true', Bool.not_eq_false', Bool.not_eq_eq_eq_not, Bool.not_true, Bool.not_false, beq_iff_eq, bne_iff_ne, ne_eq, beq_eq_false_iff_ne, bne_eq_false_iff_eq, gt_iff_lt, ge_iff_le, Int.not_lt, Int.not_le] at hc214
        have hj2 : j + 1 < y.frs.length := by omega
        obtain ⟨f', hf'⟩ : ∃ f, y.frs.reverse[j + 1]? = some f := ⟨_, List.getElem?_eq_getElem (by rw [List.length_reverse]; omega)⟩
        obtain ⟨n1, n2, n3, n4, n5⟩ := hnext f' hf'
        have k5j' := k5f (j + 1) f' hf'
        have q3' : fl[0 + (j + 1) * 5 + 3]? = some (i64c f'.ret) := row_cell3 k5j' rfl
        have q2' : fl[0 + (j + 1) * 5 + 2]? = some (i64c f'.base) := row_cell3 k5j' rfl
        refine c_pi [(0, false), (1, false), (2, false), (3, false), (4, false), (5, false), (6, false), (7, false), (8, false), (9, false), (10, false), (11, false), (12, false), (13, false), (14, false), (15, false), (16, false), (17, false), (18, false), (19, false)] (SameH _) mixed (by kernel_rfl) rfl (by kernel_rfl) (po_then (po_blk (po_then (po_then (po_blk (po_then (po_bp))))))) (sameH_now _ _) ?_ -- region 23 check.go:207
        refine pi_ro rfl (fun w hS => ro_move rfl) ?_
        refine pi_ro rfl (fun w hS => ro_nilCheck rfl) ?_
        refine pi_ro rfl (fun w hS => ro_fieldAddr (k := 3) rfl fo_269_3) ?_
        refine pi_ro rfl (fun w hS => ro_loadB rfl sc_267 (Blk.of_heap (hF.blkN hT0) hS) (r3)) ?_
        refine pi_ro rfl (fun w hS => ro_move rfl) ?_
        refine pi_ro rfl (fun w hS => ro_adT (m := j) (k := 1) rfl rfl (by omega)) ?_
        refine pi_ro rfl (fun w hS => ro_indexAddr (et := 331) (k := 5) rfl rfl se_267 (rfl) (hj2)) ?_
        refine pi_ro rfl (fun w hS => ro_fieldAddr (k := 3) rfl fo_331_3) ?_
        refine pi_ro rfl (fun w hS => ro_loadB rfl sc_3 (Blk.of_heap (hF.blkN hFg) hS) (q3')) ?_
        refine pi_ro rfl (fun w hS => ro_move rfl) ?_
        refine pi_ro rfl (fun w hS => ro_nilCheck rfl) ?_
        refine pi_ro rfl (fun w hS => ro_fieldAddr (k := 3) rfl fo_269_3) ?_
        refine pi_ro rfl (fun w hS => ro_loadB rfl sc_267 (Blk.of_heap (hF.blkN hT0) hS) (r3)) ?_
        refine pi_ro rfl (fun w hS => ro_move rfl) ?_
        refine pi_ro rfl (fun w hS => ro_adT (m := j) (k := 1) rfl rfl (by omega)) ?_
        refine pi_ro rfl (fun w hS => ro_indexAddr (et := 331) (k := 5) rfl rfl se_267 (rfl) (hj2)) ?_
        refine pi_ro rfl (fun w hS => ro_fieldAddr (k := 2) rfl fo_331_2) ?_
        refine pi_ro rfl (fun w hS => ro_loadB rfl sc_3 (Blk.of_heap (hF.blkN hFg) hS) (q2')) ?_
        refine pi_ro rfl (fun w hS => ro_assign rfl) ?_
        refine pi_ro rfl (fun w hS => ro_assign rfl) ?_
        refine pi_nil (x_then ?_)
        exact ⟨f'.ret, f'.base, hF.thenDrew, ⟨by omega, by omega, n5⟩, fun _ => ⟨n2, n3, n4⟩, kp _ ⟨rfl, rfl, rfl, rfl, rfl, rfl, rfl, rfl, rfl, rfl, rfl, rfl, rfl, rfl, rfl, trivial⟩⟩
      · try simp only [decide_eq_true_eq, decide_eq_false_iff_not, Bool.not_eq_true', Bool.not_eq_false', Bool.not_eq_eq_eq_not, Bool.not_true, Bool.not_false, beq_iff_eq, bne_iff_ne, ne_eq, beq_eq_false_iff_ne, bne_eq_false_iff_eq, gt_iff_lt, ge_iff_le, Int.not_lt, Int.not_le] at hc214
        have htp := htop (by omega)
        refine c_seq (fun K25 hK25 => ?_)
        refine c_reg ?_ -- region 24 check.go:208
        refine wl (ro_move rfl) ?_
        refine wl (ro_move rfl) ?_
        refine wlg_no rfl ?_
        refine wlg_no rfl ?_
        refine wl (ro_pick rfl rfl rfl) ?_
        refine wl_nil (x_then (hK25 _ _ ?_))
        clear hK25 K25
        refine wc_condF rfl ?_
        refine c_skip (x_then ?_)
        exact ⟨y.stack.length, y.stack.length, (by first | exact hF | exact hF.thenDrew | exact hF.thenDrew.thenDrew | exact hF.thenDrew.thenDrew.thenDrew | exact hF.thenDrew.thenDrew.thenDrew.thenDrew), ⟨by omega, Nat.le_refl _, Nat.le_refl _⟩, fun q => by omega, kp _ ⟨rfl, rfl, rfl, rfl, rfl, rfl, rfl, rfl, rfl, rfl, rfl, rfl, rfl, rfl, rfl, trivial⟩⟩
    clear hF
    rintro a' u1 ⟨en, tp, hF, ⟨hen, het, hts⟩, hjt, e, rfl⟩
    refine c_seq (fun K26 hK26 => ?_)
    refine c_mid (fun a' w' => Fram none' w w' ∧ ∃ e, a' = Fr 440 (upds e [(0, ptr E.mb), (1, i64c i), (2, .bool false), (3, i64c 0), (9, .pointer (some ⟨E.tb, 0 + i * 5, none⟩)), (10, i64c o), (11, i64c j), (12, .pointer (some ⟨fg, 0 + j * 5, none⟩)), (13, .pointer (some ⟨rg, 0 + p * 8, none⟩)), (14, i64c (f.base + g.slots.length)), (15, i64c en), (16, i64c tp), (17, i64c 2), (143, i64c y.frs.length), (144, i64c j), (259, .bool false)]) []) ?_ ?_
    · skip
      refine c_reg ?_ -- region 26 check.go:211
      refine wl (ro_move rfl) ?_
      refine wl (ro_cmp rfl rfl rfl) ?_
      refine wl_fork rfl (fun hg240 => ?_) (fun hg240 => ?_)
      · try simp only [decide_eq_true_eq, decide_eq_false_iff_not, Bool.not_eq_true', Bool.not_eq_false', Bool.not_eq_eq_eq_not, Bool.not_true, Bool.not_false, beq_iff_eq, bne_iff_ne, ne_eq, beq_eq_false_iff_ne, bne_eq_false_iff_eq, gt_iff_lt, ge_iff_le, Int.not_lt, Int.not_le] at hg240
        obtain ⟨z0, z1, z2⟩ := hb0 (by omega)
        refine wlg_yes rfl (ro_move rfl) ?_
        refine wlg_yes rfl (ro_nilCheck rfl) ?_
        refine wlg_yes rfl (ro_fieldAddr (k := 2) rfl fo_331_2) ?_
        refine wlg_yes rfl (ro_loadB rfl sc_3 ((hF.blkN hFg)) (q2)) ?_
        refine wlg_yes rfl (ro_cmp (r := false) rfl rfl (congrArg some (by simp; omega))) ?_
        refine wlg_yes rfl (ro_move rfl) ?_
        refine wlg_yes rfl (ro_move rfl) ?_
        refine wlg_yes rfl (ro_nilCheck rfl) ?_
        refine wlg_yes rfl (ro_fieldAddr (k := 3) rfl fo_331_3) ?_
        refine wlg_yes rfl (ro_loadB rfl sc_3 ((hF.blkN hFg)) (q3)) ?_
        refine wlg_yes rfl (ro_cmp (r := false) rfl rfl (congrArg some (by simp; omega))) ?_
        refine wlg_yes rfl (ro_pick rfl rfl rfl) ?_
        refine wlg_yes rfl (ro_move rfl) ?_
        refine wlg_yes rfl (ro_move rfl) ?_
        refine wlg_yes rfl (ro_nilCheck rfl) ?_
        refine wlg_yes rfl (ro_fieldAddr (k := 4) rfl fo_331_4) ?_
        refine wlg_yes rfl (ro_loadB rfl sc_4 ((hF.blkN hFg)) ((q4.trans (by rw [z2])))) ?_
        refine wlg_yes rfl (ro_pick rfl rfl rfl) ?_
        refine wl (ro_pick rfl rfl rfl) ?_
        refine wl_nil (x_then ?_)
        exact ⟨hF, kp _ ⟨rfl, rfl, rfl, rfl, rfl, rfl, rfl, rfl, rfl, rfl, rfl, rfl, rfl, rfl, rfl, rfl, trivial⟩⟩
      · try simp only [decide_eq_true_eq, decide_eq_false_iff_not, Bool.not_eq_true', Bool.not_eq_false', Bool.not_eq_eq_eq_not, Bool.not_true, Bool.not_false, beq_iff_eq, bne_iff_ne, ne_eq, beq_eq_false_iff_ne, bne_eq_false_iff_eq, gt_iff_lt, ge_iff_le, Int.not_lt, Int.not_le] at hg240
        refine wlg_no rfl ?_
        refine wlg_no rfl ?_
        refine wlg_no rfl ?_
        refine wlg_no rfl ?_
        refine wlg_no rfl ?_
        refine wlg_no rfl ?_
        refine wlg_no rfl ?_
        refine wlg_no rfl ?_
        refine wlg_no rfl ?_
        refine wlg_no rfl ?_
        refine wlg_no rfl ?_
        refine wlg_no rfl ?_
        refine wlg_no rfl ?_
        refine wlg_no rfl ?_
        refine wlg_no rfl ?_
        refine wlg_no rfl ?_
        refine wlg_no rfl ?_
        refine wlg_no rfl ?_
        refine wl (ro_pick rfl rfl rfl) ?_
        refine wl_nil (x_then ?_)
        exact ⟨hF, kp _ ⟨rfl, rfl, rfl, rfl, rfl, rfl, rfl, rfl, rfl, rfl, rfl, rfl, rfl, rfl, rfl, rfl, trivial⟩⟩
    clear hF
    rintro a' u1 ⟨hF, e, rfl⟩
    refine wc_condF rfl ?_
    refine c_skip (x_then (hK26 _ _ ?_))
    clear hK26 K26
    refine c_seq (fun K27 hK27 => ?_)
    refine c_seq (fun K28 hK28 => ?_)
    refine c_pi [(0, false), (1, false), (2, false), (3, false), (4, false), (5, false), (6, false), (7, false), (8, false), (9, false), (10, false), (11, false), (12, false), (13, false), (14, false), (15, false), (16, false), (17, false), (18, false), (19, false), (20, false), (21, false), (22, false), (23, false), (24, false), (25, false), (26, false), (27, false), (28, false), (29, false), (30, false), (31, false), (32, false), (33, false), (34, false), (35, false), (36, false), (37, false), (38, false), (39, false), (40, false), (41, false), (42, false), (43, false), (44, false), (45, false), (46, false), (47, false), (48, false), (49, false), (50, false), (51, false), (52, false), (53, false)] (SameH _) mixed (by kernel_rfl) rfl (by kernel_rfl) (po_then (po_then (po_blk (po_then (po_then (po_blk (po_then (po_bp)))))))) (sameH_now _ _) ?_ -- region 28 check.go:214
    refine pi_ro rfl (fun w hS => ro_move rfl) ?_
    refine pi_ro rfl (fun w hS => ro_nilCheck rfl) ?_
    refine pi_ro rfl (fun w hS => ro_fieldAddr (k := 1) rfl fo_331_1) ?_
    refine pi_ro rfl (fun w hS => ro_loadB rfl sc_3 (Blk.of_heap (hF.blkN hFg) hS) (q1)) ?_
    refine pi_ro rfl (fun w hS => ro_cmp (r := false) rfl rfl (congrArg some (decide_eq_false (by omega)))) ?_
    refine pi_ro rfl (fun w hS => ro_move rfl) ?_
    refine pi_gyes rfl rfl (fun w hS => ro_move rfl) ?_
    refine pi_gyes rfl rfl (fun w hS => ro_nilCheck rfl) ?_
    refine pi_gyes rfl rfl (fun w hS => ro_fieldAddr (k := 1) rfl fo_331_1) ?_
    refine pi_gyes rfl rfl (fun w hS => ro_loadB rfl sc_3 (Blk.of_heap (hF.blkN hFg) hS) (q1)) ?_
    refine pi_gyes rfl rfl (fun w hS => ro_move rfl) ?_
    refine pi_gyes rfl rfl (fun w hS => ro_nilCheck rfl) ?_
    refine pi_gyes rfl rfl (fun w hS => ro_fieldAddr (k := 7) rfl fo_258_7) ?_
    refine pi_gyes rfl rfl (fun w hS => ro_loadB rfl sc_3 (Blk.of_heap (hF.blkN hRg) hS) (q7)) ?_
    refine pi_gyes rfl rfl (fun w hS => ro_cmp (r := false) rfl rfl (congrArg some (decide_eq_false (by omega)))) ?_
    refine pi_ro rfl (fun w hS => ro_pick rfl rfl rfl) ?_
    refine pi_ro rfl (fun w hS => ro_move rfl) ?_
    refine pi_gyes rfl rfl (fun w hS => ro_move rfl) ?_
    refine pi_gyes rfl rfl (fun w hS => ro_nilCheck rfl) ?_
    refine pi_gyes rfl rfl (fun w hS => ro_fieldAddr (k := 3) rfl fo_331_3) ?_
    refine pi_gyes rfl rfl (fun w hS => ro_loadB rfl sc_3 (Blk.of_heap (hF.blkN hFg) hS) (q3)) ?_
    refine pi_gyes rfl rfl (fun w hS => ro_move rfl) ?_
    refine pi_gyes rfl rfl (fun w hS => ro_nilCheck rfl) ?_
    refine pi_gyes rfl rfl (fun w hS => ro_fieldAddr (k := 2) rfl fo_331_2) ?_
    refine pi_gyes rfl rfl (fun w hS => ro_loadB rfl sc_3 (Blk.of_heap (hF.blkN hFg) hS) (q2)) ?_
    refine pi_gyes rfl rfl (fun w hS => ro_cmp (r := false) rfl rfl (congrArg some (decide_eq_false (by omega)))) ?_
    refine pi_ro rfl (fun w hS => ro_pick rfl rfl rfl) ?_
    refine pi_ro rfl (fun w hS => ro_move rfl) ?_
    refine pi_gyes rfl rfl (fun w hS => ro_move rfl) ?_
    refine pi_gyes rfl rfl (fun w hS => ro_move rfl) ?_
    refine pi_gyes rfl rfl (fun w hS => ro_cmp (r := false) rfl rfl (congrArg some (decide_eq_false (by omega)))) ?_
    refine pi_ro rfl (fun w hS => ro_pick rfl rfl rfl) ?_
    refine pi_ro rfl (fun w hS => ro_move rfl) ?_
    refine pi_gyes rfl rfl (fun w hS => ro_move rfl) ?_
    refine pi_gyes rfl rfl (fun w hS => ro_move rfl) ?_
    refine pi_gyes rfl rfl (fun w hS => ro_arith (r := ((g.ops.length : Nat) : Int)) rfl rfl (congrArg some (by omega)) (Go.IntWalk.i64_in _ (by omega))) ?_
    refine pi_gyes rfl rfl (fun w hS => ro_move rfl) ?_
    refine pi_gyes rfl rfl (fun w hS => ro_adT (m := g.ops.length) (k := 2) rfl rfl (by omega)) ?_
    refine pi_gyes rfl rfl (fun w hS => ro_cmp (r := false) rfl rfl (congrArg some (decide_eq_false (by omega)))) ?_
    refine pi_ro rfl (fun w hS => ro_pick rfl rfl rfl) ?_
    refine pi_ro rfl (fun w hS => ro_move rfl) ?_
    refine pi_gyes rfl rfl (fun w hS => ro_move rfl) ?_
    refine pi_gyes rfl rfl (fun w hS => ro_move rfl) ?_
    refine pi_gyes rfl rfl (fun w hS => ro_cmp (r := false) rfl rfl (congrArg some (decide_eq_false (by omega)))) ?_
    refine pi_ro rfl (fun w hS => ro_pick rfl rfl rfl) ?_
    refine pi_ro rfl (fun w hS => ro_move rfl) ?_
    refine pi_gyes rfl rfl (fun w hS => ro_move rfl) ?_
    refine pi_gyes rfl rfl (fun w hS => ro_move rfl) ?_
    refine pi_gyes rfl rfl (fun w hS => ro_nilCheck rfl) ?_
    refine pi_gyes rfl rfl (fun w hS => ro_fieldAddr (k := 2) rfl fo_269_2) ?_
    refine pi_gyes rfl rfl (fun w hS => ro_loadB rfl sc_83 (Blk.of_heap (hF.blkN hT0) hS) (r2)) ?_
    refine pi_gyes rfl rfl (fun w hS => ro_lenL rfl se_83) ?_
    refine pi_gyes rfl rfl (fun w hS => ro_cmp (r := false) rfl rfl (congrArg some (decide_eq_false (by omega)))) ?_
    refine pi_ro rfl (fun w hS => ro_pick rfl rfl rfl) ?_
    refine pi_nil (x_then (hK28 _ _ ?_))
    clear hK28 K28
    refine wc_condF rfl ?_
    refine c_skip (x_then (hK27 _ _ ?_))
    clear hK27 K27
    refine c_seq (fun K29 hK29 => ?_)
    refine c_mid (fun a' w' => Fram none' w w' ∧ ∃ e, a' = Fr 440 (upds e [(0, ptr E.mb), (1, i64c i), (2, .bool false), (3, i64c 0), (9, .pointer (some ⟨E.tb, 0 + i * 5, none⟩)), (10, i64c o), (12, .pointer (some ⟨fg, 0 + j * 5, none⟩)), (14, i64c (f.base + g.slots.length)), (143, i64c y.frs.length), (144, i64c j), (339, .bool false)]) []) ?_ ?_
    · skip
      refine c_reg ?_ -- region 30 check.go:217
      refine wl (ro_move rfl) ?_
      refine wl (ro_adT (m := j) (k := 1) rfl rfl (by omega)) ?_
      refine wl (ro_move rfl) ?_
      refine wl (ro_nilCheck rfl) ?_
      refine wl (ro_fieldAddr (k := 3) rfl fo_269_3) ?_
      refine wl (ro_loadB rfl sc_267 ((hF.blkN hT0)) (r3)) ?_
      refine wl (ro_lenL rfl se_267) ?_
      refine wl (ro_cmp rfl rfl rfl) ?_
      refine wl_fork rfl (fun hg322 => ?_) (fun hg322 => ?_)
      · try simp only [decide_eq_true_eq, decide_eq_false_iff_not, Bool.not_eq_true', Bool.not_eq_false', Bool.not_eq_eq_eq_not, Bool.not_true, Bool.not_false, beq_iff_eq, bne_iff_ne, ne_eq, beq_eq_false_iff_ne, bne_eq_false_iff_eq, gt_iff_lt, ge_iff_le, Int.not_lt, Int.not_le] at hg322
        obtain ⟨m1, m2, m3⟩ := hjt (by omega)
        refine wlg_yes rfl (ro_move rfl) ?_
        refine wlg_yes rfl (ro_move rfl) ?_
        refine wlg_yes rfl (ro_arith (r := ((tp - en : Nat) : Int)) rfl rfl (congrArg some (by omega)) (Go.IntWalk.i64_in _ (by omega))) ?_
        refine wlg_yes rfl (ro_cmp (r := false) rfl rfl (congrArg some (decide_eq_false (by omega)))) ?_
        refine wlg_yes rfl (ro_move rfl) ?_
        refine wlg_yes rfl (ro_move rfl) ?_
        refine wlg_yes rfl (ro_move rfl) ?_
        refine wlg_yes rfl (ro_arith (r := ((tp - en : Nat) : Int)) rfl rfl (congrArg some (by omega)) (Go.IntWalk.i64_in _ (by omega))) ?_
        refine wlg_yes rfl (ro_cmp (r := false) rfl rfl (congrArg some (decide_eq_false (by omega)))) ?_
        refine wlg_yes rfl (ro_pick rfl rfl rfl) ?_
        refine wlg_yes rfl (ro_move rfl) ?_
        refine wlg_yes rfl (ro_move rfl) ?_
        refine wlg_yes rfl (ro_move rfl) ?_
        refine wlg_yes rfl (ro_arith (r := ((tp - (f.base + g.slots.length) : Nat) : Int)) rfl rfl (congrArg some (by omega)) (Go.IntWalk.i64_in _ (by omega))) ?_
        refine wlg_yes rfl (ro_cmp (r := false) rfl rfl (congrArg some (decide_eq_false (by omega)))) ?_
        refine wlg_yes rfl (ro_pick rfl rfl rfl) ?_
        refine wl (ro_pick rfl rfl rfl) ?_
        refine wl_nil (x_then ?_)
        exact ⟨hF.thenDrew, kp _ ⟨rfl, rfl, rfl, rfl, rfl, rfl, rfl, rfl, rfl, rfl, rfl, trivial⟩⟩
      · try simp only [decide_eq_true_eq, decide_eq_false_iff_not, Bool.not_eq_true', Bool.not_eq_false', Bool.not_eq_eq_eq_not, Bool.not_true, Bool.not_false, beq_iff_eq, bne_iff_ne, ne_eq, beq_eq_false_iff_ne, bne_eq_false_iff_eq, gt_iff_lt, ge_iff_le, Int.not_lt, Int.not_le] at hg322
        refine wlg_no rfl ?_
        refine wlg_no rfl ?_
        refine wlg_no rfl ?_
        refine wlg_no rfl ?_
        refine wlg_no rfl ?_
        refine wlg_no rfl ?_
        refine wlg_no rfl ?_
        refine wlg_no rfl ?_
        refine wlg_no rfl ?_
        refine wlg_no rfl ?_
        refine wlg_no rfl ?_
        refine wlg_no rfl ?_
        refine wlg_no rfl ?_
        refine wlg_no rfl ?_
        refine wlg_no rfl ?_
        refine wlg_no rfl ?_
        refine wl (ro_pick rfl rfl rfl) ?_
        refine wl_nil (x_then ?_)
        exact ⟨hF.thenDrew, kp _ ⟨rfl, rfl, rfl, rfl, rfl, rfl, rfl, rfl, rfl, rfl, rfl, trivial⟩⟩
    clear hF
    rintro a' u1 ⟨hF, e, rfl⟩
    refine wc_condF rfl ?_
    refine c_skip (x_then (hK29 _ _ ?_))
    clear hK29 K29
    refine c_block ?_
    -- loop@r32: live slots [0, 1, 2, 3, 9, 10, 12, 14, 143, 144]
    refine c_loopG (fun n a' w' => ∃ o2, n = y.opn.length - o2 ∧ o2 ≤ y.opn.length ∧ (∀ k c z, o2 ≤ k → y.opn.reverse[k]? = some c → V.cells[c]? = some z → f.base ≤ z.pl) ∧ Fram none' w w' ∧ ∃ e, a' = Fr 440 (upds e [(0, ptr E.mb), (1, i64c i), (2, .bool false), (3, i64c 0), (9, .pointer (some ⟨E.tb, 0 + i * 5, none⟩)), (10, i64c o2), (12, .pointer (some ⟨fg, 0 + j * 5, none⟩)), (14, i64c (f.base + g.slots.length)), (143, i64c y.frs.length), (144, i64c j)]) []) _ ⟨o, rfl, ho, fun k c z h1 h2 h3 => hoA k c z f h1 h2 h3 hf, hF, kp _ ⟨rfl, rfl, rfl, rfl, rfl, rfl, rfl, rfl, rfl, rfl, trivial⟩⟩ ?_
    clear hF
    rintro n2 a2 u2 ⟨o2, rfl, ho2, hoB, hF, e2, rfl⟩
    refine c_seq (fun K30 hK30 => ?_)
    refine c_seq (fun K31 hK31 => ?_)
    refine c_reg ?_ -- region 32 check.go:220
    refine wl (ro_move rfl) ?_
    refine wl (ro_move rfl) ?_
    refine wl (ro_nilCheck rfl) ?_
    refine wl (ro_fieldAddr (k := 4) rfl fo_269_4) ?_
    refine wl (ro_loadB rfl sc_86 ((hF.blkN hT0)) (r4)) ?_
    refine wl (ro_lenL rfl se_86) ?_
    refine wl (ro_cmp rfl rfl rfl) ?_
    refine wl_nil (x_then (hK31 _ _ ?_))
    clear hK31 K31
    refine wc_cond rfl (fun hc346 => ?_) (fun hc346 => ?_)
    · try simp only [decide_eq_true_eq, decide_eq_false_iff_not, Bool.not_eq_true', Bool.not_eq_false', Bool.not_eq_eq_eq_not, Bool.not_true, Bool.not_false, beq_iff_eq, bne_iff_ne, ne_eq, beq_eq_false_iff_ne, bne_eq_false_iff_eq, gt_iff_lt, ge_iff_le, Int.not_lt, Int.not_le] at hc346
      have hol : o2 < y.opn.length := by omega
      obtain ⟨c, hc⟩ : ∃ c, y.opn.reverse[o2]? = some c := ⟨_, List.getElem?_eq_getElem (by rw [List.length_reverse]; omega)⟩
      obtain ⟨z, hzc, hzt, -⟩ := hC.op o2 c hc
      have hzb := hoB o2 c z (Nat.le_refl _) hc hzc
      obtain ⟨og, ocap, ol, eo, hOg, -, k5o⟩ := OwT.one1 u4 (i := o2) (u := i64c c) (by rw [List.getElem?_map, hc]; rfl) (by rw [List.length_map, List.length_reverse])
      obtain ⟨eg, ecap, el, ee, hEg, -, -, -, -, k5e⟩ := OwT.at cec_len o8 hzc
      have hcl8 := (List.getElem?_eq_some_iff.1 hzc).1
      obtain rfl : du4 = some ⟨og, 0, none⟩ := by injection eo
      obtain rfl : da8 = some ⟨eg, 0, none⟩ := by injection ee
      have q9 := k5o o2 (i64c c) (by rw [List.getElem?_map, hc]; rfl)
      have qa : el[0 + c * 5 + 0]? = some (i64c i) := row_cell3 (k5e c z hzc) (by show some (thV z.th) = _; rw [hzt]; rfl)
      have qb : el[0 + c * 5 + 1]? = some (i64c z.pl) := row_cell3 (k5e c z hzc) rfl
      refine c_skip (x_then (hK30 _ _ ?_))
      clear hK30 K30
      refine c_block ?_
      refine forget [(0, _), (1, _), (2, _), (3, _), (9, _), (10, _), (12, _), (14, _), (143, _), (144, _)] ⟨rfl, rfl, rfl, rfl, rfl, rfl, rfl, rfl, rfl, rfl, trivial⟩ (fun e => ?_)
      refine c_seq (fun K32 hK32 => ?_)
      refine c_reg ?_ -- region 33 check.go:221
      refine wl (ro_move rfl) ?_
      refine wl (ro_nilCheck rfl) ?_
      refine wl (ro_fieldAddr (k := 4) rfl fo_269_4) ?_
      refine wl (ro_loadB rfl sc_86 ((hF.blkN hT0)) (r4)) ?_
      refine wl (ro_move rfl) ?_
      refine wl (ro_indexAddr (et := 3) (k := 1) rfl rfl se_86 (rfl) (hol)) ?_
      refine wl (ro_loadB rfl sc_3 ((hF.blkN hOg)) (q9)) ?_
      refine wl (ro_assign rfl) ?_
      refine wl_nil (x_then (hK32 _ _ ?_))
      clear hK32 K32
      refine c_seq (fun K33 hK33 => ?_)
      refine c_seq (fun K34 hK34 => ?_)
      refine c_pi [(0, false), (1, false), (2, false), (3, false), (4, false), (5, false), (6, false), (7, false), (8, false), (9, false), (10, false), (11, false), (12, false), (13, false), (14, false), (15, false), (16, false), (17, false), (18, false), (19, false), (20, false), (21, false), (22, false), (23, false), (24, false), (25, false), (26, false), (27, false), (28, false), (29, false), (30, false), (31, false), (32, false), (33, false), (34, false), (35, false), (36, false), (37, false)] (SameH _) mixed (by kernel_rfl) rfl (by kernel_rfl) (po_then (po_then (po_blk (po_then (po_blk (po_blk (po_then (po_then (po_blk (po_then (po_bp))))))))))) (sameH_now _ _) ?_ -- region 34 check.go:222
      refine pi_ro rfl (fun w hS => ro_move rfl) ?_
      refine pi_ro rfl (fun w hS => ro_cmp (r := false) rfl rfl (congrArg some (decide_eq_false (by omega)))) ?_
      refine pi_ro rfl (fun w hS => ro_move rfl) ?_
      refine pi_gyes rfl rfl (fun w hS => ro_move rfl) ?_
      refine pi_gyes rfl rfl (fun w hS => ro_move rfl) ?_
      refine pi_gyes rfl rfl (fun w hS => ro_nilCheck rfl) ?_
      refine pi_gyes rfl rfl (fun w hS => ro_fieldAddr (k := 8) rfl fo_89_8) ?_
      refine pi_gyes rfl rfl (fun w hS => ro_loadB rfl sc_87 (Blk.of_heap (hF.blkN hM0) hS) (rfl)) ?_
      refine pi_gyes rfl rfl (fun w hS => ro_lenL rfl se_87) ?_
      refine pi_gyes rfl rfl (fun w hS => ro_cmp (r := false) rfl rfl (congrArg some (decide_eq_false (by omega)))) ?_
      refine pi_ro rfl (fun w hS => ro_pick rfl rfl rfl) ?_
      refine pi_ro rfl (fun w hS => ro_move rfl) ?_
      refine pi_gyes rfl rfl (fun w hS => ro_move rfl) ?_
      refine pi_gyes rfl rfl (fun w hS => ro_nilCheck rfl) ?_
      refine pi_gyes rfl rfl (fun w hS => ro_fieldAddr (k := 8) rfl fo_89_8) ?_
      refine pi_gyes rfl rfl (fun w hS => ro_loadB rfl sc_87 (Blk.of_heap (hF.blkN hM0) hS) (rfl)) ?_
      refine pi_gyes rfl rfl (fun w hS => ro_move rfl) ?_
      refine pi_gyes rfl rfl (fun w hS => ro_indexAddr (et := 413) (k := 5) rfl rfl se_87 (rfl) (hcl8)) ?_
      refine pi_gyes rfl rfl (fun w hS => ro_fieldAddr (k := 0) rfl fo_413_0) ?_
      refine pi_gyes rfl rfl (fun w hS => ro_loadB rfl sc_3 (Blk.of_heap (hF.blkN hEg) hS) (qa)) ?_
      refine pi_gyes rfl rfl (fun w hS => ro_move rfl) ?_
      refine pi_gyes rfl rfl (fun w hS => ro_cmp (r := false) rfl rfl (congrArg some (by simp))) ?_
      refine pi_ro rfl (fun w hS => ro_pick rfl rfl rfl) ?_
      refine pi_ro rfl (fun w hS => ro_move rfl) ?_
      refine pi_gyes rfl rfl (fun w hS => ro_move rfl) ?_
      refine pi_gyes rfl rfl (fun w hS => ro_nilCheck rfl) ?_
      refine pi_gyes rfl rfl (fun w hS => ro_fieldAddr (k := 8) rfl fo_89_8) ?_
      refine pi_gyes rfl rfl (fun w hS => ro_loadB rfl sc_87 (Blk.of_heap (hF.blkN hM0) hS) (rfl)) ?_
      refine pi_gyes rfl rfl (fun w hS => ro_move rfl) ?_
      refine pi_gyes rfl rfl (fun w hS => ro_indexAddr (et := 413) (k := 5) rfl rfl se_87 (rfl) (hcl8)) ?_
      refine pi_gyes rfl rfl (fun w hS => ro_fieldAddr (k := 1) rfl fo_413_1) ?_
      refine pi_gyes rfl rfl (fun w hS => ro_loadB rfl sc_3 (Blk.of_heap (hF.blkN hEg) hS) (qb)) ?_
      refine pi_gyes rfl rfl (fun w hS => ro_move rfl) ?_
      refine pi_gyes rfl rfl (fun w hS => ro_nilCheck rfl) ?_
      refine pi_gyes rfl rfl (fun w hS => ro_fieldAddr (k := 2) rfl fo_331_2) ?_
      refine pi_gyes rfl rfl (fun w hS => ro_loadB rfl sc_3 (Blk.of_heap (hF.blkN hFg) hS) (q2)) ?_
      refine pi_gyes rfl rfl (fun w hS => ro_cmp (r := false) rfl rfl (congrArg some (decide_eq_false (by omega)))) ?_
      refine pi_ro rfl (fun w hS => ro_pick rfl rfl rfl) ?_
      refine pi_nil (x_then (hK34 _ _ ?_))
      clear hK34 K34
      refine wc_condF rfl ?_
      refine c_skip (x_then (hK33 _ _ ?_))
      clear hK33 K33
      refine c_seq (fun K35 hK35 => ?_)
      refine c_seq (fun K36 hK36 => ?_)
      refine c_reg ?_ -- region 36 check.go:225
      refine wl (ro_move rfl) ?_
      refine wl (ro_nilCheck rfl) ?_
      refine wl (ro_fieldAddr (k := 8) rfl fo_89_8) ?_
      refine wl (ro_loadB rfl sc_87 ((hF.blkN hM0)) (rfl)) ?_
      refine wl (ro_move rfl) ?_
      refine wl (ro_indexAddr (et := 413) (k := 5) rfl rfl se_87 (rfl) (hcl8)) ?_
      refine wl (ro_fieldAddr (k := 1) rfl fo_413_1) ?_
      refine wl (ro_loadB rfl sc_3 ((hF.blkN hEg)) (qb)) ?_
      refine wl (ro_move rfl) ?_
      refine wl (ro_cmp rfl rfl rfl) ?_
      refine wl_nil (x_then (hK36 _ _ ?_))
      clear hK36 K36
      refine wc_cond rfl (fun hc401 => ?_) (fun hc401 => ?_)
      · try simp only [decide_eq_true_eq, decide_eq_false_iff_not, Bool.not_eq_true', Bool.not_eq_false', Bool.not_eq_eq_eq_not, Bool.not_true, Bool.not_false, beq_iff_eq, bne_iff_ne, ne_eq, beq_eq_false_iff_ne, bne_eq_false_iff_eq, gt_iff_lt, ge_iff_le, Int.not_lt, Int.not_le] at hc401
        refine c_exit (x_thenX (x_blkY rfl (x_thenX (x_blkX (x_blk (x_then (hK16 _ _ ?_)))))))
        clear hK35 K35 hK16 K16
        refine c_reg ?_ -- region 40 check.go:198
        refine wl (ro_adT (m := j) (k := 1) rfl rfl (by omega)) ?_
        refine wl (ro_move rfl) ?_
        refine wl_nil (x_then ?_)
        obtain ⟨n1, n2⟩ := hC.next hf hg (o := o2) (fun k c' z' h1 h2 h3 ↦ Nat.le_trans (show f.base + g.slots.length ≤ z.pl by omega) (hC.mono hc hzc (k - o2) (by rw [show o2 + (k - o2) = k by omega]; exact h2) h3))
        exact ⟨y.frs.length - (j + 1), by omega, j + 1, o2, rfl, by omega, ho2, n1, fun q ↦ (n2 q o2 c (Nat.le_refl _) hc).elim, (by first | exact hF | exact hF.thenDrew | exact hF.thenDrew.thenDrew | exact hF.thenDrew.thenDrew.thenDrew), kp _ ⟨rfl, rfl, rfl, rfl, rfl, rfl, rfl, rfl, trivial⟩⟩
      · try simp only [decide_eq_true_eq, decide_eq_false_iff_not, Bool.not_eq_true', Bool.not_eq_false', Bool.not_eq_eq_eq_not, Bool.not_true, Bool.not_false, beq_iff_eq, bne_iff_ne, ne_eq, beq_eq_false_iff_ne, bne_eq_false_iff_eq, gt_iff_lt, ge_iff_le, Int.not_lt, Int.not_le] at hc401
        refine c_skip (x_then (hK35 _ _ ?_))
        clear hK35 K35
        refine c_seq (fun K37 hK37 => ?_)
        refine c_seq (fun K38 hK38 => ?_)
        rcases Nat.eq_zero_or_pos o2 with hz0 | hz0
        · skip
          refine c_pi [(0, false), (1, false), (2, false), (3, false), (4, false), (5, false), (6, false), (7, false), (8, false), (9, false), (10, false), (11, false), (12, false), (13, false), (14, false), (15, false), (16, false), (17, false), (18, false), (19, false), (20, false), (21, false), (22, false), (23, false), (24, false), (25, false), (26, false), (27, false)] (SameH _) mixed (by kernel_rfl) rfl (by kernel_rfl) (po_then (po_then (po_blk (po_then (po_blk (po_blk (po_then (po_then (po_blk (po_then (po_bp))))))))))) (sameH_now _ _) ?_ -- region 37 check.go:228
          refine pi_ro rfl (fun w hS => ro_move rfl) ?_
          refine pi_ro rfl (fun w hS => ro_cmp (r := false) rfl rfl (congrArg some (decide_eq_false (by omega)))) ?_
          refine pi_ro rfl (fun w hS => ro_move rfl) ?_
          refine pi_gno rfl rfl ?_
          refine pi_gno rfl rfl ?_
          refine pi_gno rfl rfl ?_
          refine pi_gno rfl rfl ?_
          refine pi_gno rfl rfl ?_
          refine pi_gno rfl rfl ?_
          refine pi_gno rfl rfl ?_
          refine pi_gno rfl rfl ?_
          refine pi_gno rfl rfl ?_
          refine pi_gno rfl rfl ?_
          refine pi_gno rfl rfl ?_
          refine pi_gno rfl rfl ?_
          refine pi_gno rfl rfl ?_
          refine pi_gno rfl rfl ?_
          refine pi_gno rfl rfl ?_
          refine pi_gno rfl rfl ?_
          refine pi_gno rfl rfl ?_
          refine pi_gno rfl rfl ?_
          refine pi_gno rfl rfl ?_
          refine pi_gno rfl rfl ?_
          refine pi_gno rfl rfl ?_
          refine pi_gno rfl rfl ?_
          refine pi_gno rfl rfl ?_
          refine pi_gno rfl rfl ?_
          refine pi_ro rfl (fun w hS => ro_pick rfl rfl rfl) ?_
          refine pi_nil (x_then (hK38 _ _ ?_))
          clear hK38 K38
          refine wc_condF rfl ?_
          refine c_skip (x_then (hK37 _ _ ?_))
          clear hK37 K37
          refine c_reg ?_ -- region 39 check.go:231
          refine wl (ro_move rfl) ?_
          refine wl (ro_adT (m := o2) (k := 1) rfl rfl (by omega)) ?_
          refine wl (ro_assign rfl) ?_
          refine wl_nil (x_blk (x_then ?_))
          exact ⟨y.opn.length - (o2 + 1), by omega, o2 + 1, rfl, by omega, fun k c z h1 h2 h3 => hoB k c z (by omega) h2 h3, hF.thenDrew, kp _ ⟨rfl, rfl, rfl, rfl, rfl, rfl, rfl, rfl, rfl, rfl, trivial⟩⟩
        · skip
          obtain ⟨c1, hc1⟩ : ∃ c, y.opn.reverse[o2 - 1]? = some c := ⟨_, List.getElem?_eq_getElem (by rw [List.length_reverse]; omega)⟩
          obtain ⟨z1, hzc1, -⟩ := hC.op (o2 - 1) c1 hc1
          have hlt1 := hC.od (o2 - 1) c1 c z1 z hc1 (by rw [show o2 - 1 + 1 = o2 by omega]; exact hc) hzc1 hzc
          have hcl1 := (List.getElem?_eq_some_iff.1 hzc1).1
          have q9' := k5o (o2 - 1) (i64c c1) (by rw [List.getElem?_map, hc1]; rfl)
          have qb' : el[0 + c1 * 5 + 1]? = some (i64c z1.pl) := row_cell3 (k5e c1 z1 hzc1) rfl
          refine c_pi [(0, false), (1, false), (2, false), (3, false), (4, false), (5, false), (6, false), (7, false), (8, false), (9, false), (10, false), (11, false), (12, false), (13, false), (14, false), (15, false), (16, false), (17, false), (18, false), (19, false), (20, false), (21, false), (22, false), (23, false), (24, false), (25, false), (26, false), (27, false)] (SameH _) mixed (by kernel_rfl) rfl (by kernel_rfl) (po_then (po_then (po_blk (po_then (po_blk (po_blk (po_then (po_then (po_blk (po_then (po_bp))))))))))) (sameH_now _ _) ?_ -- region 37 check.go:228
          refine pi_ro rfl (fun w hS => ro_move rfl) ?_
          refine pi_ro rfl (fun w hS => ro_cmp (r := true) rfl rfl (congrArg some (decide_eq_true (by omega)))) ?_
          refine pi_ro rfl (fun w hS => ro_move rfl) ?_
          refine pi_gyes rfl rfl (fun w hS => ro_move rfl) ?_
          refine pi_gyes rfl rfl (fun w hS => ro_nilCheck rfl) ?_
          refine pi_gyes rfl rfl (fun w hS => ro_fieldAddr (k := 8) rfl fo_89_8) ?_
          refine pi_gyes rfl rfl (fun w hS => ro_loadB rfl sc_87 (Blk.of_heap (hF.blkN hM0) hS) (rfl)) ?_
          refine pi_gyes rfl rfl (fun w hS => ro_move rfl) ?_
          refine pi_gyes rfl rfl (fun w hS => ro_nilCheck rfl) ?_
          refine pi_gyes rfl rfl (fun w hS => ro_fieldAddr (k := 4) rfl fo_269_4) ?_
          refine pi_gyes rfl rfl (fun w hS => ro_loadB rfl sc_86 (Blk.of_heap (hF.blkN hT0) hS) (r4)) ?_
          refine pi_gyes rfl rfl (fun w hS => ro_move rfl) ?_
          refine pi_gyes rfl rfl (fun w hS => ro_arith (r := ((o2 - 1 : Nat) : Int)) rfl rfl (congrArg some (by omega)) (Go.IntWalk.i64_in _ (by omega))) ?_
          refine pi_gyes rfl rfl (fun w hS => ro_indexAddr (et := 3) (k := 1) rfl rfl se_86 (rfl) ((by omega))) ?_
          refine pi_gyes rfl rfl (fun w hS => ro_loadB rfl sc_3 (Blk.of_heap (hF.blkN hOg) hS) (q9')) ?_
          refine pi_gyes rfl rfl (fun w hS => ro_indexAddr (et := 413) (k := 5) rfl rfl se_87 (rfl) (hcl1)) ?_
          refine pi_gyes rfl rfl (fun w hS => ro_fieldAddr (k := 1) rfl fo_413_1) ?_
          refine pi_gyes rfl rfl (fun w hS => ro_loadB rfl sc_3 (Blk.of_heap (hF.blkN hEg) hS) (qb')) ?_
          refine pi_gyes rfl rfl (fun w hS => ro_move rfl) ?_
          refine pi_gyes rfl rfl (fun w hS => ro_nilCheck rfl) ?_
          refine pi_gyes rfl rfl (fun w hS => ro_fieldAddr (k := 8) rfl fo_89_8) ?_
          refine pi_gyes rfl rfl (fun w hS => ro_loadB rfl sc_87 (Blk.of_heap (hF.blkN hM0) hS) (rfl)) ?_
          refine pi_gyes rfl rfl (fun w hS => ro_move rfl) ?_
          refine pi_gyes rfl rfl (fun w hS => ro_indexAddr (et := 413) (k := 5) rfl rfl se_87 (rfl) (hcl8)) ?_
          refine pi_gyes rfl rfl (fun w hS => ro_fieldAddr (k := 1) rfl fo_413_1) ?_
          refine pi_gyes rfl rfl (fun w hS => ro_loadB rfl sc_3 (Blk.of_heap (hF.blkN hEg) hS) (qb)) ?_
          refine pi_gyes rfl rfl (fun w hS => ro_cmp (r := false) rfl rfl (congrArg some (decide_eq_false (by omega)))) ?_
          refine pi_ro rfl (fun w hS => ro_pick rfl rfl rfl) ?_
          refine pi_nil (x_then (hK38 _ _ ?_))
          clear hK38 K38
          refine wc_condF rfl ?_
          refine c_skip (x_then (hK37 _ _ ?_))
          clear hK37 K37
          refine c_reg ?_ -- region 39 check.go:231
          refine wl (ro_move rfl) ?_
          refine wl (ro_adT (m := o2) (k := 1) rfl rfl (by omega)) ?_
          refine wl (ro_assign rfl) ?_
          refine wl_nil (x_blk (x_then ?_))
          exact ⟨y.opn.length - (o2 + 1), by omega, o2 + 1, rfl, by omega, fun k c z h1 h2 h3 => hoB k c z (by omega) h2 h3, hF.thenDrew, kp _ ⟨rfl, rfl, rfl, rfl, rfl, rfl, rfl, rfl, rfl, rfl, trivial⟩⟩
    · try simp only [decide_eq_true_eq, decide_eq_false_iff_not, Bool.not_eq_true', Bool.not_eq_false', Bool.not_eq_eq_eq_not, Bool.not_true, Bool.not_false, beq_iff_eq, bne_iff_ne, ne_eq, beq_eq_false_iff_ne, bne_eq_false_iff_eq, gt_iff_lt, ge_iff_le, Int.not_lt, Int.not_le] at hc346
      refine c_exit (x_thenX (x_thenX (x_blkX (x_blk (x_then (hK16 _ _ ?_))))))
      clear hK30 K30 hK16 K16
      refine c_reg ?_ -- region 40 check.go:198
      refine wl (ro_adT (m := j) (k := 1) rfl rfl (by omega)) ?_
      refine wl (ro_move rfl) ?_
      refine wl_nil (x_then ?_)
      exact ⟨y.frs.length - (j + 1), by omega, j + 1, o2, rfl, by omega, ho2, fun k c z f' h1 h2 _ _ ↦ by (have := (List.getElem?_eq_some_iff.1 h2).1; rw [List.length_reverse] at this; omega), fun _ ↦ by omega, (by first | exact hF | exact hF.thenDrew | exact hF.thenDrew.thenDrew | exact hF.thenDrew.thenDrew.thenDrew), kp _ ⟨rfl, rfl, rfl, rfl, rfl, rfl, rfl, rfl, trivial⟩⟩
  · try simp only [decide_eq_true_eq, decide_eq_false_iff_not, Bool.not_eq_true', Bool.not_eq_false', Bool.not_eq_eq_eq_not, Bool.not_true, Bool.not_false, beq_iff_eq, bne_iff_ne, ne_eq, beq_eq_false_iff_ne, bne_eq_false_iff_eq, gt_iff_lt, ge_iff_le, Int.not_lt, Int.not_le] at hc145
    refine c_exit (x_thenX (x_thenX (x_blkX (x_then (hK12 _ _ ?_)))))
    clear hK15 K15 hK12 K12
    refine forget [(9, _), (10, _)] ⟨rfl, rfl, trivial⟩ (fun e => ?_)
    refine c_seq (fun K39 hK39 => ?_)
    refine c_reg ?_ -- region 41 check.go:234
    refine wl (ro_move rfl) ?_
    refine wl (ro_move rfl) ?_
    refine wl (ro_nilCheck rfl) ?_
    refine wl (ro_fieldAddr (k := 4) rfl fo_269_4) ?_
    refine wl (ro_loadB rfl sc_86 ((hF.blkN hT0)) (r4)) ?_
    refine wl (ro_lenL rfl se_86) ?_
    refine wl (ro_cmp rfl rfl rfl) ?_
    refine wl (ro_assign rfl) ?_
    refine wl_nil (x_then (hK39 _ _ ?_))
    clear hK39 K39
    refine c_ret ?_
    refine bp_ret Tryz.results250 rfl ?_
    refine ⟨congrArg Value.bool (decide_eq_true ?_), hF⟩
    have := hoE (by omega)
    omega
end
end Go.Proofs.Qxb6500568aGreatDoor
