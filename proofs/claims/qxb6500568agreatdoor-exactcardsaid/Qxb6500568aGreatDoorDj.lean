import Derived.Test.Qxb6500568aGreatDoorDi
/- The real tables: Set. -/
namespace Go.Proofs.Qxb6500568aGreatDoor
open Ieee
set_option linter.unusedVariables false
set_option linter.unusedSimpArgs false

theorem abs_set {L : List TM} {cnt h : Nat} {m : TM} (hh : h < cnt) : absT (L.set h m) cnt = (absT L cnt).set h m.R.ord := by
  unfold absT
  rw [List.take_set, List.map_set]
theorem RTab.same {w w' : World} {ow : Nat → Nat} {nb xb h : Nat} {T : List Tb} {t t' : Tb} (hM : RTab w ow nb xb T) (hh : T[h]? = some t) (f : Fram none' w w') (e : t' = t) : ∃ ow', Xt w ow ow' ∧ RTab w' ow' nb xb (T.set h t') ∧ Fram (tg ow rtag) w w' := by
  refine ⟨ow, Xt.refl _ _, ?_, f.wide⟩
  subst e
  rw [show T.set h t' = T from ?_]
  · exact hM.farN f
  · apply List.ext_getElem?
    intro j
    rw [List.getElem?_set]
    by_cases e : h = j
    · subst e; simp [(List.getElem?_eq_some_iff.1 hh).1, hh]
      exact ((List.getElem?_eq_some_iff.1 hh).2).symm
    · simp [e]
theorem deadI_pos {R : RT} (h : TI R) {i : Nat} {x : PV × PV} (hx : R.ord[i]? = some x) : R.dead < 1000 ∧ (x.2.T = 0 → 0 < R.dead) := by
  rw [h.deadI]
  have := List.length_filter_le (fun q : PV × PV => decide (q.2.T = 0)) R.ord
  have := h.ok.len
  refine ⟨by omega, fun h0 => ?_⟩
  rw [List.length_pos_iff]
  intro he
  have := List.filter_eq_nil_iff.1 he x (List.mem_of_getElem? hx)
  simp [h0] at this
def ordT (m : TM) (V : Value) (x : PV × PV) : TM := { m with vo := V, R := { m.R with ord := m.R.ord ++ [x] } }
def arrT (m : TM) (U V : Value) (k v : PV) : TM := { m with vo := U, va := V, R := arrV m.R k v }
set_option maxHeartbeats 16000000 in
theorem Set87 {w : World} {ow : Nat → Nat} {nb xb h : Nat} {T : List Tb} {t : Tb} {k v : PV} (hM : RTab w ow nb xb T) (hh : T[h]? = some t) (hk : wfV k = true) (hN : W64 k.N) (hv : wfV v = true) (hvN : W64 v.N) (hok : TOK (tSet t k v).2) :
    Ret Tryz.prog 87 [ptr xb, i64c h, pv k, pv v] w (fun r w' => r = i64c (tSet t k v).1 ∧ ∃ ow', Xt w ow ow' ∧ RTab w' ow' nb xb (setR T h t k v) ∧ Fram (tg ow rtag) w w') := by
  have hF : Fram none' w w := Fram.refl _ _
  have hMM := hM
  obtain ⟨L, cnt, hL, rfl⟩ := hM
  obtain ⟨hhc, m, hm, rfl⟩ := absT_get hh
  have hI := hL.ti h m hm
  obtain ⟨ab, cap, l, hX, hA, hl, q1, q2, q3, q4, q5, q6⟩ := hL.row hm
  have hTv := hL.tv h m hm
  have hcl := hL.cl
  have hl12 := hL.l12
  have hXl := hX.lt
  have hAl := hA.lt
  have hX0 := hX
  have hA0 := hA
  have hnxa : xb ≠ ab := ow_ne hL.xt q1 (by omega)
  obtain ⟨a1, c1, h1⟩ := hTv.o.form
  obtain ⟨a2, c2, h2⟩ := hTv.a.form
  have hol := row_len hl rfl (by omega)
  have hal := hI.alen
  have hol2 := hI.ok.len
  have hab : ∀ b, 100 + 8 * h ≤ ow b → ow b < 100 + 8 * h + 5 → b < w.heap.size → b ≠ ab := fun b h1 h2 _ e => by subst e; omega
  have htf : ∀ {u : World}, Fram (tbF ab ow (100 + 8 * h)) w u → Fram (tg ow rtag) w u := fun f => f.mono (fun b _ q => by
    rcases q with q | q
    · subst q; exact .inr (.inl q1)
    · exact .inr (.inr (by omega)))
  refine ret_of Tryz.func87 rfl Tryz.ntmps87 rfl ?_
  refine c_seq (fun K1 hK1 => ?_)
  refine c_reg ?_ -- region 0 table.go:91
  refine wl_box rfl rfl (fun b6 w1 hbb6 h6 F1 => ?_)
  have hbsb6 := Nat.le_trans hF.size hbb6
  have hnexbb6 : xb < b6 := Nat.lt_of_lt_of_le hX.lt hbb6
  have hneabb6 : ab < b6 := Nat.lt_of_lt_of_le hA.lt hbb6
  replace hF := hF.thenDrew.thenN F1
  replace hX := F1.blkN hX
  replace hA := F1.blkN hA
  refine wl_box rfl rfl (fun b7 w2 hbb7 h7 F2 => ?_)
  have hbsb7 := Nat.le_trans hF.size hbb7
  have hnexbb7 : xb < b7 := Nat.lt_of_lt_of_le hX.lt hbb7
  have hneabb7 : ab < b7 := Nat.lt_of_lt_of_le hA.lt hbb7
  have hneb6b7 : b6 < b7 := Nat.lt_of_lt_of_le h6.lt hbb7
  replace hF := hF.thenDrew.thenN F2
  replace hX := F2.blkN hX
  replace hA := F2.blkN hA
  replace h6 := F2.blkN h6
  refine wl (ro_assign rfl) ?_
  refine wl_nil (x_then (hK1 _ _ ?_))
  clear hK1 K1
  refine c_seq (fun K2 hK2 => ?_)
  refine c_seq (fun K3 hK3 => ?_)
  refine c_reg ?_ -- region 1 table.go:92
  refine wl (ro_move rfl) ?_
  refine wl (ro_cmp (r := false) rfl rfl (congrArg some (decide_eq_false (by omega)))) ?_
  refine wl (ro_move rfl) ?_
  refine wlg_yes rfl (ro_move rfl) ?_
  refine wlg_yes rfl (ro_move rfl) ?_
  refine wlg_yes rfl (ro_nilCheck rfl) ?_
  refine wlg_yes rfl (ro_fieldAddr (k := 2) rfl fo_75_2) ?_
  refine wlg_yes rfl (ro_loadB rfl sc_3 (by assumption) rfl) ?_
  refine wlg_yes rfl (ro_cmp (r := false) rfl rfl (congrArg some (decide_eq_false (by omega)))) ?_
  refine wl (ro_pick rfl rfl rfl) ?_
  refine wl_nil (x_then (hK3 _ _ ?_))
  clear hK3 K3
  refine wc_condF rfl ?_
  refine c_skip (x_then (hK2 _ _ ?_))
  clear hK2 K2
  refine forget [(0, _), (1, _), (6, _), (7, _)] ⟨rfl, rfl, rfl, rfl, trivial⟩ (fun e => ?_)
  refine c_seq (fun K4 hK4 => ?_)
  refine c_reg ?_ -- region 3 table.go:95
  refine wl (ro_loadAggB rfl ag_119 (by assumption) rfl rfl) ?_
  refine wl_call rfl en_51 (WF51 hk hN) ?_
  rintro _ w3 ⟨rfl, F3⟩
  replace hF := hF.thenDrew.thenN F3
  replace hX := F3.blkN hX
  replace hA := F3.blkN hA
  replace h6 := F3.blkN h6
  replace h7 := F3.blkN h7
  refine wl (ro_assign rfl) ?_
  refine wl_nil (x_then (hK4 _ _ ?_))
  clear hK4 K4
  refine forget [(0, _), (1, _), (6, _), (7, _), (9, _)] ⟨rfl, rfl, rfl, rfl, rfl, trivial⟩ (fun e => ?_)
  refine c_seq (fun K5 hK5 => ?_)
  refine c_reg ?_ -- region 4 table.go:96
  refine wl (ro_loadAggB rfl ag_119 (by assumption) rfl rfl) ?_
  refine wl_call rfl en_51 (WF51 hv hvN) ?_
  rintro _ w4 ⟨rfl, F4⟩
  replace hF := hF.thenDrew.thenN F4
  replace hX := F4.blkN hX
  replace hA := F4.blkN hA
  replace h6 := F4.blkN h6
  replace h7 := F4.blkN h7
  refine wl (ro_assign rfl) ?_
  refine wl_nil (x_then (hK5 _ _ ?_))
  clear hK5 K5
  refine c_seq (fun K6 hK6 => ?_)
  refine c_seq (fun K7 hK7 => ?_)
  refine c_reg ?_ -- region 5 table.go:97
  refine wl (ro_move rfl) ?_
  refine wl (ro_not rfl) ?_
  refine wl (ro_move rfl) ?_
  refine wlg_yes rfl (ro_move rfl) ?_
  refine wlg_yes rfl (ro_not rfl) ?_
  refine wl (ro_pick rfl rfl rfl) ?_
  refine wl_nil (x_then (hK7 _ _ ?_))
  clear hK7 K7
  refine wc_condF rfl ?_
  refine c_skip (x_then (hK6 _ _ ?_))
  clear hK6 K6
  refine c_seq (fun K8 hK8 => ?_)
  refine c_seq (fun K9 hK9 => ?_)
  refine c_reg ?_ -- region 7 table.go:100
  refine wl (ro_fieldAddr (k := 0) rfl fo_119_0) ?_
  refine wl (ro_loadB rfl sc_3 (by assumption) rfl) ?_
  refine wl (ro_cmp rfl rfl rfl) ?_
  refine wl_nil (x_then (hK9 _ _ ?_))
  clear hK9 K9
  refine wc_cond rfl (fun hc37 => ?_) (fun hc37 => ?_)
  · try simp only [decide_eq_true_eq, decide_eq_false_iff_not, Bool.not_eq_true', Bool.not_eq_false', Bool.not_eq_eq_eq_not, Bool.not_true, Bool.not_false, beq_iff_eq, bne_iff_ne, ne_eq, beq_eq_false_iff_ne, bne_eq_false_iff_eq, gt_iff_lt, ge_iff_le, Int.not_lt, Int.not_le] at hc37
    refine c_seq (fun K10 hK10 => ?_)
    refine c_reg ?_ -- region 8 table.go:101
    refine wl (ro_assign rfl) ?_
    refine wl_nil (x_then (hK10 _ _ ?_))
    clear hK10 K10
    refine c_ret (x_thenR ?_)
    refine bp_ret Tryz.results87 rfl ?_
    exact ⟨by unfold tSet; rw [if_pos (by omega)]; rfl, hMM.same hh hF (by unfold tSet; rw [if_pos (by omega)])⟩
  · try simp only [decide_eq_true_eq, decide_eq_false_iff_not, Bool.not_eq_true', Bool.not_eq_false', Bool.not_eq_eq_eq_not, Bool.not_true, Bool.not_false, beq_iff_eq, bne_iff_ne, ne_eq, beq_eq_false_iff_ne, bne_eq_false_iff_eq, gt_iff_lt, ge_iff_le, Int.not_lt, Int.not_le] at hc37
    refine c_skip (x_then (hK8 _ _ ?_))
    clear hK8 K8
    refine c_mid (fun a' w' => (decide (k.T = 2) && isNaNW k.N) = false ∧ Blk w'.heap b6 (pvc k) 119 ∧ Blk w'.heap b7 (pvc v) 119 ∧ Fram none' w w' ∧ ∃ e, a' = Fr 126 (upds e [(0, ptr xb), (1, i64c h), (6, ptr b6), (7, ptr b7)]) []) ?_ ?_
    · skip
      refine c_seq (fun K11 hK11 => ?_)
      by_cases hk2 : k.T = 2
      · skip
        refine c_pi [(0, false), (1, false), (2, false), (3, false), (4, false), (5, false), (6, false), (7, false), (8, false), (9, false), (10, false), (11, false), (12, true), (13, false)] (SameH _) mixed (by kernel_rfl) rfl (by kernel_rfl) (po_then (po_then (po_bp))) (sameH_now _ _) ?_ -- region 9 table.go:103
        refine pi_ro rfl (fun w hS => ro_fieldAddr (k := 0) rfl fo_119_0) ?_
        refine pi_ro rfl (fun w hS => ro_loadB rfl sc_3 (Blk.of_heap (by assumption) hS) rfl) ?_
        refine pi_ro rfl (fun w hS => ro_cmp (r := true) rfl rfl (congrArg some (by simp [hk2]))) ?_
        refine pi_ro rfl (fun w hS => ro_move rfl) ?_
        refine pi_gyes rfl rfl (fun w hS => ro_move rfl) ?_
        refine pi_gyes rfl rfl (fun w hS => ro_nilCheck rfl) ?_
        refine pi_gyes rfl rfl (fun w hS => ro_fieldAddr (k := 0) rfl fo_75_0) ?_
        refine pi_gyes rfl rfl (fun w hS => ro_loadB rfl sc_36 (Blk.of_heap (by assumption) hS) rfl) ?_
        refine pi_gyes rfl rfl (fun w hS => ro_fieldAddr (k := 1) rfl fo_119_1) ?_
        refine pi_gyes rfl rfl (fun w hS => ro_loadB rfl sc_117 (Blk.of_heap (by assumption) hS) rfl) ?_
        refine pi_gyes rfl rfl (fun w hS => ro_fieldAddr (k := 1) rfl fo_119_1) ?_
        refine pi_gyes rfl rfl (fun w hS => ro_loadB rfl sc_117 (Blk.of_heap (by assumption) hS) rfl) ?_
        refine pi_gcall rfl rfl rfl en_142 (Cmp142 hN hN) ?_
        rintro _ _ ⟨rfl, rfl⟩
        refine ⟨rfl, ?_⟩
        refine pi_ro rfl (fun w hS => ro_pick rfl rfl rfl) ?_
        refine pi_nil (x_then (hK11 _ _ ?_))
        clear hK11 K11
        refine wc_cond rfl (fun hc51 => ?_) (fun hc51 => ?_)
        · try simp only [decide_eq_true_eq, decide_eq_false_iff_not, Bool.not_eq_true', Bool.not_eq_false', Bool.not_eq_eq_eq_not, Bool.not_true, Bool.not_false, beq_iff_eq, bne_iff_ne, ne_eq, beq_eq_false_iff_ne, bne_eq_false_iff_eq, gt_iff_lt, ge_iff_le, Int.not_lt, Int.not_le] at hc51
          refine c_seq (fun K12 hK12 => ?_)
          refine c_reg ?_ -- region 10 table.go:104
          refine wl (ro_assign rfl) ?_
          refine wl_nil (x_then (hK12 _ _ ?_))
          clear hK12 K12
          refine c_ret (x_thenR ?_)
          refine bp_ret Tryz.results87 rfl ?_
          exact ⟨by unfold tSet; rw [if_neg (by omega), if_pos ⟨hk2, by rw [← fCmp_ne]; exact hc51⟩]; rfl, hMM.same hh hF.thenDrew (by unfold tSet; rw [if_neg (by omega), if_pos ⟨hk2, by rw [← fCmp_ne]; exact hc51⟩])⟩
        · try simp only [decide_eq_true_eq, decide_eq_false_iff_not, Bool.not_eq_true', Bool.not_eq_false', Bool.not_eq_eq_eq_not, Bool.not_true, Bool.not_false, beq_iff_eq, bne_iff_ne, ne_eq, beq_eq_false_iff_ne, bne_eq_false_iff_eq, gt_iff_lt, ge_iff_le, Int.not_lt, Int.not_le] at hc51
          refine c_skip (x_then ?_)
          exact ⟨by rw [show decide (k.T = 2) = true from decide_eq_true hk2, Bool.true_and, ← fCmp_ne]; exact hc51, h6, h7, hF.thenDrew, kp _ ⟨rfl, rfl, rfl, rfl, trivial⟩⟩
      · skip
        refine c_pi [(0, false), (1, false), (2, false), (3, false), (4, false), (5, false), (6, false), (7, false), (8, false), (9, false), (10, false), (11, false), (12, true), (13, false)] (SameH _) mixed (by kernel_rfl) rfl (by kernel_rfl) (po_then (po_then (po_bp))) (sameH_now _ _) ?_ -- region 9 table.go:103
        refine pi_ro rfl (fun w hS => ro_fieldAddr (k := 0) rfl fo_119_0) ?_
        refine pi_ro rfl (fun w hS => ro_loadB rfl sc_3 (Blk.of_heap (by assumption) hS) rfl) ?_
        refine pi_ro rfl (fun w hS => ro_cmp (r := false) rfl rfl (congrArg some (by simp; omega))) ?_
        refine pi_ro rfl (fun w hS => ro_move rfl) ?_
        refine pi_gno rfl rfl ?_
        refine pi_gno rfl rfl ?_
        refine pi_gno rfl rfl ?_
        refine pi_gno rfl rfl ?_
        refine pi_gno rfl rfl ?_
        refine pi_gno rfl rfl ?_
        refine pi_gno rfl rfl ?_
        refine pi_gno rfl rfl ?_
        refine pi_gnoE rfl rfl (sameH_now _ _) ?_
        refine pi_ro rfl (fun w hS => ro_pick rfl rfl rfl) ?_
        refine pi_nil (x_then (hK11 _ _ ?_))
        clear hK11 K11
        refine wc_condF rfl ?_
        refine c_skip (x_then ?_)
        exact ⟨by rw [show decide (k.T = 2) = false from decide_eq_false hk2, Bool.false_and], h6, h7, hF.thenDrew, kp _ ⟨rfl, rfl, rfl, rfl, trivial⟩⟩
    clear h6 h7 hX hA hF
    rintro a' u0 ⟨hnn, h6, h7, hF, e, rfl⟩
    have hX := hF.blkN hX0
    have hA := hF.blkN hA0
    refine c_seq (fun K13 hK13 => ?_)
    refine c_reg ?_ -- region 11 table.go:106
    refine wl (ro_move rfl) ?_
    refine wl (ro_nilCheck rfl) ?_
    refine wl (ro_fieldAddr (k := 1) rfl fo_75_1) ?_
    refine wl (ro_loadB rfl sc_73 (by assumption) rfl) ?_
    refine wl (ro_move rfl) ?_
    refine wl (ro_indexAddr (et := 251) (k := 6) rfl rfl se_73 rfl (by omega)) ?_
    refine wl (ro_assign rfl) ?_
    refine wl_nil (x_then (hK13 _ _ ?_))
    clear hK13 K13
    refine forget [(0, _), (6, _), (7, _), (11, _)] ⟨rfl, rfl, rfl, rfl, trivial⟩ (fun e => ?_)
    refine c_seq (fun K14 hK14 => ?_)
    refine c_reg ?_ -- region 12 table.go:107
    refine wl (ro_move rfl) ?_
    refine wl (ro_loadAggB rfl ag_119 (by assumption) rfl rfl) ?_
    refine wl_call rfl en_143 (one143 hX hN) ?_
    rintro _ w5 ⟨rfl, F5⟩
    replace hF := hF.thenDrew.thenN F5
    replace hX := F5.blkN hX
    replace hA := F5.blkN hA
    replace h6 := F5.blkN h6
    replace h7 := F5.blkN h7
    refine wl (ro_move rfl) ?_
    refine wl (ro_extract rfl rfl) ?_
    refine wl (ro_extract rfl rfl) ?_
    refine wl_puta rfl rfl ((pvc_one _)) sz_119 (rfl) h6 ((by simp)) (rfl) (fun w6 h6 F6 => ?_)
    replace hF := hF.thenDrew.thenO F6 (by first | exact .inr (by omega) | exact .inl rfl | exact .inl (by assumption) | assumption)
    replace hX := F6.blkO hX (by omega)
    replace hA := F6.blkO hA (by omega)
    replace h7 := F6.blkO h7 (by omega)
    refine wl (ro_assign rfl) ?_
    refine wl_nil (x_then (hK14 _ _ ?_))
    clear hK14 K14
    refine c_seq (fun K15 hK15 => ?_)
    refine c_seq (fun K16 hK16 => ?_)
    refine c_reg ?_ -- region 13 table.go:108
    refine wl (ro_move rfl) ?_
    refine wl (ro_loadAggB rfl ag_119 (by assumption) rfl rfl) ?_
    refine wl (ro_move rfl) ?_
    refine wl_call rfl en_144 (find144' hA hl (hTv.farN hF) hI hk hN) ?_
    rintro _ w7 ⟨rfl, F7⟩
    replace hF := hF.thenDrew.thenN F7
    replace hX := F7.blkN hX
    replace hA := F7.blkN hA
    replace h6 := F7.blkN h6
    replace h7 := F7.blkN h7
    refine wl (ro_assign rfl) ?_
    refine wl_nil (x_then (hK16 _ _ ?_))
    clear hK16 K16
    refine forget [(0, _), (6, _), (7, _), (11, _), (12, _), (13, _)] ⟨rfl, rfl, rfl, rfl, rfl, rfl, trivial⟩ (fun e => ?_)
    refine c_seq (fun K17 hK17 => ?_)
    refine c_reg ?_ -- region 14 table.go:108
    refine wl (ro_move rfl) ?_
    refine wl (ro_cmp rfl rfl rfl) ?_
    refine wl_nil (x_then (hK17 _ _ ?_))
    clear hK17 K17
    refine wc_cond rfl (fun hc69 => ?_) (fun hc69 => ?_)
    · try simp only [decide_eq_true_eq, decide_eq_false_iff_not, Bool.not_eq_true', Bool.not_eq_false', Bool.not_eq_eq_eq_not, Bool.not_true, Bool.not_false, beq_iff_eq, bne_iff_ne, ne_eq, beq_eq_false_iff_ne, bne_eq_false_iff_eq, gt_iff_lt, ge_iff_le, Int.not_lt, Int.not_le] at hc69
      obtain ⟨i, p, hp0, hp1, hp2⟩ := plc_pos hc69
      have hts : tSet m.R.ord k v = (0, m.R.ord.modify i fun x => (x.1, v)) := by rw [tSet_T (by omega) hnn, hp0]
      rw [hp1]
      refine c_seq (fun K18 hK18 => ?_)
      refine c_reg ?_ -- region 15 table.go:109
      refine wl (ro_move rfl) ?_
      refine wl (ro_move rfl) ?_
      refine wl (ro_loadAggB rfl ag_119 (by assumption) rfl rfl) ?_
      refine wl_call rfl en_145 (turn145 (p := i) (x := (nrmK k, p)) hA hl (hTv.farN hF) hp2 (hI.ok.key i _ _ hp2).2.1 hv (deadI_pos hI hp2) (fun b h1 h2 _ e ↦ by subst e; omega)) ?_
      rintro _ u1 ⟨hA1, hT1, G1⟩
      have hX1 := hX.fram G1 (fun q => by rcases q with q | q; exact absurd (show ow xb = 51 by rw [q]; exact q1) (by rw [hL.xt]; omega); rw [hL.xt] at q; omega)
      have hFt := hF.wide.trans G1
      refine wl_nil (x_then (hK18 _ _ ?_))
      clear hK18 K18
      refine forget [] trivial (fun e => ?_)
      refine c_seq (fun K19 hK19 => ?_)
      refine c_reg ?_ -- region 16 table.go:110
      refine wl (ro_assign rfl) ?_
      refine wl_nil (x_then (hK19 _ _ ?_))
      clear hK19 K19
      refine c_ret (x_thenR ?_)
      refine bp_ret Tryz.results87 rfl ?_
      rw [hts] at hok ⊢
      refine ⟨rfl, ow, Xt.refl _ _, ⟨L.set h (turnT m i v (decide (p.T = 0))), cnt, hL.turned hm hX1 hA1 q3 q4 q5 q6 q1 hT1 (hI.turn hp2 hok) (fun q => by omega) hFt (fun b q _ => ?_) (Xt.refl _ _) hXl, ?_⟩, htf hFt⟩
      · rcases q with q | q
        · rw [q]; exact .inl q1
        · exact .inr q
      · unfold setR; rw [abs_set hhc, hts]; rfl
    · try simp only [decide_eq_true_eq, decide_eq_false_iff_not, Bool.not_eq_true', Bool.not_eq_false', Bool.not_eq_eq_eq_not, Bool.not_true, Bool.not_false, beq_iff_eq, bne_iff_ne, ne_eq, beq_eq_false_iff_ne, bne_eq_false_iff_eq, gt_iff_lt, ge_iff_le, Int.not_lt, Int.not_le] at hc69
      have hp := plc_neg hc69
      have hts : tSet m.R.ord k v = if v.T = 0 then (0, m.R.ord) else if 32 ≤ m.R.ord.length then (8, m.R.ord) else (0, m.R.ord ++ [(nrmK k, v)]) := by rw [tSet_T (by omega) hnn, hp]
      refine c_skip (x_then (hK15 _ _ ?_))
      clear hK15 K15
      refine c_seq (fun K20 hK20 => ?_)
      refine c_seq (fun K21 hK21 => ?_)
      refine c_reg ?_ -- region 17 table.go:112
      refine wl (ro_loadAggB rfl ag_119 (by assumption) rfl rfl) ?_
      refine wl_call rfl en_146 (isNil146 (v := v)) ?_
      rintro _ w8 ⟨rfl, F8⟩
      rw [eqV_nil hv]
      replace hF := hF.thenDrew.thenN F8
      replace hX := F8.blkN hX
      replace hA := F8.blkN hA
      replace h6 := F8.blkN h6
      replace h7 := F8.blkN h7
      refine wl_nil (x_then (hK21 _ _ ?_))
      clear hK21 K21
      refine wc_cond rfl (fun hc75 => ?_) (fun hc75 => ?_)
      · try simp only [decide_eq_true_eq, decide_eq_false_iff_not, Bool.not_eq_true', Bool.not_eq_false', Bool.not_eq_eq_eq_not, Bool.not_true, Bool.not_false, beq_iff_eq, bne_iff_ne, ne_eq, beq_eq_false_iff_ne, bne_eq_false_iff_eq, gt_iff_lt, ge_iff_le, Int.not_lt, Int.not_le] at hc75
        refine c_seq (fun K22 hK22 => ?_)
        refine c_reg ?_ -- region 18 table.go:113
        refine wl (ro_assign rfl) ?_
        refine wl_nil (x_then (hK22 _ _ ?_))
        clear hK22 K22
        refine c_ret (x_thenR ?_)
        refine bp_ret Tryz.results87 rfl ?_
        exact ⟨by rw [hts, if_pos (by omega)]; rfl, hMM.same hh hF (by rw [hts, if_pos (by omega)])⟩
      · try simp only [decide_eq_true_eq, decide_eq_false_iff_not, Bool.not_eq_true', Bool.not_eq_false', Bool.not_eq_eq_eq_not, Bool.not_true, Bool.not_false, beq_iff_eq, bne_iff_ne, ne_eq, beq_eq_false_iff_ne, bne_eq_false_iff_eq, gt_iff_lt, ge_iff_le, Int.not_lt, Int.not_le] at hc75
        refine c_skip (x_then (hK20 _ _ ?_))
        clear hK20 K20
        refine c_seq (fun K23 hK23 => ?_)
        refine c_seq (fun K24 hK24 => ?_)
        refine c_reg ?_ -- region 19 table.go:115
        refine wl (ro_move rfl) ?_
        refine wl (ro_nilCheck rfl) ?_
        refine wl (ro_fieldAddr (k := 0) rfl fo_251_0) ?_
        refine wl (ro_loadB rfl sc_246 (hA) ((row_cell3 (j := 0) hl (by show some m.vo = _; rw [h1])))) ?_
        refine wl (ro_lenL rfl se_246) ?_
        refine wl (ro_cmp rfl rfl rfl) ?_
        refine wl_nil (x_then (hK24 _ _ ?_))
        clear hK24 K24
        refine wc_cond rfl (fun hc81 => ?_) (fun hc81 => ?_)
        · try simp only [decide_eq_true_eq, decide_eq_false_iff_not, Bool.not_eq_true', Bool.not_eq_false', Bool.not_eq_eq_eq_not, Bool.not_true, Bool.not_false, beq_iff_eq, bne_iff_ne, ne_eq, beq_eq_false_iff_ne, bne_eq_false_iff_eq, gt_iff_lt, ge_iff_le, Int.not_lt, Int.not_le] at hc81
          refine c_seq (fun K25 hK25 => ?_)
          refine c_reg ?_ -- region 20 table.go:116
          refine wl (ro_assign rfl) ?_
          refine wl_nil (x_then (hK25 _ _ ?_))
          clear hK25 K25
          refine c_ret (x_thenR ?_)
          refine bp_ret Tryz.results87 rfl ?_
          exact ⟨by rw [hts, if_neg (by omega), if_pos (by omega)]; rfl, hMM.same hh hF (by rw [hts, if_neg (by omega), if_pos (by omega)])⟩
        · try simp only [decide_eq_true_eq, decide_eq_false_iff_not, Bool.not_eq_true', Bool.not_eq_false', Bool.not_eq_eq_eq_not, Bool.not_true, Bool.not_false, beq_iff_eq, bne_iff_ne, ne_eq, beq_eq_false_iff_ne, bne_eq_false_iff_eq, gt_iff_lt, ge_iff_le, Int.not_lt, Int.not_le] at hc81
          refine c_skip (x_then (hK23 _ _ ?_))
          clear hK23 K23
          refine forget [(0, _), (6, _), (7, _), (11, _), (12, _)] ⟨rfl, rfl, rfl, rfl, rfl, trivial⟩ (fun e => ?_)
          refine c_seq (fun K26 hK26 => ?_)
          rw [if_neg (by omega), if_neg (by omega)] at hts
          have hzw := hF.size
          have hob : ∀ b, own1 m.vo b → ow b = 100 + 8 * h ∧ b < w.heap.size := fun b hb => ⟨hTv.o.t b hb, hTv.o.o.lt hb⟩
          refine c_piL 12 [(0, false), (1, false), (2, false), (3, false), (4, false), (5, false), (6, false), (7, false), (8, true), (9, true), (10, false), (11, false)] (fun u => Blk u.heap ab l 251 ∧ Blk u.heap b6 (pvc (nrmK k)) 119 ∧ Blk u.heap b7 (pvc v) 119) mixed (by kernel_rfl) rfl (by kernel_rfl) (po_then (po_bp)) (⟨hA, h6, h7⟩) ?_ -- region 21 table.go:118
          refine ql_ro rfl (fun w hS => ro_move rfl) ?_
          refine ql_ro rfl (fun w hS => ro_move rfl) ?_
          refine ql_ro rfl (fun w hS => ro_nilCheck rfl) ?_
          refine ql_ro rfl (fun w hS => ro_fieldAddr (k := 0) rfl fo_251_0) ?_
          refine ql_ro rfl (fun w hS => ro_loadB rfl sc_246 (hS.1) ((row_cell3 (j := 0) hl rfl))) ?_
          refine ql_ro rfl (fun w hS => ro_loadAggB rfl ag_119 (hS.2.1) (rfl) (rfl)) ?_
          refine ql_ro rfl (fun w hS => ro_loadAggB rfl ag_119 (hS.2.2) (rfl) (rfl)) ?_
          refine ql_ro rfl (fun w hS => ro_build rfl bld_263_0_1) ?_
          refine ql_bsapp (t := 246) (et := 263) (k := 6) (m := m.R.ord.length) (cs := enc (nrmK k, v)) rfl rfl rfl rfl rfl rfl se_246 zx_263 by_263 rfl rfl rfl (enc_one _) (hTv.o.o.fram hF.thenDrew (fun _ _ h => h)) (by omega) (by omega) (fun w1 F ↦ ⟨F.blkN hA, F.blkN h6, F.blkN h7⟩) (fun w1 F ↦ ⟨F.blkF hA (fun q ↦ by have := hob _ q; omega), F.blkF h6 (fun q ↦ by have := hob _ q; omega), F.blkF h7 (fun q ↦ by have := hob _ q; omega)⟩) ?_
          intro v' u1 hon G1 hnb
          obtain ⟨a3, c3, rfl⟩ := hon.form
          have hoe : ∀ b, own1 m.vo b → b ≠ ab ∧ b ≠ xb := fun b hb => ⟨fun e => by subst e; have := (hob b hb).1; omega, fun e => by subst e; have := (hob b hb).1; rw [hL.xt] at this; omega⟩
          replace hX := G1.blkF hX (fun q => (hoe _ q).2 rfl)
          replace hA := G1.blkF hA (fun q => (hoe _ q).1 rfl)
          replace h6 := G1.blkF h6 (fun q => by have := hob _ q; omega)
          replace h7 := G1.blkF h7 (fun q => by have := hob _ q; omega)
          have hFt : Fram (tbF ab ow (100 + 8 * h)) w u1 := hF.wide.thenDrew.trans' G1 (fun b _ q => .inr (by have := hob _ q; omega))
          have hGo : Fram (own1 m.vo) w u1 := hF.wide.transD G1
          have hmab : tbF ab ow (100 + 8 * h) ab := .inl rfl
          have hz1 : w.heap.size ≤ u1.heap.size := hFt.size
          have hTu := (hTv.farN hF).far (Fram.drew none' w8 (w8.drawn + 1)) (fun _ _ _ _ h => h) (Xt.refl _ ow)
          have hzu : w.heap.size ≤ w8.heap.size := hF.size
          have ho1 : OwT u1 (nw ow w8.heap.size (100 + 8 * h)) (100 + 8 * h) (.slice a3 (m.R.ord.length + 1) c3) 263 6 (m.R.ord.length + 1) (rws enc m.R.ord ++ enc (nrmK k, v)) := hTu.o.grow hon hnb G1.size
          have hE1 : Xt w ow (nw ow w8.heap.size (100 + 8 * h)) := Xt.nw hzu
          have hGo2 : Fram (fun b => b = ab ∨ own1 m.vo b) w u1 := hGo.mono (fun b _ q => .inr q)
          have hab2 : ab = ab ∨ own1 m.vo ab := .inl rfl
          skip
          refine ql_ro rfl (fun w hS => ro_nilCheck rfl) ?_
          refine ql_ro rfl (fun w hS => ro_fieldAddr (k := 0) rfl fo_251_0) ?_
          refine ql_put rfl rfl rfl rfl sz_246 hA ((by omega)) ((row_set (j := 0) hl rfl (by omega))) (fun w9 hA F9 => ?_)
          replace hX := F9.blkO hX (by omega)
          replace h6 := F9.blkO h6 (by omega)
          replace h7 := F9.blkO h7 (by omega)
          replace hFt := hFt.thenDrew.thenO F9 (by first | exact .inr (by omega) | exact .inl rfl | exact .inl (by assumption) | assumption)
          replace hGo2 := hGo2.thenDrew.thenO F9 (by first | exact .inr (by omega) | exact .inl rfl | exact .inl (by assumption) | assumption)
          replace hA : Blk (w9).heap ab (rowS l (0 + h * 6) (tmc (ordT m (.slice a3 (m.R.ord.length + 1) c3) (nrmK k, v)))) 251 := hA
          have hl1 : ((rowS l (0 + h * 6) (tmc (ordT m (.slice a3 (m.R.ord.length + 1) c3) (nrmK k, v)))).drop (0 + h * 6)).take 6 = tmc (ordT m (.slice a3 (m.R.ord.length + 1) c3) (nrmK k, v)) := row_back (by omega) rfl
          have hnm : ∀ b, 100 + 8 * h < ow b → ow b < 100 + 8 * h + 5 → ¬ (b = ab ∨ own1 m.vo b) := fun b r1 r2 q => by
            rcases q with q | q
            · subst q; omega
            · have := (hob b q).1; omega
          have hT1 : TV (w9) (nw ow w8.heap.size (100 + 8 * h)) (100 + 8 * h) (ordT m (.slice a3 (m.R.ord.length + 1) c3) (nrmK k, v)) := by
            refine ⟨?_, hTv.a.far hGo2 (fun b hb _ => hnm b (by omega) (by omega)) hE1, hTv.n.fram hGo2 (hnm _ (by rw [hTv.nt]; omega) (by rw [hTv.nt]; omega)), hTv.s.fram hGo2 (hnm _ (by rw [hTv.st]; omega) (by rw [hTv.st]; omega)), hTv.r.fram hGo2 (hnm _ (by rw [hTv.rt]; omega) (by rw [hTv.rt]; omega)), (hE1 _ hTv.n.lt).trans hTv.nt, (hE1 _ hTv.s.lt).trans hTv.st, (hE1 _ hTv.r.lt).trans hTv.rt⟩
            show OwT _ _ _ _ 263 6 (m.R.ord ++ [(nrmK k, v)]).length (rws enc (m.R.ord ++ [(nrmK k, v)]))
            rw [List.length_append, rws_app, rws_one]
            exact ho1.far F9 (fun b hb hl q => by rw [show b = ab from q, hE1 ab hAl, q1] at hb; omega) (Xt.refl _ _)
          refine x_then (hK26 _ _ ?_)
          clear hK26 K26
          refine forget [(0, _), (6, _), (11, _), (12, _)] ⟨rfl, rfl, rfl, rfl, trivial⟩ (fun e => ?_)
          refine c_seq (fun K27 hK27 => ?_)
          refine c_reg ?_ -- region 22 table.go:119
          refine wl (ro_move rfl) ?_
          refine wl (ro_nilCheck rfl) ?_
          refine wl (ro_fieldAddr (k := 0) rfl fo_251_0) ?_
          refine wl (ro_loadB rfl sc_246 (hA) ((row_cell3 (j := 0) hl1 rfl))) ?_
          refine wl (ro_lenL rfl se_246) ?_
          refine wl (ro_arith (r := (m.R.ord.length : Int)) rfl rfl (congrArg some (by omega)) (Go.IntWalk.i64_in _ (by omega))) ?_
          refine wl (ro_conv (a := (m.R.ord.length : Int)) rfl sc_3 in_21 (Go.IntWalk.i32_in _ (by omega))) ?_
          refine wl (ro_assign rfl) ?_
          refine wl_nil (x_then (hK27 _ _ ?_))
          clear hK27 K27
          refine c_seq (fun K28 hK28 => ?_)
          refine c_seq (fun K29 hK29 => ?_)
          refine c_reg ?_ -- region 23 table.go:120
          refine wl (ro_move rfl) ?_
          refine wl (ro_move rfl) ?_
          refine wl (ro_nilCheck rfl) ?_
          refine wl (ro_fieldAddr (k := 1) rfl fo_251_1) ?_
          refine wl (ro_loadB rfl sc_247 (hA) ((row_cell3 (j := 1) hl1 (by show some m.va = _; rw [h2])))) ?_
          refine wl (ro_lenL rfl se_247) ?_
          refine wl (ro_arith rfl rfl rfl (Go.IntWalk.i64_in _ (by omega))) ?_
          refine wl (ro_cmp rfl rfl rfl) ?_
          refine wl_nil (x_then (hK29 _ _ ?_))
          clear hK29 K29
          refine wc_cond rfl (fun hc108 => ?_) (fun hc108 => ?_)
          · try simp only [decide_eq_true_eq, decide_eq_false_iff_not, Bool.not_eq_true', Bool.not_eq_false', Bool.not_eq_eq_eq_not, Bool.not_true, Bool.not_false, beq_iff_eq, bne_iff_ne, ne_eq, beq_eq_false_iff_ne, bne_eq_false_iff_eq, gt_iff_lt, ge_iff_le, Int.not_lt, Int.not_le] at hc108
            have hiw : whoK k ≠ m.R.arr.length + 1 := hc108
            refine c_seq (fun K30 hK30 => ?_)
            refine c_reg ?_ -- region 24 table.go:121
            refine wl (ro_move rfl) ?_
            refine wl (ro_loadAggB rfl ag_119 (by assumption) rfl rfl) ?_
            refine wl (ro_move rfl) ?_
            refine wl_call rfl en_147 (index147 (p := m.R.ord.length) hA hl1 hT1 (K1_nrm hk hN)) ?_
            rintro _ u3 ⟨hT3, G3⟩
            have hX3 := hX.fram G3 (fun q => by have := hE1 xb hXl; rw [hL.xt] at this; omega)
            have hA3 := hA.fram G3 (fun q => q.2.2 rfl)
            have hFt3 := hFt.trans' G3 (fun b hb q => .inr (by have := hE1 b hb; omega))
            refine wl_nil (x_then (hK30 _ _ ?_))
            clear hK30 K30
            refine forget [] trivial (fun e => ?_)
            refine c_seq (fun K31 hK31 => ?_)
            refine c_reg ?_ -- region 25 table.go:122
            refine wl (ro_assign rfl) ?_
            refine wl_nil (x_then (hK31 _ _ ?_))
            clear hK31 K31
            refine c_ret (x_thenR ?_)
            refine bp_ret Tryz.results87 rfl ?_
            rw [hts] at hok ⊢
            refine ⟨rfl, nw ow w8.heap.size (100 + 8 * h), hE1, ⟨L.set h { ordT m (.slice a3 (m.R.ord.length + 1) c3) (nrmK k, v) with R := idxM (ordT m (.slice a3 (m.R.ord.length + 1) c3) (nrmK k, v)).R (nrmK k) m.R.ord.length }, cnt, hL.turned hm hX3 hA3 q3 q4 q5 q6 (by rw [hE1 ab hAl]; exact q1) hT3 (set_idx hI hk hN (by omega) (by omega) hp hok hiw) (fun q => by omega) hFt3 (fun b q _ => ?_) hE1 hXl, ?_⟩, htf hFt3⟩
            · rcases q with q | q
              · rw [q]; exact .inl q1
              · exact .inr q
            · unfold setR; rw [abs_set hhc, hts]; rfl
          · try simp only [decide_eq_true_eq, decide_eq_false_iff_not, Bool.not_eq_true', Bool.not_eq_false', Bool.not_eq_eq_eq_not, Bool.not_true, Bool.not_false, beq_iff_eq, bne_iff_ne, ne_eq, beq_eq_false_iff_ne, bne_eq_false_iff_eq, gt_iff_lt, ge_iff_le, Int.not_lt, Int.not_le] at hc108
            have hiw : whoK k = m.R.arr.length + 1 := hc108
            refine c_skip (x_then (hK28 _ _ ?_))
            clear hK28 K28
            refine forget [(0, _), (11, _), (14, _)] ⟨rfl, rfl, rfl, trivial⟩ (fun e => ?_)
            refine c_seq (fun K32 hK32 => ?_)
            refine c_reg ?_ -- region 26 table.go:124
            refine wl (ro_move rfl) ?_
            refine wl (ro_move rfl) ?_
            refine wl (ro_nilCheck rfl) ?_
            refine wl (ro_fieldAddr (k := 1) rfl fo_251_1) ?_
            refine wl (ro_loadB rfl sc_247 (hA) ((row_cell3 (j := 1) hl1 (by show some m.va = _; rfl)))) ?_
            refine wl (ro_move rfl) ?_
            refine wl_bsapp (t := 247) (et := 21) (k := 1) (m := m.R.arr.length) (cs := [i32c m.R.ord.length]) rfl rfl rfl rfl se_247 zx_21 by_21 rfl rfl rfl (by simp [Value.oneCell', i32c]) hT1.a.o (by omega) (by omega) ?_
            intro v4 u4 hon4 G4 hnb4
            obtain ⟨a5, c5, rfl⟩ := hon4.form
            have hob2 : ∀ b, own1 m.va b → ow b = 100 + 8 * h + 1 ∧ b < w.heap.size := fun b hb => ⟨hTv.a.t b hb, hTv.a.o.lt hb⟩
            have hoe2 : ∀ b, own1 m.va b → b ≠ ab ∧ b ≠ xb := fun b hb => ⟨fun e => by subst e; have := (hob2 b hb).1; omega, fun e => by subst e; have := (hob2 b hb).1; rw [hL.xt] at this; omega⟩
            replace hX := G4.blkF hX (fun q => (hoe2 _ q).2 rfl)
            replace hA := G4.blkF hA (fun q => (hoe2 _ q).1 rfl)
            replace hFt := hFt.trans' G4 (fun b _ q => .inr (by have := hob2 _ q; omega))
            have hz9 : w.heap.size ≤ w9.heap.size := by have := F9.size; omega
            have hz4 := G4.size
            have hG5 : Fram (fun b => b = ab ∨ own1 m.va b) w9 u4 := G4.mono (fun b _ q => .inr q)
            have hab5 : ab = ab ∨ own1 m.va ab := .inl rfl
            have hE2 : Xt w9 (nw ow w8.heap.size (100 + 8 * h)) (nw (nw ow w8.heap.size (100 + 8 * h)) w9.heap.size (100 + 8 * h + 1)) := Xt.nw (Nat.le_refl _)
            have ha4 := hT1.a.grow hon4 hnb4 hz4
            skip
            refine wl (ro_nilCheck rfl) ?_
            refine wl (ro_fieldAddr (k := 1) rfl fo_251_1) ?_
            refine wl_put rfl rfl rfl sz_247 hA ((by have := row_len hl1 rfl (by omega); omega)) ((row_set2 (l := l) (k := 6) (j := 1) (by omega) rfl (by omega))) (fun w10 hA F10 => ?_)
            replace hX := F10.blkO hX (by omega)
            replace hFt := hFt.thenDrew.thenO F10 (by first | exact .inr (by omega) | exact .inl rfl | exact .inl (by assumption) | assumption)
            replace hG5 := hG5.thenDrew.thenO F10 (by first | exact .inr (by omega) | exact .inl rfl | exact .inl (by assumption) | assumption)
            replace hA : Blk (w10).heap ab (rowS l (0 + h * 6) (tmc (arrT m (.slice a3 (m.R.ord.length + 1) c3) (.slice a5 (m.R.arr.length + 1) c5) (nrmK k) v))) 251 := hA
            have hl5 : ((rowS l (0 + h * 6) (tmc (arrT m (.slice a3 (m.R.ord.length + 1) c3) (.slice a5 (m.R.arr.length + 1) c5) (nrmK k) v))).drop (0 + h * 6)).take 6 = tmc (arrT m (.slice a3 (m.R.ord.length + 1) c3) (.slice a5 (m.R.arr.length + 1) c5) (nrmK k) v) := row_back (by omega) rfl
            have hnm5 : ∀ b, (nw ow w8.heap.size (100 + 8 * h)) b = 100 + 8 * h ∨ (100 + 8 * h + 1 < (nw ow w8.heap.size (100 + 8 * h)) b ∧ (nw ow w8.heap.size (100 + 8 * h)) b < 100 + 8 * h + 5) → ¬ (b = ab ∨ own1 m.va b) := fun b r1 q => by
              rcases q with q | q
              · subst q; rw [hE1 b hAl] at r1; omega
              · have := hob2 b q; rw [hE1 b this.2] at r1; omega
            have hT5 : TV (w10) (nw (nw ow w8.heap.size (100 + 8 * h)) w9.heap.size (100 + 8 * h + 1)) (100 + 8 * h) (arrT m (.slice a3 (m.R.ord.length + 1) c3) (.slice a5 (m.R.arr.length + 1) c5) (nrmK k) v) := by
              refine ⟨hT1.o.far hG5 (fun b hb _ => hnm5 b (.inl hb)) hE2, ?_, hT1.n.fram hG5 (hnm5 _ (.inr (by rw [hT1.nt]; omega))), hT1.s.fram hG5 (hnm5 _ (.inr (by rw [hT1.st]; omega))), hT1.r.fram hG5 (hnm5 _ (.inr (by rw [hT1.rt]; omega))), (hE2 _ hT1.n.lt).trans hT1.nt, (hE2 _ hT1.s.lt).trans hT1.st, (hE2 _ hT1.r.lt).trans hT1.rt⟩
              show OwT _ _ _ _ 21 1 (m.R.arr ++ [m.R.ord.length]).length ((m.R.arr ++ [m.R.ord.length]).map i32c)
              rw [List.length_append, List.map_append]
              exact ha4.far F10 (fun b hb hl q => by rw [show b = ab from q, hE2 ab (by omega), hE1 ab hAl, q1] at hb; omega) (Xt.refl _ _)
            have hsa := set_arr hI hk hN hiw
            have hale := hI.arr_le
            rw [hts] at hok
            have hJ5 : TJ (arrV m.R (nrmK k) v) := by rw [hsa] at hok ⊢; exact hI.arr (by omega) hok (by omega)
            have hE3 : Xt w ow (nw (nw ow w8.heap.size (100 + 8 * h)) w9.heap.size (100 + 8 * h + 1)) := hE1.trans hz9 hE2
            refine wl_nil (x_then (hK32 _ _ ?_))
            clear hK32 K32
            refine forget [(0, _), (11, _)] ⟨rfl, rfl, trivial⟩ (fun e => ?_)
            refine c_seq (fun K33 hK33 => ?_)
            refine c_reg ?_ -- region 27 table.go:125
            refine wl (ro_move rfl) ?_
            refine wl (ro_move rfl) ?_
            refine wl_call rfl en_148 (migrate148 hX hA hl5 hT5 hJ5 (fun b r1 r2 _ e ↦ by (subst e; rw [hE3 b hAl] at r1 r2; omega)) (fun r1 ↦ by (rw [hE3 xb hXl, hL.xt] at r1; omega))) ?_
            rintro _ u6 ⟨t6, ow6, ho6, hi6, hT6, hA6, hE6, G6⟩
            have hX6 := hX.fram G6 (fun q => by
              rcases q with q | q
              · exact hnxa q
              · rw [hE3 xb hXl, hL.xt] at q; omega)
            have hFt6 := hFt.trans' G6 (fun b hb q => by
              rcases q with q | q
              · exact .inl q
              · rw [hE3 b hb] at q; exact .inr q)
            have hE7 : Xt w ow ow6 := hE3.trans hFt.size hE6
            have hA7 : Blk u6.heap ab (rowS l (0 + h * 6) (tmc t6)) 251 := by
              have e : rowS (rowS l (0 + h * 6) (tmc (arrT m (.slice a3 (m.R.ord.length + 1) c3) (.slice a5 (m.R.arr.length + 1) c5) (nrmK k) v))) (0 + h * 6) (tmc t6) = rowS l (0 + h * 6) (tmc t6) := row_twice (by omega) rfl
              rw [e] at hA6; exact hA6
            refine wl_nil (x_then (hK33 _ _ ?_))
            clear hK33 K33
            refine forget [] trivial (fun e => ?_)
            refine c_seq (fun K34 hK34 => ?_)
            refine c_reg ?_ -- region 28 table.go:126
            refine wl (ro_assign rfl) ?_
            refine wl_nil (x_then (hK34 _ _ ?_))
            clear hK34 K34
            refine c_ret ?_
            refine bp_ret Tryz.results87 rfl ?_
            refine ⟨by rw [hts]; rfl, ow6, hE7, ⟨L.set h t6, cnt, hL.turned hm hX6 hA7 q3 q4 q5 q6 (by rw [hE7 ab hAl]; exact q1) hT6 hi6 (fun q => by omega) hFt6 (fun b q _ => ?_) hE7 hXl, ?_⟩, htf hFt6⟩
            · rcases q with q | q
              · rw [q]; exact .inl q1
              · exact .inr q
            · unfold setR; rw [abs_set hhc, hts, ho6]; rfl

end Go.Proofs.Qxb6500568aGreatDoor
