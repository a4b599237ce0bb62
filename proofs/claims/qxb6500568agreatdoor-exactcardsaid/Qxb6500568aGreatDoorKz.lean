import Derived.Test.Qxb6500568aGreatDoorKy
/- The machine: upvalues stored, variables closed. -/
namespace Go.Proofs.Qxb6500568aGreatDoor
open Ieee
set_option linter.unusedVariables false
set_option linter.unusedSimpArgs false
set_option linter.unusedSectionVars false

section
variable {C : VC} {w w' w1 u u1 u2 : World} {ow ow' ow1 : Nat → Nat} {s : AS} {a : AS} {y : ATh} {gs : List AFr} {g : AFr} {vars : List PV} {fg fc : Nat} {V : VS} {κ : List Nat} {Vv : Nat → Value} {U : Nat → Nat → Value} {x : VTh} {f : VFr} {fs : List VFr} {L : VL}
theorem vt_440 {t b : Nat} (ht : t < 5) (h : ow b = 440 + t) : vtT (ow b) := by rw [h]; left; unfold vmT; omega
theorem vt_408 {b : Nat} (h : ow b = 408) : vtT (ow b) := by rw [h]; left; unfold vmT; omega
set_option maxHeartbeats 8000000 in
theorem setUpA (hR : AM C fg fc w ow (mkA a y gs g vars)) (hc : a.cur < a.ths.length) {p : Nat} {ids : List Nat} (hk : a.clos[g.clo]? = some (p, ids)) {q : Nat} (hq : q < ids.length) {v : PV} :
    Ret Tryz.prog 269 [ptr C.E.mb, fpt fg gs.length, i64c q, pv v] w (AR C fg fc w ow (.tuple #[]) (mkA a y gs g (vars.set (ids.getD q 0) v))) := by
  obtain ⟨V, κ, Vv, U, x, f, fs, o⟩ := hR.open hc
  obtain ⟨l1, hB1, k1, q1, q2, -⟩ := o.frow
  obtain ⟨L, op, vl⟩ := o.v.ex
  obtain ⟨cl, ux, c6, c7, cR, cb⟩ := vl.c
  obtain ⟨cs, k, z, u1, u2, u3, u4, u5, u6⟩ := o.z.up (c := g.clo) (p := p) (u := q) (ids := ids) hk hq
  obtain ⟨up, d1, d2⟩ := cR.lt u1
  have d3 := d2.get u3
  have hcb := o.v.cb
  have hux : ux.length ≤ 7200 := by omega
  have hM := op.m
  unfold mbc at hM
  obtain ⟨cg, ccap, cL, e6, hB2, -, -, -, t6, r6⟩ := (op.clk c6).at vcc_len d1
  obtain ⟨ug, ucap, uL, e7, hB3, -, -, -, t7, r7⟩ := (op.uxk c7).atN d3
  obtain ⟨eg, ecap, eL, e8, hB4, t8, r8, le8, W8⟩ := o.v.cell u4
  rw [e6, e7, e8] at hM
  have r6 := r6 _ _ d1
  have r7 := r7 _ _ d3
  have hlc := (List.getElem?_eq_some_iff.1 d1).1
  have hlu := (List.getElem?_eq_some_iff.1 d3).1
  have hle := (List.getElem?_eq_some_iff.1 u4).1
  have hclo := o.t.clo
  have hX : Xt w ow ow := Xt.refl _ _
  have hF : Fram (tg ow vtT) w w := Fram.refl _ _
  have hlt5 := o.lt
  have hdf := o.v.df
  rw [← hclo] at hlc r6
  rcases u6 with ⟨t, xt, v1, v2, v3, v4⟩ | ⟨v1, v2⟩
  · have ht := o.v.lt v2
    have hT := op.t
    obtain ⟨sg, sc, sl, es, hB5, ts, rs, ls, WS⟩ := o.v.stkA v2 v4
    have hlp := (List.getElem?_eq_some_iff.1 v4).1
    have hnt : t < L.nt := by rw [vl.n]; exact (List.getElem?_eq_some_iff.1 v2).1
    have hrow : (rws (thc L U) (List.range 5))[t * 5 + 2]? = some (.slice (some ⟨sg, 0, none⟩) xt.stack.length sc) := by
      have := vrs_at (f := thc L U) (o := 2) (thc_len L U) ht (by decide)
      rw [← es]
      exact this
    unfold cec at r8
    rw [v1] at r8
    have hFs : Fram (one sg) w w := Fram.refl _ _
    have hvs : tg ow vtT sg := vt_440 ht ts
    refine ret_of Tryz.func269 rfl Tryz.ntmps269 rfl ?_
    refine c_seq (fun K1 hK1 => ?_)
    refine c_reg ?_ -- region 0 cells.go:47
    refine wl_box (cs := (pvc v)) rfl rfl (fun b7 w1 hbb7 h7 F1 => ?_)
    have hneC.E.mbb7 : C.E.mb < b7 := Nat.lt_of_lt_of_le hM.lt hbb7
    have hnefgb7 : fg < b7 := Nat.lt_of_lt_of_le hB1.lt hbb7
    have hnecgb7 : cg < b7 := Nat.lt_of_lt_of_le hB2.lt hbb7
    have hneugb7 : ug < b7 := Nat.lt_of_lt_of_le hB3.lt hbb7
    have hneegb7 : eg < b7 := Nat.lt_of_lt_of_le hB4.lt hbb7
    have hnesgb7 : sg < b7 := Nat.lt_of_lt_of_le hB5.lt hbb7
    have hneC.E.tbb7 : C.E.tb < b7 := Nat.lt_of_lt_of_le hT.lt hbb7
    have hbsb7 := Nat.le_trans hF.size hbb7
    have hbsb7 := Nat.le_trans hFs.size hbb7
    replace hM := F1.blkN hM
    replace hB1 := F1.blkN hB1
    replace hB2 := F1.blkN hB2
    replace hB3 := F1.blkN hB3
    replace hB4 := F1.blkN hB4
    replace hB5 := F1.blkN hB5
    replace hT := F1.blkN hT
    replace hF := hF.thenDrew.thenN F1
    replace hFs := hFs.thenDrew.thenN F1
    refine wl_nil (x_then (hK1 _ _ ?_))
    clear hK1 K1
    refine forget [(0, _), (1, _), (2, _), (7, _)] ⟨rfl, rfl, rfl, rfl, trivial⟩ (fun e => ?_)
    refine c_seq (fun K2 hK2 => ?_)
    refine c_pi [(0, false), (1, false), (2, false), (3, false), (4, false), (5, false), (6, false), (7, false), (8, false), (9, false), (10, false), (11, false), (12, false), (13, false), (14, false), (15, false), (16, false), (17, false), (18, false), (19, false), (20, false), (21, false), (22, false), (23, false), (24, false)] (SameH _) mixed (by kernel_rfl) rfl (by kernel_rfl) (po_then (po_bp)) (sameH_now _ _) ?_ -- region 1 cells.go:48
    refine pi_ro rfl (fun w hS => ro_move rfl) ?_
    refine pi_ro rfl (fun w hS => ro_nilCheck rfl) ?_
    refine pi_ro rfl (fun w hS => ro_fieldAddr (k := 8) rfl fo_89_8) ?_
    refine pi_ro rfl (fun w hS => ro_loadB rfl sc_87 (Blk.of_heap hM hS) rfl) ?_
    refine pi_ro rfl (fun w hS => ro_move rfl) ?_
    refine pi_ro rfl (fun w hS => ro_nilCheck rfl) ?_
    refine pi_ro rfl (fun w hS => ro_fieldAddr (k := 7) rfl fo_89_7) ?_
    refine pi_ro rfl (fun w hS => ro_loadB rfl sc_86 (Blk.of_heap hM hS) rfl) ?_
    refine pi_ro rfl (fun w hS => ro_move rfl) ?_
    refine pi_ro rfl (fun w hS => ro_nilCheck rfl) ?_
    refine pi_ro rfl (fun w hS => ro_fieldAddr (k := 6) rfl fo_89_6) ?_
    refine pi_ro rfl (fun w hS => ro_loadB rfl sc_85 (Blk.of_heap hM hS) rfl) ?_
    refine pi_ro rfl (fun w hS => ro_move rfl) ?_
    refine pi_ro rfl (fun w hS => ro_nilCheck rfl) ?_
    refine pi_ro rfl (fun w hS => ro_fieldAddr (k := 0) rfl fo_331_0) ?_
    refine pi_ro rfl (fun w hS => ro_loadB rfl sc_3 (Blk.of_heap hB1 hS) (frow_at q1 (by decide))) ?_
    refine pi_ro rfl (fun w hS => ro_indexAddr (et := 209) (k := 3) rfl rfl se_85 (rfl) (hlc)) ?_
    refine pi_ro rfl (fun w hS => ro_fieldAddr (k := 1) rfl fo_209_1) ?_
    refine pi_ro rfl (fun w hS => ro_loadB rfl sc_3 (Blk.of_heap hB2 hS) (row_get r6 (by decide))) ?_
    refine pi_ro rfl (fun w hS => ro_move rfl) ?_
    refine pi_ro rfl (fun w hS => ro_arith (a := (up : Int)) (b := (q : Int)) rfl rfl rfl (Go.IntWalk.i64_in _ (by omega))) ?_
    refine pi_ro rfl (fun w hS => ro_indexAddr (et := 3) (k := 1) rfl rfl se_86 ((show ((up : Int) + q) = ((up + q : Nat) : Int) by omega)) (hlu)) ?_
    refine pi_ro rfl (fun w hS => ro_loadB rfl sc_3 (Blk.of_heap hB3 hS) (r7)) ?_
    refine pi_ro rfl (fun w hS => ro_indexAddr (et := 413) (k := 5) rfl rfl se_87 (rfl) (hle)) ?_
    refine pi_ro rfl (fun w hS => ro_assign rfl) ?_
    refine pi_nil (x_then (hK2 _ _ ?_))
    clear hK2 K2
    refine forget [(0, _), (7, _), (8, _)] ⟨rfl, rfl, rfl, trivial⟩ (fun e => ?_)
    refine c_seq (fun K3 hK3 => ?_)
    refine c_reg ?_ -- region 2 cells.go:49
    refine wl (ro_move rfl) ?_
    refine wl (ro_nilCheck rfl) ?_
    refine wl (ro_fieldAddr (k := 0) rfl fo_413_0) ?_
    refine wl (ro_loadB rfl sc_3 (hB4) (row_get r8 (by decide))) ?_
    refine wl (ro_cmp rfl rfl rfl) ?_
    refine wl_nil (x_then (hK3 _ _ ?_))
    clear hK3 K3
    refine wc_cond rfl (fun hc37 => ?_) (fun hc37 => ?_)
    · try simp only [decide_eq_true_eq, decide_eq_false_iff_not, Bool.not_eq_true', Bool.not_eq_false', Bool.not_eq_eq_eq_not, Bool.not_true, Bool.not_false, beq_iff_eq, bne_iff_ne, ne_eq, beq_eq_false_iff_ne, bne_eq_false_iff_eq, gt_iff_lt, ge_iff_le, Int.not_lt, Int.not_le] at hc37
      refine c_piL 17 [(0, false), (1, false), (2, false), (3, false), (4, false), (5, false), (6, false), (7, false), (8, false), (9, false), (10, false), (11, false), (12, false), (13, false), (14, false), (15, false), (16, false)] (SameH _) mixed (by kernel_rfl) rfl (by kernel_rfl) (po_bp) (sameH_now _ _) ?_ -- region 3 cells.go:50
      refine ql_ro rfl (fun w hS => ro_move rfl) ?_
      refine ql_ro rfl (fun w hS => ro_nilCheck rfl) ?_
      refine ql_ro rfl (fun w hS => ro_fieldAddr (k := 9) rfl fo_89_9) ?_
      refine ql_ro rfl (fun w hS => ro_loadB rfl sc_80 (Blk.of_heap hM hS) rfl) ?_
      refine ql_ro rfl (fun w hS => ro_move rfl) ?_
      refine ql_ro rfl (fun w hS => ro_nilCheck rfl) ?_
      refine ql_ro rfl (fun w hS => ro_fieldAddr (k := 0) rfl fo_413_0) ?_
      refine ql_ro rfl (fun w hS => ro_loadB rfl sc_3 (Blk.of_heap hB4 hS) (row_get r8 (by decide))) ?_
      refine ql_ro rfl (fun w hS => ro_indexAddr (et := 269) (k := 5) rfl rfl se_80 (rfl) (hnt)) ?_
      refine ql_ro rfl (fun w hS => ro_fieldAddr (k := 2) rfl fo_269_2) ?_
      refine ql_ro rfl (fun w hS => ro_loadB rfl sc_83 (Blk.of_heap hT hS) ((by rw [Nat.zero_add]; exact hrow))) ?_
      refine ql_ro rfl (fun w hS => ro_move rfl) ?_
      refine ql_ro rfl (fun w hS => ro_nilCheck rfl) ?_
      refine ql_ro rfl (fun w hS => ro_fieldAddr (k := 1) rfl fo_413_1) ?_
      refine ql_ro rfl (fun w hS => ro_loadB rfl sc_3 (Blk.of_heap hB4 hS) (row_get r8 (by decide))) ?_
      refine ql_ro rfl (fun w hS => ro_loadAggB rfl ag_119 (Blk.of_heap h7 hS) rfl rfl) ?_
      refine ql_ro rfl (fun w hS => ro_indexAddr (et := 119) (k := 3) rfl rfl se_83 (rfl) (hlp)) ?_
      refine ql_puta rfl rfl rfl ((pvc_one _)) sz_119 (rfl) hB5 ((by omega)) (rfl) (fun w2 hB5 F2 => ?_)
      replace hF := hF.thenDrew.thenO F2 (by first | exact .inr (by omega) | exact .inl rfl | exact .inl (by assumption) | assumption)
      replace hFs := hFs.thenDrew.thenO F2 (by first | exact .inr (by omega) | exact .inl rfl | exact .inl (by assumption) | assumption)
      refine ?_
      refine bp_end Tryz.results269 rfl ?_
      have hv2 := WS _ v hFs hB5
      exact ⟨rfl, ow, hX, hF, _, κ, Vv, U, hv2, o.z.setU v2 v3 v, by rw [mk_th hc]; exact o.hf⟩
    · try simp only [decide_eq_true_eq, decide_eq_false_iff_not, Bool.not_eq_true', Bool.not_eq_false', Bool.not_eq_eq_eq_not, Bool.not_true, Bool.not_false, beq_iff_eq, bne_iff_ne, ne_eq, beq_eq_false_iff_ne, bne_eq_false_iff_eq, gt_iff_lt, ge_iff_le, Int.not_lt, Int.not_le] at hc37
      exfalso; omega
  · have r8' := r8
    unfold cec at r8
    rw [v1] at r8
    have hFs : Fram (one eg) w w := Fram.refl _ _
    have hvs : tg ow vtT eg := vt_408 t8
    refine ret_of Tryz.func269 rfl Tryz.ntmps269 rfl ?_
    refine c_seq (fun K1 hK1 => ?_)
    refine c_reg ?_ -- region 0 cells.go:47
    refine wl_box (cs := (pvc v)) rfl rfl (fun b7 w1 hbb7 h7 F1 => ?_)
    have hneC.E.mbb7 : C.E.mb < b7 := Nat.lt_of_lt_of_le hM.lt hbb7
    have hnefgb7 : fg < b7 := Nat.lt_of_lt_of_le hB1.lt hbb7
    have hnecgb7 : cg < b7 := Nat.lt_of_lt_of_le hB2.lt hbb7
    have hneugb7 : ug < b7 := Nat.lt_of_lt_of_le hB3.lt hbb7
    have hneegb7 : eg < b7 := Nat.lt_of_lt_of_le hB4.lt hbb7
    have hbsb7 := Nat.le_trans hF.size hbb7
    have hbsb7 := Nat.le_trans hFs.size hbb7
    replace hM := F1.blkN hM
    replace hB1 := F1.blkN hB1
    replace hB2 := F1.blkN hB2
    replace hB3 := F1.blkN hB3
    replace hB4 := F1.blkN hB4
    replace hF := hF.thenDrew.thenN F1
    replace hFs := hFs.thenDrew.thenN F1
    refine wl_nil (x_then (hK1 _ _ ?_))
    clear hK1 K1
    refine forget [(0, _), (1, _), (2, _), (7, _)] ⟨rfl, rfl, rfl, rfl, trivial⟩ (fun e => ?_)
    refine c_seq (fun K2 hK2 => ?_)
    refine c_pi [(0, false), (1, false), (2, false), (3, false), (4, false), (5, false), (6, false), (7, false), (8, false), (9, false), (10, false), (11, false), (12, false), (13, false), (14, false), (15, false), (16, false), (17, false), (18, false), (19, false), (20, false), (21, false), (22, false), (23, false), (24, false)] (SameH _) mixed (by kernel_rfl) rfl (by kernel_rfl) (po_then (po_bp)) (sameH_now _ _) ?_ -- region 1 cells.go:48
    refine pi_ro rfl (fun w hS => ro_move rfl) ?_
    refine pi_ro rfl (fun w hS => ro_nilCheck rfl) ?_
    refine pi_ro rfl (fun w hS => ro_fieldAddr (k := 8) rfl fo_89_8) ?_
    refine pi_ro rfl (fun w hS => ro_loadB rfl sc_87 (Blk.of_heap hM hS) rfl) ?_
    refine pi_ro rfl (fun w hS => ro_move rfl) ?_
    refine pi_ro rfl (fun w hS => ro_nilCheck rfl) ?_
    refine pi_ro rfl (fun w hS => ro_fieldAddr (k := 7) rfl fo_89_7) ?_
    refine pi_ro rfl (fun w hS => ro_loadB rfl sc_86 (Blk.of_heap hM hS) rfl) ?_
    refine pi_ro rfl (fun w hS => ro_move rfl) ?_
    refine pi_ro rfl (fun w hS => ro_nilCheck rfl) ?_
    refine pi_ro rfl (fun w hS => ro_fieldAddr (k := 6) rfl fo_89_6) ?_
    refine pi_ro rfl (fun w hS => ro_loadB rfl sc_85 (Blk.of_heap hM hS) rfl) ?_
    refine pi_ro rfl (fun w hS => ro_move rfl) ?_
    refine pi_ro rfl (fun w hS => ro_nilCheck rfl) ?_
    refine pi_ro rfl (fun w hS => ro_fieldAddr (k := 0) rfl fo_331_0) ?_
    refine pi_ro rfl (fun w hS => ro_loadB rfl sc_3 (Blk.of_heap hB1 hS) (frow_at q1 (by decide))) ?_
    refine pi_ro rfl (fun w hS => ro_indexAddr (et := 209) (k := 3) rfl rfl se_85 (rfl) (hlc)) ?_
    refine pi_ro rfl (fun w hS => ro_fieldAddr (k := 1) rfl fo_209_1) ?_
    refine pi_ro rfl (fun w hS => ro_loadB rfl sc_3 (Blk.of_heap hB2 hS) (row_get r6 (by decide))) ?_
    refine pi_ro rfl (fun w hS => ro_move rfl) ?_
    refine pi_ro rfl (fun w hS => ro_arith (a := (up : Int)) (b := (q : Int)) rfl rfl rfl (Go.IntWalk.i64_in _ (by omega))) ?_
    refine pi_ro rfl (fun w hS => ro_indexAddr (et := 3) (k := 1) rfl rfl se_86 ((show ((up : Int) + q) = ((up + q : Nat) : Int) by omega)) (hlu)) ?_
    refine pi_ro rfl (fun w hS => ro_loadB rfl sc_3 (Blk.of_heap hB3 hS) (r7)) ?_
    refine pi_ro rfl (fun w hS => ro_indexAddr (et := 413) (k := 5) rfl rfl se_87 (rfl) (hle)) ?_
    refine pi_ro rfl (fun w hS => ro_assign rfl) ?_
    refine pi_nil (x_then (hK2 _ _ ?_))
    clear hK2 K2
    refine forget [(0, _), (7, _), (8, _)] ⟨rfl, rfl, rfl, trivial⟩ (fun e => ?_)
    refine c_seq (fun K3 hK3 => ?_)
    refine c_reg ?_ -- region 2 cells.go:49
    refine wl (ro_move rfl) ?_
    refine wl (ro_nilCheck rfl) ?_
    refine wl (ro_fieldAddr (k := 0) rfl fo_413_0) ?_
    refine wl (ro_loadB rfl sc_3 (hB4) (row_get r8 (by decide))) ?_
    refine wl (ro_cmp rfl rfl rfl) ?_
    refine wl_nil (x_then (hK3 _ _ ?_))
    clear hK3 K3
    refine wc_cond rfl (fun hc37 => ?_) (fun hc37 => ?_)
    · try simp only [decide_eq_true_eq, decide_eq_false_iff_not, Bool.not_eq_true', Bool.not_eq_false', Bool.not_eq_eq_eq_not, Bool.not_true, Bool.not_false, beq_iff_eq, bne_iff_ne, ne_eq, beq_eq_false_iff_ne, bne_eq_false_iff_eq, gt_iff_lt, ge_iff_le, Int.not_lt, Int.not_le] at hc37
      exfalso; omega
    · try simp only [decide_eq_true_eq, decide_eq_false_iff_not, Bool.not_eq_true', Bool.not_eq_false', Bool.not_eq_eq_eq_not, Bool.not_true, Bool.not_false, beq_iff_eq, bne_iff_ne, ne_eq, beq_eq_false_iff_ne, bne_eq_false_iff_eq, gt_iff_lt, ge_iff_le, Int.not_lt, Int.not_le] at hc37
      refine c_reg ?_ -- region 4 cells.go:52
      refine wl (ro_move rfl) ?_
      refine wl (ro_loadAggB rfl ag_119 (h7) rfl rfl) ?_
      refine wl (ro_nilCheck rfl) ?_
      refine wl (ro_fieldAddr (k := 2) rfl fo_413_2) ?_
      refine wl_puta rfl rfl ((pvc_one _)) sz_119 (rfl) hB4 ((by omega)) (rfl) (fun w2 hB4 F2 => ?_)
      replace hF := hF.thenDrew.thenO F2 (by first | exact .inr (by omega) | exact .inl rfl | exact .inl (by assumption) | assumption)
      replace hFs := hFs.thenDrew.thenO F2 (by first | exact .inr (by omega) | exact .inl rfl | exact .inl (by assumption) | assumption)
      refine wl_nil ?_
      refine bp_end Tryz.results269 rfl ?_
      have hv2 := W8 _ { z with v := v } (pvc v) 2 3 rfl (by decide) rfl hFs hB4
      exact ⟨rfl, ow, hX, hF, _, κ, Vv, U, hv2, o.z.setC u4 v1 u5 v, by rw [mk_th hc]; exact o.hf⟩
theorem closeA (o : AO C fg fc w ow a y gs g vars V κ Vv U x f fs) {z : Nat} (hz : z ≤ g.slots.length) :
    Ret Tryz.prog 238 [ptr C.E.mb, tptr C a.cur, i64c (f.base + z)] w (AR C fg fc w ow (.tuple #[]) (mkA a y gs { g with slots := g.slots.take z ++ (List.range (g.slots.length - z)).map (vars.length + ·) } (vars ++ (g.slots.drop z).map fun s => vars.getD s vNil))) := by
  obtain ⟨hb9, hd9⟩ := o.z.opn o.t.hx
  refine (close238 o.v o.t.hx hb9 hd9).mono ?_
  rintro r w' ⟨rfl, U', hv, hu, f1⟩
  have htt := o.v.tt.1
  have hz2 := o.z.acl o.hc o.t hz g.pc
  have e1 : ({ x with opn := (closeL x.stack (f.base + z) x.opn V.cells).2, frs := { f with pc := g.pc } :: fs } : VTh) = { x with opn := (closeL x.stack (f.base + z) x.opn V.cells).2 } := by rw [frs_self o.t]
  have e2 : (closeV V a.cur (f.base + z)).setT a.cur { x with opn := (closeL x.stack (f.base + z) x.opn V.cells).2 } = closeV V a.cur (f.base + z) := vset_self (closeV_th o.t.hx)
  rw [e1, e2] at hz2
  exact ⟨rfl, ow, Xt.refl _ _, f1.mono (fun b _ q => clS_vt htt q), _, κ, Vv, U', hv, hz2, by rw [mk_th o.hc]; show U' a.cur 3 = _; rw [hu _ _ (by omega)]; exact o.hf⟩
end
end Go.Proofs.Qxb6500568aGreatDoor
