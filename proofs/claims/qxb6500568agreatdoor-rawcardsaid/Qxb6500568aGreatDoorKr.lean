import Derived.Test.Qxb6500568aGreatDoorKq
/- The machine: upvalues. -/
namespace Go.Proofs.Qxb6500568aGreatDoor
open Ieee
set_option linter.unusedVariables false
set_option linter.unusedSimpArgs false
set_option linter.unusedSectionVars false

theorem map_rws {α : Type} (f : α → Value) (l : List α) : l.map f = rws (fun n => [f n]) l := by
  induction l with
  | nil => rfl
  | cons a l ih => rw [List.map_cons, ih]; rfl
theorem OwT.atN {w : World} {ow : Nat → Nat} {tag e : Nat} {v : Value} {l : List Nat} (h : OwT w ow tag v e 1 l.length (l.map i64c)) {i n : Nat} (hi : l[i]? = some n) :
    ∃ g cap L, v = .slice (some ⟨g, 0, none⟩) l.length cap ∧ Blk w.heap g L e ∧ l.length ≤ cap ∧ L.length = cap * 1 ∧ L.take (l.length * 1) = rws (fun n => [i64c n]) l ∧ ow g = tag ∧ ∀ (j : Nat) m, l[j]? = some m → L[0 + j * 1]? = some (i64c m) := by
  rw [map_rws] at h
  obtain ⟨g, cap, L, h1, h2, h3, h4, h5, h6, h7⟩ := h.at (k := 1) (fun _ => rfl) hi
  refine ⟨g, cap, L, h1, h2, h3, h4, h5, h6, fun j m hm => ?_⟩
  have := row_get (h7 j m hm) (show 0 < 1 by decide)
  rw [Nat.add_zero] at this
  exact this
theorem row_seg {l xs : List Value} {a k j m : Nat} (h : (l.drop a).take k = xs) (hj : j + m ≤ k) : (l.drop (a + j)).take m = (xs.drop j).take m := by
  rw [← h, List.drop_take, List.drop_drop, List.take_take]
  congr 1
  omega
section
variable {C : VC} {w w' w1 u u1 u2 : World} {ow ow' ow1 : Nat → Nat} {s : AS} {a : AS} {y : ATh} {gs : List AFr} {g : AFr} {vars : List PV} {fg fc : Nat} {V : VS} {κ : List Nat} {Vv : Nat → Value} {U : Nat → Nat → Value} {x : VTh} {f : VFr} {fs : List VFr} {L : VL}
theorem VOp.clk (op : VOp C.E w ow L Vv U) {cl : List (Nat × Nat × Nat)} (h : L.A 6 = (cl.length, rws vcc cl)) : OwT w ow 406 (Vv 6) 209 3 cl.length (rws vcc cl) := by
  have := op.a 6 (.inl (by decide))
  rw [h] at this
  exact this
theorem VOp.uxk (op : VOp C.E w ow L Vv U) {ux : List Nat} (h : L.A 7 = (ux.length, ux.map i64c)) : OwT w ow 407 (Vv 7) 3 1 ux.length (ux.map i64c) := by
  have := op.a 7 (.inl (by decide))
  rw [h] at this
  exact this
theorem ClR.lt {cl : List (Nat × Nat × Nat)} {ux : List Nat} {D : List (Nat × List Nat)} {e : Nat} (h : ClR cl ux D e) {c : Nat} {p : Nat} {cs : List Nat} (hc : D[c]? = some (p, cs)) : ∃ up, cl[c]? = some (p, up, cs.length) ∧ Win ux up cs := h.2.1 c p cs hc
set_option maxHeartbeats 8000000 in
theorem getUpA (hR : AM C fg fc w ow (mkA a y gs g vars)) (hc : a.cur < a.ths.length) {p : Nat} {ids : List Nat} (hk : a.clos[g.clo]? = some (p, ids)) {q : Nat} (hq : q < ids.length) :
    Ret Tryz.prog 268 [ptr C.E.mb, fpt fg gs.length, i64c q] w (AR C fg fc w ow (pv (vars.getD (ids.getD q 0) vNil)) (mkA a y gs g vars)) := by
  obtain ⟨V, κ, Vv, U, x, f, fs, o⟩ := hR.open hc
  obtain ⟨l1, hB1, k1, q1, q2, -⟩ := o.frow
  obtain ⟨L, op, vl⟩ := o.v.ex
  obtain ⟨cl, ux, c6, c7, cR, cb⟩ := vl.c
  obtain ⟨cs, k, z, u1, u2, u3, u4, u5, u6⟩ := o.z.up (c := g.clo) (p := p) (u := q) (ids := ids) hk hq
  obtain ⟨up, d1, d2⟩ := cR.lt u1
  have d3 := d2.get u3
  have hcb := o.v.cb
  have hux : ux.length ≤ 7200 := by omega
  have hM := op.m
  unfold mbc at hM
  obtain ⟨cg, ccap, cL, e6, hB2, -, -, -, t6, r6⟩ := (op.clk c6).at vcc_len d1
  obtain ⟨ug, ucap, uL, e7, hB3, -, -, -, t7, r7⟩ := (op.uxk c7).atN d3
  obtain ⟨eg, ecap, eL, e8, hB4, -, -, -, t8, r8⟩ := (op.ck vl).at cec_len u4
  rw [e6, e7, e8] at hM
  have r6 := r6 _ _ d1
  have r7 := r7 _ _ d3
  have r8 := r8 _ _ u4
  have hlc := (List.getElem?_eq_some_iff.1 d1).1
  have hlu := (List.getElem?_eq_some_iff.1 d3).1
  have hle := (List.getElem?_eq_some_iff.1 u4).1
  have hclo := o.t.clo
  have hX : Xt w ow ow := Xt.refl _ _
  have hF : Fram (tg ow vtT) w w := Fram.refl _ _
  rw [← hclo] at hlc r6
  rcases u6 with ⟨t, xt, v1, v2, v3, v4⟩ | ⟨v1, v2⟩
  · have ht := o.v.lt v2
    have hT := op.t
    obtain ⟨sg, sc, sl, es, hB5, -, -, -, ts, rs⟩ := (op.sk vl v2 ht).at pvc_len v4
    have rs := rs _ _ v4
    have hlp := (List.getElem?_eq_some_iff.1 v4).1
    have hnt : t < L.nt := by rw [vl.n]; exact (List.getElem?_eq_some_iff.1 v2).1
    have hrow : (rws (thc L U) (List.range 5))[t * 5 + 2]? = some (.slice (some ⟨sg, 0, none⟩) xt.stack.length sc) := by
      have := vrs_at (f := thc L U) (o := 2) (thc_len L U) ht (by decide)
      rw [← es]
      exact this
    unfold cec at r8
    rw [v1] at r8
    refine ret_of Tryz.func268 rfl Tryz.ntmps268 rfl ?_
    refine c_seq (fun K1 hK1 => ?_)
    refine c_reg ?_ -- region 0 cells.go:38
    refine wl_new (ze_119) (fun b6 w1 hbb6 h6 F1 => ?_)
    have hneC.E.mbb6 : C.E.mb < b6 := Nat.lt_of_lt_of_le hM.lt hbb6
    have hnefgb6 : fg < b6 := Nat.lt_of_lt_of_le hB1.lt hbb6
    have hnecgb6 : cg < b6 := Nat.lt_of_lt_of_le hB2.lt hbb6
    have hneugb6 : ug < b6 := Nat.lt_of_lt_of_le hB3.lt hbb6
    have hneegb6 : eg < b6 := Nat.lt_of_lt_of_le hB4.lt hbb6
    have hnesgb6 : sg < b6 := Nat.lt_of_lt_of_le hB5.lt hbb6
    have hneC.E.tbb6 : C.E.tb < b6 := Nat.lt_of_lt_of_le hT.lt hbb6
    have hbsb6 := Nat.le_trans hF.size hbb6
    have kh6 := hR.df b6 hbb6
    replace hM := F1.blkN hM
    replace hB1 := F1.blkN hB1
    replace hB2 := F1.blkN hB2
    replace hB3 := F1.blkN hB3
    replace hB4 := F1.blkN hB4
    replace hB5 := F1.blkN hB5
    replace hT := F1.blkN hT
    replace hF := hF.thenDrew.thenN F1
    replace hR := hR.thruN ((Fram.refl none' _).thenDrew.thenN F1)
    refine wl_nil (x_then (hK1 _ _ ?_))
    clear hK1 K1
    refine forget [(0, _), (1, _), (2, _), (6, _)] ⟨rfl, rfl, rfl, rfl, trivial⟩ (fun e => ?_)
    refine c_seq (fun K2 hK2 => ?_)
    refine c_pi [(0, false), (1, false), (2, false), (3, false), (4, false), (5, false), (6, false), (7, false), (8, false), (9, false), (10, false), (11, false), (12, false), (13, false), (14, false), (15, false), (16, false), (17, false), (18, false), (19, false), (20, false), (21, false), (22, false), (23, false), (24, false)] (SameH _) mixed (by kernel_rfl) rfl (by kernel_rfl) (po_then (po_bp)) (sameH_now _ _) ?_ -- region 1 cells.go:39
    refine pi_ro rfl (fun w hS => ro_move rfl) ?_
    refine pi_ro rfl (fun w hS => ro_nilCheck rfl) ?_
    refine pi_ro rfl (fun w hS => ro_fieldAddr (k := 8) rfl fo_89_8) ?_
    refine pi_ro rfl (fun w hS => ro_loadB rfl sc_87 (Blk.of_heap hM hS) rfl) ?_
    refine pi_ro rfl (fun w hS => ro_move rfl) ?_
    refine pi_ro rfl (fun w hS => ro_nilCheck rfl) ?_
    refine pi_ro rfl (fun w hS => ro_fieldAddr (k := 7) rfl fo_89_7) ?_
    refine pi_ro rfl (fun w hS => ro_loadB rfl sc_86 (Blk.of_heap hM hS) rfl) ?_
    refine pi_ro rfl (fun w hS => ro_move rfl) ?_
    refine pi_ro rfl (fun w hS => ro_nilCheck rfl) ?_
    refine pi_ro rfl (fun w hS => ro_fieldAddr (k := 6) rfl fo_89_6) ?_
    refine pi_ro rfl (fun w hS => ro_loadB rfl sc_85 (Blk.of_heap hM hS) rfl) ?_
    refine pi_ro rfl (fun w hS => ro_move rfl) ?_
    refine pi_ro rfl (fun w hS => ro_nilCheck rfl) ?_
    refine pi_ro rfl (fun w hS => ro_fieldAddr (k := 0) rfl fo_331_0) ?_
    refine pi_ro rfl (fun w hS => ro_loadB rfl sc_3 (Blk.of_heap hB1 hS) (frow_at q1 (by decide))) ?_
    refine pi_ro rfl (fun w hS => ro_indexAddr (et := 209) (k := 3) rfl rfl se_85 (rfl) (hlc)) ?_
    refine pi_ro rfl (fun w hS => ro_fieldAddr (k := 1) rfl fo_209_1) ?_
    refine pi_ro rfl (fun w hS => ro_loadB rfl sc_3 (Blk.of_heap hB2 hS) (row_get r6 (by decide))) ?_
    refine pi_ro rfl (fun w hS => ro_move rfl) ?_
    refine pi_ro rfl (fun w hS => ro_arith (a := (up : Int)) (b := (q : Int)) rfl rfl rfl (Go.IntWalk.i64_in _ (by omega))) ?_
    refine pi_ro rfl (fun w hS => ro_indexAddr (et := 3) (k := 1) rfl rfl se_86 ((show ((up : Int) + q) = ((up + q : Nat) : Int) by omega)) (hlu)) ?_
    refine pi_ro rfl (fun w hS => ro_loadB rfl sc_3 (Blk.of_heap hB3 hS) (r7)) ?_
    refine pi_ro rfl (fun w hS => ro_indexAddr (et := 413) (k := 5) rfl rfl se_87 (rfl) (hle)) ?_
    refine pi_ro rfl (fun w hS => ro_assign rfl) ?_
    refine pi_nil (x_then (hK2 _ _ ?_))
    clear hK2 K2
    refine c_seq (fun K3 hK3 => ?_)
    refine c_seq (fun K4 hK4 => ?_)
    refine c_reg ?_ -- region 2 cells.go:40
    refine wl (ro_move rfl) ?_
    refine wl (ro_nilCheck rfl) ?_
    refine wl (ro_fieldAddr (k := 0) rfl fo_413_0) ?_
    refine wl (ro_loadB rfl sc_3 (hB4) (row_get r8 (by decide))) ?_
    refine wl (ro_cmp rfl rfl rfl) ?_
    refine wl_nil (x_then (hK4 _ _ ?_))
    clear hK4 K4
    refine wc_cond rfl (fun hc36 => ?_) (fun hc36 => ?_)
    · try simp only [decide_eq_true_eq, decide_eq_false_iff_not, Bool.not_eq_true', Bool.not_eq_false', Bool.not_eq_eq_eq_not, Bool.not_true, Bool.not_false, beq_iff_eq, bne_iff_ne, ne_eq, beq_eq_false_iff_ne, bne_eq_false_iff_eq, gt_iff_lt, ge_iff_le, Int.not_lt, Int.not_le] at hc36
      refine c_seq (fun K5 hK5 => ?_)
      refine c_piL 17 [(0, false), (1, false), (2, false), (3, false), (4, false), (5, false), (6, false), (7, false), (8, false), (9, false), (10, false), (11, false), (12, false), (13, false), (14, false), (15, false), (16, false)] (SameH _) mixed (by kernel_rfl) rfl (by kernel_rfl) (po_then (po_then (po_bp))) (sameH_now _ _) ?_ -- region 3 cells.go:41
      refine ql_ro rfl (fun w hS => ro_move rfl) ?_
      refine ql_ro rfl (fun w hS => ro_nilCheck rfl) ?_
      refine ql_ro rfl (fun w hS => ro_fieldAddr (k := 9) rfl fo_89_9) ?_
      refine ql_ro rfl (fun w hS => ro_loadB rfl sc_80 (Blk.of_heap hM hS) rfl) ?_
      refine ql_ro rfl (fun w hS => ro_move rfl) ?_
      refine ql_ro rfl (fun w hS => ro_nilCheck rfl) ?_
      refine ql_ro rfl (fun w hS => ro_fieldAddr (k := 0) rfl fo_413_0) ?_
      refine ql_ro rfl (fun w hS => ro_loadB rfl sc_3 (Blk.of_heap hB4 hS) (row_get r8 (by decide))) ?_
      refine ql_ro rfl (fun w hS => ro_indexAddr (et := 269) (k := 5) rfl rfl se_80 (rfl) (hnt)) ?_
      refine ql_ro rfl (fun w hS => ro_fieldAddr (k := 2) rfl fo_269_2) ?_
      refine ql_ro rfl (fun w hS => ro_loadB rfl sc_83 (Blk.of_heap hT hS) ((by rw [Nat.zero_add]; exact hrow))) ?_
      refine ql_ro rfl (fun w hS => ro_move rfl) ?_
      refine ql_ro rfl (fun w hS => ro_nilCheck rfl) ?_
      refine ql_ro rfl (fun w hS => ro_fieldAddr (k := 1) rfl fo_413_1) ?_
      refine ql_ro rfl (fun w hS => ro_loadB rfl sc_3 (Blk.of_heap hB4 hS) (row_get r8 (by decide))) ?_
      refine ql_ro rfl (fun w hS => ro_indexAddr (et := 119) (k := 3) rfl rfl se_83 (rfl) (hlp)) ?_
      refine ql_ro rfl (fun w hS => ro_loadAggB rfl ag_119 (Blk.of_heap hB5 hS) (rfl) (rs)) ?_
      refine ql_puta rfl rfl rfl ((pvc_one _)) sz_119 (rfl) h6 ((by simp)) (rfl) (fun w2 h6 F2 => ?_)
      replace hM := F2.blkO hM (by first | omega | exact ow_ne (by assumption) (by assumption) (by omega))
      replace hB1 := F2.blkO hB1 (by first | omega | exact ow_ne (by assumption) (by assumption) (by omega))
      replace hB2 := F2.blkO hB2 (by first | omega | exact ow_ne (by assumption) (by assumption) (by omega))
      replace hB3 := F2.blkO hB3 (by first | omega | exact ow_ne (by assumption) (by assumption) (by omega))
      replace hB4 := F2.blkO hB4 (by first | omega | exact ow_ne (by assumption) (by assumption) (by omega))
      replace hB5 := F2.blkO hB5 (by first | omega | exact ow_ne (by assumption) (by assumption) (by omega))
      replace hT := F2.blkO hT (by first | omega | exact ow_ne (by assumption) (by assumption) (by omega))
      replace hF := hF.thenDrew.thenO F2 (by first | exact .inr (by omega) | exact .inl rfl | exact .inl (by assumption) | assumption)
      replace hR := hR.hbput ((Fram.refl (one b6) _).thenDrew.thenO F2 (.inl rfl))
      refine x_then (hK5 _ _ ?_)
      clear hK5 K5
      refine c_ret (x_thenR ?_)
      refine bq_ret (res1 Tryz.results268 (rv_c rfl ag_119 (h6) (rfl))) ?_
      exact ⟨rfl, ow, hX, hF, hR⟩
    · try simp only [decide_eq_true_eq, decide_eq_false_iff_not, Bool.not_eq_true', Bool.not_eq_false', Bool.not_eq_eq_eq_not, Bool.not_true, Bool.not_false, beq_iff_eq, bne_iff_ne, ne_eq, beq_eq_false_iff_ne, bne_eq_false_iff_eq, gt_iff_lt, ge_iff_le, Int.not_lt, Int.not_le] at hc36
      exfalso; omega
  · unfold cec at r8
    rw [v1, v2] at r8
    refine ret_of Tryz.func268 rfl Tryz.ntmps268 rfl ?_
    refine c_seq (fun K1 hK1 => ?_)
    refine c_reg ?_ -- region 0 cells.go:38
    refine wl_new (ze_119) (fun b6 w1 hbb6 h6 F1 => ?_)
    have hneC.E.mbb6 : C.E.mb < b6 := Nat.lt_of_lt_of_le hM.lt hbb6
    have hnefgb6 : fg < b6 := Nat.lt_of_lt_of_le hB1.lt hbb6
    have hnecgb6 : cg < b6 := Nat.lt_of_lt_of_le hB2.lt hbb6
    have hneugb6 : ug < b6 := Nat.lt_of_lt_of_le hB3.lt hbb6
    have hneegb6 : eg < b6 := Nat.lt_of_lt_of_le hB4.lt hbb6
    have hbsb6 := Nat.le_trans hF.size hbb6
    have kh6 := hR.df b6 hbb6
    replace hM := F1.blkN hM
    replace hB1 := F1.blkN hB1
    replace hB2 := F1.blkN hB2
    replace hB3 := F1.blkN hB3
    replace hB4 := F1.blkN hB4
    replace hF := hF.thenDrew.thenN F1
    replace hR := hR.thruN ((Fram.refl none' _).thenDrew.thenN F1)
    refine wl_nil (x_then (hK1 _ _ ?_))
    clear hK1 K1
    refine forget [(0, _), (1, _), (2, _), (6, _)] ⟨rfl, rfl, rfl, rfl, trivial⟩ (fun e => ?_)
    refine c_seq (fun K2 hK2 => ?_)
    refine c_pi [(0, false), (1, false), (2, false), (3, false), (4, false), (5, false), (6, false), (7, false), (8, false), (9, false), (10, false), (11, false), (12, false), (13, false), (14, false), (15, false), (16, false), (17, false), (18, false), (19, false), (20, false), (21, false), (22, false), (23, false), (24, false)] (SameH _) mixed (by kernel_rfl) rfl (by kernel_rfl) (po_then (po_bp)) (sameH_now _ _) ?_ -- region 1 cells.go:39
    refine pi_ro rfl (fun w hS => ro_move rfl) ?_
    refine pi_ro rfl (fun w hS => ro_nilCheck rfl) ?_
    refine pi_ro rfl (fun w hS => ro_fieldAddr (k := 8) rfl fo_89_8) ?_
    refine pi_ro rfl (fun w hS => ro_loadB rfl sc_87 (Blk.of_heap hM hS) rfl) ?_
    refine pi_ro rfl (fun w hS => ro_move rfl) ?_
    refine pi_ro rfl (fun w hS => ro_nilCheck rfl) ?_
    refine pi_ro rfl (fun w hS => ro_fieldAddr (k := 7) rfl fo_89_7) ?_
    refine pi_ro rfl (fun w hS => ro_loadB rfl sc_86 (Blk.of_heap hM hS) rfl) ?_
    refine pi_ro rfl (fun w hS => ro_move rfl) ?_
    refine pi_ro rfl (fun w hS => ro_nilCheck rfl) ?_
    refine pi_ro rfl (fun w hS => ro_fieldAddr (k := 6) rfl fo_89_6) ?_
    refine pi_ro rfl (fun w hS => ro_loadB rfl sc_85 (Blk.of_heap hM hS) rfl) ?_
    refine pi_ro rfl (fun w hS => ro_move rfl) ?_
    refine pi_ro rfl (fun w hS => ro_nilCheck rfl) ?_
    refine pi_ro rfl (fun w hS => ro_fieldAddr (k := 0) rfl fo_331_0) ?_
    refine pi_ro rfl (fun w hS => ro_loadB rfl sc_3 (Blk.of_heap hB1 hS) (frow_at q1 (by decide))) ?_
    refine pi_ro rfl (fun w hS => ro_indexAddr (et := 209) (k := 3) rfl rfl se_85 (rfl) (hlc)) ?_
    refine pi_ro rfl (fun w hS => ro_fieldAddr (k := 1) rfl fo_209_1) ?_
    refine pi_ro rfl (fun w hS => ro_loadB rfl sc_3 (Blk.of_heap hB2 hS) (row_get r6 (by decide))) ?_
    refine pi_ro rfl (fun w hS => ro_move rfl) ?_
    refine pi_ro rfl (fun w hS => ro_arith (a := (up : Int)) (b := (q : Int)) rfl rfl rfl (Go.IntWalk.i64_in _ (by omega))) ?_
    refine pi_ro rfl (fun w hS => ro_indexAddr (et := 3) (k := 1) rfl rfl se_86 ((show ((up : Int) + q) = ((up + q : Nat) : Int) by omega)) (hlu)) ?_
    refine pi_ro rfl (fun w hS => ro_loadB rfl sc_3 (Blk.of_heap hB3 hS) (r7)) ?_
    refine pi_ro rfl (fun w hS => ro_indexAddr (et := 413) (k := 5) rfl rfl se_87 (rfl) (hle)) ?_
    refine pi_ro rfl (fun w hS => ro_assign rfl) ?_
    refine pi_nil (x_then (hK2 _ _ ?_))
    clear hK2 K2
    refine c_seq (fun K3 hK3 => ?_)
    refine c_seq (fun K4 hK4 => ?_)
    refine c_reg ?_ -- region 2 cells.go:40
    refine wl (ro_move rfl) ?_
    refine wl (ro_nilCheck rfl) ?_
    refine wl (ro_fieldAddr (k := 0) rfl fo_413_0) ?_
    refine wl (ro_loadB rfl sc_3 (hB4) (row_get r8 (by decide))) ?_
    refine wl (ro_cmp rfl rfl rfl) ?_
    refine wl_nil (x_then (hK4 _ _ ?_))
    clear hK4 K4
    refine wc_cond rfl (fun hc36 => ?_) (fun hc36 => ?_)
    · try simp only [decide_eq_true_eq, decide_eq_false_iff_not, Bool.not_eq_true', Bool.not_eq_false', Bool.not_eq_eq_eq_not, Bool.not_true, Bool.not_false, beq_iff_eq, bne_iff_ne, ne_eq, beq_eq_false_iff_ne, bne_eq_false_iff_eq, gt_iff_lt, ge_iff_le, Int.not_lt, Int.not_le] at hc36
      exfalso; omega
    · try simp only [decide_eq_true_eq, decide_eq_false_iff_not, Bool.not_eq_true', Bool.not_eq_false', Bool.not_eq_eq_eq_not, Bool.not_true, Bool.not_false, beq_iff_eq, bne_iff_ne, ne_eq, beq_eq_false_iff_ne, bne_eq_false_iff_eq, gt_iff_lt, ge_iff_le, Int.not_lt, Int.not_le] at hc36
      refine c_skip (x_then (hK3 _ _ ?_))
      clear hK3 K3
      refine forget [(6, _), (7, _)] ⟨rfl, rfl, trivial⟩ (fun e => ?_)
      refine c_seq (fun K5 hK5 => ?_)
      refine c_reg ?_ -- region 4 cells.go:43
      refine wl (ro_move rfl) ?_
      refine wl (ro_nilCheck rfl) ?_
      refine wl (ro_fieldAddr (k := 2) rfl fo_413_2) ?_
      refine wl (ro_loadAggB rfl ag_119 (hB4) (rfl) (((row_seg r8 (by decide)).trans rfl))) ?_
      refine wl_puta rfl rfl ((pvc_one _)) sz_119 (rfl) h6 ((by simp)) (rfl) (fun w2 h6 F2 => ?_)
      replace hM := F2.blkO hM (by first | omega | exact ow_ne (by assumption) (by assumption) (by omega))
      replace hB1 := F2.blkO hB1 (by first | omega | exact ow_ne (by assumption) (by assumption) (by omega))
      replace hB2 := F2.blkO hB2 (by first | omega | exact ow_ne (by assumption) (by assumption) (by omega))
      replace hB3 := F2.blkO hB3 (by first | omega | exact ow_ne (by assumption) (by assumption) (by omega))
      replace hB4 := F2.blkO hB4 (by first | omega | exact ow_ne (by assumption) (by assumption) (by omega))
      replace hF := hF.thenDrew.thenO F2 (by first | exact .inr (by omega) | exact .inl rfl | exact .inl (by assumption) | assumption)
      replace hR := hR.hbput ((Fram.refl (one b6) _).thenDrew.thenO F2 (.inl rfl))
      refine wl_nil (x_then (hK5 _ _ ?_))
      clear hK5 K5
      refine c_ret ?_
      refine bq_ret (res1 Tryz.results268 (rv_c rfl ag_119 (h6) (rfl))) ?_
      exact ⟨rfl, ow, hX, hF, hR⟩
end
end Go.Proofs.Qxb6500568aGreatDoor
