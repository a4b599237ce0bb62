import Derived.Test.Qxb6500568aGreatDoorKx
/- The machine: an error walks down the frames. -/
namespace Go.Proofs.Qxb6500568aGreatDoor
open Ieee
set_option linter.unusedVariables false
set_option linter.unusedSimpArgs false
set_option linter.unusedSectionVars false

section
variable {C : VC} {w : World} {ow : Nat → Nat} {s : AS}
/-- what unwind answers. -/
def UnR (C : VC) (w : World) (ow : Nat → Nat) (s : AS) (v : PV) (r : Value) (w' : World) : Prop :=
  if (unwL s.th.frs).isSome then r = .tuple #[vevv 0 0 0 vNil vNil, .bool false] ∧ ∃ ow', Xt w ow ow' ∧ Fram (tg ow vtT) w w' ∧ AMq C w' ow' (athrow v s)
  else r = .tuple #[vevv 2 0 0 v vNil, .bool true] ∧ ∃ ow', Xt w ow ow' ∧ Fram (tg ow vtT) w w' ∧ AMq C w' ow' (s.setT { s.th with frs := [], st := 5 })
theorem SF.mid : ∀ {hd : List VFr} {f : VFr} {r : List VFr}, SF (hd ++ f :: r) → f.base ≤ 300 * r.length
  | [], f, r, h => h.1
  | q :: hd, f, r, h => SF.mid h.2
theorem th_get (hc : s.cur < s.ths.length) : s.ths[s.cur]? = some s.th := by unfold AS.th; rw [List.getD_eq_getElem?_getD, List.getElem?_eq_getElem hc]; rfl
set_option maxHeartbeats 8000000 in
theorem unwindA (hR : AMq C w ow s) (hc : s.cur < s.ths.length) {v : PV} : Ret Tryz.prog 204 [ptr C.E.mb, tptr C s.cur, pv v] w (UnR C w ow s v) := by
  have hX : Xt w ow ow := Xt.refl _ _
  have hF : Fram (tg ow vtT) w w := Fram.refl _ _
  have hvt : tg ow vtT C.E.tb := hR.vtb
  obtain ⟨V, κ, Vv, U, hv0, hz⟩ := hR
  have hy := th_get hc
  have hcl : s.cur < V.ths.length := by rw [hz.r.tlen]; exact hc
  have hx : V.ths[s.cur]? = some V.ths[s.cur] := List.getElem?_eq_getElem hcl
  obtain ⟨x, hxe⟩ : ∃ x, x = V.ths[s.cur] := ⟨_, rfl⟩
  rw [← hxe] at hx
  have ht := hv0.lt hx
  have htt := hv0.tt.1
  obtain ⟨hb9, hd9⟩ := hz.opn hx
  have hxf : x.frs.length ≤ 8 := by
    have := (hz.r.th _ _ _ hx hy).2.2.lenE
    have := (hz.z _ (List.mem_of_getElem? hy)).1
    omega
  obtain ⟨g3, c3, e3, hc3⟩ : ∃ g c, U s.cur 3 = .slice g x.frs.length c ∧ x.frs.length ≤ c := by
    obtain ⟨L, op, vl⟩ := hv0.ex
    have hO := op.fk vl hx ht
    obtain ⟨g, c, e1⟩ := hO.form
    rw [e1] at hO
    exact ⟨g, c, e1, hO.capge⟩
  obtain ⟨lT0, hT0, hTl0, -, -, hTr0, -⟩ := hv0.thA hx
  have hT30 : lT0[s.cur * 5 + 3]? = some (.slice g3 x.frs.length c3) := by rw [hTr0 3 (by simp), e3]
  have hdf := hv0.df
  have hsf := hz.v.at hx
  refine ret_of Tryz.func204 rfl Tryz.ntmps204 rfl ?_
  refine c_seq (fun K1 hK1 => ?_)
  refine c_reg ?_ -- region 0 exec.go:101
  refine wl_box (cs := (pvc v)) rfl rfl (fun b5 w1 hbb5 h5 F1 => ?_)
  have hbsb5 := Nat.le_trans hF.size hbb5
  have hneC.E.tbb5 : C.E.tb < b5 := Nat.lt_of_lt_of_le hT0.lt hbb5
  replace hF := hF.thenDrew.thenN F1
  replace hT0 := F1.blkN hT0
  replace hv0 := hv0.thruN ((Fram.refl none' _).thenDrew.thenN F1)
  refine wl_new (ze_211) (fun b6 w2 hbb6 h6 F2 => ?_)
  have hbsb6 := Nat.le_trans hF.size hbb6
  have hneC.E.tbb6 : C.E.tb < b6 := Nat.lt_of_lt_of_le hT0.lt hbb6
  have hneb5b6 : b5 < b6 := Nat.lt_of_lt_of_le h5.lt hbb6
  replace hF := hF.thenDrew.thenN F2
  replace hT0 := F2.blkN hT0
  replace hv0 := hv0.thruN ((Fram.refl none' _).thenDrew.thenN F2)
  replace h5 := F2.blkN h5
  refine wl (ro_assign rfl) ?_
  refine wl_nil (x_then (hK1 _ _ ?_))
  clear hK1 K1
  refine c_seq (fun K2 hK2 => ?_)
  refine c_seq (fun K3 hK3 => ?_)
  have ko5 : ow b5 = 66 := hdf b5 hbsb5
  have ko6 : ow b6 = 66 := hdf b6 hbsb6
  refine c_reg ?_ -- region 1 exec.go:102
  refine wl (ro_move rfl) ?_
  refine wl (ro_nilCheck rfl) ?_
  refine wl (ro_fieldAddr (k := 3) rfl fo_269_3) ?_
  refine wl (ro_loadB rfl sc_267 (hT0) (hT30)) ?_
  refine wl (ro_lenL rfl se_267) ?_
  refine wl (ro_arith (a := (x.frs.length : Int)) (b := 1) rfl rfl rfl (Go.IntWalk.i64_in _ (by omega))) ?_
  refine wl (ro_assign rfl) ?_
  refine wl_nil (x_then (hK3 _ _ ?_))
  clear hK3 K3
  refine c_block ?_
  -- loop@r2: live slots [0, 1, 5, 6, 8]
  refine c_loopG (fun m a u => ∃ tl, m = tl.length ∧ (∃ hd, x.frs = hd ++ tl) ∧ vunw x.frs = vunw tl ∧ VW C u ow V 0 s.fuel s.out s.tabs Vv U ∧ Fram (tg ow vtT) w u ∧ Blk u.heap b5 (pvc v) 119 ∧ Blk u.heap b6 (vevc 0 0 0 vNil vNil) 211 ∧ ∃ e', a = Fr 69 (upds e' [(0, ptr C.E.mb), (1, tptr C s.cur), (5, ptr b5), (6, ptr b6), (8, .int .i64 ((tl.length : Int) - 1))]) []) _ ⟨x.frs, rfl, ⟨[], rfl⟩, rfl, hv0, hF, h5, h6, kp _ ⟨rfl, rfl, rfl, rfl, rfl, trivial⟩⟩ ?_
  clear hv0 hT0 hF h5 h6
  rintro m a u ⟨tl, rfl, ⟨hd, hsp⟩, hvu, hv0, hF, h5, h6, e', rfl⟩
  obtain ⟨lT, hT, hTl, -, -, hTr, -⟩ := hv0.thA hx
  have hT3 : lT[s.cur * 5 + 3]? = some (.slice g3 x.frs.length c3) := by rw [hTr 3 (by simp), e3]
  have hln : hd.length + tl.length = x.frs.length := by rw [hsp]; simp
  refine c_seq (fun K4 hK4 => ?_)
  refine c_seq (fun K5 hK5 => ?_)
  refine c_reg ?_ -- region 2 exec.go:102
  refine wl (ro_move rfl) ?_
  refine wl (ro_cmp rfl rfl rfl) ?_
  refine wl_nil (x_then (hK5 _ _ ?_))
  clear hK5 K5
  refine wc_cond rfl (fun hc17 => ?_) (fun hc17 => ?_)
  · try simp only [decide_eq_true_eq, decide_eq_false_iff_not, Bool.not_eq_true', Bool.not_eq_false', Bool.not_eq_eq_eq_not, Bool.not_true, Bool.not_false, beq_iff_eq, bne_iff_ne, ne_eq, beq_eq_false_iff_ne, bne_eq_false_iff_eq, gt_iff_lt, ge_iff_le, Int.not_lt, Int.not_le] at hc17
    obtain ⟨f, r, hfr, hrn⟩ : ∃ f r, tl = f :: r ∧ r ≠ [] := by
      rcases tl with _ | ⟨f, r⟩
      · simp at hc17
      · refine ⟨f, r, rfl, fun q ↦ ?_⟩
        rw [q] at hc17
        simp at hc17
    subst hfr
    obtain ⟨fg, fc, lF, e31, hfc, hB1, tf1, r31⟩ := hv0.frA hx (by rw [hsp]; simp)
    rw [e3] at e31
    injection e31 with e32 e33 e34
    subst e32; subst e34
    have r3 := r31 r.length f (by rw [hsp, List.reverse_append, List.reverse_cons, List.append_assoc, List.getElem?_append_right (by rw [List.length_reverse]; exact Nat.le_refl _), List.length_reverse, Nat.sub_self]; rfl)
    have n1 : fg ≠ C.E.tb := fun q ↦ by rw [q, htt] at tf1; omega
    have hln' : hd.length + (r.length + 1) = x.frs.length := hln
    refine c_skip (x_then (hK4 _ _ ?_))
    clear hK4 K4
    refine forget [(0, _), (1, _), (5, _), (6, _), (8, _)] ⟨rfl, rfl, rfl, rfl, rfl, trivial⟩ (fun e => ?_)
    refine c_seq (fun K6 hK6 => ?_)
    refine c_block ?_
    refine c_seq (fun K7 hK7 => ?_)
    refine c_reg ?_ -- region 4 exec.go:103
    refine wl (ro_move rfl) ?_
    refine wl (ro_nilCheck rfl) ?_
    refine wl (ro_fieldAddr (k := 3) rfl fo_269_3) ?_
    refine wl (ro_loadB rfl sc_267 (hT) (hT3)) ?_
    refine wl (ro_move rfl) ?_
    refine wl (ro_indexAddr (et := 331) (k := 5) rfl rfl se_267 ((show (((r.length + 1 : Nat) : Int) - 1) = ((r.length : Nat) : Int) by omega)) ((by omega))) ?_
    refine wl (ro_assign rfl) ?_
    refine wl_nil (x_then (hK7 _ _ ?_))
    clear hK7 K7
    refine forget [(0, _), (1, _), (5, _), (6, _), (8, _), (9, _)] ⟨rfl, rfl, rfl, rfl, rfl, rfl, trivial⟩ (fun e => ?_)
    refine c_seq (fun K8 hK8 => ?_)
    refine c_reg ?_ -- region 5 exec.go:104
    refine wl (ro_move rfl) ?_
    refine wl (ro_nilCheck rfl) ?_
    refine wl (ro_fieldAddr (k := 4) rfl fo_331_4) ?_
    refine wl (ro_loadB rfl sc_4 (hB1) ((by rw [Nat.zero_add]; exact frow_at r3 (by decide)))) ?_
    refine wl_nil (x_then (hK8 _ _ ?_))
    clear hK8 K8
    refine wc_cond rfl (fun hc29 => ?_) (fun hc29 => ?_)
    · try simp only [decide_eq_true_eq, decide_eq_false_iff_not, Bool.not_eq_true', Bool.not_eq_false', Bool.not_eq_eq_eq_not, Bool.not_true, Bool.not_false, beq_iff_eq, bne_iff_ne, ne_eq, beq_eq_false_iff_ne, bne_eq_false_iff_eq, gt_iff_lt, ge_iff_le, Int.not_lt, Int.not_le] at hc29
      have hvs : vunw x.frs = some (f, r) := by rw [hvu]; unfold vunw; rw [if_pos ⟨hc29, hrn⟩]
      obtain ⟨rr, hrr⟩ : ∃ rr, unwL s.th.frs = some rr := by
        rcases hq : unwL s.th.frs with _ | rr
        · rw [(hz.unwN hx hy).2 hq] at hvs; cases hvs
        · exact ⟨rr, rfl⟩
      have eat : athrow v s = { s with ths := s.ths.set s.cur { s.th with frs := pu2 (vBool false) v rr } } := by unfold athrow; rw [hrr]; exact pu2_push hc
      obtain ⟨hz9, hrt, hbs⟩ := hz.unw hx hy hvs (vBool false) v (b := athrow v s) (by rw [eat]) (by rw [eat]) (fun r9 q9 ↦ by rw [hrr] at q9; injection q9 with q9; subst q9; rw [eat]) (by rw [eat])
      refine c_seq (fun K9 hK9 => ?_)
      refine c_reg ?_ -- region 6 exec.go:105
      refine wl (ro_move rfl) ?_
      refine wl (ro_move rfl) ?_
      refine wl (ro_move rfl) ?_
      refine wl (ro_nilCheck rfl) ?_
      refine wl (ro_fieldAddr (k := 2) rfl fo_331_2) ?_
      refine wl (ro_loadB rfl sc_3 (hB1) ((by rw [Nat.zero_add]; exact frow_at r3 (by decide)))) ?_
      refine wl_call rfl en_238 (close238 (p := f.base) hv0 hx hb9 hd9) ?_
      rintro _ u9 ⟨rfl, U1, hv1, hu1, fk9⟩
      have x9 : Xt u ow ow := Xt.refl _ _
      have f9 := fk9.mono (fun b _ q ↦ (show tg ow vtT b from clS_vt htt q))
      have kh5 : ow b5 = 66 := ko5
      have kh6 : ow b6 = 66 := ko6
      obtain ⟨h5, kh5⟩ := vm_loc' x9 f9 h5 kh5
      obtain ⟨h6, kh6⟩ := vm_loc' x9 f9 h6 kh6
      have hs9 := hF.size
      replace hF := vm_trans' hX hF f9
      replace hX := hX.trans hs9 x9
      have hx1 := closeV_th (p := f.base) hx
      obtain ⟨fg1, fc1, lF1, e31, e3c, hB1, tf1, r31⟩ := hv1.frA hx1 (by show x.frs ≠ []; rw [hsp]; simp)
      have r3 := r31 r.length f (by show x.frs.reverse[r.length]? = some f; rw [hsp, List.reverse_append, List.reverse_cons, List.append_assoc, List.getElem?_append_right (by rw [List.length_reverse]; exact Nat.le_refl _), List.length_reverse, Nat.sub_self]; rfl)
      rw [hu1 _ _ (by omega), e3] at e31
      injection e31 with e32 e33 e34
      injection e32 with e32
      injection e32 with e32
      subst e32; subst e34
      obtain ⟨sg, sc, e2, hcs⟩ := hv1.skA hx1
      have hcs : x.stack.length ≤ sc := hcs
      obtain ⟨lT1, hT, hTl1, -, -, hTr1, -, -, WS, -⟩ := hv1.thA hx1
      have hT2 : lT1[s.cur * 5 + 2]? = some (.slice sg x.stack.length sc) := by rw [hTr1 2 (by simp), e2]
      have hF1 : Fram (one C.E.tb) u9 u9 := Fram.refl _ _
      refine wl_nil (x_then (hK9 _ _ ?_))
      clear hK9 K9
      refine forget [(1, _), (5, _), (6, _), (8, _), (9, _)] ⟨rfl, rfl, rfl, rfl, rfl, trivial⟩ (fun e => ?_)
      refine c_seq (fun K10 hK10 => ?_)
      refine c_piL 12 [(0, false), (1, false), (2, false), (3, false), (4, false), (5, false), (6, false), (7, false), (8, false), (9, false), (10, false), (11, false)] (SameH _) mixed (by kernel_rfl) rfl (by kernel_rfl) (po_then (po_blk (po_then (po_then (po_blk (po_then (po_bp))))))) (sameH_now _ _) ?_ -- region 7 exec.go:106
      refine ql_ro rfl (fun w hS => ro_move rfl) ?_
      refine ql_ro rfl (fun w hS => ro_move rfl) ?_
      refine ql_ro rfl (fun w hS => ro_nilCheck rfl) ?_
      refine ql_ro rfl (fun w hS => ro_fieldAddr (k := 2) rfl fo_269_2) ?_
      refine ql_ro rfl (fun w hS => ro_loadB rfl sc_83 (Blk.of_heap hT hS) (hT2)) ?_
      refine ql_ro rfl (fun w hS => ro_move rfl) ?_
      refine ql_ro rfl (fun w hS => ro_nilCheck rfl) ?_
      refine ql_ro rfl (fun w hS => ro_fieldAddr (k := 3) rfl fo_331_3) ?_
      refine ql_ro rfl (fun w hS => ro_loadB rfl sc_3 (Blk.of_heap hB1 hS) ((by rw [Nat.zero_add]; exact frow_at r3 (by decide)))) ?_
      refine ql_ro rfl (fun w hS => ro_sliceH (h := f.ret) rfl rfl se_83 rfl (show f.ret ≤ sc by omega)) ?_
      refine ql_ro rfl (fun w hS => ro_nilCheck rfl) ?_
      refine ql_ro rfl (fun w hS => ro_fieldAddr (k := 2) rfl fo_269_2) ?_
      refine ql_put rfl rfl rfl rfl sz_83 hT ((by omega)) (rfl) (fun w3 hT F3 => ?_)
      replace hF := hF.thenDrew.thenO F3 (by first | exact .inr (by omega) | exact .inl rfl | exact .inl (by assumption) | assumption)
      replace h5 := F3.blkO h5 (by first | omega | exact ow_ne (by assumption) (by assumption) (by omega))
      replace h6 := F3.blkO h6 (by first | omega | exact ow_ne (by assumption) (by assumption) (by omega))
      replace hB1 := F3.blkO hB1 (by first | omega | exact ow_ne (by assumption) (by assumption) (by omega))
      replace hF1 := hF1.thenDrew.thenO F3 (by first | exact .inr (by omega) | exact .inl rfl | exact .inl (by assumption) | assumption)
      have hv2 := WS _ (x.stack.take f.ret) sg sc (by rw [List.length_take, Nat.min_eq_left (by omega)]) e2 hF1 (by rw [List.length_take, Nat.min_eq_left (by omega)]; exact hT)
      have hx2 := vset_at (x' := { ({ x with opn := (closeL x.stack f.base x.opn V.cells).2 } : VTh) with stack := x.stack.take f.ret }) hx1
      have hl2 : (x.stack.take f.ret).length ≤ 90000 := by rw [List.length_take]; rw [hsp] at hsf; have := hsf.mid; omega
      have e3b : (up1 U1 s.cur (up1 (U1 s.cur) 2 (.slice sg (x.stack.take f.ret).length sc))) s.cur 3 = .slice (some ⟨fg, 0, none⟩) x.frs.length c3 := by
        rw [up1_self, up1_ne (by decide), hu1 _ _ (by omega), e3]
      obtain ⟨lT2, hT, hTl2, -, -, hTr2, -, -, -, WF⟩ := hv2.thA hx2
      have hT3 : lT2[s.cur * 5 + 3]? = some (.slice (some ⟨fg, 0, none⟩) x.frs.length c3) := by rw [hTr2 3 (by simp), e3b]
      have hF2 : Fram (one C.E.tb) w3 w3 := Fram.refl _ _
      refine x_then (hK10 _ _ ?_)
      clear hK10 K10
      refine forget [(1, _), (5, _), (6, _), (8, _)] ⟨rfl, rfl, rfl, rfl, trivial⟩ (fun e => ?_)
      refine c_seq (fun K11 hK11 => ?_)
      refine c_reg ?_ -- region 8 exec.go:107
      refine wl (ro_move rfl) ?_
      refine wl (ro_move rfl) ?_
      refine wl (ro_nilCheck rfl) ?_
      refine wl (ro_fieldAddr (k := 3) rfl fo_269_3) ?_
      refine wl (ro_loadB rfl sc_267 (hT) (hT3)) ?_
      refine wl (ro_move rfl) ?_
      refine wl (ro_sliceH (h := r.length) rfl rfl se_267 (by omega) (by omega)) ?_
      refine wl (ro_nilCheck rfl) ?_
      refine wl (ro_fieldAddr (k := 3) rfl fo_269_3) ?_
      refine wl_put rfl rfl rfl sz_267 hT ((by omega)) (rfl) (fun w4 hT F4 => ?_)
      replace hF := hF.thenDrew.thenO F4 (by first | exact .inr (by omega) | exact .inl rfl | exact .inl (by assumption) | assumption)
      replace h5 := F4.blkO h5 (by first | omega | exact ow_ne (by assumption) (by assumption) (by omega))
      replace h6 := F4.blkO h6 (by first | omega | exact ow_ne (by assumption) (by assumption) (by omega))
      replace hF2 := hF2.thenDrew.thenO F4 (by first | exact .inr (by omega) | exact .inl rfl | exact .inl (by assumption) | assumption)
      have hv3 := WF _ r (some ⟨fg, 0, none⟩) c3 (by show x.frs.drop (x.frs.length - r.length) = r; rw [hsp, show (hd ++ f :: r).length - r.length = (hd ++ [f]).length by simp; omega, show hd ++ f :: r = (hd ++ [f]) ++ r by simp, List.drop_left]) e3b hF2 hT
      have hx3 := vset_at (x' := { ({ ({ x with opn := (closeL x.stack f.base x.opn V.cells).2 } : VTh) with stack := x.stack.take f.ret } : VTh) with frs := r }) hx2
      refine wl_nil (x_then (hK11 _ _ ?_))
      clear hK11 K11
      refine forget [(1, _), (5, _), (6, _)] ⟨rfl, rfl, rfl, trivial⟩ (fun e => ?_)
      refine c_seq (fun K12 hK12 => ?_)
      refine c_reg ?_ -- region 9 exec.go:108
      refine wl (ro_move rfl) ?_
      refine wl (ro_build rfl bld_119_0) ?_
      refine wl (ro_loadAggB rfl ag_119 (h5) rfl rfl) ?_
      refine wl_puV (vs := [vBool false, v]) (eo_bsV2 rfl rfl se_83 zx_119) rfl hv3 hx3 rfl (by show (x.stack.take f.ret).length + 2 ≤ 100000; omega) ?_
      intro u10 v10 ow10 x10 fp10 hv4 _
      have f10 := fp10.mono (fun b _ q ↦ (show tg ow vtT b from q.elim (fun q ↦ by show vtT _; rw [q]; exact vt_tb htt) (fun q ↦ by show vtT _; rw [q]; left; unfold vmT; omega)))
      obtain ⟨h5, kh5⟩ := vm_loc' x10 f10 h5 kh5
      obtain ⟨h6, kh6⟩ := vm_loc' x10 f10 h6 kh6
      have hs10 := hF.size
      replace hF := vm_trans' hX hF f10
      replace hX := hX.trans hs10 x10
      have hq9 : AMq C u10 ow10 (athrow v s) := by
        simp only [vset_set] at hv4
        rw [eat] at hz9 ⊢
        exact ⟨_, κ, _, _, hv4, hz9⟩
      skip
      refine wl_nil (x_then (hK12 _ _ ?_))
      clear hK12 K12
      refine forget [(6, _)] ⟨rfl, trivial⟩ (fun e => ?_)
      refine c_seq (fun K13 hK13 => ?_)
      refine c_reg ?_ -- region 10 exec.go:109
      refine wl (ro_build rfl bld_211) ?_
      refine wl_puta rfl rfl ((vevc_one 0 0 0 vNil vNil)) sz_211 (rfl) h6 ((by show 9 ≤ 9; decide)) (rfl) (fun w5 h6 F5 => ?_)
      replace hF := hF.thenDrew.thenO F5 (by first | exact .inr (by omega) | exact .inl rfl | exact .inl (by assumption) | assumption)
      replace h5 := F5.blkO h5 (by first | omega | exact ow_ne (by assumption) (by assumption) (by omega))
      replace hq9 := hq9.hbput ((Fram.refl (one b6) _).thenDrew.thenO F5 (.inl rfl))
      refine wl (ro_assign rfl) ?_
      refine wl_nil (x_then (hK13 _ _ ?_))
      clear hK13 K13
      refine c_ret (x_blkR (x_thenR (x_thenR (x_blkR (x_thenR ?_)))))
      refine bq_ret (res2 Tryz.results204 (rv_c rfl ag_211 (h6) (rfl)) (rv_t rfl)) ?_
      unfold UnR
      rw [if_pos (by rw [hrr]; rfl)]
      exact ⟨rfl, _, hX, hF, hq9⟩
    · try simp only [decide_eq_true_eq, decide_eq_false_iff_not, Bool.not_eq_true', Bool.not_eq_false', Bool.not_eq_eq_eq_not, Bool.not_true, Bool.not_false, beq_iff_eq, bne_iff_ne, ne_eq, beq_eq_false_iff_ne, bne_eq_false_iff_eq, gt_iff_lt, ge_iff_le, Int.not_lt, Int.not_le] at hc29
      refine c_skip (x_blk (x_then (hK6 _ _ ?_)))
      clear hK6 K6
      refine c_reg ?_ -- region 3 exec.go:102
      refine wl (ro_move rfl) ?_
      refine wl (ro_arith (a := ((r.length + 1 : Nat) : Int) - 1) (b := 1) rfl rfl rfl (Go.IntWalk.i64_in _ (by omega))) ?_
      refine wl (ro_assign rfl) ?_
      refine wl_nil (x_then ?_)
      refine ⟨r.length, by simp, r, rfl, ⟨hd ++ [f], by rw [hsp]; simp⟩, ?_, hv0, hF, h5, h6, kp _ ⟨rfl, rfl, rfl, rfl, ?_, trivial⟩⟩
      · rw [hvu]
        conv => lhs; unfold vunw
        rw [if_neg (fun q ↦ by rw [q.1] at hc29; cases hc29)]
      · show some (Value.int .i64 (((r.length + 1 : Nat) : Int) - 1 - 1)) = some (.int .i64 ((r.length : Int) - 1))
        congr 2
        omega
  · try simp only [decide_eq_true_eq, decide_eq_false_iff_not, Bool.not_eq_true', Bool.not_eq_false', Bool.not_eq_eq_eq_not, Bool.not_true, Bool.not_false, beq_iff_eq, bne_iff_ne, ne_eq, beq_eq_false_iff_ne, bne_eq_false_iff_eq, gt_iff_lt, ge_iff_le, Int.not_lt, Int.not_le] at hc17
    have hvn : vunw x.frs = none := by
      rw [hvu]
      rcases tl with _ | ⟨f, r⟩
      · rfl
      · have : r = [] := by
          rcases r with _ | ⟨f2, r2⟩
          · rfl
          · simp at hc17; omega
        subst this
        unfold vunw
        rw [if_neg (fun q ↦ q.2 rfl)]
        rfl
    have hun := (hz.unwN hx hy).1 hvn
    refine c_exit (x_thenX (x_thenX (x_blkX (x_then (hK2 _ _ ?_)))))
    clear hK4 K4 hK2 K2
    refine forget [(0, _), (1, _), (5, _), (6, _)] ⟨rfl, rfl, rfl, rfl, trivial⟩ (fun e => ?_)
    refine c_seq (fun K14 hK14 => ?_)
    refine c_reg ?_ -- region 11 exec.go:112
    refine wl (ro_move rfl) ?_
    refine wl (ro_move rfl) ?_
    refine wl_call rfl en_239 (kill239 hv0 hx hb9 hd9) ?_
    rintro _ u9 ⟨rfl, U9, hv9, fk9⟩
    have x9 : Xt u ow ow := Xt.refl _ _
    have f9 := fk9.mono (fun b _ q ↦ (show tg ow vtT b from clS_vt htt q))
    have kh5 : ow b5 = 66 := ko5
    have kh6 : ow b6 = 66 := ko6
    obtain ⟨h5, kh5⟩ := vm_loc' x9 f9 h5 kh5
    obtain ⟨h6, kh6⟩ := vm_loc' x9 f9 h6 kh6
    have hs9 := hF.size
    replace hF := vm_trans' hX hF f9
    replace hX := hX.trans hs9 x9
    have hq9 : AMq C u9 ow (s.setT { s.th with frs := [], st := 5 }) := ⟨_, κ, _, _, hv9, hz.kill hx hy rfl rfl rfl⟩
    refine wl_nil (x_then (hK14 _ _ ?_))
    clear hK14 K14
    refine forget [(5, _), (6, _)] ⟨rfl, rfl, trivial⟩ (fun e => ?_)
    refine c_seq (fun K15 hK15 => ?_)
    refine c_reg ?_ -- region 12 exec.go:113
    refine wl (ro_loadAggB rfl ag_119 (h5) rfl rfl) ?_
    refine wl (ro_build rfl bld_211_0_3) ?_
    refine wl_puta rfl rfl ((vevc_one 2 0 0 v vNil)) sz_211 (rfl) h6 ((by show 9 ≤ 9; decide)) (rfl) (fun w6 h6 F6 => ?_)
    replace hF := hF.thenDrew.thenO F6 (by first | exact .inr (by omega) | exact .inl rfl | exact .inl (by assumption) | assumption)
    replace h5 := F6.blkO h5 (by first | omega | exact ow_ne (by assumption) (by assumption) (by omega))
    replace hq9 := hq9.hbput ((Fram.refl (one b6) _).thenDrew.thenO F6 (.inl rfl))
    refine wl (ro_assign rfl) ?_
    refine wl_nil (x_then (hK15 _ _ ?_))
    clear hK15 K15
    refine c_ret ?_
    refine bq_ret (res2 Tryz.results204 (rv_c rfl ag_211 (h6) (rfl)) (rv_t rfl)) ?_
    unfold UnR
    rw [if_neg (by rw [hun]; decide)]
    exact ⟨rfl, _, hX, hF, hq9⟩
end
end Go.Proofs.Qxb6500568aGreatDoor
