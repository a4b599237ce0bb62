import Derived.Test.Qxb6500568aGreatDoorHh
/- The machine: plain instructions. -/
namespace Go.Proofs.Qxb6500568aGreatDoor
open Ieee
set_option linter.unusedVariables false
set_option linter.unusedSimpArgs false
set_option linter.unusedSectionVars false

section
variable {C : VC} {w : World} {ow : Nat → Nat} {a : AS} {y : ATh} {gs : List AFr} {g : AFr} {vars : List PV} {fg fc p z : Nat} {ids : List Nat}
theorem AO.topv {u : World} {V : VS} {κ : List Nat} {Vv : Nat → Value} {U : Nat → Nat → Value} {x : VTh} {f : VFr} {fs : List VFr} (o : AO C fg fc u ow a y gs g vars V κ Vv U x f fs) {v : PV} {l : List PV} (ho : g.ops = v :: l) : ∃ m, x.stack.length = m + 1 ∧ x.stack[m]? = some v := by
  have hst := o.stk ho
  generalize x.stack.take (f.base + g.slots.length) ++ l.reverse = r at hst
  refine ⟨r.length, ?_, ?_⟩
  · rw [hst]; simp
  · rw [hst, List.getElem?_append_right (Nat.le_refl _), Nat.sub_self]; rfl
set_option maxHeartbeats 8000000 in
theorem plain_11 (E : PE C fg fc w ow a y gs g vars p ids 11 z) : RetP Tryz.prog 247 [ptr C.E.mb, i64c a.cur, tptr C a.cur, fpt fg gs.length, prt C p, u8n 11, i64c z] w (PlR C fg fc w ow a y gs g (aplain (Psf C.F) 11 z (mkA a y gs g vars))) (AE C (kH a) w ow (aplain (Psf C.F) 11 z (mkA a y gs g vars))) := by
  have hR := E.r
  have hc := E.hc
  have hk := E.hk
  obtain ⟨V, κ, Vv, U, x, f, fs, o⟩ := hR.open hc
  have hX : Xt w ow ow := Xt.refl _ _
  have hF : Fram (tg ow vtT) w w := Fram.refl _ _
  have hol := E.ol
  have hnd := E.nd
  have hzz := E.hz
  obtain ⟨lT, hT, -, -, -, hT2, -⟩ := o.v.thA o.t.hx
  have hT2 := hT2 2 (.inl rfl)
  obtain ⟨lB, hB1, k1, q1, -, -⟩ := o.frow
  obtain ⟨lP, pa, pb, pc, hP, tP, rp, -, -, -⟩ := o.v.pro E.hp
  rw [Nat.zero_add] at rp
  obtain ⟨p0, ids0, n1, n2, n3⟩ := o.ns
  obtain ⟨rfl, rfl⟩ : p = p0 ∧ ids = ids0 := by have := hk.symm.trans n1; simpa using this
  have hwin := o.win n2
  have hln := o.t.ln
  have hsl := o.sl
  obtain ⟨v0, v1, l, ho⟩ := ops_2 (l := g.ops) hnd
  have hlo := congrArg List.length ho
  simp only [List.length_cons] at hlo
  have hap : aplain (Psf C.F) 11 z (mkA a y gs g vars) = if v1.T ≠ 4 then araise mIndex (mkA a y gs g vars) else mkA a y gs { g with ops := tGet (a.tabs.getD v1.N []) v0 :: l, pc := g.pc + 1 } vars := by
    unfold aplain
    simp only [mk_fr hc, mk_pro2 hk, E.pl, ho]
    simp only [Nat.reduceEqDiff, if_false, if_true, List.getD_cons_zero, List.getD_cons_succ, List.tail_cons, List.drop_succ_cons, List.drop_zero, mkA_tabs, mk_fr hc, mk_ops hc, mk_pc hc]
  rw [hap]
  refine retp_of Tryz.func247 rfl Tryz.ntmps247 rfl ?_
  refine c_seq (fun K1 hK1 => ?_)
  refine c_pi [(0, false), (1, false), (2, false), (3, false), (4, false), (5, false), (6, false), (7, false), (8, false), (9, false), (10, false), (11, false), (12, false), (13, false), (14, false), (15, false), (16, false), (17, false), (18, false)] (SameH _) mixed (by kernel_rfl) rfl (by kernel_rfl) (po_then (po_bpp)) (sameH_now _ _) ?_ -- region 0 ops.go:34
  refine pi_ro rfl (fun w hS => ro_move rfl) ?_
  refine pi_ro rfl (fun w hS => ro_nilCheck rfl) ?_
  refine pi_ro rfl (fun w hS => ro_fieldAddr (k := 2) rfl fo_269_2) ?_
  refine pi_ro rfl (fun w hS => ro_loadB rfl sc_83 (Blk.of_heap hT hS) (hT2)) ?_
  refine pi_ro rfl (fun w hS => ro_move rfl) ?_
  refine pi_ro rfl (fun w hS => ro_nilCheck rfl) ?_
  refine pi_ro rfl (fun w hS => ro_fieldAddr (k := 2) rfl fo_331_2) ?_
  refine pi_ro rfl (fun w hS => ro_loadB rfl sc_3 (Blk.of_heap hB1 hS) (frow_at q1 (by decide))) ?_
  refine pi_ro rfl (fun w hS => ro_move rfl) ?_
  refine pi_ro rfl (fun w hS => ro_nilCheck rfl) ?_
  refine pi_ro rfl (fun w hS => ro_fieldAddr (k := 2) rfl fo_331_2) ?_
  refine pi_ro rfl (fun w hS => ro_loadB rfl sc_3 (Blk.of_heap hB1 hS) (frow_at q1 (by decide))) ?_
  refine pi_ro rfl (fun w hS => ro_move rfl) ?_
  refine pi_ro rfl (fun w hS => ro_nilCheck rfl) ?_
  refine pi_ro rfl (fun w hS => ro_fieldAddr (k := 1) rfl fo_258_1) ?_
  refine pi_ro rfl (fun w hS => ro_loadB rfl sc_3 (Blk.of_heap hP hS) (row_get rp (by decide))) ?_
  refine pi_ro rfl (fun w hS => ro_addN rfl rfl (by omega)) ?_
  refine pi_ro rfl (fun w hS => ro_slV hwin rfl rfl rfl se_83) ?_
  refine pi_ro rfl (fun w hS => ro_assign rfl) ?_
  refine pi_nil (x_then (hK1 _ _ ?_))
  clear hK1 K1
  refine forget [(0, _), (1, _), (2, _), (3, _), (4, _), (5, _), (6, _), (14, _)] ⟨rfl, rfl, rfl, rfl, rfl, rfl, rfl, rfl, trivial⟩ (fun e => ?_)
  refine c_seq (fun K2 hK2 => ?_)
  refine c_reg ?_ -- region 1 ops.go:35
  refine wl (ro_move rfl) ?_
  refine wl_nil (x_then (hK2 _ _ ?_))
  clear hK2 K2
  refine c_block ?_
  refine forget [(0, _), (1, _), (2, _), (3, _), (4, _), (5, _), (6, _), (14, _), (53, _)] ⟨rfl, rfl, rfl, rfl, rfl, rfl, rfl, rfl, rfl, trivial⟩ (fun e => ?_)
  refine c_seq (fun K3 hK3 => ?_)
  refine c_reg ?_ -- region 3 ops.go:36
  refine wl (ro_cmp rfl rfl rfl) ?_
  refine wl (ro_assign rfl) ?_
  refine wl_nil (x_then (hK3 _ _ ?_))
  clear hK3 K3
  refine wc_condF rfl ?_
  refine c_seq (fun K4 hK4 => ?_)
  refine c_reg ?_ -- region 5 ops.go:38
  refine wl (ro_cmp rfl rfl rfl) ?_
  refine wl (ro_assign rfl) ?_
  refine wl_nil (x_then (hK4 _ _ ?_))
  clear hK4 K4
  refine wc_condF rfl ?_
  refine c_seq (fun K5 hK5 => ?_)
  refine c_reg ?_ -- region 7 ops.go:40
  refine wl (ro_cmp rfl rfl rfl) ?_
  refine wl (ro_assign rfl) ?_
  refine wl_nil (x_then (hK5 _ _ ?_))
  clear hK5 K5
  refine wc_condF rfl ?_
  refine c_seq (fun K6 hK6 => ?_)
  refine c_reg ?_ -- region 9 ops.go:42
  refine wl (ro_cmp rfl rfl rfl) ?_
  refine wl (ro_assign rfl) ?_
  refine wl_nil (x_then (hK6 _ _ ?_))
  clear hK6 K6
  refine wc_condF rfl ?_
  refine c_seq (fun K7 hK7 => ?_)
  refine c_reg ?_ -- region 11 ops.go:44
  refine wl (ro_cmp rfl rfl rfl) ?_
  refine wl (ro_assign rfl) ?_
  refine wl_nil (x_then (hK7 _ _ ?_))
  clear hK7 K7
  refine wc_condF rfl ?_
  refine c_seq (fun K8 hK8 => ?_)
  refine c_reg ?_ -- region 13 ops.go:46
  refine wl (ro_cmp rfl rfl rfl) ?_
  refine wl (ro_assign rfl) ?_
  refine wl_nil (x_then (hK8 _ _ ?_))
  clear hK8 K8
  refine wc_condF rfl ?_
  refine c_seq (fun K9 hK9 => ?_)
  refine c_reg ?_ -- region 15 ops.go:48
  refine wl (ro_cmp rfl rfl rfl) ?_
  refine wl (ro_assign rfl) ?_
  refine wl_nil (x_then (hK9 _ _ ?_))
  clear hK9 K9
  refine wc_condF rfl ?_
  refine c_seq (fun K10 hK10 => ?_)
  refine c_reg ?_ -- region 18 ops.go:51
  refine wl (ro_cmp rfl rfl rfl) ?_
  refine wl (ro_assign rfl) ?_
  refine wl_nil (x_then (hK10 _ _ ?_))
  clear hK10 K10
  refine wc_condF rfl ?_
  refine c_seq (fun K11 hK11 => ?_)
  refine c_reg ?_ -- region 21 ops.go:54
  refine wl (ro_cmp rfl rfl rfl) ?_
  refine wl (ro_assign rfl) ?_
  refine wl_nil (x_then (hK11 _ _ ?_))
  clear hK11 K11
  refine wc_condF rfl ?_
  refine c_seq (fun K12 hK12 => ?_)
  refine c_reg ?_ -- region 24 ops.go:57
  refine wl (ro_cmp rfl rfl rfl) ?_
  refine wl (ro_assign rfl) ?_
  refine wl_nil (x_then (hK12 _ _ ?_))
  clear hK12 K12
  refine wc_condF rfl ?_
  refine c_seq (fun K13 hK13 => ?_)
  refine c_reg ?_ -- region 27 ops.go:60
  refine wl (ro_cmp rfl rfl rfl) ?_
  refine wl (ro_assign rfl) ?_
  refine wl_nil (x_then (hK13 _ _ ?_))
  clear hK13 K13
  refine wc_condT rfl ?_
  refine c_seq (fun K14 hK14 => ?_)
  refine c_reg ?_ -- region 28 ops.go:61
  refine wl (ro_move rfl) ?_
  refine wl_call rfl en_244 (popA hR.dr hc ho (by omega)) ?_
  rintro _ u1 ⟨rfl, ow1, x1, f1, r1⟩
  have hs1 := hF.size
  replace hF := vm_trans hX hF f1
  replace hX := hX.trans hs1 x1
  replace hR := r1
  refine wl_new (ze_119) (fun b20 w2 hbb20 h20 F2 => ?_)
  have hbsb20 := Nat.le_trans hF.size hbb20
  have kh20 := hR.df b20 hbb20
  replace hF := hF.thenDrew.thenN F2
  replace hR := hR.thruN ((Fram.refl none' _).thenDrew.thenN F2)
  refine wl_puta rfl rfl ((pvc_one _)) sz_119 (rfl) h20 ((by simp)) (rfl) (fun w3 h20 F3 => ?_)
  replace hF := hF.thenDrew.thenO F3 (by first | exact .inr (by omega) | exact .inl rfl | exact .inl (by assumption) | assumption)
  replace hR := hR.hbput ((Fram.refl (one b20) _).thenDrew.thenO F3 (.inl rfl))
  refine wl_nil (x_then (hK14 _ _ ?_))
  clear hK14 K14
  refine forget [(0, _), (2, _), (20, _)] ⟨rfl, rfl, rfl, trivial⟩ (fun e => ?_)
  refine c_seq (fun K15 hK15 => ?_)
  refine c_reg ?_ -- region 29 ops.go:62
  refine wl (ro_move rfl) ?_
  refine wl_call rfl en_244 (popA hR.dr hc rfl (by simp only [List.length_cons]; omega)) ?_
  rintro _ u4 ⟨rfl, ow4, x4, f4, r4⟩
  obtain ⟨h20, kh20⟩ := vm_loc x4 f4 h20 kh20
  have hs4 := hF.size
  replace hF := vm_trans hX hF f4
  replace hX := hX.trans hs4 x4
  replace hR := r4
  refine wl_new (ze_119) (fun b21 w5 hbb21 h21 F5 => ?_)
  have hbsb21 := Nat.le_trans hF.size hbb21
  have hneb20b21 : b20 < b21 := Nat.lt_of_lt_of_le h20.lt hbb21
  have kh21 := hR.df b21 hbb21
  replace hF := hF.thenDrew.thenN F5
  replace hR := hR.thruN ((Fram.refl none' _).thenDrew.thenN F5)
  replace h20 := F5.blkN h20
  refine wl_puta rfl rfl ((pvc_one _)) sz_119 (rfl) h21 ((by simp)) (rfl) (fun w6 h21 F6 => ?_)
  replace hF := hF.thenDrew.thenO F6 (by first | exact .inr (by omega) | exact .inl rfl | exact .inl (by assumption) | assumption)
  replace hR := hR.hbput ((Fram.refl (one b21) _).thenDrew.thenO F6 (.inl rfl))
  replace h20 := F6.blkO h20 (by first | omega | exact ow_ne (by assumption) (by assumption) (by omega))
  refine wl_nil (x_then (hK15 _ _ ?_))
  clear hK15 K15
  refine forget [(0, _), (2, _), (20, _), (21, _)] ⟨rfl, rfl, rfl, rfl, trivial⟩ (fun e => ?_)
  refine c_seq (fun K16 hK16 => ?_)
  refine c_reg ?_ -- region 30 ops.go:63
  refine wl (ro_loadAggB rfl ag_119 (h21) rfl rfl) ?_
  refine wl_callP rfl en_272 (tabOf272 (s := mIndex) (fun q ↦ wf_idx (E.vo (v := v1) (by rw [ho]; simp)).wf (.inl q))) (fun pv w9 hE => bpp_pan (P := Tryz.prog) (fn := Tryz.f247) (AE.thr hX hF hR.q hE.2 (by rw [if_pos hE.1]; exact athrow_top (g := g) hc _ rfl))) ?_
  rintro _ w7 ⟨rfl, hq7, F7⟩
  replace hF := hF.thenDrew.thenN F7
  replace hR := hR.thruN ((Fram.refl none' _).thenDrew.thenN F7)
  replace h20 := F7.blkN h20
  replace h21 := F7.blkN h21
  have hq9 := hq7
  refine wl (ro_assign rfl) ?_
  refine wl_nil (x_then (hK16 _ _ ?_))
  clear hK16 K16
  refine forget [(0, _), (2, _), (20, _), (22, _)] ⟨rfl, rfl, rfl, rfl, trivial⟩ (fun e => ?_)
  refine c_seq (fun K17 hK17 => ?_)
  refine c_piF 12 6 10 [0, 1, 2, 3, 4, 5] [(7, false), (8, false), (9, false), (10, true), (11, true)] [(6, true), (7, false), (8, false), (9, false), (11, true)] (La b20 _ _ (La b21 _ _ (Mz C))) mixed (by kernel_rfl) rfl rfl (by kernel_rfl) (po_then (po_blk (po_bpp))) (⟨h20, h21, hR.rz⟩) ?_ -- region 31 ops.go:64
  refine wf_ro rfl (fun w hS => ro_move rfl) ?_
  refine wf_ro rfl (fun w hS => ro_nilCheck rfl) ?_
  refine wf_ro rfl (fun w hS => ro_fieldAddr (k := 1) rfl fo_89_1) ?_
  refine wf_ro rfl (fun w hS => let ⟨_, hc, h0, h1⟩ := hS.2.2; ro_loadB rfl sc_38 hc (h1)) ?_
  refine wf_ro rfl (fun w hS => ro_move rfl) ?_
  refine wf_ro rfl (fun w hS => ro_loadAggB rfl ag_119 (hS.1) rfl rfl) ?_
  refine wf_cx (R := fun v u => v = .tuple #[pv (tGet (a.tabs.getD v1.N []) v0), icv 0] ∧ Fram none' _ u) (G := none') rfl rfl rfl rfl rfl rfl rfl (by decide) (by decide) rfl (fun _ => rfl) en_270 ze_119 sz_119 rfl (fun w1 F => (AM.get270' (n := v1.N) (k := v0) (hR.dr.thruN F) ((E.vo (v := v1) (by rw [ho]; simp)).tb hq9) (E.vo (v := v0) (by rw [ho]; simp)).wf (E.vo (v := v0) (by rw [ho]; simp)).w).mono (fun v u h => ⟨⟨h.1, F.trans h.2⟩, h.2⟩)) (fun v u u9 h F => ⟨h.1, h.2.trans F⟩) (fun b h => h.elim) (fun v u h => ⟨pvc (tGet (a.tabs.getD v1.N []) v0), h.1, rfl, pvc_one _⟩) (fun u F => ⟨F.blkN h20, F.blkN h21, (hR.dr.thruN F).rz⟩) (fun v u h => ⟨h.2.blkN h20, h.2.blkN h21, (hR.dr.thruN h.2).rz⟩) (fun v u b u9 h hb F => ⟨F.blkO (h.2.blkN h20) (fun q => by have h1 := h20.lt; subst q; exact absurd hb (by exact Nat.not_le.2 h1)), F.blkO (h.2.blkN h21) (fun q => by have h1 := h21.lt; subst q; exact absurd hb (by exact Nat.not_le.2 h1)), ((hR.dr.thruN h.2).hbput F (hR.df _ hb)).rz⟩) (fun v u h => h.2.size) ?_
  intro cs w8 b23 w9 hR9 hcl hbb23 h0_ h23 F9
  have hcs := pair_cs hR9.1
  subst hcs
  have F8 := hR9.2
  have hbsb23 := Nat.le_trans hF.size hbb23
  have hneb20b23 : b20 < b23 := Nat.lt_of_lt_of_le h20.lt hbb23
  have hneb21b23 : b21 < b23 := Nat.lt_of_lt_of_le h21.lt hbb23
  have kh23 := hR.df b23 hbb23
  replace hF := hF.thenDrew.thenN F8
  replace hR := hR.thruN ((Fram.refl none' _).thenDrew.thenN F8)
  replace h20 := F8.blkN h20
  replace h21 := F8.blkN h21
  replace hF := hF.thenDrew.thenO F9 (by first | exact .inr (by omega) | exact .inl rfl | exact .inl (by assumption) | assumption)
  replace hR := hR.hbput ((Fram.refl (one b23) _).thenDrew.thenO F9 (.inl rfl))
  replace h20 := F9.blkO h20 (by first | omega | exact ow_ne (by assumption) (by assumption) (by omega))
  replace h21 := F9.blkO h21 (by first | omega | exact ow_ne (by assumption) (by assumption) (by omega))
  refine x_then (hK17 _ _ ?_)
  clear hK17 K17
  refine c_reg ?_ -- region 32 ops.go:65
  refine wl (ro_move rfl) ?_
  refine wl (ro_loadAggB rfl ag_119 (h23) rfl rfl) ?_
  refine wl_pu (vs := [tGet (a.tabs.getD v1.N []) v0]) (eo_bsV1 rfl se_83 zx_119) rfl hR.dr hc rfl (by show l.length + 1 ≤ 300; omega) ?_
  intro u10 ow10 x10 f10 r10
  obtain ⟨h20, kh20⟩ := vm_loc x10 f10 h20 kh20
  obtain ⟨h21, kh21⟩ := vm_loc x10 f10 h21 kh21
  obtain ⟨h23, kh23⟩ := vm_loc x10 f10 h23 kh23
  have hs10 := hF.size
  replace hF := vm_trans hX hF f10
  replace hX := hX.trans hs10 x10
  replace hR := r10
  refine wl_nil (x_blk ?_)
  refine bpp_end Tryz.results247 rfl ?_
  exact ⟨a, { g with ops := tGet (a.tabs.getD v1.N []) v0 :: l }, vars, rfl, rfl, (if_neg (by omega)).symm, rfl, _, hX, hF, hR⟩
set_option maxHeartbeats 8000000 in
theorem plain_12 (E : PE C fg fc w ow a y gs g vars p ids 12 z) : RetP Tryz.prog 247 [ptr C.E.mb, i64c a.cur, tptr C a.cur, fpt fg gs.length, prt C p, u8n 12, i64c z] w (PlR C fg fc w ow a y gs g (aplain (Psf C.F) 12 z (mkA a y gs g vars))) (AE C (kH a) w ow (aplain (Psf C.F) 12 z (mkA a y gs g vars))) := by
  have hR := E.r
  have hc := E.hc
  have hk := E.hk
  obtain ⟨V, κ, Vv, U, x, f, fs, o⟩ := hR.open hc
  have hX : Xt w ow ow := Xt.refl _ _
  have hF : Fram (tg ow vtT) w w := Fram.refl _ _
  have hol := E.ol
  have hnd := E.nd
  have hzz := E.hz
  obtain ⟨lT, hT, -, -, -, hT2, -⟩ := o.v.thA o.t.hx
  have hT2 := hT2 2 (.inl rfl)
  obtain ⟨lB, hB1, k1, q1, -, -⟩ := o.frow
  obtain ⟨lP, pa, pb, pc, hP, tP, rp, -, -, -⟩ := o.v.pro E.hp
  rw [Nat.zero_add] at rp
  obtain ⟨p0, ids0, n1, n2, n3⟩ := o.ns
  obtain ⟨rfl, rfl⟩ : p = p0 ∧ ids = ids0 := by have := hk.symm.trans n1; simpa using this
  have hwin := o.win n2
  have hln := o.t.ln
  have hsl := o.sl
  obtain ⟨v, v1, v2, l, ho⟩ := ops_3 (l := g.ops) hnd
  have hlo := congrArg List.length ho
  simp only [List.length_cons] at hlo
  have hap : aplain (Psf C.F) 12 z (mkA a y gs g vars) = stZ a y gs g vars v2 v1 v l := by
    unfold aplain
    simp only [mk_fr hc, mk_pro2 hk, E.pl, ho]
    simp only [Nat.reduceEqDiff, if_false, if_true, List.getD_cons_zero, List.getD_cons_succ, List.tail_cons, List.drop_succ_cons, List.drop_zero]
    unfold stZ
    congr 1
    congr 1
    congr 1
    exact nx_tabs hc _ l
  rw [hap]
  refine retp_of Tryz.func247 rfl Tryz.ntmps247 rfl ?_
  refine c_seq (fun K1 hK1 => ?_)
  refine c_pi [(0, false), (1, false), (2, false), (3, false), (4, false), (5, false), (6, false), (7, false), (8, false), (9, false), (10, false), (11, false), (12, false), (13, false), (14, false), (15, false), (16, false), (17, false), (18, false)] (SameH _) mixed (by kernel_rfl) rfl (by kernel_rfl) (po_then (po_bpp)) (sameH_now _ _) ?_ -- region 0 ops.go:34
  refine pi_ro rfl (fun w hS => ro_move rfl) ?_
  refine pi_ro rfl (fun w hS => ro_nilCheck rfl) ?_
  refine pi_ro rfl (fun w hS => ro_fieldAddr (k := 2) rfl fo_269_2) ?_
  refine pi_ro rfl (fun w hS => ro_loadB rfl sc_83 (Blk.of_heap hT hS) (hT2)) ?_
  refine pi_ro rfl (fun w hS => ro_move rfl) ?_
  refine pi_ro rfl (fun w hS => ro_nilCheck rfl) ?_
  refine pi_ro rfl (fun w hS => ro_fieldAddr (k := 2) rfl fo_331_2) ?_
  refine pi_ro rfl (fun w hS => ro_loadB rfl sc_3 (Blk.of_heap hB1 hS) (frow_at q1 (by decide))) ?_
  refine pi_ro rfl (fun w hS => ro_move rfl) ?_
  refine pi_ro rfl (fun w hS => ro_nilCheck rfl) ?_
  refine pi_ro rfl (fun w hS => ro_fieldAddr (k := 2) rfl fo_331_2) ?_
  refine pi_ro rfl (fun w hS => ro_loadB rfl sc_3 (Blk.of_heap hB1 hS) (frow_at q1 (by decide))) ?_
  refine pi_ro rfl (fun w hS => ro_move rfl) ?_
  refine pi_ro rfl (fun w hS => ro_nilCheck rfl) ?_
  refine pi_ro rfl (fun w hS => ro_fieldAddr (k := 1) rfl fo_258_1) ?_
  refine pi_ro rfl (fun w hS => ro_loadB rfl sc_3 (Blk.of_heap hP hS) (row_get rp (by decide))) ?_
  refine pi_ro rfl (fun w hS => ro_addN rfl rfl (by omega)) ?_
  refine pi_ro rfl (fun w hS => ro_slV hwin rfl rfl rfl se_83) ?_
  refine pi_ro rfl (fun w hS => ro_assign rfl) ?_
  refine pi_nil (x_then (hK1 _ _ ?_))
  clear hK1 K1
  refine forget [(0, _), (1, _), (2, _), (3, _), (4, _), (5, _), (6, _), (14, _)] ⟨rfl, rfl, rfl, rfl, rfl, rfl, rfl, rfl, trivial⟩ (fun e => ?_)
  refine c_seq (fun K2 hK2 => ?_)
  refine c_reg ?_ -- region 1 ops.go:35
  refine wl (ro_move rfl) ?_
  refine wl_nil (x_then (hK2 _ _ ?_))
  clear hK2 K2
  refine c_block ?_
  refine forget [(0, _), (1, _), (2, _), (3, _), (4, _), (5, _), (6, _), (14, _), (53, _)] ⟨rfl, rfl, rfl, rfl, rfl, rfl, rfl, rfl, rfl, trivial⟩ (fun e => ?_)
  refine c_seq (fun K3 hK3 => ?_)
  refine c_reg ?_ -- region 3 ops.go:36
  refine wl (ro_cmp rfl rfl rfl) ?_
  refine wl (ro_assign rfl) ?_
  refine wl_nil (x_then (hK3 _ _ ?_))
  clear hK3 K3
  refine wc_condF rfl ?_
  refine c_seq (fun K4 hK4 => ?_)
  refine c_reg ?_ -- region 5 ops.go:38
  refine wl (ro_cmp rfl rfl rfl) ?_
  refine wl (ro_assign rfl) ?_
  refine wl_nil (x_then (hK4 _ _ ?_))
  clear hK4 K4
  refine wc_condF rfl ?_
  refine c_seq (fun K5 hK5 => ?_)
  refine c_reg ?_ -- region 7 ops.go:40
  refine wl (ro_cmp rfl rfl rfl) ?_
  refine wl (ro_assign rfl) ?_
  refine wl_nil (x_then (hK5 _ _ ?_))
  clear hK5 K5
  refine wc_condF rfl ?_
  refine c_seq (fun K6 hK6 => ?_)
  refine c_reg ?_ -- region 9 ops.go:42
  refine wl (ro_cmp rfl rfl rfl) ?_
  refine wl (ro_assign rfl) ?_
  refine wl_nil (x_then (hK6 _ _ ?_))
  clear hK6 K6
  refine wc_condF rfl ?_
  refine c_seq (fun K7 hK7 => ?_)
  refine c_reg ?_ -- region 11 ops.go:44
  refine wl (ro_cmp rfl rfl rfl) ?_
  refine wl (ro_assign rfl) ?_
  refine wl_nil (x_then (hK7 _ _ ?_))
  clear hK7 K7
  refine wc_condF rfl ?_
  refine c_seq (fun K8 hK8 => ?_)
  refine c_reg ?_ -- region 13 ops.go:46
  refine wl (ro_cmp rfl rfl rfl) ?_
  refine wl (ro_assign rfl) ?_
  refine wl_nil (x_then (hK8 _ _ ?_))
  clear hK8 K8
  refine wc_condF rfl ?_
  refine c_seq (fun K9 hK9 => ?_)
  refine c_reg ?_ -- region 15 ops.go:48
  refine wl (ro_cmp rfl rfl rfl) ?_
  refine wl (ro_assign rfl) ?_
  refine wl_nil (x_then (hK9 _ _ ?_))
  clear hK9 K9
  refine wc_condF rfl ?_
  refine c_seq (fun K10 hK10 => ?_)
  refine c_reg ?_ -- region 18 ops.go:51
  refine wl (ro_cmp rfl rfl rfl) ?_
  refine wl (ro_assign rfl) ?_
  refine wl_nil (x_then (hK10 _ _ ?_))
  clear hK10 K10
  refine wc_condF rfl ?_
  refine c_seq (fun K11 hK11 => ?_)
  refine c_reg ?_ -- region 21 ops.go:54
  refine wl (ro_cmp rfl rfl rfl) ?_
  refine wl (ro_assign rfl) ?_
  refine wl_nil (x_then (hK11 _ _ ?_))
  clear hK11 K11
  refine wc_condF rfl ?_
  refine c_seq (fun K12 hK12 => ?_)
  refine c_reg ?_ -- region 24 ops.go:57
  refine wl (ro_cmp rfl rfl rfl) ?_
  refine wl (ro_assign rfl) ?_
  refine wl_nil (x_then (hK12 _ _ ?_))
  clear hK12 K12
  refine wc_condF rfl ?_
  refine c_seq (fun K13 hK13 => ?_)
  refine c_reg ?_ -- region 27 ops.go:60
  refine wl (ro_cmp rfl rfl rfl) ?_
  refine wl (ro_assign rfl) ?_
  refine wl_nil (x_then (hK13 _ _ ?_))
  clear hK13 K13
  refine wc_condF rfl ?_
  refine c_seq (fun K14 hK14 => ?_)
  refine c_reg ?_ -- region 33 ops.go:66
  refine wl (ro_cmp rfl rfl rfl) ?_
  refine wl (ro_assign rfl) ?_
  refine wl_nil (x_then (hK14 _ _ ?_))
  clear hK14 K14
  refine wc_condT rfl ?_
  refine c_seq (fun K15 hK15 => ?_)
  refine c_reg ?_ -- region 34 ops.go:67
  refine wl (ro_move rfl) ?_
  refine wl_call rfl en_244 (popA hR.dr hc ho (by omega)) ?_
  rintro _ u1 ⟨rfl, ow1, x1, f1, r1⟩
  have hs1 := hF.size
  replace hF := vm_trans hX hF f1
  replace hX := hX.trans hs1 x1
  replace hR := r1
  refine wl_new (ze_119) (fun b25 w2 hbb25 h25 F2 => ?_)
  have hbsb25 := Nat.le_trans hF.size hbb25
  have kh25 := hR.df b25 hbb25
  replace hF := hF.thenDrew.thenN F2
  replace hR := hR.thruN ((Fram.refl none' _).thenDrew.thenN F2)
  refine wl_puta rfl rfl ((pvc_one _)) sz_119 (rfl) h25 ((by simp)) (rfl) (fun w3 h25 F3 => ?_)
  replace hF := hF.thenDrew.thenO F3 (by first | exact .inr (by omega) | exact .inl rfl | exact .inl (by assumption) | assumption)
  replace hR := hR.hbput ((Fram.refl (one b25) _).thenDrew.thenO F3 (.inl rfl))
  refine wl_nil (x_then (hK15 _ _ ?_))
  clear hK15 K15
  refine forget [(0, _), (2, _), (25, _)] ⟨rfl, rfl, rfl, trivial⟩ (fun e => ?_)
  refine c_seq (fun K16 hK16 => ?_)
  refine c_reg ?_ -- region 35 ops.go:68
  refine wl (ro_move rfl) ?_
  refine wl_call rfl en_244 (popA hR.dr hc rfl (by simp only [List.length_cons]; omega)) ?_
  rintro _ u4 ⟨rfl, ow4, x4, f4, r4⟩
  obtain ⟨h25, kh25⟩ := vm_loc x4 f4 h25 kh25
  have hs4 := hF.size
  replace hF := vm_trans hX hF f4
  replace hX := hX.trans hs4 x4
  replace hR := r4
  refine wl_new (ze_119) (fun b26 w5 hbb26 h26 F5 => ?_)
  have hbsb26 := Nat.le_trans hF.size hbb26
  have hneb25b26 : b25 < b26 := Nat.lt_of_lt_of_le h25.lt hbb26
  have kh26 := hR.df b26 hbb26
  replace hF := hF.thenDrew.thenN F5
  replace hR := hR.thruN ((Fram.refl none' _).thenDrew.thenN F5)
  replace h25 := F5.blkN h25
  refine wl_puta rfl rfl ((pvc_one _)) sz_119 (rfl) h26 ((by simp)) (rfl) (fun w6 h26 F6 => ?_)
  replace hF := hF.thenDrew.thenO F6 (by first | exact .inr (by omega) | exact .inl rfl | exact .inl (by assumption) | assumption)
  replace hR := hR.hbput ((Fram.refl (one b26) _).thenDrew.thenO F6 (.inl rfl))
  replace h25 := F6.blkO h25 (by first | omega | exact ow_ne (by assumption) (by assumption) (by omega))
  refine wl_nil (x_then (hK16 _ _ ?_))
  clear hK16 K16
  refine forget [(0, _), (2, _), (25, _), (26, _)] ⟨rfl, rfl, rfl, rfl, trivial⟩ (fun e => ?_)
  refine c_seq (fun K17 hK17 => ?_)
  refine c_reg ?_ -- region 36 ops.go:69
  refine wl (ro_move rfl) ?_
  refine wl_call rfl en_244 (popA hR.dr hc rfl (by simp only [List.length_cons]; omega)) ?_
  rintro _ u7 ⟨rfl, ow7, x7, f7, r7⟩
  obtain ⟨h25, kh25⟩ := vm_loc x7 f7 h25 kh25
  obtain ⟨h26, kh26⟩ := vm_loc x7 f7 h26 kh26
  have hs7 := hF.size
  replace hF := vm_trans hX hF f7
  replace hX := hX.trans hs7 x7
  replace hR := r7
  refine wl_new (ze_119) (fun b27 w8 hbb27 h27 F8 => ?_)
  have hbsb27 := Nat.le_trans hF.size hbb27
  have hneb25b27 : b25 < b27 := Nat.lt_of_lt_of_le h25.lt hbb27
  have hneb26b27 : b26 < b27 := Nat.lt_of_lt_of_le h26.lt hbb27
  have kh27 := hR.df b27 hbb27
  replace hF := hF.thenDrew.thenN F8
  replace hR := hR.thruN ((Fram.refl none' _).thenDrew.thenN F8)
  replace h25 := F8.blkN h25
  replace h26 := F8.blkN h26
  refine wl_puta rfl rfl ((pvc_one _)) sz_119 (rfl) h27 ((by simp)) (rfl) (fun w9 h27 F9 => ?_)
  replace hF := hF.thenDrew.thenO F9 (by first | exact .inr (by omega) | exact .inl rfl | exact .inl (by assumption) | assumption)
  replace hR := hR.hbput ((Fram.refl (one b27) _).thenDrew.thenO F9 (.inl rfl))
  replace h25 := F9.blkO h25 (by first | omega | exact ow_ne (by assumption) (by assumption) (by omega))
  replace h26 := F9.blkO h26 (by first | omega | exact ow_ne (by assumption) (by assumption) (by omega))
  refine wl_nil (x_then (hK17 _ _ ?_))
  clear hK17 K17
  refine forget [(0, _), (25, _), (26, _), (27, _)] ⟨rfl, rfl, rfl, rfl, trivial⟩ (fun e => ?_)
  refine c_seq (fun K18 hK18 => ?_)
  refine c_reg ?_ -- region 37 ops.go:70
  refine wl (ro_loadAggB rfl ag_119 (h27) rfl rfl) ?_
  refine wl_callP rfl en_272 (tabOf272 (s := mIndex) (fun q ↦ wf_idx (E.vo (v := v2) (by rw [ho]; simp)).wf (.inl q))) (fun pv w9 hE => bpp_pan (P := Tryz.prog) (fn := Tryz.f247) (AE.thr hX hF hR.q hE.2 (by unfold stZ; rw [if_pos hE.1]; exact athrow_top (g := g) hc _ rfl))) ?_
  rintro _ w10 ⟨rfl, hq10, F10⟩
  replace hF := hF.thenDrew.thenN F10
  replace hR := hR.thruN ((Fram.refl none' _).thenDrew.thenN F10)
  replace h25 := F10.blkN h25
  replace h26 := F10.blkN h26
  replace h27 := F10.blkN h27
  have hq9 := hq10
  refine wl (ro_assign rfl) ?_
  refine wl_nil (x_then (hK18 _ _ ?_))
  clear hK18 K18
  refine c_reg ?_ -- region 38 ops.go:71
  refine wl (ro_move rfl) ?_
  refine wl (ro_move rfl) ?_
  refine wl (ro_loadAggB rfl ag_119 (h26) rfl rfl) ?_
  refine wl (ro_loadAggB rfl ag_119 (h25) rfl rfl) ?_
  refine wl_callP rfl en_271 (storeZ (l := l) (t := v2) (k := v1) (v := v) E hR hq9 ((E.vo (v := v2) (by rw [ho]; simp)).tb hq9) (E.vo (v := v1) (by rw [ho]; simp)) (E.vo (v := v) (by rw [ho]; simp))) (fun pv w9 hE => bpp_pan (P := Tryz.prog) (fn := Tryz.f247) (AE.go hX hF hE)) ?_
  rintro _ u11 ⟨hq8, rfl, ow11, x11, f11, r11⟩
  obtain ⟨h25, kh25⟩ := vm_loc x11 f11 h25 kh25
  obtain ⟨h26, kh26⟩ := vm_loc x11 f11 h26 kh26
  obtain ⟨h27, kh27⟩ := vm_loc x11 f11 h27 kh27
  have hs11 := hF.size
  replace hF := vm_trans hX hF f11
  replace hX := hX.trans hs11 x11
  replace hR := r11
  refine wl_nil (x_blk ?_)
  refine bpp_end Tryz.results247 rfl ?_
  exact ⟨{ a with tabs := a.tabs.set (v2).N (tSet (a.tabs.getD (v2).N []) v1 v).2 }, { g with ops := l }, vars, rfl, rfl, hq8, rfl, _, hX, hF, hR⟩
set_option maxHeartbeats 8000000 in
theorem plain_13 (E : PE C fg fc w ow a y gs g vars p ids 13 z) : RetP Tryz.prog 247 [ptr C.E.mb, i64c a.cur, tptr C a.cur, fpt fg gs.length, prt C p, u8n 13, i64c z] w (PlR C fg fc w ow a y gs g (aplain (Psf C.F) 13 z (mkA a y gs g vars))) (AE C (kH a) w ow (aplain (Psf C.F) 13 z (mkA a y gs g vars))) := by
  have hR := E.r
  have hc := E.hc
  have hk := E.hk
  obtain ⟨V, κ, Vv, U, x, f, fs, o⟩ := hR.open hc
  have hX : Xt w ow ow := Xt.refl _ _
  have hF : Fram (tg ow vtT) w w := Fram.refl _ _
  have hol := E.ol
  have hnd := E.nd
  have hzz := E.hz
  obtain ⟨lT, hT, -, -, -, hT2, -⟩ := o.v.thA o.t.hx
  have hT2 := hT2 2 (.inl rfl)
  obtain ⟨lB, hB1, k1, q1, -, -⟩ := o.frow
  obtain ⟨lP, pa, pb, pc, hP, tP, rp, -, -, -⟩ := o.v.pro E.hp
  rw [Nat.zero_add] at rp
  obtain ⟨p0, ids0, n1, n2, n3⟩ := o.ns
  obtain ⟨rfl, rfl⟩ : p = p0 ∧ ids = ids0 := by have := hk.symm.trans n1; simpa using this
  have hwin := o.win n2
  have hln := o.t.ln
  have hsl := o.sl
  obtain ⟨v, v1, l, ho⟩ := ops_2 (l := g.ops) hnd
  have hlo := congrArg List.length ho
  simp only [List.length_cons] at hlo
  have hap : aplain (Psf C.F) 13 z (mkA a y gs g vars) = stZ a y gs g vars v1 (vNum (fInt z)) v (v1 :: l) := by
    unfold aplain
    simp only [mk_fr hc, mk_pro2 hk, E.pl, ho]
    simp only [Nat.reduceEqDiff, if_false, if_true, List.getD_cons_zero, List.getD_cons_succ, List.tail_cons, List.drop_succ_cons, List.drop_zero]
    unfold stZ
    congr 1
    congr 1
    congr 1
    exact nx_tabs hc _ (v1 :: l)
  rw [hap]
  refine retp_of Tryz.func247 rfl Tryz.ntmps247 rfl ?_
  refine c_seq (fun K1 hK1 => ?_)
  refine c_pi [(0, false), (1, false), (2, false), (3, false), (4, false), (5, false), (6, false), (7, false), (8, false), (9, false), (10, false), (11, false), (12, false), (13, false), (14, false), (15, false), (16, false), (17, false), (18, false)] (SameH _) mixed (by kernel_rfl) rfl (by kernel_rfl) (po_then (po_bpp)) (sameH_now _ _) ?_ -- region 0 ops.go:34
  refine pi_ro rfl (fun w hS => ro_move rfl) ?_
  refine pi_ro rfl (fun w hS => ro_nilCheck rfl) ?_
  refine pi_ro rfl (fun w hS => ro_fieldAddr (k := 2) rfl fo_269_2) ?_
  refine pi_ro rfl (fun w hS => ro_loadB rfl sc_83 (Blk.of_heap hT hS) (hT2)) ?_
  refine pi_ro rfl (fun w hS => ro_move rfl) ?_
  refine pi_ro rfl (fun w hS => ro_nilCheck rfl) ?_
  refine pi_ro rfl (fun w hS => ro_fieldAddr (k := 2) rfl fo_331_2) ?_
  refine pi_ro rfl (fun w hS => ro_loadB rfl sc_3 (Blk.of_heap hB1 hS) (frow_at q1 (by decide))) ?_
  refine pi_ro rfl (fun w hS => ro_move rfl) ?_
  refine pi_ro rfl (fun w hS => ro_nilCheck rfl) ?_
  refine pi_ro rfl (fun w hS => ro_fieldAddr (k := 2) rfl fo_331_2) ?_
  refine pi_ro rfl (fun w hS => ro_loadB rfl sc_3 (Blk.of_heap hB1 hS) (frow_at q1 (by decide))) ?_
  refine pi_ro rfl (fun w hS => ro_move rfl) ?_
  refine pi_ro rfl (fun w hS => ro_nilCheck rfl) ?_
  refine pi_ro rfl (fun w hS => ro_fieldAddr (k := 1) rfl fo_258_1) ?_
  refine pi_ro rfl (fun w hS => ro_loadB rfl sc_3 (Blk.of_heap hP hS) (row_get rp (by decide))) ?_
  refine pi_ro rfl (fun w hS => ro_addN rfl rfl (by omega)) ?_
  refine pi_ro rfl (fun w hS => ro_slV hwin rfl rfl rfl se_83) ?_
  refine pi_ro rfl (fun w hS => ro_assign rfl) ?_
  refine pi_nil (x_then (hK1 _ _ ?_))
  clear hK1 K1
  refine forget [(0, _), (1, _), (2, _), (3, _), (4, _), (5, _), (6, _), (14, _)] ⟨rfl, rfl, rfl, rfl, rfl, rfl, rfl, rfl, trivial⟩ (fun e => ?_)
  refine c_seq (fun K2 hK2 => ?_)
  refine c_reg ?_ -- region 1 ops.go:35
  refine wl (ro_move rfl) ?_
  refine wl_nil (x_then (hK2 _ _ ?_))
  clear hK2 K2
  refine c_block ?_
  refine forget [(0, _), (1, _), (2, _), (3, _), (4, _), (5, _), (6, _), (14, _), (53, _)] ⟨rfl, rfl, rfl, rfl, rfl, rfl, rfl, rfl, rfl, trivial⟩ (fun e => ?_)
  refine c_seq (fun K3 hK3 => ?_)
  refine c_reg ?_ -- region 3 ops.go:36
  refine wl (ro_cmp rfl rfl rfl) ?_
  refine wl (ro_assign rfl) ?_
  refine wl_nil (x_then (hK3 _ _ ?_))
  clear hK3 K3
  refine wc_condF rfl ?_
  refine c_seq (fun K4 hK4 => ?_)
  refine c_reg ?_ -- region 5 ops.go:38
  refine wl (ro_cmp rfl rfl rfl) ?_
  refine wl (ro_assign rfl) ?_
  refine wl_nil (x_then (hK4 _ _ ?_))
  clear hK4 K4
  refine wc_condF rfl ?_
  refine c_seq (fun K5 hK5 => ?_)
  refine c_reg ?_ -- region 7 ops.go:40
  refine wl (ro_cmp rfl rfl rfl) ?_
  refine wl (ro_assign rfl) ?_
  refine wl_nil (x_then (hK5 _ _ ?_))
  clear hK5 K5
  refine wc_condF rfl ?_
  refine c_seq (fun K6 hK6 => ?_)
  refine c_reg ?_ -- region 9 ops.go:42
  refine wl (ro_cmp rfl rfl rfl) ?_
  refine wl (ro_assign rfl) ?_
  refine wl_nil (x_then (hK6 _ _ ?_))
  clear hK6 K6
  refine wc_condF rfl ?_
  refine c_seq (fun K7 hK7 => ?_)
  refine c_reg ?_ -- region 11 ops.go:44
  refine wl (ro_cmp rfl rfl rfl) ?_
  refine wl (ro_assign rfl) ?_
  refine wl_nil (x_then (hK7 _ _ ?_))
  clear hK7 K7
  refine wc_condF rfl ?_
  refine c_seq (fun K8 hK8 => ?_)
  refine c_reg ?_ -- region 13 ops.go:46
  refine wl (ro_cmp rfl rfl rfl) ?_
  refine wl (ro_assign rfl) ?_
  refine wl_nil (x_then (hK8 _ _ ?_))
  clear hK8 K8
  refine wc_condF rfl ?_
  refine c_seq (fun K9 hK9 => ?_)
  refine c_reg ?_ -- region 15 ops.go:48
  refine wl (ro_cmp rfl rfl rfl) ?_
  refine wl (ro_assign rfl) ?_
  refine wl_nil (x_then (hK9 _ _ ?_))
  clear hK9 K9
  refine wc_condF rfl ?_
  refine c_seq (fun K10 hK10 => ?_)
  refine c_reg ?_ -- region 18 ops.go:51
  refine wl (ro_cmp rfl rfl rfl) ?_
  refine wl (ro_assign rfl) ?_
  refine wl_nil (x_then (hK10 _ _ ?_))
  clear hK10 K10
  refine wc_condF rfl ?_
  refine c_seq (fun K11 hK11 => ?_)
  refine c_reg ?_ -- region 21 ops.go:54
  refine wl (ro_cmp rfl rfl rfl) ?_
  refine wl (ro_assign rfl) ?_
  refine wl_nil (x_then (hK11 _ _ ?_))
  clear hK11 K11
  refine wc_condF rfl ?_
  refine c_seq (fun K12 hK12 => ?_)
  refine c_reg ?_ -- region 24 ops.go:57
  refine wl (ro_cmp rfl rfl rfl) ?_
  refine wl (ro_assign rfl) ?_
  refine wl_nil (x_then (hK12 _ _ ?_))
  clear hK12 K12
  refine wc_condF rfl ?_
  refine c_seq (fun K13 hK13 => ?_)
  refine c_reg ?_ -- region 27 ops.go:60
  refine wl (ro_cmp rfl rfl rfl) ?_
  refine wl (ro_assign rfl) ?_
  refine wl_nil (x_then (hK13 _ _ ?_))
  clear hK13 K13
  refine wc_condF rfl ?_
  refine c_seq (fun K14 hK14 => ?_)
  refine c_reg ?_ -- region 33 ops.go:66
  refine wl (ro_cmp rfl rfl rfl) ?_
  refine wl (ro_assign rfl) ?_
  refine wl_nil (x_then (hK14 _ _ ?_))
  clear hK14 K14
  refine wc_condF rfl ?_
  refine c_seq (fun K15 hK15 => ?_)
  refine c_reg ?_ -- region 39 ops.go:72
  refine wl (ro_cmp rfl rfl rfl) ?_
  refine wl (ro_assign rfl) ?_
  refine wl_nil (x_then (hK15 _ _ ?_))
  clear hK15 K15
  refine wc_condT rfl ?_
  refine c_seq (fun K16 hK16 => ?_)
  refine c_reg ?_ -- region 40 ops.go:73
  refine wl (ro_move rfl) ?_
  refine wl_call rfl en_244 (popA hR.dr hc ho (by omega)) ?_
  rintro _ u1 ⟨rfl, ow1, x1, f1, r1⟩
  have hs1 := hF.size
  replace hF := vm_trans hX hF f1
  replace hX := hX.trans hs1 x1
  replace hR := r1
  refine wl_new (ze_119) (fun b29 w2 hbb29 h29 F2 => ?_)
  have hbsb29 := Nat.le_trans hF.size hbb29
  have kh29 := hR.df b29 hbb29
  replace hF := hF.thenDrew.thenN F2
  replace hR := hR.thruN ((Fram.refl none' _).thenDrew.thenN F2)
  refine wl_puta rfl rfl ((pvc_one _)) sz_119 (rfl) h29 ((by simp)) (rfl) (fun w3 h29 F3 => ?_)
  replace hF := hF.thenDrew.thenO F3 (by first | exact .inr (by omega) | exact .inl rfl | exact .inl (by assumption) | assumption)
  replace hR := hR.hbput ((Fram.refl (one b29) _).thenDrew.thenO F3 (.inl rfl))
  obtain ⟨V1, κ1, Vv1, U1, x1, f1, fs1, o1⟩ := hR.open hc
  obtain ⟨lT, hT, -, -, -, hT2, -⟩ := o1.v.thA o1.t.hx
  have hT2 := hT2 2 (.inl rfl)
  have hsl1 := o1.sl
  obtain ⟨m9, hl9, hv9⟩ := o1.topv rfl
  obtain ⟨sg, sc, hU⟩ := o1.sg (by omega)
  rw [hU, hl9] at hT2
  rw [hl9] at hU hsl1
  obtain ⟨lS, hB5, ts, hls, hcs, hrw, -⟩ := o1.v.stkR o1.t.hx (by rw [hl9]; exact hU)
  have rS := hrw _ _ hv9
  have hsl1 : m9 + 1 ≤ 2500 := by simp only [List.length_cons] at hsl1; omega
  refine wl_nil (x_then (hK16 _ _ ?_))
  clear hK16 K16
  refine forget [(0, _), (2, _), (6, _), (29, _)] ⟨rfl, rfl, rfl, rfl, trivial⟩ (fun e => ?_)
  refine c_seq (fun K17 hK17 => ?_)
  refine c_pi [(0, false), (1, false), (2, false), (3, false), (4, false), (5, false), (6, false), (7, false), (8, false), (9, false), (10, false), (11, false), (12, true), (13, false)] (La b29 _ _ (La C.E.tb _ _ (La sg _ _ (Mz C)))) mixed (by kernel_rfl) rfl (by kernel_rfl) (po_then (po_blk (po_bpp))) (⟨h29, hT, hB5, hR.rz⟩) ?_ -- region 41 ops.go:74
  refine pi_ro rfl (fun w hS => ro_move rfl) ?_
  refine pi_ro rfl (fun w hS => ro_nilCheck rfl) ?_
  refine pi_ro rfl (fun w hS => ro_fieldAddr (k := 2) rfl fo_269_2) ?_
  refine pi_ro rfl (fun w hS => ro_loadB rfl sc_83 (hS.2.1) (hT2)) ?_
  refine pi_ro rfl (fun w hS => ro_move rfl) ?_
  refine pi_ro rfl (fun w hS => ro_nilCheck rfl) ?_
  refine pi_ro rfl (fun w hS => ro_fieldAddr (k := 2) rfl fo_269_2) ?_
  refine pi_ro rfl (fun w hS => ro_loadB rfl sc_83 (hS.2.1) (hT2)) ?_
  refine pi_ro rfl (fun w hS => ro_lenL rfl se_83) ?_
  refine pi_ro rfl (fun w hS => ro_arith rfl rfl rfl (Go.IntWalk.i64_in _ (by omega))) ?_
  refine pi_ro rfl (fun w hS => ro_indexAddr (et := 119) (k := 3) rfl rfl se_83 ((show (((m9 + 1 : Nat) : Int) - 1) = ((m9 : Nat) : Int) by omega)) ((by omega))) ?_
  refine pi_ro rfl (fun w hS => ro_loadAggB rfl ag_119 (hS.2.2.1) (pvc_len _) ((by rw [Nat.zero_add]; exact rS))) ?_
  refine pi_callP rfl rfl en_272 (tabOf272 (s := mIndex) (fun q ↦ wf_idx (E.vo (v := v1) (by rw [ho]; simp)).wf (.inl q))) (fun pv w9 hE => bpp_pan (P := Tryz.prog) (fn := Tryz.f247) (AE.thr hX hF hR.q hE.2 (by unfold stZ; rw [if_pos hE.1]; exact athrow_top (g := g) hc _ rfl))) ?_
  rintro _ w4 ⟨rfl, hq4, F4⟩
  replace hF := hF.thenDrew.thenN F4
  replace hR := hR.thruN ((Fram.refl none' _).thenDrew.thenN F4)
  replace h29 := F4.blkN h29
  replace hT := F4.blkN hT
  replace hB5 := F4.blkN hB5
  refine ⟨⟨h29, hT, hB5, hR.rz⟩, ?_⟩
  have hq9 := ‹v1.T = 4›
  refine pi_ro rfl (fun w hS => ro_assign rfl) ?_
  refine pi_nil (x_then (hK17 _ _ ?_))
  clear hK17 K17
  refine forget [(0, _), (6, _), (29, _), (30, _)] ⟨rfl, rfl, rfl, rfl, trivial⟩ (fun e => ?_)
  refine c_seq (fun K18 hK18 => ?_)
  refine c_reg ?_ -- region 42 ops.go:75
  refine wl (ro_move rfl) ?_
  refine wl (ro_nilCheck rfl) ?_
  refine wl (ro_fieldAddr (k := 0) rfl fo_89_0) ?_
  obtain ⟨lz, hz, hz0, hz1⟩ := hR.rz
  refine wl (ro_loadB rfl sc_36 hz hz0) ?_
  refine wl (ro_move rfl) ?_
  refine wl_call rfl en_249 (FromInt249 (i := z)) ?_
  rintro _ u0 ⟨rfl, hw0⟩
  rw [hw0]
  clear hw0 u0
  refine wl (ro_assign rfl) ?_
  refine wl_nil (x_then (hK18 _ _ ?_))
  clear hK18 K18
  refine c_reg ?_ -- region 43 ops.go:76
  refine wl (ro_move rfl) ?_
  refine wl (ro_move rfl) ?_
  refine wl (ro_move rfl) ?_
  refine wl (ro_build rfl bld_119_0_1) ?_
  refine wl (ro_loadAggB rfl ag_119 (h29) rfl rfl) ?_
  refine wl_callP rfl en_271 (storeZ (l := v1 :: l) (t := v1) (k := vNum (fInt z)) (v := v) E hR hq9 ((E.vo (v := v1) (by rw [ho]; simp)).tb hq9) (VV.num _ _ _ (fInt_lt z) fInt_nan) (E.vo (v := v) (by rw [ho]; simp))) (fun pv w9 hE => bpp_pan (P := Tryz.prog) (fn := Tryz.f247) (AE.go hX hF hE)) ?_
  rintro _ u5 ⟨hq8, rfl, ow5, x5, f5, r5⟩
  obtain ⟨h29, kh29⟩ := vm_loc x5 f5 h29 kh29
  have hs5 := hF.size
  replace hF := vm_trans hX hF f5
  replace hX := hX.trans hs5 x5
  replace hR := r5
  refine wl_nil (x_blk ?_)
  refine bpp_end Tryz.results247 rfl ?_
  exact ⟨{ a with tabs := a.tabs.set (v1).N (tSet (a.tabs.getD (v1).N []) (vNum (fInt z)) v).2 }, { g with ops := v1 :: l }, vars, rfl, rfl, hq8, rfl, _, hX, hF, hR⟩
end
end Go.Proofs.Qxb6500568aGreatDoor
