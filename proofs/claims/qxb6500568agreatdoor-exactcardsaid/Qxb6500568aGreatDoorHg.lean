import Derived.Test.Qxb6500568aGreatDoorHf
/- The machine: plain instructions. -/
namespace Go.Proofs.Qxb6500568aGreatDoor
open Ieee
set_option linter.unusedVariables false
set_option linter.unusedSimpArgs false
set_option linter.unusedSectionVars false

section
variable {C : VC} {w : World} {ow : Nat → Nat} {a : AS} {y : ATh} {gs : List AFr} {g : AFr} {vars : List PV} {fg fc p z : Nat} {ids : List Nat}
set_option maxHeartbeats 8000000 in
theorem plain_7 (E : PE C fg fc w ow a y gs g vars p ids 7 z) : RetP Tryz.prog 247 [ptr C.E.mb, i64c a.cur, tptr C a.cur, fpt fg gs.length, prt C p, u8n 7, i64c z] w (PlR C fg fc w ow a y gs g (aplain (Psf C.F) 7 z (mkA a y gs g vars))) (AE C (kH a) w ow (aplain (Psf C.F) 7 z (mkA a y gs g vars))) := by
  have hR := E.r
  have hc := E.hc
  have hk := E.hk
  obtain ⟨V, κ, Vv, U, x, f, fs, o⟩ := hR.open hc
  have hX : Xt w ow ow := Xt.refl _ _
  have hF : Fram (tg ow vtT) w w := Fram.refl _ _
  have hol := E.ol
  have hnd := E.nd
  have hzz := E.hz
  obtain ⟨lT, hT, -, -, -, hT2, -⟩ := o.v.thA o.t.hx
  have hT2 := hT2 2 (.inl rfl)
  obtain ⟨lB, hB1, k1, q1, -, -⟩ := o.frow
  obtain ⟨lP, pa, pb, pc, hP, tP, rp, -, -, -⟩ := o.v.pro E.hp
  rw [Nat.zero_add] at rp
  obtain ⟨p0, ids0, n1, n2, n3⟩ := o.ns
  obtain ⟨rfl, rfl⟩ : p = p0 ∧ ids = ids0 := by have := hk.symm.trans n1; simpa using this
  have hwin := o.win n2
  have hln := o.t.ln
  have hsl := o.sl
  have hzi : z < ids.length := by have := E.sn.r.2.2.2.2.2.1 (.inl rfl); rw [E.id] at this; exact this
  have hap : aplain (Psf C.F) 7 z (mkA a y gs g vars) = mkA a y gs { g with ops := vars.getD (ids.getD z 0) vNil :: g.ops, pc := g.pc + 1 } vars := by
    unfold aplain
    simp only [mk_fr hc, mk_ops hc, mk_pc hc, mk_pro2 hk, mk_slot hc, mk_up hc hk, E.pl, aset_mk]; simp [AS.var, mkA_vars, mk_fr hc, mk_ops hc, mk_pc hc, mkA_tabs, ]
  rw [hap]
  refine retp_of Tryz.func247 rfl Tryz.ntmps247 rfl ?_
  refine c_seq (fun K1 hK1 => ?_)
  refine c_pi [(0, false), (1, false), (2, false), (3, false), (4, false), (5, false), (6, false), (7, false), (8, false), (9, false), (10, false), (11, false), (12, false), (13, false), (14, false), (15, false), (16, false), (17, false), (18, false)] (SameH _) mixed (by kernel_rfl) rfl (by kernel_rfl) (po_then (po_bpp)) (sameH_now _ _) ?_ -- region 0 ops.go:34
  refine pi_ro rfl (fun w hS => ro_move rfl) ?_
  refine pi_ro rfl (fun w hS => ro_nilCheck rfl) ?_
  refine pi_ro rfl (fun w hS => ro_fieldAddr (k := 2) rfl fo_269_2) ?_
  refine pi_ro rfl (fun w hS => ro_loadB rfl sc_83 (Blk.of_heap hT hS) (hT2)) ?_
  refine pi_ro rfl (fun w hS => ro_move rfl) ?_
  refine pi_ro rfl (fun w hS => ro_nilCheck rfl) ?_
  refine pi_ro rfl (fun w hS => ro_fieldAddr (k := 2) rfl fo_331_2) ?_
  refine pi_ro rfl (fun w hS => ro_loadB rfl sc_3 (Blk.of_heap hB1 hS) (frow_at q1 (by decide))) ?_
  refine pi_ro rfl (fun w hS => ro_move rfl) ?_
  refine pi_ro rfl (fun w hS => ro_nilCheck rfl) ?_
  refine pi_ro rfl (fun w hS => ro_fieldAddr (k := 2) rfl fo_331_2) ?_
  refine pi_ro rfl (fun w hS => ro_loadB rfl sc_3 (Blk.of_heap hB1 hS) (frow_at q1 (by decide))) ?_
  refine pi_ro rfl (fun w hS => ro_move rfl) ?_
  refine pi_ro rfl (fun w hS => ro_nilCheck rfl) ?_
  refine pi_ro rfl (fun w hS => ro_fieldAddr (k := 1) rfl fo_258_1) ?_
  refine pi_ro rfl (fun w hS => ro_loadB rfl sc_3 (Blk.of_heap hP hS) (row_get rp (by decide))) ?_
  refine pi_ro rfl (fun w hS => ro_addN rfl rfl (by omega)) ?_
  refine pi_ro rfl (fun w hS => ro_slV hwin rfl rfl rfl se_83) ?_
  refine pi_ro rfl (fun w hS => ro_assign rfl) ?_
  refine pi_nil (x_then (hK1 _ _ ?_))
  clear hK1 K1
  refine forget [(0, _), (1, _), (2, _), (3, _), (4, _), (5, _), (6, _), (14, _)] ⟨rfl, rfl, rfl, rfl, rfl, rfl, rfl, rfl, trivial⟩ (fun e => ?_)
  refine c_seq (fun K2 hK2 => ?_)
  refine c_reg ?_ -- region 1 ops.go:35
  refine wl (ro_move rfl) ?_
  refine wl_nil (x_then (hK2 _ _ ?_))
  clear hK2 K2
  refine c_block ?_
  refine forget [(0, _), (1, _), (2, _), (3, _), (4, _), (5, _), (6, _), (14, _), (53, _)] ⟨rfl, rfl, rfl, rfl, rfl, rfl, rfl, rfl, rfl, trivial⟩ (fun e => ?_)
  refine c_seq (fun K3 hK3 => ?_)
  refine c_reg ?_ -- region 3 ops.go:36
  refine wl (ro_cmp rfl rfl rfl) ?_
  refine wl (ro_assign rfl) ?_
  refine wl_nil (x_then (hK3 _ _ ?_))
  clear hK3 K3
  refine wc_condF rfl ?_
  refine c_seq (fun K4 hK4 => ?_)
  refine c_reg ?_ -- region 5 ops.go:38
  refine wl (ro_cmp rfl rfl rfl) ?_
  refine wl (ro_assign rfl) ?_
  refine wl_nil (x_then (hK4 _ _ ?_))
  clear hK4 K4
  refine wc_condF rfl ?_
  refine c_seq (fun K5 hK5 => ?_)
  refine c_reg ?_ -- region 7 ops.go:40
  refine wl (ro_cmp rfl rfl rfl) ?_
  refine wl (ro_assign rfl) ?_
  refine wl_nil (x_then (hK5 _ _ ?_))
  clear hK5 K5
  refine wc_condF rfl ?_
  refine c_seq (fun K6 hK6 => ?_)
  refine c_reg ?_ -- region 9 ops.go:42
  refine wl (ro_cmp rfl rfl rfl) ?_
  refine wl (ro_assign rfl) ?_
  refine wl_nil (x_then (hK6 _ _ ?_))
  clear hK6 K6
  refine wc_condF rfl ?_
  refine c_seq (fun K7 hK7 => ?_)
  refine c_reg ?_ -- region 11 ops.go:44
  refine wl (ro_cmp rfl rfl rfl) ?_
  refine wl (ro_assign rfl) ?_
  refine wl_nil (x_then (hK7 _ _ ?_))
  clear hK7 K7
  refine wc_condF rfl ?_
  refine c_seq (fun K8 hK8 => ?_)
  refine c_reg ?_ -- region 13 ops.go:46
  refine wl (ro_cmp rfl rfl rfl) ?_
  refine wl (ro_assign rfl) ?_
  refine wl_nil (x_then (hK8 _ _ ?_))
  clear hK8 K8
  refine wc_condF rfl ?_
  refine c_seq (fun K9 hK9 => ?_)
  refine c_reg ?_ -- region 15 ops.go:48
  refine wl (ro_cmp rfl rfl rfl) ?_
  refine wl (ro_assign rfl) ?_
  refine wl_nil (x_then (hK9 _ _ ?_))
  clear hK9 K9
  refine wc_condT rfl ?_
  refine c_seq (fun K10 hK10 => ?_)
  refine c_reg ?_ -- region 16 ops.go:49
  refine wl (ro_move rfl) ?_
  refine wl (ro_move rfl) ?_
  refine wl (ro_move rfl) ?_
  refine wl_call rfl en_268 (getUpA hR.dr hc hk hzi) ?_
  rintro _ u1 ⟨rfl, ow1, x1, f1, r1⟩
  have hs1 := hF.size
  replace hF := vm_trans hX hF f1
  replace hX := hX.trans hs1 x1
  replace hR := r1
  refine wl_new (ze_119) (fun b15 w2 hbb15 h15 F2 => ?_)
  have hbsb15 := Nat.le_trans hF.size hbb15
  have kh15 := hR.df b15 hbb15
  replace hF := hF.thenDrew.thenN F2
  replace hR := hR.thruN ((Fram.refl none' _).thenDrew.thenN F2)
  refine wl_puta rfl rfl ((pvc_one _)) sz_119 (rfl) h15 ((by simp)) (rfl) (fun w3 h15 F3 => ?_)
  replace hF := hF.thenDrew.thenO F3 (by first | exact .inr (by omega) | exact .inl rfl | exact .inl (by assumption) | assumption)
  replace hR := hR.hbput ((Fram.refl (one b15) _).thenDrew.thenO F3 (.inl rfl))
  refine wl_nil (x_then (hK10 _ _ ?_))
  clear hK10 K10
  refine c_reg ?_ -- region 17 ops.go:50
  refine wl (ro_move rfl) ?_
  refine wl (ro_loadAggB rfl ag_119 (h15) rfl rfl) ?_
  refine wl_pu (vs := [vars.getD (ids.getD z 0) vNil]) (eo_bsV1 rfl se_83 zx_119) rfl hR.dr hc rfl (by show g.ops.length + 1 ≤ 300; omega) ?_
  intro u4 ow4 x4 f4 r4
  obtain ⟨h15, kh15⟩ := vm_loc x4 f4 h15 kh15
  have hs4 := hF.size
  replace hF := vm_trans hX hF f4
  replace hX := hX.trans hs4 x4
  replace hR := r4
  refine wl_nil (x_blk ?_)
  refine bpp_end Tryz.results247 rfl ?_
  exact ⟨a, { g with ops := vars.getD (ids.getD z 0) vNil :: g.ops }, vars, rfl, rfl, rfl, rfl, _, hX, hF, hR⟩
set_option maxHeartbeats 8000000 in
theorem plain_8 (E : PE C fg fc w ow a y gs g vars p ids 8 z) : RetP Tryz.prog 247 [ptr C.E.mb, i64c a.cur, tptr C a.cur, fpt fg gs.length, prt C p, u8n 8, i64c z] w (PlR C fg fc w ow a y gs g (aplain (Psf C.F) 8 z (mkA a y gs g vars))) (AE C (kH a) w ow (aplain (Psf C.F) 8 z (mkA a y gs g vars))) := by
  have hR := E.r
  have hc := E.hc
  have hk := E.hk
  obtain ⟨V, κ, Vv, U, x, f, fs, o⟩ := hR.open hc
  have hX : Xt w ow ow := Xt.refl _ _
  have hF : Fram (tg ow vtT) w w := Fram.refl _ _
  have hol := E.ol
  have hnd := E.nd
  have hzz := E.hz
  obtain ⟨lT, hT, -, -, -, hT2, -⟩ := o.v.thA o.t.hx
  have hT2 := hT2 2 (.inl rfl)
  obtain ⟨lB, hB1, k1, q1, -, -⟩ := o.frow
  obtain ⟨lP, pa, pb, pc, hP, tP, rp, -, -, -⟩ := o.v.pro E.hp
  rw [Nat.zero_add] at rp
  obtain ⟨p0, ids0, n1, n2, n3⟩ := o.ns
  obtain ⟨rfl, rfl⟩ : p = p0 ∧ ids = ids0 := by have := hk.symm.trans n1; simpa using this
  have hwin := o.win n2
  have hln := o.t.ln
  have hsl := o.sl
  have hzi : z < ids.length := by have := E.sn.r.2.2.2.2.2.1 (.inr rfl); rw [E.id] at this; exact this
  obtain ⟨v, l, ho⟩ := ops_1 (l := g.ops) hnd
  have hlo := congrArg List.length ho
  simp only [List.length_cons] at hlo
  have hap : aplain (Psf C.F) 8 z (mkA a y gs g vars) = mkA a y gs { g with ops := l, pc := g.pc + 1 } (vars.set (ids.getD z 0) v) := by
    unfold aplain
    simp only [mk_fr hc, mk_ops hc, mk_pc hc, mk_pro2 hk, mk_slot hc, mk_up hc hk, E.pl, ho, aset_mk]; simp [AS.var, mkA_vars, mk_fr hc, mk_ops hc, mk_pc hc, mkA_tabs, ]
  rw [hap]
  refine retp_of Tryz.func247 rfl Tryz.ntmps247 rfl ?_
  refine c_seq (fun K1 hK1 => ?_)
  refine c_pi [(0, false), (1, false), (2, false), (3, false), (4, false), (5, false), (6, false), (7, false), (8, false), (9, false), (10, false), (11, false), (12, false), (13, false), (14, false), (15, false), (16, false), (17, false), (18, false)] (SameH _) mixed (by kernel_rfl) rfl (by kernel_rfl) (po_then (po_bpp)) (sameH_now _ _) ?_ -- region 0 ops.go:34
  refine pi_ro rfl (fun w hS => ro_move rfl) ?_
  refine pi_ro rfl (fun w hS => ro_nilCheck rfl) ?_
  refine pi_ro rfl (fun w hS => ro_fieldAddr (k := 2) rfl fo_269_2) ?_
  refine pi_ro rfl (fun w hS => ro_loadB rfl sc_83 (Blk.of_heap hT hS) (hT2)) ?_
  refine pi_ro rfl (fun w hS => ro_move rfl) ?_
  refine pi_ro rfl (fun w hS => ro_nilCheck rfl) ?_
  refine pi_ro rfl (fun w hS => ro_fieldAddr (k := 2) rfl fo_331_2) ?_
  refine pi_ro rfl (fun w hS => ro_loadB rfl sc_3 (Blk.of_heap hB1 hS) (frow_at q1 (by decide))) ?_
  refine pi_ro rfl (fun w hS => ro_move rfl) ?_
  refine pi_ro rfl (fun w hS => ro_nilCheck rfl) ?_
  refine pi_ro rfl (fun w hS => ro_fieldAddr (k := 2) rfl fo_331_2) ?_
  refine pi_ro rfl (fun w hS => ro_loadB rfl sc_3 (Blk.of_heap hB1 hS) (frow_at q1 (by decide))) ?_
  refine pi_ro rfl (fun w hS => ro_move rfl) ?_
  refine pi_ro rfl (fun w hS => ro_nilCheck rfl) ?_
  refine pi_ro rfl (fun w hS => ro_fieldAddr (k := 1) rfl fo_258_1) ?_
  refine pi_ro rfl (fun w hS => ro_loadB rfl sc_3 (Blk.of_heap hP hS) (row_get rp (by decide))) ?_
  refine pi_ro rfl (fun w hS => ro_addN rfl rfl (by omega)) ?_
  refine pi_ro rfl (fun w hS => ro_slV hwin rfl rfl rfl se_83) ?_
  refine pi_ro rfl (fun w hS => ro_assign rfl) ?_
  refine pi_nil (x_then (hK1 _ _ ?_))
  clear hK1 K1
  refine forget [(0, _), (1, _), (2, _), (3, _), (4, _), (5, _), (6, _), (14, _)] ⟨rfl, rfl, rfl, rfl, rfl, rfl, rfl, rfl, trivial⟩ (fun e => ?_)
  refine c_seq (fun K2 hK2 => ?_)
  refine c_reg ?_ -- region 1 ops.go:35
  refine wl (ro_move rfl) ?_
  refine wl_nil (x_then (hK2 _ _ ?_))
  clear hK2 K2
  refine c_block ?_
  refine forget [(0, _), (1, _), (2, _), (3, _), (4, _), (5, _), (6, _), (14, _), (53, _)] ⟨rfl, rfl, rfl, rfl, rfl, rfl, rfl, rfl, rfl, trivial⟩ (fun e => ?_)
  refine c_seq (fun K3 hK3 => ?_)
  refine c_reg ?_ -- region 3 ops.go:36
  refine wl (ro_cmp rfl rfl rfl) ?_
  refine wl (ro_assign rfl) ?_
  refine wl_nil (x_then (hK3 _ _ ?_))
  clear hK3 K3
  refine wc_condF rfl ?_
  refine c_seq (fun K4 hK4 => ?_)
  refine c_reg ?_ -- region 5 ops.go:38
  refine wl (ro_cmp rfl rfl rfl) ?_
  refine wl (ro_assign rfl) ?_
  refine wl_nil (x_then (hK4 _ _ ?_))
  clear hK4 K4
  refine wc_condF rfl ?_
  refine c_seq (fun K5 hK5 => ?_)
  refine c_reg ?_ -- region 7 ops.go:40
  refine wl (ro_cmp rfl rfl rfl) ?_
  refine wl (ro_assign rfl) ?_
  refine wl_nil (x_then (hK5 _ _ ?_))
  clear hK5 K5
  refine wc_condF rfl ?_
  refine c_seq (fun K6 hK6 => ?_)
  refine c_reg ?_ -- region 9 ops.go:42
  refine wl (ro_cmp rfl rfl rfl) ?_
  refine wl (ro_assign rfl) ?_
  refine wl_nil (x_then (hK6 _ _ ?_))
  clear hK6 K6
  refine wc_condF rfl ?_
  refine c_seq (fun K7 hK7 => ?_)
  refine c_reg ?_ -- region 11 ops.go:44
  refine wl (ro_cmp rfl rfl rfl) ?_
  refine wl (ro_assign rfl) ?_
  refine wl_nil (x_then (hK7 _ _ ?_))
  clear hK7 K7
  refine wc_condF rfl ?_
  refine c_seq (fun K8 hK8 => ?_)
  refine c_reg ?_ -- region 13 ops.go:46
  refine wl (ro_cmp rfl rfl rfl) ?_
  refine wl (ro_assign rfl) ?_
  refine wl_nil (x_then (hK8 _ _ ?_))
  clear hK8 K8
  refine wc_condF rfl ?_
  refine c_seq (fun K9 hK9 => ?_)
  refine c_reg ?_ -- region 15 ops.go:48
  refine wl (ro_cmp rfl rfl rfl) ?_
  refine wl (ro_assign rfl) ?_
  refine wl_nil (x_then (hK9 _ _ ?_))
  clear hK9 K9
  refine wc_condF rfl ?_
  refine c_seq (fun K10 hK10 => ?_)
  refine c_reg ?_ -- region 18 ops.go:51
  refine wl (ro_cmp rfl rfl rfl) ?_
  refine wl (ro_assign rfl) ?_
  refine wl_nil (x_then (hK10 _ _ ?_))
  clear hK10 K10
  refine wc_condT rfl ?_
  refine c_seq (fun K11 hK11 => ?_)
  refine c_reg ?_ -- region 19 ops.go:52
  refine wl (ro_move rfl) ?_
  refine wl_call rfl en_244 (popA hR.dr hc ho (by omega)) ?_
  rintro _ u1 ⟨rfl, ow1, x1, f1, r1⟩
  have hs1 := hF.size
  replace hF := vm_trans hX hF f1
  replace hX := hX.trans hs1 x1
  replace hR := r1
  refine wl_new (ze_119) (fun b16 w2 hbb16 h16 F2 => ?_)
  have hbsb16 := Nat.le_trans hF.size hbb16
  have kh16 := hR.df b16 hbb16
  replace hF := hF.thenDrew.thenN F2
  replace hR := hR.thruN ((Fram.refl none' _).thenDrew.thenN F2)
  refine wl_puta rfl rfl ((pvc_one _)) sz_119 (rfl) h16 ((by simp)) (rfl) (fun w3 h16 F3 => ?_)
  replace hF := hF.thenDrew.thenO F3 (by first | exact .inr (by omega) | exact .inl rfl | exact .inl (by assumption) | assumption)
  replace hR := hR.hbput ((Fram.refl (one b16) _).thenDrew.thenO F3 (.inl rfl))
  refine wl_nil (x_then (hK11 _ _ ?_))
  clear hK11 K11
  refine c_reg ?_ -- region 20 ops.go:53
  refine wl (ro_move rfl) ?_
  refine wl (ro_move rfl) ?_
  refine wl (ro_move rfl) ?_
  refine wl (ro_loadAggB rfl ag_119 (h16) rfl rfl) ?_
  refine wl_call rfl en_269 (setUpA hR.dr hc hk hzi) ?_
  rintro _ u4 ⟨rfl, ow4, x4, f4, r4⟩
  obtain ⟨h16, kh16⟩ := vm_loc x4 f4 h16 kh16
  have hs4 := hF.size
  replace hF := vm_trans hX hF f4
  replace hX := hX.trans hs4 x4
  replace hR := r4
  refine wl_nil (x_blk ?_)
  refine bpp_end Tryz.results247 rfl ?_
  exact ⟨a, { g with ops := l }, vars.set (ids.getD z 0) v, rfl, rfl, rfl, rfl, _, hX, hF, hR⟩
set_option maxHeartbeats 8000000 in
theorem plain_9 (E : PE C fg fc w ow a y gs g vars p ids 9 z) : RetP Tryz.prog 247 [ptr C.E.mb, i64c a.cur, tptr C a.cur, fpt fg gs.length, prt C p, u8n 9, i64c z] w (PlR C fg fc w ow a y gs g (aplain (Psf C.F) 9 z (mkA a y gs g vars))) (AE C (kH a) w ow (aplain (Psf C.F) 9 z (mkA a y gs g vars))) := by
  have hR := E.r
  have hc := E.hc
  have hk := E.hk
  obtain ⟨V, κ, Vv, U, x, f, fs, o⟩ := hR.open hc
  have hX : Xt w ow ow := Xt.refl _ _
  have hF : Fram (tg ow vtT) w w := Fram.refl _ _
  have hol := E.ol
  have hnd := E.nd
  have hzz := E.hz
  obtain ⟨lT, hT, -, -, -, hT2, -⟩ := o.v.thA o.t.hx
  have hT2 := hT2 2 (.inl rfl)
  obtain ⟨lB, hB1, k1, q1, -, -⟩ := o.frow
  obtain ⟨lP, pa, pb, pc, hP, tP, rp, -, -, -⟩ := o.v.pro E.hp
  rw [Nat.zero_add] at rp
  obtain ⟨p0, ids0, n1, n2, n3⟩ := o.ns
  obtain ⟨rfl, rfl⟩ : p = p0 ∧ ids = ids0 := by have := hk.symm.trans n1; simpa using this
  have hwin := o.win n2
  have hln := o.t.ln
  have hsl := o.sl
  obtain ⟨ks, hkv⟩ : ∃ s, (fsAt C.F p).ks[z]? = some (vStr s) := by obtain ⟨s, q⟩ := E.sn.r.2.2.2.1 (.inl rfl); rw [E.pr] at q; exact ⟨s, q⟩
  have hkd : (fsAt C.F p).ks.getD z vNil = vStr ks := by rw [List.getD_eq_getElem?_getD, hkv]; rfl
  have hvk := E.kvv hkv 0 0 0
  have ht0 := E.ht
  generalize vStr ks = kv at *
  obtain ⟨lM, lP2, lK, kg, kcap, kn, kb, hM, hM4, hM1, hP2, hPk, hK, hKr, hkb, hkn⟩ := o.kon E.hp hkv
  obtain rfl := (hP.uniq hP2).1
  have hap : aplain (Psf C.F) 9 z (mkA a y gs g vars) = mkA a y gs { g with ops := tGet (a.tabs.getD 0 []) kv :: g.ops, pc := g.pc + 1 } vars := by
    unfold aplain
    simp only [mk_fr hc, mk_ops hc, mk_pc hc, mk_pro2 hk, mk_slot hc, mk_up hc hk, E.pl, hkd, aset_mk]; simp [AS.var, mkA_vars, mk_fr hc, mk_ops hc, mk_pc hc, mkA_tabs, ]
  rw [hap]
  refine retp_of Tryz.func247 rfl Tryz.ntmps247 rfl ?_
  refine c_seq (fun K1 hK1 => ?_)
  refine c_pi [(0, false), (1, false), (2, false), (3, false), (4, false), (5, false), (6, false), (7, false), (8, false), (9, false), (10, false), (11, false), (12, false), (13, false), (14, false), (15, false), (16, false), (17, false), (18, false)] (SameH _) mixed (by kernel_rfl) rfl (by kernel_rfl) (po_then (po_bpp)) (sameH_now _ _) ?_ -- region 0 ops.go:34
  refine pi_ro rfl (fun w hS => ro_move rfl) ?_
  refine pi_ro rfl (fun w hS => ro_nilCheck rfl) ?_
  refine pi_ro rfl (fun w hS => ro_fieldAddr (k := 2) rfl fo_269_2) ?_
  refine pi_ro rfl (fun w hS => ro_loadB rfl sc_83 (Blk.of_heap hT hS) (hT2)) ?_
  refine pi_ro rfl (fun w hS => ro_move rfl) ?_
  refine pi_ro rfl (fun w hS => ro_nilCheck rfl) ?_
  refine pi_ro rfl (fun w hS => ro_fieldAddr (k := 2) rfl fo_331_2) ?_
  refine pi_ro rfl (fun w hS => ro_loadB rfl sc_3 (Blk.of_heap hB1 hS) (frow_at q1 (by decide))) ?_
  refine pi_ro rfl (fun w hS => ro_move rfl) ?_
  refine pi_ro rfl (fun w hS => ro_nilCheck rfl) ?_
  refine pi_ro rfl (fun w hS => ro_fieldAddr (k := 2) rfl fo_331_2) ?_
  refine pi_ro rfl (fun w hS => ro_loadB rfl sc_3 (Blk.of_heap hB1 hS) (frow_at q1 (by decide))) ?_
  refine pi_ro rfl (fun w hS => ro_move rfl) ?_
  refine pi_ro rfl (fun w hS => ro_nilCheck rfl) ?_
  refine pi_ro rfl (fun w hS => ro_fieldAddr (k := 1) rfl fo_258_1) ?_
  refine pi_ro rfl (fun w hS => ro_loadB rfl sc_3 (Blk.of_heap hP hS) (row_get rp (by decide))) ?_
  refine pi_ro rfl (fun w hS => ro_addN rfl rfl (by omega)) ?_
  refine pi_ro rfl (fun w hS => ro_slV hwin rfl rfl rfl se_83) ?_
  refine pi_ro rfl (fun w hS => ro_assign rfl) ?_
  refine pi_nil (x_then (hK1 _ _ ?_))
  clear hK1 K1
  refine forget [(0, _), (1, _), (2, _), (3, _), (4, _), (5, _), (6, _), (14, _)] ⟨rfl, rfl, rfl, rfl, rfl, rfl, rfl, rfl, trivial⟩ (fun e => ?_)
  refine c_seq (fun K2 hK2 => ?_)
  refine c_reg ?_ -- region 1 ops.go:35
  refine wl (ro_move rfl) ?_
  refine wl_nil (x_then (hK2 _ _ ?_))
  clear hK2 K2
  refine c_block ?_
  refine forget [(0, _), (1, _), (2, _), (3, _), (4, _), (5, _), (6, _), (14, _), (53, _)] ⟨rfl, rfl, rfl, rfl, rfl, rfl, rfl, rfl, rfl, trivial⟩ (fun e => ?_)
  refine c_seq (fun K3 hK3 => ?_)
  refine c_reg ?_ -- region 3 ops.go:36
  refine wl (ro_cmp rfl rfl rfl) ?_
  refine wl (ro_assign rfl) ?_
  refine wl_nil (x_then (hK3 _ _ ?_))
  clear hK3 K3
  refine wc_condF rfl ?_
  refine c_seq (fun K4 hK4 => ?_)
  refine c_reg ?_ -- region 5 ops.go:38
  refine wl (ro_cmp rfl rfl rfl) ?_
  refine wl (ro_assign rfl) ?_
  refine wl_nil (x_then (hK4 _ _ ?_))
  clear hK4 K4
  refine wc_condF rfl ?_
  refine c_seq (fun K5 hK5 => ?_)
  refine c_reg ?_ -- region 7 ops.go:40
  refine wl (ro_cmp rfl rfl rfl) ?_
  refine wl (ro_assign rfl) ?_
  refine wl_nil (x_then (hK5 _ _ ?_))
  clear hK5 K5
  refine wc_condF rfl ?_
  refine c_seq (fun K6 hK6 => ?_)
  refine c_reg ?_ -- region 9 ops.go:42
  refine wl (ro_cmp rfl rfl rfl) ?_
  refine wl (ro_assign rfl) ?_
  refine wl_nil (x_then (hK6 _ _ ?_))
  clear hK6 K6
  refine wc_condF rfl ?_
  refine c_seq (fun K7 hK7 => ?_)
  refine c_reg ?_ -- region 11 ops.go:44
  refine wl (ro_cmp rfl rfl rfl) ?_
  refine wl (ro_assign rfl) ?_
  refine wl_nil (x_then (hK7 _ _ ?_))
  clear hK7 K7
  refine wc_condF rfl ?_
  refine c_seq (fun K8 hK8 => ?_)
  refine c_reg ?_ -- region 13 ops.go:46
  refine wl (ro_cmp rfl rfl rfl) ?_
  refine wl (ro_assign rfl) ?_
  refine wl_nil (x_then (hK8 _ _ ?_))
  clear hK8 K8
  refine wc_condF rfl ?_
  refine c_seq (fun K9 hK9 => ?_)
  refine c_reg ?_ -- region 15 ops.go:48
  refine wl (ro_cmp rfl rfl rfl) ?_
  refine wl (ro_assign rfl) ?_
  refine wl_nil (x_then (hK9 _ _ ?_))
  clear hK9 K9
  refine wc_condF rfl ?_
  refine c_seq (fun K10 hK10 => ?_)
  refine c_reg ?_ -- region 18 ops.go:51
  refine wl (ro_cmp rfl rfl rfl) ?_
  refine wl (ro_assign rfl) ?_
  refine wl_nil (x_then (hK10 _ _ ?_))
  clear hK10 K10
  refine wc_condF rfl ?_
  refine c_seq (fun K11 hK11 => ?_)
  refine c_reg ?_ -- region 21 ops.go:54
  refine wl (ro_cmp rfl rfl rfl) ?_
  refine wl (ro_assign rfl) ?_
  refine wl_nil (x_then (hK11 _ _ ?_))
  clear hK11 K11
  refine wc_condT rfl ?_
  refine c_seq (fun K12 hK12 => ?_)
  refine c_piF 22 16 20 [0, 1, 2, 3, 4, 5, 6, 7, 8, 9, 10, 11, 12, 13, 14, 15] [(17, false), (18, false), (19, false), (20, true), (21, true)] [(16, true), (17, false), (18, false), (19, false), (21, true)] (La C.pg _ _ (La C.E.mb _ _ (La kg _ _ (Mz C)))) mixed (by kernel_rfl) rfl rfl (by kernel_rfl) (po_then (po_blk (po_bpp))) (⟨hP, hM, hK, hR.rz⟩) ?_ -- region 22 ops.go:55
  refine wf_ro rfl (fun w hS => ro_move rfl) ?_
  refine wf_ro rfl (fun w hS => ro_nilCheck rfl) ?_
  refine wf_ro rfl (fun w hS => ro_fieldAddr (k := 1) rfl fo_89_1) ?_
  refine wf_ro rfl (fun w hS => ro_loadB rfl sc_38 (hS.2.1) (hM1)) ?_
  refine wf_ro rfl (fun w hS => ro_move rfl) ?_
  refine wf_ro rfl (fun w hS => ro_nilCheck rfl) ?_
  refine wf_ro rfl (fun w hS => ro_fieldAddr (k := 4) rfl fo_89_4) ?_
  refine wf_ro rfl (fun w hS => ro_loadB rfl sc_83 (hS.2.1) (hM4)) ?_
  refine wf_ro rfl (fun w hS => ro_move rfl) ?_
  refine wf_ro rfl (fun w hS => ro_nilCheck rfl) ?_
  refine wf_ro rfl (fun w hS => ro_fieldAddr (k := 4) rfl fo_258_4) ?_
  refine wf_ro rfl (fun w hS => ro_loadB rfl sc_3 (hS.1) (hPk)) ?_
  refine wf_ro rfl (fun w hS => ro_move rfl) ?_
  refine wf_ro rfl (fun w hS => ro_addN rfl rfl (by omega)) ?_
  refine wf_ro rfl (fun w hS => ro_indexAddr (et := 119) (k := 3) rfl rfl se_83 (rfl) ((by omega))) ?_
  refine wf_ro rfl (fun w hS => ro_loadAggB rfl ag_119 (hS.2.2.1) (pvc_len _) (hKr)) ?_
  refine wf_cx (R := fun v u => v = .tuple #[pv (tGet (a.tabs.getD 0 []) kv), icv 0] ∧ Fram none' _ u) (G := none') rfl rfl rfl rfl rfl rfl rfl (by decide) (by decide) rfl (fun _ => rfl) en_270 ze_119 sz_119 rfl (fun w1 F => (AM.get270' (n := 0) (k := kv) (hR.dr.thruN F) ht0 hvk.wf hvk.w).mono (fun v u h => ⟨⟨h.1, F.trans h.2⟩, h.2⟩)) (fun v u u9 h F => ⟨h.1, h.2.trans F⟩) (fun b h => h.elim) (fun v u h => ⟨pvc (tGet (a.tabs.getD 0 []) kv), h.1, rfl, pvc_one _⟩) (fun u F => ⟨F.blkN hP, F.blkN hM, F.blkN hK, (hR.dr.thruN F).rz⟩) (fun v u h => ⟨h.2.blkN hP, h.2.blkN hM, h.2.blkN hK, (hR.dr.thruN h.2).rz⟩) (fun v u b u9 h hb F => ⟨F.blkO (h.2.blkN hP) (fun q => by have h1 := hP.lt; subst q; exact absurd hb (by exact Nat.not_le.2 h1)), F.blkO (h.2.blkN hM) (fun q => by have h1 := hM.lt; subst q; exact absurd hb (by exact Nat.not_le.2 h1)), F.blkO (h.2.blkN hK) (fun q => by have h1 := hK.lt; subst q; exact absurd hb (by exact Nat.not_le.2 h1)), ((hR.dr.thruN h.2).hbput F (hR.df _ hb)).rz⟩) (fun v u h => h.2.size) ?_
  intro cs w1 b17 w2 hR9 hcl hbb17 h0_ h17 F2
  have hcs := pair_cs hR9.1
  subst hcs
  have F1 := hR9.2
  have hneC.pgb17 : C.pg < b17 := Nat.lt_of_lt_of_le hP.lt hbb17
  have hbsb17 := Nat.le_trans hF.size hbb17
  have hneC.E.mbb17 : C.E.mb < b17 := Nat.lt_of_lt_of_le hM.lt hbb17
  have hnekgb17 : kg < b17 := Nat.lt_of_lt_of_le hK.lt hbb17
  have kh17 := hR.df b17 hbb17
  replace hP := F1.blkN hP
  replace hF := hF.thenDrew.thenN F1
  replace hR := hR.thruN ((Fram.refl none' _).thenDrew.thenN F1)
  replace hM := F1.blkN hM
  replace hK := F1.blkN hK
  replace hP := F2.blkO hP (by first | omega | exact ow_ne (by assumption) (by assumption) (by omega))
  replace hF := hF.thenDrew.thenO F2 (by first | exact .inr (by omega) | exact .inl rfl | exact .inl (by assumption) | assumption)
  replace hR := hR.hbput ((Fram.refl (one b17) _).thenDrew.thenO F2 (.inl rfl))
  replace hM := F2.blkO hM (by first | omega | exact ow_ne (by assumption) (by assumption) (by omega))
  replace hK := F2.blkO hK (by first | omega | exact ow_ne (by assumption) (by assumption) (by omega))
  refine x_then (hK12 _ _ ?_)
  clear hK12 K12
  refine c_reg ?_ -- region 23 ops.go:56
  refine wl (ro_move rfl) ?_
  refine wl (ro_loadAggB rfl ag_119 (h17) rfl rfl) ?_
  refine wl_pu (vs := [tGet (a.tabs.getD 0 []) kv]) (eo_bsV1 rfl se_83 zx_119) rfl hR.dr hc rfl (by show g.ops.length + 1 ≤ 300; omega) ?_
  intro u3 ow3 x3 f3 r3
  obtain ⟨h17, kh17⟩ := vm_loc x3 f3 h17 kh17
  have hs3 := hF.size
  replace hF := vm_trans hX hF f3
  replace hX := hX.trans hs3 x3
  replace hR := r3
  refine wl_nil (x_blk ?_)
  refine bpp_end Tryz.results247 rfl ?_
  exact ⟨a, { g with ops := tGet (a.tabs.getD 0 []) kv :: g.ops }, vars, rfl, rfl, rfl, rfl, _, hX, hF, hR⟩
end
end Go.Proofs.Qxb6500568aGreatDoor
