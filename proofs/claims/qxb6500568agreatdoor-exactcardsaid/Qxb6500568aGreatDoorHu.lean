import Derived.Test.Qxb6500568aGreatDoorHt
/- The machine: print. -/
namespace Go.Proofs.Qxb6500568aGreatDoor
open Ieee
set_option linter.unusedVariables false
set_option linter.unusedSimpArgs false
set_option linter.unusedSectionVars false

section
variable {C : VC} {w u1 u2 : World} {ow : Nat → Nat} {s : AS} {fg fc : Nat} {a0 a1 a2 : PV} {ab ao : Nat} {V : VS} {κ : List Nat} {e fuel : Nat} {out : Str} {T : List Tb} {Vv : Nat → Value} {U : Nat → Nat → Value} {L : VL}
theorem outG (h1 : VW C w ow V 0 s.fuel s.out s.tabs Vv U) (z1 : RZ (Psf C.F) V s κ) (q1 : U s.cur 3 = .slice (some ⟨fg, 0, none⟩) s.th.frs.length fc) (op : VOp C.E w ow L Vv U) (vl : VSL C.F L V s.fuel s.out 0) {o' : Str} {v' : Value} (hon : Own u1.heap v' 5 1 o'.length (o'.map u8c)) (G1 : Fram (own1 (Vv 11)) w u1) (hnb : nob (Vv 11) v' w) (fr : Fram (one C.E.mb) u1 u2) (hB : Blk u2.heap C.E.mb (mbc C.E (up1 Vv 11 v') L) 89) :
    ∃ ow', Xt w ow ow' ∧ Fram (tg ow vtT) w u2 ∧ AM C fg fc u2 ow' { s with out := o' } := by
  obtain ⟨ow1, x1, f1, hv1⟩ := h1.grA op (i := 11) (.inr rfl) (by decide) hon G1 hnb fr hB (vl.outT o') h1.cb h1.eb
  refine ⟨ow1, x1, f1.mono (fun b _ z => ?_), V, κ, _, U, hv1, z1.same rfl rfl rfl, q1⟩
  left
  show vmT (ow b)
  rcases z with z | z
  · rw [z, op.tm]; unfold vmT; omega
  · rw [z]; unfold vmT; omega
set_option maxHeartbeats 4000000 in
theorem bPrt (hR : AM C fg fc w ow s) (hA : WinB w ab ao (rws pvc [a0, a1, a2])) (hv : PVf a0) (h6 : a0.T = 6 → a0.N < 1000) (hol : s.out.length ≤ 200) (htx : (txV a0).length ≤ 100000) {z : AS} (hz : 200 < s.out.length + (txV a0).length + 1 → ATr 10 s z) :
    RetP Tryz.prog 260 [ptr C.E.mb, apt ab ao] w (fun r w' => ¬ 200 < s.out.length + (txV a0).length + 1 ∧ AR C fg fc w ow (.tuple #[pv vNil, pv vNil]) { s with out := s.out ++ txV a0 ++ [10] } r w') (AE C (kH s) w ow z) := by
  have hX : Xt w ow ow := Xt.refl _ _
  have hF : Fram (tg ow vtT) w w := Fram.refl _ _
  obtain ⟨l, lt, hB5, hA⟩ := hA
  obtain ⟨r0, r1, r2⟩ := win_row hA
  rcases Nat.lt_or_ge 200 (s.out.length + (txV a0).length + 1) with h9 | h9
  · have hp0 := h9
    refine retp_of Tryz.func260 rfl Tryz.ntmps260 rfl ?_
    refine c_seq (fun K1 hK1 => ?_)
    refine c_reg ?_ -- region 0 call.go:108
    refine wl_new (ze_119) (fun b4 w1 hbb4 h4 F1 => ?_)
    have hneabb4 : ab < b4 := Nat.lt_of_lt_of_le hB5.lt hbb4
    have hbsb4 := Nat.le_trans hF.size hbb4
    have kh4 := hR.df b4 hbb4
    replace hB5 := F1.blkN hB5
    replace hF := hF.thenDrew.thenN F1
    replace hR := hR.thruN ((Fram.refl none' _).thenDrew.thenN F1)
    refine wl_new (ze_119) (fun b5 w2 hbb5 h5 F2 => ?_)
    have hneabb5 : ab < b5 := Nat.lt_of_lt_of_le hB5.lt hbb5
    have hbsb5 := Nat.le_trans hF.size hbb5
    have hneb4b5 : b4 < b5 := Nat.lt_of_lt_of_le h4.lt hbb5
    have kh5 := hR.df b5 hbb5
    replace hB5 := F2.blkN hB5
    replace hF := hF.thenDrew.thenN F2
    replace hR := hR.thruN ((Fram.refl none' _).thenDrew.thenN F2)
    replace h4 := F2.blkN h4
    refine wl_nil (x_then (hK1 _ _ ?_))
    clear hK1 K1
    refine forget [(0, _), (1, _), (4, _), (5, _)] ⟨rfl, rfl, rfl, rfl, trivial⟩ (fun e => ?_)
    refine c_seq (fun K2 hK2 => ?_)
    refine c_reg ?_ -- region 1 call.go:109
    refine wl (ro_move rfl) ?_
    refine wl (ro_move rfl) ?_
    refine wl (ro_nilCheck rfl) ?_
    refine wl (ro_indexAddrA (et := 119) (k := 3) rfl rfl ar_225 (rfl) ((by decide))) ?_
    refine wl (ro_loadAggB rfl ag_119 (hB5) (pvc_len _) (r0)) ?_
    refine wl_call rfl en_286 (textA hR.dr hv h6) ?_
    rintro _ u3 ⟨rfl, ow3, x3, f3, r3⟩
    obtain ⟨h4, kh4⟩ := vm_loc x3 f3 h4 kh4
    obtain ⟨h5, kh5⟩ := vm_loc x3 f3 h5 kh5
    have hs3 := hF.size
    replace hF := vm_trans hX hF f3
    replace hX := hX.trans hs3 x3
    replace hR := r3
    obtain ⟨V, κ, Vv, U, v1, z1, k1⟩ := id hR
    obtain ⟨L, op, vl⟩ := v1.ex
    have hA11 := op.a 11 (.inr rfl)
    rw [vl.o] at hA11
    obtain ⟨og, oc, e11⟩ := hA11.form
    have hM := op.m
    unfold mbc at hM
    rw [e11] at hM
    refine wl (ro_assign rfl) ?_
    refine wl_nil (x_then (hK2 _ _ ?_))
    clear hK2 K2
    refine c_seq (fun K3 hK3 => ?_)
    refine c_seq (fun K4 hK4 => ?_)
    refine c_reg ?_ -- region 2 call.go:110
    refine wl (ro_move rfl) ?_
    refine wl (ro_nilCheck rfl) ?_
    refine wl (ro_fieldAddr (k := 11) rfl fo_89_11) ?_
    refine wl (ro_loadB rfl sc_70 (hM) rfl) ?_
    refine wl (ro_lenL rfl se_70) ?_
    refine wl (ro_move rfl) ?_
    refine wl (ro_lenS rfl st_9) ?_
    refine wl (ro_addN rfl rfl (by omega)) ?_
    refine wl (ro_addN (k := 1) rfl rfl (by omega)) ?_
    refine wl (ro_cmp (r := true) rfl rfl (congrArg some (decide_eq_true (by omega)))) ?_
    refine wl_nil (x_then (hK4 _ _ ?_))
    clear hK4 K4
    refine wc_condT rfl ?_
    refine c_reg ?_ -- region 3 call.go:111
    refine wl_callP rfl en_240 (stop240 (e := 10)) (fun pv w9 hE => bpp_pan (P := Tryz.prog) (fn := Tryz.f260) (AE.stop hX hF hR.q hE (hz h9))) ?_
    rintro _ _ ⟨⟩
  · have hp0 := h9
    refine retp_of Tryz.func260 rfl Tryz.ntmps260 rfl ?_
    refine c_seq (fun K1 hK1 => ?_)
    refine c_reg ?_ -- region 0 call.go:108
    refine wl_new (ze_119) (fun b4 w1 hbb4 h4 F1 => ?_)
    have hneabb4 : ab < b4 := Nat.lt_of_lt_of_le hB5.lt hbb4
    have hbsb4 := Nat.le_trans hF.size hbb4
    have kh4 := hR.df b4 hbb4
    replace hB5 := F1.blkN hB5
    replace hF := hF.thenDrew.thenN F1
    replace hR := hR.thruN ((Fram.refl none' _).thenDrew.thenN F1)
    refine wl_new (ze_119) (fun b5 w2 hbb5 h5 F2 => ?_)
    have hneabb5 : ab < b5 := Nat.lt_of_lt_of_le hB5.lt hbb5
    have hbsb5 := Nat.le_trans hF.size hbb5
    have hneb4b5 : b4 < b5 := Nat.lt_of_lt_of_le h4.lt hbb5
    have kh5 := hR.df b5 hbb5
    replace hB5 := F2.blkN hB5
    replace hF := hF.thenDrew.thenN F2
    replace hR := hR.thruN ((Fram.refl none' _).thenDrew.thenN F2)
    replace h4 := F2.blkN h4
    refine wl_nil (x_then (hK1 _ _ ?_))
    clear hK1 K1
    refine forget [(0, _), (1, _), (4, _), (5, _)] ⟨rfl, rfl, rfl, rfl, trivial⟩ (fun e => ?_)
    refine c_seq (fun K2 hK2 => ?_)
    refine c_reg ?_ -- region 1 call.go:109
    refine wl (ro_move rfl) ?_
    refine wl (ro_move rfl) ?_
    refine wl (ro_nilCheck rfl) ?_
    refine wl (ro_indexAddrA (et := 119) (k := 3) rfl rfl ar_225 (rfl) ((by decide))) ?_
    refine wl (ro_loadAggB rfl ag_119 (hB5) (pvc_len _) (r0)) ?_
    refine wl_call rfl en_286 (textA hR.dr hv h6) ?_
    rintro _ u3 ⟨rfl, ow3, x3, f3, r3⟩
    obtain ⟨h4, kh4⟩ := vm_loc x3 f3 h4 kh4
    obtain ⟨h5, kh5⟩ := vm_loc x3 f3 h5 kh5
    have hs3 := hF.size
    replace hF := vm_trans hX hF f3
    replace hX := hX.trans hs3 x3
    replace hR := r3
    obtain ⟨V, κ, Vv, U, v1, z1, k1⟩ := id hR
    obtain ⟨L, op, vl⟩ := v1.ex
    have hA11 := op.a 11 (.inr rfl)
    rw [vl.o] at hA11
    obtain ⟨og, oc, e11⟩ := hA11.form
    have hM := op.m
    unfold mbc at hM
    rw [e11] at hM
    have htm := op.tm
    have hM3 : ¬ own1 (Vv 11) C.E.mb := fun y ↦ by have := hA11.t _ y; rw [htm] at this; omega
    refine wl (ro_assign rfl) ?_
    refine wl_nil (x_then (hK2 _ _ ?_))
    clear hK2 K2
    refine c_seq (fun K3 hK3 => ?_)
    refine c_seq (fun K4 hK4 => ?_)
    refine c_reg ?_ -- region 2 call.go:110
    refine wl (ro_move rfl) ?_
    refine wl (ro_nilCheck rfl) ?_
    refine wl (ro_fieldAddr (k := 11) rfl fo_89_11) ?_
    refine wl (ro_loadB rfl sc_70 (hM) rfl) ?_
    refine wl (ro_lenL rfl se_70) ?_
    refine wl (ro_move rfl) ?_
    refine wl (ro_lenS rfl st_9) ?_
    refine wl (ro_addN rfl rfl (by omega)) ?_
    refine wl (ro_addN (k := 1) rfl rfl (by omega)) ?_
    refine wl (ro_cmp (r := false) rfl rfl (congrArg some (decide_eq_false (by omega)))) ?_
    refine wl_nil (x_then (hK4 _ _ ?_))
    clear hK4 K4
    refine wc_condF rfl ?_
    refine c_skip (x_then (hK3 _ _ ?_))
    clear hK3 K3
    refine forget [(0, _), (4, _), (5, _), (6, _)] ⟨rfl, rfl, rfl, rfl, trivial⟩ (fun e => ?_)
    refine c_seq (fun K5 hK5 => ?_)
    refine c_reg ?_ -- region 4 call.go:113
    refine wl (ro_move rfl) ?_
    refine wl (ro_move rfl) ?_
    refine wl (ro_nilCheck rfl) ?_
    refine wl (ro_fieldAddr (k := 11) rfl fo_89_11) ?_
    refine wl (ro_loadB rfl sc_70 (hM) rfl) ?_
    refine wl (ro_move rfl) ?_
    refine wl_appS (t := 70) (et := 5) (m := s.out.length) (s := txV a0) (v := Vv 11) (by rw [e11]; rfl) rfl se_70 st_9 (by kernel_rfl) by_5 hA11.o (by omega) ?_
    intro v' u8 hon G1 hnb
    obtain ⟨wa, wc, rfl⟩ := hon.form
    replace hM := G1.blkF hM hM3
    refine wl (ro_nilCheck rfl) ?_
    refine wl (ro_fieldAddr (k := 11) rfl fo_89_11) ?_
    refine wl_put rfl rfl rfl sz_70 hM (by simp) (rfl) (fun w4 hM F4 => ?_)
    have hF9 := (F4)
    obtain ⟨ow7, x7, f7, r7⟩ := outG (o' := s.out ++ txV a0) v1 z1 k1 op vl (by rw [List.length_append, List.map_append]; exact hon) G1 hnb hF9 (by unfold mbc; exact hM)
    obtain ⟨h4, kh4⟩ := vm_loc x7 f7 h4 kh4
    obtain ⟨h5, kh5⟩ := vm_loc x7 f7 h5 kh5
    have hs7 := hF.size
    replace hF := vm_trans hX hF f7
    replace hX := hX.trans hs7 x7
    replace hR := r7
    obtain ⟨V2, κ2, Vv2, U2, v2, z2, k2⟩ := id hR
    obtain ⟨L2, op2, vl2⟩ := v2.ex
    have hA12 := op2.a 11 (.inr rfl)
    rw [vl2.o] at hA12
    obtain ⟨og2, oc2, e12⟩ := hA12.form
    have hM := op2.m
    unfold mbc at hM
    rw [e12] at hM
    have htm2 := op2.tm
    have hM4 : ¬ own1 (Vv2 11) C.E.mb := fun y ↦ by have := hA12.t _ y; rw [htm2] at this; omega
    have hl2 : (s.out ++ txV a0).length ≤ 300 := by rw [List.length_append]; omega
    refine wl_nil (x_then (hK5 _ _ ?_))
    clear hK5 K5
    refine forget [(0, _), (4, _), (5, _)] ⟨rfl, rfl, rfl, trivial⟩ (fun e => ?_)
    refine c_seq (fun K6 hK6 => ?_)
    refine c_reg ?_ -- region 5 call.go:114
    refine wl (ro_move rfl) ?_
    refine wl (ro_move rfl) ?_
    refine wl (ro_nilCheck rfl) ?_
    refine wl (ro_fieldAddr (k := 11) rfl fo_89_11) ?_
    refine wl (ro_loadB rfl sc_70 (hM) rfl) ?_
    refine wl_bsapp (t := 70) (et := 5) (k := 1) (m := (s.out ++ txV a0).length) (cs := [u8c 10]) rfl rfl (by rw [← e12]; rfl) rfl se_70 zx_5 by_5 rfl rfl rfl (by simp [Value.oneCell', u8c]) hA12.o (by omega) (by omega) ?_
    intro v' u9 hon2 G2 hnb2
    obtain ⟨wa2, wc2, rfl⟩ := hon2.form
    replace hM := G2.blkF hM hM4
    skip
    refine wl (ro_nilCheck rfl) ?_
    refine wl (ro_fieldAddr (k := 11) rfl fo_89_11) ?_
    refine wl_put rfl rfl rfl sz_70 hM (by simp) (rfl) (fun w5 hM F5 => ?_)
    have hF9 := (F5)
    have hon3 : Own u9.heap (.slice wa2 ((s.out ++ txV a0).length + 1) wc2) 5 1 (s.out ++ txV a0 ++ [10]).length ((s.out ++ txV a0 ++ [10]).map u8c) := by
      have e9 : (s.out ++ txV a0 ++ [10]).length = (s.out ++ txV a0).length + 1 := by rw [List.length_append]; rfl
      rw [List.map_append, e9]; exact hon2
    obtain ⟨ow8, x8, f8, r8⟩ := outG (o' := s.out ++ txV a0 ++ [10]) v2 z2 k2 op2 vl2 hon3 G2 hnb2 hF9 (by unfold mbc; exact hM)
    obtain ⟨h4, kh4⟩ := vm_loc x8 f8 h4 kh4
    obtain ⟨h5, kh5⟩ := vm_loc x8 f8 h5 kh5
    have hs8 := hF.size
    replace hF := vm_trans hX hF f8
    replace hX := hX.trans hs8 x8
    replace hR := r8
    refine wl_nil (x_then (hK6 _ _ ?_))
    clear hK6 K6
    refine forget [(4, _), (5, _)] ⟨rfl, rfl, trivial⟩ (fun e => ?_)
    refine c_seq (fun K7 hK7 => ?_)
    refine c_reg ?_ -- region 6 call.go:115
    refine wl (ro_build rfl bld_119) ?_
    refine wl (ro_build rfl bld_119) ?_
    refine wl_puta rfl rfl ((pvc_one vNil)) sz_119 (rfl) h4 ((by simp)) (rfl) (fun w6 h4 F6 => ?_)
    replace h5 := F6.blkO h5 (by first | omega | exact ow_ne (by assumption) (by assumption) (by omega))
    replace hF := hF.thenDrew.thenO F6 (by first | exact .inr (by omega) | exact .inl rfl | exact .inl (by assumption) | assumption)
    replace hR := hR.hbput ((Fram.refl (one b4) _).thenDrew.thenO F6 (.inl rfl))
    refine wl_puta rfl rfl ((pvc_one vNil)) sz_119 (rfl) h5 ((by simp)) (rfl) (fun w7 h5 F7 => ?_)
    replace h4 := F7.blkO h4 (by first | omega | exact ow_ne (by assumption) (by assumption) (by omega))
    replace hF := hF.thenDrew.thenO F7 (by first | exact .inr (by omega) | exact .inl rfl | exact .inl (by assumption) | assumption)
    replace hR := hR.hbput ((Fram.refl (one b5) _).thenDrew.thenO F7 (.inl rfl))
    refine wl_nil (x_then (hK7 _ _ ?_))
    clear hK7 K7
    refine c_ret ?_
    refine bqp_ret (res2 Tryz.results260 (rv_c rfl ag_119 (h4) (rfl)) (rv_c rfl ag_119 (h5) (rfl))) ?_
    exact ⟨by omega, rfl, _, hX, hF, hR⟩
end
end Go.Proofs.Qxb6500568aGreatDoor
