import Derived.Test.Qxb6500568aGreatDoorKl
/- Load. -/
namespace Go.Proofs.Qxb6500568aGreatDoor
open Ieee
set_option linter.unusedVariables false
set_option linter.unusedSimpArgs false
set_option linter.unusedSectionVars false

/-- the machine ahead of the image. -/
def VL.zero (L : VL) : VL := { L with A := fun _ => (0, []), nt := 0, fu := i64c 0, en := i64c 21 }
def VL.load (L : VL) (F : Fns) (fuel : Nat) : VL := { ((L.zero.protos F).appA 6 1 [i64c 0, i64c 0, i64c 0]).spawn 0 with fu := i64c fuel, en := i64c 0 }
theorem protos_keep : ∀ (F : Fns) (L : VL), (L.protos F).A 6 = L.A 6 ∧ (L.protos F).nt = L.nt ∧ (L.protos F).fu = L.fu
  | [], L => ⟨rfl, rfl, rfl⟩
  | f :: F, L => by
    obtain ⟨h1, h2⟩ := protos_keep F (L.proto f)
    refine ⟨h1.trans ?_, h2⟩
    unfold VL.proto
    rw [VL.appA_ne _ (by decide), VL.appA_ne _ (by decide), VL.appA_ne _ (by decide), VL.appA_ne _ (by decide)]
section
variable {E : VE} {w : World} {ow : Nat → Nat} {L : VL} {nb xb : Nat} {T : List Tb}
set_option maxHeartbeats 8000000 in
theorem Load38 (h : VT E nb xb w ow L T) (htp : E.tp = ptr xb) {F : Fns} (hF1' : 1 ≤ F.length) (hF13 : F.length ≤ 13) (hFO : ∀ k, FOK (fsAt F k)) (hsz : (img F).length ≤ 32768) (h00 : (fsAt F 0).np = 0 ∧ (fsAt F 0).ups = []) {fuel : Int} (hfu : fuel < 9223372036854775808) :
    Ret Tryz.prog 38 [ptr E.mb, S (img F), icv fuel] w (fun r w' => r = i64c 0 ∧ ∃ ow', Xt w ow ow' ∧ VT E nb xb w' ow' (L.load F fuel.toNat) [gl 11] ∧ Fram (tg ow vtT) w w') := by
  refine ret_of Tryz.func38 rfl Tryz.ntmps38 rfl ?_
  refine c_seq (fun K1 hK1 => ?_)
  refine c_reg ?_ -- region 0 vm.go:231
  refine wl (ro_assign rfl) ?_
  refine wl_nil (x_then (hK1 _ _ ?_))
  clear hK1 K1
  refine forget [(0, _), (1, _), (2, _)] ⟨rfl, rfl, rfl, trivial⟩ (fun e => ?_)
  refine c_seq (fun K2 hK2 => ?_)
  refine c_reg ?_ -- region 1 vm.go:232
  refine wl (ro_move rfl) ?_
  refine wl_call rfl en_83 (wipe83 (e := 21) h.m) ?_
  rintro v1 u1 ⟨rfl, hm1, f1⟩
  have htm : ow E.mb = 400 := by obtain ⟨V, U, op⟩ := h.m; exact op.tm
  have hF : Fram (one E.mb) w u1 := f1
  have hF1 : Fram (one E.mb) u1 u1 := Fram.refl _ _
  obtain ⟨V, U, op⟩ := hm1
  have hM := op.m
  unfold mbc at hM
  have a11 := op.a 11 (.inr rfl)
  obtain ⟨g11, c11, e11⟩ := a11.form
  rw [e11, htp] at hM
  refine wl_nil (x_then (hK2 _ _ ?_))
  clear hK2 K2
  refine forget [(0, _), (1, _), (2, _)] ⟨rfl, rfl, rfl, trivial⟩ (fun e => ?_)
  refine c_seq (fun K3 hK3 => ?_)
  refine c_reg ?_ -- region 2 vm.go:233
  refine wl (ro_move rfl) ?_
  refine wl (ro_move rfl) ?_
  refine wl (ro_nilCheck rfl) ?_
  refine wl (ro_fieldAddr (k := 11) rfl fo_89_11) ?_
  refine wl (ro_loadB rfl sc_70 (hM) rfl) ?_
  refine wl (ro_sliceH (h := 0) rfl rfl se_70 rfl (by omega)) ?_
  refine wl (ro_nilCheck rfl) ?_
  refine wl (ro_fieldAddr (k := 11) rfl fo_89_11) ?_
  refine wl_put rfl rfl rfl sz_70 hM (by simp) (rfl) (fun w1 hM F1 => ?_)
  replace hF := hF.thenDrew.thenO F1 (by first | exact .inr (by omega) | exact .inl rfl | exact .inl (by assumption) | assumption)
  replace hF1 := hF1.thenDrew.thenO F1 (by first | exact .inr (by omega) | exact .inl rfl | exact .inl (by assumption) | assumption)
  refine wl_nil (x_then (hK3 _ _ ?_))
  clear hK3 K3
  refine forget [(0, _), (1, _), (2, _)] ⟨rfl, rfl, rfl, trivial⟩ (fun e => ?_)
  refine c_seq (fun K4 hK4 => ?_)
  refine c_reg ?_ -- region 3 vm.go:234
  refine wl (ro_move rfl) ?_
  refine wl (ro_nilCheck rfl) ?_
  refine wl (ro_fieldAddr (k := 10) rfl fo_89_10) ?_
  refine wl_put rfl rfl rfl sz_3 hM (by simp) (rfl) (fun w2 hM F2 => ?_)
  replace hF := hF.thenDrew.thenO F2 (by first | exact .inr (by omega) | exact .inl rfl | exact .inl (by assumption) | assumption)
  replace hF1 := hF1.thenDrew.thenO F2 (by first | exact .inr (by omega) | exact .inl rfl | exact .inl (by assumption) | assumption)
  refine wl_nil (x_then (hK4 _ _ ?_))
  clear hK4 K4
  refine forget [(0, _), (1, _), (2, _)] ⟨rfl, rfl, rfl, trivial⟩ (fun e => ?_)
  refine c_seq (fun K5 hK5 => ?_)
  have hz : VMV E w2 ow L.zero := by
    refine ⟨up1 V 11 (.slice g11 0 c11), U, op.all hF1 (by unfold mbc; rw [htp]; exact hM) (fun i hi ↦ ?_) rfl rfl (Nat.zero_le _)⟩
    by_cases hi11 : i = 11
    · subst hi11
      rw [up1_self]
      rw [e11] at a11
      have := a11.take (Nat.zero_le _)
      rw [Nat.zero_mul, List.take_zero] at this
      exact this
    · rw [up1_ne hi11]
      have := op.a i hi
      rw [show (L.wipe 21).A i = (0, []) from if_neg hi11] at this
      exact this
  have hv2 : VT E nb xb w2 ow L.zero T := ⟨hz, h.t.far hF (fun b q _ z ↦ by have z : b = E.mb := z; rw [z, htm] at q; unfold rtag at q; omega) (Xt.refl _ _)⟩
  refine c_reg ?_ -- region 4 vm.go:235
  refine wl (ro_move rfl) ?_
  refine wl (ro_nilCheck rfl) ?_
  refine wl (ro_fieldAddr (k := 1) rfl fo_89_1) ?_
  refine wl (ro_loadB rfl sc_38 (hM) rfl) ?_
  refine wl_call rfl en_84 (Reset84 hv2.t) ?_
  rintro v3 u3 ⟨ht3, f3⟩
  have hq3 : VTQ E nb xb w ow L.zero [] u3 := VTQ.goT (Xt.refl _ _) (hF.mono (fun b _ z ↦ by have z : b = E.mb := z; show vtT (ow b); rw [z, htm]; left; unfold vmT; omega)) hv2 (Xt.refl _ _) f3 ht3
  obtain ⟨ow3, x3, hv3, g3⟩ := hq3
  refine wl_nil (x_then (hK5 _ _ ?_))
  clear hK5 K5
  refine c_seq (fun K6 hK6 => ?_)
  refine c_seq (fun K7 hK7 => ?_)
  refine c_reg ?_ -- region 5 vm.go:236
  refine wl (ro_move rfl) ?_
  refine wl (ro_lenS rfl st_9) ?_
  refine wl (ro_cmp rfl rfl rfl) ?_
  refine wl_nil (x_then (hK7 _ _ ?_))
  clear hK7 K7
  refine wc_cond rfl (fun hc30 => ?_) (fun hc30 => ?_)
  · try simp only [decide_eq_true_eq, decide_eq_false_iff_not, Bool.not_eq_true', Bool.not_eq_false', Bool.not_eq_eq_eq_not, Bool.not_true, Bool.not_false, beq_iff_eq, bne_iff_ne, ne_eq, beq_eq_false_iff_ne, bne_eq_false_iff_eq, gt_iff_lt, ge_iff_le, Int.not_lt, Int.not_le] at hc30
    exfalso; omega
  · try simp only [decide_eq_true_eq, decide_eq_false_iff_not, Bool.not_eq_true', Bool.not_eq_false', Bool.not_eq_eq_eq_not, Bool.not_true, Bool.not_false, beq_iff_eq, bne_iff_ne, ne_eq, beq_eq_false_iff_ne, bne_eq_false_iff_eq, gt_iff_lt, ge_iff_le, Int.not_lt, Int.not_le] at hc30
    refine c_skip (x_then (hK6 _ _ ?_))
    clear hK6 K6
    refine forget [(0, _), (1, _), (2, _)] ⟨rfl, rfl, rfl, trivial⟩ (fun e => ?_)
    refine c_seq (fun K8 hK8 => ?_)
    refine c_reg ?_ -- region 7 vm.go:239
    refine wl (ro_move rfl) ?_
    refine wl (ro_move rfl) ?_
    refine wl_call rfl en_85 (decode85 hv3.m hF1' hF13 hFO hsz h00 rfl rfl rfl rfl) ?_
    rintro v4 u4 ⟨rfl, ow4, x4, f4, hm4⟩
    obtain ⟨ow5, x5, hv5, g5⟩ := VTQ.goM x3 g3 hv3 x4 f4 hm4
    refine wl (ro_assign rfl) ?_
    refine wl_nil (x_then (hK8 _ _ ?_))
    clear hK8 K8
    refine c_seq (fun K9 hK9 => ?_)
    refine c_seq (fun K10 hK10 => ?_)
    refine c_reg ?_ -- region 8 vm.go:240
    refine wl (ro_move rfl) ?_
    refine wl (ro_not rfl) ?_
    refine wl_nil (x_then (hK10 _ _ ?_))
    clear hK10 K10
    refine wc_condF rfl ?_
    refine c_skip (x_then (hK9 _ _ ?_))
    clear hK9 K9
    refine forget [(0, _), (2, _)] ⟨rfl, rfl, trivial⟩ (fun e => ?_)
    refine c_seq (fun K11 hK11 => ?_)
    obtain ⟨V5, U5, op5⟩ := hv5.m
    have hM5 := op5.m
    unfold mbc at hM5
    rw [htp] at hM5
    refine c_reg ?_ -- region 11 vm.go:244
    refine wl (ro_move rfl) ?_
    refine wl (ro_nilCheck rfl) ?_
    refine wl (ro_fieldAddr (k := 1) rfl fo_89_1) ?_
    refine wl (ro_loadB rfl sc_38 (hM5) rfl) ?_
    refine wl_call rfl en_86 (Make86 hv5.t) ?_
    rintro v6 u6 h6
    rw [if_neg (by decide)] at h6
    obtain ⟨-, ow6, x6, ht6, f6⟩ := h6
    have hq6 : VTQ E nb xb w ow (L.zero.protos F) [gl 0] u6 := VTQ.goT x5 g5 hv5 x6 f6 ht6
    refine wl_nil (x_then (hK11 _ _ ?_))
    clear hK11 K11
    refine c_seq (fun K12 hK12 => ?_)
    refine c_seq (fun K13 hK13 => ?_)
    refine c_reg ?_ -- region 12 vm.go:245
    refine wl (ro_assign rfl) ?_
    refine wl_nil (x_then (hK13 _ _ ?_))
    clear hK13 K13
    refine c_block ?_
    -- loop@r13: live slots [0, 2, 8]
    refine c_loopG (fun m a u => ∃ i, m = 11 - i ∧ i ≤ 11 ∧ VTQ E nb xb w ow (L.zero.protos F) [gl i] u ∧ ∃ e, a = Fr 80 (upds e [(0, ptr E.mb), (2, icv fuel), (8, i64c (i + 1))]) []) _ ⟨0, rfl, by omega, hq6, kp _ ⟨rfl, rfl, rfl, trivial⟩⟩ ?_
    clear hq6
    rintro m a u ⟨i, rfl, hi, ⟨ow7, x7, hv7, g7⟩, e, rfl⟩
    obtain ⟨V7, U7, op7⟩ := hv7.m
    have hM7 := op7.m
    unfold mbc at hM7
    rw [htp] at hM7
    refine c_seq (fun K14 hK14 => ?_)
    refine c_seq (fun K15 hK15 => ?_)
    refine c_reg ?_ -- region 13 vm.go:245
    refine wl (ro_move rfl) ?_
    refine wl (ro_cmp rfl rfl rfl) ?_
    refine wl_nil (x_then (hK15 _ _ ?_))
    clear hK15 K15
    refine wc_cond rfl (fun hc44 => ?_) (fun hc44 => ?_)
    · try simp only [decide_eq_true_eq, decide_eq_false_iff_not, Bool.not_eq_true', Bool.not_eq_false', Bool.not_eq_eq_eq_not, Bool.not_true, Bool.not_false, beq_iff_eq, bne_iff_ne, ne_eq, beq_eq_false_iff_ne, bne_eq_false_iff_eq, gt_iff_lt, ge_iff_le, Int.not_lt, Int.not_le] at hc44
      refine c_skip (x_then (hK14 _ _ ?_))
      clear hK14 K14
      refine forget [(0, _), (2, _), (8, _)] ⟨rfl, rfl, rfl, trivial⟩ (fun e => ?_)
      refine c_seq (fun K16 hK16 => ?_)
      refine c_block ?_
      refine c_seq (fun K17 hK17 => ?_)
      refine c_reg ?_ -- region 15 vm.go:246
      refine wl (ro_move rfl) ?_
      refine wl_call rfl en_30 (BuiltinName30 (s := i + 1)) ?_
      rintro _ u0 ⟨rfl, hw0⟩
      rw [hw0]
      clear hw0 u0
      refine wl (ro_assign rfl) ?_
      refine wl_nil (x_then (hK17 _ _ ?_))
      clear hK17 K17
      refine c_reg ?_ -- region 16 vm.go:247
      refine wl (ro_move rfl) ?_
      refine wl (ro_nilCheck rfl) ?_
      refine wl (ro_fieldAddr (k := 1) rfl fo_89_1) ?_
      refine wl (ro_loadB rfl sc_38 (hM7) rfl) ?_
      refine wl (ro_move rfl) ?_
      refine wl (ro_build rfl bld_119_0_2) ?_
      refine wl (ro_move rfl) ?_
      refine wl (ro_conv rfl sc_3 in_117 (Go.IntWalk.u64_in _ (by omega))) ?_
      refine wl (ro_build rfl bld_119_0_1) ?_
      refine wl_call rfl en_87 (Set87 (h := 0) (k := vStr (biName (i + 1))) (v := vBi (i + 1)) hv7.t rfl (ok_str (c := 0) (t := 0) (h := 0) (bn_len i (by omega))).wf (ok_str (c := 0) (t := 0) (h := 0) (bn_len i (by omega))).w (bi_ok (c := 0) (t := 0) (h := 0) (i := i) (by omega)).wf (bi_ok (c := 0) (t := 0) (h := 0) (i := i) (by omega)).w (by rw [gl_set i (by omega)]; exact (gl_ok (i + 1) (by omega)).1)) ?_
      rintro v8 u8 ⟨-, ow8, x8, ht8, f8⟩
      have ht8 : RTab u8 ow8 nb xb [(tSet (gl i) (vStr (biName (i + 1))) (vBi (i + 1))).2] := ht8
      rw [gl_set i (by omega)] at ht8
      have hq8 : VTQ E nb xb w ow (L.zero.protos F) [gl (i + 1)] u8 := VTQ.goT x7 g7 hv7 x8 f8 ht8
      refine wl_nil (x_blk (x_then (hK16 _ _ ?_)))
      clear hK16 K16
      refine c_reg ?_ -- region 14 vm.go:245
      refine wl (ro_move rfl) ?_
      refine wl (ro_arith rfl rfl rfl (Go.IntWalk.i64_in _ (by omega))) ?_
      refine wl (ro_assign rfl) ?_
      refine wl_nil (x_then ?_)
      exact ⟨11 - (i + 1), by omega, i + 1, rfl, by omega, hq8, kp _ ⟨rfl, rfl, rfl, trivial⟩⟩
    · try simp only [decide_eq_true_eq, decide_eq_false_iff_not, Bool.not_eq_true', Bool.not_eq_false', Bool.not_eq_eq_eq_not, Bool.not_true, Bool.not_false, beq_iff_eq, bne_iff_ne, ne_eq, beq_eq_false_iff_ne, bne_eq_false_iff_eq, gt_iff_lt, ge_iff_le, Int.not_lt, Int.not_le] at hc44
      refine c_exit (x_thenX (x_thenX (x_blkX (x_then (hK12 _ _ ?_)))))
      clear hK14 K14 hK12 K12
      refine forget [(0, _), (2, _)] ⟨rfl, rfl, trivial⟩ (fun e => ?_)
      refine c_seq (fun K18 hK18 => ?_)
      obtain rfl : i = 11 := by omega
      have a6 := op7.a 6 (.inl (by decide))
      have h6n : ((L.zero.protos F).A 6).1 = 0 := by rw [(protos_keep F L.zero).1]; rfl
      obtain ⟨ga, ca, ea⟩ := a6.form
      rw [ea] at hM7
      have hM3 : ¬ own1 (V7 6) E.mb := fun y => by have := a6.t _ y; rw [op7.tm] at this; omega
      refine c_reg ?_ -- region 17 vm.go:249
      refine wl (ro_move rfl) ?_
      refine wl (ro_move rfl) ?_
      refine wl (ro_nilCheck rfl) ?_
      refine wl (ro_fieldAddr (k := 6) rfl fo_89_6) ?_
      refine wl (ro_loadB rfl sc_85 (hM7) rfl) ?_
      refine wl (ro_build rfl bld_209) ?_
      refine wl_bsapp (t := 85) (et := 209) (k := 3) (m := ((L.zero.protos F).A 6).1) (cs := [i64c 0, i64c 0, i64c 0]) rfl rfl (by rw [← ea]; rfl) rfl se_85 zx_209 by_209 rfl rfl rfl (by simp [Value.oneCell', i64c]) a6.o (by omega) (by omega) ?_
      intro v' u8 hon G1 hnb
      obtain ⟨wa, wc, rfl⟩ := hon.form
      replace hM7 := G1.blkF hM7 hM3
      skip
      refine wl (ro_nilCheck rfl) ?_
      refine wl (ro_fieldAddr (k := 6) rfl fo_89_6) ?_
      refine wl_put rfl rfl rfl sz_85 hM7 (by simp) (rfl) (fun w3 hM7 F3 => ?_)
      have hF9 := (F3)
      obtain ⟨ow8, x8, f8, op8⟩ := op7.growA (i := 6) (.inl (by decide)) hon G1 hnb hF9 (by unfold mbc; rw [htp]; exact hM7)
      have hq8 : VTQ E nb xb w ow ((L.zero.protos F).appA 6 1 [i64c 0, i64c 0, i64c 0]) [gl 11] w3 := VTQ.goM x7 g7 hv7 x8 f8 ⟨_, _, op8⟩
      obtain ⟨ow9, x9, hv9, g9⟩ := hq8
      refine wl_nil (x_then (hK18 _ _ ?_))
      clear hK18 K18
      refine forget [(0, _), (2, _)] ⟨rfl, rfl, trivial⟩ (fun e => ?_)
      refine c_seq (fun K19 hK19 => ?_)
      refine c_reg ?_ -- region 18 vm.go:250
      refine wl (ro_move rfl) ?_
      refine wl_call rfl en_88 (spawn88 (fn := 0) hv9.m (by show (L.zero.protos F).nt < 5; rw [(protos_keep F L.zero).2.1]; show 0 < 5; decide)) ?_
      rintro v10 u10 ⟨rfl, hm10, f10⟩
      have tm9 : ow9 E.mb = 400 ∧ ow9 E.tb = 409 := by obtain ⟨V, U, op⟩ := hv9.m; exact ⟨op.tm, op.tt⟩
      have hq10 : VTQ E nb xb w ow (((L.zero.protos F).appA 6 1 [i64c 0, i64c 0, i64c 0]).spawn 0) [gl 11] u10 := VTQ.goM x9 g9 hv9 (Xt.refl _ _) (f10.mono (fun b _ z ↦ by
        show vmT (ow9 b)
        rcases z with z | z
        · rw [z, tm9.1]; unfold vmT; omega
        · rw [z, tm9.2]; unfold vmT; omega)) hm10
      obtain ⟨ow10, x10, hv10, g10⟩ := hq10
      obtain ⟨V10, U10, op10⟩ := hv10.m
      have hM := op10.m
      have hF : Fram (one E.mb) u10 u10 := Fram.refl _ _
      have tm10 := op10.tm
      unfold mbc at hM
      refine wl_nil (x_then (hK19 _ _ ?_))
      clear hK19 K19
      refine c_seq (fun K20 hK20 => ?_)
      refine c_seq (fun K21 hK21 => ?_)
      refine c_reg ?_ -- region 19 vm.go:251
      refine wl (ro_move rfl) ?_
      refine wl (ro_cmp rfl rfl rfl) ?_
      refine wl_nil (x_then (hK21 _ _ ?_))
      clear hK21 K21
      refine wc_cond rfl (fun hc72 => ?_) (fun hc72 => ?_)
      · try simp only [decide_eq_true_eq, decide_eq_false_iff_not, Bool.not_eq_true', Bool.not_eq_false', Bool.not_eq_eq_eq_not, Bool.not_true, Bool.not_false, beq_iff_eq, bne_iff_ne, ne_eq, beq_eq_false_iff_ne, bne_eq_false_iff_eq, gt_iff_lt, ge_iff_le, Int.not_lt, Int.not_le] at hc72
        refine c_reg ?_ -- region 20 vm.go:252
        refine wl (ro_move rfl) ?_
        refine wl (ro_move rfl) ?_
        refine wl (ro_nilCheck rfl) ?_
        refine wl (ro_fieldAddr (k := 10) rfl fo_89_10) ?_
        refine wl_put rfl rfl rfl sz_3 hM (by simp) (rfl) (fun w4 hM F4 => ?_)
        replace hF := hF.thenDrew.thenO F4 (by first | exact .inr (by omega) | exact .inl rfl | exact .inl (by assumption) | assumption)
        refine wl_nil (x_then (hK20 _ _ ?_))
        clear hK20 K20
        refine forget [(0, _)] ⟨rfl, trivial⟩ (fun e => ?_)
        refine c_seq (fun K22 hK22 => ?_)
        refine c_reg ?_ -- region 21 vm.go:254
        refine wl (ro_move rfl) ?_
        refine wl (ro_nilCheck rfl) ?_
        refine wl (ro_fieldAddr (k := 12) rfl fo_89_12) ?_
        refine wl_put rfl rfl rfl sz_54 hM (by simp) (rfl) (fun w5 hM F5 => ?_)
        replace hF := hF.thenDrew.thenO F5 (by first | exact .inr (by omega) | exact .inl rfl | exact .inl (by assumption) | assumption)
        refine wl_nil (x_then (hK22 _ _ ?_))
        clear hK22 K22
        refine forget [] trivial (fun e => ?_)
        refine c_seq (fun K23 hK23 => ?_)
        refine c_reg ?_ -- region 22 vm.go:255
        refine wl (ro_assign rfl) ?_
        refine wl_nil (x_then (hK23 _ _ ?_))
        clear hK23 K23
        refine c_ret ?_
        refine bp_ret Tryz.results38 rfl ?_
        refine ⟨rfl, ?_⟩
        have hm11 : VMV E _ ow10 (L.load F fuel.toNat) := ⟨V10, U10, op10.own hF (by
          unfold mbc VL.load
          first
            | (have e9 : i64c fuel.toNat = icv fuel := by unfold i64c icv; congr 1; omega
               rw [e9]
               exact hM)
            | (have e9 : i64c fuel.toNat = (L.zero.protos F).fu := by rw [(protos_keep F L.zero).2.2, show fuel.toNat = 0 by omega]; rfl
               rw [e9]
               exact hM)) rfl rfl rfl (by show (L.zero.protos F).nt + 1 ≤ 5; rw [(protos_keep F L.zero).2.1]; show 0 + 1 ≤ 5; decide)⟩
        exact VTQ.goM x10 g10 hv10 (Xt.refl _ _) (hF.mono (fun b _ z ↦ by have z : b = E.mb := z; show vmT (ow10 b); rw [z, tm10]; unfold vmT; omega)) hm11
      · try simp only [decide_eq_true_eq, decide_eq_false_iff_not, Bool.not_eq_true', Bool.not_eq_false', Bool.not_eq_eq_eq_not, Bool.not_true, Bool.not_false, beq_iff_eq, bne_iff_ne, ne_eq, beq_eq_false_iff_ne, bne_eq_false_iff_eq, gt_iff_lt, ge_iff_le, Int.not_lt, Int.not_le] at hc72
        refine c_skip (x_then (hK20 _ _ ?_))
        clear hK20 K20
        refine forget [(0, _)] ⟨rfl, trivial⟩ (fun e => ?_)
        refine c_seq (fun K24 hK24 => ?_)
        refine c_reg ?_ -- region 21 vm.go:254
        refine wl (ro_move rfl) ?_
        refine wl (ro_nilCheck rfl) ?_
        refine wl (ro_fieldAddr (k := 12) rfl fo_89_12) ?_
        refine wl_put rfl rfl rfl sz_54 hM (by simp) (rfl) (fun w6 hM F6 => ?_)
        replace hF := hF.thenDrew.thenO F6 (by first | exact .inr (by omega) | exact .inl rfl | exact .inl (by assumption) | assumption)
        refine wl_nil (x_then (hK24 _ _ ?_))
        clear hK24 K24
        refine forget [] trivial (fun e => ?_)
        refine c_seq (fun K25 hK25 => ?_)
        refine c_reg ?_ -- region 22 vm.go:255
        refine wl (ro_assign rfl) ?_
        refine wl_nil (x_then (hK25 _ _ ?_))
        clear hK25 K25
        refine c_ret ?_
        refine bp_ret Tryz.results38 rfl ?_
        refine ⟨rfl, ?_⟩
        have hm11 : VMV E _ ow10 (L.load F fuel.toNat) := ⟨V10, U10, op10.own hF (by
          unfold mbc VL.load
          first
            | (have e9 : i64c fuel.toNat = icv fuel := by unfold i64c icv; congr 1; omega
               rw [e9]
               exact hM)
            | (have e9 : i64c fuel.toNat = (L.zero.protos F).fu := by rw [(protos_keep F L.zero).2.2, show fuel.toNat = 0 by omega]; rfl
               rw [e9]
               exact hM)) rfl rfl rfl (by show (L.zero.protos F).nt + 1 ≤ 5; rw [(protos_keep F L.zero).2.1]; show 0 + 1 ≤ 5; decide)⟩
        exact VTQ.goM x10 g10 hv10 (Xt.refl _ _) (hF.mono (fun b _ z ↦ by have z : b = E.mb := z; show vmT (ow10 b); rw [z, tm10]; unfold vmT; omega)) hm11
end
end Go.Proofs.Qxb6500568aGreatDoor
