import Derived.Test.Qxb6500568aGreatDoorYn
/- The interpreter: un. -/
namespace Go.Proofs.Qxb6500568aGreatDoor
open Ieee
set_option linter.unusedVariables false
set_option linter.unusedSimpArgs false
set_option linter.unusedSectionVars false

theorem lenF_le : ∀ (f n : Nat) (t : Tb), lenF f n t ≤ n + f
  | 0, n, t => Nat.le_refl _
  | f + 1, n, t => by
    unfold lenF
    split
    · omega
    · split
      · omega
      · have := lenF_le f (n + 1) t; omega
set_option maxHeartbeats 8000000 in
theorem un73 {G : Arena} {root : Nat} {np : Value} {tb rb : Nat} {nv : Value} {w : World} {ow : Nat → Nat} {β τ : List Nat} {m : Nat} {s : IS} (hR : RM G root np tb rb nv w ow β τ m s) {op : Nat} {a : PV} {c1 c2 : Nat} (ha : VV c1 c2 s.tabs.length a) (hop : 1 ≤ op ∧ op ≤ 3) (hP : RtP s) (hm : m ≤ 19990) :
    Ret Tryz.prog 73 [ptr rb, i64c op, pv a] w (fun r w' => r = .tuple #[] ∧ RP G root np tb rb nv w ow β τ (m + 2) (ires (unV s.tabs op a) s) w') := by
  have hF : Fram (tg ow cmT) w w := Fram.refl _ _
  have hX : Xt w ow ow := Xt.refl _ _
  have hpa := wf_f ha.wf ha.w
  have hwl := wf_len ha.wf
  have h12 := hR.M.len
  unfold unV
  refine ret_of Tryz.func73 rfl Tryz.ntmps73 rfl ?_
  refine c_seq (fun K1 hK1 => ?_)
  refine c_reg ?_ -- region 0 compm.go:482
  refine wl_box (cs := (pvc a)) rfl rfl (fun b5 w1 hbb5 h5 F1 => ?_)
  have hbsb5 := Nat.le_trans hF.size hbb5
  have kh5 := hR.df b5 hbb5
  replace hF := hF.thenDrew.thenN F1
  replace hR := hR.thruN ((Fram.refl none' _).thenDrew.thenN F1)
  refine wl_nil (x_then (hK1 _ _ ?_))
  clear hK1 K1
  refine forget [(0, _), (1, _), (5, _)] ⟨rfl, rfl, rfl, trivial⟩ (fun e => ?_)
  refine c_seq (fun K2 hK2 => ?_)
  refine c_reg ?_ -- region 1 compm.go:483
  refine wl (ro_move rfl) ?_
  refine wl_nil (x_then (hK2 _ _ ?_))
  clear hK2 K2
  refine c_block ?_
  refine forget [(0, _), (5, _), (10, _)] ⟨rfl, rfl, rfl, trivial⟩ (fun e => ?_)
  refine c_seq (fun K3 hK3 => ?_)
  refine c_reg ?_ -- region 2 compm.go:484
  refine wl (ro_cmp rfl rfl rfl) ?_
  refine wl (ro_assign rfl) ?_
  refine wl_nil (x_then (hK3 _ _ ?_))
  clear hK3 K3
  refine wc_cond rfl (fun hc11 => ?_) (fun hc11 => ?_)
  · try simp only [decide_eq_true_eq, decide_eq_false_iff_not, Bool.not_eq_true', Bool.not_eq_false', Bool.not_eq_eq_eq_not, Bool.not_true, Bool.not_false, beq_iff_eq, bne_iff_ne, ne_eq, beq_eq_false_iff_ne, bne_eq_false_iff_eq, gt_iff_lt, ge_iff_le, Int.not_lt, Int.not_le] at hc11
    refine c_seq (fun K4 hK4 => ?_)
    refine c_reg ?_ -- region 3 compm.go:485
    refine wl (ro_loadAggB rfl ag_119 (by assumption) rfl rfl) ?_
    refine wl_call rfl en_62 (Truthy62 hpa) ?_
    rintro _ w2 ⟨rfl, F2⟩
    replace hF := hF.thenDrew.thenN F2
    replace hR := hR.thruN ((Fram.refl none' _).thenDrew.thenN F2)
    replace h5 := F2.blkN h5
    refine wl (ro_assign rfl) ?_
    refine wl_nil (x_then (hK4 _ _ ?_))
    clear hK4 K4
    refine c_reg ?_ -- region 4 compm.go:486
    refine wl (ro_move rfl) ?_
    refine wl (ro_move rfl) ?_
    refine wl (ro_not rfl) ?_
    refine wl_call rfl en_124 (pushBool124 (b := !trV a) hR.dr (by omega)) ?_
    rintro _ u3 ⟨rfl, ow3, x3, f3, r3⟩
    obtain ⟨h5, kh5⟩ := cm_loc x3 f3 h5 kh5
    have hs3 := hF.size
    replace hF := cm_trans hX hF f3
    replace hX := hX.trans hs3 x3
    replace hR := r3
    refine wl_nil (x_blk ?_)
    refine bp_end Tryz.results73 rfl ?_
    refine ⟨rfl, _, hX, hF, ?_⟩
    first
    | (exfalso; omega)
    | (repeat (first | rw [if_pos (by omega)] | rw [if_neg (by omega)])
       first
       | exact hR.le (by omega)
       | exact hR)
  · try simp only [decide_eq_true_eq, decide_eq_false_iff_not, Bool.not_eq_true', Bool.not_eq_false', Bool.not_eq_eq_eq_not, Bool.not_true, Bool.not_false, beq_iff_eq, bne_iff_ne, ne_eq, beq_eq_false_iff_ne, bne_eq_false_iff_eq, gt_iff_lt, ge_iff_le, Int.not_lt, Int.not_le] at hc11
    refine c_seq (fun K5 hK5 => ?_)
    refine c_reg ?_ -- region 5 compm.go:487
    refine wl (ro_cmp rfl rfl rfl) ?_
    refine wl (ro_assign rfl) ?_
    refine wl_nil (x_then (hK5 _ _ ?_))
    clear hK5 K5
    refine wc_cond rfl (fun hc19 => ?_) (fun hc19 => ?_)
    · try simp only [decide_eq_true_eq, decide_eq_false_iff_not, Bool.not_eq_true', Bool.not_eq_false', Bool.not_eq_eq_eq_not, Bool.not_true, Bool.not_false, beq_iff_eq, bne_iff_ne, ne_eq, beq_eq_false_iff_ne, bne_eq_false_iff_eq, gt_iff_lt, ge_iff_le, Int.not_lt, Int.not_le] at hc19
      refine c_seq (fun K6 hK6 => ?_)
      refine c_seq (fun K7 hK7 => ?_)
      refine c_reg ?_ -- region 6 compm.go:488
      refine wl (ro_fieldAddr (k := 0) rfl fo_119_0) ?_
      refine wl (ro_loadB rfl sc_3 (by assumption) rfl) ?_
      refine wl (ro_cmp rfl rfl rfl) ?_
      refine wl_nil (x_then (hK7 _ _ ?_))
      clear hK7 K7
      refine wc_cond rfl (fun hc23 => ?_) (fun hc23 => ?_)
      · try simp only [decide_eq_true_eq, decide_eq_false_iff_not, Bool.not_eq_true', Bool.not_eq_false', Bool.not_eq_eq_eq_not, Bool.not_true, Bool.not_false, beq_iff_eq, bne_iff_ne, ne_eq, beq_eq_false_iff_ne, bne_eq_false_iff_eq, gt_iff_lt, ge_iff_le, Int.not_lt, Int.not_le] at hc23
        refine c_seq (fun K8 hK8 => ?_)
        refine c_reg ?_ -- region 7 compm.go:489
        refine wl (ro_move rfl) ?_
        refine wl_call rfl en_64 (raise64 (z := mArith) hR.dr (by decide) hP hm) ?_
        rintro _ u4 ⟨rfl, ow4, x4, f4, r4⟩
        obtain ⟨h5, kh5⟩ := cm_loc x4 f4 h5 kh5
        have hs4 := hF.size
        replace hF := cm_trans hX hF f4
        replace hX := hX.trans hs4 x4
        replace hR := r4
        refine wl_nil (x_then (hK8 _ _ ?_))
        clear hK8 K8
        refine c_ret (x_thenR (x_blkR ?_))
        refine bp_ret Tryz.results73 rfl ?_
        refine ⟨rfl, _, hX, hF, ?_⟩
        first
        | (exfalso; omega)
        | (repeat (first | rw [if_pos (by omega)] | rw [if_neg (by omega)])
           first
           | exact hR.le (by omega)
           | exact hR)
      · try simp only [decide_eq_true_eq, decide_eq_false_iff_not, Bool.not_eq_true', Bool.not_eq_false', Bool.not_eq_eq_eq_not, Bool.not_true, Bool.not_false, beq_iff_eq, bne_iff_ne, ne_eq, beq_eq_false_iff_ne, bne_eq_false_iff_eq, gt_iff_lt, ge_iff_le, Int.not_lt, Int.not_le] at hc23
        refine c_skip (x_then (hK6 _ _ ?_))
        clear hK6 K6
        refine forget [(0, _), (5, _)] ⟨rfl, rfl, trivial⟩ (fun e => ?_)
        refine c_seq (fun K9 hK9 => ?_)
        refine c_pi [(0, false), (1, false), (2, false), (3, false), (4, false), (5, false), (6, true), (7, false)] (La b5 _ _ (Lz rb _ _ _)) mixed (by kernel_rfl) rfl (by kernel_rfl) (po_then (po_blk (po_bp))) (⟨h5, hR.rz⟩) ?_ -- region 8 compm.go:492
        refine pi_ro rfl (fun w hS => ro_move rfl) ?_
        refine pi_ro rfl (fun w hS => ro_nilCheck rfl) ?_
        refine pi_ro rfl (fun w hS => ro_fieldAddr (k := 0) rfl fo_112_0) ?_
        refine pi_ro rfl (fun w hS => let ⟨_, hc⟩ := hS.2; ro_loadB rfl sc_46 hc rfl) ?_
        refine pi_ro rfl (fun w hS => ro_fieldAddr (k := 1) rfl fo_119_1) ?_
        refine pi_ro rfl (fun w hS => ro_loadB rfl sc_117 (hS.1) rfl) ?_
        refine pi_call rfl rfl en_125 (Neg125 ha.w) ?_
        rintro _ _ ⟨rfl, rfl⟩
        refine ⟨⟨h5, hR.rz⟩, ?_⟩
        refine pi_ro rfl (fun w hS => ro_assign rfl) ?_
        refine pi_nil (x_then (hK9 _ _ ?_))
        clear hK9 K9
        refine c_reg ?_ -- region 9 compm.go:493
        refine wl (ro_move rfl) ?_
        refine wl (ro_move rfl) ?_
        refine wl (ro_build rfl bld_119_0_1) ?_
        refine wl_call rfl en_67 (push67 (v := vNum (fNeg a.N)) hR.dr (by omega)) ?_
        rintro _ u5 ⟨rfl, ow5, x5, f5, r5⟩
        obtain ⟨h5, kh5⟩ := cm_loc x5 f5 h5 kh5
        have hs5 := hF.size
        replace hF := cm_trans hX hF f5
        replace hX := hX.trans hs5 x5
        replace hR := r5
        refine wl_nil (x_blk ?_)
        refine bp_end Tryz.results73 rfl ?_
        refine ⟨rfl, _, hX, hF, ?_⟩
        first
        | (exfalso; omega)
        | (repeat (first | rw [if_pos (by omega)] | rw [if_neg (by omega)])
           first
           | exact hR.le (by omega)
           | exact hR)
    · try simp only [decide_eq_true_eq, decide_eq_false_iff_not, Bool.not_eq_true', Bool.not_eq_false', Bool.not_eq_eq_eq_not, Bool.not_true, Bool.not_false, beq_iff_eq, bne_iff_ne, ne_eq, beq_eq_false_iff_ne, bne_eq_false_iff_eq, gt_iff_lt, ge_iff_le, Int.not_lt, Int.not_le] at hc19
      refine c_seq (fun K10 hK10 => ?_)
      refine c_reg ?_ -- region 10 compm.go:494
      refine wl (ro_cmp rfl rfl rfl) ?_
      refine wl (ro_assign rfl) ?_
      refine wl_nil (x_then (hK10 _ _ ?_))
      clear hK10 K10
      refine wc_cond rfl (fun hc37 => ?_) (fun hc37 => ?_)
      · try simp only [decide_eq_true_eq, decide_eq_false_iff_not, Bool.not_eq_true', Bool.not_eq_false', Bool.not_eq_eq_eq_not, Bool.not_true, Bool.not_false, beq_iff_eq, bne_iff_ne, ne_eq, beq_eq_false_iff_ne, bne_eq_false_iff_eq, gt_iff_lt, ge_iff_le, Int.not_lt, Int.not_le] at hc37
        refine c_seq (fun K11 hK11 => ?_)
        refine c_reg ?_ -- region 11 compm.go:495
        refine wl (ro_fieldAddr (k := 2) rfl fo_119_2) ?_
        refine wl (ro_loadB rfl sc_9 (by assumption) rfl) ?_
        refine wl (ro_lenS rfl st_9) ?_
        refine wl (ro_assign rfl) ?_
        refine wl_nil (x_then (hK11 _ _ ?_))
        clear hK11 K11
        refine c_seq (fun K12 hK12 => ?_)
        refine c_seq (fun K13 hK13 => ?_)
        refine c_reg ?_ -- region 12 compm.go:496
        refine wl (ro_fieldAddr (k := 0) rfl fo_119_0) ?_
        refine wl (ro_loadB rfl sc_3 (by assumption) rfl) ?_
        refine wl (ro_cmp rfl rfl rfl) ?_
        refine wl_nil (x_then (hK13 _ _ ?_))
        clear hK13 K13
        refine wc_cond rfl (fun hc44 => ?_) (fun hc44 => ?_)
        · try simp only [decide_eq_true_eq, decide_eq_false_iff_not, Bool.not_eq_true', Bool.not_eq_false', Bool.not_eq_eq_eq_not, Bool.not_true, Bool.not_false, beq_iff_eq, bne_iff_ne, ne_eq, beq_eq_false_iff_ne, bne_eq_false_iff_eq, gt_iff_lt, ge_iff_le, Int.not_lt, Int.not_le] at hc44
          have htN := ha.tb (by omega)
          have htl : tLen (s.tabs.getD a.N []) ≤ 0 + 33 := lenF_le 33 0 (s.tabs.getD a.N [])
          refine c_pi [(0, false), (1, false), (2, false), (3, false), (4, false), (5, false), (6, false), (7, true), (8, false), (9, false), (10, false), (11, false)] (La b5 _ _ (Lz rb _ _ _)) mixed (by kernel_rfl) rfl (by kernel_rfl) (po_then (po_blk (po_bp))) (⟨h5, hR.rz⟩) ?_ -- region 13 compm.go:497
          refine pi_ro rfl (fun w hS => ro_move rfl) ?_
          refine pi_ro rfl (fun w hS => ro_nilCheck rfl) ?_
          refine pi_ro rfl (fun w hS => ro_fieldAddr (k := 1) rfl fo_112_1) ?_
          refine pi_ro rfl (fun w hS => let ⟨_, hc⟩ := hS.2; ro_loadB rfl sc_48 hc rfl) ?_
          refine pi_ro rfl (fun w hS => ro_fieldAddr (k := 1) rfl fo_119_1) ?_
          refine pi_ro rfl (fun w hS => ro_loadB rfl sc_117 (hS.1) rfl) ?_
          refine pi_ro rfl (fun w hS => ro_conv rfl sc_117 in_3 (Go.IntWalk.i64_in _ (by omega))) ?_
          refine pi_call rfl rfl en_126 (hR.dr.len126 htN) ?_
          rintro _ w6 ⟨rfl, F6⟩
          replace hF := hF.thenDrew.thenN F6
          replace hR := hR.thruN ((Fram.refl none' _).thenDrew.thenN F6)
          replace h5 := F6.blkN h5
          refine ⟨⟨h5, hR.rz⟩, ?_⟩
          refine pi_ro rfl (fun w hS => ro_move rfl) ?_
          refine pi_ro rfl (fun w hS => ro_extract rfl rfl) ?_
          refine pi_ro rfl (fun w hS => ro_extract rfl rfl) ?_
          refine pi_ro rfl (fun w hS => ro_assign rfl) ?_
          refine pi_nil (x_then (hK12 _ _ ?_))
          clear hK12 K12
          refine forget [(0, _), (8, _)] ⟨rfl, rfl, trivial⟩ (fun e => ?_)
          refine c_seq (fun K14 hK14 => ?_)
          obtain ⟨cv, hv_, a0, a1, a2, a3, a4, hXr, hq2, hq3, hq4⟩ := hR.r
          unfold rnc at hXr
          have hk70 := hR.t70
          refine c_reg ?_ -- region 16 compm.go:502
          refine wl (ro_move rfl) ?_
          refine wl (ro_nilCheck rfl) ?_
          refine wl (ro_fieldAddr (k := 0) rfl fo_112_0) ?_
          refine wl (ro_loadB rfl sc_46 (by assumption) rfl) ?_
          refine wl (ro_move rfl) ?_
          refine wl_call rfl en_70 (FromInt70 (by omega)) ?_
          rintro _ u0 ⟨rfl, hw0⟩
          rw [hw0]
          clear hw0 u0
          refine wl (ro_assign rfl) ?_
          refine wl_nil (x_then (hK14 _ _ ?_))
          clear hK14 K14
          refine c_reg ?_ -- region 17 compm.go:503
          refine wl (ro_move rfl) ?_
          refine wl (ro_move rfl) ?_
          refine wl (ro_build rfl bld_119_0_1) ?_
          refine wl_call rfl en_67 (push67 (v := vNum (fInt _)) hR.dr (by omega)) ?_
          rintro _ u7 ⟨rfl, ow7, x7, f7, r7⟩
          obtain ⟨h5, kh5⟩ := cm_loc x7 f7 h5 kh5
          have hs7 := hF.size
          replace hF := cm_trans hX hF f7
          replace hX := hX.trans hs7 x7
          replace hR := r7
          refine wl_nil (x_blk ?_)
          refine bp_end Tryz.results73 rfl ?_
          refine ⟨rfl, _, hX, hF, ?_⟩
          first
          | (exfalso; omega)
          | (repeat (first | rw [if_pos (by omega)] | rw [if_neg (by omega)])
             first
             | exact hR.le (by omega)
             | exact hR)
        · try simp only [decide_eq_true_eq, decide_eq_false_iff_not, Bool.not_eq_true', Bool.not_eq_false', Bool.not_eq_eq_eq_not, Bool.not_true, Bool.not_false, beq_iff_eq, bne_iff_ne, ne_eq, beq_eq_false_iff_ne, bne_eq_false_iff_eq, gt_iff_lt, ge_iff_le, Int.not_lt, Int.not_le] at hc44
          refine c_seq (fun K15 hK15 => ?_)
          refine c_reg ?_ -- region 14 compm.go:498
          refine wl (ro_fieldAddr (k := 0) rfl fo_119_0) ?_
          refine wl (ro_loadB rfl sc_3 (by assumption) rfl) ?_
          refine wl (ro_cmp rfl rfl rfl) ?_
          refine wl_nil (x_then (hK15 _ _ ?_))
          clear hK15 K15
          refine wc_cond rfl (fun hc58 => ?_) (fun hc58 => ?_)
          · try simp only [decide_eq_true_eq, decide_eq_false_iff_not, Bool.not_eq_true', Bool.not_eq_false', Bool.not_eq_eq_eq_not, Bool.not_true, Bool.not_false, beq_iff_eq, bne_iff_ne, ne_eq, beq_eq_false_iff_ne, bne_eq_false_iff_eq, gt_iff_lt, ge_iff_le, Int.not_lt, Int.not_le] at hc58
            refine c_seq (fun K16 hK16 => ?_)
            refine c_reg ?_ -- region 15 compm.go:499
            refine wl (ro_move rfl) ?_
            refine wl_call rfl en_64 (raise64 (z := mLen) hR.dr (by decide) hP hm) ?_
            rintro _ u8 ⟨rfl, ow8, x8, f8, r8⟩
            obtain ⟨h5, kh5⟩ := cm_loc x8 f8 h5 kh5
            have hs8 := hF.size
            replace hF := cm_trans hX hF f8
            replace hX := hX.trans hs8 x8
            replace hR := r8
            refine wl_nil (x_then (hK16 _ _ ?_))
            clear hK16 K16
            refine c_ret (x_thenR (x_blkR ?_))
            refine bp_ret Tryz.results73 rfl ?_
            refine ⟨rfl, _, hX, hF, ?_⟩
            first
            | (exfalso; omega)
            | (repeat (first | rw [if_pos (by omega)] | rw [if_neg (by omega)])
               first
               | exact hR.le (by omega)
               | exact hR)
          · try simp only [decide_eq_true_eq, decide_eq_false_iff_not, Bool.not_eq_true', Bool.not_eq_false', Bool.not_eq_eq_eq_not, Bool.not_true, Bool.not_false, beq_iff_eq, bne_iff_ne, ne_eq, beq_eq_false_iff_ne, bne_eq_false_iff_eq, gt_iff_lt, ge_iff_le, Int.not_lt, Int.not_le] at hc58
            refine c_skip (x_then (hK12 _ _ ?_))
            clear hK12 K12
            refine forget [(0, _), (8, _)] ⟨rfl, rfl, trivial⟩ (fun e => ?_)
            refine c_seq (fun K17 hK17 => ?_)
            obtain ⟨cv, hv_, a0, a1, a2, a3, a4, hXr, hq2, hq3, hq4⟩ := hR.r
            unfold rnc at hXr
            have hk70 := hR.t70
            refine c_reg ?_ -- region 16 compm.go:502
            refine wl (ro_move rfl) ?_
            refine wl (ro_nilCheck rfl) ?_
            refine wl (ro_fieldAddr (k := 0) rfl fo_112_0) ?_
            refine wl (ro_loadB rfl sc_46 (by assumption) rfl) ?_
            refine wl (ro_move rfl) ?_
            refine wl_call rfl en_70 (FromInt70 (by omega)) ?_
            rintro _ u0 ⟨rfl, hw0⟩
            rw [hw0]
            clear hw0 u0
            refine wl (ro_assign rfl) ?_
            refine wl_nil (x_then (hK17 _ _ ?_))
            clear hK17 K17
            refine c_reg ?_ -- region 17 compm.go:503
            refine wl (ro_move rfl) ?_
            refine wl (ro_move rfl) ?_
            refine wl (ro_build rfl bld_119_0_1) ?_
            refine wl_call rfl en_67 (push67 (v := vNum (fInt _)) hR.dr (by omega)) ?_
            rintro _ u9 ⟨rfl, ow9, x9, f9, r9⟩
            obtain ⟨h5, kh5⟩ := cm_loc x9 f9 h5 kh5
            have hs9 := hF.size
            replace hF := cm_trans hX hF f9
            replace hX := hX.trans hs9 x9
            replace hR := r9
            refine wl_nil (x_blk ?_)
            refine bp_end Tryz.results73 rfl ?_
            refine ⟨rfl, _, hX, hF, ?_⟩
            first
            | (exfalso; omega)
            | (repeat (first | rw [if_pos (by omega)] | rw [if_neg (by omega)])
               first
               | exact hR.le (by omega)
               | exact hR)
      · try simp only [decide_eq_true_eq, decide_eq_false_iff_not, Bool.not_eq_true', Bool.not_eq_false', Bool.not_eq_eq_eq_not, Bool.not_true, Bool.not_false, beq_iff_eq, bne_iff_ne, ne_eq, beq_eq_false_iff_ne, bne_eq_false_iff_eq, gt_iff_lt, ge_iff_le, Int.not_lt, Int.not_le] at hc37
        refine c_skip (x_blk ?_)
        refine bp_end Tryz.results73 rfl ?_
        refine ⟨rfl, _, hX, hF, ?_⟩
        first
        | (exfalso; omega)
        | (repeat (first | rw [if_pos (by omega)] | rw [if_neg (by omega)])
           first
           | exact hR.le (by omega)
           | exact hR)

end Go.Proofs.Qxb6500568aGreatDoor
