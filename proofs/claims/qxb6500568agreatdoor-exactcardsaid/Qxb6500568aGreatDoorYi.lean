import Derived.Test.Qxb6500568aGreatDoorYh
/- The interpreter: ShowVal, back. -/
namespace Go.Proofs.Qxb6500568aGreatDoor
open Ieee
set_option linter.unusedVariables false
set_option linter.unusedSimpArgs false
set_option linter.unusedSectionVars false

set_option maxHeartbeats 4000000 in
theorem ShowVal42 {w : World} {v : PV} (hv : PVf v) (hS : v.S.length ≤ 1000000) : Ret Tryz.prog 42 [pv v] w (fun r w' => r = S (shV v) ∧ Fram none' w w') := by
  have hF : Fram none' w w := Fram.refl _ _
  have hT := hv.t
  have hN : W64 v.N := hv.n
  have l1 : (dgT v.S.length).length ≤ 20 := dgT_len (k := 19) (by omega) (by omega)
  have l2 : (dgT v.T).length ≤ 20 := dgT_len (k := 19) (by omega) (by omega)
  have l3 : (dgT v.N).length ≤ 20 := dgT_len (k := 19) (by omega) (by unfold W64 at hN; omega)
  have i1 : itT (v.S.length : Int) = dgT v.S.length := by unfold itT; rw [if_neg (by omega)]; rfl
  have i2 : itT (v.T : Int) = dgT v.T := by unfold itT; rw [if_neg (by omega)]; rfl
  refine ret_of Tryz.func42 rfl Tryz.ntmps42 rfl ?_
  refine c_seq (fun K1 hK1 => ?_)
  refine c_reg ?_ -- region 0 api.go:278
  refine wl_box (cs := (pvc v)) rfl rfl (fun b1 w1 hbb1 h1 F1 => ?_)
  have hbsb1 := Nat.le_trans hF.size hbb1
  replace hF := hF.thenDrew.thenN F1
  refine wl (ro_assign rfl) ?_
  refine wl_nil (x_then (hK1 _ _ ?_))
  clear hK1 K1
  refine forget [(1, _)] ⟨rfl, trivial⟩ (fun e => ?_)
  refine c_seq (fun K2 hK2 => ?_)
  refine c_reg ?_ -- region 1 api.go:279
  refine wl (ro_fieldAddr (k := 2) rfl fo_119_2) ?_
  refine wl (ro_loadB rfl sc_9 (by assumption) rfl) ?_
  refine wl (ro_lenS rfl st_9) ?_
  refine wl_call rfl en_92 (Itoa92 (n := (v.S.length : Int)) (by omega)) ?_
  rintro _ w2 ⟨rfl, F2⟩
  rw [i1]
  replace hF := hF.thenDrew.thenN F2
  replace h1 := F2.blkN h1
  refine wl (ro_assign rfl) ?_
  refine wl_nil (x_then (hK2 _ _ ?_))
  clear hK2 K2
  refine c_seq (fun K3 hK3 => ?_)
  refine c_seq (fun K4 hK4 => ?_)
  refine c_reg ?_ -- region 2 api.go:280
  refine wl (ro_fieldAddr (k := 0) rfl fo_119_0) ?_
  refine wl (ro_loadB rfl sc_3 (by assumption) rfl) ?_
  refine wl (ro_cmp rfl rfl rfl) ?_
  refine wl_fork rfl (fun hg13 => ?_) (fun hg13 => ?_)
  · try simp only [decide_eq_true_eq, decide_eq_false_iff_not, Bool.not_eq_true', Bool.not_eq_false', Bool.not_eq_eq_eq_not, Bool.not_true, Bool.not_false, beq_iff_eq, bne_iff_ne, ne_eq, beq_eq_false_iff_ne, bne_eq_false_iff_eq, gt_iff_lt, ge_iff_le, Int.not_lt, Int.not_le] at hg13
    refine wlg_yes rfl (ro_fieldAddr (k := 1) rfl fo_119_1) ?_
    refine wlg_yes rfl (ro_loadB rfl sc_117 (by assumption) rfl) ?_
    refine wlg_yes rfl (ro_cmpU rfl rfl rfl) ?_
    refine wl (ro_pick rfl rfl rfl) ?_
    refine wl_nil (x_then (hK4 _ _ ?_))
    clear hK4 K4
    refine wc_cond rfl (fun hc17 => ?_) (fun hc17 => ?_)
    · try simp only [decide_eq_true_eq, decide_eq_false_iff_not, Bool.not_eq_true', Bool.not_eq_false', Bool.not_eq_eq_eq_not, Bool.not_true, Bool.not_false, beq_iff_eq, bne_iff_ne, ne_eq, beq_eq_false_iff_ne, bne_eq_false_iff_eq, gt_iff_lt, ge_iff_le, Int.not_lt, Int.not_le] at hc17
      refine c_seq (fun K5 hK5 => ?_)
      refine c_reg ?_ -- region 3 api.go:281
      refine wl (ro_move rfl) ?_
      refine wl (ro_catS (l := [115]) rfl rfl (by simp; omega)) ?_
      refine wl (ro_catS (m := [58]) rfl rfl (by simp; omega)) ?_
      refine wl (ro_fieldAddr (k := 2) rfl fo_119_2) ?_
      refine wl (ro_loadB rfl sc_9 (by assumption) rfl) ?_
      refine wl (ro_catS rfl rfl (by simp; omega)) ?_
      refine wl (ro_assign rfl) ?_
      refine wl_nil (x_then (hK5 _ _ ?_))
      clear hK5 K5
      refine c_ret (x_thenR ?_)
      refine bp_ret Tryz.results42 rfl ?_
      exact ⟨by unfold shV; rw [if_pos ⟨by omega, hc17⟩]; simp, hF⟩
    · try simp only [decide_eq_true_eq, decide_eq_false_iff_not, Bool.not_eq_true', Bool.not_eq_false', Bool.not_eq_eq_eq_not, Bool.not_true, Bool.not_false, beq_iff_eq, bne_iff_ne, ne_eq, beq_eq_false_iff_ne, bne_eq_false_iff_eq, gt_iff_lt, ge_iff_le, Int.not_lt, Int.not_le] at hc17
      refine c_skip (x_then (hK3 _ _ ?_))
      clear hK3 K3
      refine forget [(1, _), (3, _)] ⟨rfl, rfl, trivial⟩ (fun e => ?_)
      refine c_seq (fun K6 hK6 => ?_)
      refine c_reg ?_ -- region 4 api.go:283
      refine wl (ro_fieldAddr (k := 1) rfl fo_119_1) ?_
      refine wl (ro_loadB rfl sc_117 (by assumption) rfl) ?_
      refine wl_call rfl en_93 (Utoa93 hN) ?_
      rintro _ w3 ⟨rfl, F3⟩
      replace hF := hF.thenDrew.thenN F3
      replace h1 := F3.blkN h1
      refine wl (ro_assign rfl) ?_
      refine wl_nil (x_then (hK6 _ _ ?_))
      clear hK6 K6
      refine forget [(1, _), (3, _), (4, _)] ⟨rfl, rfl, rfl, trivial⟩ (fun e => ?_)
      refine c_seq (fun K7 hK7 => ?_)
      refine c_reg ?_ -- region 5 api.go:284
      refine wl (ro_fieldAddr (k := 0) rfl fo_119_0) ?_
      refine wl (ro_loadB rfl sc_3 (by assumption) rfl) ?_
      refine wl_call rfl en_92 (Itoa92 (n := (v.T : Int)) (by omega)) ?_
      rintro _ w4 ⟨rfl, F4⟩
      rw [i2]
      replace hF := hF.thenDrew.thenN F4
      replace h1 := F4.blkN h1
      refine wl (ro_assign rfl) ?_
      refine wl_nil (x_then (hK7 _ _ ?_))
      clear hK7 K7
      refine c_seq (fun K8 hK8 => ?_)
      refine c_seq (fun K9 hK9 => ?_)
      refine c_reg ?_ -- region 6 api.go:285
      refine wl (ro_fieldAddr (k := 2) rfl fo_119_2) ?_
      refine wl (ro_loadB rfl sc_9 (by assumption) rfl) ?_
      refine wl (ro_eqS (m := []) rfl rfl rfl) ?_
      refine wl_nil (x_then (hK9 _ _ ?_))
      clear hK9 K9
      refine wc_cond rfl (fun hc32 => ?_) (fun hc32 => ?_)
      · try simp only [decide_eq_true_eq, decide_eq_false_iff_not, Bool.not_eq_true', Bool.not_eq_false', Bool.not_eq_eq_eq_not, Bool.not_true, Bool.not_false, beq_iff_eq, bne_iff_ne, ne_eq, beq_eq_false_iff_ne, bne_eq_false_iff_eq, gt_iff_lt, ge_iff_le, Int.not_lt, Int.not_le] at hc32
        refine c_seq (fun K10 hK10 => ?_)
        refine c_reg ?_ -- region 7 api.go:286
        refine wl (ro_move rfl) ?_
        refine wl (ro_catS (l := [118]) rfl rfl (by simp; omega)) ?_
        refine wl (ro_catS (m := [46]) rfl rfl (by simp; omega)) ?_
        refine wl (ro_move rfl) ?_
        refine wl (ro_catS rfl rfl (by simp; omega)) ?_
        refine wl (ro_assign rfl) ?_
        refine wl_nil (x_then (hK10 _ _ ?_))
        clear hK10 K10
        refine c_ret (x_thenR ?_)
        refine bp_ret Tryz.results42 rfl ?_
        exact ⟨by unfold shV; rw [if_neg (by omega), if_pos hc32]; simp, hF⟩
      · try simp only [decide_eq_true_eq, decide_eq_false_iff_not, Bool.not_eq_true', Bool.not_eq_false', Bool.not_eq_eq_eq_not, Bool.not_true, Bool.not_false, beq_iff_eq, bne_iff_ne, ne_eq, beq_eq_false_iff_ne, bne_eq_false_iff_eq, gt_iff_lt, ge_iff_le, Int.not_lt, Int.not_le] at hc32
        refine c_skip (x_then (hK8 _ _ ?_))
        clear hK8 K8
        refine forget [(1, _), (3, _), (4, _), (5, _)] ⟨rfl, rfl, rfl, rfl, trivial⟩ (fun e => ?_)
        refine c_seq (fun K11 hK11 => ?_)
        refine c_reg ?_ -- region 8 api.go:288
        refine wl (ro_move rfl) ?_
        refine wl (ro_catS (l := [118]) rfl rfl (by simp; omega)) ?_
        refine wl (ro_catS (m := [46]) rfl rfl (by simp; omega)) ?_
        refine wl (ro_move rfl) ?_
        refine wl (ro_catS rfl rfl (by simp; omega)) ?_
        refine wl (ro_catS (m := [33]) rfl rfl (by simp; omega)) ?_
        refine wl (ro_move rfl) ?_
        refine wl (ro_catS rfl rfl (by simp; omega)) ?_
        refine wl (ro_catS (m := [58]) rfl rfl (by simp; omega)) ?_
        refine wl (ro_fieldAddr (k := 2) rfl fo_119_2) ?_
        refine wl (ro_loadB rfl sc_9 (by assumption) rfl) ?_
        refine wl (ro_catS rfl rfl (by simp; omega)) ?_
        refine wl (ro_assign rfl) ?_
        refine wl_nil (x_then (hK11 _ _ ?_))
        clear hK11 K11
        refine c_ret ?_
        refine bp_ret Tryz.results42 rfl ?_
        exact ⟨by unfold shV; rw [if_neg (by omega), if_neg hc32]; simp, hF⟩
  · try simp only [decide_eq_true_eq, decide_eq_false_iff_not, Bool.not_eq_true', Bool.not_eq_false', Bool.not_eq_eq_eq_not, Bool.not_true, Bool.not_false, beq_iff_eq, bne_iff_ne, ne_eq, beq_eq_false_iff_ne, bne_eq_false_iff_eq, gt_iff_lt, ge_iff_le, Int.not_lt, Int.not_le] at hg13
    refine wlg_no rfl ?_
    refine wlg_no rfl ?_
    refine wlg_no rfl ?_
    refine wl (ro_pick rfl rfl rfl) ?_
    refine wl_nil (x_then (hK4 _ _ ?_))
    clear hK4 K4
    refine wc_condF rfl ?_
    refine c_skip (x_then (hK3 _ _ ?_))
    clear hK3 K3
    refine forget [(1, _), (3, _)] ⟨rfl, rfl, trivial⟩ (fun e => ?_)
    refine c_seq (fun K12 hK12 => ?_)
    refine c_reg ?_ -- region 4 api.go:283
    refine wl (ro_fieldAddr (k := 1) rfl fo_119_1) ?_
    refine wl (ro_loadB rfl sc_117 (by assumption) rfl) ?_
    refine wl_call rfl en_93 (Utoa93 hN) ?_
    rintro _ w5 ⟨rfl, F5⟩
    replace hF := hF.thenDrew.thenN F5
    replace h1 := F5.blkN h1
    refine wl (ro_assign rfl) ?_
    refine wl_nil (x_then (hK12 _ _ ?_))
    clear hK12 K12
    refine forget [(1, _), (3, _), (4, _)] ⟨rfl, rfl, rfl, trivial⟩ (fun e => ?_)
    refine c_seq (fun K13 hK13 => ?_)
    refine c_reg ?_ -- region 5 api.go:284
    refine wl (ro_fieldAddr (k := 0) rfl fo_119_0) ?_
    refine wl (ro_loadB rfl sc_3 (by assumption) rfl) ?_
    refine wl_call rfl en_92 (Itoa92 (n := (v.T : Int)) (by omega)) ?_
    rintro _ w6 ⟨rfl, F6⟩
    rw [i2]
    replace hF := hF.thenDrew.thenN F6
    replace h1 := F6.blkN h1
    refine wl (ro_assign rfl) ?_
    refine wl_nil (x_then (hK13 _ _ ?_))
    clear hK13 K13
    refine c_seq (fun K14 hK14 => ?_)
    refine c_seq (fun K15 hK15 => ?_)
    refine c_reg ?_ -- region 6 api.go:285
    refine wl (ro_fieldAddr (k := 2) rfl fo_119_2) ?_
    refine wl (ro_loadB rfl sc_9 (by assumption) rfl) ?_
    refine wl (ro_eqS (m := []) rfl rfl rfl) ?_
    refine wl_nil (x_then (hK15 _ _ ?_))
    clear hK15 K15
    refine wc_cond rfl (fun hc32 => ?_) (fun hc32 => ?_)
    · try simp only [decide_eq_true_eq, decide_eq_false_iff_not, Bool.not_eq_true', Bool.not_eq_false', Bool.not_eq_eq_eq_not, Bool.not_true, Bool.not_false, beq_iff_eq, bne_iff_ne, ne_eq, beq_eq_false_iff_ne, bne_eq_false_iff_eq, gt_iff_lt, ge_iff_le, Int.not_lt, Int.not_le] at hc32
      refine c_seq (fun K16 hK16 => ?_)
      refine c_reg ?_ -- region 7 api.go:286
      refine wl (ro_move rfl) ?_
      refine wl (ro_catS (l := [118]) rfl rfl (by simp; omega)) ?_
      refine wl (ro_catS (m := [46]) rfl rfl (by simp; omega)) ?_
      refine wl (ro_move rfl) ?_
      refine wl (ro_catS rfl rfl (by simp; omega)) ?_
      refine wl (ro_assign rfl) ?_
      refine wl_nil (x_then (hK16 _ _ ?_))
      clear hK16 K16
      refine c_ret (x_thenR ?_)
      refine bp_ret Tryz.results42 rfl ?_
      exact ⟨by unfold shV; rw [if_neg (by omega), if_pos hc32]; simp, hF⟩
    · try simp only [decide_eq_true_eq, decide_eq_false_iff_not, Bool.not_eq_true', Bool.not_eq_false', Bool.not_eq_eq_eq_not, Bool.not_true, Bool.not_false, beq_iff_eq, bne_iff_ne, ne_eq, beq_eq_false_iff_ne, bne_eq_false_iff_eq, gt_iff_lt, ge_iff_le, Int.not_lt, Int.not_le] at hc32
      refine c_skip (x_then (hK14 _ _ ?_))
      clear hK14 K14
      refine forget [(1, _), (3, _), (4, _), (5, _)] ⟨rfl, rfl, rfl, rfl, trivial⟩ (fun e => ?_)
      refine c_seq (fun K17 hK17 => ?_)
      refine c_reg ?_ -- region 8 api.go:288
      refine wl (ro_move rfl) ?_
      refine wl (ro_catS (l := [118]) rfl rfl (by simp; omega)) ?_
      refine wl (ro_catS (m := [46]) rfl rfl (by simp; omega)) ?_
      refine wl (ro_move rfl) ?_
      refine wl (ro_catS rfl rfl (by simp; omega)) ?_
      refine wl (ro_catS (m := [33]) rfl rfl (by simp; omega)) ?_
      refine wl (ro_move rfl) ?_
      refine wl (ro_catS rfl rfl (by simp; omega)) ?_
      refine wl (ro_catS (m := [58]) rfl rfl (by simp; omega)) ?_
      refine wl (ro_fieldAddr (k := 2) rfl fo_119_2) ?_
      refine wl (ro_loadB rfl sc_9 (by assumption) rfl) ?_
      refine wl (ro_catS rfl rfl (by simp; omega)) ?_
      refine wl (ro_assign rfl) ?_
      refine wl_nil (x_then (hK17 _ _ ?_))
      clear hK17 K17
      refine c_ret ?_
      refine bp_ret Tryz.results42 rfl ?_
      exact ⟨by unfold shV; rw [if_neg (by omega), if_neg hc32]; simp, hF⟩
theorem stk_at {c0 c1 c2 c3 c4 c5 a0 a1 a2 a3 a4 v : Value} {r : List Value} : ∀ {j : Nat}, [a0, a1, a2, a3, a4][j]? = some v → (c0 :: c1 :: c2 :: c3 :: c4 :: c5 :: a0 :: a1 :: a2 :: a3 :: a4 :: r)[0 + 6 + j * 1]? = some v
  | 0, h => h
  | 1, h => h
  | 2, h => h
  | 3, h => h
  | 4, h => h
  | j + 5, h => by simp at h

set_option maxHeartbeats 4000000 in
theorem back110 {G : Arena} {root : Nat} {np : Value} {tb rb : Nat} {nv : Value} {w : World} {ow : Nat → Nat} {β τ : List Nat} {m : Nat} {s : IS} (hR : RM G root np tb rb nv w ow β τ m s) {ok : Bool} {v : PV} (hv : wfV v = true) (hN : W64 v.N) (hst : ∀ c ∈ s.stack, c < s.ths.length) (hm : m ≤ 19990) :
    Ret Tryz.prog 110 [ptr rb, .bool ok, pv v] w (fun r w' => r = .tuple #[] ∧ RP G root np tb rb nv w ow β τ (m + 2) (iback ok v s) w') := by
  have hF : Fram (tg ow cmT) w w := Fram.refl _ _
  have hX : Xt w ow ow := Xt.refl _ _
  have hmr := hR.mem_r
  have hpf := wf_f hv hN
  have hSl : v.S.length ≤ 40 := by
    unfold wfV at hv
    split at hv
    · simp at hv; exact hv.2
    · split at hv
      · rename_i h3; rw [h3.1]; simp
      · cases hv
  refine ret_of Tryz.func110 rfl Tryz.ntmps110 rfl ?_
  refine c_seq (fun K1 hK1 => ?_)
  refine c_reg ?_ -- region 0 compm.go:148
  refine wl_box (cs := (pvc v)) rfl rfl (fun b5 w1 hbb5 h5 F1 => ?_)
  have hbsb5 := Nat.le_trans hF.size hbb5
  have kh5 := hR.df b5 hbb5
  replace hF := hF.thenDrew.thenN F1
  replace hR := hR.thruN ((Fram.refl none' _).thenDrew.thenN F1)
  refine wl_nil (x_then (hK1 _ _ ?_))
  clear hK1 K1
  refine c_seq (fun K2 hK2 => ?_)
  refine c_seq (fun K3 hK3 => ?_)
  obtain ⟨cv, hv1, a0, a1, a2, a3, a4, hX0, q2, q3, q4⟩ := hR.r
  have hXr := hX0
  have hk70 := hR.t70
  unfold rnc at hXr
  refine c_reg ?_ -- region 1 compm.go:149
  refine wl (ro_move rfl) ?_
  refine wl (ro_nilCheck rfl) ?_
  refine wl (ro_fieldAddr (k := 11) rfl fo_112_7) ?_
  refine wl (ro_loadB rfl sc_3 (by assumption) rfl) ?_
  refine wl (ro_cmp rfl rfl rfl) ?_
  refine wl_nil (x_then (hK3 _ _ ?_))
  clear hK3 K3
  refine wc_cond rfl (fun hc11 => ?_) (fun hc11 => ?_)
  · try simp only [decide_eq_true_eq, decide_eq_false_iff_not, Bool.not_eq_true', Bool.not_eq_false', Bool.not_eq_eq_eq_not, Bool.not_true, Bool.not_false, beq_iff_eq, bne_iff_ne, ne_eq, beq_eq_false_iff_ne, bne_eq_false_iff_eq, gt_iff_lt, ge_iff_le, Int.not_lt, Int.not_le] at hc11
    have hs0 : s.stack = [] := List.eq_nil_of_length_eq_zero (by omega)
    refine c_seq (fun K4 hK4 => ?_)
    refine c_reg ?_ -- region 2 compm.go:150
    refine wl (ro_loadAggB rfl ag_119 (by assumption) rfl rfl) ?_
    refine wl_call rfl en_42 (ShowVal42 hpf (by omega)) ?_
    rintro _ w2 ⟨rfl, F2⟩
    replace hF := hF.thenDrew.thenN F2
    replace hR := hR.thruN ((Fram.refl none' _).thenDrew.thenN F2)
    replace h5 := F2.blkN h5
    refine wl (ro_assign rfl) ?_
    refine wl_nil (x_then (hK4 _ _ ?_))
    clear hK4 K4
    refine c_seq (fun K5 hK5 => ?_)
    refine c_seq (fun K6 hK6 => ?_)
    refine c_reg ?_ -- region 3 compm.go:151
    refine wl (ro_move rfl) ?_
    refine wl_nil (x_then (hK6 _ _ ?_))
    clear hK6 K6
    refine wc_cond rfl (fun hc14 => ?_) (fun hc14 => ?_)
    · try simp only [decide_eq_true_eq, decide_eq_false_iff_not, Bool.not_eq_true', Bool.not_eq_false', Bool.not_eq_eq_eq_not, Bool.not_true, Bool.not_false, beq_iff_eq, bne_iff_ne, ne_eq, beq_eq_false_iff_ne, bne_eq_false_iff_eq, gt_iff_lt, ge_iff_le, Int.not_lt, Int.not_le] at hc14
      refine c_reg ?_ -- region 4 compm.go:152
      refine wl (ro_move rfl) ?_
      refine wl (ro_move rfl) ?_
      refine wl_call rfl en_109 (finish109 hR.dr) ?_
      rintro _ u3 ⟨rfl, ow3, x3, f3, r3⟩
      obtain ⟨h5, kh5⟩ := cm_loc x3 f3 h5 kh5
      have hs3 := hF.size
      replace hF := cm_trans hX hF f3
      replace hX := hX.trans hs3 x3
      replace hR := r3
      refine wl_nil (x_then (hK5 _ _ ?_))
      clear hK5 K5
      refine c_ret (x_thenR ?_)
      refine bp_ret Tryz.results110 rfl ?_
      refine ⟨rfl, _, hX, hF, ?_⟩
      unfold iback
      rw [hs0]
      have e : ok = true := by simpa using hc14
      subst e
      exact hR.le (by omega)
    · try simp only [decide_eq_true_eq, decide_eq_false_iff_not, Bool.not_eq_true', Bool.not_eq_false', Bool.not_eq_eq_eq_not, Bool.not_true, Bool.not_false, beq_iff_eq, bne_iff_ne, ne_eq, beq_eq_false_iff_ne, bne_eq_false_iff_eq, gt_iff_lt, ge_iff_le, Int.not_lt, Int.not_le] at hc14
      refine c_reg ?_ -- region 5 compm.go:154
      refine wl (ro_move rfl) ?_
      refine wl (ro_move rfl) ?_
      refine wl_call rfl en_109 (finish109 hR.dr) ?_
      rintro _ u4 ⟨rfl, ow4, x4, f4, r4⟩
      obtain ⟨h5, kh5⟩ := cm_loc x4 f4 h5 kh5
      have hs4 := hF.size
      replace hF := cm_trans hX hF f4
      replace hX := hX.trans hs4 x4
      replace hR := r4
      refine wl_nil (x_then (hK5 _ _ ?_))
      clear hK5 K5
      refine c_ret (x_thenR ?_)
      refine bp_ret Tryz.results110 rfl ?_
      refine ⟨rfl, _, hX, hF, ?_⟩
      unfold iback
      rw [hs0]
      have e : ok = false := by simpa using hc14
      subst e
      exact hR.le (by omega)
  · try simp only [decide_eq_true_eq, decide_eq_false_iff_not, Bool.not_eq_true', Bool.not_eq_false', Bool.not_eq_eq_eq_not, Bool.not_true, Bool.not_false, beq_iff_eq, bne_iff_ne, ne_eq, beq_eq_false_iff_ne, bne_eq_false_iff_eq, gt_iff_lt, ge_iff_le, Int.not_lt, Int.not_le] at hc11
    obtain ⟨c, q, hs0⟩ : ∃ c q, s.stack = c :: q := by
      cases hs : s.stack with
      | nil => rw [hs] at hc11; simp at hc11
      | cons c q => exact ⟨c, q, rfl⟩
    have hG := Fram.refl (one rb) w1
    have hl : s.stack.length = q.length + 1 := by rw [hs0]; rfl
    have hk5 := hR.sk
    have hsj : ∀ (j : Nat) (d : Nat), q.reverse[j]? = some d → [a0, a1, a2, a3, a4][j]? = some (i64c d) := fun j d hj => q4 j d (by rw [hs0, List.reverse_cons, List.getElem?_append_left (List.getElem?_eq_some_iff.1 hj).1]; exact hj)
    have hsq : [a0, a1, a2, a3, a4][q.length]? = some (i64c c) := q4 q.length c (by rw [hs0, List.reverse_cons, List.getElem?_append_right (by simp)]; simp)
    have hcl := hst c (by rw [hs0]; simp)
    refine c_skip (x_then (hK2 _ _ ?_))
    clear hK2 K2
    refine forget [(0, _), (1, _), (5, _)] ⟨rfl, rfl, rfl, trivial⟩ (fun e => ?_)
    refine c_seq (fun K7 hK7 => ?_)
    refine c_reg ?_ -- region 6 compm.go:158
    refine wl (ro_move rfl) ?_
    refine wl (ro_nilCheck rfl) ?_
    refine wl (ro_fieldAddr (k := 11) rfl fo_112_7) ?_
    refine wl (ro_loadB rfl sc_3 (by assumption) rfl) ?_
    refine wl (ro_arith rfl rfl rfl (Go.IntWalk.i64_in _ (by omega))) ?_
    refine wl (ro_nilCheck rfl) ?_
    refine wl (ro_fieldAddr (k := 11) rfl fo_112_7) ?_
    refine wl_put rfl rfl rfl sz_3 hXr ((by simp)) (rfl) (fun w5 hXr F5 => ?_)
    replace hF := hF.thenDrew.thenO F5 (by first | exact .inr (by omega) | exact .inl rfl | exact .inl (by assumption) | assumption)
    replace h5 := F5.blkO h5 (by first | omega | exact ow_ne (by assumption) (by assumption) (by omega))
    replace hG := hG.thenDrew.thenO F5 (by first | exact .inr (by omega) | exact .inl rfl | exact .inl (by assumption) | assumption)
    have e6 : ((s.stack.length : Int) - 1) = ((q.length : Nat) : Int) := by omega
    rw [e6] at hXr
    refine wl_nil (x_then (hK7 _ _ ?_))
    clear hK7 K7
    refine forget [(0, _), (1, _), (5, _)] ⟨rfl, rfl, rfl, trivial⟩ (fun e => ?_)
    refine c_seq (fun K8 hK8 => ?_)
    refine c_piL 12 [(0, false), (1, false), (2, false), (3, false), (4, false), (5, false), (6, false), (7, false), (8, false), (9, false), (10, false), (11, false)] (SameH _) mixed (by kernel_rfl) rfl (by kernel_rfl) (po_then (po_bp)) (sameH_now _ _) ?_ -- region 7 compm.go:159
    refine ql_ro rfl (fun w hS => ro_move rfl) ?_
    refine ql_ro rfl (fun w hS => ro_move rfl) ?_
    refine ql_ro rfl (fun w hS => ro_move rfl) ?_
    refine ql_ro rfl (fun w hS => ro_nilCheck rfl) ?_
    refine ql_ro rfl (fun w hS => ro_fieldAddr (k := 11) rfl fo_112_7) ?_
    refine ql_ro rfl (fun w hS => ro_loadB rfl sc_3 (Blk.of_heap (by assumption) hS) rfl) ?_
    refine ql_ro rfl (fun w hS => ro_nilCheck rfl) ?_
    refine ql_ro rfl (fun w hS => ro_fieldAddr (k := 6) rfl fo_112_6) ?_
    refine ql_ro rfl (fun w hS => ro_indexAddrA (et := 3) (k := 1) rfl rfl ar_110 (rfl) ((by omega))) ?_
    refine ql_ro rfl (fun w hS => ro_loadB rfl sc_3 (Blk.of_heap hXr hS) (stk_at hsq)) ?_
    refine ql_ro rfl (fun w hS => ro_nilCheck rfl) ?_
    refine ql_ro rfl (fun w hS => ro_fieldAddr (k := 12) rfl fo_112_8) ?_
    refine ql_put rfl rfl rfl rfl sz_3 hXr ((by simp)) (rfl) (fun w6 hXr F6 => ?_)
    replace hF := hF.thenDrew.thenO F6 (by first | exact .inr (by omega) | exact .inl rfl | exact .inl (by assumption) | assumption)
    replace h5 := F6.blkO h5 (by first | omega | exact ow_ne (by assumption) (by assumption) (by omega))
    replace hG := hG.thenDrew.thenO F6 (by first | exact .inr (by omega) | exact .inl rfl | exact .inl (by assumption) | assumption)
    refine x_then (hK8 _ _ ?_)
    clear hK8 K8
    refine forget [(0, _), (1, _), (5, _)] ⟨rfl, rfl, rfl, trivial⟩ (fun e => ?_)
    refine c_seq (fun K9 hK9 => ?_)
    have hR1 := hR.turnR hG (s' := { s with stack := q, cur := c }) rfl rfl rfl rfl (c' := hv1) (v' := hv1) hX0 hXr hsj hcl (show q.length ≤ 5 by omega) hR.fu
    obtain ⟨cv', a0', a1', a2', a3', a4', g, cap, l, b, tv, vv, hXo, hO, hlo, hcap, hb, hT, hg⟩ := hR1.open
    unfold rnc at hXo
    have hB := hT.k
    have hmb := hR1.mem_b hcl hT.t
    have hkb := hT.t
    refine c_piL 12 [(0, false), (1, false), (2, false), (3, false), (4, false), (5, false), (6, false), (7, false), (8, false), (9, false), (10, false), (11, false)] (SameH _) mixed (by kernel_rfl) rfl (by kernel_rfl) (po_then (po_bp)) (sameH_now _ _) ?_ -- region 8 compm.go:160
    refine ql_ro rfl (fun w hS => ro_move rfl) ?_
    refine ql_ro rfl (fun w hS => ro_nilCheck rfl) ?_
    refine ql_ro rfl (fun w hS => ro_fieldAddr (k := 5) rfl fo_112_5) ?_
    refine ql_ro rfl (fun w hS => ro_loadB rfl sc_109 (Blk.of_heap (by assumption) hS) rfl) ?_
    refine ql_ro rfl (fun w hS => ro_move rfl) ?_
    refine ql_ro rfl (fun w hS => ro_nilCheck rfl) ?_
    refine ql_ro rfl (fun w hS => ro_fieldAddr (k := 12) rfl fo_112_8) ?_
    refine ql_ro rfl (fun w hS => ro_loadB rfl sc_3 (Blk.of_heap (by assumption) hS) rfl) ?_
    refine ql_ro rfl (fun w hS => ro_indexAddr (et := 123) (k := 1) rfl rfl se_109 rfl (by omega)) ?_
    refine ql_ro rfl (fun w hS => ro_loadB rfl sc_123 (Blk.of_heap hO hS) (hlo)) ?_
    refine ql_ro rfl (fun w hS => ro_nilCheck rfl) ?_
    refine ql_ro rfl (fun w hS => ro_fieldAddr (k := 0) rfl fo_126_0) ?_
    refine ql_put rfl rfl rfl rfl sz_3 hB ((by simp)) (rfl) (fun w7 hB F7 => ?_)
    replace hF := hF.thenDrew.thenO F7 (by first | exact .inr (by omega) | exact .inl rfl | exact .inl (by assumption) | assumption)
    replace h5 := F7.blkO h5 (by first | omega | exact ow_ne (by assumption) (by assumption) (by omega))
    replace hXo := F7.blkO hXo (by first | omega | exact ow_ne (by assumption) (by assumption) (by omega))
    replace hO := F7.blkO hO (by first | omega | exact ow_ne (by assumption) (by assumption) (by omega))
    have hR2 := hR1.thr' (y := { IS.th { s with stack := q, cur := c } with st := 4 }) hb hT.t hT.ts hT.vs ((Fram.refl (one b) _).thenDrew.thenO F7 (.inl rfl)) hB hR1.tem hR1.bdm
    replace hR := hR2
    refine x_then (hK9 _ _ ?_)
    clear hK9 K9
    refine forget [(0, _), (1, _), (5, _)] ⟨rfl, rfl, rfl, trivial⟩ (fun e => ?_)
    refine c_seq (fun K10 hK10 => ?_)
    refine c_reg ?_ -- region 9 compm.go:161
    refine wl (ro_move rfl) ?_
    refine wl (ro_move rfl) ?_
    refine wl_call rfl en_124 (pushBool124 hR.dr (by omega)) ?_
    rintro _ u8 ⟨rfl, ow8, x8, f8, r8⟩
    obtain ⟨h5, kh5⟩ := cm_loc x8 f8 h5 kh5
    have hs8 := hF.size
    replace hF := cm_trans hX hF f8
    replace hX := hX.trans hs8 x8
    replace hR := r8
    refine wl_nil (x_then (hK10 _ _ ?_))
    clear hK10 K10
    refine c_reg ?_ -- region 10 compm.go:162
    refine wl (ro_move rfl) ?_
    refine wl (ro_loadAggB rfl ag_119 (by assumption) rfl rfl) ?_
    refine wl_call rfl en_67 (push67 (v := v) hR.dr (by omega)) ?_
    rintro _ u9 ⟨rfl, ow9, x9, f9, r9⟩
    obtain ⟨h5, kh5⟩ := cm_loc x9 f9 h5 kh5
    have hs9 := hF.size
    replace hF := cm_trans hX hF f9
    replace hX := hX.trans hs9 x9
    replace hR := r9
    refine wl_nil ?_
    refine bp_end Tryz.results110 rfl ?_
    refine ⟨rfl, _, hX, hF, ?_⟩
    unfold iback
    rw [hs0]
    exact hR

end Go.Proofs.Qxb6500568aGreatDoor
