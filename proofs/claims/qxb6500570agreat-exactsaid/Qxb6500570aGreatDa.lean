import Derived.Test.Qxb6500570aGreatCo
import Derived.Test.Qxb6500570aGreatPo
/- Values: the pure functions. -/
namespace Go.Proofs.Qxb6500570aGreat
set_option linter.unusedVariables false
set_option linter.unusedSimpArgs false

abbrev vlc (v : Vl) : List Value := [icv v.k, icv v.n, S v.s]
abbrev vlA (v : Vl) : Value := .agg (vlc v).toArray
theorem vlc_cells (v : Vl) : ∀ u ∈ vlc v, u.oneCell' = true := by
  intro u hu
  simp only [vlc, List.mem_cons, List.not_mem_nil, or_false] at hu
  rcases hu with rfl | rfl | rfl <;> rfl

theorem mul_bd {a b : Int} (ha : -999999999 ≤ a ∧ a ≤ 999999999) (hb : -999999999 ≤ b ∧ b ≤ 999999999) : a * b ≤ 999999999 * 999999999 ∧ -(999999999 * 999999999) ≤ a * b := by
  have h1 : (a * b).natAbs ≤ 999999999 * 999999999 := by rw [Int.natAbs_mul]; exact Nat.mul_le_mul (by omega) (by omega)
  omega
theorem tdiv_bd {a b : Int} (ha : -999999999 ≤ a ∧ a ≤ 999999999) : -999999999 ≤ a.tdiv b ∧ a.tdiv b ≤ 999999999 := by
  have h1 : (a.tdiv b).natAbs ≤ 999999999 := by rw [Int.natAbs_tdiv]; exact Nat.le_trans (Nat.div_le_self _ _) (by omega)
  omega

theorem Int187 {w : World} {n : Int} : Ret Tryz.prog 187 [icv n] w (fun v w' => v = vlA (vI n) ∧ Fram none' w w') := by
  have hF : Fram none' w w := Fram.refl _ _
  refine ret_of Tryz.func187 rfl Tryz.ntmps187 rfl ?_
  refine c_seq (fun K1 hK1 => ?_)
  refine c_reg ?_ -- region 0 const.go:102
  refine wl_new (ze_104) (fun b2 w1 hbb2 h2 F1 => ?_)
  have hbsb2 := Nat.le_trans hF.size hbb2
  replace hF := hF.thenDrew.thenN F1
  refine wl_nil (x_then (hK1 _ _ ?_))
  clear hK1 K1
  refine forget [(0, _), (2, _)] ⟨rfl, rfl, trivial⟩ (fun e => ?_)
  refine c_seq (fun K2 hK2 => ?_)
  refine c_reg ?_ -- region 1 const.go:102
  refine wl (ro_move rfl) ?_
  refine wl (ro_build rfl bld_104_0_1) ?_
  refine wl_puta rfl rfl ((by (try exact vlc_cells _); all_goals simp [Value.oneCell', i64c, icv, u64c, u8c, ptr, S])) sz_104 (rfl) h2 ((by simp)) (rfl) (fun w2 h2 F2 => ?_)
  replace hF := hF.thenDrew.thenO F2 (by first | exact .inr (by omega) | exact .inl rfl | exact .inl (by assumption))
  refine wl_nil (x_then (hK2 _ _ ?_))
  clear hK2 K2
  refine c_ret ?_
  refine bq_ret (res1 Tryz.results187 (rv_c rfl ag_104 (h2) rfl)) ?_
  exact ⟨rfl, hF⟩
theorem Err116 {w : World} {n : Int} : Ret Tryz.prog 116 [icv n] w (fun v w' => v = vlA (vE n) ∧ Fram none' w w') := by
  have hF : Fram none' w w := Fram.refl _ _
  refine ret_of Tryz.func116 rfl Tryz.ntmps116 rfl ?_
  refine c_seq (fun K1 hK1 => ?_)
  refine c_reg ?_ -- region 0 const.go:103
  refine wl_new (ze_104) (fun b2 w1 hbb2 h2 F1 => ?_)
  have hbsb2 := Nat.le_trans hF.size hbb2
  replace hF := hF.thenDrew.thenN F1
  refine wl_nil (x_then (hK1 _ _ ?_))
  clear hK1 K1
  refine forget [(0, _), (2, _)] ⟨rfl, rfl, trivial⟩ (fun e => ?_)
  refine c_seq (fun K2 hK2 => ?_)
  refine c_reg ?_ -- region 1 const.go:103
  refine wl (ro_move rfl) ?_
  refine wl (ro_build rfl bld_104_0_1) ?_
  refine wl_puta rfl rfl ((by (try exact vlc_cells _); all_goals simp [Value.oneCell', i64c, icv, u64c, u8c, ptr, S])) sz_104 (rfl) h2 ((by simp)) (rfl) (fun w2 h2 F2 => ?_)
  replace hF := hF.thenDrew.thenO F2 (by first | exact .inr (by omega) | exact .inl rfl | exact .inl (by assumption))
  refine wl_nil (x_then (hK2 _ _ ?_))
  clear hK2 K2
  refine c_ret ?_
  refine bq_ret (res1 Tryz.results116 (rv_c rfl ag_104 (h2) rfl)) ?_
  exact ⟨rfl, hF⟩
theorem Bool219 {w : World} {b : Bool} : Ret Tryz.prog 219 [.bool b] w (fun v w' => v = vlA (vB b) ∧ Fram none' w w') := by
  have hF : Fram none' w w := Fram.refl _ _
  refine ret_of Tryz.func219 rfl Tryz.ntmps219 rfl ?_
  refine c_seq (fun K1 hK1 => ?_)
  refine c_reg ?_ -- region 0 const.go:104
  refine wl_new (ze_104) (fun b2 w1 hbb2 h2 F1 => ?_)
  have hbsb2 := Nat.le_trans hF.size hbb2
  replace hF := hF.thenDrew.thenN F1
  refine wl_nil (x_then (hK1 _ _ ?_))
  clear hK1 K1
  refine c_seq (fun K2 hK2 => ?_)
  refine c_seq (fun K3 hK3 => ?_)
  refine c_reg ?_ -- region 1 const.go:105
  refine wl (ro_move rfl) ?_
  refine wl_nil (x_then (hK3 _ _ ?_))
  clear hK3 K3
  refine wc_cond rfl (fun hc3 => ?_) (fun hc3 => ?_)
  · try simp only [decide_eq_true_eq, decide_eq_false_iff_not, Bool.not_eq_true', Bool.not_eq_false', Bool.not_eq_eq_eq_not, Bool.not_true, Bool.not_false, beq_iff_eq, bne_iff_ne, ne_eq, beq_eq_false_iff_ne, bne_eq_false_iff_eq, gt_iff_lt, ge_iff_le, Int.not_lt, Int.not_le] at hc3
    refine c_seq (fun K4 hK4 => ?_)
    refine c_reg ?_ -- region 2 const.go:106
    refine wl (ro_build rfl bld_104_0_1) ?_
    refine wl_puta rfl rfl ((by (try exact vlc_cells _); all_goals simp [Value.oneCell', i64c, icv, u64c, u8c, ptr, S])) sz_104 (rfl) h2 ((by simp)) (rfl) (fun w2 h2 F2 => ?_)
    replace hF := hF.thenDrew.thenO F2 (by first | exact .inr (by omega) | exact .inl rfl | exact .inl (by assumption))
    refine wl_nil (x_then (hK4 _ _ ?_))
    clear hK4 K4
    refine c_ret (x_thenR ?_)
    refine bq_ret (res1 Tryz.results219 (rv_c rfl ag_104 (h2) rfl)) ?_
    exact ⟨by rw [hc3]; rfl, hF⟩
  · try simp only [decide_eq_true_eq, decide_eq_false_iff_not, Bool.not_eq_true', Bool.not_eq_false', Bool.not_eq_eq_eq_not, Bool.not_true, Bool.not_false, beq_iff_eq, bne_iff_ne, ne_eq, beq_eq_false_iff_ne, bne_eq_false_iff_eq, gt_iff_lt, ge_iff_le, Int.not_lt, Int.not_le] at hc3
    refine c_skip (x_then (hK2 _ _ ?_))
    clear hK2 K2
    refine forget [(2, _)] ⟨rfl, trivial⟩ (fun e => ?_)
    refine c_seq (fun K5 hK5 => ?_)
    refine c_reg ?_ -- region 3 const.go:108
    refine wl (ro_build rfl bld_104_0) ?_
    refine wl_puta rfl rfl ((by (try exact vlc_cells _); all_goals simp [Value.oneCell', i64c, icv, u64c, u8c, ptr, S])) sz_104 (rfl) h2 ((by simp)) (rfl) (fun w3 h2 F3 => ?_)
    replace hF := hF.thenDrew.thenO F3 (by first | exact .inr (by omega) | exact .inl rfl | exact .inl (by assumption))
    refine wl_nil (x_then (hK5 _ _ ?_))
    clear hK5 K5
    refine c_ret ?_
    refine bq_ret (res1 Tryz.results219 (rv_c rfl ag_104 (h2) rfl)) ?_
    exact ⟨by rw [hc3]; rfl, hF⟩
theorem Num225 {w : World} {n : Int} : Ret Tryz.prog 225 [icv n] w (fun v w' => v = vlA (vNum n) ∧ Fram none' w w') := by
  have hF : Fram none' w w := Fram.refl _ _
  refine ret_of Tryz.func225 rfl Tryz.ntmps225 rfl ?_
  refine c_seq (fun K1 hK1 => ?_)
  refine c_reg ?_ -- region 0 const.go:112
  refine wl_new (ze_104) (fun b2 w1 hbb2 h2 F1 => ?_)
  have hbsb2 := Nat.le_trans hF.size hbb2
  replace hF := hF.thenDrew.thenN F1
  refine wl_nil (x_then (hK1 _ _ ?_))
  clear hK1 K1
  refine c_seq (fun K2 hK2 => ?_)
  refine c_seq (fun K3 hK3 => ?_)
  refine c_reg ?_ -- region 1 const.go:113
  refine wl (ro_move rfl) ?_
  refine wl (ro_cmp rfl rfl rfl) ?_
  refine wl_fork rfl (fun hg5 => ?_) (fun hg5 => ?_)
  · try simp only [decide_eq_true_eq, decide_eq_false_iff_not, Bool.not_eq_true', Bool.not_eq_false', Bool.not_eq_eq_eq_not, Bool.not_true, Bool.not_false, beq_iff_eq, bne_iff_ne, ne_eq, beq_eq_false_iff_ne, bne_eq_false_iff_eq, gt_iff_lt, ge_iff_le, Int.not_lt, Int.not_le] at hg5
    refine wlg_no rfl ?_
    refine wlg_no rfl ?_
    refine wl (ro_pick rfl rfl rfl) ?_
    refine wl_nil (x_then (hK3 _ _ ?_))
    clear hK3 K3
    refine wc_condT rfl ?_
    refine c_seq (fun K4 hK4 => ?_)
    refine c_reg ?_ -- region 2 const.go:114
    refine wl_call rfl en_116 (Err116) ?_
    rintro _ w2 ⟨rfl, F2⟩
    replace hF := hF.thenDrew.thenN F2
    replace h2 := F2.blkN h2
    refine wl_puta rfl rfl ((by (try exact vlc_cells _); all_goals simp [Value.oneCell', i64c, icv, u64c, u8c, ptr, S])) sz_104 (rfl) h2 ((by simp)) (rfl) (fun w3 h2 F3 => ?_)
    replace hF := hF.thenDrew.thenO F3 (by first | exact .inr (by omega) | exact .inl rfl | exact .inl (by assumption))
    refine wl_nil (x_then (hK4 _ _ ?_))
    clear hK4 K4
    refine c_ret (x_thenR ?_)
    refine bq_ret (res1 Tryz.results225 (rv_c rfl ag_104 (h2) rfl)) ?_
    refine ⟨?_, hF⟩
    unfold vNum
    first
      | (rw [if_pos (by omega)]; rfl)
      | (rw [if_neg (by omega)]; rfl)
  · try simp only [decide_eq_true_eq, decide_eq_false_iff_not, Bool.not_eq_true', Bool.not_eq_false', Bool.not_eq_eq_eq_not, Bool.not_true, Bool.not_false, beq_iff_eq, bne_iff_ne, ne_eq, beq_eq_false_iff_ne, bne_eq_false_iff_eq, gt_iff_lt, ge_iff_le, Int.not_lt, Int.not_le] at hg5
    refine wlg_yes rfl (ro_move rfl) ?_
    refine wlg_yes rfl (ro_cmp rfl rfl rfl) ?_
    refine wl (ro_pick rfl rfl rfl) ?_
    refine wl_nil (x_then (hK3 _ _ ?_))
    clear hK3 K3
    refine wc_cond rfl (fun hc8 => ?_) (fun hc8 => ?_)
    · try simp only [decide_eq_true_eq, decide_eq_false_iff_not, Bool.not_eq_true', Bool.not_eq_false', Bool.not_eq_eq_eq_not, Bool.not_true, Bool.not_false, beq_iff_eq, bne_iff_ne, ne_eq, beq_eq_false_iff_ne, bne_eq_false_iff_eq, gt_iff_lt, ge_iff_le, Int.not_lt, Int.not_le] at hc8
      refine c_seq (fun K5 hK5 => ?_)
      refine c_reg ?_ -- region 2 const.go:114
      refine wl_call rfl en_116 (Err116) ?_
      rintro _ w4 ⟨rfl, F4⟩
      replace hF := hF.thenDrew.thenN F4
      replace h2 := F4.blkN h2
      refine wl_puta rfl rfl ((by (try exact vlc_cells _); all_goals simp [Value.oneCell', i64c, icv, u64c, u8c, ptr, S])) sz_104 (rfl) h2 ((by simp)) (rfl) (fun w5 h2 F5 => ?_)
      replace hF := hF.thenDrew.thenO F5 (by first | exact .inr (by omega) | exact .inl rfl | exact .inl (by assumption))
      refine wl_nil (x_then (hK5 _ _ ?_))
      clear hK5 K5
      refine c_ret (x_thenR ?_)
      refine bq_ret (res1 Tryz.results225 (rv_c rfl ag_104 (h2) rfl)) ?_
      refine ⟨?_, hF⟩
      unfold vNum
      first
        | (rw [if_pos (by omega)]; rfl)
        | (rw [if_neg (by omega)]; rfl)
    · try simp only [decide_eq_true_eq, decide_eq_false_iff_not, Bool.not_eq_true', Bool.not_eq_false', Bool.not_eq_eq_eq_not, Bool.not_true, Bool.not_false, beq_iff_eq, bne_iff_ne, ne_eq, beq_eq_false_iff_ne, bne_eq_false_iff_eq, gt_iff_lt, ge_iff_le, Int.not_lt, Int.not_le] at hc8
      refine c_skip (x_then (hK2 _ _ ?_))
      clear hK2 K2
      refine forget [(0, _), (2, _)] ⟨rfl, rfl, trivial⟩ (fun e => ?_)
      refine c_seq (fun K6 hK6 => ?_)
      refine c_reg ?_ -- region 3 const.go:116
      refine wl (ro_move rfl) ?_
      refine wl_call rfl en_187 (Int187) ?_
      rintro _ w6 ⟨rfl, F6⟩
      replace hF := hF.thenDrew.thenN F6
      replace h2 := F6.blkN h2
      refine wl_puta rfl rfl ((by (try exact vlc_cells _); all_goals simp [Value.oneCell', i64c, icv, u64c, u8c, ptr, S])) sz_104 (rfl) h2 ((by simp)) (rfl) (fun w7 h2 F7 => ?_)
      replace hF := hF.thenDrew.thenO F7 (by first | exact .inr (by omega) | exact .inl rfl | exact .inl (by assumption))
      refine wl_nil (x_then (hK6 _ _ ?_))
      clear hK6 K6
      refine c_ret ?_
      refine bq_ret (res1 Tryz.results225 (rv_c rfl ag_104 (h2) rfl)) ?_
      refine ⟨?_, hF⟩
      unfold vNum
      first
        | (rw [if_pos (by omega)]; rfl)
        | (rw [if_neg (by omega)]; rfl)
theorem Bit66 {w : World} {c : Nat} (hc : c < 24) : Ret Tryz.prog 66 [i64c c] w (fun v w' => v = u32c (2 ^ c) ∧ w' = w) := by
  refine ret_of Tryz.func66 rfl Tryz.ntmps66 rfl ?_
  refine c_seq (fun K1 hK1 => ?_)
  refine c_reg ?_ -- region 0 const.go:207
  refine wl (ro_assign rfl) ?_
  refine wl_nil (x_then (hK1 _ _ ?_))
  clear hK1 K1
  refine c_seq (fun K2 hK2 => ?_)
  refine c_seq (fun K3 hK3 => ?_)
  refine c_reg ?_ -- region 1 const.go:208
  refine wl (ro_move rfl) ?_
  refine wl (ro_cmp rfl rfl rfl) ?_
  refine wl_fork rfl (fun hg5 => ?_) (fun hg5 => ?_)
  · try simp only [decide_eq_true_eq, decide_eq_false_iff_not, Bool.not_eq_true', Bool.not_eq_false', Bool.not_eq_eq_eq_not, Bool.not_true, Bool.not_false, beq_iff_eq, bne_iff_ne, ne_eq, beq_eq_false_iff_ne, bne_eq_false_iff_eq, gt_iff_lt, ge_iff_le, Int.not_lt, Int.not_le] at hg5
    refine wlg_no rfl ?_
    refine wlg_no rfl ?_
    refine wl (ro_pick rfl rfl rfl) ?_
    refine wl_nil (x_then (hK3 _ _ ?_))
    clear hK3 K3
    refine wc_condT rfl ?_
    refine c_seq (fun K4 hK4 => ?_)
    refine c_reg ?_ -- region 2 const.go:209
    refine wl (ro_assign rfl) ?_
    refine wl_nil (x_then (hK4 _ _ ?_))
    clear hK4 K4
    refine c_ret (x_thenR ?_)
    refine bp_ret Tryz.results66 rfl ?_
    first
      | exact ⟨rfl, rfl⟩
      | omega
  · try simp only [decide_eq_true_eq, decide_eq_false_iff_not, Bool.not_eq_true', Bool.not_eq_false', Bool.not_eq_eq_eq_not, Bool.not_true, Bool.not_false, beq_iff_eq, bne_iff_ne, ne_eq, beq_eq_false_iff_ne, bne_eq_false_iff_eq, gt_iff_lt, ge_iff_le, Int.not_lt, Int.not_le] at hg5
    refine wlg_yes rfl (ro_move rfl) ?_
    refine wlg_yes rfl (ro_cmp rfl rfl rfl) ?_
    refine wl (ro_pick rfl rfl rfl) ?_
    refine wl_nil (x_then (hK3 _ _ ?_))
    clear hK3 K3
    refine wc_cond rfl (fun hc8 => ?_) (fun hc8 => ?_)
    · try simp only [decide_eq_true_eq, decide_eq_false_iff_not, Bool.not_eq_true', Bool.not_eq_false', Bool.not_eq_eq_eq_not, Bool.not_true, Bool.not_false, beq_iff_eq, bne_iff_ne, ne_eq, beq_eq_false_iff_ne, bne_eq_false_iff_eq, gt_iff_lt, ge_iff_le, Int.not_lt, Int.not_le] at hc8
      refine c_seq (fun K5 hK5 => ?_)
      refine c_reg ?_ -- region 2 const.go:209
      refine wl (ro_assign rfl) ?_
      refine wl_nil (x_then (hK5 _ _ ?_))
      clear hK5 K5
      refine c_ret (x_thenR ?_)
      refine bp_ret Tryz.results66 rfl ?_
      first
        | exact ⟨rfl, rfl⟩
        | omega
    · try simp only [decide_eq_true_eq, decide_eq_false_iff_not, Bool.not_eq_true', Bool.not_eq_false', Bool.not_eq_eq_eq_not, Bool.not_true, Bool.not_false, beq_iff_eq, bne_iff_ne, ne_eq, beq_eq_false_iff_ne, bne_eq_false_iff_eq, gt_iff_lt, ge_iff_le, Int.not_lt, Int.not_le] at hc8
      refine c_skip (x_then (hK2 _ _ ?_))
      clear hK2 K2
      refine forget [(0, _)] ⟨rfl, trivial⟩ (fun e => ?_)
      refine c_seq (fun K6 hK6 => ?_)
      refine c_reg ?_ -- region 3 const.go:211
      refine wl (ro_move rfl) ?_
      refine wl (ro_conv rfl sc_3 in_122 (Go.IntWalk.u64_in _ (by omega))) ?_
      refine wl (ro_shl32 rfl rfl (by omega)) ?_
      refine wl (ro_assign rfl) ?_
      refine wl_nil (x_then (hK6 _ _ ?_))
      clear hK6 K6
      refine c_ret ?_
      refine bp_ret Tryz.results66 rfl ?_
      first
        | exact ⟨rfl, rfl⟩
        | omega
theorem InGrid98 {w : World} {r : Rf} : Ret Tryz.prog 98 [.agg (refc r).toArray] w (fun v w' => v = .bool (gridR r) ∧ Fram none' w w') := by
  have hF : Fram none' w w := Fram.refl _ _
  refine ret_of Tryz.func98 rfl Tryz.ntmps98 rfl ?_
  refine c_seq (fun K1 hK1 => ?_)
  refine c_reg ?_ -- region 0 const.go:201
  refine wl_box rfl rfl (fun b1 w1 hbb1 h1 F1 => ?_)
  have hbsb1 := Nat.le_trans hF.size hbb1
  replace hF := hF.thenDrew.thenN F1
  refine wl (ro_assign rfl) ?_
  refine wl_nil (x_then (hK1 _ _ ?_))
  clear hK1 K1
  refine forget [(1, _)] ⟨rfl, trivial⟩ (fun e => ?_)
  refine c_seq (fun K2 hK2 => ?_)
  refine c_reg ?_ -- region 1 const.go:201
  refine wl (ro_fieldAddr (k := 0) rfl fo_141_0) ?_
  refine wl (ro_loadB rfl sc_3 (by assumption) rfl) ?_
  refine wl (ro_cmp rfl rfl rfl) ?_
  refine wl_fork rfl (fun hg6 => ?_) (fun hg6 => ?_)
  · try simp only [decide_eq_true_eq, decide_eq_false_iff_not, Bool.not_eq_true', Bool.not_eq_false', Bool.not_eq_eq_eq_not, Bool.not_true, Bool.not_false, beq_iff_eq, bne_iff_ne, ne_eq, beq_eq_false_iff_ne, bne_eq_false_iff_eq, gt_iff_lt, ge_iff_le, Int.not_lt, Int.not_le] at hg6
    refine wlg_yes rfl (ro_fieldAddr (k := 0) rfl fo_141_0) ?_
    refine wlg_yes rfl (ro_loadB rfl sc_3 (by assumption) rfl) ?_
    refine wlg_yes rfl (ro_cmp rfl rfl rfl) ?_
    refine wl (ro_pick rfl rfl rfl) ?_
    refine wl_fork rfl (fun hg11 => ?_) (fun hg11 => ?_)
    · try simp only [decide_eq_true_eq, decide_eq_false_iff_not, Bool.not_eq_true', Bool.not_eq_false', Bool.not_eq_eq_eq_not, Bool.not_true, Bool.not_false, beq_iff_eq, bne_iff_ne, ne_eq, beq_eq_false_iff_ne, bne_eq_false_iff_eq, gt_iff_lt, ge_iff_le, Int.not_lt, Int.not_le] at hg11
      refine wlg_yes rfl (ro_fieldAddr (k := 1) rfl fo_141_1) ?_
      refine wlg_yes rfl (ro_loadB rfl sc_3 (by assumption) rfl) ?_
      refine wlg_yes rfl (ro_cmp rfl rfl rfl) ?_
      refine wl (ro_pick rfl rfl rfl) ?_
      refine wl_fork rfl (fun hg16 => ?_) (fun hg16 => ?_)
      · try simp only [decide_eq_true_eq, decide_eq_false_iff_not, Bool.not_eq_true', Bool.not_eq_false', Bool.not_eq_eq_eq_not, Bool.not_true, Bool.not_false, beq_iff_eq, bne_iff_ne, ne_eq, beq_eq_false_iff_ne, bne_eq_false_iff_eq, gt_iff_lt, ge_iff_le, Int.not_lt, Int.not_le] at hg16
        refine wlg_yes rfl (ro_fieldAddr (k := 1) rfl fo_141_1) ?_
        refine wlg_yes rfl (ro_loadB rfl sc_3 (by assumption) rfl) ?_
        refine wlg_yes rfl (ro_cmp rfl rfl rfl) ?_
        refine wl (ro_pick rfl rfl rfl) ?_
        refine wl (ro_assign rfl) ?_
        refine wl_nil (x_then (hK2 _ _ ?_))
        clear hK2 K2
        refine c_ret ?_
        refine bp_ret Tryz.results98 rfl ?_
        refine ⟨congrArg Value.bool ?_, hF⟩
        unfold gridR
        rw [Bool.eq_iff_iff]
        first
          | (simp; done)
          | (simp; omega)
      · try simp only [decide_eq_true_eq, decide_eq_false_iff_not, Bool.not_eq_true', Bool.not_eq_false', Bool.not_eq_eq_eq_not, Bool.not_true, Bool.not_false, beq_iff_eq, bne_iff_ne, ne_eq, beq_eq_false_iff_ne, bne_eq_false_iff_eq, gt_iff_lt, ge_iff_le, Int.not_lt, Int.not_le] at hg16
        refine wlg_no rfl ?_
        refine wlg_no rfl ?_
        refine wlg_no rfl ?_
        refine wl (ro_pick rfl rfl rfl) ?_
        refine wl (ro_assign rfl) ?_
        refine wl_nil (x_then (hK2 _ _ ?_))
        clear hK2 K2
        refine c_ret ?_
        refine bp_ret Tryz.results98 rfl ?_
        refine ⟨congrArg Value.bool ?_, hF⟩
        unfold gridR
        rw [Bool.eq_iff_iff]
        first
          | (simp; done)
          | (simp; omega)
    · try simp only [decide_eq_true_eq, decide_eq_false_iff_not, Bool.not_eq_true', Bool.not_eq_false', Bool.not_eq_eq_eq_not, Bool.not_true, Bool.not_false, beq_iff_eq, bne_iff_ne, ne_eq, beq_eq_false_iff_ne, bne_eq_false_iff_eq, gt_iff_lt, ge_iff_le, Int.not_lt, Int.not_le] at hg11
      refine wlg_no rfl ?_
      refine wlg_no rfl ?_
      refine wlg_no rfl ?_
      refine wl (ro_pick rfl rfl rfl) ?_
      refine wl (ro_move rfl) ?_
      refine wlg_no rfl ?_
      refine wlg_no rfl ?_
      refine wlg_no rfl ?_
      refine wl (ro_pick rfl rfl rfl) ?_
      refine wl (ro_assign rfl) ?_
      refine wl_nil (x_then (hK2 _ _ ?_))
      clear hK2 K2
      refine c_ret ?_
      refine bp_ret Tryz.results98 rfl ?_
      refine ⟨congrArg Value.bool ?_, hF⟩
      unfold gridR
      rw [Bool.eq_iff_iff]
      first
        | (simp; done)
        | (simp; omega)
  · try simp only [decide_eq_true_eq, decide_eq_false_iff_not, Bool.not_eq_true', Bool.not_eq_false', Bool.not_eq_eq_eq_not, Bool.not_true, Bool.not_false, beq_iff_eq, bne_iff_ne, ne_eq, beq_eq_false_iff_ne, bne_eq_false_iff_eq, gt_iff_lt, ge_iff_le, Int.not_lt, Int.not_le] at hg6
    refine wlg_no rfl ?_
    refine wlg_no rfl ?_
    refine wlg_no rfl ?_
    refine wl (ro_pick rfl rfl rfl) ?_
    refine wl (ro_move rfl) ?_
    refine wlg_no rfl ?_
    refine wlg_no rfl ?_
    refine wlg_no rfl ?_
    refine wl (ro_pick rfl rfl rfl) ?_
    refine wl (ro_move rfl) ?_
    refine wlg_no rfl ?_
    refine wlg_no rfl ?_
    refine wlg_no rfl ?_
    refine wl (ro_pick rfl rfl rfl) ?_
    refine wl (ro_assign rfl) ?_
    refine wl_nil (x_then (hK2 _ _ ?_))
    clear hK2 K2
    refine c_ret ?_
    refine bp_ret Tryz.results98 rfl ?_
    refine ⟨congrArg Value.bool ?_, hF⟩
    unfold gridR
    rw [Bool.eq_iff_iff]
    first
      | (simp; done)
      | (simp; omega)
theorem CellOf204 {w : World} {r : Rf} (h : gridR r = true) : Ret Tryz.prog 204 [.agg (refc r).toArray] w (fun v w' => v = i64c (cellR r) ∧ Fram none' w w') := by
  have hF : Fram none' w w := Fram.refl _ _
  have hg := grid_iff.1 h
  refine ret_of Tryz.func204 rfl Tryz.ntmps204 rfl ?_
  refine c_seq (fun K1 hK1 => ?_)
  refine c_reg ?_ -- region 0 const.go:204
  refine wl_box rfl rfl (fun b1 w1 hbb1 h1 F1 => ?_)
  have hbsb1 := Nat.le_trans hF.size hbb1
  replace hF := hF.thenDrew.thenN F1
  refine wl (ro_assign rfl) ?_
  refine wl_nil (x_then (hK1 _ _ ?_))
  clear hK1 K1
  refine forget [(1, _)] ⟨rfl, trivial⟩ (fun e => ?_)
  refine c_seq (fun K2 hK2 => ?_)
  refine c_reg ?_ -- region 1 const.go:204
  refine wl (ro_fieldAddr (k := 1) rfl fo_141_1) ?_
  refine wl (ro_loadB rfl sc_3 (by assumption) rfl) ?_
  refine wl (ro_arith rfl rfl rfl (Go.IntWalk.i64_in _ (by omega))) ?_
  refine wl (ro_fieldAddr (k := 0) rfl fo_141_0) ?_
  refine wl (ro_loadB rfl sc_3 (by assumption) rfl) ?_
  refine wl (ro_arith rfl rfl rfl (Go.IntWalk.i64_in _ (by omega))) ?_
  refine wl (ro_assign rfl) ?_
  refine wl_nil (x_then (hK2 _ _ ?_))
  clear hK2 K2
  refine c_ret ?_
  refine bp_ret Tryz.results204 rfl ?_
  refine ⟨?_, hF⟩
  unfold cellR
  show icv (r.r * 4 + r.c) = icv (((r.r * 4 + r.c).toNat : Nat) : Int)
  rw [Int.toNat_of_nonneg (by omega)]
theorem tallies205 {w : World} {f : Nat} : Ret Tryz.prog 205 [i64c f] w (fun v w' => v = .bool (tallF f) ∧ w' = w) := by
  refine ret_of Tryz.func205 rfl Tryz.ntmps205 rfl ?_
  refine c_seq (fun K1 hK1 => ?_)
  refine c_reg ?_ -- region 0 code.go:27
  refine wl (ro_assign rfl) ?_
  refine wl_nil (x_then (hK1 _ _ ?_))
  clear hK1 K1
  refine forget [(0, _)] ⟨rfl, trivial⟩ (fun e => ?_)
  refine c_seq (fun K2 hK2 => ?_)
  refine c_reg ?_ -- region 1 code.go:27
  refine wl (ro_move rfl) ?_
  refine wl (ro_cmp rfl rfl rfl) ?_
  refine wl_fork rfl (fun hg5 => ?_) (fun hg5 => ?_)
  · try simp only [decide_eq_true_eq, decide_eq_false_iff_not, Bool.not_eq_true', Bool.not_eq_false', Bool.not_eq_eq_eq_not, Bool.not_true, Bool.not_false, beq_iff_eq, bne_iff_ne, ne_eq, beq_eq_false_iff_ne, bne_eq_false_iff_eq, gt_iff_lt, ge_iff_le, Int.not_lt, Int.not_le] at hg5
    refine wlg_yes rfl (ro_move rfl) ?_
    refine wlg_yes rfl (ro_cmp rfl rfl rfl) ?_
    refine wl (ro_pick rfl rfl rfl) ?_
    refine wl (ro_assign rfl) ?_
    refine wl_nil (x_then (hK2 _ _ ?_))
    clear hK2 K2
    refine c_ret ?_
    refine bp_ret Tryz.results205 rfl ?_
    refine ⟨congrArg Value.bool ?_, rfl⟩
    unfold tallF
    rw [Bool.eq_iff_iff]
    first
      | (simp; done)
      | (simp; omega)
  · try simp only [decide_eq_true_eq, decide_eq_false_iff_not, Bool.not_eq_true', Bool.not_eq_false', Bool.not_eq_eq_eq_not, Bool.not_true, Bool.not_false, beq_iff_eq, bne_iff_ne, ne_eq, beq_eq_false_iff_ne, bne_eq_false_iff_eq, gt_iff_lt, ge_iff_le, Int.not_lt, Int.not_le] at hg5
    refine wlg_no rfl ?_
    refine wlg_no rfl ?_
    refine wl (ro_pick rfl rfl rfl) ?_
    refine wl (ro_assign rfl) ?_
    refine wl_nil (x_then (hK2 _ _ ?_))
    clear hK2 K2
    refine c_ret ?_
    refine bp_ret Tryz.results205 rfl ?_
    refine ⟨congrArg Value.bool ?_, rfl⟩
    unfold tallF
    rw [Bool.eq_iff_iff]
    first
      | (simp; done)
      | (simp; omega)

theorem wordy220 {w : World} {x : Vl} : Ret Tryz.prog 220 [vlA x] w (fun v w' => v = .bool (wdV x) ∧ Fram none' w w') := by
  have hF : Fram none' w w := Fram.refl _ _
  refine ret_of Tryz.func220 rfl Tryz.ntmps220 rfl ?_
  refine c_seq (fun K1 hK1 => ?_)
  refine c_reg ?_ -- region 0 worth.go:18
  refine wl_box rfl rfl (fun b1 w1 hbb1 h1 F1 => ?_)
  have hbsb1 := Nat.le_trans hF.size hbb1
  replace hF := hF.thenDrew.thenN F1
  refine wl (ro_assign rfl) ?_
  refine wl_nil (x_then (hK1 _ _ ?_))
  clear hK1 K1
  refine forget [(1, _)] ⟨rfl, trivial⟩ (fun e => ?_)
  refine c_seq (fun K2 hK2 => ?_)
  refine c_reg ?_ -- region 1 worth.go:18
  refine wl (ro_fieldAddr (k := 0) rfl fo_104_0) ?_
  refine wl (ro_loadB rfl sc_3 (by assumption) rfl) ?_
  refine wl (ro_cmp rfl rfl rfl) ?_
  refine wl_fork rfl (fun hg6 => ?_) (fun hg6 => ?_)
  · try simp only [decide_eq_true_eq, decide_eq_false_iff_not, Bool.not_eq_true', Bool.not_eq_false', Bool.not_eq_eq_eq_not, Bool.not_true, Bool.not_false, beq_iff_eq, bne_iff_ne, ne_eq, beq_eq_false_iff_ne, bne_eq_false_iff_eq, gt_iff_lt, ge_iff_le, Int.not_lt, Int.not_le] at hg6
    refine wlg_no rfl ?_
    refine wlg_no rfl ?_
    refine wlg_no rfl ?_
    refine wl (ro_pick rfl rfl rfl) ?_
    refine wl (ro_assign rfl) ?_
    refine wl_nil (x_then (hK2 _ _ ?_))
    clear hK2 K2
    refine c_ret ?_
    refine bp_ret Tryz.results220 rfl ?_
    refine ⟨congrArg Value.bool ?_, hF⟩
    unfold wdV
    rw [Bool.eq_iff_iff]
    simp [hg6]
  · try simp only [decide_eq_true_eq, decide_eq_false_iff_not, Bool.not_eq_true', Bool.not_eq_false', Bool.not_eq_eq_eq_not, Bool.not_true, Bool.not_false, beq_iff_eq, bne_iff_ne, ne_eq, beq_eq_false_iff_ne, bne_eq_false_iff_eq, gt_iff_lt, ge_iff_le, Int.not_lt, Int.not_le] at hg6
    refine wlg_yes rfl (ro_fieldAddr (k := 0) rfl fo_104_0) ?_
    refine wlg_yes rfl (ro_loadB rfl sc_3 (by assumption) rfl) ?_
    refine wlg_yes rfl (ro_cmp rfl rfl rfl) ?_
    refine wl (ro_pick rfl rfl rfl) ?_
    refine wl (ro_assign rfl) ?_
    refine wl_nil (x_then (hK2 _ _ ?_))
    clear hK2 K2
    refine c_ret ?_
    refine bp_ret Tryz.results220 rfl ?_
    refine ⟨congrArg Value.bool ?_, hF⟩
    unfold wdV
    rw [Bool.eq_iff_iff]
    simp [hg6]
theorem counts221 {w : World} {x : Vl} : Ret Tryz.prog 221 [vlA x] w (fun v w' => v = .bool (cntV x) ∧ Fram none' w w') := by
  have hF : Fram none' w w := Fram.refl _ _
  refine ret_of Tryz.func221 rfl Tryz.ntmps221 rfl ?_
  refine c_seq (fun K1 hK1 => ?_)
  refine c_reg ?_ -- region 0 worth.go:8
  refine wl_box rfl rfl (fun b1 w1 hbb1 h1 F1 => ?_)
  have hbsb1 := Nat.le_trans hF.size hbb1
  replace hF := hF.thenDrew.thenN F1
  refine wl (ro_assign rfl) ?_
  refine wl_nil (x_then (hK1 _ _ ?_))
  clear hK1 K1
  refine forget [(1, _)] ⟨rfl, trivial⟩ (fun e => ?_)
  refine c_seq (fun K2 hK2 => ?_)
  refine c_reg ?_ -- region 1 worth.go:8
  refine wl (ro_fieldAddr (k := 0) rfl fo_104_0) ?_
  refine wl (ro_loadB rfl sc_3 (by assumption) rfl) ?_
  refine wl (ro_cmp rfl rfl rfl) ?_
  refine wl_fork rfl (fun hg6 => ?_) (fun hg6 => ?_)
  · try simp only [decide_eq_true_eq, decide_eq_false_iff_not, Bool.not_eq_true', Bool.not_eq_false', Bool.not_eq_eq_eq_not, Bool.not_true, Bool.not_false, beq_iff_eq, bne_iff_ne, ne_eq, beq_eq_false_iff_ne, bne_eq_false_iff_eq, gt_iff_lt, ge_iff_le, Int.not_lt, Int.not_le] at hg6
    refine wlg_no rfl ?_
    refine wlg_no rfl ?_
    refine wlg_no rfl ?_
    refine wl (ro_pick rfl rfl rfl) ?_
    refine wl (ro_assign rfl) ?_
    refine wl_nil (x_then (hK2 _ _ ?_))
    clear hK2 K2
    refine c_ret ?_
    refine bp_ret Tryz.results221 rfl ?_
    refine ⟨congrArg Value.bool ?_, hF⟩
    unfold cntV
    rw [Bool.eq_iff_iff]
    simp [hg6]
  · try simp only [decide_eq_true_eq, decide_eq_false_iff_not, Bool.not_eq_true', Bool.not_eq_false', Bool.not_eq_eq_eq_not, Bool.not_true, Bool.not_false, beq_iff_eq, bne_iff_ne, ne_eq, beq_eq_false_iff_ne, bne_eq_false_iff_eq, gt_iff_lt, ge_iff_le, Int.not_lt, Int.not_le] at hg6
    refine wlg_yes rfl (ro_fieldAddr (k := 0) rfl fo_104_0) ?_
    refine wlg_yes rfl (ro_loadB rfl sc_3 (by assumption) rfl) ?_
    refine wlg_yes rfl (ro_cmp rfl rfl rfl) ?_
    refine wl (ro_pick rfl rfl rfl) ?_
    refine wl (ro_assign rfl) ?_
    refine wl_nil (x_then (hK2 _ _ ?_))
    clear hK2 K2
    refine c_ret ?_
    refine bp_ret Tryz.results221 rfl ?_
    refine ⟨congrArg Value.bool ?_, hF⟩
    unfold cntV
    rw [Bool.eq_iff_iff]
    simp [hg6]
theorem amount222 {w : World} {x : Vl} : Ret Tryz.prog 222 [vlA x] w (fun v w' => v = icv (amt x) ∧ Fram none' w w') := by
  have hF : Fram none' w w := Fram.refl _ _
  refine ret_of Tryz.func222 rfl Tryz.ntmps222 rfl ?_
  refine c_seq (fun K1 hK1 => ?_)
  refine c_reg ?_ -- region 0 worth.go:10
  refine wl_box rfl rfl (fun b1 w1 hbb1 h1 F1 => ?_)
  have hbsb1 := Nat.le_trans hF.size hbb1
  replace hF := hF.thenDrew.thenN F1
  refine wl (ro_assign rfl) ?_
  refine wl_nil (x_then (hK1 _ _ ?_))
  clear hK1 K1
  refine c_seq (fun K2 hK2 => ?_)
  refine c_seq (fun K3 hK3 => ?_)
  refine c_reg ?_ -- region 1 worth.go:11
  refine wl (ro_fieldAddr (k := 0) rfl fo_104_0) ?_
  refine wl (ro_loadB rfl sc_3 (by assumption) rfl) ?_
  refine wl (ro_cmp rfl rfl rfl) ?_
  refine wl_nil (x_then (hK3 _ _ ?_))
  clear hK3 K3
  refine wc_cond rfl (fun hc5 => ?_) (fun hc5 => ?_)
  · try simp only [decide_eq_true_eq, decide_eq_false_iff_not, Bool.not_eq_true', Bool.not_eq_false', Bool.not_eq_eq_eq_not, Bool.not_true, Bool.not_false, beq_iff_eq, bne_iff_ne, ne_eq, beq_eq_false_iff_ne, bne_eq_false_iff_eq, gt_iff_lt, ge_iff_le, Int.not_lt, Int.not_le] at hc5
    refine c_seq (fun K4 hK4 => ?_)
    refine c_reg ?_ -- region 2 worth.go:12
    refine wl (ro_fieldAddr (k := 1) rfl fo_104_1) ?_
    refine wl (ro_loadB rfl sc_3 (by assumption) rfl) ?_
    refine wl (ro_assign rfl) ?_
    refine wl_nil (x_then (hK4 _ _ ?_))
    clear hK4 K4
    refine c_ret (x_thenR ?_)
    refine bp_ret Tryz.results222 rfl ?_
    refine ⟨?_, hF⟩
    unfold amt
    simp [hc5]
  · try simp only [decide_eq_true_eq, decide_eq_false_iff_not, Bool.not_eq_true', Bool.not_eq_false', Bool.not_eq_eq_eq_not, Bool.not_true, Bool.not_false, beq_iff_eq, bne_iff_ne, ne_eq, beq_eq_false_iff_ne, bne_eq_false_iff_eq, gt_iff_lt, ge_iff_le, Int.not_lt, Int.not_le] at hc5
    refine c_skip (x_then (hK2 _ _ ?_))
    clear hK2 K2
    refine forget [] trivial (fun e => ?_)
    refine c_seq (fun K5 hK5 => ?_)
    refine c_reg ?_ -- region 3 worth.go:14
    refine wl (ro_assign rfl) ?_
    refine wl_nil (x_then (hK5 _ _ ?_))
    clear hK5 K5
    refine c_ret ?_
    refine bp_ret Tryz.results222 rfl ?_
    refine ⟨?_, hF⟩
    unfold amt
    simp [hc5]
set_option maxHeartbeats 1000000 in
theorem reckon223 {w : World} {op : Nat} {a b : Int} (ha : -999999999 ≤ a ∧ a ≤ 999999999) (hb : -999999999 ≤ b ∧ b ≤ 999999999) (ho : op ≤ 10) : Ret Tryz.prog 223 [i64c op, icv a, icv b] w (fun v w' => v = vlA (reckon op a b) ∧ Fram none' w w') := by
  have hF : Fram none' w w := Fram.refl _ _
  have hm1 : a * b ≤ 999999999 * 999999999 ∧ -(999999999 * 999999999) ≤ a * b := mul_bd ha hb
  have hd1 := tdiv_bd (a := a) (b := b) ha
  refine ret_of Tryz.func223 rfl Tryz.ntmps223 rfl ?_
  refine c_seq (fun K1 hK1 => ?_)
  refine c_reg ?_ -- region 0 worth.go:67
  refine wl_new (ze_104) (fun b6 w1 hbb6 h6 F1 => ?_)
  have hbsb6 := Nat.le_trans hF.size hbb6
  replace hF := hF.thenDrew.thenN F1
  refine wl_nil (x_then (hK1 _ _ ?_))
  clear hK1 K1
  refine c_seq (fun K2 hK2 => ?_)
  refine c_seq (fun K3 hK3 => ?_)
  refine c_reg ?_ -- region 1 worth.go:68
  refine wl (ro_move rfl) ?_
  refine wl_nil (x_then (hK3 _ _ ?_))
  clear hK3 K3
  refine c_block ?_
  refine forget [(1, _), (2, _), (6, _), (7, _)] ⟨rfl, rfl, rfl, rfl, trivial⟩ (fun e => ?_)
  refine c_seq (fun K4 hK4 => ?_)
  refine c_reg ?_ -- region 2 worth.go:69
  refine wl (ro_cmp rfl rfl rfl) ?_
  refine wl (ro_assign rfl) ?_
  refine wl_nil (x_then (hK4 _ _ ?_))
  clear hK4 K4
  refine wc_cond rfl (fun hc8 => ?_) (fun hc8 => ?_)
  · try simp only [decide_eq_true_eq, decide_eq_false_iff_not, Bool.not_eq_true', Bool.not_eq_false', Bool.not_eq_eq_eq_not, Bool.not_true, Bool.not_false, beq_iff_eq, bne_iff_ne, ne_eq, beq_eq_false_iff_ne, bne_eq_false_iff_eq, gt_iff_lt, ge_iff_le, Int.not_lt, Int.not_le] at hc8
    refine c_seq (fun K5 hK5 => ?_)
    refine c_reg ?_ -- region 3 worth.go:70
    refine wl (ro_move rfl) ?_
    refine wl (ro_move rfl) ?_
    refine wl (ro_arith rfl rfl rfl (Go.IntWalk.i64_in _ (by omega))) ?_
    refine wl_call rfl en_225 (Num225) ?_
    rintro _ w2 ⟨rfl, F2⟩
    replace hF := hF.thenDrew.thenN F2
    replace h6 := F2.blkN h6
    refine wl_puta rfl rfl ((by (try exact vlc_cells _); all_goals simp [Value.oneCell', i64c, icv, u64c, u8c, ptr, S])) sz_104 (rfl) h6 ((by simp)) (rfl) (fun w3 h6 F3 => ?_)
    replace hF := hF.thenDrew.thenO F3 (by first | exact .inr (by omega) | exact .inl rfl | exact .inl (by assumption))
    refine wl_nil (x_then (hK5 _ _ ?_))
    clear hK5 K5
    refine c_ret (x_blkR (x_thenR ?_))
    refine bq_ret (res1 Tryz.results223 (rv_c rfl ag_104 (h6) rfl)) ?_
    refine ⟨?_, hF⟩
    unfold reckon
    repeat first | rw [if_pos (by omega)] | rw [if_neg (by omega)]
    rfl
  · try simp only [decide_eq_true_eq, decide_eq_false_iff_not, Bool.not_eq_true', Bool.not_eq_false', Bool.not_eq_eq_eq_not, Bool.not_true, Bool.not_false, beq_iff_eq, bne_iff_ne, ne_eq, beq_eq_false_iff_ne, bne_eq_false_iff_eq, gt_iff_lt, ge_iff_le, Int.not_lt, Int.not_le] at hc8
    refine c_seq (fun K6 hK6 => ?_)
    refine c_reg ?_ -- region 4 worth.go:71
    refine wl (ro_cmp rfl rfl rfl) ?_
    refine wl (ro_assign rfl) ?_
    refine wl_nil (x_then (hK6 _ _ ?_))
    clear hK6 K6
    refine wc_cond rfl (fun hc14 => ?_) (fun hc14 => ?_)
    · try simp only [decide_eq_true_eq, decide_eq_false_iff_not, Bool.not_eq_true', Bool.not_eq_false', Bool.not_eq_eq_eq_not, Bool.not_true, Bool.not_false, beq_iff_eq, bne_iff_ne, ne_eq, beq_eq_false_iff_ne, bne_eq_false_iff_eq, gt_iff_lt, ge_iff_le, Int.not_lt, Int.not_le] at hc14
      refine c_seq (fun K7 hK7 => ?_)
      refine c_reg ?_ -- region 5 worth.go:72
      refine wl (ro_move rfl) ?_
      refine wl (ro_move rfl) ?_
      refine wl (ro_arith rfl rfl rfl (Go.IntWalk.i64_in _ (by omega))) ?_
      refine wl_call rfl en_225 (Num225) ?_
      rintro _ w4 ⟨rfl, F4⟩
      replace hF := hF.thenDrew.thenN F4
      replace h6 := F4.blkN h6
      refine wl_puta rfl rfl ((by (try exact vlc_cells _); all_goals simp [Value.oneCell', i64c, icv, u64c, u8c, ptr, S])) sz_104 (rfl) h6 ((by simp)) (rfl) (fun w5 h6 F5 => ?_)
      replace hF := hF.thenDrew.thenO F5 (by first | exact .inr (by omega) | exact .inl rfl | exact .inl (by assumption))
      refine wl_nil (x_then (hK7 _ _ ?_))
      clear hK7 K7
      refine c_ret (x_blkR (x_thenR ?_))
      refine bq_ret (res1 Tryz.results223 (rv_c rfl ag_104 (h6) rfl)) ?_
      refine ⟨?_, hF⟩
      unfold reckon
      repeat first | rw [if_pos (by omega)] | rw [if_neg (by omega)]
      rfl
    · try simp only [decide_eq_true_eq, decide_eq_false_iff_not, Bool.not_eq_true', Bool.not_eq_false', Bool.not_eq_eq_eq_not, Bool.not_true, Bool.not_false, beq_iff_eq, bne_iff_ne, ne_eq, beq_eq_false_iff_ne, bne_eq_false_iff_eq, gt_iff_lt, ge_iff_le, Int.not_lt, Int.not_le] at hc14
      refine c_seq (fun K8 hK8 => ?_)
      refine c_reg ?_ -- region 6 worth.go:73
      refine wl (ro_cmp rfl rfl rfl) ?_
      refine wl (ro_assign rfl) ?_
      refine wl_nil (x_then (hK8 _ _ ?_))
      clear hK8 K8
      refine wc_cond rfl (fun hc20 => ?_) (fun hc20 => ?_)
      · try simp only [decide_eq_true_eq, decide_eq_false_iff_not, Bool.not_eq_true', Bool.not_eq_false', Bool.not_eq_eq_eq_not, Bool.not_true, Bool.not_false, beq_iff_eq, bne_iff_ne, ne_eq, beq_eq_false_iff_ne, bne_eq_false_iff_eq, gt_iff_lt, ge_iff_le, Int.not_lt, Int.not_le] at hc20
        refine c_seq (fun K9 hK9 => ?_)
        refine c_reg ?_ -- region 7 worth.go:74
        refine wl (ro_move rfl) ?_
        refine wl (ro_move rfl) ?_
        refine wl (ro_arith rfl rfl rfl (Go.IntWalk.i64_in _ (by omega))) ?_
        refine wl_call rfl en_225 (Num225) ?_
        rintro _ w6 ⟨rfl, F6⟩
        replace hF := hF.thenDrew.thenN F6
        replace h6 := F6.blkN h6
        refine wl_puta rfl rfl ((by (try exact vlc_cells _); all_goals simp [Value.oneCell', i64c, icv, u64c, u8c, ptr, S])) sz_104 (rfl) h6 ((by simp)) (rfl) (fun w7 h6 F7 => ?_)
        replace hF := hF.thenDrew.thenO F7 (by first | exact .inr (by omega) | exact .inl rfl | exact .inl (by assumption))
        refine wl_nil (x_then (hK9 _ _ ?_))
        clear hK9 K9
        refine c_ret (x_blkR (x_thenR ?_))
        refine bq_ret (res1 Tryz.results223 (rv_c rfl ag_104 (h6) rfl)) ?_
        refine ⟨?_, hF⟩
        unfold reckon
        repeat first | rw [if_pos (by omega)] | rw [if_neg (by omega)]
        rfl
      · try simp only [decide_eq_true_eq, decide_eq_false_iff_not, Bool.not_eq_true', Bool.not_eq_false', Bool.not_eq_eq_eq_not, Bool.not_true, Bool.not_false, beq_iff_eq, bne_iff_ne, ne_eq, beq_eq_false_iff_ne, bne_eq_false_iff_eq, gt_iff_lt, ge_iff_le, Int.not_lt, Int.not_le] at hc20
        refine c_skip (x_blk (x_then (hK2 _ _ ?_)))
        clear hK2 K2
        refine c_seq (fun K10 hK10 => ?_)
        refine c_seq (fun K11 hK11 => ?_)
        refine c_reg ?_ -- region 8 worth.go:76
        refine wl (ro_move rfl) ?_
        refine wl (ro_cmp rfl rfl rfl) ?_
        refine wl_nil (x_then (hK11 _ _ ?_))
        clear hK11 K11
        refine wc_cond rfl (fun hc27 => ?_) (fun hc27 => ?_)
        · try simp only [decide_eq_true_eq, decide_eq_false_iff_not, Bool.not_eq_true', Bool.not_eq_false', Bool.not_eq_eq_eq_not, Bool.not_true, Bool.not_false, beq_iff_eq, bne_iff_ne, ne_eq, beq_eq_false_iff_ne, bne_eq_false_iff_eq, gt_iff_lt, ge_iff_le, Int.not_lt, Int.not_le] at hc27
          refine c_seq (fun K12 hK12 => ?_)
          refine c_reg ?_ -- region 9 worth.go:77
          refine wl_call rfl en_116 (Err116) ?_
          rintro _ w8 ⟨rfl, F8⟩
          replace hF := hF.thenDrew.thenN F8
          replace h6 := F8.blkN h6
          refine wl_puta rfl rfl ((by (try exact vlc_cells _); all_goals simp [Value.oneCell', i64c, icv, u64c, u8c, ptr, S])) sz_104 (rfl) h6 ((by simp)) (rfl) (fun w9 h6 F9 => ?_)
          replace hF := hF.thenDrew.thenO F9 (by first | exact .inr (by omega) | exact .inl rfl | exact .inl (by assumption))
          refine wl_nil (x_then (hK12 _ _ ?_))
          clear hK12 K12
          refine c_ret (x_thenR ?_)
          refine bq_ret (res1 Tryz.results223 (rv_c rfl ag_104 (h6) rfl)) ?_
          refine ⟨?_, hF⟩
          unfold reckon
          repeat first | rw [if_pos (by omega)] | rw [if_neg (by omega)]
          rfl
        · try simp only [decide_eq_true_eq, decide_eq_false_iff_not, Bool.not_eq_true', Bool.not_eq_false', Bool.not_eq_eq_eq_not, Bool.not_true, Bool.not_false, beq_iff_eq, bne_iff_ne, ne_eq, beq_eq_false_iff_ne, bne_eq_false_iff_eq, gt_iff_lt, ge_iff_le, Int.not_lt, Int.not_le] at hc27
          refine c_skip (x_then (hK10 _ _ ?_))
          clear hK10 K10
          refine forget [(1, _), (2, _), (6, _)] ⟨rfl, rfl, rfl, trivial⟩ (fun e => ?_)
          refine c_seq (fun K13 hK13 => ?_)
          refine c_reg ?_ -- region 10 worth.go:79
          refine wl (ro_move rfl) ?_
          refine wl (ro_move rfl) ?_
          refine wl (ro_quo rfl rfl hc27 (Go.IntWalk.i64_in _ (by omega))) ?_
          refine wl_call rfl en_225 (Num225) ?_
          rintro _ w10 ⟨rfl, F10⟩
          replace hF := hF.thenDrew.thenN F10
          replace h6 := F10.blkN h6
          refine wl_puta rfl rfl ((by (try exact vlc_cells _); all_goals simp [Value.oneCell', i64c, icv, u64c, u8c, ptr, S])) sz_104 (rfl) h6 ((by simp)) (rfl) (fun w11 h6 F11 => ?_)
          replace hF := hF.thenDrew.thenO F11 (by first | exact .inr (by omega) | exact .inl rfl | exact .inl (by assumption))
          refine wl_nil (x_then (hK13 _ _ ?_))
          clear hK13 K13
          refine c_ret ?_
          refine bq_ret (res1 Tryz.results223 (rv_c rfl ag_104 (h6) rfl)) ?_
          refine ⟨?_, hF⟩
          unfold reckon
          repeat first | rw [if_pos (by omega)] | rw [if_neg (by omega)]
          rfl
theorem judge224 {w : World} {op : Nat} {s : Int} : Ret Tryz.prog 224 [i64c op, icv s] w (fun v w' => v = vlA (judge op s) ∧ Fram none' w w') := by
  have hF : Fram none' w w := Fram.refl _ _
  refine ret_of Tryz.func224 rfl Tryz.ntmps224 rfl ?_
  refine c_seq (fun K1 hK1 => ?_)
  refine c_reg ?_ -- region 0 worth.go:83
  refine wl_new (ze_104) (fun b4 w1 hbb4 h4 F1 => ?_)
  have hbsb4 := Nat.le_trans hF.size hbb4
  replace hF := hF.thenDrew.thenN F1
  refine wl_nil (x_then (hK1 _ _ ?_))
  clear hK1 K1
  refine c_seq (fun K2 hK2 => ?_)
  refine c_seq (fun K3 hK3 => ?_)
  refine c_reg ?_ -- region 1 worth.go:84
  refine wl (ro_move rfl) ?_
  refine wl_nil (x_then (hK3 _ _ ?_))
  clear hK3 K3
  refine c_block ?_
  refine forget [(1, _), (4, _), (5, _)] ⟨rfl, rfl, rfl, trivial⟩ (fun e => ?_)
  refine c_seq (fun K4 hK4 => ?_)
  refine c_reg ?_ -- region 2 worth.go:85
  refine wl (ro_cmp rfl rfl rfl) ?_
  refine wl (ro_assign rfl) ?_
  refine wl_nil (x_then (hK4 _ _ ?_))
  clear hK4 K4
  refine wc_cond rfl (fun hc6 => ?_) (fun hc6 => ?_)
  · try simp only [decide_eq_true_eq, decide_eq_false_iff_not, Bool.not_eq_true', Bool.not_eq_false', Bool.not_eq_eq_eq_not, Bool.not_true, Bool.not_false, beq_iff_eq, bne_iff_ne, ne_eq, beq_eq_false_iff_ne, bne_eq_false_iff_eq, gt_iff_lt, ge_iff_le, Int.not_lt, Int.not_le] at hc6
    refine c_seq (fun K5 hK5 => ?_)
    refine c_reg ?_ -- region 3 worth.go:86
    refine wl (ro_move rfl) ?_
    refine wl (ro_cmp rfl rfl rfl) ?_
    refine wl_call rfl en_219 (Bool219) ?_
    rintro _ w2 ⟨rfl, F2⟩
    replace hF := hF.thenDrew.thenN F2
    replace h4 := F2.blkN h4
    refine wl_puta rfl rfl ((by (try exact vlc_cells _); all_goals simp [Value.oneCell', i64c, icv, u64c, u8c, ptr, S])) sz_104 (rfl) h4 ((by simp)) (rfl) (fun w3 h4 F3 => ?_)
    replace hF := hF.thenDrew.thenO F3 (by first | exact .inr (by omega) | exact .inl rfl | exact .inl (by assumption))
    refine wl_nil (x_then (hK5 _ _ ?_))
    clear hK5 K5
    refine c_ret (x_blkR (x_thenR ?_))
    refine bq_ret (res1 Tryz.results224 (rv_c rfl ag_104 (h4) rfl)) ?_
    refine ⟨?_, hF⟩
    unfold judge
    repeat first | rw [if_pos (by omega)] | rw [if_neg (by omega)]
    first
      | rfl
      | (have : (s != 0) = decide (s ≠ 0) := by by_cases h : s = 0 <;> simp [h]
         rw [← this]
         rfl)
  · try simp only [decide_eq_true_eq, decide_eq_false_iff_not, Bool.not_eq_true', Bool.not_eq_false', Bool.not_eq_eq_eq_not, Bool.not_true, Bool.not_false, beq_iff_eq, bne_iff_ne, ne_eq, beq_eq_false_iff_ne, bne_eq_false_iff_eq, gt_iff_lt, ge_iff_le, Int.not_lt, Int.not_le] at hc6
    refine c_seq (fun K6 hK6 => ?_)
    refine c_reg ?_ -- region 4 worth.go:87
    refine wl (ro_cmp rfl rfl rfl) ?_
    refine wl (ro_assign rfl) ?_
    refine wl_nil (x_then (hK6 _ _ ?_))
    clear hK6 K6
    refine wc_cond rfl (fun hc11 => ?_) (fun hc11 => ?_)
    · try simp only [decide_eq_true_eq, decide_eq_false_iff_not, Bool.not_eq_true', Bool.not_eq_false', Bool.not_eq_eq_eq_not, Bool.not_true, Bool.not_false, beq_iff_eq, bne_iff_ne, ne_eq, beq_eq_false_iff_ne, bne_eq_false_iff_eq, gt_iff_lt, ge_iff_le, Int.not_lt, Int.not_le] at hc11
      refine c_seq (fun K7 hK7 => ?_)
      refine c_reg ?_ -- region 5 worth.go:88
      refine wl (ro_move rfl) ?_
      refine wl (ro_cmp rfl rfl rfl) ?_
      refine wl_call rfl en_219 (Bool219) ?_
      rintro _ w4 ⟨rfl, F4⟩
      replace hF := hF.thenDrew.thenN F4
      replace h4 := F4.blkN h4
      refine wl_puta rfl rfl ((by (try exact vlc_cells _); all_goals simp [Value.oneCell', i64c, icv, u64c, u8c, ptr, S])) sz_104 (rfl) h4 ((by simp)) (rfl) (fun w5 h4 F5 => ?_)
      replace hF := hF.thenDrew.thenO F5 (by first | exact .inr (by omega) | exact .inl rfl | exact .inl (by assumption))
      refine wl_nil (x_then (hK7 _ _ ?_))
      clear hK7 K7
      refine c_ret (x_blkR (x_thenR ?_))
      refine bq_ret (res1 Tryz.results224 (rv_c rfl ag_104 (h4) rfl)) ?_
      refine ⟨?_, hF⟩
      unfold judge
      repeat first | rw [if_pos (by omega)] | rw [if_neg (by omega)]
      first
        | rfl
        | (have : (s != 0) = decide (s ≠ 0) := by by_cases h : s = 0 <;> simp [h]
           rw [← this]
           rfl)
    · try simp only [decide_eq_true_eq, decide_eq_false_iff_not, Bool.not_eq_true', Bool.not_eq_false', Bool.not_eq_eq_eq_not, Bool.not_true, Bool.not_false, beq_iff_eq, bne_iff_ne, ne_eq, beq_eq_false_iff_ne, bne_eq_false_iff_eq, gt_iff_lt, ge_iff_le, Int.not_lt, Int.not_le] at hc11
      refine c_seq (fun K8 hK8 => ?_)
      refine c_reg ?_ -- region 6 worth.go:89
      refine wl (ro_cmp rfl rfl rfl) ?_
      refine wl (ro_assign rfl) ?_
      refine wl_nil (x_then (hK8 _ _ ?_))
      clear hK8 K8
      refine wc_cond rfl (fun hc16 => ?_) (fun hc16 => ?_)
      · try simp only [decide_eq_true_eq, decide_eq_false_iff_not, Bool.not_eq_true', Bool.not_eq_false', Bool.not_eq_eq_eq_not, Bool.not_true, Bool.not_false, beq_iff_eq, bne_iff_ne, ne_eq, beq_eq_false_iff_ne, bne_eq_false_iff_eq, gt_iff_lt, ge_iff_le, Int.not_lt, Int.not_le] at hc16
        refine c_seq (fun K9 hK9 => ?_)
        refine c_reg ?_ -- region 7 worth.go:90
        refine wl (ro_move rfl) ?_
        refine wl (ro_cmp rfl rfl rfl) ?_
        refine wl_call rfl en_219 (Bool219) ?_
        rintro _ w6 ⟨rfl, F6⟩
        replace hF := hF.thenDrew.thenN F6
        replace h4 := F6.blkN h4
        refine wl_puta rfl rfl ((by (try exact vlc_cells _); all_goals simp [Value.oneCell', i64c, icv, u64c, u8c, ptr, S])) sz_104 (rfl) h4 ((by simp)) (rfl) (fun w7 h4 F7 => ?_)
        replace hF := hF.thenDrew.thenO F7 (by first | exact .inr (by omega) | exact .inl rfl | exact .inl (by assumption))
        refine wl_nil (x_then (hK9 _ _ ?_))
        clear hK9 K9
        refine c_ret (x_blkR (x_thenR ?_))
        refine bq_ret (res1 Tryz.results224 (rv_c rfl ag_104 (h4) rfl)) ?_
        refine ⟨?_, hF⟩
        unfold judge
        repeat first | rw [if_pos (by omega)] | rw [if_neg (by omega)]
        first
          | rfl
          | (have : (s != 0) = decide (s ≠ 0) := by by_cases h : s = 0 <;> simp [h]
             rw [← this]
             rfl)
      · try simp only [decide_eq_true_eq, decide_eq_false_iff_not, Bool.not_eq_true', Bool.not_eq_false', Bool.not_eq_eq_eq_not, Bool.not_true, Bool.not_false, beq_iff_eq, bne_iff_ne, ne_eq, beq_eq_false_iff_ne, bne_eq_false_iff_eq, gt_iff_lt, ge_iff_le, Int.not_lt, Int.not_le] at hc16
        refine c_seq (fun K10 hK10 => ?_)
        refine c_reg ?_ -- region 8 worth.go:91
        refine wl (ro_cmp rfl rfl rfl) ?_
        refine wl (ro_assign rfl) ?_
        refine wl_nil (x_then (hK10 _ _ ?_))
        clear hK10 K10
        refine wc_cond rfl (fun hc21 => ?_) (fun hc21 => ?_)
        · try simp only [decide_eq_true_eq, decide_eq_false_iff_not, Bool.not_eq_true', Bool.not_eq_false', Bool.not_eq_eq_eq_not, Bool.not_true, Bool.not_false, beq_iff_eq, bne_iff_ne, ne_eq, beq_eq_false_iff_ne, bne_eq_false_iff_eq, gt_iff_lt, ge_iff_le, Int.not_lt, Int.not_le] at hc21
          refine c_seq (fun K11 hK11 => ?_)
          refine c_reg ?_ -- region 9 worth.go:92
          refine wl (ro_move rfl) ?_
          refine wl (ro_cmp rfl rfl rfl) ?_
          refine wl_call rfl en_219 (Bool219) ?_
          rintro _ w8 ⟨rfl, F8⟩
          replace hF := hF.thenDrew.thenN F8
          replace h4 := F8.blkN h4
          refine wl_puta rfl rfl ((by (try exact vlc_cells _); all_goals simp [Value.oneCell', i64c, icv, u64c, u8c, ptr, S])) sz_104 (rfl) h4 ((by simp)) (rfl) (fun w9 h4 F9 => ?_)
          replace hF := hF.thenDrew.thenO F9 (by first | exact .inr (by omega) | exact .inl rfl | exact .inl (by assumption))
          refine wl_nil (x_then (hK11 _ _ ?_))
          clear hK11 K11
          refine c_ret (x_blkR (x_thenR ?_))
          refine bq_ret (res1 Tryz.results224 (rv_c rfl ag_104 (h4) rfl)) ?_
          refine ⟨?_, hF⟩
          unfold judge
          repeat first | rw [if_pos (by omega)] | rw [if_neg (by omega)]
          first
            | rfl
            | (have : (s != 0) = decide (s ≠ 0) := by by_cases h : s = 0 <;> simp [h]
               rw [← this]
               rfl)
        · try simp only [decide_eq_true_eq, decide_eq_false_iff_not, Bool.not_eq_true', Bool.not_eq_false', Bool.not_eq_eq_eq_not, Bool.not_true, Bool.not_false, beq_iff_eq, bne_iff_ne, ne_eq, beq_eq_false_iff_ne, bne_eq_false_iff_eq, gt_iff_lt, ge_iff_le, Int.not_lt, Int.not_le] at hc21
          refine c_seq (fun K12 hK12 => ?_)
          refine c_reg ?_ -- region 10 worth.go:93
          refine wl (ro_cmp rfl rfl rfl) ?_
          refine wl (ro_assign rfl) ?_
          refine wl_nil (x_then (hK12 _ _ ?_))
          clear hK12 K12
          refine wc_cond rfl (fun hc26 => ?_) (fun hc26 => ?_)
          · try simp only [decide_eq_true_eq, decide_eq_false_iff_not, Bool.not_eq_true', Bool.not_eq_false', Bool.not_eq_eq_eq_not, Bool.not_true, Bool.not_false, beq_iff_eq, bne_iff_ne, ne_eq, beq_eq_false_iff_ne, bne_eq_false_iff_eq, gt_iff_lt, ge_iff_le, Int.not_lt, Int.not_le] at hc26
            refine c_seq (fun K13 hK13 => ?_)
            refine c_reg ?_ -- region 11 worth.go:94
            refine wl (ro_move rfl) ?_
            refine wl (ro_cmp rfl rfl rfl) ?_
            refine wl_call rfl en_219 (Bool219) ?_
            rintro _ w10 ⟨rfl, F10⟩
            replace hF := hF.thenDrew.thenN F10
            replace h4 := F10.blkN h4
            refine wl_puta rfl rfl ((by (try exact vlc_cells _); all_goals simp [Value.oneCell', i64c, icv, u64c, u8c, ptr, S])) sz_104 (rfl) h4 ((by simp)) (rfl) (fun w11 h4 F11 => ?_)
            replace hF := hF.thenDrew.thenO F11 (by first | exact .inr (by omega) | exact .inl rfl | exact .inl (by assumption))
            refine wl_nil (x_then (hK13 _ _ ?_))
            clear hK13 K13
            refine c_ret (x_blkR (x_thenR ?_))
            refine bq_ret (res1 Tryz.results224 (rv_c rfl ag_104 (h4) rfl)) ?_
            refine ⟨?_, hF⟩
            unfold judge
            repeat first | rw [if_pos (by omega)] | rw [if_neg (by omega)]
            first
              | rfl
              | (have : (s != 0) = decide (s ≠ 0) := by by_cases h : s = 0 <;> simp [h]
                 rw [← this]
                 rfl)
          · try simp only [decide_eq_true_eq, decide_eq_false_iff_not, Bool.not_eq_true', Bool.not_eq_false', Bool.not_eq_eq_eq_not, Bool.not_true, Bool.not_false, beq_iff_eq, bne_iff_ne, ne_eq, beq_eq_false_iff_ne, bne_eq_false_iff_eq, gt_iff_lt, ge_iff_le, Int.not_lt, Int.not_le] at hc26
            refine c_skip (x_blk (x_then (hK2 _ _ ?_)))
            clear hK2 K2
            refine forget [(1, _), (4, _)] ⟨rfl, rfl, trivial⟩ (fun e => ?_)
            refine c_seq (fun K14 hK14 => ?_)
            refine c_reg ?_ -- region 12 worth.go:96
            refine wl (ro_move rfl) ?_
            refine wl (ro_cmp rfl rfl rfl) ?_
            refine wl_call rfl en_219 (Bool219) ?_
            rintro _ w12 ⟨rfl, F12⟩
            replace hF := hF.thenDrew.thenN F12
            replace h4 := F12.blkN h4
            refine wl_puta rfl rfl ((by (try exact vlc_cells _); all_goals simp [Value.oneCell', i64c, icv, u64c, u8c, ptr, S])) sz_104 (rfl) h4 ((by simp)) (rfl) (fun w13 h4 F13 => ?_)
            replace hF := hF.thenDrew.thenO F13 (by first | exact .inr (by omega) | exact .inl rfl | exact .inl (by assumption))
            refine wl_nil (x_then (hK14 _ _ ?_))
            clear hK14 K14
            refine c_ret ?_
            refine bq_ret (res1 Tryz.results224 (rv_c rfl ag_104 (h4) rfl)) ?_
            refine ⟨?_, hF⟩
            unfold judge
            repeat first | rw [if_pos (by omega)] | rw [if_neg (by omega)]
            first
              | rfl
              | (have : (s != 0) = decide (s ≠ 0) := by by_cases h : s = 0 <;> simp [h]
                 rw [← this]
                 rfl)

set_option maxHeartbeats 1000000 in
theorem unary207 {w : World} {f : Nat} {x : Vl} (hx : Lw x) : Ret Tryz.prog 207 [i64c f, vlA x] w (fun v w' => v = vlA (unV f x) ∧ Fram none' w w') := by
  have hF : Fram none' w w := Fram.refl _ _
  have hb := hx.bd
  have ha := amt_bd hx
  refine ret_of Tryz.func207 rfl Tryz.ntmps207 rfl ?_
  refine c_seq (fun K1 hK1 => ?_)
  refine c_reg ?_ -- region 0 worth.go:100
  refine wl_box rfl rfl (fun b3 w1 hbb3 h3 F1 => ?_)
  have hbsb3 := Nat.le_trans hF.size hbb3
  replace hF := hF.thenDrew.thenN F1
  refine wl_new (ze_104) (fun b4 w2 hbb4 h4 F2 => ?_)
  have hbsb4 := Nat.le_trans hF.size hbb4
  have hneb3b4 : b3 < b4 := Nat.lt_of_lt_of_le h3.lt hbb4
  replace hF := hF.thenDrew.thenN F2
  replace h3 := F2.blkN h3
  refine wl_nil (x_then (hK1 _ _ ?_))
  clear hK1 K1
  refine c_seq (fun K2 hK2 => ?_)
  refine c_seq (fun K3 hK3 => ?_)
  refine c_reg ?_ -- region 1 worth.go:101
  refine wl (ro_fieldAddr (k := 0) rfl fo_104_0) ?_
  refine wl (ro_loadB rfl sc_3 (by assumption) rfl) ?_
  refine wl (ro_cmp rfl rfl rfl) ?_
  refine wl_nil (x_then (hK3 _ _ ?_))
  clear hK3 K3
  refine wc_cond rfl (fun hc8 => ?_) (fun hc8 => ?_)
  · try simp only [decide_eq_true_eq, decide_eq_false_iff_not, Bool.not_eq_true', Bool.not_eq_false', Bool.not_eq_eq_eq_not, Bool.not_true, Bool.not_false, beq_iff_eq, bne_iff_ne, ne_eq, beq_eq_false_iff_ne, bne_eq_false_iff_eq, gt_iff_lt, ge_iff_le, Int.not_lt, Int.not_le] at hc8
    refine c_seq (fun K4 hK4 => ?_)
    refine c_reg ?_ -- region 2 worth.go:102
    refine wl (ro_loadAggB rfl ag_104 (by assumption) rfl rfl) ?_
    refine wl_puta rfl rfl ((by (try exact vlc_cells _); all_goals simp [Value.oneCell', i64c, icv, u64c, u8c, ptr, S])) sz_104 (rfl) h4 ((by simp)) (rfl) (fun w3 h4 F3 => ?_)
    replace hF := hF.thenDrew.thenO F3 (by first | exact .inr (by omega) | exact .inl rfl | exact .inl (by assumption))
    replace h3 := F3.blkO h3 (by omega)
    refine wl_nil (x_then (hK4 _ _ ?_))
    clear hK4 K4
    refine c_ret (x_thenR ?_)
    refine bq_ret (res1 Tryz.results207 (rv_c rfl ag_104 (h4) rfl)) ?_
    refine ⟨?_, hF⟩
    unfold unV
    repeat first | rw [if_pos (by omega)] | rw [if_neg (by omega)] | rw [if_pos (by assumption)] | rw [if_neg (by rw [Bool.not_eq_true]; assumption)]
    rfl
  · try simp only [decide_eq_true_eq, decide_eq_false_iff_not, Bool.not_eq_true', Bool.not_eq_false', Bool.not_eq_eq_eq_not, Bool.not_true, Bool.not_false, beq_iff_eq, bne_iff_ne, ne_eq, beq_eq_false_iff_ne, bne_eq_false_iff_eq, gt_iff_lt, ge_iff_le, Int.not_lt, Int.not_le] at hc8
    refine c_skip (x_then (hK2 _ _ ?_))
    clear hK2 K2
    refine c_seq (fun K5 hK5 => ?_)
    refine c_seq (fun K6 hK6 => ?_)
    refine c_reg ?_ -- region 3 worth.go:104
    refine wl (ro_move rfl) ?_
    refine wl (ro_cmp rfl rfl rfl) ?_
    refine wl_nil (x_then (hK6 _ _ ?_))
    clear hK6 K6
    refine wc_cond rfl (fun hc11 => ?_) (fun hc11 => ?_)
    · try simp only [decide_eq_true_eq, decide_eq_false_iff_not, Bool.not_eq_true', Bool.not_eq_false', Bool.not_eq_eq_eq_not, Bool.not_true, Bool.not_false, beq_iff_eq, bne_iff_ne, ne_eq, beq_eq_false_iff_ne, bne_eq_false_iff_eq, gt_iff_lt, ge_iff_le, Int.not_lt, Int.not_le] at hc11
      refine c_seq (fun K7 hK7 => ?_)
      refine c_seq (fun K8 hK8 => ?_)
      refine c_reg ?_ -- region 4 worth.go:105
      refine wl (ro_fieldAddr (k := 0) rfl fo_104_0) ?_
      refine wl (ro_loadB rfl sc_3 (by assumption) rfl) ?_
      refine wl (ro_cmp rfl rfl rfl) ?_
      refine wl_nil (x_then (hK8 _ _ ?_))
      clear hK8 K8
      refine wc_cond rfl (fun hc14 => ?_) (fun hc14 => ?_)
      · try simp only [decide_eq_true_eq, decide_eq_false_iff_not, Bool.not_eq_true', Bool.not_eq_false', Bool.not_eq_eq_eq_not, Bool.not_true, Bool.not_false, beq_iff_eq, bne_iff_ne, ne_eq, beq_eq_false_iff_ne, bne_eq_false_iff_eq, gt_iff_lt, ge_iff_le, Int.not_lt, Int.not_le] at hc14
        refine c_seq (fun K9 hK9 => ?_)
        refine c_reg ?_ -- region 5 worth.go:106
        refine wl_call rfl en_116 (Err116) ?_
        rintro _ w4 ⟨rfl, F4⟩
        replace hF := hF.thenDrew.thenN F4
        replace h3 := F4.blkN h3
        replace h4 := F4.blkN h4
        refine wl_puta rfl rfl ((by (try exact vlc_cells _); all_goals simp [Value.oneCell', i64c, icv, u64c, u8c, ptr, S])) sz_104 (rfl) h4 ((by simp)) (rfl) (fun w5 h4 F5 => ?_)
        replace hF := hF.thenDrew.thenO F5 (by first | exact .inr (by omega) | exact .inl rfl | exact .inl (by assumption))
        replace h3 := F5.blkO h3 (by omega)
        refine wl_nil (x_then (hK9 _ _ ?_))
        clear hK9 K9
        refine c_ret (x_thenR (x_thenR ?_))
        refine bq_ret (res1 Tryz.results207 (rv_c rfl ag_104 (h4) rfl)) ?_
        refine ⟨?_, hF⟩
        unfold unV
        repeat first | rw [if_pos (by omega)] | rw [if_neg (by omega)] | rw [if_pos (by assumption)] | rw [if_neg (by rw [Bool.not_eq_true]; assumption)]
        rfl
      · try simp only [decide_eq_true_eq, decide_eq_false_iff_not, Bool.not_eq_true', Bool.not_eq_false', Bool.not_eq_eq_eq_not, Bool.not_true, Bool.not_false, beq_iff_eq, bne_iff_ne, ne_eq, beq_eq_false_iff_ne, bne_eq_false_iff_eq, gt_iff_lt, ge_iff_le, Int.not_lt, Int.not_le] at hc14
        refine c_skip (x_then (hK7 _ _ ?_))
        clear hK7 K7
        refine forget [(3, _), (4, _)] ⟨rfl, rfl, trivial⟩ (fun e => ?_)
        refine c_seq (fun K10 hK10 => ?_)
        refine c_reg ?_ -- region 6 worth.go:108
        refine wl (ro_fieldAddr (k := 1) rfl fo_104_1) ?_
        refine wl (ro_loadB rfl sc_3 (by assumption) rfl) ?_
        refine wl (ro_cmp rfl rfl rfl) ?_
        refine wl_call rfl en_219 (Bool219) ?_
        rintro _ w6 ⟨rfl, F6⟩
        replace hF := hF.thenDrew.thenN F6
        replace h3 := F6.blkN h3
        replace h4 := F6.blkN h4
        refine wl_puta rfl rfl ((by (try exact vlc_cells _); all_goals simp [Value.oneCell', i64c, icv, u64c, u8c, ptr, S])) sz_104 (rfl) h4 ((by simp)) (rfl) (fun w7 h4 F7 => ?_)
        replace hF := hF.thenDrew.thenO F7 (by first | exact .inr (by omega) | exact .inl rfl | exact .inl (by assumption))
        replace h3 := F7.blkO h3 (by omega)
        refine wl_nil (x_then (hK10 _ _ ?_))
        clear hK10 K10
        refine c_ret (x_thenR ?_)
        refine bq_ret (res1 Tryz.results207 (rv_c rfl ag_104 (h4) rfl)) ?_
        refine ⟨?_, hF⟩
        unfold unV
        repeat first | rw [if_pos (by omega)] | rw [if_neg (by omega)] | rw [if_pos (by assumption)] | rw [if_neg (by rw [Bool.not_eq_true]; assumption)]
        rfl
    · try simp only [decide_eq_true_eq, decide_eq_false_iff_not, Bool.not_eq_true', Bool.not_eq_false', Bool.not_eq_eq_eq_not, Bool.not_true, Bool.not_false, beq_iff_eq, bne_iff_ne, ne_eq, beq_eq_false_iff_ne, bne_eq_false_iff_eq, gt_iff_lt, ge_iff_le, Int.not_lt, Int.not_le] at hc11
      refine c_skip (x_then (hK5 _ _ ?_))
      clear hK5 K5
      refine c_seq (fun K11 hK11 => ?_)
      refine c_seq (fun K12 hK12 => ?_)
      refine c_reg ?_ -- region 7 worth.go:110
      refine wl (ro_move rfl) ?_
      refine wl (ro_cmp rfl rfl rfl) ?_
      refine wl_nil (x_then (hK12 _ _ ?_))
      clear hK12 K12
      refine wc_cond rfl (fun hc21 => ?_) (fun hc21 => ?_)
      · try simp only [decide_eq_true_eq, decide_eq_false_iff_not, Bool.not_eq_true', Bool.not_eq_false', Bool.not_eq_eq_eq_not, Bool.not_true, Bool.not_false, beq_iff_eq, bne_iff_ne, ne_eq, beq_eq_false_iff_ne, bne_eq_false_iff_eq, gt_iff_lt, ge_iff_le, Int.not_lt, Int.not_le] at hc21
        refine c_seq (fun K13 hK13 => ?_)
        refine c_seq (fun K14 hK14 => ?_)
        refine c_reg ?_ -- region 8 worth.go:111
        refine wl (ro_loadAggB rfl ag_104 (by assumption) rfl rfl) ?_
        refine wl_call rfl en_220 (wordy220) ?_
        rintro _ w8 ⟨rfl, F8⟩
        replace hF := hF.thenDrew.thenN F8
        replace h3 := F8.blkN h3
        replace h4 := F8.blkN h4
        refine wl (ro_not rfl) ?_
        refine wl_nil (x_then (hK14 _ _ ?_))
        clear hK14 K14
        refine wc_cond rfl (fun hc24 => ?_) (fun hc24 => ?_)
        · try simp only [decide_eq_true_eq, decide_eq_false_iff_not, Bool.not_eq_true', Bool.not_eq_false', Bool.not_eq_eq_eq_not, Bool.not_true, Bool.not_false, beq_iff_eq, bne_iff_ne, ne_eq, beq_eq_false_iff_ne, bne_eq_false_iff_eq, gt_iff_lt, ge_iff_le, Int.not_lt, Int.not_le] at hc24
          refine c_seq (fun K15 hK15 => ?_)
          refine c_reg ?_ -- region 9 worth.go:112
          refine wl_call rfl en_116 (Err116) ?_
          rintro _ w9 ⟨rfl, F9⟩
          replace hF := hF.thenDrew.thenN F9
          replace h3 := F9.blkN h3
          replace h4 := F9.blkN h4
          refine wl_puta rfl rfl ((by (try exact vlc_cells _); all_goals simp [Value.oneCell', i64c, icv, u64c, u8c, ptr, S])) sz_104 (rfl) h4 ((by simp)) (rfl) (fun w10 h4 F10 => ?_)
          replace hF := hF.thenDrew.thenO F10 (by first | exact .inr (by omega) | exact .inl rfl | exact .inl (by assumption))
          replace h3 := F10.blkO h3 (by omega)
          refine wl_nil (x_then (hK15 _ _ ?_))
          clear hK15 K15
          refine c_ret (x_thenR (x_thenR ?_))
          refine bq_ret (res1 Tryz.results207 (rv_c rfl ag_104 (h4) rfl)) ?_
          refine ⟨?_, hF⟩
          unfold unV
          repeat first | rw [if_pos (by omega)] | rw [if_neg (by omega)] | rw [if_pos (by assumption)] | rw [if_neg (by rw [Bool.not_eq_true]; assumption)]
          rfl
        · try simp only [decide_eq_true_eq, decide_eq_false_iff_not, Bool.not_eq_true', Bool.not_eq_false', Bool.not_eq_eq_eq_not, Bool.not_true, Bool.not_false, beq_iff_eq, bne_iff_ne, ne_eq, beq_eq_false_iff_ne, bne_eq_false_iff_eq, gt_iff_lt, ge_iff_le, Int.not_lt, Int.not_le] at hc24
          refine c_skip (x_then (hK13 _ _ ?_))
          clear hK13 K13
          refine forget [(3, _), (4, _)] ⟨rfl, rfl, trivial⟩ (fun e => ?_)
          refine c_seq (fun K16 hK16 => ?_)
          refine c_reg ?_ -- region 10 worth.go:114
          refine wl (ro_fieldAddr (k := 2) rfl fo_104_2) ?_
          refine wl (ro_loadB rfl sc_9 (by assumption) rfl) ?_
          refine wl (ro_lenS rfl st_9) ?_
          refine wl_call rfl en_187 (Int187) ?_
          rintro _ w11 ⟨rfl, F11⟩
          replace hF := hF.thenDrew.thenN F11
          replace h3 := F11.blkN h3
          replace h4 := F11.blkN h4
          refine wl_puta rfl rfl ((by (try exact vlc_cells _); all_goals simp [Value.oneCell', i64c, icv, u64c, u8c, ptr, S])) sz_104 (rfl) h4 ((by simp)) (rfl) (fun w12 h4 F12 => ?_)
          replace hF := hF.thenDrew.thenO F12 (by first | exact .inr (by omega) | exact .inl rfl | exact .inl (by assumption))
          replace h3 := F12.blkO h3 (by omega)
          refine wl_nil (x_then (hK16 _ _ ?_))
          clear hK16 K16
          refine c_ret (x_thenR ?_)
          refine bq_ret (res1 Tryz.results207 (rv_c rfl ag_104 (h4) rfl)) ?_
          refine ⟨?_, hF⟩
          unfold unV
          repeat first | rw [if_pos (by omega)] | rw [if_neg (by omega)] | rw [if_pos (by assumption)] | rw [if_neg (by rw [Bool.not_eq_true]; assumption)]
          rfl
      · try simp only [decide_eq_true_eq, decide_eq_false_iff_not, Bool.not_eq_true', Bool.not_eq_false', Bool.not_eq_eq_eq_not, Bool.not_true, Bool.not_false, beq_iff_eq, bne_iff_ne, ne_eq, beq_eq_false_iff_ne, bne_eq_false_iff_eq, gt_iff_lt, ge_iff_le, Int.not_lt, Int.not_le] at hc21
        refine c_skip (x_then (hK11 _ _ ?_))
        clear hK11 K11
        refine c_seq (fun K17 hK17 => ?_)
        refine c_seq (fun K18 hK18 => ?_)
        refine c_reg ?_ -- region 11 worth.go:116
        refine wl (ro_loadAggB rfl ag_104 (by assumption) rfl rfl) ?_
        refine wl_call rfl en_221 (counts221) ?_
        rintro _ w13 ⟨rfl, F13⟩
        replace hF := hF.thenDrew.thenN F13
        replace h3 := F13.blkN h3
        replace h4 := F13.blkN h4
        refine wl (ro_not rfl) ?_
        refine wl_nil (x_then (hK18 _ _ ?_))
        clear hK18 K18
        refine wc_cond rfl (fun hc32 => ?_) (fun hc32 => ?_)
        · try simp only [decide_eq_true_eq, decide_eq_false_iff_not, Bool.not_eq_true', Bool.not_eq_false', Bool.not_eq_eq_eq_not, Bool.not_true, Bool.not_false, beq_iff_eq, bne_iff_ne, ne_eq, beq_eq_false_iff_ne, bne_eq_false_iff_eq, gt_iff_lt, ge_iff_le, Int.not_lt, Int.not_le] at hc32
          refine c_seq (fun K19 hK19 => ?_)
          refine c_reg ?_ -- region 12 worth.go:117
          refine wl_call rfl en_116 (Err116) ?_
          rintro _ w14 ⟨rfl, F14⟩
          replace hF := hF.thenDrew.thenN F14
          replace h3 := F14.blkN h3
          replace h4 := F14.blkN h4
          refine wl_puta rfl rfl ((by (try exact vlc_cells _); all_goals simp [Value.oneCell', i64c, icv, u64c, u8c, ptr, S])) sz_104 (rfl) h4 ((by simp)) (rfl) (fun w15 h4 F15 => ?_)
          replace hF := hF.thenDrew.thenO F15 (by first | exact .inr (by omega) | exact .inl rfl | exact .inl (by assumption))
          replace h3 := F15.blkO h3 (by omega)
          refine wl_nil (x_then (hK19 _ _ ?_))
          clear hK19 K19
          refine c_ret (x_thenR ?_)
          refine bq_ret (res1 Tryz.results207 (rv_c rfl ag_104 (h4) rfl)) ?_
          refine ⟨?_, hF⟩
          unfold unV
          repeat first | rw [if_pos (by omega)] | rw [if_neg (by omega)] | rw [if_pos (by assumption)] | rw [if_neg (by rw [Bool.not_eq_true]; assumption)]
          rfl
        · try simp only [decide_eq_true_eq, decide_eq_false_iff_not, Bool.not_eq_true', Bool.not_eq_false', Bool.not_eq_eq_eq_not, Bool.not_true, Bool.not_false, beq_iff_eq, bne_iff_ne, ne_eq, beq_eq_false_iff_ne, bne_eq_false_iff_eq, gt_iff_lt, ge_iff_le, Int.not_lt, Int.not_le] at hc32
          refine c_skip (x_then (hK17 _ _ ?_))
          clear hK17 K17
          refine forget [(0, _), (3, _), (4, _)] ⟨rfl, rfl, rfl, trivial⟩ (fun e => ?_)
          refine c_seq (fun K20 hK20 => ?_)
          refine c_reg ?_ -- region 13 worth.go:119
          refine wl (ro_loadAggB rfl ag_104 (by assumption) rfl rfl) ?_
          refine wl_call rfl en_222 (amount222) ?_
          rintro _ w16 ⟨rfl, F16⟩
          replace hF := hF.thenDrew.thenN F16
          replace h3 := F16.blkN h3
          replace h4 := F16.blkN h4
          refine wl (ro_assign rfl) ?_
          refine wl_nil (x_then (hK20 _ _ ?_))
          clear hK20 K20
          refine c_seq (fun K21 hK21 => ?_)
          refine c_seq (fun K22 hK22 => ?_)
          refine c_reg ?_ -- region 14 worth.go:120
          refine wl (ro_move rfl) ?_
          refine wl (ro_cmp rfl rfl rfl) ?_
          refine wl_fork rfl (fun hg38 => ?_) (fun hg38 => ?_)
          · try simp only [decide_eq_true_eq, decide_eq_false_iff_not, Bool.not_eq_true', Bool.not_eq_false', Bool.not_eq_eq_eq_not, Bool.not_true, Bool.not_false, beq_iff_eq, bne_iff_ne, ne_eq, beq_eq_false_iff_ne, bne_eq_false_iff_eq, gt_iff_lt, ge_iff_le, Int.not_lt, Int.not_le] at hg38
            refine wlg_yes rfl (ro_move rfl) ?_
            refine wlg_yes rfl (ro_cmp rfl rfl rfl) ?_
            refine wl (ro_pick rfl rfl rfl) ?_
            refine wl_nil (x_then (hK22 _ _ ?_))
            clear hK22 K22
            refine wc_cond rfl (fun hc41 => ?_) (fun hc41 => ?_)
            · try simp only [decide_eq_true_eq, decide_eq_false_iff_not, Bool.not_eq_true', Bool.not_eq_false', Bool.not_eq_eq_eq_not, Bool.not_true, Bool.not_false, beq_iff_eq, bne_iff_ne, ne_eq, beq_eq_false_iff_ne, bne_eq_false_iff_eq, gt_iff_lt, ge_iff_le, Int.not_lt, Int.not_le] at hc41
              refine c_seq (fun K23 hK23 => ?_)
              refine c_reg ?_ -- region 15 worth.go:121
              refine wl (ro_move rfl) ?_
              refine wl_call rfl en_187 (Int187) ?_
              rintro _ w17 ⟨rfl, F17⟩
              replace hF := hF.thenDrew.thenN F17
              replace h3 := F17.blkN h3
              replace h4 := F17.blkN h4
              refine wl_puta rfl rfl ((by (try exact vlc_cells _); all_goals simp [Value.oneCell', i64c, icv, u64c, u8c, ptr, S])) sz_104 (rfl) h4 ((by simp)) (rfl) (fun w18 h4 F18 => ?_)
              replace hF := hF.thenDrew.thenO F18 (by first | exact .inr (by omega) | exact .inl rfl | exact .inl (by assumption))
              replace h3 := F18.blkO h3 (by omega)
              refine wl_nil (x_then (hK23 _ _ ?_))
              clear hK23 K23
              refine c_ret (x_thenR ?_)
              refine bq_ret (res1 Tryz.results207 (rv_c rfl ag_104 (h4) rfl)) ?_
              refine ⟨?_, hF⟩
              unfold unV
              repeat first | rw [if_pos (by omega)] | rw [if_neg (by omega)] | rw [if_pos (by assumption)] | rw [if_neg (by rw [Bool.not_eq_true]; assumption)]
              rfl
            · try simp only [decide_eq_true_eq, decide_eq_false_iff_not, Bool.not_eq_true', Bool.not_eq_false', Bool.not_eq_eq_eq_not, Bool.not_true, Bool.not_false, beq_iff_eq, bne_iff_ne, ne_eq, beq_eq_false_iff_ne, bne_eq_false_iff_eq, gt_iff_lt, ge_iff_le, Int.not_lt, Int.not_le] at hc41
              refine c_skip (x_then (hK21 _ _ ?_))
              clear hK21 K21
              refine forget [(4, _), (5, _)] ⟨rfl, rfl, trivial⟩ (fun e => ?_)
              refine c_seq (fun K24 hK24 => ?_)
              refine c_reg ?_ -- region 16 worth.go:123
              refine wl (ro_move rfl) ?_
              refine wl (ro_neg rfl (by omega)) ?_
              refine wl_call rfl en_187 (Int187) ?_
              rintro _ w19 ⟨rfl, F19⟩
              replace hF := hF.thenDrew.thenN F19
              replace h3 := F19.blkN h3
              replace h4 := F19.blkN h4
              refine wl_puta rfl rfl ((by (try exact vlc_cells _); all_goals simp [Value.oneCell', i64c, icv, u64c, u8c, ptr, S])) sz_104 (rfl) h4 ((by simp)) (rfl) (fun w20 h4 F20 => ?_)
              replace hF := hF.thenDrew.thenO F20 (by first | exact .inr (by omega) | exact .inl rfl | exact .inl (by assumption))
              replace h3 := F20.blkO h3 (by omega)
              refine wl_nil (x_then (hK24 _ _ ?_))
              clear hK24 K24
              refine c_ret ?_
              refine bq_ret (res1 Tryz.results207 (rv_c rfl ag_104 (h4) rfl)) ?_
              refine ⟨?_, hF⟩
              unfold unV
              repeat first | rw [if_pos (by omega)] | rw [if_neg (by omega)] | rw [if_pos (by assumption)] | rw [if_neg (by rw [Bool.not_eq_true]; assumption)]
              rfl
          · try simp only [decide_eq_true_eq, decide_eq_false_iff_not, Bool.not_eq_true', Bool.not_eq_false', Bool.not_eq_eq_eq_not, Bool.not_true, Bool.not_false, beq_iff_eq, bne_iff_ne, ne_eq, beq_eq_false_iff_ne, bne_eq_false_iff_eq, gt_iff_lt, ge_iff_le, Int.not_lt, Int.not_le] at hg38
            refine wlg_no rfl ?_
            refine wlg_no rfl ?_
            refine wl (ro_pick rfl rfl rfl) ?_
            refine wl_nil (x_then (hK22 _ _ ?_))
            clear hK22 K22
            refine wc_condF rfl ?_
            refine c_skip (x_then (hK21 _ _ ?_))
            clear hK21 K21
            refine forget [(4, _), (5, _)] ⟨rfl, rfl, trivial⟩ (fun e => ?_)
            refine c_seq (fun K25 hK25 => ?_)
            refine c_reg ?_ -- region 16 worth.go:123
            refine wl (ro_move rfl) ?_
            refine wl (ro_neg rfl (by omega)) ?_
            refine wl_call rfl en_187 (Int187) ?_
            rintro _ w21 ⟨rfl, F21⟩
            replace hF := hF.thenDrew.thenN F21
            replace h3 := F21.blkN h3
            replace h4 := F21.blkN h4
            refine wl_puta rfl rfl ((by (try exact vlc_cells _); all_goals simp [Value.oneCell', i64c, icv, u64c, u8c, ptr, S])) sz_104 (rfl) h4 ((by simp)) (rfl) (fun w22 h4 F22 => ?_)
            replace hF := hF.thenDrew.thenO F22 (by first | exact .inr (by omega) | exact .inl rfl | exact .inl (by assumption))
            replace h3 := F22.blkO h3 (by omega)
            refine wl_nil (x_then (hK25 _ _ ?_))
            clear hK25 K25
            refine c_ret ?_
            refine bq_ret (res1 Tryz.results207 (rv_c rfl ag_104 (h4) rfl)) ?_
            refine ⟨?_, hF⟩
            unfold unV
            repeat first | rw [if_pos (by omega)] | rw [if_neg (by omega)] | rw [if_pos (by assumption)] | rw [if_neg (by rw [Bool.not_eq_true]; assumption)]
            rfl
set_option maxHeartbeats 2000000 in
theorem choose209 {w : World} {c x y : Vl} : Ret Tryz.prog 209 [vlA c, vlA x, vlA y] w (fun v w' => v = vlA (chV c x y) ∧ Fram none' w w') := by
  have hF : Fram none' w w := Fram.refl _ _
  refine ret_of Tryz.func209 rfl Tryz.ntmps209 rfl ?_
  refine c_seq (fun K1 hK1 => ?_)
  refine c_reg ?_ -- region 0 worth.go:127
  refine wl_box rfl rfl (fun b3 w1 hbb3 h3 F1 => ?_)
  have hbsb3 := Nat.le_trans hF.size hbb3
  replace hF := hF.thenDrew.thenN F1
  refine wl_box rfl rfl (fun b4 w2 hbb4 h4 F2 => ?_)
  have hbsb4 := Nat.le_trans hF.size hbb4
  have hneb3b4 : b3 < b4 := Nat.lt_of_lt_of_le h3.lt hbb4
  replace hF := hF.thenDrew.thenN F2
  replace h3 := F2.blkN h3
  refine wl_box rfl rfl (fun b5 w3 hbb5 h5 F3 => ?_)
  have hbsb5 := Nat.le_trans hF.size hbb5
  have hneb3b5 : b3 < b5 := Nat.lt_of_lt_of_le h3.lt hbb5
  have hneb4b5 : b4 < b5 := Nat.lt_of_lt_of_le h4.lt hbb5
  replace hF := hF.thenDrew.thenN F3
  replace h3 := F3.blkN h3
  replace h4 := F3.blkN h4
  refine wl_new (ze_104) (fun b6 w4 hbb6 h6 F4 => ?_)
  have hbsb6 := Nat.le_trans hF.size hbb6
  have hneb3b6 : b3 < b6 := Nat.lt_of_lt_of_le h3.lt hbb6
  have hneb4b6 : b4 < b6 := Nat.lt_of_lt_of_le h4.lt hbb6
  have hneb5b6 : b5 < b6 := Nat.lt_of_lt_of_le h5.lt hbb6
  replace hF := hF.thenDrew.thenN F4
  replace h3 := F4.blkN h3
  replace h4 := F4.blkN h4
  replace h5 := F4.blkN h5
  refine wl_nil (x_then (hK1 _ _ ?_))
  clear hK1 K1
  refine c_seq (fun K2 hK2 => ?_)
  refine c_seq (fun K3 hK3 => ?_)
  refine c_reg ?_ -- region 1 worth.go:128
  refine wl (ro_fieldAddr (k := 0) rfl fo_104_0) ?_
  refine wl (ro_loadB rfl sc_3 (by assumption) rfl) ?_
  refine wl (ro_cmp rfl rfl rfl) ?_
  refine wl_nil (x_then (hK3 _ _ ?_))
  clear hK3 K3
  refine wc_cond rfl (fun hc9 => ?_) (fun hc9 => ?_)
  · try simp only [decide_eq_true_eq, decide_eq_false_iff_not, Bool.not_eq_true', Bool.not_eq_false', Bool.not_eq_eq_eq_not, Bool.not_true, Bool.not_false, beq_iff_eq, bne_iff_ne, ne_eq, beq_eq_false_iff_ne, bne_eq_false_iff_eq, gt_iff_lt, ge_iff_le, Int.not_lt, Int.not_le] at hc9
    refine c_seq (fun K4 hK4 => ?_)
    refine c_reg ?_ -- region 2 worth.go:129
    refine wl (ro_loadAggB rfl ag_104 (by assumption) rfl rfl) ?_
    refine wl_puta rfl rfl ((by (try exact vlc_cells _); all_goals simp [Value.oneCell', i64c, icv, u64c, u8c, ptr, S])) sz_104 (rfl) h6 ((by simp)) (rfl) (fun w5 h6 F5 => ?_)
    replace hF := hF.thenDrew.thenO F5 (by first | exact .inr (by omega) | exact .inl rfl | exact .inl (by assumption))
    replace h3 := F5.blkO h3 (by omega)
    replace h4 := F5.blkO h4 (by omega)
    replace h5 := F5.blkO h5 (by omega)
    refine wl_nil (x_then (hK4 _ _ ?_))
    clear hK4 K4
    refine c_ret (x_thenR ?_)
    refine bq_ret (res1 Tryz.results209 (rv_c rfl ag_104 (h6) rfl)) ?_
    refine ⟨?_, hF⟩
    unfold chV
    repeat first | rw [if_pos (by omega)] | rw [if_neg (by omega)]
    rfl
  · try simp only [decide_eq_true_eq, decide_eq_false_iff_not, Bool.not_eq_true', Bool.not_eq_false', Bool.not_eq_eq_eq_not, Bool.not_true, Bool.not_false, beq_iff_eq, bne_iff_ne, ne_eq, beq_eq_false_iff_ne, bne_eq_false_iff_eq, gt_iff_lt, ge_iff_le, Int.not_lt, Int.not_le] at hc9
    refine c_skip (x_then (hK2 _ _ ?_))
    clear hK2 K2
    refine c_seq (fun K5 hK5 => ?_)
    refine c_seq (fun K6 hK6 => ?_)
    refine c_reg ?_ -- region 3 worth.go:131
    refine wl (ro_fieldAddr (k := 0) rfl fo_104_0) ?_
    refine wl (ro_loadB rfl sc_3 (by assumption) rfl) ?_
    refine wl (ro_cmp rfl rfl rfl) ?_
    refine wl_nil (x_then (hK6 _ _ ?_))
    clear hK6 K6
    refine wc_cond rfl (fun hc13 => ?_) (fun hc13 => ?_)
    · try simp only [decide_eq_true_eq, decide_eq_false_iff_not, Bool.not_eq_true', Bool.not_eq_false', Bool.not_eq_eq_eq_not, Bool.not_true, Bool.not_false, beq_iff_eq, bne_iff_ne, ne_eq, beq_eq_false_iff_ne, bne_eq_false_iff_eq, gt_iff_lt, ge_iff_le, Int.not_lt, Int.not_le] at hc13
      refine c_seq (fun K7 hK7 => ?_)
      refine c_reg ?_ -- region 4 worth.go:132
      refine wl_call rfl en_116 (Err116) ?_
      rintro _ w6 ⟨rfl, F6⟩
      replace hF := hF.thenDrew.thenN F6
      replace h3 := F6.blkN h3
      replace h4 := F6.blkN h4
      replace h5 := F6.blkN h5
      replace h6 := F6.blkN h6
      refine wl_puta rfl rfl ((by (try exact vlc_cells _); all_goals simp [Value.oneCell', i64c, icv, u64c, u8c, ptr, S])) sz_104 (rfl) h6 ((by simp)) (rfl) (fun w7 h6 F7 => ?_)
      replace hF := hF.thenDrew.thenO F7 (by first | exact .inr (by omega) | exact .inl rfl | exact .inl (by assumption))
      replace h3 := F7.blkO h3 (by omega)
      replace h4 := F7.blkO h4 (by omega)
      replace h5 := F7.blkO h5 (by omega)
      refine wl_nil (x_then (hK7 _ _ ?_))
      clear hK7 K7
      refine c_ret (x_thenR ?_)
      refine bq_ret (res1 Tryz.results209 (rv_c rfl ag_104 (h6) rfl)) ?_
      refine ⟨?_, hF⟩
      unfold chV
      repeat first | rw [if_pos (by omega)] | rw [if_neg (by omega)]
      rfl
    · try simp only [decide_eq_true_eq, decide_eq_false_iff_not, Bool.not_eq_true', Bool.not_eq_false', Bool.not_eq_eq_eq_not, Bool.not_true, Bool.not_false, beq_iff_eq, bne_iff_ne, ne_eq, beq_eq_false_iff_ne, bne_eq_false_iff_eq, gt_iff_lt, ge_iff_le, Int.not_lt, Int.not_le] at hc13
      refine c_skip (x_then (hK5 _ _ ?_))
      clear hK5 K5
      refine c_seq (fun K8 hK8 => ?_)
      refine c_seq (fun K9 hK9 => ?_)
      refine c_reg ?_ -- region 5 worth.go:134
      refine wl (ro_fieldAddr (k := 1) rfl fo_104_1) ?_
      refine wl (ro_loadB rfl sc_3 (by assumption) rfl) ?_
      refine wl (ro_cmp rfl rfl rfl) ?_
      refine wl_nil (x_then (hK9 _ _ ?_))
      clear hK9 K9
      refine wc_cond rfl (fun hc17 => ?_) (fun hc17 => ?_)
      · try simp only [decide_eq_true_eq, decide_eq_false_iff_not, Bool.not_eq_true', Bool.not_eq_false', Bool.not_eq_eq_eq_not, Bool.not_true, Bool.not_false, beq_iff_eq, bne_iff_ne, ne_eq, beq_eq_false_iff_ne, bne_eq_false_iff_eq, gt_iff_lt, ge_iff_le, Int.not_lt, Int.not_le] at hc17
        refine c_seq (fun K10 hK10 => ?_)
        refine c_reg ?_ -- region 6 worth.go:135
        refine wl (ro_loadAggB rfl ag_104 (by assumption) rfl rfl) ?_
        refine wl_puta rfl rfl ((by (try exact vlc_cells _); all_goals simp [Value.oneCell', i64c, icv, u64c, u8c, ptr, S])) sz_104 (rfl) h6 ((by simp)) (rfl) (fun w8 h6 F8 => ?_)
        replace hF := hF.thenDrew.thenO F8 (by first | exact .inr (by omega) | exact .inl rfl | exact .inl (by assumption))
        replace h3 := F8.blkO h3 (by omega)
        replace h4 := F8.blkO h4 (by omega)
        replace h5 := F8.blkO h5 (by omega)
        refine wl_nil (x_then (hK10 _ _ ?_))
        clear hK10 K10
        refine c_ret (x_thenR ?_)
        refine bq_ret (res1 Tryz.results209 (rv_c rfl ag_104 (h6) rfl)) ?_
        refine ⟨?_, hF⟩
        unfold chV
        repeat first | rw [if_pos (by omega)] | rw [if_neg (by omega)]
        rfl
      · try simp only [decide_eq_true_eq, decide_eq_false_iff_not, Bool.not_eq_true', Bool.not_eq_false', Bool.not_eq_eq_eq_not, Bool.not_true, Bool.not_false, beq_iff_eq, bne_iff_ne, ne_eq, beq_eq_false_iff_ne, bne_eq_false_iff_eq, gt_iff_lt, ge_iff_le, Int.not_lt, Int.not_le] at hc17
        refine c_skip (x_then (hK8 _ _ ?_))
        clear hK8 K8
        refine forget [(5, _), (6, _)] ⟨rfl, rfl, trivial⟩ (fun e => ?_)
        refine c_seq (fun K11 hK11 => ?_)
        refine c_reg ?_ -- region 7 worth.go:137
        refine wl (ro_loadAggB rfl ag_104 (by assumption) rfl rfl) ?_
        refine wl_puta rfl rfl ((by (try exact vlc_cells _); all_goals simp [Value.oneCell', i64c, icv, u64c, u8c, ptr, S])) sz_104 (rfl) h6 ((by simp)) (rfl) (fun w9 h6 F9 => ?_)
        replace hF := hF.thenDrew.thenO F9 (by first | exact .inr (by omega) | exact .inl rfl | exact .inl (by assumption))
        replace h3 := F9.blkO h3 (by omega)
        replace h4 := F9.blkO h4 (by omega)
        replace h5 := F9.blkO h5 (by omega)
        refine wl_nil (x_then (hK11 _ _ ?_))
        clear hK11 K11
        refine c_ret ?_
        refine bq_ret (res1 Tryz.results209 (rv_c rfl ag_104 (h6) rfl)) ?_
        refine ⟨?_, hF⟩
        unfold chV
        repeat first | rw [if_pos (by omega)] | rw [if_neg (by omega)]
        rfl

end Go.Proofs.Qxb6500570aGreat
