import Derived.Test.Qxb6500568aGreatDoorCc
/- The model's tables: Get, Next, Len, Make, Reset. -/
namespace Go.Proofs.Qxb6500568aGreatDoor
open Ieee
set_option linter.unusedVariables false
set_option linter.unusedSimpArgs false

theorem wf_f {v : PV} (h : wfV v = true) (hN : W64 v.N) : PVf v := by
  unfold wfV at h
  split at h
  · rename_i h3
    simp only [Bool.and_eq_true, decide_eq_true_eq] at h
    exact ⟨by omega, hN, by omega⟩
  · split at h
    · rename_i h3
      exact ⟨by omega, hN, by rw [h3.1]; simp⟩
    · cases h
theorem plc_cases (t : Tb) (k : PV) : (place t k = none ∧ plc t k = -1) ∨ ∃ i p, place t k = some i ∧ plc t k = (i : Int) ∧ t[i]? = some (k, p) := by
  unfold plc
  cases h : place t k with
  | none => exact .inl ⟨rfl, rfl⟩
  | some i => obtain ⟨v, hv⟩ := place_get h; exact .inr ⟨i, v, rfl, rfl, hv⟩
theorem WF51 {w : World} {v : PV} (h : wfV v = true) (hN : W64 v.N) : Ret Tryz.prog 51 [pv v] w (fun r w' => r = .bool true ∧ Fram none' w w') := (WellFormed51 (wf_f h hN)).mono fun r w' ⟨h1, h2⟩ => ⟨by rw [h1, h], h2⟩
theorem plc_neg {t : Tb} {k : PV} (h : plc t k < 0) : place t k = none := by
  rcases plc_cases t k with h1 | ⟨i, p, _, h2, _⟩
  · exact h1.1
  · omega
theorem plc_pos {t : Tb} {k : PV} (h : 0 ≤ plc t k) : ∃ i p, place t k = some i ∧ plc t k = (i : Int) ∧ t[i]? = some (k, p) := by
  rcases plc_cases t k with h1 | h1
  · omega
  · exact h1
set_option maxHeartbeats 4000000 in
theorem Get74 {w : World} {ow : Nat → Nat} {np : Value} {tb h : Nat} {T : List Tb} {t : Tb} {k : PV} (hM : MTV w ow np tb T) (hh : T[h]? = some t) (hk : wfV k = true) (hN : W64 k.N) : Ret Tryz.prog 74 [ptr tb, i64c h, pv k] w (fun r w' => r = .tuple #[pv (tGet t k), icv 0] ∧ Fram none' w w') := by
  have hF : Fram none' w w := Fram.refl _ _
  obtain ⟨g0, cap0, l0, a, cap, hX, hO, hv, ho, hhl, hc0, hg0, hl0, hc0'⟩ := hM.row hh
  refine ret_of Tryz.func74 rfl Tryz.ntmps74 rfl ?_
  refine c_seq (fun K1 hK1 => ?_)
  refine c_reg ?_ -- region 0 tablem.go:62
  refine wl_box rfl rfl (fun b5 w1 hbb5 h5 F1 => ?_)
  have hbsb5 := Nat.le_trans hF.size hbb5
  have hnetbb5 : tb < b5 := Nat.lt_of_lt_of_le hX.lt hbb5
  have hneg0b5 : g0 < b5 := Nat.lt_of_lt_of_le hO.lt hbb5
  replace hF := hF.thenDrew.thenN F1
  replace hX := F1.blkN hX
  replace hO := F1.blkN hO
  refine wl_new (ze_119) (fun b6 w2 hbb6 h6 F2 => ?_)
  have hbsb6 := Nat.le_trans hF.size hbb6
  have hnetbb6 : tb < b6 := Nat.lt_of_lt_of_le hX.lt hbb6
  have hneg0b6 : g0 < b6 := Nat.lt_of_lt_of_le hO.lt hbb6
  have hneb5b6 : b5 < b6 := Nat.lt_of_lt_of_le h5.lt hbb6
  replace hF := hF.thenDrew.thenN F2
  replace hX := F2.blkN hX
  replace hO := F2.blkN hO
  replace h5 := F2.blkN h5
  refine wl (ro_assign rfl) ?_
  refine wl_nil (x_then (hK1 _ _ ?_))
  clear hK1 K1
  refine c_seq (fun K2 hK2 => ?_)
  refine c_seq (fun K3 hK3 => ?_)
  refine c_reg ?_ -- region 1 tablem.go:63
  refine wl (ro_move rfl) ?_
  refine wl (ro_cmp (r := false) rfl rfl (congrArg some (decide_eq_false (by omega)))) ?_
  refine wl (ro_move rfl) ?_
  refine wlg_yes rfl (ro_move rfl) ?_
  refine wlg_yes rfl (ro_move rfl) ?_
  refine wlg_yes rfl (ro_nilCheck rfl) ?_
  refine wlg_yes rfl (ro_fieldAddr (k := 1) rfl fo_99_1) ?_
  refine wlg_yes rfl (ro_loadB rfl sc_97 (by assumption) rfl) ?_
  refine wlg_yes rfl (ro_lenL rfl se_97) ?_
  refine wlg_yes rfl (ro_cmp (r := false) rfl rfl (congrArg some (decide_eq_false (by omega)))) ?_
  refine wl (ro_pick rfl rfl rfl) ?_
  refine wl_nil (x_then (hK3 _ _ ?_))
  clear hK3 K3
  refine wc_condF rfl ?_
  refine c_skip (x_then (hK2 _ _ ?_))
  clear hK2 K2
  refine c_seq (fun K4 hK4 => ?_)
  refine c_seq (fun K5 hK5 => ?_)
  refine c_reg ?_ -- region 3 tablem.go:66
  refine wl (ro_loadAggB rfl ag_119 (by assumption) rfl rfl) ?_
  refine wl_call rfl en_51 (WF51 hk hN) ?_
  rintro _ w3 ⟨rfl, F3⟩
  replace hF := hF.thenDrew.thenN F3
  replace hX := F3.blkN hX
  replace hO := F3.blkN hO
  replace h5 := F3.blkN h5
  replace h6 := F3.blkN h6
  refine wl (ro_not rfl) ?_
  refine wl_nil (x_then (hK5 _ _ ?_))
  clear hK5 K5
  refine wc_condF rfl ?_
  refine c_skip (x_then (hK4 _ _ ?_))
  clear hK4 K4
  refine forget [(0, _), (1, _), (5, _), (6, _)] ⟨rfl, rfl, rfl, rfl, trivial⟩ (fun e => ?_)
  refine c_seq (fun K6 hK6 => ?_)
  refine c_reg ?_ -- region 5 tablem.go:69
  refine wl (ro_move rfl) ?_
  refine wl (ro_move rfl) ?_
  refine wl (ro_loadAggB rfl ag_119 (by assumption) rfl rfl) ?_
  refine wl_call rfl en_53 (find53 (hM.farN hF) hh) ?_
  rintro _ w4 ⟨rfl, F4⟩
  replace hF := hF.thenDrew.thenN F4
  replace hX := F4.blkN hX
  replace hO := F4.blkN hO
  replace h5 := F4.blkN h5
  replace h6 := F4.blkN h6
  refine wl (ro_assign rfl) ?_
  refine wl_nil (x_then (hK6 _ _ ?_))
  clear hK6 K6
  refine c_seq (fun K7 hK7 => ?_)
  refine c_seq (fun K8 hK8 => ?_)
  refine c_reg ?_ -- region 6 tablem.go:70
  refine wl (ro_move rfl) ?_
  refine wl (ro_cmp rfl rfl rfl) ?_
  refine wl_nil (x_then (hK8 _ _ ?_))
  clear hK8 K8
  refine wc_cond rfl (fun hc30 => ?_) (fun hc30 => ?_)
  · try simp only [decide_eq_true_eq, decide_eq_false_iff_not, Bool.not_eq_true', Bool.not_eq_false', Bool.not_eq_eq_eq_not, Bool.not_true, Bool.not_false, beq_iff_eq, bne_iff_ne, ne_eq, beq_eq_false_iff_ne, bne_eq_false_iff_eq, gt_iff_lt, ge_iff_le, Int.not_lt, Int.not_le] at hc30
    have hp := plc_neg hc30
    refine c_seq (fun K9 hK9 => ?_)
    refine c_reg ?_ -- region 7 tablem.go:71
    refine wl (ro_build rfl bld_119) ?_
    refine wl_puta rfl rfl ((by (try exact vlc_cells _); all_goals simp [Value.oneCell', i64c, icv, u64c, u8c, ptr, S])) sz_119 (rfl) h6 ((by simp)) (rfl) (fun w5 h6 F5 => ?_)
    replace hF := hF.thenDrew.thenO F5 (by first | exact .inr (by omega) | exact .inl rfl | exact .inl (by assumption) | assumption)
    replace hX := F5.blkO hX (by omega)
    replace hO := F5.blkO hO (by omega)
    replace h5 := F5.blkO h5 (by omega)
    refine wl (ro_assign rfl) ?_
    refine wl_nil (x_then (hK9 _ _ ?_))
    clear hK9 K9
    refine c_ret (x_thenR ?_)
    refine bq_ret (res2 Tryz.results74 (rv_c rfl ag_119 (h6) (rfl)) (rv_t rfl)) ?_
    exact ⟨by unfold tGet look; rw [hp]; rfl, hF⟩
  · try simp only [decide_eq_true_eq, decide_eq_false_iff_not, Bool.not_eq_true', Bool.not_eq_false', Bool.not_eq_eq_eq_not, Bool.not_true, Bool.not_false, beq_iff_eq, bne_iff_ne, ne_eq, beq_eq_false_iff_ne, bne_eq_false_iff_eq, gt_iff_lt, ge_iff_le, Int.not_lt, Int.not_le] at hc30
    obtain ⟨i, p, hp0, hp1, hp2⟩ := plc_pos hc30
    obtain ⟨g, l, rfl, hR, e1, e2, q1, q2, q3, q4, q5, q6⟩ := ho.elem hp2
    have hgl := hR.lt
    replace hR := hF.blkN hR
    refine c_skip (x_then (hK7 _ _ ?_))
    clear hK7 K7
    refine forget [(0, _), (1, _), (6, _), (8, _)] ⟨rfl, rfl, rfl, rfl, trivial⟩ (fun e => ?_)
    refine c_seq (fun K10 hK10 => ?_)
    refine c_reg ?_ -- region 8 tablem.go:73
    refine wl (ro_move rfl) ?_
    refine wl (ro_nilCheck rfl) ?_
    refine wl (ro_fieldAddr (k := 1) rfl fo_99_1) ?_
    refine wl (ro_loadB rfl sc_97 (by assumption) rfl) ?_
    refine wl (ro_move rfl) ?_
    refine wl (ro_indexAddr (et := 155) (k := 1) rfl rfl se_97 rfl (by omega)) ?_
    refine wl (ro_loadB rfl sc_155 (hO) (hv)) ?_
    refine wl (ro_move rfl) ?_
    refine wl (ro_indexAddr (et := 154) (k := 6) rfl rfl se_155 (hp1) ((by omega))) ?_
    refine wl (ro_fieldAddr (k := 3) rfl fo_154_1) ?_
    refine wl (ro_loadAggB rfl ag_119 (hR) (rfl) (e2)) ?_
    refine wl_puta rfl rfl ((pvc_one _)) sz_119 (rfl) h6 ((by simp)) (rfl) (fun w6 h6 F6 => ?_)
    replace hF := hF.thenDrew.thenO F6 (by first | exact .inr (by omega) | exact .inl rfl | exact .inl (by assumption) | assumption)
    replace hX := F6.blkO hX (by omega)
    replace hO := F6.blkO hO (by omega)
    replace h5 := F6.blkO h5 (by omega)
    replace hR := F6.blkO hR (by omega)
    refine wl (ro_assign rfl) ?_
    refine wl_nil (x_then (hK10 _ _ ?_))
    clear hK10 K10
    refine c_ret ?_
    refine bq_ret (res2 Tryz.results74 (rv_c rfl ag_119 (h6) (rfl)) (rv_t rfl)) ?_
    refine ⟨?_, hF⟩
    unfold tGet look
    rw [hp0]
    simp only [Option.bind_some, hp2]
    rfl
theorem row_cell3 {l cs : List Value} {o k j : Nat} {v : Value} (h : (l.drop o).take k = cs) (hv : cs[j]? = some v) : l[o + j]? = some v := by
  rw [← h, List.getElem?_take] at hv
  split at hv
  · rw [List.getElem?_drop] at hv; exact hv
  · cases hv
theorem live_drop {t : Tb} {i : Nat} {p : PV × PV} (h : t[i]? = some p) : live (t.drop i) = if p.2.T = 0 then live (t.drop (i + 1)) else p := by
  rw [List.drop_eq_getElem_cons (List.getElem?_eq_some_iff.1 h).1, (List.getElem?_eq_some_iff.1 h).2]
  rfl
/-- What Next answers: the pair, or the error. -/
def nxR (t : Tb) (k : PV) (v : Value) : Prop := match tNext t k with
  | some p => v = .tuple #[pv p.1, pv p.2, icv 0]
  | none => v = .tuple #[pv vNil, pv vNil, icv 7]
set_option maxHeartbeats 4000000 in
theorem Next68 {w : World} {ow : Nat → Nat} {np : Value} {tb h : Nat} {T : List Tb} {t : Tb} {k : PV} (hM : MTV w ow np tb T) (hh : T[h]? = some t) (hk : wfV k = true) (hN : W64 k.N) : Ret Tryz.prog 68 [ptr tb, i64c h, pv k] w (fun r w' => nxR t k r ∧ Fram none' w w') := by
  have hF : Fram none' w w := Fram.refl _ _
  obtain ⟨g0, cap0, l0, a, cap, hX0, hO0, hv, ho, hhl, hc0, hg0, hl0, hc0'⟩ := hM.row hh
  have hX := hX0
  have hO := hO0
  have hXl := hX.lt
  have hOl := hO.lt
  refine ret_of Tryz.func68 rfl Tryz.ntmps68 rfl ?_
  refine c_seq (fun K1 hK1 => ?_)
  refine c_reg ?_ -- region 0 tablem.go:112
  refine wl_box rfl rfl (fun b5 w1 hbb5 h5 F1 => ?_)
  have hbsb5 := Nat.le_trans hF.size hbb5
  have hnetbb5 : tb < b5 := Nat.lt_of_lt_of_le hX.lt hbb5
  have hneg0b5 : g0 < b5 := Nat.lt_of_lt_of_le hO.lt hbb5
  replace hF := hF.thenDrew.thenN F1
  replace hX := F1.blkN hX
  replace hO := F1.blkN hO
  refine wl_new (ze_119) (fun b6 w2 hbb6 h6 F2 => ?_)
  have hbsb6 := Nat.le_trans hF.size hbb6
  have hnetbb6 : tb < b6 := Nat.lt_of_lt_of_le hX.lt hbb6
  have hneg0b6 : g0 < b6 := Nat.lt_of_lt_of_le hO.lt hbb6
  have hneb5b6 : b5 < b6 := Nat.lt_of_lt_of_le h5.lt hbb6
  replace hF := hF.thenDrew.thenN F2
  replace hX := F2.blkN hX
  replace hO := F2.blkN hO
  replace h5 := F2.blkN h5
  refine wl_new (ze_119) (fun b7 w3 hbb7 h7 F3 => ?_)
  have hbsb7 := Nat.le_trans hF.size hbb7
  have hnetbb7 : tb < b7 := Nat.lt_of_lt_of_le hX.lt hbb7
  have hneg0b7 : g0 < b7 := Nat.lt_of_lt_of_le hO.lt hbb7
  have hneb5b7 : b5 < b7 := Nat.lt_of_lt_of_le h5.lt hbb7
  have hneb6b7 : b6 < b7 := Nat.lt_of_lt_of_le h6.lt hbb7
  replace hF := hF.thenDrew.thenN F3
  replace hX := F3.blkN hX
  replace hO := F3.blkN hO
  replace h5 := F3.blkN h5
  replace h6 := F3.blkN h6
  refine wl (ro_assign rfl) ?_
  refine wl_nil (x_then (hK1 _ _ ?_))
  clear hK1 K1
  refine c_seq (fun K2 hK2 => ?_)
  refine c_seq (fun K3 hK3 => ?_)
  refine c_reg ?_ -- region 1 tablem.go:113
  refine wl (ro_move rfl) ?_
  refine wl (ro_cmp (r := false) rfl rfl (congrArg some (decide_eq_false (by omega)))) ?_
  refine wl (ro_move rfl) ?_
  refine wlg_yes rfl (ro_move rfl) ?_
  refine wlg_yes rfl (ro_move rfl) ?_
  refine wlg_yes rfl (ro_nilCheck rfl) ?_
  refine wlg_yes rfl (ro_fieldAddr (k := 1) rfl fo_99_1) ?_
  refine wlg_yes rfl (ro_loadB rfl sc_97 (by assumption) rfl) ?_
  refine wlg_yes rfl (ro_lenL rfl se_97) ?_
  refine wlg_yes rfl (ro_cmp (r := false) rfl rfl (congrArg some (decide_eq_false (by omega)))) ?_
  refine wl (ro_pick rfl rfl rfl) ?_
  refine wl_nil (x_then (hK3 _ _ ?_))
  clear hK3 K3
  refine wc_condF rfl ?_
  refine c_skip (x_then (hK2 _ _ ?_))
  clear hK2 K2
  refine c_seq (fun K4 hK4 => ?_)
  refine c_seq (fun K5 hK5 => ?_)
  refine c_reg ?_ -- region 3 tablem.go:116
  refine wl (ro_loadAggB rfl ag_119 (by assumption) rfl rfl) ?_
  refine wl_call rfl en_51 (WF51 hk hN) ?_
  rintro _ w4 ⟨rfl, F4⟩
  replace hF := hF.thenDrew.thenN F4
  replace hX := F4.blkN hX
  replace hO := F4.blkN hO
  replace h5 := F4.blkN h5
  replace h6 := F4.blkN h6
  replace h7 := F4.blkN h7
  refine wl (ro_not rfl) ?_
  refine wl_nil (x_then (hK5 _ _ ?_))
  clear hK5 K5
  refine wc_condF rfl ?_
  refine c_skip (x_then (hK4 _ _ ?_))
  clear hK4 K4
  refine forget [(0, _), (1, _), (5, _), (6, _), (7, _)] ⟨rfl, rfl, rfl, rfl, rfl, trivial⟩ (fun e => ?_)
  refine c_seq (fun K6 hK6 => ?_)
  refine c_reg ?_ -- region 5 tablem.go:119
  refine wl (ro_assign rfl) ?_
  refine wl_nil (x_then (hK6 _ _ ?_))
  clear hK6 K6
  refine c_seq (fun K7 hK7 => ?_)
  refine c_seq (fun K8 hK8 => ?_)
  refine c_reg ?_ -- region 6 tablem.go:120
  refine wl (ro_fieldAddr (k := 0) rfl fo_119_0) ?_
  refine wl (ro_loadB rfl sc_3 (by assumption) rfl) ?_
  refine wl (ro_cmp rfl rfl rfl) ?_
  refine wl_nil (x_then (hK8 _ _ ?_))
  clear hK8 K8
  refine wc_cond rfl (fun hc31 => ?_) (fun hc31 => ?_)
  · try simp only [decide_eq_true_eq, decide_eq_false_iff_not, Bool.not_eq_true', Bool.not_eq_false', Bool.not_eq_eq_eq_not, Bool.not_true, Bool.not_false, beq_iff_eq, bne_iff_ne, ne_eq, beq_eq_false_iff_ne, bne_eq_false_iff_eq, gt_iff_lt, ge_iff_le, Int.not_lt, Int.not_le] at hc31
    refine c_seq (fun K9 hK9 => ?_)
    refine c_reg ?_ -- region 7 tablem.go:121
    refine wl (ro_move rfl) ?_
    refine wl (ro_move rfl) ?_
    refine wl (ro_loadAggB rfl ag_119 (by assumption) rfl rfl) ?_
    refine wl_call rfl en_53 (find53 (hM.farN hF) hh) ?_
    rintro _ w5 ⟨rfl, F5⟩
    replace hF := hF.thenDrew.thenN F5
    replace hX := F5.blkN hX
    replace hO := F5.blkN hO
    replace h5 := F5.blkN h5
    replace h6 := F5.blkN h6
    replace h7 := F5.blkN h7
    refine wl (ro_assign rfl) ?_
    refine wl_nil (x_then (hK9 _ _ ?_))
    clear hK9 K9
    refine forget [(0, _), (1, _), (6, _), (7, _), (9, _)] ⟨rfl, rfl, rfl, rfl, rfl, trivial⟩ (fun e => ?_)
    refine c_seq (fun K10 hK10 => ?_)
    refine c_reg ?_ -- region 8 tablem.go:122
    refine wl (ro_move rfl) ?_
    refine wl (ro_cmp rfl rfl rfl) ?_
    refine wl_nil (x_then (hK10 _ _ ?_))
    clear hK10 K10
    refine wc_cond rfl (fun hc37 => ?_) (fun hc37 => ?_)
    · try simp only [decide_eq_true_eq, decide_eq_false_iff_not, Bool.not_eq_true', Bool.not_eq_false', Bool.not_eq_eq_eq_not, Bool.not_true, Bool.not_false, beq_iff_eq, bne_iff_ne, ne_eq, beq_eq_false_iff_ne, bne_eq_false_iff_eq, gt_iff_lt, ge_iff_le, Int.not_lt, Int.not_le] at hc37
      have hp := plc_neg hc37
      refine c_seq (fun K11 hK11 => ?_)
      refine c_reg ?_ -- region 9 tablem.go:123
      refine wl (ro_build rfl bld_119) ?_
      refine wl (ro_build rfl bld_119) ?_
      refine wl_puta rfl rfl ((by (try exact vlc_cells _); all_goals simp [Value.oneCell', i64c, icv, u64c, u8c, ptr, S])) sz_119 (rfl) h6 ((by simp)) (rfl) (fun w6 h6 F6 => ?_)
      replace hF := hF.thenDrew.thenO F6 (by first | exact .inr (by omega) | exact .inl rfl | exact .inl (by assumption) | assumption)
      replace hX := F6.blkO hX (by omega)
      replace hO := F6.blkO hO (by omega)
      replace h5 := F6.blkO h5 (by omega)
      replace h7 := F6.blkO h7 (by omega)
      refine wl_puta rfl rfl ((by (try exact vlc_cells _); all_goals simp [Value.oneCell', i64c, icv, u64c, u8c, ptr, S])) sz_119 (rfl) h7 ((by simp)) (rfl) (fun w7 h7 F7 => ?_)
      replace hF := hF.thenDrew.thenO F7 (by first | exact .inr (by omega) | exact .inl rfl | exact .inl (by assumption) | assumption)
      replace hX := F7.blkO hX (by omega)
      replace hO := F7.blkO hO (by omega)
      replace h5 := F7.blkO h5 (by omega)
      replace h6 := F7.blkO h6 (by omega)
      refine wl (ro_assign rfl) ?_
      refine wl_nil (x_then (hK11 _ _ ?_))
      clear hK11 K11
      refine c_ret (x_thenR ?_)
      refine bq_ret (res3 Tryz.results68 (rv_c rfl ag_119 (h6) (rfl)) (rv_c rfl ag_119 (h7) (rfl)) (rv_t rfl)) ?_
      exact ⟨by unfold nxR tNext; rw [if_neg (by omega), hp]; rfl, hF⟩
    · try simp only [decide_eq_true_eq, decide_eq_false_iff_not, Bool.not_eq_true', Bool.not_eq_false', Bool.not_eq_eq_eq_not, Bool.not_true, Bool.not_false, beq_iff_eq, bne_iff_ne, ne_eq, beq_eq_false_iff_ne, bne_eq_false_iff_eq, gt_iff_lt, ge_iff_le, Int.not_lt, Int.not_le] at hc37
      obtain ⟨i, p, hp0, hp1, hp2⟩ := plc_pos hc37
      have hil := (List.getElem?_eq_some_iff.1 hp2).1
      have h32 := (hM.ok h t hh).len
      rw [hp1]
      have hst : ∃ j, j ≤ t.length ∧ ((i : Int) + 1 = (j : Int)) ∧ tNext t k = some (live (t.drop j)) := ⟨i + 1, by omega, by omega, by unfold tNext; rw [if_neg (by omega), hp0]; rfl⟩
      refine c_skip (x_then (hK7 _ _ ?_))
      clear hK7 K7
      refine c_seq (fun K12 hK12 => ?_)
      refine c_seq (fun K13 hK13 => ?_)
      obtain ⟨j0, hj0, hj1, hj2⟩ := hst
      refine c_reg ?_ -- region 10 tablem.go:126
      refine wl (ro_move rfl) ?_
      refine wl (ro_arith (r := (j0 : Int)) rfl rfl (congrArg some hj1) (Go.IntWalk.i64_in _ (by omega))) ?_
      refine wl (ro_assign rfl) ?_
      refine wl_nil (x_then (hK13 _ _ ?_))
      clear hK13 K13
      refine c_block ?_
      -- loop@r11: live slots [0, 1, 6, 7, 10]
      refine c_loopG (fun m a' w' => ∃ j, m = t.length - j ∧ j ≤ t.length ∧ tNext t k = some (live (t.drop j)) ∧ Blk w'.heap b6 (pvc vNil) 119 ∧ Blk w'.heap b7 (pvc vNil) 119 ∧ Fram none' w w' ∧ ∃ e, a' = Fr 91 (upds e [(0, ptr tb), (1, i64c h), (6, ptr b6), (7, ptr b7), (10, i64c j)]) []) (t.length - j0) ⟨j0, rfl, hj0, hj2, h6, h7, hF, kp _ ⟨rfl, rfl, rfl, rfl, rfl, trivial⟩⟩ ?_
      clear h5 h6 h7 hF hX hO
      rintro m a' u1 ⟨j, rfl, hj, hjn, h6, h7, hF, e, rfl⟩
      have hX := hF.blkN hX0
      have hO := hF.blkN hO0
      refine c_seq (fun K14 hK14 => ?_)
      refine c_seq (fun K15 hK15 => ?_)
      refine c_reg ?_ -- region 11 tablem.go:126
      refine wl (ro_move rfl) ?_
      refine wl (ro_move rfl) ?_
      refine wl (ro_nilCheck rfl) ?_
      refine wl (ro_fieldAddr (k := 1) rfl fo_99_1) ?_
      refine wl (ro_loadB rfl sc_97 (by assumption) rfl) ?_
      refine wl (ro_move rfl) ?_
      refine wl (ro_indexAddr (et := 155) (k := 1) rfl rfl se_97 rfl (by omega)) ?_
      refine wl (ro_loadB rfl sc_155 (hO) (hv)) ?_
      refine wl (ro_lenL rfl se_155) ?_
      refine wl (ro_cmp rfl rfl rfl) ?_
      refine wl_nil (x_then (hK15 _ _ ?_))
      clear hK15 K15
      refine wc_cond rfl (fun hc51 => ?_) (fun hc51 => ?_)
      · try simp only [decide_eq_true_eq, decide_eq_false_iff_not, Bool.not_eq_true', Bool.not_eq_false', Bool.not_eq_eq_eq_not, Bool.not_true, Bool.not_false, beq_iff_eq, bne_iff_ne, ne_eq, beq_eq_false_iff_ne, bne_eq_false_iff_eq, gt_iff_lt, ge_iff_le, Int.not_lt, Int.not_le] at hc51
        obtain ⟨p, hp⟩ : ∃ p, t[j]? = some p := ⟨_, List.getElem?_eq_getElem (by omega)⟩
        obtain ⟨g, l, rfl, hR, e1, e2, _⟩ := ho.elem hp
        have hRl := hR.lt
        replace hR := hF.blkN hR
        have ed := live_drop hp
        refine c_skip (x_then (hK14 _ _ ?_))
        clear hK14 K14
        refine forget [(0, _), (1, _), (6, _), (7, _), (10, _)] ⟨rfl, rfl, rfl, rfl, rfl, trivial⟩ (fun e => ?_)
        refine c_seq (fun K16 hK16 => ?_)
        refine c_block ?_
        refine c_seq (fun K17 hK17 => ?_)
        refine c_reg ?_ -- region 13 tablem.go:127
        refine wl (ro_move rfl) ?_
        refine wl (ro_nilCheck rfl) ?_
        refine wl (ro_fieldAddr (k := 1) rfl fo_99_1) ?_
        refine wl (ro_loadB rfl sc_97 (by assumption) rfl) ?_
        refine wl (ro_move rfl) ?_
        refine wl (ro_indexAddr (et := 155) (k := 1) rfl rfl se_97 rfl (by omega)) ?_
        refine wl (ro_loadB rfl sc_155 (hO) (hv)) ?_
        refine wl (ro_move rfl) ?_
        refine wl (ro_indexAddr (et := 154) (k := 6) rfl rfl se_155 rfl (by omega)) ?_
        refine wl (ro_fieldAddr (k := 3) rfl fo_154_1) ?_
        refine wl (ro_fieldAddr (k := 0) rfl fo_119_0) ?_
        refine wl (ro_loadB rfl sc_3 (hR) ((row_cell3 e2 rfl))) ?_
        refine wl (ro_cmp rfl rfl rfl) ?_
        refine wl_nil (x_then (hK17 _ _ ?_))
        clear hK17 K17
        refine wc_cond rfl (fun hc66 => ?_) (fun hc66 => ?_)
        · try simp only [decide_eq_true_eq, decide_eq_false_iff_not, Bool.not_eq_true', Bool.not_eq_false', Bool.not_eq_eq_eq_not, Bool.not_true, Bool.not_false, beq_iff_eq, bne_iff_ne, ne_eq, beq_eq_false_iff_ne, bne_eq_false_iff_eq, gt_iff_lt, ge_iff_le, Int.not_lt, Int.not_le] at hc66
          refine c_seq (fun K18 hK18 => ?_)
          refine c_pi [(0, false), (1, false), (2, false), (3, false), (4, false), (5, false), (6, false), (7, false), (8, false), (9, false), (10, false), (11, false), (12, false), (13, false), (14, false), (15, false), (16, false), (17, false), (18, false), (19, false), (20, false), (21, false), (22, true), (23, true), (24, false)] (fun w => Blk w.heap tb [np, .slice (some ⟨g0, 0, none⟩) T.length cap0] 99 ∧ Blk w.heap g0 l0 155 ∧ Blk w.heap g l 154) mixed (by kernel_rfl) rfl (by kernel_rfl) (po_then (po_blk (po_then (po_then (po_blk (po_then (po_bp))))))) (⟨hX, hO, hR⟩) ?_ -- region 14 tablem.go:128
          refine pi_ro rfl (fun w hS => ro_move rfl) ?_
          refine pi_ro rfl (fun w hS => ro_nilCheck rfl) ?_
          refine pi_ro rfl (fun w hS => ro_fieldAddr (k := 1) rfl fo_99_1) ?_
          refine pi_ro rfl (fun w hS => ro_loadB rfl sc_97 (hS.1) rfl) ?_
          refine pi_ro rfl (fun w hS => ro_move rfl) ?_
          refine pi_ro rfl (fun w hS => ro_indexAddr (et := 155) (k := 1) rfl rfl se_97 rfl (by omega)) ?_
          refine pi_ro rfl (fun w hS => ro_loadB rfl sc_155 (hS.2.1) (hv)) ?_
          refine pi_ro rfl (fun w hS => ro_move rfl) ?_
          refine pi_ro rfl (fun w hS => ro_indexAddr (et := 154) (k := 6) rfl rfl se_155 rfl (by omega)) ?_
          refine pi_ro rfl (fun w hS => ro_fieldAddr (k := 0) rfl fo_154_0) ?_
          refine pi_ro rfl (fun w hS => ro_loadAggB rfl ag_119 (hS.2.2) (rfl) (e1)) ?_
          refine pi_ro rfl (fun w hS => ro_move rfl) ?_
          refine pi_ro rfl (fun w hS => ro_nilCheck rfl) ?_
          refine pi_ro rfl (fun w hS => ro_fieldAddr (k := 1) rfl fo_99_1) ?_
          refine pi_ro rfl (fun w hS => ro_loadB rfl sc_97 (hS.1) rfl) ?_
          refine pi_ro rfl (fun w hS => ro_move rfl) ?_
          refine pi_ro rfl (fun w hS => ro_indexAddr (et := 155) (k := 1) rfl rfl se_97 rfl (by omega)) ?_
          refine pi_ro rfl (fun w hS => ro_loadB rfl sc_155 (hS.2.1) (hv)) ?_
          refine pi_ro rfl (fun w hS => ro_move rfl) ?_
          refine pi_ro rfl (fun w hS => ro_indexAddr (et := 154) (k := 6) rfl rfl se_155 rfl (by omega)) ?_
          refine pi_ro rfl (fun w hS => ro_fieldAddr (k := 3) rfl fo_154_1) ?_
          refine pi_ro rfl (fun w hS => ro_loadAggB rfl ag_119 (hS.2.2) (rfl) (e2)) ?_
          refine pi_putam rfl rfl rfl ((pvc_one _)) sz_119 (rfl) h6 ((by simp)) (rfl) (fun w1 hB1 F ↦ ⟨F.blkO hX (by omega), F.blkO hO (by omega), F.blkO hR (by omega)⟩) (fun w8 h6 F8 => ?_)
          replace hF := hF.thenDrew.thenO F8 (by first | exact .inr (by omega) | exact .inl rfl | exact .inl (by assumption) | assumption)
          replace h7 := F8.blkO h7 (by omega)
          replace hX := F8.blkO hX (by omega)
          replace hO := F8.blkO hO (by omega)
          replace hR := F8.blkO hR (by omega)
          refine pi_putam rfl rfl rfl ((pvc_one _)) sz_119 (rfl) h7 ((by simp)) (rfl) (fun w1 hB1 F ↦ ⟨F.blkO hX (by omega), F.blkO hO (by omega), F.blkO hR (by omega)⟩) (fun w9 h7 F9 => ?_)
          replace hF := hF.thenDrew.thenO F9 (by first | exact .inr (by omega) | exact .inl rfl | exact .inl (by assumption) | assumption)
          replace h6 := F9.blkO h6 (by omega)
          replace hX := F9.blkO hX (by omega)
          replace hO := F9.blkO hO (by omega)
          replace hR := F9.blkO hR (by omega)
          refine pi_ro rfl (fun w hS => ro_assign rfl) ?_
          refine pi_nil (x_then (hK18 _ _ ?_))
          clear hK18 K18
          refine c_ret (x_blkR (x_thenR (x_thenR (x_blkR (x_thenR ?_)))))
          refine bq_ret (res3 Tryz.results68 (rv_c rfl ag_119 (h6) (rfl)) (rv_c rfl ag_119 (h7) (rfl)) (rv_t rfl)) ?_
          refine ⟨?_, hF⟩
          unfold nxR
          rw [hjn, ed, if_neg (by omega)]
          rfl
        · try simp only [decide_eq_true_eq, decide_eq_false_iff_not, Bool.not_eq_true', Bool.not_eq_false', Bool.not_eq_eq_eq_not, Bool.not_true, Bool.not_false, beq_iff_eq, bne_iff_ne, ne_eq, beq_eq_false_iff_ne, bne_eq_false_iff_eq, gt_iff_lt, ge_iff_le, Int.not_lt, Int.not_le] at hc66
          refine c_skip (x_blk (x_then (hK16 _ _ ?_)))
          clear hK16 K16
          refine c_reg ?_ -- region 12 tablem.go:126
          refine wl (ro_move rfl) ?_
          refine wl (ro_arith rfl rfl rfl (Go.IntWalk.i64_in _ (by omega))) ?_
          refine wl (ro_assign rfl) ?_
          refine wl_nil (x_then ?_)
          refine ⟨t.length - (j + 1), by omega, j + 1, rfl, by omega, ?_, h6, h7, hF, kp _ ⟨rfl, rfl, rfl, rfl, rfl, trivial⟩⟩
          rw [hjn, ed, if_pos (by omega)]
      · try simp only [decide_eq_true_eq, decide_eq_false_iff_not, Bool.not_eq_true', Bool.not_eq_false', Bool.not_eq_eq_eq_not, Bool.not_true, Bool.not_false, beq_iff_eq, bne_iff_ne, ne_eq, beq_eq_false_iff_ne, bne_eq_false_iff_eq, gt_iff_lt, ge_iff_le, Int.not_lt, Int.not_le] at hc51
        refine c_exit (x_thenX (x_thenX (x_blkX (x_then (hK12 _ _ ?_)))))
        clear hK14 K14 hK12 K12
        refine forget [(6, _), (7, _)] ⟨rfl, rfl, trivial⟩ (fun e => ?_)
        refine c_seq (fun K19 hK19 => ?_)
        refine c_reg ?_ -- region 15 tablem.go:131
        refine wl (ro_build rfl bld_119) ?_
        refine wl (ro_build rfl bld_119) ?_
        refine wl_puta rfl rfl ((by (try exact vlc_cells _); all_goals simp [Value.oneCell', i64c, icv, u64c, u8c, ptr, S])) sz_119 (rfl) h6 ((by simp)) (rfl) (fun w10 h6 F10 => ?_)
        replace hF := hF.thenDrew.thenO F10 (by first | exact .inr (by omega) | exact .inl rfl | exact .inl (by assumption) | assumption)
        replace h7 := F10.blkO h7 (by omega)
        replace hX := F10.blkO hX (by omega)
        replace hO := F10.blkO hO (by omega)
        refine wl_puta rfl rfl ((by (try exact vlc_cells _); all_goals simp [Value.oneCell', i64c, icv, u64c, u8c, ptr, S])) sz_119 (rfl) h7 ((by simp)) (rfl) (fun w11 h7 F11 => ?_)
        replace hF := hF.thenDrew.thenO F11 (by first | exact .inr (by omega) | exact .inl rfl | exact .inl (by assumption) | assumption)
        replace h6 := F11.blkO h6 (by omega)
        replace hX := F11.blkO hX (by omega)
        replace hO := F11.blkO hO (by omega)
        refine wl (ro_assign rfl) ?_
        refine wl_nil (x_then (hK19 _ _ ?_))
        clear hK19 K19
        refine c_ret ?_
        refine bq_ret (res3 Tryz.results68 (rv_c rfl ag_119 (h6) (rfl)) (rv_c rfl ag_119 (h7) (rfl)) (rv_t rfl)) ?_
        refine ⟨?_, hF⟩
        unfold nxR
        rw [hjn, List.drop_eq_nil_of_le (by omega)]
        rfl
  · try simp only [decide_eq_true_eq, decide_eq_false_iff_not, Bool.not_eq_true', Bool.not_eq_false', Bool.not_eq_eq_eq_not, Bool.not_true, Bool.not_false, beq_iff_eq, bne_iff_ne, ne_eq, beq_eq_false_iff_ne, bne_eq_false_iff_eq, gt_iff_lt, ge_iff_le, Int.not_lt, Int.not_le] at hc31
    have hst : ∃ j, j ≤ t.length ∧ ((-1 : Int) + 1 = (j : Int)) ∧ tNext t k = some (live (t.drop j)) := ⟨0, by omega, by omega, by unfold tNext; rw [if_pos (by omega)]; rfl⟩
    refine c_skip (x_then (hK7 _ _ ?_))
    clear hK7 K7
    refine c_seq (fun K20 hK20 => ?_)
    refine c_seq (fun K21 hK21 => ?_)
    obtain ⟨j0, hj0, hj1, hj2⟩ := hst
    refine c_reg ?_ -- region 10 tablem.go:126
    refine wl (ro_move rfl) ?_
    refine wl (ro_arith (r := (j0 : Int)) rfl rfl (congrArg some hj1) (Go.IntWalk.i64_in _ (by omega))) ?_
    refine wl (ro_assign rfl) ?_
    refine wl_nil (x_then (hK21 _ _ ?_))
    clear hK21 K21
    refine c_block ?_
    -- loop@r11: live slots [0, 1, 6, 7, 10]
    refine c_loopG (fun m a' w' => ∃ j, m = t.length - j ∧ j ≤ t.length ∧ tNext t k = some (live (t.drop j)) ∧ Blk w'.heap b6 (pvc vNil) 119 ∧ Blk w'.heap b7 (pvc vNil) 119 ∧ Fram none' w w' ∧ ∃ e, a' = Fr 91 (upds e [(0, ptr tb), (1, i64c h), (6, ptr b6), (7, ptr b7), (10, i64c j)]) []) (t.length - j0) ⟨j0, rfl, hj0, hj2, h6, h7, hF, kp _ ⟨rfl, rfl, rfl, rfl, rfl, trivial⟩⟩ ?_
    clear h5 h6 h7 hF hX hO
    rintro m a' u1 ⟨j, rfl, hj, hjn, h6, h7, hF, e, rfl⟩
    have hX := hF.blkN hX0
    have hO := hF.blkN hO0
    refine c_seq (fun K22 hK22 => ?_)
    refine c_seq (fun K23 hK23 => ?_)
    refine c_reg ?_ -- region 11 tablem.go:126
    refine wl (ro_move rfl) ?_
    refine wl (ro_move rfl) ?_
    refine wl (ro_nilCheck rfl) ?_
    refine wl (ro_fieldAddr (k := 1) rfl fo_99_1) ?_
    refine wl (ro_loadB rfl sc_97 (by assumption) rfl) ?_
    refine wl (ro_move rfl) ?_
    refine wl (ro_indexAddr (et := 155) (k := 1) rfl rfl se_97 rfl (by omega)) ?_
    refine wl (ro_loadB rfl sc_155 (hO) (hv)) ?_
    refine wl (ro_lenL rfl se_155) ?_
    refine wl (ro_cmp rfl rfl rfl) ?_
    refine wl_nil (x_then (hK23 _ _ ?_))
    clear hK23 K23
    refine wc_cond rfl (fun hc51 => ?_) (fun hc51 => ?_)
    · try simp only [decide_eq_true_eq, decide_eq_false_iff_not, Bool.not_eq_true', Bool.not_eq_false', Bool.not_eq_eq_eq_not, Bool.not_true, Bool.not_false, beq_iff_eq, bne_iff_ne, ne_eq, beq_eq_false_iff_ne, bne_eq_false_iff_eq, gt_iff_lt, ge_iff_le, Int.not_lt, Int.not_le] at hc51
      obtain ⟨p, hp⟩ : ∃ p, t[j]? = some p := ⟨_, List.getElem?_eq_getElem (by omega)⟩
      obtain ⟨g, l, rfl, hR, e1, e2, _⟩ := ho.elem hp
      have hRl := hR.lt
      replace hR := hF.blkN hR
      have ed := live_drop hp
      refine c_skip (x_then (hK22 _ _ ?_))
      clear hK22 K22
      refine forget [(0, _), (1, _), (6, _), (7, _), (10, _)] ⟨rfl, rfl, rfl, rfl, rfl, trivial⟩ (fun e => ?_)
      refine c_seq (fun K24 hK24 => ?_)
      refine c_block ?_
      refine c_seq (fun K25 hK25 => ?_)
      refine c_reg ?_ -- region 13 tablem.go:127
      refine wl (ro_move rfl) ?_
      refine wl (ro_nilCheck rfl) ?_
      refine wl (ro_fieldAddr (k := 1) rfl fo_99_1) ?_
      refine wl (ro_loadB rfl sc_97 (by assumption) rfl) ?_
      refine wl (ro_move rfl) ?_
      refine wl (ro_indexAddr (et := 155) (k := 1) rfl rfl se_97 rfl (by omega)) ?_
      refine wl (ro_loadB rfl sc_155 (hO) (hv)) ?_
      refine wl (ro_move rfl) ?_
      refine wl (ro_indexAddr (et := 154) (k := 6) rfl rfl se_155 rfl (by omega)) ?_
      refine wl (ro_fieldAddr (k := 3) rfl fo_154_1) ?_
      refine wl (ro_fieldAddr (k := 0) rfl fo_119_0) ?_
      refine wl (ro_loadB rfl sc_3 (hR) ((row_cell3 e2 rfl))) ?_
      refine wl (ro_cmp rfl rfl rfl) ?_
      refine wl_nil (x_then (hK25 _ _ ?_))
      clear hK25 K25
      refine wc_cond rfl (fun hc66 => ?_) (fun hc66 => ?_)
      · try simp only [decide_eq_true_eq, decide_eq_false_iff_not, Bool.not_eq_true', Bool.not_eq_false', Bool.not_eq_eq_eq_not, Bool.not_true, Bool.not_false, beq_iff_eq, bne_iff_ne, ne_eq, beq_eq_false_iff_ne, bne_eq_false_iff_eq, gt_iff_lt, ge_iff_le, Int.not_lt, Int.not_le] at hc66
        refine c_seq (fun K26 hK26 => ?_)
        refine c_pi [(0, false), (1, false), (2, false), (3, false), (4, false), (5, false), (6, false), (7, false), (8, false), (9, false), (10, false), (11, false), (12, false), (13, false), (14, false), (15, false), (16, false), (17, false), (18, false), (19, false), (20, false), (21, false), (22, true), (23, true), (24, false)] (fun w => Blk w.heap tb [np, .slice (some ⟨g0, 0, none⟩) T.length cap0] 99 ∧ Blk w.heap g0 l0 155 ∧ Blk w.heap g l 154) mixed (by kernel_rfl) rfl (by kernel_rfl) (po_then (po_blk (po_then (po_then (po_blk (po_then (po_bp))))))) (⟨hX, hO, hR⟩) ?_ -- region 14 tablem.go:128
        refine pi_ro rfl (fun w hS => ro_move rfl) ?_
        refine pi_ro rfl (fun w hS => ro_nilCheck rfl) ?_
        refine pi_ro rfl (fun w hS => ro_fieldAddr (k := 1) rfl fo_99_1) ?_
        refine pi_ro rfl (fun w hS => ro_loadB rfl sc_97 (hS.1) rfl) ?_
        refine pi_ro rfl (fun w hS => ro_move rfl) ?_
        refine pi_ro rfl (fun w hS => ro_indexAddr (et := 155) (k := 1) rfl rfl se_97 rfl (by omega)) ?_
        refine pi_ro rfl (fun w hS => ro_loadB rfl sc_155 (hS.2.1) (hv)) ?_
        refine pi_ro rfl (fun w hS => ro_move rfl) ?_
        refine pi_ro rfl (fun w hS => ro_indexAddr (et := 154) (k := 6) rfl rfl se_155 rfl (by omega)) ?_
        refine pi_ro rfl (fun w hS => ro_fieldAddr (k := 0) rfl fo_154_0) ?_
        refine pi_ro rfl (fun w hS => ro_loadAggB rfl ag_119 (hS.2.2) (rfl) (e1)) ?_
        refine pi_ro rfl (fun w hS => ro_move rfl) ?_
        refine pi_ro rfl (fun w hS => ro_nilCheck rfl) ?_
        refine pi_ro rfl (fun w hS => ro_fieldAddr (k := 1) rfl fo_99_1) ?_
        refine pi_ro rfl (fun w hS => ro_loadB rfl sc_97 (hS.1) rfl) ?_
        refine pi_ro rfl (fun w hS => ro_move rfl) ?_
        refine pi_ro rfl (fun w hS => ro_indexAddr (et := 155) (k := 1) rfl rfl se_97 rfl (by omega)) ?_
        refine pi_ro rfl (fun w hS => ro_loadB rfl sc_155 (hS.2.1) (hv)) ?_
        refine pi_ro rfl (fun w hS => ro_move rfl) ?_
        refine pi_ro rfl (fun w hS => ro_indexAddr (et := 154) (k := 6) rfl rfl se_155 rfl (by omega)) ?_
        refine pi_ro rfl (fun w hS => ro_fieldAddr (k := 3) rfl fo_154_1) ?_
        refine pi_ro rfl (fun w hS => ro_loadAggB rfl ag_119 (hS.2.2) (rfl) (e2)) ?_
        refine pi_putam rfl rfl rfl ((pvc_one _)) sz_119 (rfl) h6 ((by simp)) (rfl) (fun w1 hB1 F ↦ ⟨F.blkO hX (by omega), F.blkO hO (by omega), F.blkO hR (by omega)⟩) (fun w12 h6 F12 => ?_)
        replace hF := hF.thenDrew.thenO F12 (by first | exact .inr (by omega) | exact .inl rfl | exact .inl (by assumption) | assumption)
        replace h7 := F12.blkO h7 (by omega)
        replace hX := F12.blkO hX (by omega)
        replace hO := F12.blkO hO (by omega)
        replace hR := F12.blkO hR (by omega)
        refine pi_putam rfl rfl rfl ((pvc_one _)) sz_119 (rfl) h7 ((by simp)) (rfl) (fun w1 hB1 F ↦ ⟨F.blkO hX (by omega), F.blkO hO (by omega), F.blkO hR (by omega)⟩) (fun w13 h7 F13 => ?_)
        replace hF := hF.thenDrew.thenO F13 (by first | exact .inr (by omega) | exact .inl rfl | exact .inl (by assumption) | assumption)
        replace h6 := F13.blkO h6 (by omega)
        replace hX := F13.blkO hX (by omega)
        replace hO := F13.blkO hO (by omega)
        replace hR := F13.blkO hR (by omega)
        refine pi_ro rfl (fun w hS => ro_assign rfl) ?_
        refine pi_nil (x_then (hK26 _ _ ?_))
        clear hK26 K26
        refine c_ret (x_blkR (x_thenR (x_thenR (x_blkR (x_thenR ?_)))))
        refine bq_ret (res3 Tryz.results68 (rv_c rfl ag_119 (h6) (rfl)) (rv_c rfl ag_119 (h7) (rfl)) (rv_t rfl)) ?_
        refine ⟨?_, hF⟩
        unfold nxR
        rw [hjn, ed, if_neg (by omega)]
        rfl
      · try simp only [decide_eq_true_eq, decide_eq_false_iff_not, Bool.not_eq_true', Bool.not_eq_false', Bool.not_eq_eq_eq_not, Bool.not_true, Bool.not_false, beq_iff_eq, bne_iff_ne, ne_eq, beq_eq_false_iff_ne, bne_eq_false_iff_eq, gt_iff_lt, ge_iff_le, Int.not_lt, Int.not_le] at hc66
        refine c_skip (x_blk (x_then (hK24 _ _ ?_)))
        clear hK24 K24
        refine c_reg ?_ -- region 12 tablem.go:126
        refine wl (ro_move rfl) ?_
        refine wl (ro_arith rfl rfl rfl (Go.IntWalk.i64_in _ (by omega))) ?_
        refine wl (ro_assign rfl) ?_
        refine wl_nil (x_then ?_)
        refine ⟨t.length - (j + 1), by omega, j + 1, rfl, by omega, ?_, h6, h7, hF, kp _ ⟨rfl, rfl, rfl, rfl, rfl, trivial⟩⟩
        rw [hjn, ed, if_pos (by omega)]
    · try simp only [decide_eq_true_eq, decide_eq_false_iff_not, Bool.not_eq_true', Bool.not_eq_false', Bool.not_eq_eq_eq_not, Bool.not_true, Bool.not_false, beq_iff_eq, bne_iff_ne, ne_eq, beq_eq_false_iff_ne, bne_eq_false_iff_eq, gt_iff_lt, ge_iff_le, Int.not_lt, Int.not_le] at hc51
      refine c_exit (x_thenX (x_thenX (x_blkX (x_then (hK20 _ _ ?_)))))
      clear hK22 K22 hK20 K20
      refine forget [(6, _), (7, _)] ⟨rfl, rfl, trivial⟩ (fun e => ?_)
      refine c_seq (fun K27 hK27 => ?_)
      refine c_reg ?_ -- region 15 tablem.go:131
      refine wl (ro_build rfl bld_119) ?_
      refine wl (ro_build rfl bld_119) ?_
      refine wl_puta rfl rfl ((by (try exact vlc_cells _); all_goals simp [Value.oneCell', i64c, icv, u64c, u8c, ptr, S])) sz_119 (rfl) h6 ((by simp)) (rfl) (fun w14 h6 F14 => ?_)
      replace hF := hF.thenDrew.thenO F14 (by first | exact .inr (by omega) | exact .inl rfl | exact .inl (by assumption) | assumption)
      replace h7 := F14.blkO h7 (by omega)
      replace hX := F14.blkO hX (by omega)
      replace hO := F14.blkO hO (by omega)
      refine wl_puta rfl rfl ((by (try exact vlc_cells _); all_goals simp [Value.oneCell', i64c, icv, u64c, u8c, ptr, S])) sz_119 (rfl) h7 ((by simp)) (rfl) (fun w15 h7 F15 => ?_)
      replace hF := hF.thenDrew.thenO F15 (by first | exact .inr (by omega) | exact .inl rfl | exact .inl (by assumption) | assumption)
      replace h6 := F15.blkO h6 (by omega)
      replace hX := F15.blkO hX (by omega)
      replace hO := F15.blkO hO (by omega)
      refine wl (ro_assign rfl) ?_
      refine wl_nil (x_then (hK27 _ _ ?_))
      clear hK27 K27
      refine c_ret ?_
      refine bq_ret (res3 Tryz.results68 (rv_c rfl ag_119 (h6) (rfl)) (rv_c rfl ag_119 (h7) (rfl)) (rv_t rfl)) ?_
      refine ⟨?_, hF⟩
      unfold nxR
      rw [hjn, List.drop_eq_nil_of_le (by omega)]
      rfl

end Go.Proofs.Qxb6500568aGreatDoor
