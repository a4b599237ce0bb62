import Derived.Test.Qxb6500568aGreatDoorCd
/- The model's tables: Len, Make, Reset, New, Set. -/
namespace Go.Proofs.Qxb6500568aGreatDoor
open Ieee
set_option linter.unusedVariables false
set_option linter.unusedSimpArgs false

theorem lenF_succ {f n : Nat} {t : Tb} : lenF (f + 1) n t = match look t (vNum (fInt (n + 1))) with | none => n | some v => if v.T = 0 then n else lenF f (n + 1) t := rfl
theorem nrm_fInt {n : Nat} (h : n < 40) : nrmK (vNum (fInt n)) = vNum (fInt n) := by
  unfold nrmK
  rw [if_neg]
  intro hh
  have : ∀ n, n < 40 → fInt n ≠ 9223372036854775808 := by decide
  exact this n h hh.2
theorem w64_fInt {n : Nat} (h : n < 40) : W64 (fInt n) := by
  have : ∀ n, n < 40 → fInt n < 18446744073709551616 := by decide
  exact this n h
set_option maxHeartbeats 4000000 in
theorem Len126 {w : World} {ow : Nat → Nat} {np : Value} {tb h : Nat} {T : List Tb} {t : Tb} (hM : MTV w ow np tb T) (hh : T[h]? = some t) : Ret Tryz.prog 126 [ptr tb, i64c h] w (fun r w' => r = .tuple #[i64c (tLen t), icv 0] ∧ Fram none' w w') := by
  have hF : Fram none' w w := Fram.refl _ _
  obtain ⟨g0, cap0, l0, a, cap, hX0, hO0, hv, ho, hhl, hc0, hg0, hl0, hc0'⟩ := hM.row hh
  have hX := hX0
  have hO := hO0
  refine ret_of Tryz.func126 rfl Tryz.ntmps126 rfl ?_
  refine c_seq (fun K1 hK1 => ?_)
  refine c_reg ?_ -- region 0 tablem.go:135
  refine wl (ro_assign rfl) ?_
  refine wl (ro_assign rfl) ?_
  refine wl_nil (x_then (hK1 _ _ ?_))
  clear hK1 K1
  refine c_seq (fun K2 hK2 => ?_)
  refine c_seq (fun K3 hK3 => ?_)
  refine c_reg ?_ -- region 1 tablem.go:136
  refine wl (ro_move rfl) ?_
  refine wl (ro_cmp (r := false) rfl rfl (congrArg some (decide_eq_false (by omega)))) ?_
  refine wl (ro_move rfl) ?_
  refine wlg_yes rfl (ro_move rfl) ?_
  refine wlg_yes rfl (ro_move rfl) ?_
  refine wlg_yes rfl (ro_nilCheck rfl) ?_
  refine wlg_yes rfl (ro_fieldAddr (k := 1) rfl fo_99_1) ?_
  refine wlg_yes rfl (ro_loadB rfl sc_97 (by assumption) rfl) ?_
  refine wlg_yes rfl (ro_lenL rfl se_97) ?_
  refine wlg_yes rfl (ro_cmp (r := false) rfl rfl (congrArg some (decide_eq_false (by omega)))) ?_
  refine wl (ro_pick rfl rfl rfl) ?_
  refine wl_nil (x_then (hK3 _ _ ?_))
  clear hK3 K3
  refine wc_condF rfl ?_
  refine c_skip (x_then (hK2 _ _ ?_))
  clear hK2 K2
  refine forget [(0, _), (1, _)] ⟨rfl, rfl, trivial⟩ (fun e => ?_)
  refine c_seq (fun K4 hK4 => ?_)
  refine c_reg ?_ -- region 3 tablem.go:139
  refine wl (ro_assign rfl) ?_
  refine wl_nil (x_then (hK4 _ _ ?_))
  clear hK4 K4
  refine forget [(0, _), (1, _), (6, _)] ⟨rfl, rfl, rfl, trivial⟩ (fun e => ?_)
  refine c_seq (fun K5 hK5 => ?_)
  refine c_block ?_
  -- loop@r4: live slots [0, 1, 6]
  refine c_loopG (fun m a' w' => ∃ n, n ≤ 33 ∧ m = 33 - n ∧ tLen t = lenF (33 - n) n t ∧ Fram none' w w' ∧ ∃ e, a' = Fr 54 (upds e [(0, ptr tb), (1, i64c h), (6, i64c n)]) []) 33 ⟨0, by omega, rfl, rfl, hF, kp _ ⟨rfl, rfl, rfl, trivial⟩⟩ ?_
  clear hF hX hO
  rintro m a' u1 ⟨n, hn, rfl, hln, hF, e, rfl⟩
  have hX := hF.blkN hX0
  have hO := hF.blkN hO0
  refine c_seq (fun K6 hK6 => ?_)
  refine c_seq (fun K7 hK7 => ?_)
  refine c_reg ?_ -- region 4 tablem.go:140
  refine wl (ro_move rfl) ?_
  refine wl (ro_cmp rfl rfl rfl) ?_
  refine wl_nil (x_then (hK7 _ _ ?_))
  clear hK7 K7
  refine wc_cond rfl (fun hc21 => ?_) (fun hc21 => ?_)
  · try simp only [decide_eq_true_eq, decide_eq_false_iff_not, Bool.not_eq_true', Bool.not_eq_false', Bool.not_eq_eq_eq_not, Bool.not_true, Bool.not_false, beq_iff_eq, bne_iff_ne, ne_eq, beq_eq_false_iff_ne, bne_eq_false_iff_eq, gt_iff_lt, ge_iff_le, Int.not_lt, Int.not_le] at hc21
    rw [show 33 - n = (32 - n) + 1 by omega, lenF_succ] at hln
    refine c_skip (x_then (hK6 _ _ ?_))
    clear hK6 K6
    refine c_block ?_
    refine forget [(0, _), (1, _), (6, _)] ⟨rfl, rfl, rfl, trivial⟩ (fun e => ?_)
    refine c_seq (fun K8 hK8 => ?_)
    refine c_reg ?_ -- region 5 tablem.go:141
    refine wl (ro_move rfl) ?_
    refine wl (ro_nilCheck rfl) ?_
    refine wl (ro_fieldAddr (k := 0) rfl fo_99_0) ?_
    refine wl (ro_loadB rfl sc_46 (by assumption) rfl) ?_
    refine wl (ro_move rfl) ?_
    refine wl (ro_arith rfl rfl rfl (Go.IntWalk.i64_in _ (by omega))) ?_
    refine wl_call rfl en_70 (FromInt70 (i := n + 1) (by omega)) ?_
    rintro _ _ ⟨rfl, rfl⟩
    refine wl (ro_assign rfl) ?_
    refine wl_nil (x_then (hK8 _ _ ?_))
    clear hK8 K8
    refine forget [(0, _), (1, _), (6, _), (7, _)] ⟨rfl, rfl, rfl, rfl, trivial⟩ (fun e => ?_)
    refine c_seq (fun K9 hK9 => ?_)
    refine c_reg ?_ -- region 6 tablem.go:142
    refine wl (ro_move rfl) ?_
    refine wl (ro_move rfl) ?_
    refine wl (ro_move rfl) ?_
    refine wl (ro_build rfl bld_119_0_1) ?_
    refine wl_call rfl en_53 (find53 (k := vNum (fInt (n + 1))) (hM.farN hF) hh) ?_
    rintro _ w1 ⟨rfl, F1⟩
    rw [nrm_fInt (by omega)]
    replace hF := hF.thenDrew.thenN F1
    replace hX := F1.blkN hX
    replace hO := F1.blkN hO
    refine wl (ro_assign rfl) ?_
    refine wl_nil (x_then (hK9 _ _ ?_))
    clear hK9 K9
    refine c_seq (fun K10 hK10 => ?_)
    refine c_seq (fun K11 hK11 => ?_)
    refine c_reg ?_ -- region 7 tablem.go:143
    refine wl (ro_move rfl) ?_
    refine wl (ro_cmp rfl rfl rfl) ?_
    refine wl_nil (x_then (hK11 _ _ ?_))
    clear hK11 K11
    refine wc_cond rfl (fun hc35 => ?_) (fun hc35 => ?_)
    · try simp only [decide_eq_true_eq, decide_eq_false_iff_not, Bool.not_eq_true', Bool.not_eq_false', Bool.not_eq_eq_eq_not, Bool.not_true, Bool.not_false, beq_iff_eq, bne_iff_ne, ne_eq, beq_eq_false_iff_ne, bne_eq_false_iff_eq, gt_iff_lt, ge_iff_le, Int.not_lt, Int.not_le] at hc35
      have hp := plc_neg hc35
      have hlk : look t (vNum (fInt (n + 1))) = none := by unfold look; rw [hp]; rfl
      rw [hlk] at hln
      refine c_seq (fun K12 hK12 => ?_)
      refine c_reg ?_ -- region 8 tablem.go:144
      refine wl (ro_move rfl) ?_
      refine wl (ro_assign rfl) ?_
      refine wl (ro_assign rfl) ?_
      refine wl_nil (x_then (hK12 _ _ ?_))
      clear hK12 K12
      refine c_ret (x_thenR (x_blkR (x_thenR (x_blkR (x_thenR ?_)))))
      refine bp_ret Tryz.results126 rfl ?_
      exact ⟨by rw [hln], hF⟩
    · try simp only [decide_eq_true_eq, decide_eq_false_iff_not, Bool.not_eq_true', Bool.not_eq_false', Bool.not_eq_eq_eq_not, Bool.not_true, Bool.not_false, beq_iff_eq, bne_iff_ne, ne_eq, beq_eq_false_iff_ne, bne_eq_false_iff_eq, gt_iff_lt, ge_iff_le, Int.not_lt, Int.not_le] at hc35
      obtain ⟨i, p, hp0, hp1, hp2⟩ := plc_pos hc35
      obtain ⟨g, l, rfl, hR, e1, e2, _⟩ := ho.elem hp2
      have hlk : look t (vNum (fInt (n + 1))) = some p := by unfold look; rw [hp0]; simp [hp2]
      rw [hlk] at hln
      replace hln : tLen t = if p.T = 0 then n else lenF (32 - n) (n + 1) t := hln
      replace hR := hF.blkN hR
      refine c_skip (x_then (hK10 _ _ ?_))
      clear hK10 K10
      refine c_seq (fun K13 hK13 => ?_)
      refine c_seq (fun K14 hK14 => ?_)
      refine c_reg ?_ -- region 9 tablem.go:146
      refine wl (ro_move rfl) ?_
      refine wl (ro_nilCheck rfl) ?_
      refine wl (ro_fieldAddr (k := 1) rfl fo_99_1) ?_
      refine wl (ro_loadB rfl sc_97 (by assumption) rfl) ?_
      refine wl (ro_move rfl) ?_
      refine wl (ro_indexAddr (et := 155) (k := 1) rfl rfl se_97 rfl (by omega)) ?_
      refine wl (ro_loadB rfl sc_155 (hO) (hv)) ?_
      refine wl (ro_move rfl) ?_
      refine wl (ro_indexAddr (et := 154) (k := 6) rfl rfl se_155 (hp1) ((by omega))) ?_
      refine wl (ro_fieldAddr (k := 3) rfl fo_154_1) ?_
      refine wl (ro_fieldAddr (k := 0) rfl fo_119_0) ?_
      refine wl (ro_loadB rfl sc_3 (hR) ((row_cell3 e2 rfl))) ?_
      refine wl (ro_cmp rfl rfl rfl) ?_
      refine wl_nil (x_then (hK14 _ _ ?_))
      clear hK14 K14
      refine wc_cond rfl (fun hc49 => ?_) (fun hc49 => ?_)
      · try simp only [decide_eq_true_eq, decide_eq_false_iff_not, Bool.not_eq_true', Bool.not_eq_false', Bool.not_eq_eq_eq_not, Bool.not_true, Bool.not_false, beq_iff_eq, bne_iff_ne, ne_eq, beq_eq_false_iff_ne, bne_eq_false_iff_eq, gt_iff_lt, ge_iff_le, Int.not_lt, Int.not_le] at hc49
        refine c_seq (fun K15 hK15 => ?_)
        refine c_reg ?_ -- region 10 tablem.go:147
        refine wl (ro_move rfl) ?_
        refine wl (ro_assign rfl) ?_
        refine wl (ro_assign rfl) ?_
        refine wl_nil (x_then (hK15 _ _ ?_))
        clear hK15 K15
        refine c_ret (x_thenR (x_blkR (x_thenR (x_blkR (x_thenR ?_)))))
        refine bp_ret Tryz.results126 rfl ?_
        exact ⟨by rw [hln, if_pos (by omega)], hF⟩
      · try simp only [decide_eq_true_eq, decide_eq_false_iff_not, Bool.not_eq_true', Bool.not_eq_false', Bool.not_eq_eq_eq_not, Bool.not_true, Bool.not_false, beq_iff_eq, bne_iff_ne, ne_eq, beq_eq_false_iff_ne, bne_eq_false_iff_eq, gt_iff_lt, ge_iff_le, Int.not_lt, Int.not_le] at hc49
        refine c_skip (x_then (hK13 _ _ ?_))
        clear hK13 K13
        refine c_reg ?_ -- region 11 tablem.go:149
        refine wl (ro_move rfl) ?_
        refine wl (ro_arith rfl rfl rfl (Go.IntWalk.i64_in _ (by omega))) ?_
        refine wl (ro_assign rfl) ?_
        refine wl_nil (x_blk (x_then ?_))
        exact ⟨33 - (n + 1), by omega, n + 1, by omega, rfl, by rw [hln, if_neg (by omega)]; rw [show 32 - n = 33 - (n + 1) by omega], hF, kp _ ⟨rfl, rfl, rfl, trivial⟩⟩
  · try simp only [decide_eq_true_eq, decide_eq_false_iff_not, Bool.not_eq_true', Bool.not_eq_false', Bool.not_eq_eq_eq_not, Bool.not_true, Bool.not_false, beq_iff_eq, bne_iff_ne, ne_eq, beq_eq_false_iff_ne, bne_eq_false_iff_eq, gt_iff_lt, ge_iff_le, Int.not_lt, Int.not_le] at hc21
    refine c_exit (x_thenX (x_thenX (x_blkX (x_then (hK5 _ _ ?_)))))
    clear hK6 K6 hK5 K5
    refine forget [(6, _)] ⟨rfl, trivial⟩ (fun e => ?_)
    refine c_seq (fun K16 hK16 => ?_)
    refine c_reg ?_ -- region 12 tablem.go:151
    refine wl (ro_move rfl) ?_
    refine wl (ro_assign rfl) ?_
    refine wl (ro_assign rfl) ?_
    refine wl_nil (x_then (hK16 _ _ ?_))
    clear hK16 K16
    refine c_ret ?_
    refine bp_ret Tryz.results126 rfl ?_
    refine ⟨?_, hF⟩
    have : n = 33 := by omega
    subst this
    rw [hln]
    rfl
theorem Reset28 {w : World} {ow : Nat → Nat} {np : Value} {tb : Nat} {T : List Tb} (hM : MTV w ow np tb T) : Ret Tryz.prog 28 [ptr tb] w (fun r w' => MTV w' ow np tb [] ∧ Fram (one tb) w w') := by
  have hF : Fram (one tb) w w := Fram.refl _ _
  obtain ⟨V, rows, hX, h2, h3⟩ := hM.ex
  refine ret_of Tryz.func28 rfl Tryz.ntmps28 rfl ?_
  refine c_reg ?_ -- region 0 tablem.go:21
  refine wl (ro_move rfl) ?_
  refine wl (ro_nilCheck rfl) ?_
  refine wl (ro_fieldAddr (k := 1) rfl fo_99_1) ?_
  refine wl_put rfl rfl rfl sz_97 hX ((by simp)) (rfl) (fun w1 hX F1 => ?_)
  replace hF := hF.thenDrew.thenO F1 (by first | exact .inr (by omega) | exact .inl rfl | exact .inl (by assumption) | assumption)
  refine wl_nil ?_
  refine bp_end Tryz.results28 rfl ?_
  exact ⟨⟨⟨_, [], hX, OwT.nil _ _ _ _ _, fun h t hh => by simp at hh⟩, hM.tag, by simp, hM.np1, fun h t hh => by simp at hh⟩, hF⟩
theorem New20 {w : World} {nb : Nat} : Ret Tryz.prog 20 [ptr nb] w (fun r w' => (∃ tb, r = ptr tb ∧ w.heap.size ≤ tb ∧ tb < w'.heap.size ∧ ∀ ow, ow tb = 40 → MTV w' ow (ptr nb) tb []) ∧ Fram none' w w') := by
  have hF : Fram none' w w := Fram.refl _ _
  refine ret_of Tryz.func20 rfl Tryz.ntmps20 rfl ?_
  refine c_seq (fun K1 hK1 => ?_)
  refine c_reg ?_ -- region 0 tablem.go:18
  refine wl (ro_assign rfl) ?_
  refine wl_nil (x_then (hK1 _ _ ?_))
  clear hK1 K1
  refine forget [(0, _)] ⟨rfl, trivial⟩ (fun e => ?_)
  refine c_seq (fun K2 hK2 => ?_)
  refine c_reg ?_ -- region 1 tablem.go:18
  refine wl (ro_move rfl) ?_
  refine wl (ro_build rfl bld_99_0) ?_
  refine wl_box rfl rfl (fun b5 w1 hbb5 h5 F1 => ?_)
  have hbsb5 := Nat.le_trans hF.size hbb5
  replace hF := hF.thenDrew.thenN F1
  refine wl (ro_assign rfl) ?_
  refine wl_nil (x_then (hK2 _ _ ?_))
  clear hK2 K2
  refine c_ret ?_
  refine bp_ret Tryz.results20 rfl ?_
  exact ⟨⟨b5, rfl, hbb5, h5.lt, fun ow ho => ⟨⟨_, [], h5, OwT.nil _ _ _ _ _, fun h t hh => by simp at hh⟩, ho, by simp, rfl, fun h t hh => by simp at hh⟩⟩, hF⟩

/-- A new table. -/
theorem MTV.lens {w : World} {ow : Nat → Nat} {np : Value} {tb : Nat} {T : List Tb} (hM : MTV w ow np tb T) : ∃ V a cap rows, V = .slice a T.length cap ∧ Blk w.heap tb [np, V] 99 ∧ OwT w ow 41 V 155 1 T.length rows ∧ ∀ (h : Nat) t, T[h]? = some t → ∃ v, rows[h]? = some v ∧ OwT w ow (100 + h) v 154 6 t.length (rws enc t) := by
  obtain ⟨V, rows, h1, h2, h3⟩ := hM.ex
  obtain ⟨a, c, rfl⟩ := h2.form
  exact ⟨_, a, c, rows, rfl, h1, h2, h3⟩
set_option maxHeartbeats 4000000 in
theorem Make29 {w : World} {ow : Nat → Nat} {np : Value} {tb : Nat} {T : List Tb} (hM : MTV w ow np tb T) : Ret Tryz.prog 29 [ptr tb] w (fun r w' => (if 12 ≤ T.length then r = .tuple #[icv (-1), icv 8] ∧ MTV w' ow np tb T ∧ Fram none' w w' else r = .tuple #[i64c T.length, icv 0] ∧ ∃ ow', Xt w ow ow' ∧ MTV w' ow' np tb (T ++ [[]]) ∧ Fram (tg ow mtag) w w')) := by
  have hF : Fram (tg ow mtag) w w := Fram.refl _ _
  obtain ⟨V, a, cap, rows, rfl, hX, hV, hR⟩ := hM.lens
  have hl12 := hM.len
  have hmtb : tg ow mtag tb := .inl hM.tag
  refine ret_of Tryz.func29 rfl Tryz.ntmps29 rfl ?_
  refine c_seq (fun K1 hK1 => ?_)
  refine c_reg ?_ -- region 0 tablem.go:27
  refine wl (ro_assign rfl) ?_
  refine wl (ro_assign rfl) ?_
  refine wl_nil (x_then (hK1 _ _ ?_))
  clear hK1 K1
  refine c_seq (fun K2 hK2 => ?_)
  refine c_seq (fun K3 hK3 => ?_)
  refine c_reg ?_ -- region 1 tablem.go:28
  refine wl (ro_move rfl) ?_
  refine wl (ro_nilCheck rfl) ?_
  refine wl (ro_fieldAddr (k := 1) rfl fo_99_1) ?_
  refine wl (ro_loadB rfl sc_97 (by assumption) rfl) ?_
  refine wl (ro_lenL rfl se_97) ?_
  refine wl (ro_cmp rfl rfl rfl) ?_
  refine wl_nil (x_then (hK3 _ _ ?_))
  clear hK3 K3
  refine wc_cond rfl (fun hc10 => ?_) (fun hc10 => ?_)
  · try simp only [decide_eq_true_eq, decide_eq_false_iff_not, Bool.not_eq_true', Bool.not_eq_false', Bool.not_eq_eq_eq_not, Bool.not_true, Bool.not_false, beq_iff_eq, bne_iff_ne, ne_eq, beq_eq_false_iff_ne, bne_eq_false_iff_eq, gt_iff_lt, ge_iff_le, Int.not_lt, Int.not_le] at hc10
    refine c_seq (fun K4 hK4 => ?_)
    refine c_reg ?_ -- region 2 tablem.go:29
    refine wl (ro_assign rfl) ?_
    refine wl (ro_assign rfl) ?_
    refine wl_nil (x_then (hK4 _ _ ?_))
    clear hK4 K4
    refine c_ret (x_thenR ?_)
    refine bp_ret Tryz.results29 rfl ?_
    rw [if_pos (by omega)]
    exact ⟨rfl, hM, Fram.refl _ _⟩
  · try simp only [decide_eq_true_eq, decide_eq_false_iff_not, Bool.not_eq_true', Bool.not_eq_false', Bool.not_eq_eq_eq_not, Bool.not_true, Bool.not_false, beq_iff_eq, bne_iff_ne, ne_eq, beq_eq_false_iff_ne, bne_eq_false_iff_eq, gt_iff_lt, ge_iff_le, Int.not_lt, Int.not_le] at hc10
    refine c_skip (x_then (hK2 _ _ ?_))
    clear hK2 K2
    refine forget [(0, _)] ⟨rfl, trivial⟩ (fun e => ?_)
    refine c_seq (fun K5 hK5 => ?_)
    refine c_reg ?_ -- region 3 tablem.go:31
    refine wl (ro_move rfl) ?_
    refine wl (ro_nilCheck rfl) ?_
    refine wl (ro_fieldAddr (k := 1) rfl fo_99_1) ?_
    refine wl (ro_loadB rfl sc_97 (by assumption) rfl) ?_
    refine wl_bsapp (t := 97) (et := 155) (k := 1) rfl rfl rfl rfl se_97 zx_155 by_155 rfl rfl rfl (by simp [Value.oneCell']) hV.o (by omega) (by omega) ?_
    intro v' u1 hon G1 hnb
    have hlt1 := hX.lt
    replace hX := hX.fram G1 (fun h => by have := hV.t _ h; rw [hM.tag] at this; omega)
    replace hF := hF.trans' G1 (fun k hk h => .inr (.inl (hV.t _ h)))
    skip
    obtain ⟨a', cap', rfl⟩ := hon.form
    refine wl (ro_assign rfl) ?_
    refine wl_nil (x_then (hK5 _ _ ?_))
    clear hK5 K5
    refine forget [(0, _), (4, _)] ⟨rfl, rfl, trivial⟩ (fun e => ?_)
    refine c_seq (fun K6 hK6 => ?_)
    refine c_reg ?_ -- region 4 tablem.go:32
    refine wl (ro_move rfl) ?_
    refine wl (ro_move rfl) ?_
    refine wl (ro_nilCheck rfl) ?_
    refine wl (ro_fieldAddr (k := 1) rfl fo_99_1) ?_
    refine wl_put rfl rfl rfl sz_97 hX ((by simp)) (rfl) (fun w1 hX F1 => ?_)
    replace hF := hF.thenDrew.thenO F1 (by first | exact .inr (by omega) | exact .inl rfl | exact .inl (by assumption) | assumption)
    have hwx := (F1)
    refine wl_nil (x_then (hK6 _ _ ?_))
    clear hK6 K6
    refine forget [(0, _)] ⟨rfl, trivial⟩ (fun e => ?_)
    refine c_seq (fun K7 hK7 => ?_)
    refine c_reg ?_ -- region 5 tablem.go:33
    refine wl (ro_move rfl) ?_
    refine wl (ro_nilCheck rfl) ?_
    refine wl (ro_fieldAddr (k := 1) rfl fo_99_1) ?_
    refine wl (ro_loadB rfl sc_97 (by assumption) rfl) ?_
    refine wl (ro_lenL rfl se_97) ?_
    refine wl (ro_arith (r := (T.length : Int)) rfl rfl (congrArg some (by omega)) (Go.IntWalk.i64_in _ (by omega))) ?_
    refine wl (ro_assign rfl) ?_
    refine wl (ro_assign rfl) ?_
    refine wl_nil (x_then (hK7 _ _ ?_))
    clear hK7 K7
    refine c_ret ?_
    refine bp_ret Tryz.results29 rfl ?_
    rw [if_neg (by omega)]
    refine ⟨rfl, Go.Proofs.Qxb6500568aGreatDoor.nw ow w.heap.size 41, Xt.nw (Nat.le_refl _), ⟨⟨_, rows ++ [.slice none 0 0], hX, ?_, ?_⟩, ?_, ?_, hM.np1, ?_⟩, hF⟩
    · have := hV.grow hon hnb G1.size
      rw [List.length_append]
      exact this.far hwx (fun b hb hl he => by rw [show b = _ from he, nw_old hlt1, hM.tag] at hb; omega) (Xt.refl _ _)
    · intro h t hh
      rw [List.getElem?_append] at hh
      have hrl : rows.length = T.length := by have := hV.o.1; omega
      split at hh
      · rename_i hlt
        obtain ⟨v, hv, ho⟩ := hR h t hh
        refine ⟨v, by rw [List.getElem?_append_left (by omega)]; exact hv, ?_⟩
        have e1 := ho.far G1 (ow' := Go.Proofs.Qxb6500568aGreatDoor.nw ow w.heap.size 41) (fun b hb hl h => by have := hV.t _ h; omega) (Xt.nw (Nat.le_refl _))
        exact e1.far hwx (fun b hb hl he => by rw [show b = _ from he, nw_old hlt1, hM.tag] at hb; omega) (Xt.refl _ _)
      · rename_i hlt
        have : h = T.length := by
          rcases Nat.lt_or_ge (h - T.length) 1 with q | q
          · omega
          · rw [List.getElem?_eq_none (by simpa using q)] at hh; cases hh
        subst this
        simp at hh
        subst hh
        exact ⟨_, by rw [List.getElem?_append_right (by omega)]; simp [hrl], OwT.nil _ _ _ _ _⟩
    · rw [nw_old hlt1]; exact hM.tag
    · rw [List.length_append]; simp; omega
    · intro h t hh
      rw [List.getElem?_append] at hh
      split at hh
      · exact hM.ok h t hh
      · have : t = [] := by
          rcases Nat.lt_or_ge (h - T.length) 1 with q | q
          · have : h - T.length = 0 := by omega
            rw [this] at hh; simp at hh; exact hh
          · rw [List.getElem?_eq_none (by simpa using q)] at hh; cases hh
        subst this
        exact ⟨by simp, fun i k v h => by simp at h, fun i j k u v h => by simp at h⟩

end Go.Proofs.Qxb6500568aGreatDoor
