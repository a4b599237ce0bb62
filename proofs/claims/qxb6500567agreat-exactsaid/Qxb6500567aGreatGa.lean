import Derived.Test.Qxb6500567aGreatEf
import Derived.Test.Qxb6500567aGreatFi
import Derived.Test.Qxb6500567aGreatPq
/- The definition of matching: the plain answers; join. -/
namespace Go.Proofs.Qxb6500567aGreat
set_option linter.unusedVariables false
set_option linter.unusedSimpArgs false

/-- The cells of captures. -/
abbrev capc (c : List Int) : List Value := cel 8 (fun j => icv (c.getD j 0))
/-- The cells of an answer. -/
abbrev fdc (e p : Nat) (ok : Bool) (c : List Int) : List Value := [i64c e, i64c p, .bool ok] ++ capc c

theorem capc_cells (c : List Int) : ∀ u ∈ capc c, u.oneCell' = true := by
  intro u hu
  simp only [capc, cel, List.mem_map] at hu
  obtain ⟨j, _, rfl⟩ := hu
  rfl
theorem fdc_cells (e p : Nat) (ok : Bool) (c : List Int) : ∀ u ∈ fdc e p ok c, u.oneCell' = true := by
  intro u hu
  simp only [fdc, List.mem_append, List.mem_cons, List.not_mem_nil, or_false] at hu
  rcases hu with (rfl | rfl | rfl) | hu
  · rfl
  · rfl
  · rfl
  · exact capc_cells c u hu

theorem seg_all {z cs : List Value} {n : Nat} (hz : z.length = n) : z.take 0 ++ cs ++ z.drop (0 + n) = cs := by
  rw [List.take_zero, List.nil_append, List.drop_of_length_le (by omega), List.append_nil]

theorem NoCaps47 {w : World} : Ret Tryz.prog 47 [] w (fun v w' => v = .agg (capc nocaps).toArray ∧ Fram none' w w') := by
  have hF : Fram none' w w := Fram.refl _ _
  refine ret_of Tryz.func47 rfl Tryz.ntmps47 rfl ?_
  refine c_seq (fun K1 hK1 => ?_)
  refine c_reg ?_ -- region 0 const.go:155
  refine wl_new (ze_55) (fun mb w1 hbmb hM F1 => ?_)
  have hbsmb := Nat.le_trans hF.size hbmb
  replace hF := hF.thenDrew.thenN F1
  refine wl_nil (x_then (hK1 _ _ ?_))
  clear hK1 K1
  refine forget [(0, _)] ⟨rfl, trivial⟩ (fun e => ?_)
  refine c_seq (fun K2 hK2 => ?_)
  refine c_reg ?_ -- region 1 const.go:156
  refine wl_new (ze_55) (fun cb w2 hbcb hC F2 => ?_)
  have hbscb := Nat.le_trans hF.size hbcb
  have hnembcb : mb < cb := Nat.lt_of_lt_of_le hM.lt hbcb
  replace hF := hF.thenDrew.thenN F2
  replace hM := F2.blkN hM
  refine wl_nil (x_then (hK2 _ _ ?_))
  clear hK2 K2
  refine c_seq (fun K3 hK3 => ?_)
  refine c_seq (fun K4 hK4 => ?_)
  refine c_reg ?_ -- region 2 const.go:157
  refine wl (ro_assign rfl) ?_
  refine wl_nil (x_then (hK4 _ _ ?_))
  clear hK4 K4
  refine c_block ?_
  -- loop@r3: live slots [0, 1, 2]
  refine c_loopG (fun m a' w' => ∃ (i : Nat) (f : Nat → Value), m = 8 - i ∧ i ≤ 8 ∧ (∀ j, j < i → f j = icv (-1)) ∧ FB w'.heap cb 8 f 55 ∧ (∃ z, Blk w'.heap mb z 55 ∧ z.length = 8) ∧ Fram none' w w' ∧ ∃ e, a' = Fr 10 (upds e [(0, ptr mb), (1, ptr cb), (2, i64c i)]) []) 8 ⟨0, fun _ => i64c 0, rfl, by omega, fun j hj => by omega, hC, ⟨_, hM, rfl⟩, hF, kp _ ⟨rfl, rfl, rfl, trivial⟩⟩ ?_
  clear hM hC hF
  rintro m a' w1 ⟨i, f, rfl, hi, hf, hC, ⟨z, hM, hz⟩, hF, e, rfl⟩
  refine c_seq (fun K5 hK5 => ?_)
  refine c_seq (fun K6 hK6 => ?_)
  refine c_reg ?_ -- region 3 const.go:157
  refine wl (ro_move rfl) ?_
  refine wl (ro_cmp (r := decide (i < 8)) rfl rfl (congrArg some (decide_eq_decide.2 (by omega)))) ?_
  refine wl_nil (x_then (hK6 _ _ ?_))
  clear hK6 K6
  refine wc_cond rfl (fun hc4 => ?_) (fun hc4 => ?_)
  · try simp only [decide_eq_true_eq, decide_eq_false_iff_not, Bool.not_eq_true', Bool.not_eq_false', Bool.not_eq_eq_eq_not, Bool.not_true, Bool.not_false, beq_iff_eq, bne_iff_ne, ne_eq, beq_eq_false_iff_ne, bne_eq_false_iff_eq, gt_iff_lt, ge_iff_le, Int.not_lt, Int.not_le] at hc4
    refine c_skip (x_then (hK5 _ _ ?_))
    clear hK5 K5
    refine forget [(0, _), (1, _), (2, _)] ⟨rfl, rfl, rfl, trivial⟩ (fun e => ?_)
    refine c_seq (fun K7 hK7 => ?_)
    refine c_block ?_
    refine c_reg ?_ -- region 5 const.go:158
    refine wl (ro_move rfl) ?_
    refine wl (ro_indexAddrA (et := 3) (k := 1) rfl rfl ar_55 (rfl) (hc4)) ?_
    refine wl_put rfl rfl rfl sz_3 hC ((cel_lt (by omega))) ((cel_put i (by omega))) (fun w3 hC F3 => ?_)
    replace hF := hF.thenDrew.thenO F3 (by first | exact .inr (by omega) | exact .inl rfl | exact .inl (by assumption))
    replace hM := F3.blkO hM (by omega)
    refine wl_nil (x_blk (x_then (hK7 _ _ ?_)))
    clear hK7 K7
    refine c_reg ?_ -- region 4 const.go:157
    refine wl (ro_move rfl) ?_
    refine wl (ro_arith rfl rfl rfl (Go.IntWalk.i64_in _ (by omega))) ?_
    refine wl (ro_assign rfl) ?_
    refine wl_nil (x_then ?_)
    exact ⟨8 - (i + 1), by omega, i + 1, _, rfl, by omega, fun j hj => (if h : j = i then (by subst h; exact pt_same) else (by rw [pt_ne h]; exact hf j (by omega))), hC, ⟨z, hM, hz⟩, hF, kp _ ⟨rfl, rfl, rfl, trivial⟩⟩
  · try simp only [decide_eq_true_eq, decide_eq_false_iff_not, Bool.not_eq_true', Bool.not_eq_false', Bool.not_eq_eq_eq_not, Bool.not_true, Bool.not_false, beq_iff_eq, bne_iff_ne, ne_eq, beq_eq_false_iff_ne, bne_eq_false_iff_eq, gt_iff_lt, ge_iff_le, Int.not_lt, Int.not_le] at hc4
    refine c_exit (x_thenX (x_thenX (x_blkX (x_then (hK3 _ _ ?_)))))
    clear hK5 K5 hK3 K3
    refine forget [(0, _), (1, _)] ⟨rfl, rfl, trivial⟩ (fun e => ?_)
    refine c_seq (fun K8 hK8 => ?_)
    have e8 : cel 8 f = capc nocaps := by
      apply cel_congr
      intro j hj
      rw [hf j (by omega), (by decide : ∀ j, j < 8 → nocaps.getD j 0 = -1) j hj]
    replace hC : Blk w1.heap cb (capc nocaps) 55 := e8 ▸ hC
    refine c_reg ?_ -- region 6 const.go:160
    refine wl (ro_loadAggB rfl ag_55 (hC) (rfl) (rfl)) ?_
    refine wl_puta rfl rfl ((capc_cells _)) sz_55 (rfl) hM ((by omega)) ((seg_all hz)) (fun w4 hM F4 => ?_)
    replace hF := hF.thenDrew.thenO F4 (by first | exact .inr (by omega) | exact .inl rfl | exact .inl (by assumption))
    replace hC := F4.blkO hC (by omega)
    refine wl_nil (x_then (hK8 _ _ ?_))
    clear hK8 K8
    refine c_ret ?_
    refine bq_ret (res1 Tryz.results47 (rv_c rfl ag_55 (hM) rfl)) ?_
    exact ⟨rfl, hF⟩

theorem Refused35 {w : World} {er p : Nat} : Ret Tryz.prog 35 [i64c er, i64c p] w (fun v w' => v = .agg (fdc er p false nocaps).toArray ∧ Fram none' w w') := by
  have hF : Fram none' w w := Fram.refl _ _
  refine ret_of Tryz.func35 rfl Tryz.ntmps35 rfl ?_
  refine c_seq (fun K1 hK1 => ?_)
  refine c_reg ?_ -- region 0 const.go:173
  refine wl_new (ze_57) (fun mb w1 hbmb hM F1 => ?_)
  have hbsmb := Nat.le_trans hF.size hbmb
  replace hF := hF.thenDrew.thenN F1
  refine wl_nil (x_then (hK1 _ _ ?_))
  clear hK1 K1
  refine forget [(0, _), (1, _), (4, _)] ⟨rfl, rfl, rfl, trivial⟩ (fun e => ?_)
  refine c_seq (fun K2 hK2 => ?_)
  refine c_reg ?_ -- region 1 const.go:173
  refine wl (ro_move rfl) ?_
  refine wl (ro_move rfl) ?_
  refine wl_call rfl en_47 (NoCaps47) ?_
  rintro _ w2 ⟨rfl, F2⟩
  replace hF := hF.thenDrew.thenN F2
  replace hM := F2.blkN hM
  refine wl (ro_build rfl bld_57_0_1_3) ?_
  refine wl_puta rfl rfl ((fdc_cells er p false nocaps)) sz_57 (rfl) hM ((by simp)) (rfl) (fun w3 hM F3 => ?_)
  replace hF := hF.thenDrew.thenO F3 (by first | exact .inr (by omega) | exact .inl rfl | exact .inl (by assumption))
  refine wl_nil (x_then (hK2 _ _ ?_))
  clear hK2 K2
  refine c_ret ?_
  refine bq_ret (res1 Tryz.results35 (rv_c rfl ag_57 (hM) rfl)) ?_
  exact ⟨rfl, hF⟩

theorem Nothing50 {w : World} : Ret Tryz.prog 50 [] w (fun v w' => v = .agg (fdc 0 0 false nocaps).toArray ∧ Fram none' w w') := by
  have hF : Fram none' w w := Fram.refl _ _
  refine ret_of Tryz.func50 rfl Tryz.ntmps50 rfl ?_
  refine c_seq (fun K1 hK1 => ?_)
  refine c_reg ?_ -- region 0 const.go:174
  refine wl_new (ze_57) (fun mb w1 hbmb hM F1 => ?_)
  have hbsmb := Nat.le_trans hF.size hbmb
  replace hF := hF.thenDrew.thenN F1
  refine wl_nil (x_then (hK1 _ _ ?_))
  clear hK1 K1
  refine forget [(0, _)] ⟨rfl, trivial⟩ (fun e => ?_)
  refine c_seq (fun K2 hK2 => ?_)
  refine c_reg ?_ -- region 1 const.go:174
  refine wl_call rfl en_47 (NoCaps47) ?_
  rintro _ w2 ⟨rfl, F2⟩
  replace hF := hF.thenDrew.thenN F2
  replace hM := F2.blkN hM
  refine wl (ro_build rfl bld_57_3) ?_
  refine wl_puta rfl rfl ((fdc_cells 0 0 false nocaps)) sz_57 (rfl) hM ((by simp)) (rfl) (fun w3 hM F3 => ?_)
  replace hF := hF.thenDrew.thenO F3 (by first | exact .inr (by omega) | exact .inl rfl | exact .inl (by assumption))
  refine wl_nil (x_then (hK2 _ _ ?_))
  clear hK2 K2
  refine c_ret ?_
  refine bq_ret (res1 Tryz.results50 (rv_c rfl ag_57 (hM) rfl)) ?_
  exact ⟨rfl, hF⟩

end Go.Proofs.Qxb6500567aGreat
