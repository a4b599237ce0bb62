import Derived.Test.Qxb6500567aGreatDi
/- The model's simplifier: shapes and sizes. -/
namespace Go.Proofs.Qxb6500567aGreat
set_option linter.unusedVariables false
set_option linter.unusedSimpArgs false

set_option maxHeartbeats 4000000 in
theorem shape117 {nb cap : Nat} {T : List RE} {c : Nat → Value} {z1 z2 z3 z4 : Value} (hle : T.length ≤ cap) (hAR : AR T c 0) : ∀ (k : Nat) {w : World} {r : RE}, FB w.heap nb (cap * 11) c 89 → T[k]? = some r → WF r →
    Ret Tryz.prog 117 [.agg (trc nb T.length cap z1 z2 z3 z4).toArray, i64c k] w (fun v w' => v = i64c (shp r) ∧ Fram none' w w') := by
  intro k
  induction k using Nat.strongRecOn with
  | ind k ih =>
  intro w r hT hk hw
  have hF : Fram none' w w := Fram.refl _ _
  have hN := hAR k r hk
  have hkl := (List.getElem?_eq_some_iff.1 hk).1
  generalize hcs : cel 11 (fun j => c (0 + 11 * k + j)) = cs at hN
  have hld := nd_load (cap := cap) (k := k) (by omega) hcs
  refine ret_of Tryz.func117 rfl Tryz.ntmps117 rfl ?_
  refine c_seq (fun K1 hK1 => ?_)
  rcases hN.kinds with ⟨hq, rfl⟩ | ⟨S, hq, rfl⟩ | ⟨hq, rfl⟩ | ⟨l, hq, rfl⟩ | ⟨a, b, i, j, hq, hi, hj, hia, hjb, rfl⟩ | ⟨o, a, b, i, j, hq, hi, hj, hia, hjb, rfl⟩ | ⟨ff, ps, x, a, i, hq, hi, hia, hcn, rfl⟩ | ⟨g, a, i, hq, hi, hia, rfl⟩
  · skip
    refine c_reg ?_ -- region 0 simpm.go:23
    refine wl_box (cs := (trc nb T.length cap z1 z2 z3 z4)) rfl rfl (fun ab w1 hbab hA F1 => ?_)
    have hbsab := Nat.le_trans hF.size hbab
    have hnenbab : nb < ab := Nat.lt_of_lt_of_le hT.lt hbab
    replace hF := hF.thenDrew.thenN F1
    replace hT := F1.blkN hT
    refine wl (ro_assign rfl) ?_
    refine wl_nil (x_then (hK1 _ _ ?_))
    clear hK1 K1
    refine forget [(1, _), (2, _)] ⟨rfl, rfl, trivial⟩ (fun e => ?_)
    refine c_seq (fun K2 hK2 => ?_)
    refine c_reg ?_ -- region 1 simpm.go:24
    refine wl (ro_fieldAddr (k := 0) rfl fo_151_0) ?_
    refine wl (ro_loadB rfl sc_98 (hA) (rfl)) ?_
    refine wl (ro_move rfl) ?_
    refine wl (ro_indexAddr (et := 89) (k := 11) rfl rfl se_98 (rfl) (hkl)) ?_
    refine wl (ro_loadAggB rfl ag_89 (hT) (rfl) (hld)) ?_
    refine wl_new (ze_89) (fun xb w2 hbxb hX F2 => ?_)
    have hbsxb := Nat.le_trans hF.size hbxb
    have hnenbxb : nb < xb := Nat.lt_of_lt_of_le hT.lt hbxb
    have hneabxb : ab < xb := Nat.lt_of_lt_of_le hA.lt hbxb
    replace hF := hF.thenDrew.thenN F2
    replace hT := F2.blkN hT
    replace hA := F2.blkN hA
    refine wl_puta rfl rfl (by simp [Value.oneCell', i64c, u64c, u8c, ptr]) sz_89 (rfl) hX ((by simp)) (rfl) (fun w3 hX F3 => ?_)
    replace hF := hF.thenDrew.thenO F3 (by first | exact .inr (by omega) | exact .inl rfl | exact .inl (by assumption))
    replace hT := F3.blkO hT (by omega)
    replace hA := F3.blkO hA (by omega)
    refine wl_nil (x_then (hK2 _ _ ?_))
    clear hK2 K2
    refine c_seq (fun K3 hK3 => ?_)
    refine c_seq (fun K4 hK4 => ?_)
    refine c_reg ?_ -- region 2 simpm.go:25
    refine wl (ro_fieldAddr (k := 0) rfl fo_89_0) ?_
    refine wl (ro_loadB rfl sc_3 (by assumption) rfl) ?_
    refine wl_nil (x_then (hK4 _ _ ?_))
    clear hK4 K4
    refine c_block ?_
    refine forget [(2, _), (5, _), (17, _)] ⟨rfl, rfl, rfl, trivial⟩ (fun e => ?_)
    refine c_seq (fun K5 hK5 => ?_)
    refine c_reg ?_ -- region 3 simpm.go:26
    refine wl (ro_cmp rfl rfl rfl) ?_
    refine wl (ro_assign rfl) ?_
    refine wl_nil (x_then (hK5 _ _ ?_))
    clear hK5 K5
    refine wc_condT rfl ?_
    refine c_seq (fun K6 hK6 => ?_)
    refine c_reg ?_ -- region 4 simpm.go:27
    refine wl (ro_assign rfl) ?_
    refine wl_nil (x_then (hK6 _ _ ?_))
    clear hK6 K6
    refine c_ret (x_blkR (x_thenR ?_))
    refine bp_ret Tryz.results117 rfl ?_
    rw [hq]; exact ⟨rfl, hF⟩
  · skip
    refine c_reg ?_ -- region 0 simpm.go:23
    refine wl_box (cs := (trc nb T.length cap z1 z2 z3 z4)) rfl rfl (fun ab w4 hbab hA F4 => ?_)
    have hbsab := Nat.le_trans hF.size hbab
    have hnenbab : nb < ab := Nat.lt_of_lt_of_le hT.lt hbab
    replace hF := hF.thenDrew.thenN F4
    replace hT := F4.blkN hT
    refine wl (ro_assign rfl) ?_
    refine wl_nil (x_then (hK1 _ _ ?_))
    clear hK1 K1
    refine forget [(1, _), (2, _)] ⟨rfl, rfl, trivial⟩ (fun e => ?_)
    refine c_seq (fun K7 hK7 => ?_)
    refine c_reg ?_ -- region 1 simpm.go:24
    refine wl (ro_fieldAddr (k := 0) rfl fo_151_0) ?_
    refine wl (ro_loadB rfl sc_98 (hA) (rfl)) ?_
    refine wl (ro_move rfl) ?_
    refine wl (ro_indexAddr (et := 89) (k := 11) rfl rfl se_98 (rfl) (hkl)) ?_
    refine wl (ro_loadAggB rfl ag_89 (hT) (rfl) (hld)) ?_
    refine wl_new (ze_89) (fun xb w5 hbxb hX F5 => ?_)
    have hbsxb := Nat.le_trans hF.size hbxb
    have hnenbxb : nb < xb := Nat.lt_of_lt_of_le hT.lt hbxb
    have hneabxb : ab < xb := Nat.lt_of_lt_of_le hA.lt hbxb
    replace hF := hF.thenDrew.thenN F5
    replace hT := F5.blkN hT
    replace hA := F5.blkN hA
    refine wl_puta rfl rfl (by simp [Value.oneCell', i64c, u64c, u8c, ptr]) sz_89 (rfl) hX ((by simp)) (rfl) (fun w6 hX F6 => ?_)
    replace hF := hF.thenDrew.thenO F6 (by first | exact .inr (by omega) | exact .inl rfl | exact .inl (by assumption))
    replace hT := F6.blkO hT (by omega)
    replace hA := F6.blkO hA (by omega)
    refine wl_nil (x_then (hK7 _ _ ?_))
    clear hK7 K7
    refine c_seq (fun K8 hK8 => ?_)
    refine c_seq (fun K9 hK9 => ?_)
    refine c_reg ?_ -- region 2 simpm.go:25
    refine wl (ro_fieldAddr (k := 0) rfl fo_89_0) ?_
    refine wl (ro_loadB rfl sc_3 (by assumption) rfl) ?_
    refine wl_nil (x_then (hK9 _ _ ?_))
    clear hK9 K9
    refine c_block ?_
    refine forget [(2, _), (5, _), (17, _)] ⟨rfl, rfl, rfl, trivial⟩ (fun e => ?_)
    refine c_seq (fun K10 hK10 => ?_)
    refine c_reg ?_ -- region 3 simpm.go:26
    refine wl (ro_cmp rfl rfl rfl) ?_
    refine wl (ro_assign rfl) ?_
    refine wl_nil (x_then (hK10 _ _ ?_))
    clear hK10 K10
    refine wc_condF rfl ?_
    refine c_seq (fun K11 hK11 => ?_)
    refine c_reg ?_ -- region 5 simpm.go:28
    refine wl (ro_cmp rfl rfl rfl) ?_
    refine wl (ro_assign rfl) ?_
    refine wl_nil (x_then (hK11 _ _ ?_))
    clear hK11 K11
    refine wc_condT rfl ?_
    refine c_seq (fun K12 hK12 => ?_)
    refine c_reg ?_ -- region 6 simpm.go:29
    refine wl (ro_fieldAddr (k := 7) rfl fo_89_7) ?_
    refine wl (ro_loadAggB rfl ag_87 (hX) (rfl) (rfl)) ?_
    refine wl (ro_build rfl bld_87) ?_
    refine wl (ro_eqArr4 rfl rfl ar_87 in_85 (by kernel_rfl) rfl) ?_
    refine wl_nil (x_then (hK12 _ _ ?_))
    clear hK12 K12
    refine wc_cond rfl (fun hc25 => ?_) (fun hc25 => ?_)
    · try simp only [decide_eq_true_eq, decide_eq_false_iff_not, Bool.not_eq_true', Bool.not_eq_false', Bool.not_eq_eq_eq_not, Bool.not_true, Bool.not_false, beq_iff_eq, bne_iff_ne, ne_eq, beq_eq_false_iff_ne, bne_eq_false_iff_eq, gt_iff_lt, ge_iff_le, Int.not_lt, Int.not_le] at hc25
      have hz0 : (wd S 0 = 0 ∧ wd S 1 = 0) ∧ (wd S 2 = 0 ∧ wd S 3 = 0) := by simp at hc25; omega
      have hSS : S = 0 := by rw [hq] at hw; exact (empty_iff (S := S) hw).2 ⟨hz0.1.1, hz0.1.2, hz0.2.1, hz0.2.2⟩
      refine c_seq (fun K13 hK13 => ?_)
      refine c_reg ?_ -- region 7 simpm.go:30
      refine wl (ro_assign rfl) ?_
      refine wl_nil (x_then (hK13 _ _ ?_))
      clear hK13 K13
      refine c_ret (x_blkR (x_thenR ?_))
      refine bp_ret Tryz.results117 rfl ?_
      have hs : shp r = if S = 0 then 1 else 2 := by rw [hq]; rfl
      first
        | (rw [if_pos hSS] at hs; rw [hs]; exact ⟨rfl, hF⟩)
        | (rw [if_neg hSS] at hs; rw [hs]; exact ⟨rfl, hF⟩)
    · try simp only [decide_eq_true_eq, decide_eq_false_iff_not, Bool.not_eq_true', Bool.not_eq_false', Bool.not_eq_eq_eq_not, Bool.not_true, Bool.not_false, beq_iff_eq, bne_iff_ne, ne_eq, beq_eq_false_iff_ne, bne_eq_false_iff_eq, gt_iff_lt, ge_iff_le, Int.not_lt, Int.not_le] at hc25
      have hz0 : ¬ (wd S 0 = 0 ∧ wd S 1 = 0 ∧ wd S 2 = 0 ∧ wd S 3 = 0) := by simp at hc25; omega
      have hSS : S ≠ 0 := fun h => hz0 (by rw [hq] at hw; exact (empty_iff hw).1 h)
      refine c_skip (x_blk (x_then (hK8 _ _ ?_)))
      clear hK8 K8
      refine forget [] trivial (fun e => ?_)
      refine c_seq (fun K14 hK14 => ?_)
      refine c_reg ?_ -- region 31 simpm.go:63
      refine wl (ro_assign rfl) ?_
      refine wl_nil (x_then (hK14 _ _ ?_))
      clear hK14 K14
      refine c_ret ?_
      refine bp_ret Tryz.results117 rfl ?_
      have hs : shp r = if S = 0 then 1 else 2 := by rw [hq]; rfl
      first
        | (rw [if_pos hSS] at hs; rw [hs]; exact ⟨rfl, hF⟩)
        | (rw [if_neg hSS] at hs; rw [hs]; exact ⟨rfl, hF⟩)
  · skip
    refine c_reg ?_ -- region 0 simpm.go:23
    refine wl_box (cs := (trc nb T.length cap z1 z2 z3 z4)) rfl rfl (fun ab w7 hbab hA F7 => ?_)
    have hbsab := Nat.le_trans hF.size hbab
    have hnenbab : nb < ab := Nat.lt_of_lt_of_le hT.lt hbab
    replace hF := hF.thenDrew.thenN F7
    replace hT := F7.blkN hT
    refine wl (ro_assign rfl) ?_
    refine wl_nil (x_then (hK1 _ _ ?_))
    clear hK1 K1
    refine forget [(1, _), (2, _)] ⟨rfl, rfl, trivial⟩ (fun e => ?_)
    refine c_seq (fun K15 hK15 => ?_)
    refine c_reg ?_ -- region 1 simpm.go:24
    refine wl (ro_fieldAddr (k := 0) rfl fo_151_0) ?_
    refine wl (ro_loadB rfl sc_98 (hA) (rfl)) ?_
    refine wl (ro_move rfl) ?_
    refine wl (ro_indexAddr (et := 89) (k := 11) rfl rfl se_98 (rfl) (hkl)) ?_
    refine wl (ro_loadAggB rfl ag_89 (hT) (rfl) (hld)) ?_
    refine wl_new (ze_89) (fun xb w8 hbxb hX F8 => ?_)
    have hbsxb := Nat.le_trans hF.size hbxb
    have hnenbxb : nb < xb := Nat.lt_of_lt_of_le hT.lt hbxb
    have hneabxb : ab < xb := Nat.lt_of_lt_of_le hA.lt hbxb
    replace hF := hF.thenDrew.thenN F8
    replace hT := F8.blkN hT
    replace hA := F8.blkN hA
    refine wl_puta rfl rfl (by simp [Value.oneCell', i64c, u64c, u8c, ptr]) sz_89 (rfl) hX ((by simp)) (rfl) (fun w9 hX F9 => ?_)
    replace hF := hF.thenDrew.thenO F9 (by first | exact .inr (by omega) | exact .inl rfl | exact .inl (by assumption))
    replace hT := F9.blkO hT (by omega)
    replace hA := F9.blkO hA (by omega)
    refine wl_nil (x_then (hK15 _ _ ?_))
    clear hK15 K15
    refine c_seq (fun K16 hK16 => ?_)
    refine c_seq (fun K17 hK17 => ?_)
    refine c_reg ?_ -- region 2 simpm.go:25
    refine wl (ro_fieldAddr (k := 0) rfl fo_89_0) ?_
    refine wl (ro_loadB rfl sc_3 (by assumption) rfl) ?_
    refine wl_nil (x_then (hK17 _ _ ?_))
    clear hK17 K17
    refine c_block ?_
    refine forget [(2, _), (5, _), (17, _)] ⟨rfl, rfl, rfl, trivial⟩ (fun e => ?_)
    refine c_seq (fun K18 hK18 => ?_)
    refine c_reg ?_ -- region 3 simpm.go:26
    refine wl (ro_cmp rfl rfl rfl) ?_
    refine wl (ro_assign rfl) ?_
    refine wl_nil (x_then (hK18 _ _ ?_))
    clear hK18 K18
    refine wc_condF rfl ?_
    refine c_seq (fun K19 hK19 => ?_)
    refine c_reg ?_ -- region 5 simpm.go:28
    refine wl (ro_cmp rfl rfl rfl) ?_
    refine wl (ro_assign rfl) ?_
    refine wl_nil (x_then (hK19 _ _ ?_))
    clear hK19 K19
    refine wc_condF rfl ?_
    refine c_seq (fun K20 hK20 => ?_)
    refine c_reg ?_ -- region 8 simpm.go:32
    refine wl (ro_cmp rfl rfl rfl) ?_
    refine wl (ro_assign rfl) ?_
    refine wl_nil (x_then (hK20 _ _ ?_))
    clear hK20 K20
    refine wc_condF rfl ?_
    refine c_seq (fun K21 hK21 => ?_)
    refine c_reg ?_ -- region 15 simpm.go:41
    refine wl (ro_cmp rfl rfl rfl) ?_
    refine wl (ro_assign rfl) ?_
    refine wl_nil (x_then (hK21 _ _ ?_))
    clear hK21 K21
    refine wc_condF rfl ?_
    refine c_seq (fun K22 hK22 => ?_)
    refine c_reg ?_ -- region 22 simpm.go:50
    refine wl (ro_cmp rfl rfl rfl) ?_
    refine wl (ro_assign rfl) ?_
    refine wl_nil (x_then (hK22 _ _ ?_))
    clear hK22 K22
    refine wc_condF rfl ?_
    refine c_seq (fun K23 hK23 => ?_)
    refine c_reg ?_ -- region 25 simpm.go:54
    refine wl (ro_cmp rfl rfl rfl) ?_
    refine wl (ro_assign rfl) ?_
    refine wl_nil (x_then (hK23 _ _ ?_))
    clear hK23 K23
    refine wc_condF rfl ?_
    refine c_skip (x_blk (x_then (hK16 _ _ ?_)))
    clear hK16 K16
    refine forget [] trivial (fun e => ?_)
    refine c_seq (fun K24 hK24 => ?_)
    refine c_reg ?_ -- region 31 simpm.go:63
    refine wl (ro_assign rfl) ?_
    refine wl_nil (x_then (hK24 _ _ ?_))
    clear hK24 K24
    refine c_ret ?_
    refine bp_ret Tryz.results117 rfl ?_
    rw [hq]; exact ⟨rfl, hF⟩
  · skip
    refine c_reg ?_ -- region 0 simpm.go:23
    refine wl_box (cs := (trc nb T.length cap z1 z2 z3 z4)) rfl rfl (fun ab w10 hbab hA F10 => ?_)
    have hbsab := Nat.le_trans hF.size hbab
    have hnenbab : nb < ab := Nat.lt_of_lt_of_le hT.lt hbab
    replace hF := hF.thenDrew.thenN F10
    replace hT := F10.blkN hT
    refine wl (ro_assign rfl) ?_
    refine wl_nil (x_then (hK1 _ _ ?_))
    clear hK1 K1
    refine forget [(1, _), (2, _)] ⟨rfl, rfl, trivial⟩ (fun e => ?_)
    refine c_seq (fun K25 hK25 => ?_)
    refine c_reg ?_ -- region 1 simpm.go:24
    refine wl (ro_fieldAddr (k := 0) rfl fo_151_0) ?_
    refine wl (ro_loadB rfl sc_98 (hA) (rfl)) ?_
    refine wl (ro_move rfl) ?_
    refine wl (ro_indexAddr (et := 89) (k := 11) rfl rfl se_98 (rfl) (hkl)) ?_
    refine wl (ro_loadAggB rfl ag_89 (hT) (rfl) (hld)) ?_
    refine wl_new (ze_89) (fun xb w11 hbxb hX F11 => ?_)
    have hbsxb := Nat.le_trans hF.size hbxb
    have hnenbxb : nb < xb := Nat.lt_of_lt_of_le hT.lt hbxb
    have hneabxb : ab < xb := Nat.lt_of_lt_of_le hA.lt hbxb
    replace hF := hF.thenDrew.thenN F11
    replace hT := F11.blkN hT
    replace hA := F11.blkN hA
    refine wl_puta rfl rfl (by simp [Value.oneCell', i64c, u64c, u8c, ptr]) sz_89 (rfl) hX ((by simp)) (rfl) (fun w12 hX F12 => ?_)
    replace hF := hF.thenDrew.thenO F12 (by first | exact .inr (by omega) | exact .inl rfl | exact .inl (by assumption))
    replace hT := F12.blkO hT (by omega)
    replace hA := F12.blkO hA (by omega)
    refine wl_nil (x_then (hK25 _ _ ?_))
    clear hK25 K25
    refine c_seq (fun K26 hK26 => ?_)
    refine c_seq (fun K27 hK27 => ?_)
    refine c_reg ?_ -- region 2 simpm.go:25
    refine wl (ro_fieldAddr (k := 0) rfl fo_89_0) ?_
    refine wl (ro_loadB rfl sc_3 (by assumption) rfl) ?_
    refine wl_nil (x_then (hK27 _ _ ?_))
    clear hK27 K27
    refine c_block ?_
    refine forget [(2, _), (5, _), (17, _)] ⟨rfl, rfl, rfl, trivial⟩ (fun e => ?_)
    refine c_seq (fun K28 hK28 => ?_)
    refine c_reg ?_ -- region 3 simpm.go:26
    refine wl (ro_cmp rfl rfl rfl) ?_
    refine wl (ro_assign rfl) ?_
    refine wl_nil (x_then (hK28 _ _ ?_))
    clear hK28 K28
    refine wc_condF rfl ?_
    refine c_seq (fun K29 hK29 => ?_)
    refine c_reg ?_ -- region 5 simpm.go:28
    refine wl (ro_cmp rfl rfl rfl) ?_
    refine wl (ro_assign rfl) ?_
    refine wl_nil (x_then (hK29 _ _ ?_))
    clear hK29 K29
    refine wc_condF rfl ?_
    refine c_seq (fun K30 hK30 => ?_)
    refine c_reg ?_ -- region 8 simpm.go:32
    refine wl (ro_cmp rfl rfl rfl) ?_
    refine wl (ro_assign rfl) ?_
    refine wl_nil (x_then (hK30 _ _ ?_))
    clear hK30 K30
    refine wc_condF rfl ?_
    refine c_seq (fun K31 hK31 => ?_)
    refine c_reg ?_ -- region 15 simpm.go:41
    refine wl (ro_cmp rfl rfl rfl) ?_
    refine wl (ro_assign rfl) ?_
    refine wl_nil (x_then (hK31 _ _ ?_))
    clear hK31 K31
    refine wc_condF rfl ?_
    refine c_seq (fun K32 hK32 => ?_)
    refine c_reg ?_ -- region 22 simpm.go:50
    refine wl (ro_cmp rfl rfl rfl) ?_
    refine wl (ro_assign rfl) ?_
    refine wl_nil (x_then (hK32 _ _ ?_))
    clear hK32 K32
    refine wc_condF rfl ?_
    refine c_seq (fun K33 hK33 => ?_)
    refine c_reg ?_ -- region 25 simpm.go:54
    refine wl (ro_cmp rfl rfl rfl) ?_
    refine wl (ro_assign rfl) ?_
    refine wl_nil (x_then (hK33 _ _ ?_))
    clear hK33 K33
    refine wc_condF rfl ?_
    refine c_skip (x_blk (x_then (hK26 _ _ ?_)))
    clear hK26 K26
    refine forget [] trivial (fun e => ?_)
    refine c_seq (fun K34 hK34 => ?_)
    refine c_reg ?_ -- region 31 simpm.go:63
    refine wl (ro_assign rfl) ?_
    refine wl_nil (x_then (hK34 _ _ ?_))
    clear hK34 K34
    refine c_ret ?_
    refine bp_ret Tryz.results117 rfl ?_
    rw [hq]; exact ⟨rfl, hF⟩
  · skip
    have hwa : WF a := by rw [hq] at hw; exact hw.1
    have hwb : WF b := by rw [hq] at hw; exact hw.2
    have ca := shp_cases a
    have cb := shp_cases b
    have hs : shp r = if shp a = 1 ∨ shp b = 1 then 1 else if shp a = 0 ∧ shp b = 0 then 0 else 2 := by rw [hq]; rfl
    refine c_reg ?_ -- region 0 simpm.go:23
    refine wl_box (cs := (trc nb T.length cap z1 z2 z3 z4)) rfl rfl (fun ab w13 hbab hA F13 => ?_)
    have hbsab := Nat.le_trans hF.size hbab
    have hnenbab : nb < ab := Nat.lt_of_lt_of_le hT.lt hbab
    replace hF := hF.thenDrew.thenN F13
    replace hT := F13.blkN hT
    refine wl (ro_assign rfl) ?_
    refine wl_nil (x_then (hK1 _ _ ?_))
    clear hK1 K1
    refine forget [(1, _), (2, _)] ⟨rfl, rfl, trivial⟩ (fun e => ?_)
    refine c_seq (fun K35 hK35 => ?_)
    refine c_reg ?_ -- region 1 simpm.go:24
    refine wl (ro_fieldAddr (k := 0) rfl fo_151_0) ?_
    refine wl (ro_loadB rfl sc_98 (hA) (rfl)) ?_
    refine wl (ro_move rfl) ?_
    refine wl (ro_indexAddr (et := 89) (k := 11) rfl rfl se_98 (rfl) (hkl)) ?_
    refine wl (ro_loadAggB rfl ag_89 (hT) (rfl) (hld)) ?_
    refine wl_new (ze_89) (fun xb w14 hbxb hX F14 => ?_)
    have hbsxb := Nat.le_trans hF.size hbxb
    have hnenbxb : nb < xb := Nat.lt_of_lt_of_le hT.lt hbxb
    have hneabxb : ab < xb := Nat.lt_of_lt_of_le hA.lt hbxb
    replace hF := hF.thenDrew.thenN F14
    replace hT := F14.blkN hT
    replace hA := F14.blkN hA
    refine wl_puta rfl rfl (by simp [Value.oneCell', i64c, u64c, u8c, ptr]) sz_89 (rfl) hX ((by simp)) (rfl) (fun w15 hX F15 => ?_)
    replace hF := hF.thenDrew.thenO F15 (by first | exact .inr (by omega) | exact .inl rfl | exact .inl (by assumption))
    replace hT := F15.blkO hT (by omega)
    replace hA := F15.blkO hA (by omega)
    refine wl_nil (x_then (hK35 _ _ ?_))
    clear hK35 K35
    refine c_seq (fun K36 hK36 => ?_)
    refine c_seq (fun K37 hK37 => ?_)
    refine c_reg ?_ -- region 2 simpm.go:25
    refine wl (ro_fieldAddr (k := 0) rfl fo_89_0) ?_
    refine wl (ro_loadB rfl sc_3 (by assumption) rfl) ?_
    refine wl_nil (x_then (hK37 _ _ ?_))
    clear hK37 K37
    refine c_block ?_
    refine forget [(2, _), (5, _), (17, _)] ⟨rfl, rfl, rfl, trivial⟩ (fun e => ?_)
    refine c_seq (fun K38 hK38 => ?_)
    refine c_reg ?_ -- region 3 simpm.go:26
    refine wl (ro_cmp rfl rfl rfl) ?_
    refine wl (ro_assign rfl) ?_
    refine wl_nil (x_then (hK38 _ _ ?_))
    clear hK38 K38
    refine wc_condF rfl ?_
    refine c_seq (fun K39 hK39 => ?_)
    refine c_reg ?_ -- region 5 simpm.go:28
    refine wl (ro_cmp rfl rfl rfl) ?_
    refine wl (ro_assign rfl) ?_
    refine wl_nil (x_then (hK39 _ _ ?_))
    clear hK39 K39
    refine wc_condF rfl ?_
    refine c_seq (fun K40 hK40 => ?_)
    refine c_reg ?_ -- region 8 simpm.go:32
    refine wl (ro_cmp rfl rfl rfl) ?_
    refine wl (ro_assign rfl) ?_
    refine wl_nil (x_then (hK40 _ _ ?_))
    clear hK40 K40
    refine wc_condT rfl ?_
    refine c_seq (fun K41 hK41 => ?_)
    refine c_reg ?_ -- region 9 simpm.go:33
    refine wl (ro_loadAggB rfl ag_151 (hA) (rfl) (rfl)) ?_
    refine wl (ro_fieldAddr (k := 1) rfl fo_89_1) ?_
    refine wl (ro_loadB rfl sc_3 (hX) (rfl)) ?_
    refine wl_call rfl en_117 (ih i hi hT hia hwa) ?_
    rintro _ w16 ⟨rfl, F16⟩
    replace hF := hF.thenDrew.thenN F16
    replace hT := F16.blkN hT
    replace hA := F16.blkN hA
    replace hX := F16.blkN hX
    refine wl (ro_assign rfl) ?_
    refine wl_nil (x_then (hK41 _ _ ?_))
    clear hK41 K41
    refine forget [(2, _), (5, _), (6, _)] ⟨rfl, rfl, rfl, trivial⟩ (fun e => ?_)
    refine c_seq (fun K42 hK42 => ?_)
    refine c_reg ?_ -- region 10 simpm.go:34
    refine wl (ro_loadAggB rfl ag_151 (hA) (rfl) (rfl)) ?_
    refine wl (ro_fieldAddr (k := 2) rfl fo_89_2) ?_
    refine wl (ro_loadB rfl sc_3 (hX) (rfl)) ?_
    refine wl_call rfl en_117 (ih j hj hT hjb hwb) ?_
    rintro _ w17 ⟨rfl, F17⟩
    replace hF := hF.thenDrew.thenN F17
    replace hT := F17.blkN hT
    replace hA := F17.blkN hA
    replace hX := F17.blkN hX
    refine wl (ro_assign rfl) ?_
    refine wl_nil (x_then (hK42 _ _ ?_))
    clear hK42 K42
    refine c_seq (fun K43 hK43 => ?_)
    refine c_seq (fun K44 hK44 => ?_)
    have hqs : shp a = 1 ∨ (shp a ≠ 1 ∧ shp b = 1) ∨ (shp a = 0 ∧ shp b = 0) ∨ (shp a = 0 ∧ shp b = 2) ∨ (shp a = 2 ∧ shp b ≠ 1) := by omega
    rcases hqs with q | q | q | q | q
    · skip
      refine c_reg ?_ -- region 11 simpm.go:35
      refine wl (ro_move rfl) ?_
      refine wl (ro_cmp (r := true) rfl rfl (congrArg some ((beqc (shp a) 1).trans (decide_eq_true (by omega))))) ?_
      refine wl (ro_move rfl) ?_
      refine wlg_no rfl ?_
      refine wlg_no rfl ?_
      refine wl (ro_pick rfl rfl rfl) ?_
      refine wl_nil (x_then (hK44 _ _ ?_))
      clear hK44 K44
      refine wc_condT rfl ?_
      refine c_seq (fun K45 hK45 => ?_)
      refine c_reg ?_ -- region 12 simpm.go:36
      refine wl (ro_assign rfl) ?_
      refine wl_nil (x_then (hK45 _ _ ?_))
      clear hK45 K45
      refine c_ret (x_thenR (x_blkR (x_thenR ?_)))
      refine bp_ret Tryz.results117 rfl ?_
      first
        | (have e9 : shp r = 1 := (by rw [hs]; (repeat' split) <;> omega); rw [e9]; exact ⟨rfl, hF⟩)
        | (have e9 : shp r = 0 := (by rw [hs]; (repeat' split) <;> omega); rw [e9]; exact ⟨rfl, hF⟩)
        | (have e9 : shp r = 2 := (by rw [hs]; (repeat' split) <;> omega); rw [e9]; exact ⟨rfl, hF⟩)
    · skip
      refine c_reg ?_ -- region 11 simpm.go:35
      refine wl (ro_move rfl) ?_
      refine wl (ro_cmp (r := false) rfl rfl (congrArg some ((beqc (shp a) 1).trans (decide_eq_false (by omega))))) ?_
      refine wl (ro_move rfl) ?_
      refine wlg_yes rfl (ro_move rfl) ?_
      refine wlg_yes rfl (ro_cmp (r := true) rfl rfl (congrArg some ((beqc (shp b) 1).trans (decide_eq_true (by omega))))) ?_
      refine wl (ro_pick rfl rfl rfl) ?_
      refine wl_nil (x_then (hK44 _ _ ?_))
      clear hK44 K44
      refine wc_condT rfl ?_
      refine c_seq (fun K46 hK46 => ?_)
      refine c_reg ?_ -- region 12 simpm.go:36
      refine wl (ro_assign rfl) ?_
      refine wl_nil (x_then (hK46 _ _ ?_))
      clear hK46 K46
      refine c_ret (x_thenR (x_blkR (x_thenR ?_)))
      refine bp_ret Tryz.results117 rfl ?_
      first
        | (have e9 : shp r = 1 := (by rw [hs]; (repeat' split) <;> omega); rw [e9]; exact ⟨rfl, hF⟩)
        | (have e9 : shp r = 0 := (by rw [hs]; (repeat' split) <;> omega); rw [e9]; exact ⟨rfl, hF⟩)
        | (have e9 : shp r = 2 := (by rw [hs]; (repeat' split) <;> omega); rw [e9]; exact ⟨rfl, hF⟩)
    · skip
      refine c_reg ?_ -- region 11 simpm.go:35
      refine wl (ro_move rfl) ?_
      refine wl (ro_cmp (r := false) rfl rfl (congrArg some ((beqc (shp a) 1).trans (decide_eq_false (by omega))))) ?_
      refine wl (ro_move rfl) ?_
      refine wlg_yes rfl (ro_move rfl) ?_
      refine wlg_yes rfl (ro_cmp (r := false) rfl rfl (congrArg some ((beqc (shp b) 1).trans (decide_eq_false (by omega))))) ?_
      refine wl (ro_pick rfl rfl rfl) ?_
      refine wl_nil (x_then (hK44 _ _ ?_))
      clear hK44 K44
      refine wc_condF rfl ?_
      refine c_skip (x_then (hK43 _ _ ?_))
      clear hK43 K43
      refine forget [(6, _), (7, _)] ⟨rfl, rfl, trivial⟩ (fun e => ?_)
      refine c_seq (fun K47 hK47 => ?_)
      refine c_reg ?_ -- region 13 simpm.go:38
      refine wl (ro_move rfl) ?_
      refine wl (ro_cmp (r := true) rfl rfl (congrArg some ((beqc (shp a) 0).trans (decide_eq_true (by omega))))) ?_
      refine wl (ro_move rfl) ?_
      refine wlg_yes rfl (ro_move rfl) ?_
      refine wlg_yes rfl (ro_cmp (r := true) rfl rfl (congrArg some ((beqc (shp b) 0).trans (decide_eq_true (by omega))))) ?_
      refine wl (ro_pick rfl rfl rfl) ?_
      refine wl_nil (x_then (hK47 _ _ ?_))
      clear hK47 K47
      refine wc_condT rfl ?_
      refine c_seq (fun K48 hK48 => ?_)
      refine c_reg ?_ -- region 14 simpm.go:39
      refine wl (ro_assign rfl) ?_
      refine wl_nil (x_then (hK48 _ _ ?_))
      clear hK48 K48
      refine c_ret (x_blkR (x_thenR ?_))
      refine bp_ret Tryz.results117 rfl ?_
      first
        | (have e9 : shp r = 1 := (by rw [hs]; (repeat' split) <;> omega); rw [e9]; exact ⟨rfl, hF⟩)
        | (have e9 : shp r = 0 := (by rw [hs]; (repeat' split) <;> omega); rw [e9]; exact ⟨rfl, hF⟩)
        | (have e9 : shp r = 2 := (by rw [hs]; (repeat' split) <;> omega); rw [e9]; exact ⟨rfl, hF⟩)
    · skip
      refine c_reg ?_ -- region 11 simpm.go:35
      refine wl (ro_move rfl) ?_
      refine wl (ro_cmp (r := false) rfl rfl (congrArg some ((beqc (shp a) 1).trans (decide_eq_false (by omega))))) ?_
      refine wl (ro_move rfl) ?_
      refine wlg_yes rfl (ro_move rfl) ?_
      refine wlg_yes rfl (ro_cmp (r := false) rfl rfl (congrArg some ((beqc (shp b) 1).trans (decide_eq_false (by omega))))) ?_
      refine wl (ro_pick rfl rfl rfl) ?_
      refine wl_nil (x_then (hK44 _ _ ?_))
      clear hK44 K44
      refine wc_condF rfl ?_
      refine c_skip (x_then (hK43 _ _ ?_))
      clear hK43 K43
      refine forget [(6, _), (7, _)] ⟨rfl, rfl, trivial⟩ (fun e => ?_)
      refine c_seq (fun K49 hK49 => ?_)
      refine c_reg ?_ -- region 13 simpm.go:38
      refine wl (ro_move rfl) ?_
      refine wl (ro_cmp (r := true) rfl rfl (congrArg some ((beqc (shp a) 0).trans (decide_eq_true (by omega))))) ?_
      refine wl (ro_move rfl) ?_
      refine wlg_yes rfl (ro_move rfl) ?_
      refine wlg_yes rfl (ro_cmp (r := false) rfl rfl (congrArg some ((beqc (shp b) 0).trans (decide_eq_false (by omega))))) ?_
      refine wl (ro_pick rfl rfl rfl) ?_
      refine wl_nil (x_then (hK49 _ _ ?_))
      clear hK49 K49
      refine wc_condF rfl ?_
      refine c_skip (x_blk (x_then (hK36 _ _ ?_)))
      clear hK36 K36
      refine forget [] trivial (fun e => ?_)
      refine c_seq (fun K50 hK50 => ?_)
      refine c_reg ?_ -- region 31 simpm.go:63
      refine wl (ro_assign rfl) ?_
      refine wl_nil (x_then (hK50 _ _ ?_))
      clear hK50 K50
      refine c_ret ?_
      refine bp_ret Tryz.results117 rfl ?_
      first
        | (have e9 : shp r = 1 := (by rw [hs]; (repeat' split) <;> omega); rw [e9]; exact ⟨rfl, hF⟩)
        | (have e9 : shp r = 0 := (by rw [hs]; (repeat' split) <;> omega); rw [e9]; exact ⟨rfl, hF⟩)
        | (have e9 : shp r = 2 := (by rw [hs]; (repeat' split) <;> omega); rw [e9]; exact ⟨rfl, hF⟩)
    · skip
      refine c_reg ?_ -- region 11 simpm.go:35
      refine wl (ro_move rfl) ?_
      refine wl (ro_cmp (r := false) rfl rfl (congrArg some ((beqc (shp a) 1).trans (decide_eq_false (by omega))))) ?_
      refine wl (ro_move rfl) ?_
      refine wlg_yes rfl (ro_move rfl) ?_
      refine wlg_yes rfl (ro_cmp (r := false) rfl rfl (congrArg some ((beqc (shp b) 1).trans (decide_eq_false (by omega))))) ?_
      refine wl (ro_pick rfl rfl rfl) ?_
      refine wl_nil (x_then (hK44 _ _ ?_))
      clear hK44 K44
      refine wc_condF rfl ?_
      refine c_skip (x_then (hK43 _ _ ?_))
      clear hK43 K43
      refine forget [(6, _), (7, _)] ⟨rfl, rfl, trivial⟩ (fun e => ?_)
      refine c_seq (fun K51 hK51 => ?_)
      refine c_reg ?_ -- region 13 simpm.go:38
      refine wl (ro_move rfl) ?_
      refine wl (ro_cmp (r := false) rfl rfl (congrArg some ((beqc (shp a) 0).trans (decide_eq_false (by omega))))) ?_
      refine wl (ro_move rfl) ?_
      refine wlg_no rfl ?_
      refine wlg_no rfl ?_
      refine wl (ro_pick rfl rfl rfl) ?_
      refine wl_nil (x_then (hK51 _ _ ?_))
      clear hK51 K51
      refine wc_condF rfl ?_
      refine c_skip (x_blk (x_then (hK36 _ _ ?_)))
      clear hK36 K36
      refine forget [] trivial (fun e => ?_)
      refine c_seq (fun K52 hK52 => ?_)
      refine c_reg ?_ -- region 31 simpm.go:63
      refine wl (ro_assign rfl) ?_
      refine wl_nil (x_then (hK52 _ _ ?_))
      clear hK52 K52
      refine c_ret ?_
      refine bp_ret Tryz.results117 rfl ?_
      first
        | (have e9 : shp r = 1 := (by rw [hs]; (repeat' split) <;> omega); rw [e9]; exact ⟨rfl, hF⟩)
        | (have e9 : shp r = 0 := (by rw [hs]; (repeat' split) <;> omega); rw [e9]; exact ⟨rfl, hF⟩)
        | (have e9 : shp r = 2 := (by rw [hs]; (repeat' split) <;> omega); rw [e9]; exact ⟨rfl, hF⟩)
  · skip
    have hwa : WF a := by rw [hq] at hw; exact hw.1
    have hwb : WF b := by rw [hq] at hw; exact hw.2
    have ca := shp_cases a
    have cb := shp_cases b
    have hs : shp r = if shp a = 1 then shp b else if shp b = 1 ∨ (shp a = 0 ∧ shp b = 0) then shp a else 2 := by rw [hq]; rfl
    refine c_reg ?_ -- region 0 simpm.go:23
    refine wl_box (cs := (trc nb T.length cap z1 z2 z3 z4)) rfl rfl (fun ab w18 hbab hA F18 => ?_)
    have hbsab := Nat.le_trans hF.size hbab
    have hnenbab : nb < ab := Nat.lt_of_lt_of_le hT.lt hbab
    replace hF := hF.thenDrew.thenN F18
    replace hT := F18.blkN hT
    refine wl (ro_assign rfl) ?_
    refine wl_nil (x_then (hK1 _ _ ?_))
    clear hK1 K1
    refine forget [(1, _), (2, _)] ⟨rfl, rfl, trivial⟩ (fun e => ?_)
    refine c_seq (fun K53 hK53 => ?_)
    refine c_reg ?_ -- region 1 simpm.go:24
    refine wl (ro_fieldAddr (k := 0) rfl fo_151_0) ?_
    refine wl (ro_loadB rfl sc_98 (hA) (rfl)) ?_
    refine wl (ro_move rfl) ?_
    refine wl (ro_indexAddr (et := 89) (k := 11) rfl rfl se_98 (rfl) (hkl)) ?_
    refine wl (ro_loadAggB rfl ag_89 (hT) (rfl) (hld)) ?_
    refine wl_new (ze_89) (fun xb w19 hbxb hX F19 => ?_)
    have hbsxb := Nat.le_trans hF.size hbxb
    have hnenbxb : nb < xb := Nat.lt_of_lt_of_le hT.lt hbxb
    have hneabxb : ab < xb := Nat.lt_of_lt_of_le hA.lt hbxb
    replace hF := hF.thenDrew.thenN F19
    replace hT := F19.blkN hT
    replace hA := F19.blkN hA
    refine wl_puta rfl rfl (by simp [Value.oneCell', i64c, u64c, u8c, ptr]) sz_89 (rfl) hX ((by simp)) (rfl) (fun w20 hX F20 => ?_)
    replace hF := hF.thenDrew.thenO F20 (by first | exact .inr (by omega) | exact .inl rfl | exact .inl (by assumption))
    replace hT := F20.blkO hT (by omega)
    replace hA := F20.blkO hA (by omega)
    refine wl_nil (x_then (hK53 _ _ ?_))
    clear hK53 K53
    refine c_seq (fun K54 hK54 => ?_)
    refine c_seq (fun K55 hK55 => ?_)
    refine c_reg ?_ -- region 2 simpm.go:25
    refine wl (ro_fieldAddr (k := 0) rfl fo_89_0) ?_
    refine wl (ro_loadB rfl sc_3 (by assumption) rfl) ?_
    refine wl_nil (x_then (hK55 _ _ ?_))
    clear hK55 K55
    refine c_block ?_
    refine forget [(2, _), (5, _), (17, _)] ⟨rfl, rfl, rfl, trivial⟩ (fun e => ?_)
    refine c_seq (fun K56 hK56 => ?_)
    refine c_reg ?_ -- region 3 simpm.go:26
    refine wl (ro_cmp rfl rfl rfl) ?_
    refine wl (ro_assign rfl) ?_
    refine wl_nil (x_then (hK56 _ _ ?_))
    clear hK56 K56
    refine wc_condF rfl ?_
    refine c_seq (fun K57 hK57 => ?_)
    refine c_reg ?_ -- region 5 simpm.go:28
    refine wl (ro_cmp rfl rfl rfl) ?_
    refine wl (ro_assign rfl) ?_
    refine wl_nil (x_then (hK57 _ _ ?_))
    clear hK57 K57
    refine wc_condF rfl ?_
    refine c_seq (fun K58 hK58 => ?_)
    refine c_reg ?_ -- region 8 simpm.go:32
    refine wl (ro_cmp rfl rfl rfl) ?_
    refine wl (ro_assign rfl) ?_
    refine wl_nil (x_then (hK58 _ _ ?_))
    clear hK58 K58
    refine wc_condF rfl ?_
    refine c_seq (fun K59 hK59 => ?_)
    refine c_reg ?_ -- region 15 simpm.go:41
    refine wl (ro_cmp rfl rfl rfl) ?_
    refine wl (ro_assign rfl) ?_
    refine wl_nil (x_then (hK59 _ _ ?_))
    clear hK59 K59
    refine wc_condT rfl ?_
    refine c_seq (fun K60 hK60 => ?_)
    refine c_reg ?_ -- region 16 simpm.go:42
    refine wl (ro_loadAggB rfl ag_151 (hA) (rfl) (rfl)) ?_
    refine wl (ro_fieldAddr (k := 1) rfl fo_89_1) ?_
    refine wl (ro_loadB rfl sc_3 (hX) (rfl)) ?_
    refine wl_call rfl en_117 (ih i hi hT hia hwa) ?_
    rintro _ w21 ⟨rfl, F21⟩
    replace hF := hF.thenDrew.thenN F21
    replace hT := F21.blkN hT
    replace hA := F21.blkN hA
    replace hX := F21.blkN hX
    refine wl (ro_assign rfl) ?_
    refine wl_nil (x_then (hK60 _ _ ?_))
    clear hK60 K60
    refine forget [(2, _), (5, _), (8, _)] ⟨rfl, rfl, rfl, trivial⟩ (fun e => ?_)
    refine c_seq (fun K61 hK61 => ?_)
    refine c_reg ?_ -- region 17 simpm.go:43
    refine wl (ro_loadAggB rfl ag_151 (hA) (rfl) (rfl)) ?_
    refine wl (ro_fieldAddr (k := 2) rfl fo_89_2) ?_
    refine wl (ro_loadB rfl sc_3 (hX) (rfl)) ?_
    refine wl_call rfl en_117 (ih j hj hT hjb hwb) ?_
    rintro _ w22 ⟨rfl, F22⟩
    replace hF := hF.thenDrew.thenN F22
    replace hT := F22.blkN hT
    replace hA := F22.blkN hA
    replace hX := F22.blkN hX
    refine wl (ro_assign rfl) ?_
    refine wl_nil (x_then (hK61 _ _ ?_))
    clear hK61 K61
    refine c_seq (fun K62 hK62 => ?_)
    refine c_seq (fun K63 hK63 => ?_)
    have hqs : shp a = 1 ∨ (shp a ≠ 1 ∧ shp b = 1) ∨ (shp a = 0 ∧ shp b = 0) ∨ (shp a = 0 ∧ shp b = 2) ∨ (shp a = 2 ∧ shp b ≠ 1) := by omega
    rcases hqs with q | q | q | q | q
    · skip
      refine c_reg ?_ -- region 18 simpm.go:44
      refine wl (ro_move rfl) ?_
      refine wl (ro_cmp (r := true) rfl rfl (congrArg some ((beqc (shp a) 1).trans (decide_eq_true (by omega))))) ?_
      refine wl_nil (x_then (hK63 _ _ ?_))
      clear hK63 K63
      refine wc_condT rfl ?_
      refine c_seq (fun K64 hK64 => ?_)
      refine c_reg ?_ -- region 19 simpm.go:45
      refine wl (ro_move rfl) ?_
      refine wl (ro_assign rfl) ?_
      refine wl_nil (x_then (hK64 _ _ ?_))
      clear hK64 K64
      refine c_ret (x_thenR (x_blkR (x_thenR ?_)))
      refine bp_ret Tryz.results117 rfl ?_
      first
        | (have e9 : shp r = shp b := (by rw [hs]; (repeat' split) <;> omega); rw [e9]; exact ⟨rfl, hF⟩)
        | (have e9 : shp r = shp a := (by rw [hs]; (repeat' split) <;> omega); rw [e9]; exact ⟨rfl, hF⟩)
        | (have e9 : shp r = 2 := (by rw [hs]; (repeat' split) <;> omega); rw [e9]; exact ⟨rfl, hF⟩)
    · skip
      refine c_reg ?_ -- region 18 simpm.go:44
      refine wl (ro_move rfl) ?_
      refine wl (ro_cmp (r := false) rfl rfl (congrArg some ((beqc (shp a) 1).trans (decide_eq_false (by omega))))) ?_
      refine wl_nil (x_then (hK63 _ _ ?_))
      clear hK63 K63
      refine wc_condF rfl ?_
      refine c_skip (x_then (hK62 _ _ ?_))
      clear hK62 K62
      refine forget [(8, _), (9, _)] ⟨rfl, rfl, trivial⟩ (fun e => ?_)
      refine c_seq (fun K65 hK65 => ?_)
      refine c_reg ?_ -- region 20 simpm.go:47
      refine wl (ro_move rfl) ?_
      refine wl (ro_cmp (r := true) rfl rfl (congrArg some ((beqc (shp b) 1).trans (decide_eq_true (by omega))))) ?_
      refine wl (ro_move rfl) ?_
      refine wlg_no rfl ?_
      refine wlg_no rfl ?_
      refine wlg_no rfl ?_
      refine wlg_no rfl ?_
      refine wlg_no rfl ?_
      refine wlg_no rfl ?_
      refine wl (ro_pick rfl rfl rfl) ?_
      refine wl_nil (x_then (hK65 _ _ ?_))
      clear hK65 K65
      refine wc_condT rfl ?_
      refine c_seq (fun K66 hK66 => ?_)
      refine c_reg ?_ -- region 21 simpm.go:48
      refine wl (ro_move rfl) ?_
      refine wl (ro_assign rfl) ?_
      refine wl_nil (x_then (hK66 _ _ ?_))
      clear hK66 K66
      refine c_ret (x_blkR (x_thenR ?_))
      refine bp_ret Tryz.results117 rfl ?_
      first
        | (have e9 : shp r = shp b := (by rw [hs]; (repeat' split) <;> omega); rw [e9]; exact ⟨rfl, hF⟩)
        | (have e9 : shp r = shp a := (by rw [hs]; (repeat' split) <;> omega); rw [e9]; exact ⟨rfl, hF⟩)
        | (have e9 : shp r = 2 := (by rw [hs]; (repeat' split) <;> omega); rw [e9]; exact ⟨rfl, hF⟩)
    · skip
      refine c_reg ?_ -- region 18 simpm.go:44
      refine wl (ro_move rfl) ?_
      refine wl (ro_cmp (r := false) rfl rfl (congrArg some ((beqc (shp a) 1).trans (decide_eq_false (by omega))))) ?_
      refine wl_nil (x_then (hK63 _ _ ?_))
      clear hK63 K63
      refine wc_condF rfl ?_
      refine c_skip (x_then (hK62 _ _ ?_))
      clear hK62 K62
      refine forget [(8, _), (9, _)] ⟨rfl, rfl, trivial⟩ (fun e => ?_)
      refine c_seq (fun K67 hK67 => ?_)
      refine c_reg ?_ -- region 20 simpm.go:47
      refine wl (ro_move rfl) ?_
      refine wl (ro_cmp (r := false) rfl rfl (congrArg some ((beqc (shp b) 1).trans (decide_eq_false (by omega))))) ?_
      refine wl (ro_move rfl) ?_
      refine wlg_yes rfl (ro_move rfl) ?_
      refine wlg_yes rfl (ro_cmp (r := true) rfl rfl (congrArg some ((beqc (shp a) 0).trans (decide_eq_true (by omega))))) ?_
      refine wlg_yes rfl (ro_move rfl) ?_
      refine wlg_yes rfl (ro_move rfl) ?_
      refine wlg_yes rfl (ro_cmp (r := true) rfl rfl (congrArg some ((beqc (shp b) 0).trans (decide_eq_true (by omega))))) ?_
      refine wlg_yes rfl (ro_pick rfl rfl rfl) ?_
      refine wl (ro_pick rfl rfl rfl) ?_
      refine wl_nil (x_then (hK67 _ _ ?_))
      clear hK67 K67
      refine wc_condT rfl ?_
      refine c_seq (fun K68 hK68 => ?_)
      refine c_reg ?_ -- region 21 simpm.go:48
      refine wl (ro_move rfl) ?_
      refine wl (ro_assign rfl) ?_
      refine wl_nil (x_then (hK68 _ _ ?_))
      clear hK68 K68
      refine c_ret (x_blkR (x_thenR ?_))
      refine bp_ret Tryz.results117 rfl ?_
      first
        | (have e9 : shp r = shp b := (by rw [hs]; (repeat' split) <;> omega); rw [e9]; exact ⟨rfl, hF⟩)
        | (have e9 : shp r = shp a := (by rw [hs]; (repeat' split) <;> omega); rw [e9]; exact ⟨rfl, hF⟩)
        | (have e9 : shp r = 2 := (by rw [hs]; (repeat' split) <;> omega); rw [e9]; exact ⟨rfl, hF⟩)
    · skip
      refine c_reg ?_ -- region 18 simpm.go:44
      refine wl (ro_move rfl) ?_
      refine wl (ro_cmp (r := false) rfl rfl (congrArg some ((beqc (shp a) 1).trans (decide_eq_false (by omega))))) ?_
      refine wl_nil (x_then (hK63 _ _ ?_))
      clear hK63 K63
      refine wc_condF rfl ?_
      refine c_skip (x_then (hK62 _ _ ?_))
      clear hK62 K62
      refine forget [(8, _), (9, _)] ⟨rfl, rfl, trivial⟩ (fun e => ?_)
      refine c_seq (fun K69 hK69 => ?_)
      refine c_reg ?_ -- region 20 simpm.go:47
      refine wl (ro_move rfl) ?_
      refine wl (ro_cmp (r := false) rfl rfl (congrArg some ((beqc (shp b) 1).trans (decide_eq_false (by omega))))) ?_
      refine wl (ro_move rfl) ?_
      refine wlg_yes rfl (ro_move rfl) ?_
      refine wlg_yes rfl (ro_cmp (r := true) rfl rfl (congrArg some ((beqc (shp a) 0).trans (decide_eq_true (by omega))))) ?_
      refine wlg_yes rfl (ro_move rfl) ?_
      refine wlg_yes rfl (ro_move rfl) ?_
      refine wlg_yes rfl (ro_cmp (r := false) rfl rfl (congrArg some ((beqc (shp b) 0).trans (decide_eq_false (by omega))))) ?_
      refine wlg_yes rfl (ro_pick rfl rfl rfl) ?_
      refine wl (ro_pick rfl rfl rfl) ?_
      refine wl_nil (x_then (hK69 _ _ ?_))
      clear hK69 K69
      refine wc_condF rfl ?_
      refine c_skip (x_blk (x_then (hK54 _ _ ?_)))
      clear hK54 K54
      refine forget [] trivial (fun e => ?_)
      refine c_seq (fun K70 hK70 => ?_)
      refine c_reg ?_ -- region 31 simpm.go:63
      refine wl (ro_assign rfl) ?_
      refine wl_nil (x_then (hK70 _ _ ?_))
      clear hK70 K70
      refine c_ret ?_
      refine bp_ret Tryz.results117 rfl ?_
      first
        | (have e9 : shp r = shp b := (by rw [hs]; (repeat' split) <;> omega); rw [e9]; exact ⟨rfl, hF⟩)
        | (have e9 : shp r = shp a := (by rw [hs]; (repeat' split) <;> omega); rw [e9]; exact ⟨rfl, hF⟩)
        | (have e9 : shp r = 2 := (by rw [hs]; (repeat' split) <;> omega); rw [e9]; exact ⟨rfl, hF⟩)
    · skip
      refine c_reg ?_ -- region 18 simpm.go:44
      refine wl (ro_move rfl) ?_
      refine wl (ro_cmp (r := false) rfl rfl (congrArg some ((beqc (shp a) 1).trans (decide_eq_false (by omega))))) ?_
      refine wl_nil (x_then (hK63 _ _ ?_))
      clear hK63 K63
      refine wc_condF rfl ?_
      refine c_skip (x_then (hK62 _ _ ?_))
      clear hK62 K62
      refine forget [(8, _), (9, _)] ⟨rfl, rfl, trivial⟩ (fun e => ?_)
      refine c_seq (fun K71 hK71 => ?_)
      refine c_reg ?_ -- region 20 simpm.go:47
      refine wl (ro_move rfl) ?_
      refine wl (ro_cmp (r := false) rfl rfl (congrArg some ((beqc (shp b) 1).trans (decide_eq_false (by omega))))) ?_
      refine wl (ro_move rfl) ?_
      refine wlg_yes rfl (ro_move rfl) ?_
      refine wlg_yes rfl (ro_cmp (r := false) rfl rfl (congrArg some ((beqc (shp a) 0).trans (decide_eq_false (by omega))))) ?_
      refine wlg_yes rfl (ro_move rfl) ?_
      refine wlg_no rfl ?_
      refine wlg_no rfl ?_
      refine wlg_yes rfl (ro_pick rfl rfl rfl) ?_
      refine wl (ro_pick rfl rfl rfl) ?_
      refine wl_nil (x_then (hK71 _ _ ?_))
      clear hK71 K71
      refine wc_condF rfl ?_
      refine c_skip (x_blk (x_then (hK54 _ _ ?_)))
      clear hK54 K54
      refine forget [] trivial (fun e => ?_)
      refine c_seq (fun K72 hK72 => ?_)
      refine c_reg ?_ -- region 31 simpm.go:63
      refine wl (ro_assign rfl) ?_
      refine wl_nil (x_then (hK72 _ _ ?_))
      clear hK72 K72
      refine c_ret ?_
      refine bp_ret Tryz.results117 rfl ?_
      first
        | (have e9 : shp r = shp b := (by rw [hs]; (repeat' split) <;> omega); rw [e9]; exact ⟨rfl, hF⟩)
        | (have e9 : shp r = shp a := (by rw [hs]; (repeat' split) <;> omega); rw [e9]; exact ⟨rfl, hF⟩)
        | (have e9 : shp r = 2 := (by rw [hs]; (repeat' split) <;> omega); rw [e9]; exact ⟨rfl, hF⟩)
  · skip
    have hwa : WF a := by rw [hq] at hw; exact hw.1
    have ca := shp_cases a
    have hs : shp r = if shp a = 1 ∧ 0 < rmn x then 1 else if shp a ≠ 2 ∨ rmx x = some 0 then 0 else 2 := by rw [hq]; rfl
    obtain ⟨M, hM⟩ : ∃ M : Int, mxI (rmx x) = M := ⟨_, rfl⟩
    have hM0 : rmx x = some 0 ↔ M = 0 := by
      rw [← hM]
      cases rmx x with
      | none => simp [mxI]
      | some m => simp only [mxI, Option.some.injEq]; omega
    simp only [hM0] at hs
    rw [hM] at hld
    refine c_reg ?_ -- region 0 simpm.go:23
    refine wl_box (cs := (trc nb T.length cap z1 z2 z3 z4)) rfl rfl (fun ab w23 hbab hA F23 => ?_)
    have hbsab := Nat.le_trans hF.size hbab
    have hnenbab : nb < ab := Nat.lt_of_lt_of_le hT.lt hbab
    replace hF := hF.thenDrew.thenN F23
    replace hT := F23.blkN hT
    refine wl (ro_assign rfl) ?_
    refine wl_nil (x_then (hK1 _ _ ?_))
    clear hK1 K1
    refine forget [(1, _), (2, _)] ⟨rfl, rfl, trivial⟩ (fun e => ?_)
    refine c_seq (fun K73 hK73 => ?_)
    refine c_reg ?_ -- region 1 simpm.go:24
    refine wl (ro_fieldAddr (k := 0) rfl fo_151_0) ?_
    refine wl (ro_loadB rfl sc_98 (hA) (rfl)) ?_
    refine wl (ro_move rfl) ?_
    refine wl (ro_indexAddr (et := 89) (k := 11) rfl rfl se_98 (rfl) (hkl)) ?_
    refine wl (ro_loadAggB rfl ag_89 (hT) (rfl) (hld)) ?_
    refine wl_new (ze_89) (fun xb w24 hbxb hX F24 => ?_)
    have hbsxb := Nat.le_trans hF.size hbxb
    have hnenbxb : nb < xb := Nat.lt_of_lt_of_le hT.lt hbxb
    have hneabxb : ab < xb := Nat.lt_of_lt_of_le hA.lt hbxb
    replace hF := hF.thenDrew.thenN F24
    replace hT := F24.blkN hT
    replace hA := F24.blkN hA
    refine wl_puta rfl rfl (by simp [Value.oneCell', i64c, u64c, u8c, ptr]) sz_89 (rfl) hX ((by simp)) (rfl) (fun w25 hX F25 => ?_)
    replace hF := hF.thenDrew.thenO F25 (by first | exact .inr (by omega) | exact .inl rfl | exact .inl (by assumption))
    replace hT := F25.blkO hT (by omega)
    replace hA := F25.blkO hA (by omega)
    refine wl_nil (x_then (hK73 _ _ ?_))
    clear hK73 K73
    refine c_seq (fun K74 hK74 => ?_)
    refine c_seq (fun K75 hK75 => ?_)
    refine c_reg ?_ -- region 2 simpm.go:25
    refine wl (ro_fieldAddr (k := 0) rfl fo_89_0) ?_
    refine wl (ro_loadB rfl sc_3 (by assumption) rfl) ?_
    refine wl_nil (x_then (hK75 _ _ ?_))
    clear hK75 K75
    refine c_block ?_
    refine forget [(2, _), (5, _), (17, _)] ⟨rfl, rfl, rfl, trivial⟩ (fun e => ?_)
    refine c_seq (fun K76 hK76 => ?_)
    refine c_reg ?_ -- region 3 simpm.go:26
    refine wl (ro_cmp rfl rfl rfl) ?_
    refine wl (ro_assign rfl) ?_
    refine wl_nil (x_then (hK76 _ _ ?_))
    clear hK76 K76
    refine wc_condF rfl ?_
    refine c_seq (fun K77 hK77 => ?_)
    refine c_reg ?_ -- region 5 simpm.go:28
    refine wl (ro_cmp rfl rfl rfl) ?_
    refine wl (ro_assign rfl) ?_
    refine wl_nil (x_then (hK77 _ _ ?_))
    clear hK77 K77
    refine wc_condF rfl ?_
    refine c_seq (fun K78 hK78 => ?_)
    refine c_reg ?_ -- region 8 simpm.go:32
    refine wl (ro_cmp rfl rfl rfl) ?_
    refine wl (ro_assign rfl) ?_
    refine wl_nil (x_then (hK78 _ _ ?_))
    clear hK78 K78
    refine wc_condF rfl ?_
    refine c_seq (fun K79 hK79 => ?_)
    refine c_reg ?_ -- region 15 simpm.go:41
    refine wl (ro_cmp rfl rfl rfl) ?_
    refine wl (ro_assign rfl) ?_
    refine wl_nil (x_then (hK79 _ _ ?_))
    clear hK79 K79
    refine wc_condF rfl ?_
    refine c_seq (fun K80 hK80 => ?_)
    refine c_reg ?_ -- region 22 simpm.go:50
    refine wl (ro_cmp rfl rfl rfl) ?_
    refine wl (ro_assign rfl) ?_
    refine wl_nil (x_then (hK80 _ _ ?_))
    clear hK80 K80
    refine wc_condF rfl ?_
    refine c_seq (fun K81 hK81 => ?_)
    refine c_reg ?_ -- region 25 simpm.go:54
    refine wl (ro_cmp rfl rfl rfl) ?_
    refine wl (ro_assign rfl) ?_
    refine wl_nil (x_then (hK81 _ _ ?_))
    clear hK81 K81
    refine wc_condT rfl ?_
    refine c_seq (fun K82 hK82 => ?_)
    refine c_reg ?_ -- region 26 simpm.go:55
    refine wl (ro_loadAggB rfl ag_151 (hA) (rfl) (rfl)) ?_
    refine wl (ro_fieldAddr (k := 1) rfl fo_89_1) ?_
    refine wl (ro_loadB rfl sc_3 (hX) (rfl)) ?_
    refine wl_call rfl en_117 (ih i hi hT hia hwa) ?_
    rintro _ w26 ⟨rfl, F26⟩
    replace hF := hF.thenDrew.thenN F26
    replace hT := F26.blkN hT
    replace hA := F26.blkN hA
    replace hX := F26.blkN hX
    refine wl (ro_assign rfl) ?_
    refine wl_nil (x_then (hK82 _ _ ?_))
    clear hK82 K82
    refine c_seq (fun K83 hK83 => ?_)
    refine c_seq (fun K84 hK84 => ?_)
    have hqs : (shp a = 1 ∧ 0 < rmn x) ∨ (shp a = 1 ∧ rmn x = 0) ∨ shp a = 0 ∨ (shp a = 2 ∧ M = 0) ∨ (shp a = 2 ∧ M ≠ 0) := by omega
    rcases hqs with q | q | q | q | q
    · skip
      refine c_reg ?_ -- region 27 simpm.go:56
      refine wl (ro_move rfl) ?_
      refine wl (ro_cmp (r := true) rfl rfl (congrArg some ((beqc (shp a) 1).trans (decide_eq_true (by omega))))) ?_
      refine wl (ro_move rfl) ?_
      refine wlg_yes rfl (ro_fieldAddr (k := 3) rfl fo_89_3) ?_
      refine wlg_yes rfl (ro_loadB rfl sc_3 (hX) (rfl)) ?_
      refine wlg_yes rfl (ro_cmp (r := true) rfl rfl (congrArg some (decide_eq_true (by omega)))) ?_
      refine wl (ro_pick rfl rfl rfl) ?_
      refine wl_nil (x_then (hK84 _ _ ?_))
      clear hK84 K84
      refine wc_condT rfl ?_
      refine c_seq (fun K85 hK85 => ?_)
      refine c_reg ?_ -- region 28 simpm.go:57
      refine wl (ro_assign rfl) ?_
      refine wl_nil (x_then (hK85 _ _ ?_))
      clear hK85 K85
      refine c_ret (x_thenR (x_blkR (x_thenR ?_)))
      refine bp_ret Tryz.results117 rfl ?_
      first
        | (have e9 : shp r = 1 := (by rw [hs]; (repeat' split) <;> omega); rw [e9]; exact ⟨rfl, hF⟩)
        | (have e9 : shp r = 0 := (by rw [hs]; (repeat' split) <;> omega); rw [e9]; exact ⟨rfl, hF⟩)
        | (have e9 : shp r = 2 := (by rw [hs]; (repeat' split) <;> omega); rw [e9]; exact ⟨rfl, hF⟩)
    · skip
      refine c_reg ?_ -- region 27 simpm.go:56
      refine wl (ro_move rfl) ?_
      refine wl (ro_cmp (r := true) rfl rfl (congrArg some ((beqc (shp a) 1).trans (decide_eq_true (by omega))))) ?_
      refine wl (ro_move rfl) ?_
      refine wlg_yes rfl (ro_fieldAddr (k := 3) rfl fo_89_3) ?_
      refine wlg_yes rfl (ro_loadB rfl sc_3 (hX) (rfl)) ?_
      refine wlg_yes rfl (ro_cmp (r := false) rfl rfl (congrArg some (decide_eq_false (by omega)))) ?_
      refine wl (ro_pick rfl rfl rfl) ?_
      refine wl_nil (x_then (hK84 _ _ ?_))
      clear hK84 K84
      refine wc_condF rfl ?_
      refine c_skip (x_then (hK83 _ _ ?_))
      clear hK83 K83
      refine forget [(5, _), (10, _)] ⟨rfl, rfl, trivial⟩ (fun e => ?_)
      refine c_seq (fun K86 hK86 => ?_)
      refine c_reg ?_ -- region 29 simpm.go:59
      refine wl (ro_move rfl) ?_
      refine wl (ro_cmp (r := true) rfl rfl (congrArg some ((bnec (shp a) 2).trans (decide_eq_true (by omega))))) ?_
      refine wl (ro_move rfl) ?_
      refine wlg_no rfl ?_
      refine wlg_no rfl ?_
      refine wlg_no rfl ?_
      refine wl (ro_pick rfl rfl rfl) ?_
      refine wl_nil (x_then (hK86 _ _ ?_))
      clear hK86 K86
      refine wc_condT rfl ?_
      refine c_seq (fun K87 hK87 => ?_)
      refine c_reg ?_ -- region 30 simpm.go:60
      refine wl (ro_assign rfl) ?_
      refine wl_nil (x_then (hK87 _ _ ?_))
      clear hK87 K87
      refine c_ret (x_blkR (x_thenR ?_))
      refine bp_ret Tryz.results117 rfl ?_
      first
        | (have e9 : shp r = 1 := (by rw [hs]; (repeat' split) <;> omega); rw [e9]; exact ⟨rfl, hF⟩)
        | (have e9 : shp r = 0 := (by rw [hs]; (repeat' split) <;> omega); rw [e9]; exact ⟨rfl, hF⟩)
        | (have e9 : shp r = 2 := (by rw [hs]; (repeat' split) <;> omega); rw [e9]; exact ⟨rfl, hF⟩)
    · skip
      refine c_reg ?_ -- region 27 simpm.go:56
      refine wl (ro_move rfl) ?_
      refine wl (ro_cmp (r := false) rfl rfl (congrArg some ((beqc (shp a) 1).trans (decide_eq_false (by omega))))) ?_
      refine wl (ro_move rfl) ?_
      refine wlg_no rfl ?_
      refine wlg_no rfl ?_
      refine wlg_no rfl ?_
      refine wl (ro_pick rfl rfl rfl) ?_
      refine wl_nil (x_then (hK84 _ _ ?_))
      clear hK84 K84
      refine wc_condF rfl ?_
      refine c_skip (x_then (hK83 _ _ ?_))
      clear hK83 K83
      refine forget [(5, _), (10, _)] ⟨rfl, rfl, trivial⟩ (fun e => ?_)
      refine c_seq (fun K88 hK88 => ?_)
      refine c_reg ?_ -- region 29 simpm.go:59
      refine wl (ro_move rfl) ?_
      refine wl (ro_cmp (r := true) rfl rfl (congrArg some ((bnec (shp a) 2).trans (decide_eq_true (by omega))))) ?_
      refine wl (ro_move rfl) ?_
      refine wlg_no rfl ?_
      refine wlg_no rfl ?_
      refine wlg_no rfl ?_
      refine wl (ro_pick rfl rfl rfl) ?_
      refine wl_nil (x_then (hK88 _ _ ?_))
      clear hK88 K88
      refine wc_condT rfl ?_
      refine c_seq (fun K89 hK89 => ?_)
      refine c_reg ?_ -- region 30 simpm.go:60
      refine wl (ro_assign rfl) ?_
      refine wl_nil (x_then (hK89 _ _ ?_))
      clear hK89 K89
      refine c_ret (x_blkR (x_thenR ?_))
      refine bp_ret Tryz.results117 rfl ?_
      first
        | (have e9 : shp r = 1 := (by rw [hs]; (repeat' split) <;> omega); rw [e9]; exact ⟨rfl, hF⟩)
        | (have e9 : shp r = 0 := (by rw [hs]; (repeat' split) <;> omega); rw [e9]; exact ⟨rfl, hF⟩)
        | (have e9 : shp r = 2 := (by rw [hs]; (repeat' split) <;> omega); rw [e9]; exact ⟨rfl, hF⟩)
    · skip
      refine c_reg ?_ -- region 27 simpm.go:56
      refine wl (ro_move rfl) ?_
      refine wl (ro_cmp (r := false) rfl rfl (congrArg some ((beqc (shp a) 1).trans (decide_eq_false (by omega))))) ?_
      refine wl (ro_move rfl) ?_
      refine wlg_no rfl ?_
      refine wlg_no rfl ?_
      refine wlg_no rfl ?_
      refine wl (ro_pick rfl rfl rfl) ?_
      refine wl_nil (x_then (hK84 _ _ ?_))
      clear hK84 K84
      refine wc_condF rfl ?_
      refine c_skip (x_then (hK83 _ _ ?_))
      clear hK83 K83
      refine forget [(5, _), (10, _)] ⟨rfl, rfl, trivial⟩ (fun e => ?_)
      refine c_seq (fun K90 hK90 => ?_)
      refine c_reg ?_ -- region 29 simpm.go:59
      refine wl (ro_move rfl) ?_
      refine wl (ro_cmp (r := false) rfl rfl (congrArg some ((bnec (shp a) 2).trans (decide_eq_false (by omega))))) ?_
      refine wl (ro_move rfl) ?_
      refine wlg_yes rfl (ro_fieldAddr (k := 4) rfl fo_89_4) ?_
      refine wlg_yes rfl (ro_loadB rfl sc_3 (hX) (rfl)) ?_
      refine wlg_yes rfl (ro_cmp (r := true) rfl rfl (congrArg some (by simp; omega))) ?_
      refine wl (ro_pick rfl rfl rfl) ?_
      refine wl_nil (x_then (hK90 _ _ ?_))
      clear hK90 K90
      refine wc_condT rfl ?_
      refine c_seq (fun K91 hK91 => ?_)
      refine c_reg ?_ -- region 30 simpm.go:60
      refine wl (ro_assign rfl) ?_
      refine wl_nil (x_then (hK91 _ _ ?_))
      clear hK91 K91
      refine c_ret (x_blkR (x_thenR ?_))
      refine bp_ret Tryz.results117 rfl ?_
      first
        | (have e9 : shp r = 1 := (by rw [hs]; (repeat' split) <;> omega); rw [e9]; exact ⟨rfl, hF⟩)
        | (have e9 : shp r = 0 := (by rw [hs]; (repeat' split) <;> omega); rw [e9]; exact ⟨rfl, hF⟩)
        | (have e9 : shp r = 2 := (by rw [hs]; (repeat' split) <;> omega); rw [e9]; exact ⟨rfl, hF⟩)
    · skip
      refine c_reg ?_ -- region 27 simpm.go:56
      refine wl (ro_move rfl) ?_
      refine wl (ro_cmp (r := false) rfl rfl (congrArg some ((beqc (shp a) 1).trans (decide_eq_false (by omega))))) ?_
      refine wl (ro_move rfl) ?_
      refine wlg_no rfl ?_
      refine wlg_no rfl ?_
      refine wlg_no rfl ?_
      refine wl (ro_pick rfl rfl rfl) ?_
      refine wl_nil (x_then (hK84 _ _ ?_))
      clear hK84 K84
      refine wc_condF rfl ?_
      refine c_skip (x_then (hK83 _ _ ?_))
      clear hK83 K83
      refine forget [(5, _), (10, _)] ⟨rfl, rfl, trivial⟩ (fun e => ?_)
      refine c_seq (fun K92 hK92 => ?_)
      refine c_reg ?_ -- region 29 simpm.go:59
      refine wl (ro_move rfl) ?_
      refine wl (ro_cmp (r := false) rfl rfl (congrArg some ((bnec (shp a) 2).trans (decide_eq_false (by omega))))) ?_
      refine wl (ro_move rfl) ?_
      refine wlg_yes rfl (ro_fieldAddr (k := 4) rfl fo_89_4) ?_
      refine wlg_yes rfl (ro_loadB rfl sc_3 (hX) (rfl)) ?_
      refine wlg_yes rfl (ro_cmp (r := false) rfl rfl (congrArg some (by simp; omega))) ?_
      refine wl (ro_pick rfl rfl rfl) ?_
      refine wl_nil (x_then (hK92 _ _ ?_))
      clear hK92 K92
      refine wc_condF rfl ?_
      refine c_skip (x_blk (x_then (hK74 _ _ ?_)))
      clear hK74 K74
      refine forget [] trivial (fun e => ?_)
      refine c_seq (fun K93 hK93 => ?_)
      refine c_reg ?_ -- region 31 simpm.go:63
      refine wl (ro_assign rfl) ?_
      refine wl_nil (x_then (hK93 _ _ ?_))
      clear hK93 K93
      refine c_ret ?_
      refine bp_ret Tryz.results117 rfl ?_
      first
        | (have e9 : shp r = 1 := (by rw [hs]; (repeat' split) <;> omega); rw [e9]; exact ⟨rfl, hF⟩)
        | (have e9 : shp r = 0 := (by rw [hs]; (repeat' split) <;> omega); rw [e9]; exact ⟨rfl, hF⟩)
        | (have e9 : shp r = 2 := (by rw [hs]; (repeat' split) <;> omega); rw [e9]; exact ⟨rfl, hF⟩)
  · skip
    have hwa : WF a := by rw [hq] at hw; exact hw.1
    have hs : shp r = if shp a = 1 then 1 else 2 := by rw [hq]; rfl
    refine c_reg ?_ -- region 0 simpm.go:23
    refine wl_box (cs := (trc nb T.length cap z1 z2 z3 z4)) rfl rfl (fun ab w27 hbab hA F27 => ?_)
    have hbsab := Nat.le_trans hF.size hbab
    have hnenbab : nb < ab := Nat.lt_of_lt_of_le hT.lt hbab
    replace hF := hF.thenDrew.thenN F27
    replace hT := F27.blkN hT
    refine wl (ro_assign rfl) ?_
    refine wl_nil (x_then (hK1 _ _ ?_))
    clear hK1 K1
    refine forget [(1, _), (2, _)] ⟨rfl, rfl, trivial⟩ (fun e => ?_)
    refine c_seq (fun K94 hK94 => ?_)
    refine c_reg ?_ -- region 1 simpm.go:24
    refine wl (ro_fieldAddr (k := 0) rfl fo_151_0) ?_
    refine wl (ro_loadB rfl sc_98 (hA) (rfl)) ?_
    refine wl (ro_move rfl) ?_
    refine wl (ro_indexAddr (et := 89) (k := 11) rfl rfl se_98 (rfl) (hkl)) ?_
    refine wl (ro_loadAggB rfl ag_89 (hT) (rfl) (hld)) ?_
    refine wl_new (ze_89) (fun xb w28 hbxb hX F28 => ?_)
    have hbsxb := Nat.le_trans hF.size hbxb
    have hnenbxb : nb < xb := Nat.lt_of_lt_of_le hT.lt hbxb
    have hneabxb : ab < xb := Nat.lt_of_lt_of_le hA.lt hbxb
    replace hF := hF.thenDrew.thenN F28
    replace hT := F28.blkN hT
    replace hA := F28.blkN hA
    refine wl_puta rfl rfl (by simp [Value.oneCell', i64c, u64c, u8c, ptr]) sz_89 (rfl) hX ((by simp)) (rfl) (fun w29 hX F29 => ?_)
    replace hF := hF.thenDrew.thenO F29 (by first | exact .inr (by omega) | exact .inl rfl | exact .inl (by assumption))
    replace hT := F29.blkO hT (by omega)
    replace hA := F29.blkO hA (by omega)
    refine wl_nil (x_then (hK94 _ _ ?_))
    clear hK94 K94
    refine c_seq (fun K95 hK95 => ?_)
    refine c_seq (fun K96 hK96 => ?_)
    refine c_reg ?_ -- region 2 simpm.go:25
    refine wl (ro_fieldAddr (k := 0) rfl fo_89_0) ?_
    refine wl (ro_loadB rfl sc_3 (by assumption) rfl) ?_
    refine wl_nil (x_then (hK96 _ _ ?_))
    clear hK96 K96
    refine c_block ?_
    refine forget [(2, _), (5, _), (17, _)] ⟨rfl, rfl, rfl, trivial⟩ (fun e => ?_)
    refine c_seq (fun K97 hK97 => ?_)
    refine c_reg ?_ -- region 3 simpm.go:26
    refine wl (ro_cmp rfl rfl rfl) ?_
    refine wl (ro_assign rfl) ?_
    refine wl_nil (x_then (hK97 _ _ ?_))
    clear hK97 K97
    refine wc_condF rfl ?_
    refine c_seq (fun K98 hK98 => ?_)
    refine c_reg ?_ -- region 5 simpm.go:28
    refine wl (ro_cmp rfl rfl rfl) ?_
    refine wl (ro_assign rfl) ?_
    refine wl_nil (x_then (hK98 _ _ ?_))
    clear hK98 K98
    refine wc_condF rfl ?_
    refine c_seq (fun K99 hK99 => ?_)
    refine c_reg ?_ -- region 8 simpm.go:32
    refine wl (ro_cmp rfl rfl rfl) ?_
    refine wl (ro_assign rfl) ?_
    refine wl_nil (x_then (hK99 _ _ ?_))
    clear hK99 K99
    refine wc_condF rfl ?_
    refine c_seq (fun K100 hK100 => ?_)
    refine c_reg ?_ -- region 15 simpm.go:41
    refine wl (ro_cmp rfl rfl rfl) ?_
    refine wl (ro_assign rfl) ?_
    refine wl_nil (x_then (hK100 _ _ ?_))
    clear hK100 K100
    refine wc_condF rfl ?_
    refine c_seq (fun K101 hK101 => ?_)
    refine c_reg ?_ -- region 22 simpm.go:50
    refine wl (ro_cmp rfl rfl rfl) ?_
    refine wl (ro_assign rfl) ?_
    refine wl_nil (x_then (hK101 _ _ ?_))
    clear hK101 K101
    refine wc_condT rfl ?_
    refine c_seq (fun K102 hK102 => ?_)
    refine c_reg ?_ -- region 23 simpm.go:51
    refine wl (ro_loadAggB rfl ag_151 (hA) (rfl) (rfl)) ?_
    refine wl (ro_fieldAddr (k := 1) rfl fo_89_1) ?_
    refine wl (ro_loadB rfl sc_3 (hX) (rfl)) ?_
    refine wl_call rfl en_117 (ih i hi hT hia hwa) ?_
    rintro _ w30 ⟨rfl, F30⟩
    replace hF := hF.thenDrew.thenN F30
    replace hT := F30.blkN hT
    replace hA := F30.blkN hA
    replace hX := F30.blkN hX
    refine wl (ro_cmp (r := decide (shp a = 1)) rfl rfl (congrArg some (beqc (shp a) 1))) ?_
    refine wl_nil (x_then (hK102 _ _ ?_))
    clear hK102 K102
    refine wc_cond rfl (fun hc78 => ?_) (fun hc78 => ?_)
    · try simp only [decide_eq_true_eq, decide_eq_false_iff_not, Bool.not_eq_true', Bool.not_eq_false', Bool.not_eq_eq_eq_not, Bool.not_true, Bool.not_false, beq_iff_eq, bne_iff_ne, ne_eq, beq_eq_false_iff_ne, bne_eq_false_iff_eq, gt_iff_lt, ge_iff_le, Int.not_lt, Int.not_le] at hc78
      refine c_seq (fun K103 hK103 => ?_)
      refine c_reg ?_ -- region 24 simpm.go:52
      refine wl (ro_assign rfl) ?_
      refine wl_nil (x_then (hK103 _ _ ?_))
      clear hK103 K103
      refine c_ret (x_blkR (x_thenR ?_))
      refine bp_ret Tryz.results117 rfl ?_
      first
        | (have e9 : shp r = 1 := (by rw [hs]; (repeat' split) <;> omega); rw [e9]; exact ⟨rfl, hF⟩)
        | (have e9 : shp r = 2 := (by rw [hs]; (repeat' split) <;> omega); rw [e9]; exact ⟨rfl, hF⟩)
    · try simp only [decide_eq_true_eq, decide_eq_false_iff_not, Bool.not_eq_true', Bool.not_eq_false', Bool.not_eq_eq_eq_not, Bool.not_true, Bool.not_false, beq_iff_eq, bne_iff_ne, ne_eq, beq_eq_false_iff_ne, bne_eq_false_iff_eq, gt_iff_lt, ge_iff_le, Int.not_lt, Int.not_le] at hc78
      refine c_skip (x_blk (x_then (hK95 _ _ ?_)))
      clear hK95 K95
      refine forget [] trivial (fun e => ?_)
      refine c_seq (fun K104 hK104 => ?_)
      refine c_reg ?_ -- region 31 simpm.go:63
      refine wl (ro_assign rfl) ?_
      refine wl_nil (x_then (hK104 _ _ ?_))
      clear hK104 K104
      refine c_ret ?_
      refine bp_ret Tryz.results117 rfl ?_
      first
        | (have e9 : shp r = 1 := (by rw [hs]; (repeat' split) <;> omega); rw [e9]; exact ⟨rfl, hF⟩)
        | (have e9 : shp r = 2 := (by rw [hs]; (repeat' split) <;> omega); rw [e9]; exact ⟨rfl, hF⟩)

theorem lid134 {w : World} {n : Nat} : Ret Tryz.prog 134 [i64c n] w (fun r w' => r = i64c (min n 32) ∧ Fram none' w w') := by
  have hF : Fram none' w w := Fram.refl _ _
  by_cases h : 31 < n
  · skip
    refine ret_of Tryz.func134 rfl Tryz.ntmps134 rfl ?_
    refine c_seq (fun K1 hK1 => ?_)
    refine c_reg ?_ -- region 0 simpm.go:66
    refine wl (ro_assign rfl) ?_
    refine wl_nil (x_then (hK1 _ _ ?_))
    clear hK1 K1
    refine c_seq (fun K2 hK2 => ?_)
    refine c_seq (fun K3 hK3 => ?_)
    refine c_reg ?_ -- region 1 simpm.go:67
    refine wl (ro_move rfl) ?_
    refine wl (ro_cmp (r := true) rfl rfl (congrArg some (decide_eq_true (by omega)))) ?_
    refine wl_nil (x_then (hK3 _ _ ?_))
    clear hK3 K3
    refine wc_condT rfl ?_
    refine c_seq (fun K4 hK4 => ?_)
    refine c_reg ?_ -- region 2 simpm.go:68
    refine wl (ro_assign rfl) ?_
    refine wl_nil (x_then (hK4 _ _ ?_))
    clear hK4 K4
    refine c_ret (x_thenR ?_)
    refine bp_ret Tryz.results134 rfl ?_
    exact ⟨by rw [show min n 32 = 32 by omega]; rfl, hF⟩
  · skip
    refine ret_of Tryz.func134 rfl Tryz.ntmps134 rfl ?_
    refine c_seq (fun K1 hK1 => ?_)
    refine c_reg ?_ -- region 0 simpm.go:66
    refine wl (ro_assign rfl) ?_
    refine wl_nil (x_then (hK1 _ _ ?_))
    clear hK1 K1
    refine c_seq (fun K2 hK2 => ?_)
    refine c_seq (fun K3 hK3 => ?_)
    refine c_reg ?_ -- region 1 simpm.go:67
    refine wl (ro_move rfl) ?_
    refine wl (ro_cmp (r := false) rfl rfl (congrArg some (decide_eq_false (by omega)))) ?_
    refine wl_nil (x_then (hK3 _ _ ?_))
    clear hK3 K3
    refine wc_condF rfl ?_
    refine c_skip (x_then (hK2 _ _ ?_))
    clear hK2 K2
    refine forget [(0, _)] ⟨rfl, trivial⟩ (fun e => ?_)
    refine c_seq (fun K4 hK4 => ?_)
    refine c_reg ?_ -- region 3 simpm.go:70
    refine wl (ro_move rfl) ?_
    refine wl (ro_assign rfl) ?_
    refine wl_nil (x_then (hK4 _ _ ?_))
    clear hK4 K4
    refine c_ret ?_
    refine bp_ret Tryz.results134 rfl ?_
    exact ⟨by rw [show min n 32 = n by omega]; rfl, hF⟩

end Go.Proofs.Qxb6500567aGreat
