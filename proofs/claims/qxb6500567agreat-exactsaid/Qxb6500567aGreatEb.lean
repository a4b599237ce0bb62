import Derived.Test.Qxb6500567aGreatEa
/- The model's simplifier: sizes. -/
namespace Go.Proofs.Qxb6500567aGreat
set_option linter.unusedVariables false
set_option linter.unusedSimpArgs false

/-- The size of node k is told aright. -/
def SizeOK (nb cap : Nat) (T : List RE) (c : Nat → Value) (z1 z2 z3 z4 : Value) (k : Nat) : Prop := ∀ {w : World} {r : RE}, FB w.heap nb (cap * 11) c 89 → T[k]? = some r → WF r → shp r = 2 →
    Ret Tryz.prog 118 [.agg (trc nb T.length cap z1 z2 z3 z4).toArray, i64c k] w (fun v w' => v = i64c (zs r) ∧ Fram none' w w')

theorem leaf91 {nb cap : Nat} {T : List RE} {c : Nat → Value} {z1 z2 z3 z4 : Value} {k : Nat} (hle : T.length ≤ cap) (hAR : AR T c 0) (hS118 : SizeOK nb cap T c z1 z2 z3 z4 k) {w : World} {r : RE} (hT : FB w.heap nb (cap * 11) c 89) (hk : T[k]? = some r) (hw : WF r) :
    Ret Tryz.prog 91 [.agg (trc nb T.length cap z1 z2 z3 z4).toArray, i64c k] w (fun v w' => v = i64c (zs r) ∧ Fram none' w w') := by
  have hF : Fram none' w w := Fram.refl _ _
  refine ret_of Tryz.func91 rfl Tryz.ntmps91 rfl ?_
  refine c_seq (fun K1 hK1 => ?_)
  refine c_reg ?_ -- region 0 simpm.go:74
  refine wl_box (cs := (trc nb T.length cap z1 z2 z3 z4)) rfl rfl (fun ab w1 hbab hA F1 => ?_)
  have hbsab := Nat.le_trans hF.size hbab
  have hnenbab : nb < ab := Nat.lt_of_lt_of_le hT.lt hbab
  replace hF := hF.thenDrew.thenN F1
  replace hT := F1.blkN hT
  refine wl (ro_assign rfl) ?_
  refine wl_nil (x_then (hK1 _ _ ?_))
  clear hK1 K1
  refine c_seq (fun K2 hK2 => ?_)
  refine c_seq (fun K3 hK3 => ?_)
  refine c_reg ?_ -- region 1 simpm.go:75
  refine wl (ro_loadAggB rfl ag_151 (hA) (rfl) (rfl)) ?_
  refine wl (ro_move rfl) ?_
  refine wl_call rfl en_117 (shape117 hle hAR k hT hk hw) ?_
  rintro _ w2 ⟨rfl, F2⟩
  replace hF := hF.thenDrew.thenN F2
  replace hT := F2.blkN hT
  replace hA := F2.blkN hA
  refine wl (ro_cmp (r := decide (shp r ≠ 2)) rfl rfl (congrArg some (bnec (shp r) 2))) ?_
  refine wl_nil (x_then (hK3 _ _ ?_))
  clear hK3 K3
  refine wc_cond rfl (fun hc8 => ?_) (fun hc8 => ?_)
  · try simp only [decide_eq_true_eq, decide_eq_false_iff_not, Bool.not_eq_true', Bool.not_eq_false', Bool.not_eq_eq_eq_not, Bool.not_true, Bool.not_false, beq_iff_eq, bne_iff_ne, ne_eq, beq_eq_false_iff_ne, bne_eq_false_iff_eq, gt_iff_lt, ge_iff_le, Int.not_lt, Int.not_le] at hc8
    refine c_seq (fun K4 hK4 => ?_)
    refine c_reg ?_ -- region 2 simpm.go:76
    refine wl (ro_assign rfl) ?_
    refine wl_nil (x_then (hK4 _ _ ?_))
    clear hK4 K4
    refine c_ret (x_thenR ?_)
    refine bp_ret Tryz.results91 rfl ?_
    exact ⟨by rw [zs0 hc8]; rfl, hF⟩
  · try simp only [decide_eq_true_eq, decide_eq_false_iff_not, Bool.not_eq_true', Bool.not_eq_false', Bool.not_eq_eq_eq_not, Bool.not_true, Bool.not_false, beq_iff_eq, bne_iff_ne, ne_eq, beq_eq_false_iff_ne, bne_eq_false_iff_eq, gt_iff_lt, ge_iff_le, Int.not_lt, Int.not_le] at hc8
    refine c_skip (x_then (hK2 _ _ ?_))
    clear hK2 K2
    refine forget [(1, _), (2, _)] ⟨rfl, rfl, trivial⟩ (fun e => ?_)
    refine c_seq (fun K5 hK5 => ?_)
    refine c_reg ?_ -- region 3 simpm.go:78
    refine wl (ro_loadAggB rfl ag_151 (hA) (rfl) (rfl)) ?_
    refine wl (ro_move rfl) ?_
    refine wl_call rfl en_118 (hS118 hT hk hw (by omega)) ?_
    rintro _ w3 ⟨rfl, F3⟩
    replace hF := hF.thenDrew.thenN F3
    replace hT := F3.blkN hT
    replace hA := F3.blkN hA
    refine wl (ro_assign rfl) ?_
    refine wl_nil (x_then (hK5 _ _ ?_))
    clear hK5 K5
    refine c_ret ?_
    refine bp_ret Tryz.results91 rfl ?_
    exact ⟨rfl, hF⟩

theorem sumM_step {A j : Nat} : sumM A (j + 1) = if 0 < j then sumM A j + A + 1 else sumM A j + A := by
  unfold sumM
  rw [if_pos (by omega), Nat.add_mul, Nat.one_mul]
  by_cases h : 0 < j
  · rw [if_pos h, if_pos h]; omega
  · have : j = 0 := by omega
    subst this; simp
theorem tailM_step {A mn j : Nat} (h : mn ≤ j) : min (tailM A mn (some (j + 1))) 32 = min ((if 0 < min (tailM A mn (some j)) 32 then min (tailM A mn (some j)) 32 + 1 else min (tailM A mn (some j)) 32) + A + 2) 32 := by
  have e1 : tailM A mn (some (j + 1)) = (j - mn) * (A + 3) + (A + 3) - 1 := by
    show (if mn < j + 1 then (j + 1 - mn) * (A + 3) - 1 else 0) = _
    rw [if_pos (by omega), show j + 1 - mn = (j - mn) + 1 by omega, Nat.add_mul, Nat.one_mul]
  have e2 : tailM A mn (some j) = if mn < j then (j - mn) * (A + 3) - 1 else 0 := rfl
  rw [e1, e2]
  by_cases hm : mn < j
  · have : 1 * 3 ≤ (j - mn) * (A + 3) := Nat.mul_le_mul (by omega) (by omega)
    rw [if_pos hm, if_pos (by omega)]
    omega
  · have : j = mn := by omega
    subst this
    simp

set_option maxHeartbeats 4000000 in
theorem size118 {nb cap : Nat} {T : List RE} {c : Nat → Value} {z1 z2 z3 z4 : Value} (hle : T.length ≤ cap) (hAR : AR T c 0) : ∀ (k : Nat), SizeOK nb cap T c z1 z2 z3 z4 k := by
  intro k
  induction k using Nat.strongRecOn with
  | ind k ih =>
  intro w r hT hk hw hs2
  have hF : Fram none' w w := Fram.refl _ _
  have hN := hAR k r hk
  have hkl := (List.getElem?_eq_some_iff.1 hk).1
  generalize hcs : cel 11 (fun j => c (0 + 11 * k + j)) = cs at hN
  have hld := nd_load (cap := cap) (k := k) (by omega) hcs
  have hzl : ∀ a : RE, 1 ≤ zs a ∧ zs a ≤ 32 := fun a => ⟨zs_pos a, zs_le a⟩
  refine ret_of Tryz.func118 rfl Tryz.ntmps118 rfl ?_
  refine c_seq (fun K1 hK1 => ?_)
  rcases hN.kinds with ⟨hq, rfl⟩ | ⟨S, hq, rfl⟩ | ⟨hq, rfl⟩ | ⟨l, hq, rfl⟩ | ⟨a, b, i, j, hq, hi, hj, hia, hjb, rfl⟩ | ⟨o, a, b, i, j, hq, hi, hj, hia, hjb, rfl⟩ | ⟨ff, ps, x, a, i, hq, hi, hia, hcn, rfl⟩ | ⟨g, a, i, hq, hi, hia, rfl⟩
  · skip
    refine c_reg ?_ -- region 0 simpm.go:82
    refine wl_box (cs := (trc nb T.length cap z1 z2 z3 z4)) rfl rfl (fun ab w1 hbab hA F1 => ?_)
    have hbsab := Nat.le_trans hF.size hbab
    have hnenbab : nb < ab := Nat.lt_of_lt_of_le hT.lt hbab
    replace hF := hF.thenDrew.thenN F1
    replace hT := F1.blkN hT
    refine wl (ro_assign rfl) ?_
    refine wl_nil (x_then (hK1 _ _ ?_))
    clear hK1 K1
    refine forget [(1, _), (2, _)] ⟨rfl, rfl, trivial⟩ (fun e => ?_)
    refine c_seq (fun K2 hK2 => ?_)
    refine c_reg ?_ -- region 1 simpm.go:83
    refine wl (ro_fieldAddr (k := 0) rfl fo_151_0) ?_
    refine wl (ro_loadB rfl sc_98 (hA) (rfl)) ?_
    refine wl (ro_move rfl) ?_
    refine wl (ro_indexAddr (et := 89) (k := 11) rfl rfl se_98 (rfl) (hkl)) ?_
    refine wl (ro_loadAggB rfl ag_89 (hT) (rfl) (hld)) ?_
    refine wl_new (ze_89) (fun xb w2 hbxb hX F2 => ?_)
    have hbsxb := Nat.le_trans hF.size hbxb
    have hnenbxb : nb < xb := Nat.lt_of_lt_of_le hT.lt hbxb
    have hneabxb : ab < xb := Nat.lt_of_lt_of_le hA.lt hbxb
    replace hF := hF.thenDrew.thenN F2
    replace hT := F2.blkN hT
    replace hA := F2.blkN hA
    refine wl_puta rfl rfl (by simp [Value.oneCell', i64c, u64c, u8c, ptr]) sz_89 (rfl) hX ((by simp)) (rfl) (fun w3 hX F3 => ?_)
    replace hF := hF.thenDrew.thenO F3 (by first | exact .inr (by omega) | exact .inl rfl | exact .inl (by assumption))
    replace hT := F3.blkO hT (by omega)
    replace hA := F3.blkO hA (by omega)
    refine wl_nil (x_then (hK2 _ _ ?_))
    clear hK2 K2
    refine c_seq (fun K3 hK3 => ?_)
    refine c_seq (fun K4 hK4 => ?_)
    refine c_reg ?_ -- region 2 simpm.go:84
    refine wl (ro_fieldAddr (k := 0) rfl fo_89_0) ?_
    refine wl (ro_loadB rfl sc_3 (by assumption) rfl) ?_
    refine wl_nil (x_then (hK4 _ _ ?_))
    clear hK4 K4
    refine c_block ?_
    refine forget [(2, _), (5, _), (22, _)] ⟨rfl, rfl, rfl, trivial⟩ (fun e => ?_)
    refine c_seq (fun K5 hK5 => ?_)
    refine c_reg ?_ -- region 3 simpm.go:85
    refine wl (ro_cmp rfl rfl rfl) ?_
    refine wl (ro_assign rfl) ?_
    refine wl_nil (x_then (hK5 _ _ ?_))
    clear hK5 K5
    refine wc_condF rfl ?_
    refine c_seq (fun K6 hK6 => ?_)
    refine c_reg ?_ -- region 11 simpm.go:95
    refine wl (ro_cmp rfl rfl rfl) ?_
    refine wl (ro_assign rfl) ?_
    refine wl_nil (x_then (hK6 _ _ ?_))
    clear hK6 K6
    refine wc_condF rfl ?_
    refine c_seq (fun K7 hK7 => ?_)
    refine c_reg ?_ -- region 19 simpm.go:105
    refine wl (ro_cmp rfl rfl rfl) ?_
    refine wl (ro_assign rfl) ?_
    refine wl_nil (x_then (hK7 _ _ ?_))
    clear hK7 K7
    refine wc_condF rfl ?_
    refine c_seq (fun K8 hK8 => ?_)
    refine c_reg ?_ -- region 22 simpm.go:108
    refine wl (ro_cmp rfl rfl rfl) ?_
    refine wl (ro_assign rfl) ?_
    refine wl_nil (x_then (hK8 _ _ ?_))
    clear hK8 K8
    refine wc_condF rfl ?_
    refine c_skip (x_blk (x_then (hK3 _ _ ?_)))
    clear hK3 K3
    refine forget [] trivial (fun e => ?_)
    refine c_seq (fun K9 hK9 => ?_)
    refine c_reg ?_ -- region 43 simpm.go:132
    refine wl (ro_assign rfl) ?_
    refine wl_nil (x_then (hK9 _ _ ?_))
    clear hK9 K9
    refine c_ret ?_
    refine bp_ret Tryz.results118 rfl ?_
    exact ⟨by rw [hq] at hs2; simp [shp] at hs2, hF⟩
  · skip
    refine c_reg ?_ -- region 0 simpm.go:82
    refine wl_box (cs := (trc nb T.length cap z1 z2 z3 z4)) rfl rfl (fun ab w4 hbab hA F4 => ?_)
    have hbsab := Nat.le_trans hF.size hbab
    have hnenbab : nb < ab := Nat.lt_of_lt_of_le hT.lt hbab
    replace hF := hF.thenDrew.thenN F4
    replace hT := F4.blkN hT
    refine wl (ro_assign rfl) ?_
    refine wl_nil (x_then (hK1 _ _ ?_))
    clear hK1 K1
    refine forget [(1, _), (2, _)] ⟨rfl, rfl, trivial⟩ (fun e => ?_)
    refine c_seq (fun K10 hK10 => ?_)
    refine c_reg ?_ -- region 1 simpm.go:83
    refine wl (ro_fieldAddr (k := 0) rfl fo_151_0) ?_
    refine wl (ro_loadB rfl sc_98 (hA) (rfl)) ?_
    refine wl (ro_move rfl) ?_
    refine wl (ro_indexAddr (et := 89) (k := 11) rfl rfl se_98 (rfl) (hkl)) ?_
    refine wl (ro_loadAggB rfl ag_89 (hT) (rfl) (hld)) ?_
    refine wl_new (ze_89) (fun xb w5 hbxb hX F5 => ?_)
    have hbsxb := Nat.le_trans hF.size hbxb
    have hnenbxb : nb < xb := Nat.lt_of_lt_of_le hT.lt hbxb
    have hneabxb : ab < xb := Nat.lt_of_lt_of_le hA.lt hbxb
    replace hF := hF.thenDrew.thenN F5
    replace hT := F5.blkN hT
    replace hA := F5.blkN hA
    refine wl_puta rfl rfl (by simp [Value.oneCell', i64c, u64c, u8c, ptr]) sz_89 (rfl) hX ((by simp)) (rfl) (fun w6 hX F6 => ?_)
    replace hF := hF.thenDrew.thenO F6 (by first | exact .inr (by omega) | exact .inl rfl | exact .inl (by assumption))
    replace hT := F6.blkO hT (by omega)
    replace hA := F6.blkO hA (by omega)
    refine wl_nil (x_then (hK10 _ _ ?_))
    clear hK10 K10
    refine c_seq (fun K11 hK11 => ?_)
    refine c_seq (fun K12 hK12 => ?_)
    refine c_reg ?_ -- region 2 simpm.go:84
    refine wl (ro_fieldAddr (k := 0) rfl fo_89_0) ?_
    refine wl (ro_loadB rfl sc_3 (by assumption) rfl) ?_
    refine wl_nil (x_then (hK12 _ _ ?_))
    clear hK12 K12
    refine c_block ?_
    refine forget [(2, _), (5, _), (22, _)] ⟨rfl, rfl, rfl, trivial⟩ (fun e => ?_)
    refine c_seq (fun K13 hK13 => ?_)
    refine c_reg ?_ -- region 3 simpm.go:85
    refine wl (ro_cmp rfl rfl rfl) ?_
    refine wl (ro_assign rfl) ?_
    refine wl_nil (x_then (hK13 _ _ ?_))
    clear hK13 K13
    refine wc_condF rfl ?_
    refine c_seq (fun K14 hK14 => ?_)
    refine c_reg ?_ -- region 11 simpm.go:95
    refine wl (ro_cmp rfl rfl rfl) ?_
    refine wl (ro_assign rfl) ?_
    refine wl_nil (x_then (hK14 _ _ ?_))
    clear hK14 K14
    refine wc_condF rfl ?_
    refine c_seq (fun K15 hK15 => ?_)
    refine c_reg ?_ -- region 19 simpm.go:105
    refine wl (ro_cmp rfl rfl rfl) ?_
    refine wl (ro_assign rfl) ?_
    refine wl_nil (x_then (hK15 _ _ ?_))
    clear hK15 K15
    refine wc_condF rfl ?_
    refine c_seq (fun K16 hK16 => ?_)
    refine c_reg ?_ -- region 22 simpm.go:108
    refine wl (ro_cmp rfl rfl rfl) ?_
    refine wl (ro_assign rfl) ?_
    refine wl_nil (x_then (hK16 _ _ ?_))
    clear hK16 K16
    refine wc_condF rfl ?_
    refine c_skip (x_blk (x_then (hK11 _ _ ?_)))
    clear hK11 K11
    refine forget [] trivial (fun e => ?_)
    refine c_seq (fun K17 hK17 => ?_)
    refine c_reg ?_ -- region 43 simpm.go:132
    refine wl (ro_assign rfl) ?_
    refine wl_nil (x_then (hK17 _ _ ?_))
    clear hK17 K17
    refine c_ret ?_
    refine bp_ret Tryz.results118 rfl ?_
    have : zs r = 1 := by rw [zs2 hs2, hq]; simp [core, nds]
    rw [this]; exact ⟨rfl, hF⟩
  · skip
    refine c_reg ?_ -- region 0 simpm.go:82
    refine wl_box (cs := (trc nb T.length cap z1 z2 z3 z4)) rfl rfl (fun ab w7 hbab hA F7 => ?_)
    have hbsab := Nat.le_trans hF.size hbab
    have hnenbab : nb < ab := Nat.lt_of_lt_of_le hT.lt hbab
    replace hF := hF.thenDrew.thenN F7
    replace hT := F7.blkN hT
    refine wl (ro_assign rfl) ?_
    refine wl_nil (x_then (hK1 _ _ ?_))
    clear hK1 K1
    refine forget [(1, _), (2, _)] ⟨rfl, rfl, trivial⟩ (fun e => ?_)
    refine c_seq (fun K18 hK18 => ?_)
    refine c_reg ?_ -- region 1 simpm.go:83
    refine wl (ro_fieldAddr (k := 0) rfl fo_151_0) ?_
    refine wl (ro_loadB rfl sc_98 (hA) (rfl)) ?_
    refine wl (ro_move rfl) ?_
    refine wl (ro_indexAddr (et := 89) (k := 11) rfl rfl se_98 (rfl) (hkl)) ?_
    refine wl (ro_loadAggB rfl ag_89 (hT) (rfl) (hld)) ?_
    refine wl_new (ze_89) (fun xb w8 hbxb hX F8 => ?_)
    have hbsxb := Nat.le_trans hF.size hbxb
    have hnenbxb : nb < xb := Nat.lt_of_lt_of_le hT.lt hbxb
    have hneabxb : ab < xb := Nat.lt_of_lt_of_le hA.lt hbxb
    replace hF := hF.thenDrew.thenN F8
    replace hT := F8.blkN hT
    replace hA := F8.blkN hA
    refine wl_puta rfl rfl (by simp [Value.oneCell', i64c, u64c, u8c, ptr]) sz_89 (rfl) hX ((by simp)) (rfl) (fun w9 hX F9 => ?_)
    replace hF := hF.thenDrew.thenO F9 (by first | exact .inr (by omega) | exact .inl rfl | exact .inl (by assumption))
    replace hT := F9.blkO hT (by omega)
    replace hA := F9.blkO hA (by omega)
    refine wl_nil (x_then (hK18 _ _ ?_))
    clear hK18 K18
    refine c_seq (fun K19 hK19 => ?_)
    refine c_seq (fun K20 hK20 => ?_)
    refine c_reg ?_ -- region 2 simpm.go:84
    refine wl (ro_fieldAddr (k := 0) rfl fo_89_0) ?_
    refine wl (ro_loadB rfl sc_3 (by assumption) rfl) ?_
    refine wl_nil (x_then (hK20 _ _ ?_))
    clear hK20 K20
    refine c_block ?_
    refine forget [(2, _), (5, _), (22, _)] ⟨rfl, rfl, rfl, trivial⟩ (fun e => ?_)
    refine c_seq (fun K21 hK21 => ?_)
    refine c_reg ?_ -- region 3 simpm.go:85
    refine wl (ro_cmp rfl rfl rfl) ?_
    refine wl (ro_assign rfl) ?_
    refine wl_nil (x_then (hK21 _ _ ?_))
    clear hK21 K21
    refine wc_condF rfl ?_
    refine c_seq (fun K22 hK22 => ?_)
    refine c_reg ?_ -- region 11 simpm.go:95
    refine wl (ro_cmp rfl rfl rfl) ?_
    refine wl (ro_assign rfl) ?_
    refine wl_nil (x_then (hK22 _ _ ?_))
    clear hK22 K22
    refine wc_condF rfl ?_
    refine c_seq (fun K23 hK23 => ?_)
    refine c_reg ?_ -- region 19 simpm.go:105
    refine wl (ro_cmp rfl rfl rfl) ?_
    refine wl (ro_assign rfl) ?_
    refine wl_nil (x_then (hK23 _ _ ?_))
    clear hK23 K23
    refine wc_condF rfl ?_
    refine c_seq (fun K24 hK24 => ?_)
    refine c_reg ?_ -- region 22 simpm.go:108
    refine wl (ro_cmp rfl rfl rfl) ?_
    refine wl (ro_assign rfl) ?_
    refine wl_nil (x_then (hK24 _ _ ?_))
    clear hK24 K24
    refine wc_condF rfl ?_
    refine c_skip (x_blk (x_then (hK19 _ _ ?_)))
    clear hK19 K19
    refine forget [] trivial (fun e => ?_)
    refine c_seq (fun K25 hK25 => ?_)
    refine c_reg ?_ -- region 43 simpm.go:132
    refine wl (ro_assign rfl) ?_
    refine wl_nil (x_then (hK25 _ _ ?_))
    clear hK25 K25
    refine c_ret ?_
    refine bp_ret Tryz.results118 rfl ?_
    have : zs r = 1 := by rw [zs2 hs2, hq]; simp [core, nds]
    rw [this]; exact ⟨rfl, hF⟩
  · skip
    refine c_reg ?_ -- region 0 simpm.go:82
    refine wl_box (cs := (trc nb T.length cap z1 z2 z3 z4)) rfl rfl (fun ab w10 hbab hA F10 => ?_)
    have hbsab := Nat.le_trans hF.size hbab
    have hnenbab : nb < ab := Nat.lt_of_lt_of_le hT.lt hbab
    replace hF := hF.thenDrew.thenN F10
    replace hT := F10.blkN hT
    refine wl (ro_assign rfl) ?_
    refine wl_nil (x_then (hK1 _ _ ?_))
    clear hK1 K1
    refine forget [(1, _), (2, _)] ⟨rfl, rfl, trivial⟩ (fun e => ?_)
    refine c_seq (fun K26 hK26 => ?_)
    refine c_reg ?_ -- region 1 simpm.go:83
    refine wl (ro_fieldAddr (k := 0) rfl fo_151_0) ?_
    refine wl (ro_loadB rfl sc_98 (hA) (rfl)) ?_
    refine wl (ro_move rfl) ?_
    refine wl (ro_indexAddr (et := 89) (k := 11) rfl rfl se_98 (rfl) (hkl)) ?_
    refine wl (ro_loadAggB rfl ag_89 (hT) (rfl) (hld)) ?_
    refine wl_new (ze_89) (fun xb w11 hbxb hX F11 => ?_)
    have hbsxb := Nat.le_trans hF.size hbxb
    have hnenbxb : nb < xb := Nat.lt_of_lt_of_le hT.lt hbxb
    have hneabxb : ab < xb := Nat.lt_of_lt_of_le hA.lt hbxb
    replace hF := hF.thenDrew.thenN F11
    replace hT := F11.blkN hT
    replace hA := F11.blkN hA
    refine wl_puta rfl rfl (by simp [Value.oneCell', i64c, u64c, u8c, ptr]) sz_89 (rfl) hX ((by simp)) (rfl) (fun w12 hX F12 => ?_)
    replace hF := hF.thenDrew.thenO F12 (by first | exact .inr (by omega) | exact .inl rfl | exact .inl (by assumption))
    replace hT := F12.blkO hT (by omega)
    replace hA := F12.blkO hA (by omega)
    refine wl_nil (x_then (hK26 _ _ ?_))
    clear hK26 K26
    refine c_seq (fun K27 hK27 => ?_)
    refine c_seq (fun K28 hK28 => ?_)
    refine c_reg ?_ -- region 2 simpm.go:84
    refine wl (ro_fieldAddr (k := 0) rfl fo_89_0) ?_
    refine wl (ro_loadB rfl sc_3 (by assumption) rfl) ?_
    refine wl_nil (x_then (hK28 _ _ ?_))
    clear hK28 K28
    refine c_block ?_
    refine forget [(2, _), (5, _), (22, _)] ⟨rfl, rfl, rfl, trivial⟩ (fun e => ?_)
    refine c_seq (fun K29 hK29 => ?_)
    refine c_reg ?_ -- region 3 simpm.go:85
    refine wl (ro_cmp rfl rfl rfl) ?_
    refine wl (ro_assign rfl) ?_
    refine wl_nil (x_then (hK29 _ _ ?_))
    clear hK29 K29
    refine wc_condF rfl ?_
    refine c_seq (fun K30 hK30 => ?_)
    refine c_reg ?_ -- region 11 simpm.go:95
    refine wl (ro_cmp rfl rfl rfl) ?_
    refine wl (ro_assign rfl) ?_
    refine wl_nil (x_then (hK30 _ _ ?_))
    clear hK30 K30
    refine wc_condF rfl ?_
    refine c_seq (fun K31 hK31 => ?_)
    refine c_reg ?_ -- region 19 simpm.go:105
    refine wl (ro_cmp rfl rfl rfl) ?_
    refine wl (ro_assign rfl) ?_
    refine wl_nil (x_then (hK31 _ _ ?_))
    clear hK31 K31
    refine wc_condF rfl ?_
    refine c_seq (fun K32 hK32 => ?_)
    refine c_reg ?_ -- region 22 simpm.go:108
    refine wl (ro_cmp rfl rfl rfl) ?_
    refine wl (ro_assign rfl) ?_
    refine wl_nil (x_then (hK32 _ _ ?_))
    clear hK32 K32
    refine wc_condF rfl ?_
    refine c_skip (x_blk (x_then (hK27 _ _ ?_)))
    clear hK27 K27
    refine forget [] trivial (fun e => ?_)
    refine c_seq (fun K33 hK33 => ?_)
    refine c_reg ?_ -- region 43 simpm.go:132
    refine wl (ro_assign rfl) ?_
    refine wl_nil (x_then (hK33 _ _ ?_))
    clear hK33 K33
    refine c_ret ?_
    refine bp_ret Tryz.results118 rfl ?_
    have : zs r = 1 := by rw [zs2 hs2, hq]; simp [core, nds]
    rw [this]; exact ⟨rfl, hF⟩
  · skip
    have hwa : WF a := by rw [hq] at hw; exact hw.1
    have hwb : WF b := by rw [hq] at hw; exact hw.2
    have ca := shp_cases a
    have cb := shp_cases b
    have hs : shp r = if shp a = 1 ∨ shp b = 1 then 1 else if shp a = 0 ∧ shp b = 0 then 0 else 2 := by rw [hq]; rfl
    have hcm := (catM_ok a b).2 (by rw [hq] at hs2; exact hs2)
    have hzr : zs r = zs (.cat a b) := by rw [hq]
    have hn1 : ¬ (shp a = 1 ∨ shp b = 1) := fun h => by rw [if_pos h] at hs; omega
    have hn2 : ¬ (shp a = 0 ∧ shp b = 0) := fun h => by rw [if_neg hn1, if_pos h] at hs; omega
    unfold catM at hcm
    rw [if_neg hn1] at hcm
    have za := hzl a
    have zb := hzl b
    refine c_reg ?_ -- region 0 simpm.go:82
    refine wl_box (cs := (trc nb T.length cap z1 z2 z3 z4)) rfl rfl (fun ab w13 hbab hA F13 => ?_)
    have hbsab := Nat.le_trans hF.size hbab
    have hnenbab : nb < ab := Nat.lt_of_lt_of_le hT.lt hbab
    replace hF := hF.thenDrew.thenN F13
    replace hT := F13.blkN hT
    refine wl (ro_assign rfl) ?_
    refine wl_nil (x_then (hK1 _ _ ?_))
    clear hK1 K1
    refine forget [(1, _), (2, _)] ⟨rfl, rfl, trivial⟩ (fun e => ?_)
    refine c_seq (fun K34 hK34 => ?_)
    refine c_reg ?_ -- region 1 simpm.go:83
    refine wl (ro_fieldAddr (k := 0) rfl fo_151_0) ?_
    refine wl (ro_loadB rfl sc_98 (hA) (rfl)) ?_
    refine wl (ro_move rfl) ?_
    refine wl (ro_indexAddr (et := 89) (k := 11) rfl rfl se_98 (rfl) (hkl)) ?_
    refine wl (ro_loadAggB rfl ag_89 (hT) (rfl) (hld)) ?_
    refine wl_new (ze_89) (fun xb w14 hbxb hX F14 => ?_)
    have hbsxb := Nat.le_trans hF.size hbxb
    have hnenbxb : nb < xb := Nat.lt_of_lt_of_le hT.lt hbxb
    have hneabxb : ab < xb := Nat.lt_of_lt_of_le hA.lt hbxb
    replace hF := hF.thenDrew.thenN F14
    replace hT := F14.blkN hT
    replace hA := F14.blkN hA
    refine wl_puta rfl rfl (by simp [Value.oneCell', i64c, u64c, u8c, ptr]) sz_89 (rfl) hX ((by simp)) (rfl) (fun w15 hX F15 => ?_)
    replace hF := hF.thenDrew.thenO F15 (by first | exact .inr (by omega) | exact .inl rfl | exact .inl (by assumption))
    replace hT := F15.blkO hT (by omega)
    replace hA := F15.blkO hA (by omega)
    refine wl_nil (x_then (hK34 _ _ ?_))
    clear hK34 K34
    refine c_seq (fun K35 hK35 => ?_)
    refine c_seq (fun K36 hK36 => ?_)
    refine c_reg ?_ -- region 2 simpm.go:84
    refine wl (ro_fieldAddr (k := 0) rfl fo_89_0) ?_
    refine wl (ro_loadB rfl sc_3 (by assumption) rfl) ?_
    refine wl_nil (x_then (hK36 _ _ ?_))
    clear hK36 K36
    refine c_block ?_
    refine forget [(2, _), (5, _), (22, _)] ⟨rfl, rfl, rfl, trivial⟩ (fun e => ?_)
    refine c_seq (fun K37 hK37 => ?_)
    refine c_reg ?_ -- region 3 simpm.go:85
    refine wl (ro_cmp rfl rfl rfl) ?_
    refine wl (ro_assign rfl) ?_
    refine wl_nil (x_then (hK37 _ _ ?_))
    clear hK37 K37
    refine wc_condT rfl ?_
    refine c_seq (fun K38 hK38 => ?_)
    refine c_seq (fun K39 hK39 => ?_)
    refine c_reg ?_ -- region 4 simpm.go:86
    refine wl (ro_loadAggB rfl ag_151 (hA) (rfl) (rfl)) ?_
    refine wl (ro_fieldAddr (k := 1) rfl fo_89_1) ?_
    refine wl (ro_loadB rfl sc_3 (hX) (rfl)) ?_
    refine wl_call rfl en_117 (shape117 hle hAR i hT hia hwa) ?_
    rintro _ w16 ⟨rfl, F16⟩
    replace hF := hF.thenDrew.thenN F16
    replace hT := F16.blkN hT
    replace hA := F16.blkN hA
    replace hX := F16.blkN hX
    refine wl (ro_cmp (r := decide (shp a = 0)) rfl rfl (congrArg some (beqc (shp a) 0))) ?_
    refine wl_nil (x_then (hK39 _ _ ?_))
    clear hK39 K39
    refine wc_cond rfl (fun hc29 => ?_) (fun hc29 => ?_)
    · try simp only [decide_eq_true_eq, decide_eq_false_iff_not, Bool.not_eq_true', Bool.not_eq_false', Bool.not_eq_eq_eq_not, Bool.not_true, Bool.not_false, beq_iff_eq, bne_iff_ne, ne_eq, beq_eq_false_iff_ne, bne_eq_false_iff_eq, gt_iff_lt, ge_iff_le, Int.not_lt, Int.not_le] at hc29
      refine c_seq (fun K40 hK40 => ?_)
      refine c_reg ?_ -- region 5 simpm.go:87
      refine wl (ro_loadAggB rfl ag_151 (hA) (rfl) (rfl)) ?_
      refine wl (ro_fieldAddr (k := 2) rfl fo_89_2) ?_
      refine wl (ro_loadB rfl sc_3 (hX) (rfl)) ?_
      refine wl_call rfl en_118 (ih j hj hT hjb hwb (by omega)) ?_
      rintro _ w17 ⟨rfl, F17⟩
      replace hF := hF.thenDrew.thenN F17
      replace hT := F17.blkN hT
      replace hA := F17.blkN hA
      replace hX := F17.blkN hX
      refine wl (ro_assign rfl) ?_
      refine wl_nil (x_then (hK40 _ _ ?_))
      clear hK40 K40
      refine c_ret (x_thenR (x_blkR (x_thenR ?_)))
      refine bp_ret Tryz.results118 rfl ?_
      first
        | (rw [if_pos hc29] at hcm; rw [hzr, ← hcm]; exact ⟨rfl, hF⟩)
        | (rw [if_neg hc29, if_pos hc38] at hcm; rw [hzr, ← hcm]; exact ⟨rfl, hF⟩)
        | (rw [if_neg hc29, if_neg hc38] at hcm; rw [hzr, ← hcm]; exact ⟨rfl, hF⟩)
    · try simp only [decide_eq_true_eq, decide_eq_false_iff_not, Bool.not_eq_true', Bool.not_eq_false', Bool.not_eq_eq_eq_not, Bool.not_true, Bool.not_false, beq_iff_eq, bne_iff_ne, ne_eq, beq_eq_false_iff_ne, bne_eq_false_iff_eq, gt_iff_lt, ge_iff_le, Int.not_lt, Int.not_le] at hc29
      refine c_skip (x_then (hK38 _ _ ?_))
      clear hK38 K38
      refine c_seq (fun K41 hK41 => ?_)
      refine c_seq (fun K42 hK42 => ?_)
      refine c_reg ?_ -- region 6 simpm.go:89
      refine wl (ro_loadAggB rfl ag_151 (hA) (rfl) (rfl)) ?_
      refine wl (ro_fieldAddr (k := 2) rfl fo_89_2) ?_
      refine wl (ro_loadB rfl sc_3 (hX) (rfl)) ?_
      refine wl_call rfl en_117 (shape117 hle hAR j hT hjb hwb) ?_
      rintro _ w18 ⟨rfl, F18⟩
      replace hF := hF.thenDrew.thenN F18
      replace hT := F18.blkN hT
      replace hA := F18.blkN hA
      replace hX := F18.blkN hX
      refine wl (ro_cmp (r := decide (shp b = 0)) rfl rfl (congrArg some (beqc (shp b) 0))) ?_
      refine wl_nil (x_then (hK42 _ _ ?_))
      clear hK42 K42
      refine wc_cond rfl (fun hc38 => ?_) (fun hc38 => ?_)
      · try simp only [decide_eq_true_eq, decide_eq_false_iff_not, Bool.not_eq_true', Bool.not_eq_false', Bool.not_eq_eq_eq_not, Bool.not_true, Bool.not_false, beq_iff_eq, bne_iff_ne, ne_eq, beq_eq_false_iff_ne, bne_eq_false_iff_eq, gt_iff_lt, ge_iff_le, Int.not_lt, Int.not_le] at hc38
        refine c_seq (fun K43 hK43 => ?_)
        refine c_reg ?_ -- region 7 simpm.go:90
        refine wl (ro_loadAggB rfl ag_151 (hA) (rfl) (rfl)) ?_
        refine wl (ro_fieldAddr (k := 1) rfl fo_89_1) ?_
        refine wl (ro_loadB rfl sc_3 (hX) (rfl)) ?_
        refine wl_call rfl en_118 (ih i hi hT hia hwa (by omega)) ?_
        rintro _ w19 ⟨rfl, F19⟩
        replace hF := hF.thenDrew.thenN F19
        replace hT := F19.blkN hT
        replace hA := F19.blkN hA
        replace hX := F19.blkN hX
        refine wl (ro_assign rfl) ?_
        refine wl_nil (x_then (hK43 _ _ ?_))
        clear hK43 K43
        refine c_ret (x_thenR (x_blkR (x_thenR ?_)))
        refine bp_ret Tryz.results118 rfl ?_
        first
          | (rw [if_pos hc29] at hcm; rw [hzr, ← hcm]; exact ⟨rfl, hF⟩)
          | (rw [if_neg hc29, if_pos hc38] at hcm; rw [hzr, ← hcm]; exact ⟨rfl, hF⟩)
          | (rw [if_neg hc29, if_neg hc38] at hcm; rw [hzr, ← hcm]; exact ⟨rfl, hF⟩)
      · try simp only [decide_eq_true_eq, decide_eq_false_iff_not, Bool.not_eq_true', Bool.not_eq_false', Bool.not_eq_eq_eq_not, Bool.not_true, Bool.not_false, beq_iff_eq, bne_iff_ne, ne_eq, beq_eq_false_iff_ne, bne_eq_false_iff_eq, gt_iff_lt, ge_iff_le, Int.not_lt, Int.not_le] at hc38
        refine c_skip (x_then (hK41 _ _ ?_))
        clear hK41 K41
        refine forget [(2, _), (5, _)] ⟨rfl, rfl, trivial⟩ (fun e => ?_)
        refine c_seq (fun K44 hK44 => ?_)
        refine c_reg ?_ -- region 8 simpm.go:92
        refine wl (ro_loadAggB rfl ag_151 (hA) (rfl) (rfl)) ?_
        refine wl (ro_fieldAddr (k := 1) rfl fo_89_1) ?_
        refine wl (ro_loadB rfl sc_3 (hX) (rfl)) ?_
        refine wl_call rfl en_118 (ih i hi hT hia hwa (by omega)) ?_
        rintro _ w20 ⟨rfl, F20⟩
        replace hF := hF.thenDrew.thenN F20
        replace hT := F20.blkN hT
        replace hA := F20.blkN hA
        replace hX := F20.blkN hX
        refine wl (ro_assign rfl) ?_
        refine wl_nil (x_then (hK44 _ _ ?_))
        clear hK44 K44
        refine forget [(2, _), (5, _), (6, _)] ⟨rfl, rfl, rfl, trivial⟩ (fun e => ?_)
        refine c_seq (fun K45 hK45 => ?_)
        refine c_reg ?_ -- region 9 simpm.go:93
        refine wl (ro_loadAggB rfl ag_151 (hA) (rfl) (rfl)) ?_
        refine wl (ro_fieldAddr (k := 2) rfl fo_89_2) ?_
        refine wl (ro_loadB rfl sc_3 (hX) (rfl)) ?_
        refine wl_call rfl en_118 (ih j hj hT hjb hwb (by omega)) ?_
        rintro _ w21 ⟨rfl, F21⟩
        replace hF := hF.thenDrew.thenN F21
        replace hT := F21.blkN hT
        replace hA := F21.blkN hA
        replace hX := F21.blkN hX
        refine wl (ro_assign rfl) ?_
        refine wl_nil (x_then (hK45 _ _ ?_))
        clear hK45 K45
        refine forget [(6, _), (7, _)] ⟨rfl, rfl, trivial⟩ (fun e => ?_)
        refine c_seq (fun K46 hK46 => ?_)
        refine c_reg ?_ -- region 10 simpm.go:94
        refine wl (ro_move rfl) ?_
        refine wl (ro_move rfl) ?_
        refine wl (ro_arith rfl rfl rfl (Go.IntWalk.i64_in _ (by omega))) ?_
        refine wl (ro_arith rfl rfl rfl (Go.IntWalk.i64_in _ (by omega))) ?_
        refine wl_call rfl en_134 (lid134 (n := zs a + zs b + 1)) ?_
        rintro _ w22 ⟨rfl, F22⟩
        replace hF := hF.thenDrew.thenN F22
        replace hT := F22.blkN hT
        replace hA := F22.blkN hA
        replace hX := F22.blkN hX
        refine wl (ro_assign rfl) ?_
        refine wl_nil (x_then (hK46 _ _ ?_))
        clear hK46 K46
        refine c_ret (x_blkR (x_thenR ?_))
        refine bp_ret Tryz.results118 rfl ?_
        first
          | (rw [if_pos hc29] at hcm; rw [hzr, ← hcm]; exact ⟨rfl, hF⟩)
          | (rw [if_neg hc29, if_pos hc38] at hcm; rw [hzr, ← hcm]; exact ⟨rfl, hF⟩)
          | (rw [if_neg hc29, if_neg hc38] at hcm; rw [hzr, ← hcm]; exact ⟨rfl, hF⟩)
  · skip
    have hwa : WF a := by rw [hq] at hw; exact hw.1
    have hwb : WF b := by rw [hq] at hw; exact hw.2
    have ca := shp_cases a
    have cb := shp_cases b
    have hs : shp r = if shp a = 1 then shp b else if shp b = 1 ∨ (shp a = 0 ∧ shp b = 0) then shp a else 2 := by rw [hq]; rfl
    have hcm := (altM_ok a b).2 (by rw [hq] at hs2; exact hs2)
    have hzr : zs r = zs (.alt a b) := by rw [hq]; rfl
    unfold altM at hcm
    have za := hzl a
    have zb := hzl b
    refine c_reg ?_ -- region 0 simpm.go:82
    refine wl_box (cs := (trc nb T.length cap z1 z2 z3 z4)) rfl rfl (fun ab w23 hbab hA F23 => ?_)
    have hbsab := Nat.le_trans hF.size hbab
    have hnenbab : nb < ab := Nat.lt_of_lt_of_le hT.lt hbab
    replace hF := hF.thenDrew.thenN F23
    replace hT := F23.blkN hT
    refine wl (ro_assign rfl) ?_
    refine wl_nil (x_then (hK1 _ _ ?_))
    clear hK1 K1
    refine forget [(1, _), (2, _)] ⟨rfl, rfl, trivial⟩ (fun e => ?_)
    refine c_seq (fun K47 hK47 => ?_)
    refine c_reg ?_ -- region 1 simpm.go:83
    refine wl (ro_fieldAddr (k := 0) rfl fo_151_0) ?_
    refine wl (ro_loadB rfl sc_98 (hA) (rfl)) ?_
    refine wl (ro_move rfl) ?_
    refine wl (ro_indexAddr (et := 89) (k := 11) rfl rfl se_98 (rfl) (hkl)) ?_
    refine wl (ro_loadAggB rfl ag_89 (hT) (rfl) (hld)) ?_
    refine wl_new (ze_89) (fun xb w24 hbxb hX F24 => ?_)
    have hbsxb := Nat.le_trans hF.size hbxb
    have hnenbxb : nb < xb := Nat.lt_of_lt_of_le hT.lt hbxb
    have hneabxb : ab < xb := Nat.lt_of_lt_of_le hA.lt hbxb
    replace hF := hF.thenDrew.thenN F24
    replace hT := F24.blkN hT
    replace hA := F24.blkN hA
    refine wl_puta rfl rfl (by simp [Value.oneCell', i64c, u64c, u8c, ptr]) sz_89 (rfl) hX ((by simp)) (rfl) (fun w25 hX F25 => ?_)
    replace hF := hF.thenDrew.thenO F25 (by first | exact .inr (by omega) | exact .inl rfl | exact .inl (by assumption))
    replace hT := F25.blkO hT (by omega)
    replace hA := F25.blkO hA (by omega)
    refine wl_nil (x_then (hK47 _ _ ?_))
    clear hK47 K47
    refine c_seq (fun K48 hK48 => ?_)
    refine c_seq (fun K49 hK49 => ?_)
    refine c_reg ?_ -- region 2 simpm.go:84
    refine wl (ro_fieldAddr (k := 0) rfl fo_89_0) ?_
    refine wl (ro_loadB rfl sc_3 (by assumption) rfl) ?_
    refine wl_nil (x_then (hK49 _ _ ?_))
    clear hK49 K49
    refine c_block ?_
    refine forget [(2, _), (5, _), (22, _)] ⟨rfl, rfl, rfl, trivial⟩ (fun e => ?_)
    refine c_seq (fun K50 hK50 => ?_)
    refine c_reg ?_ -- region 3 simpm.go:85
    refine wl (ro_cmp rfl rfl rfl) ?_
    refine wl (ro_assign rfl) ?_
    refine wl_nil (x_then (hK50 _ _ ?_))
    clear hK50 K50
    refine wc_condF rfl ?_
    refine c_seq (fun K51 hK51 => ?_)
    refine c_reg ?_ -- region 11 simpm.go:95
    refine wl (ro_cmp rfl rfl rfl) ?_
    refine wl (ro_assign rfl) ?_
    refine wl_nil (x_then (hK51 _ _ ?_))
    clear hK51 K51
    refine wc_condT rfl ?_
    refine c_seq (fun K52 hK52 => ?_)
    refine c_seq (fun K53 hK53 => ?_)
    refine c_reg ?_ -- region 12 simpm.go:96
    refine wl (ro_loadAggB rfl ag_151 (hA) (rfl) (rfl)) ?_
    refine wl (ro_fieldAddr (k := 1) rfl fo_89_1) ?_
    refine wl (ro_loadB rfl sc_3 (hX) (rfl)) ?_
    refine wl_call rfl en_117 (shape117 hle hAR i hT hia hwa) ?_
    rintro _ w26 ⟨rfl, F26⟩
    replace hF := hF.thenDrew.thenN F26
    replace hT := F26.blkN hT
    replace hA := F26.blkN hA
    replace hX := F26.blkN hX
    refine wl (ro_cmp (r := decide (shp a = 1)) rfl rfl (congrArg some (beqc (shp a) 1))) ?_
    refine wl_nil (x_then (hK53 _ _ ?_))
    clear hK53 K53
    refine wc_cond rfl (fun hc62 => ?_) (fun hc62 => ?_)
    · try simp only [decide_eq_true_eq, decide_eq_false_iff_not, Bool.not_eq_true', Bool.not_eq_false', Bool.not_eq_eq_eq_not, Bool.not_true, Bool.not_false, beq_iff_eq, bne_iff_ne, ne_eq, beq_eq_false_iff_ne, bne_eq_false_iff_eq, gt_iff_lt, ge_iff_le, Int.not_lt, Int.not_le] at hc62
      rw [if_pos hc62] at hs hcm
      refine c_seq (fun K54 hK54 => ?_)
      refine c_reg ?_ -- region 13 simpm.go:97
      refine wl (ro_loadAggB rfl ag_151 (hA) (rfl) (rfl)) ?_
      refine wl (ro_fieldAddr (k := 2) rfl fo_89_2) ?_
      refine wl (ro_loadB rfl sc_3 (hX) (rfl)) ?_
      refine wl_call rfl en_118 (ih j hj hT hjb hwb (by omega)) ?_
      rintro _ w27 ⟨rfl, F27⟩
      replace hF := hF.thenDrew.thenN F27
      replace hT := F27.blkN hT
      replace hA := F27.blkN hA
      replace hX := F27.blkN hX
      refine wl (ro_assign rfl) ?_
      refine wl_nil (x_then (hK54 _ _ ?_))
      clear hK54 K54
      refine c_ret (x_thenR (x_blkR (x_thenR ?_)))
      refine bp_ret Tryz.results118 rfl ?_
      rw [hzr, ← hcm]; exact ⟨rfl, hF⟩
    · try simp only [decide_eq_true_eq, decide_eq_false_iff_not, Bool.not_eq_true', Bool.not_eq_false', Bool.not_eq_eq_eq_not, Bool.not_true, Bool.not_false, beq_iff_eq, bne_iff_ne, ne_eq, beq_eq_false_iff_ne, bne_eq_false_iff_eq, gt_iff_lt, ge_iff_le, Int.not_lt, Int.not_le] at hc62
      rw [if_neg hc62] at hs hcm
      refine c_skip (x_then (hK52 _ _ ?_))
      clear hK52 K52
      refine c_seq (fun K55 hK55 => ?_)
      refine c_seq (fun K56 hK56 => ?_)
      refine c_reg ?_ -- region 14 simpm.go:99
      refine wl (ro_loadAggB rfl ag_151 (hA) (rfl) (rfl)) ?_
      refine wl (ro_fieldAddr (k := 2) rfl fo_89_2) ?_
      refine wl (ro_loadB rfl sc_3 (hX) (rfl)) ?_
      refine wl_call rfl en_117 (shape117 hle hAR j hT hjb hwb) ?_
      rintro _ w28 ⟨rfl, F28⟩
      replace hF := hF.thenDrew.thenN F28
      replace hT := F28.blkN hT
      replace hA := F28.blkN hA
      replace hX := F28.blkN hX
      refine wl (ro_cmp (r := decide (shp b = 1)) rfl rfl (congrArg some (beqc (shp b) 1))) ?_
      refine wl_nil (x_then (hK56 _ _ ?_))
      clear hK56 K56
      refine wc_cond rfl (fun hc71 => ?_) (fun hc71 => ?_)
      · try simp only [decide_eq_true_eq, decide_eq_false_iff_not, Bool.not_eq_true', Bool.not_eq_false', Bool.not_eq_eq_eq_not, Bool.not_true, Bool.not_false, beq_iff_eq, bne_iff_ne, ne_eq, beq_eq_false_iff_ne, bne_eq_false_iff_eq, gt_iff_lt, ge_iff_le, Int.not_lt, Int.not_le] at hc71
        rw [if_pos (.inl hc71)] at hs
        rw [if_pos hc71] at hcm
        refine c_seq (fun K57 hK57 => ?_)
        refine c_reg ?_ -- region 15 simpm.go:100
        refine wl (ro_loadAggB rfl ag_151 (hA) (rfl) (rfl)) ?_
        refine wl (ro_fieldAddr (k := 1) rfl fo_89_1) ?_
        refine wl (ro_loadB rfl sc_3 (hX) (rfl)) ?_
        refine wl_call rfl en_118 (ih i hi hT hia hwa (by omega)) ?_
        rintro _ w29 ⟨rfl, F29⟩
        replace hF := hF.thenDrew.thenN F29
        replace hT := F29.blkN hT
        replace hA := F29.blkN hA
        replace hX := F29.blkN hX
        refine wl (ro_assign rfl) ?_
        refine wl_nil (x_then (hK57 _ _ ?_))
        clear hK57 K57
        refine c_ret (x_thenR (x_blkR (x_thenR ?_)))
        refine bp_ret Tryz.results118 rfl ?_
        rw [hzr, ← hcm]; exact ⟨rfl, hF⟩
      · try simp only [decide_eq_true_eq, decide_eq_false_iff_not, Bool.not_eq_true', Bool.not_eq_false', Bool.not_eq_eq_eq_not, Bool.not_true, Bool.not_false, beq_iff_eq, bne_iff_ne, ne_eq, beq_eq_false_iff_ne, bne_eq_false_iff_eq, gt_iff_lt, ge_iff_le, Int.not_lt, Int.not_le] at hc71
        rw [if_neg hc71] at hcm
        have hn3 : ¬ (shp a = 0 ∧ shp b = 0) := fun h => by rw [if_pos (.inr h)] at hs; omega
        rw [if_neg hn3] at hcm
        refine c_skip (x_then (hK55 _ _ ?_))
        clear hK55 K55
        refine forget [(2, _), (5, _)] ⟨rfl, rfl, trivial⟩ (fun e => ?_)
        refine c_seq (fun K58 hK58 => ?_)
        refine c_reg ?_ -- region 16 simpm.go:102
        refine wl (ro_loadAggB rfl ag_151 (hA) (rfl) (rfl)) ?_
        refine wl (ro_fieldAddr (k := 1) rfl fo_89_1) ?_
        refine wl (ro_loadB rfl sc_3 (hX) (rfl)) ?_
        refine wl_call rfl en_91 (leaf91 hle hAR (ih i hi) hT hia hwa) ?_
        rintro _ w30 ⟨rfl, F30⟩
        replace hF := hF.thenDrew.thenN F30
        replace hT := F30.blkN hT
        replace hA := F30.blkN hA
        replace hX := F30.blkN hX
        refine wl (ro_assign rfl) ?_
        refine wl_nil (x_then (hK58 _ _ ?_))
        clear hK58 K58
        refine forget [(2, _), (5, _), (8, _)] ⟨rfl, rfl, rfl, trivial⟩ (fun e => ?_)
        refine c_seq (fun K59 hK59 => ?_)
        refine c_reg ?_ -- region 17 simpm.go:103
        refine wl (ro_loadAggB rfl ag_151 (hA) (rfl) (rfl)) ?_
        refine wl (ro_fieldAddr (k := 2) rfl fo_89_2) ?_
        refine wl (ro_loadB rfl sc_3 (hX) (rfl)) ?_
        refine wl_call rfl en_91 (leaf91 hle hAR (ih j hj) hT hjb hwb) ?_
        rintro _ w31 ⟨rfl, F31⟩
        replace hF := hF.thenDrew.thenN F31
        replace hT := F31.blkN hT
        replace hA := F31.blkN hA
        replace hX := F31.blkN hX
        refine wl (ro_assign rfl) ?_
        refine wl_nil (x_then (hK59 _ _ ?_))
        clear hK59 K59
        refine forget [(8, _), (9, _)] ⟨rfl, rfl, trivial⟩ (fun e => ?_)
        refine c_seq (fun K60 hK60 => ?_)
        refine c_reg ?_ -- region 18 simpm.go:104
        refine wl (ro_move rfl) ?_
        refine wl (ro_move rfl) ?_
        refine wl (ro_arith rfl rfl rfl (Go.IntWalk.i64_in _ (by omega))) ?_
        refine wl (ro_arith rfl rfl rfl (Go.IntWalk.i64_in _ (by omega))) ?_
        refine wl_call rfl en_134 (lid134 (n := zs a + zs b + 1)) ?_
        rintro _ w32 ⟨rfl, F32⟩
        replace hF := hF.thenDrew.thenN F32
        replace hT := F32.blkN hT
        replace hA := F32.blkN hA
        replace hX := F32.blkN hX
        refine wl (ro_assign rfl) ?_
        refine wl_nil (x_then (hK60 _ _ ?_))
        clear hK60 K60
        refine c_ret (x_blkR (x_thenR ?_))
        refine bp_ret Tryz.results118 rfl ?_
        rw [hzr, ← hcm]; exact ⟨rfl, hF⟩
  · skip
    have hwa : WF a := by rw [hq] at hw; exact hw.1
    have ca := shp_cases a
    have hs : shp r = if shp a = 1 ∧ 0 < rmn x then 1 else if shp a ≠ 2 ∨ rmx x = some 0 then 0 else 2 := by rw [hq]; rfl
    have hn1 : ¬ (shp a = 1 ∧ 0 < rmn x) := fun h => by rw [if_pos h] at hs; omega
    have hn2 : ¬ (shp a ≠ 2 ∨ rmx x = some 0) := fun h => by rw [if_neg hn1, if_pos h] at hs; omega
    have hsa : shp a = 2 := by
      by_cases h : shp a = 2
      · exact h
      · exact absurd (.inl h) hn2
    have hkey := (repM_ok a (rmn x) (rmx x) (rlz x) hcn.1 hcn.2).2 (by rw [shp_rep, if_neg hn1, if_neg hn2])
    have hzr : zs r = zs (.rep a (rmn x) (rmx x) (rlz x)) := by
      rw [hq]
      unfold zs child
      rw [shp_rep, core_rep]
      rfl
    unfold repM at hkey
    rw [if_neg hn1, if_neg hn2] at hkey
    have za := hzl a
    obtain ⟨M, hM⟩ : ∃ M : Int, mxI (rmx x) = M := ⟨_, rfl⟩
    rw [hM] at hld
    have hmn3 := hcn.1
    have hsb : ∀ j, j ≤ 3 → sumM (zs a) j ≤ 200 := by
      intro j hj
      unfold sumM
      have : j = 0 ∨ j = 1 ∨ j = 2 ∨ j = 3 := by omega
      rcases this with rfl | rfl | rfl | rfl <;> simp <;> omega
    refine c_reg ?_ -- region 0 simpm.go:82
    refine wl_box (cs := (trc nb T.length cap z1 z2 z3 z4)) rfl rfl (fun ab w33 hbab hA F33 => ?_)
    have hbsab := Nat.le_trans hF.size hbab
    have hnenbab : nb < ab := Nat.lt_of_lt_of_le hT.lt hbab
    replace hF := hF.thenDrew.thenN F33
    replace hT := F33.blkN hT
    refine wl (ro_assign rfl) ?_
    refine wl_nil (x_then (hK1 _ _ ?_))
    clear hK1 K1
    refine forget [(1, _), (2, _)] ⟨rfl, rfl, trivial⟩ (fun e => ?_)
    refine c_seq (fun K61 hK61 => ?_)
    refine c_reg ?_ -- region 1 simpm.go:83
    refine wl (ro_fieldAddr (k := 0) rfl fo_151_0) ?_
    refine wl (ro_loadB rfl sc_98 (hA) (rfl)) ?_
    refine wl (ro_move rfl) ?_
    refine wl (ro_indexAddr (et := 89) (k := 11) rfl rfl se_98 (rfl) (hkl)) ?_
    refine wl (ro_loadAggB rfl ag_89 (hT) (rfl) (hld)) ?_
    refine wl_new (ze_89) (fun xb w34 hbxb hX F34 => ?_)
    have hbsxb := Nat.le_trans hF.size hbxb
    have hnenbxb : nb < xb := Nat.lt_of_lt_of_le hT.lt hbxb
    have hneabxb : ab < xb := Nat.lt_of_lt_of_le hA.lt hbxb
    replace hF := hF.thenDrew.thenN F34
    replace hT := F34.blkN hT
    replace hA := F34.blkN hA
    refine wl_puta rfl rfl (by simp [Value.oneCell', i64c, u64c, u8c, ptr]) sz_89 (rfl) hX ((by simp)) (rfl) (fun w35 hX F35 => ?_)
    replace hF := hF.thenDrew.thenO F35 (by first | exact .inr (by omega) | exact .inl rfl | exact .inl (by assumption))
    replace hT := F35.blkO hT (by omega)
    replace hA := F35.blkO hA (by omega)
    refine wl_nil (x_then (hK61 _ _ ?_))
    clear hK61 K61
    refine c_seq (fun K62 hK62 => ?_)
    refine c_seq (fun K63 hK63 => ?_)
    refine c_reg ?_ -- region 2 simpm.go:84
    refine wl (ro_fieldAddr (k := 0) rfl fo_89_0) ?_
    refine wl (ro_loadB rfl sc_3 (by assumption) rfl) ?_
    refine wl_nil (x_then (hK63 _ _ ?_))
    clear hK63 K63
    refine c_block ?_
    refine forget [(2, _), (5, _), (22, _)] ⟨rfl, rfl, rfl, trivial⟩ (fun e => ?_)
    refine c_seq (fun K64 hK64 => ?_)
    refine c_reg ?_ -- region 3 simpm.go:85
    refine wl (ro_cmp rfl rfl rfl) ?_
    refine wl (ro_assign rfl) ?_
    refine wl_nil (x_then (hK64 _ _ ?_))
    clear hK64 K64
    refine wc_condF rfl ?_
    refine c_seq (fun K65 hK65 => ?_)
    refine c_reg ?_ -- region 11 simpm.go:95
    refine wl (ro_cmp rfl rfl rfl) ?_
    refine wl (ro_assign rfl) ?_
    refine wl_nil (x_then (hK65 _ _ ?_))
    clear hK65 K65
    refine wc_condF rfl ?_
    refine c_seq (fun K66 hK66 => ?_)
    refine c_reg ?_ -- region 19 simpm.go:105
    refine wl (ro_cmp rfl rfl rfl) ?_
    refine wl (ro_assign rfl) ?_
    refine wl_nil (x_then (hK66 _ _ ?_))
    clear hK66 K66
    refine wc_condF rfl ?_
    refine c_seq (fun K67 hK67 => ?_)
    refine c_reg ?_ -- region 22 simpm.go:108
    refine wl (ro_cmp rfl rfl rfl) ?_
    refine wl (ro_assign rfl) ?_
    refine wl_nil (x_then (hK67 _ _ ?_))
    clear hK67 K67
    refine wc_condT rfl ?_
    refine c_seq (fun K68 hK68 => ?_)
    refine c_reg ?_ -- region 23 simpm.go:109
    refine wl (ro_loadAggB rfl ag_151 (hA) (rfl) (rfl)) ?_
    refine wl (ro_fieldAddr (k := 1) rfl fo_89_1) ?_
    refine wl (ro_loadB rfl sc_3 (hX) (rfl)) ?_
    refine wl_call rfl en_118 (ih i hi hT hia hwa hsa) ?_
    rintro _ w36 ⟨rfl, F36⟩
    replace hF := hF.thenDrew.thenN F36
    replace hT := F36.blkN hT
    replace hA := F36.blkN hA
    replace hX := F36.blkN hX
    refine wl (ro_assign rfl) ?_
    refine wl_nil (x_then (hK68 _ _ ?_))
    clear hK68 K68
    refine forget [(5, _), (11, _)] ⟨rfl, rfl, trivial⟩ (fun e => ?_)
    refine c_seq (fun K69 hK69 => ?_)
    refine c_reg ?_ -- region 24 simpm.go:110
    refine wl (ro_assign rfl) ?_
    refine wl_nil (x_then (hK69 _ _ ?_))
    clear hK69 K69
    refine c_seq (fun K70 hK70 => ?_)
    refine c_seq (fun K71 hK71 => ?_)
    refine c_reg ?_ -- region 25 simpm.go:111
    refine wl (ro_assign rfl) ?_
    refine wl_nil (x_then (hK71 _ _ ?_))
    clear hK71 K71
    refine c_block ?_
    -- loop@r26: live slots [5, 11, 12, 13]
    refine c_loopG (fun m a' w' => ∃ j : Nat, m = rmn x - j ∧ j ≤ rmn x ∧ Blk w'.heap xb (ndc 6 i (-1) (rmn x) M 0 (rlz x) 0) 89 ∧ Fram none' w w' ∧ ∃ e, a' = Fr 151 (upds e [(5, ptr xb), (11, i64c (zs a)), (12, i64c (sumM (zs a) j)), (13, i64c j)]) []) (rmn x) ⟨0, rfl, by omega, hX, hF, kp _ ⟨rfl, rfl, rfl, rfl, trivial⟩⟩ ?_
    clear hX hF
    rintro m a' w1 ⟨j, rfl, hj, hX, hF, e, rfl⟩
    have hsj := hsb j (by omega)
    have hst := sumM_step (A := zs a) (j := j)
    refine c_seq (fun K72 hK72 => ?_)
    refine c_seq (fun K73 hK73 => ?_)
    refine c_reg ?_ -- region 26 simpm.go:111
    refine wl (ro_move rfl) ?_
    refine wl (ro_fieldAddr (k := 3) rfl fo_89_3) ?_
    refine wl (ro_loadB rfl sc_3 (hX) (rfl)) ?_
    refine wl (ro_cmp (r := decide (j < rmn x)) rfl rfl (congrArg some (decide_eq_decide.2 (by omega)))) ?_
    refine wl_nil (x_then (hK73 _ _ ?_))
    clear hK73 K73
    refine wc_cond rfl (fun hc107 => ?_) (fun hc107 => ?_)
    · try simp only [decide_eq_true_eq, decide_eq_false_iff_not, Bool.not_eq_true', Bool.not_eq_false', Bool.not_eq_eq_eq_not, Bool.not_true, Bool.not_false, beq_iff_eq, bne_iff_ne, ne_eq, beq_eq_false_iff_ne, bne_eq_false_iff_eq, gt_iff_lt, ge_iff_le, Int.not_lt, Int.not_le] at hc107
      refine c_skip (x_then (hK72 _ _ ?_))
      clear hK72 K72
      refine forget [(5, _), (11, _), (12, _), (13, _)] ⟨rfl, rfl, rfl, rfl, trivial⟩ (fun e => ?_)
      refine c_seq (fun K74 hK74 => ?_)
      refine c_block ?_
      refine c_seq (fun K75 hK75 => ?_)
      refine c_reg ?_ -- region 28 simpm.go:112
      refine wl (ro_move rfl) ?_
      refine wl (ro_move rfl) ?_
      refine wl (ro_arith rfl rfl rfl (Go.IntWalk.i64_in _ (by omega))) ?_
      refine wl (ro_assign rfl) ?_
      refine wl_nil (x_then (hK75 _ _ ?_))
      clear hK75 K75
      refine forget [(5, _), (11, _), (12, _), (13, _)] ⟨rfl, rfl, rfl, rfl, trivial⟩ (fun e => ?_)
      refine c_seq (fun K76 hK76 => ?_)
      refine c_reg ?_ -- region 29 simpm.go:113
      refine wl (ro_move rfl) ?_
      refine wl (ro_cmp (r := decide (0 < j)) rfl rfl (congrArg some (decide_eq_decide.2 (by show ((j : Nat) : Int) > 0 ↔ _; omega)))) ?_
      refine wl_nil (x_then (hK76 _ _ ?_))
      clear hK76 K76
      refine wc_cond rfl (fun hc114 => ?_) (fun hc114 => ?_)
      · try simp only [decide_eq_true_eq, decide_eq_false_iff_not, Bool.not_eq_true', Bool.not_eq_false', Bool.not_eq_eq_eq_not, Bool.not_true, Bool.not_false, beq_iff_eq, bne_iff_ne, ne_eq, beq_eq_false_iff_ne, bne_eq_false_iff_eq, gt_iff_lt, ge_iff_le, Int.not_lt, Int.not_le] at hc114
        refine c_reg ?_ -- region 30 simpm.go:114
        refine wl (ro_move rfl) ?_
        refine wl (ro_arith rfl rfl rfl (Go.IntWalk.i64_in _ (by omega))) ?_
        refine wl (ro_assign rfl) ?_
        refine wl_nil (x_blk (x_then (hK74 _ _ ?_)))
        clear hK74 K74
        refine c_reg ?_ -- region 27 simpm.go:111
        refine wl (ro_move rfl) ?_
        refine wl (ro_arith rfl rfl rfl (Go.IntWalk.i64_in _ (by omega))) ?_
        refine wl (ro_assign rfl) ?_
        refine wl_nil (x_then ?_)
        rw [if_pos hc114] at hst
        exact ⟨rmn x - (j + 1), by omega, j + 1, rfl, by omega, hX, hF, kp _ ⟨rfl, rfl, by rw [hst]; rfl, rfl, trivial⟩⟩
      · try simp only [decide_eq_true_eq, decide_eq_false_iff_not, Bool.not_eq_true', Bool.not_eq_false', Bool.not_eq_eq_eq_not, Bool.not_true, Bool.not_false, beq_iff_eq, bne_iff_ne, ne_eq, beq_eq_false_iff_ne, bne_eq_false_iff_eq, gt_iff_lt, ge_iff_le, Int.not_lt, Int.not_le] at hc114
        refine c_skip (x_blk (x_then (hK74 _ _ ?_)))
        clear hK74 K74
        refine c_reg ?_ -- region 27 simpm.go:111
        refine wl (ro_move rfl) ?_
        refine wl (ro_arith rfl rfl rfl (Go.IntWalk.i64_in _ (by omega))) ?_
        refine wl (ro_assign rfl) ?_
        refine wl_nil (x_then ?_)
        rw [if_neg (by omega)] at hst
        exact ⟨rmn x - (j + 1), by omega, j + 1, rfl, by omega, hX, hF, kp _ ⟨rfl, rfl, by rw [hst]; rfl, rfl, trivial⟩⟩
    · try simp only [decide_eq_true_eq, decide_eq_false_iff_not, Bool.not_eq_true', Bool.not_eq_false', Bool.not_eq_eq_eq_not, Bool.not_true, Bool.not_false, beq_iff_eq, bne_iff_ne, ne_eq, beq_eq_false_iff_ne, bne_eq_false_iff_eq, gt_iff_lt, ge_iff_le, Int.not_lt, Int.not_le] at hc107
      refine c_exit (x_thenX (x_thenX (x_blkX (x_then (hK70 _ _ ?_)))))
      clear hK72 K72 hK70 K70
      refine forget [(5, _), (11, _), (12, _)] ⟨rfl, rfl, rfl, trivial⟩ (fun e => ?_)
      refine c_seq (fun K77 hK77 => ?_)
      have hjm : j = rmn x := by omega
      subst hjm
      refine c_reg ?_ -- region 31 simpm.go:117
      refine wl (ro_assign rfl) ?_
      refine wl_nil (x_then (hK77 _ _ ?_))
      clear hK77 K77
      refine c_mid (fun a' w' => ∃ t0 : Nat, (t0 = if M < 0 then zs a + 1 else 0) ∧ Blk w'.heap xb (ndc 6 i (-1) (rmn x) M 0 (rlz x) 0) 89 ∧ Fram none' w w' ∧ ∃ e, a' = Fr 151 (upds e [(5, ptr xb), (11, i64c (zs a)), (12, i64c (sumM (zs a) (rmn x))), (14, i64c t0)]) []) ?_ ?_
      · skip
        refine c_seq (fun K78 hK78 => ?_)
        refine c_reg ?_ -- region 32 simpm.go:118
        refine wl (ro_fieldAddr (k := 4) rfl fo_89_4) ?_
        refine wl (ro_loadB rfl sc_3 (hX) ((show _ = some (icv M) from rfl))) ?_
        refine wl (ro_cmp (r := decide (M < 0)) rfl rfl rfl) ?_
        refine wl_nil (x_then (hK78 _ _ ?_))
        clear hK78 K78
        refine wc_cond rfl (fun hc119 => ?_) (fun hc119 => ?_)
        · try simp only [decide_eq_true_eq, decide_eq_false_iff_not, Bool.not_eq_true', Bool.not_eq_false', Bool.not_eq_eq_eq_not, Bool.not_true, Bool.not_false, beq_iff_eq, bne_iff_ne, ne_eq, beq_eq_false_iff_ne, bne_eq_false_iff_eq, gt_iff_lt, ge_iff_le, Int.not_lt, Int.not_le] at hc119
          refine c_reg ?_ -- region 33 simpm.go:119
          refine wl (ro_move rfl) ?_
          refine wl (ro_arith rfl rfl rfl (Go.IntWalk.i64_in _ (by omega))) ?_
          refine wl (ro_assign rfl) ?_
          refine wl_nil (x_then ?_)
          exact ⟨_, by rw [if_pos hc119], hX, hF, kp _ ⟨rfl, rfl, rfl, rfl, trivial⟩⟩
        · try simp only [decide_eq_true_eq, decide_eq_false_iff_not, Bool.not_eq_true', Bool.not_eq_false', Bool.not_eq_eq_eq_not, Bool.not_true, Bool.not_false, beq_iff_eq, bne_iff_ne, ne_eq, beq_eq_false_iff_ne, bne_eq_false_iff_eq, gt_iff_lt, ge_iff_le, Int.not_lt, Int.not_le] at hc119
          refine c_skip (x_then ?_)
          exact ⟨0, by rw [if_neg (by omega)], hX, hF, kp _ ⟨rfl, rfl, rfl, rfl, trivial⟩⟩
      clear hX hF
      rintro a' w3 ⟨t0, ht0, hX, hF, e, rfl⟩
      refine c_seq (fun K79 hK79 => ?_)
      refine c_seq (fun K80 hK80 => ?_)
      refine c_reg ?_ -- region 34 simpm.go:121
      refine wl (ro_fieldAddr (k := 3) rfl fo_89_3) ?_
      refine wl (ro_loadB rfl sc_3 (hX) (rfl)) ?_
      refine wl (ro_assign rfl) ?_
      refine wl_nil (x_then (hK80 _ _ ?_))
      clear hK80 K80
      refine c_block ?_
      -- loop@r35: live slots [5, 11, 12, 14, 15]
      have hTM : (M < 0 ∧ rmx x = none ∧ t0 = zs a + 1) ∨ (∃ mm : Nat, M = mm ∧ rmx x = some mm ∧ rmn x ≤ mm ∧ mm ≤ 3 ∧ t0 = 0) := by
        rw [← hM] at ht0 ⊢
        cases hmx : rmx x with
        | none => left; rw [hmx] at ht0; simp [mxI] at ht0 ⊢; exact ht0
        | some mm => right; rw [hmx] at ht0; have := hcn.2 mm hmx; exact ⟨mm, rfl, rfl, this.1, this.2, by rw [ht0, if_neg (by simp [mxI])]⟩
      refine c_loopG (fun m a' w' => ∃ (j t1 : Nat), m = (M - j).toNat ∧ rmn x ≤ j ∧ ((M < 0 ∧ rmx x = none ∧ t1 = zs a + 1) ∨ (∃ mm : Nat, M = mm ∧ rmx x = some mm ∧ j ≤ mm ∧ mm ≤ 3 ∧ t1 = min (tailM (zs a) (rmn x) (some j)) 32)) ∧ Blk w'.heap xb (ndc 6 i (-1) (rmn x) M 0 (rlz x) 0) 89 ∧ Fram none' w w' ∧ ∃ e, a' = Fr 151 (upds e [(5, ptr xb), (11, i64c (zs a)), (12, i64c (sumM (zs a) (rmn x))), (14, i64c t1), (15, i64c j)]) []) (M - rmn x).toNat ⟨rmn x, t0, rfl, by omega, hTM.imp id (fun ⟨mm, h1, h2, h3, h4, h5⟩ => ⟨mm, h1, h2, h3, h4, by rw [h5]; simp [tailM]⟩), hX, hF, kp _ ⟨rfl, rfl, rfl, rfl, rfl, trivial⟩⟩ ?_
      clear hX hF hTM ht0
      rintro m a' w1 ⟨j, t1, rfl, hj, hT1, hX, hF, e, rfl⟩
      refine c_seq (fun K81 hK81 => ?_)
      refine c_seq (fun K82 hK82 => ?_)
      refine c_reg ?_ -- region 35 simpm.go:121
      refine wl (ro_move rfl) ?_
      refine wl (ro_fieldAddr (k := 4) rfl fo_89_4) ?_
      refine wl (ro_loadB rfl sc_3 (hX) ((show _ = some (icv M) from rfl))) ?_
      refine wl (ro_cmp (r := decide ((j : Int) < M)) rfl rfl rfl) ?_
      refine wl_nil (x_then (hK82 _ _ ?_))
      clear hK82 K82
      refine wc_cond rfl (fun hc127 => ?_) (fun hc127 => ?_)
      · try simp only [decide_eq_true_eq, decide_eq_false_iff_not, Bool.not_eq_true', Bool.not_eq_false', Bool.not_eq_eq_eq_not, Bool.not_true, Bool.not_false, beq_iff_eq, bne_iff_ne, ne_eq, beq_eq_false_iff_ne, bne_eq_false_iff_eq, gt_iff_lt, ge_iff_le, Int.not_lt, Int.not_le] at hc127
        obtain ⟨mm, hMm, hmx, hjm, hm3, ht1⟩ : ∃ mm : Nat, M = mm ∧ rmx x = some mm ∧ j ≤ mm ∧ mm ≤ 3 ∧ t1 = min (tailM (zs a) (rmn x) (some j)) 32 := by
          rcases hT1 with h | h
          · omega
          · exact h
        have htst := tailM_step (A := zs a) hj
        rw [← ht1] at htst
        refine c_skip (x_then (hK81 _ _ ?_))
        clear hK81 K81
        refine forget [(5, _), (11, _), (12, _), (14, _), (15, _)] ⟨rfl, rfl, rfl, rfl, rfl, trivial⟩ (fun e => ?_)
        refine c_seq (fun K83 hK83 => ?_)
        refine c_block ?_
        refine c_seq (fun K84 hK84 => ?_)
        refine c_seq (fun K85 hK85 => ?_)
        refine c_reg ?_ -- region 37 simpm.go:122
        refine wl (ro_move rfl) ?_
        refine wl (ro_cmp (r := decide (0 < t1)) rfl rfl (congrArg some (decide_eq_decide.2 (by show ((t1 : Nat) : Int) > 0 ↔ _; omega)))) ?_
        refine wl_nil (x_then (hK85 _ _ ?_))
        clear hK85 K85
        refine wc_cond rfl (fun hc131 => ?_) (fun hc131 => ?_)
        · try simp only [decide_eq_true_eq, decide_eq_false_iff_not, Bool.not_eq_true', Bool.not_eq_false', Bool.not_eq_eq_eq_not, Bool.not_true, Bool.not_false, beq_iff_eq, bne_iff_ne, ne_eq, beq_eq_false_iff_ne, bne_eq_false_iff_eq, gt_iff_lt, ge_iff_le, Int.not_lt, Int.not_le] at hc131
          refine c_reg ?_ -- region 38 simpm.go:123
          refine wl (ro_move rfl) ?_
          refine wl (ro_arith rfl rfl rfl (Go.IntWalk.i64_in _ (by omega))) ?_
          refine wl (ro_assign rfl) ?_
          refine wl_nil (x_then (hK84 _ _ ?_))
          clear hK84 K84
          refine c_reg ?_ -- region 39 simpm.go:125
          refine wl (ro_move rfl) ?_
          refine wl (ro_move rfl) ?_
          refine wl (ro_arith rfl rfl rfl (Go.IntWalk.i64_in _ (by omega))) ?_
          refine wl (ro_arith rfl rfl rfl (Go.IntWalk.i64_in _ (by omega))) ?_
          refine wl_call rfl en_134 (lid134 (n := t1 + 1 + zs a + 2)) ?_
          rintro _ w37 ⟨rfl, F37⟩
          replace hF := hF.thenDrew.thenN F37
          replace hX := F37.blkN hX
          refine wl (ro_assign rfl) ?_
          refine wl_nil (x_blk (x_then (hK83 _ _ ?_)))
          clear hK83 K83
          refine c_reg ?_ -- region 36 simpm.go:121
          refine wl (ro_move rfl) ?_
          refine wl (ro_arith rfl rfl rfl (Go.IntWalk.i64_in _ (by omega))) ?_
          refine wl (ro_assign rfl) ?_
          refine wl_nil (x_then ?_)
          rw [if_pos hc131] at htst
          exact ⟨(M - (j + 1 : Nat)).toNat, by omega, j + 1, _, rfl, by omega, .inr ⟨mm, hMm, hmx, by omega, hm3, htst.symm⟩, hX, hF, kp _ ⟨rfl, rfl, rfl, rfl, rfl, trivial⟩⟩
        · try simp only [decide_eq_true_eq, decide_eq_false_iff_not, Bool.not_eq_true', Bool.not_eq_false', Bool.not_eq_eq_eq_not, Bool.not_true, Bool.not_false, beq_iff_eq, bne_iff_ne, ne_eq, beq_eq_false_iff_ne, bne_eq_false_iff_eq, gt_iff_lt, ge_iff_le, Int.not_lt, Int.not_le] at hc131
          refine c_skip (x_then (hK84 _ _ ?_))
          clear hK84 K84
          refine c_reg ?_ -- region 39 simpm.go:125
          refine wl (ro_move rfl) ?_
          refine wl (ro_move rfl) ?_
          refine wl (ro_arith rfl rfl rfl (Go.IntWalk.i64_in _ (by omega))) ?_
          refine wl (ro_arith rfl rfl rfl (Go.IntWalk.i64_in _ (by omega))) ?_
          refine wl_call rfl en_134 (lid134 (n := t1 + zs a + 2)) ?_
          rintro _ w38 ⟨rfl, F38⟩
          replace hF := hF.thenDrew.thenN F38
          replace hX := F38.blkN hX
          refine wl (ro_assign rfl) ?_
          refine wl_nil (x_blk (x_then (hK83 _ _ ?_)))
          clear hK83 K83
          refine c_reg ?_ -- region 36 simpm.go:121
          refine wl (ro_move rfl) ?_
          refine wl (ro_arith rfl rfl rfl (Go.IntWalk.i64_in _ (by omega))) ?_
          refine wl (ro_assign rfl) ?_
          refine wl_nil (x_then ?_)
          rw [if_neg (by omega)] at htst
          exact ⟨(M - (j + 1 : Nat)).toNat, by omega, j + 1, _, rfl, by omega, .inr ⟨mm, hMm, hmx, by omega, hm3, htst.symm⟩, hX, hF, kp _ ⟨rfl, rfl, rfl, rfl, rfl, trivial⟩⟩
      · try simp only [decide_eq_true_eq, decide_eq_false_iff_not, Bool.not_eq_true', Bool.not_eq_false', Bool.not_eq_eq_eq_not, Bool.not_true, Bool.not_false, beq_iff_eq, bne_iff_ne, ne_eq, beq_eq_false_iff_ne, bne_eq_false_iff_eq, gt_iff_lt, ge_iff_le, Int.not_lt, Int.not_le] at hc127
        have htl : min (tailM (zs a) (rmn x) (rmx x)) 32 = min t1 32 ∧ (0 < t1 ↔ 0 < tailM (zs a) (rmn x) (rmx x)) ∧ t1 ≤ 33 := by
          rcases hT1 with ⟨h1, h2, h3⟩ | ⟨mm, h1, h2, h3, h4, h5⟩
          · rw [h2, h3]; exact ⟨rfl, Iff.rfl, by omega⟩
          · have : j = mm := by omega
            subst this
            rw [h2, h5]; omega
        clear hT1
        have htl1 := htl.1
        have htl2 := htl.2.1
        have htl3 := htl.2.2
        refine c_exit (x_thenX (x_thenX (x_blkX (x_then (hK79 _ _ ?_)))))
        clear hK81 K81 hK79 K79
        refine c_seq (fun K86 hK86 => ?_)
        refine c_seq (fun K87 hK87 => ?_)
        have hsm := hsb (rmn x) hmn3
        have hqs : (0 < sumM (zs a) (rmn x) ∧ 0 < t1) ∨ sumM (zs a) (rmn x) = 0 ∨ (0 < sumM (zs a) (rmn x) ∧ t1 = 0) := by omega
        rcases hqs with q | q | q
        · skip
          rw [if_pos ⟨q.1, htl.2.1.1 q.2⟩] at hkey
          refine c_reg ?_ -- region 40 simpm.go:127
          refine wl (ro_move rfl) ?_
          refine wl (ro_cmp (r := true) rfl rfl (congrArg some (decide_eq_true (by omega)))) ?_
          refine wl (ro_move rfl) ?_
          refine wlg_yes rfl (ro_move rfl) ?_
          refine wlg_yes rfl (ro_cmp (r := true) rfl rfl (congrArg some (decide_eq_true (by omega)))) ?_
          refine wl (ro_pick rfl rfl rfl) ?_
          refine wl_nil (x_then (hK87 _ _ ?_))
          clear hK87 K87
          refine wc_condT rfl ?_
          refine c_reg ?_ -- region 41 simpm.go:128
          refine wl (ro_move rfl) ?_
          refine wl (ro_arith rfl rfl rfl (Go.IntWalk.i64_in _ (by omega))) ?_
          refine wl (ro_assign rfl) ?_
          refine wl_nil (x_then (hK86 _ _ ?_))
          clear hK86 K86
          refine forget [(12, _), (14, _)] ⟨rfl, rfl, trivial⟩ (fun e => ?_)
          refine c_seq (fun K88 hK88 => ?_)
          refine c_reg ?_ -- region 42 simpm.go:130
          refine wl (ro_move rfl) ?_
          refine wl (ro_move rfl) ?_
          refine wl (ro_arith rfl rfl rfl (Go.IntWalk.i64_in _ (by omega))) ?_
          refine wl_call rfl en_134 (lid134 (n := sumM (zs a) (rmn x) + 1 + t1)) ?_
          rintro _ w39 ⟨rfl, F39⟩
          replace hF := hF.thenDrew.thenN F39
          replace hX := F39.blkN hX
          refine wl (ro_assign rfl) ?_
          refine wl_nil (x_then (hK88 _ _ ?_))
          clear hK88 K88
          refine c_ret (x_blkR (x_thenR ?_))
          refine bp_ret Tryz.results118 rfl ?_
          have e9 : zs r = min (sumM (zs a) (rmn x) + 1 + t1) 32 := by rw [hzr, ← hkey]; omega
          rw [e9]; exact ⟨rfl, hF⟩
        · skip
          rw [if_neg (by omega)] at hkey
          refine c_reg ?_ -- region 40 simpm.go:127
          refine wl (ro_move rfl) ?_
          refine wl (ro_cmp (r := false) rfl rfl (congrArg some (decide_eq_false (by omega)))) ?_
          refine wl (ro_move rfl) ?_
          refine wlg_no rfl ?_
          refine wlg_no rfl ?_
          refine wl (ro_pick rfl rfl rfl) ?_
          refine wl_nil (x_then (hK87 _ _ ?_))
          clear hK87 K87
          refine wc_condF rfl ?_
          refine c_skip (x_then (hK86 _ _ ?_))
          clear hK86 K86
          refine forget [(12, _), (14, _)] ⟨rfl, rfl, trivial⟩ (fun e => ?_)
          refine c_seq (fun K89 hK89 => ?_)
          refine c_reg ?_ -- region 42 simpm.go:130
          refine wl (ro_move rfl) ?_
          refine wl (ro_move rfl) ?_
          refine wl (ro_arith rfl rfl rfl (Go.IntWalk.i64_in _ (by omega))) ?_
          refine wl_call rfl en_134 (lid134 (n := sumM (zs a) (rmn x) + t1)) ?_
          rintro _ w40 ⟨rfl, F40⟩
          replace hF := hF.thenDrew.thenN F40
          replace hX := F40.blkN hX
          refine wl (ro_assign rfl) ?_
          refine wl_nil (x_then (hK89 _ _ ?_))
          clear hK89 K89
          refine c_ret (x_blkR (x_thenR ?_))
          refine bp_ret Tryz.results118 rfl ?_
          have e9 : zs r = min (sumM (zs a) (rmn x) + t1) 32 := by rw [hzr, ← hkey]; omega
          rw [e9]; exact ⟨rfl, hF⟩
        · skip
          rw [if_neg (by omega)] at hkey
          refine c_reg ?_ -- region 40 simpm.go:127
          refine wl (ro_move rfl) ?_
          refine wl (ro_cmp (r := true) rfl rfl (congrArg some (decide_eq_true (by omega)))) ?_
          refine wl (ro_move rfl) ?_
          refine wlg_yes rfl (ro_move rfl) ?_
          refine wlg_yes rfl (ro_cmp (r := false) rfl rfl (congrArg some (decide_eq_false (by omega)))) ?_
          refine wl (ro_pick rfl rfl rfl) ?_
          refine wl_nil (x_then (hK87 _ _ ?_))
          clear hK87 K87
          refine wc_condF rfl ?_
          refine c_skip (x_then (hK86 _ _ ?_))
          clear hK86 K86
          refine forget [(12, _), (14, _)] ⟨rfl, rfl, trivial⟩ (fun e => ?_)
          refine c_seq (fun K90 hK90 => ?_)
          refine c_reg ?_ -- region 42 simpm.go:130
          refine wl (ro_move rfl) ?_
          refine wl (ro_move rfl) ?_
          refine wl (ro_arith rfl rfl rfl (Go.IntWalk.i64_in _ (by omega))) ?_
          refine wl_call rfl en_134 (lid134 (n := sumM (zs a) (rmn x) + t1)) ?_
          rintro _ w41 ⟨rfl, F41⟩
          replace hF := hF.thenDrew.thenN F41
          replace hX := F41.blkN hX
          refine wl (ro_assign rfl) ?_
          refine wl_nil (x_then (hK90 _ _ ?_))
          clear hK90 K90
          refine c_ret (x_blkR (x_thenR ?_))
          refine bp_ret Tryz.results118 rfl ?_
          have e9 : zs r = min (sumM (zs a) (rmn x) + t1) 32 := by rw [hzr, ← hkey]; omega
          rw [e9]; exact ⟨rfl, hF⟩
  · skip
    have hwa : WF a := by rw [hq] at hw; exact hw.1
    have hs : shp r = if shp a = 1 then 1 else 2 := by rw [hq]; rfl
    have hcm := (grpM_ok a g).2 (by rw [hq] at hs2; exact hs2)
    have hzr : zs r = zs (.grp a g) := by rw [hq]
    have hn1 : ¬ shp a = 1 := fun h => by rw [if_pos h] at hs; omega
    unfold grpM at hcm
    rw [if_neg hn1] at hcm
    have za := hzl a
    refine c_reg ?_ -- region 0 simpm.go:82
    refine wl_box (cs := (trc nb T.length cap z1 z2 z3 z4)) rfl rfl (fun ab w42 hbab hA F42 => ?_)
    have hbsab := Nat.le_trans hF.size hbab
    have hnenbab : nb < ab := Nat.lt_of_lt_of_le hT.lt hbab
    replace hF := hF.thenDrew.thenN F42
    replace hT := F42.blkN hT
    refine wl (ro_assign rfl) ?_
    refine wl_nil (x_then (hK1 _ _ ?_))
    clear hK1 K1
    refine forget [(1, _), (2, _)] ⟨rfl, rfl, trivial⟩ (fun e => ?_)
    refine c_seq (fun K91 hK91 => ?_)
    refine c_reg ?_ -- region 1 simpm.go:83
    refine wl (ro_fieldAddr (k := 0) rfl fo_151_0) ?_
    refine wl (ro_loadB rfl sc_98 (hA) (rfl)) ?_
    refine wl (ro_move rfl) ?_
    refine wl (ro_indexAddr (et := 89) (k := 11) rfl rfl se_98 (rfl) (hkl)) ?_
    refine wl (ro_loadAggB rfl ag_89 (hT) (rfl) (hld)) ?_
    refine wl_new (ze_89) (fun xb w43 hbxb hX F43 => ?_)
    have hbsxb := Nat.le_trans hF.size hbxb
    have hnenbxb : nb < xb := Nat.lt_of_lt_of_le hT.lt hbxb
    have hneabxb : ab < xb := Nat.lt_of_lt_of_le hA.lt hbxb
    replace hF := hF.thenDrew.thenN F43
    replace hT := F43.blkN hT
    replace hA := F43.blkN hA
    refine wl_puta rfl rfl (by simp [Value.oneCell', i64c, u64c, u8c, ptr]) sz_89 (rfl) hX ((by simp)) (rfl) (fun w44 hX F44 => ?_)
    replace hF := hF.thenDrew.thenO F44 (by first | exact .inr (by omega) | exact .inl rfl | exact .inl (by assumption))
    replace hT := F44.blkO hT (by omega)
    replace hA := F44.blkO hA (by omega)
    refine wl_nil (x_then (hK91 _ _ ?_))
    clear hK91 K91
    refine c_seq (fun K92 hK92 => ?_)
    refine c_seq (fun K93 hK93 => ?_)
    refine c_reg ?_ -- region 2 simpm.go:84
    refine wl (ro_fieldAddr (k := 0) rfl fo_89_0) ?_
    refine wl (ro_loadB rfl sc_3 (by assumption) rfl) ?_
    refine wl_nil (x_then (hK93 _ _ ?_))
    clear hK93 K93
    refine c_block ?_
    refine forget [(2, _), (5, _), (22, _)] ⟨rfl, rfl, rfl, trivial⟩ (fun e => ?_)
    refine c_seq (fun K94 hK94 => ?_)
    refine c_reg ?_ -- region 3 simpm.go:85
    refine wl (ro_cmp rfl rfl rfl) ?_
    refine wl (ro_assign rfl) ?_
    refine wl_nil (x_then (hK94 _ _ ?_))
    clear hK94 K94
    refine wc_condF rfl ?_
    refine c_seq (fun K95 hK95 => ?_)
    refine c_reg ?_ -- region 11 simpm.go:95
    refine wl (ro_cmp rfl rfl rfl) ?_
    refine wl (ro_assign rfl) ?_
    refine wl_nil (x_then (hK95 _ _ ?_))
    clear hK95 K95
    refine wc_condF rfl ?_
    refine c_seq (fun K96 hK96 => ?_)
    refine c_reg ?_ -- region 19 simpm.go:105
    refine wl (ro_cmp rfl rfl rfl) ?_
    refine wl (ro_assign rfl) ?_
    refine wl_nil (x_then (hK96 _ _ ?_))
    clear hK96 K96
    refine wc_condT rfl ?_
    refine c_seq (fun K97 hK97 => ?_)
    refine c_reg ?_ -- region 20 simpm.go:106
    refine wl (ro_loadAggB rfl ag_151 (hA) (rfl) (rfl)) ?_
    refine wl (ro_fieldAddr (k := 1) rfl fo_89_1) ?_
    refine wl (ro_loadB rfl sc_3 (hX) (rfl)) ?_
    refine wl_call rfl en_91 (leaf91 hle hAR (ih i hi) hT hia hwa) ?_
    rintro _ w45 ⟨rfl, F45⟩
    replace hF := hF.thenDrew.thenN F45
    replace hT := F45.blkN hT
    replace hA := F45.blkN hA
    replace hX := F45.blkN hX
    refine wl (ro_assign rfl) ?_
    refine wl_nil (x_then (hK97 _ _ ?_))
    clear hK97 K97
    refine forget [(10, _)] ⟨rfl, trivial⟩ (fun e => ?_)
    refine c_seq (fun K98 hK98 => ?_)
    refine c_reg ?_ -- region 21 simpm.go:107
    refine wl (ro_move rfl) ?_
    refine wl (ro_arith rfl rfl rfl (Go.IntWalk.i64_in _ (by omega))) ?_
    refine wl_call rfl en_134 (lid134 (n := zs a + 1)) ?_
    rintro _ w46 ⟨rfl, F46⟩
    replace hF := hF.thenDrew.thenN F46
    replace hT := F46.blkN hT
    replace hA := F46.blkN hA
    replace hX := F46.blkN hX
    refine wl (ro_assign rfl) ?_
    refine wl_nil (x_then (hK98 _ _ ?_))
    clear hK98 K98
    refine c_ret (x_blkR (x_thenR ?_))
    refine bp_ret Tryz.results118 rfl ?_
    rw [hzr, ← hcm]; exact ⟨rfl, hF⟩

end Go.Proofs.Qxb6500567aGreat
