import Derived.Test.Qxb6500567aGreatCd
/- Nullable on a tree in memory. -/
namespace Go.Proofs.Qxb6500567aGreat
set_option linter.unusedVariables false
set_option linter.unusedSimpArgs false

theorem nd_load {c : Nat → Value} {cap k : Nat} {cs : List Value} (hk : k < cap) (hcs : cel 11 (fun j => c (0 + 11 * k + j)) = cs) : ((cel (cap * 11) c).drop (0 + k * 11)).take 11 = cs := by
  rw [show 0 + k * 11 = 0 + 11 * k by omega, cel_sub (by omega)]; exact hcs

/-- The cells of a tree. -/
abbrev trc (nb n cap : Nat) (z1 z2 z3 z4 : Value) : List Value := [.slice (some ⟨nb, 0, none⟩) n cap, z1, z2, z3, z4]

theorem Nullable146 {nb cap : Nat} {T : List RE} {c : Nat → Value} {z1 z2 z3 z4 : Value} (hle : T.length ≤ cap) (hAR : AR T c 0) : ∀ (k : Nat) {w : World} {r : RE}, FB w.heap nb (cap * 11) c 89 → T[k]? = some r →
    Ret Tryz.prog 146 [.agg (trc nb T.length cap z1 z2 z3 z4).toArray, i64c k] w (fun v w' => v = .bool (nul r) ∧ Fram none' w w') := by
  intro k
  induction k using Nat.strongRecOn with
  | ind k ih =>
  intro w r hT hk
  have hF : Fram none' w w := Fram.refl _ _
  have hN := hAR k r hk
  have hkl := (List.getElem?_eq_some_iff.1 hk).1
  generalize hcs : cel 11 (fun j => c (0 + 11 * k + j)) = cs at hN
  have hld := nd_load (cap := cap) (k := k) (by omega) hcs
  cases r with
  | skip =>
    cases hN
    refine ret_of Tryz.func146 rfl Tryz.ntmps146 rfl ?_
    refine c_seq (fun K1 hK1 => ?_)
    refine c_reg ?_ -- region 0 match.go:10
    refine wl_box (cs := (trc nb T.length cap z1 z2 z3 z4)) rfl rfl (fun ab w1 hbab hA F1 => ?_)
    have hbsab := Nat.le_trans hF.size hbab
    have hnenbab : nb < ab := Nat.lt_of_lt_of_le hT.lt hbab
    replace hF := hF.thenDrew.thenN F1
    replace hT := F1.blkN hT
    refine wl (ro_assign rfl) ?_
    refine wl_nil (x_then (hK1 _ _ ?_))
    clear hK1 K1
    refine forget [(1, _), (2, _)] ⟨rfl, rfl, trivial⟩ (fun e => ?_)
    refine c_seq (fun K2 hK2 => ?_)
    refine c_reg ?_ -- region 1 match.go:11
    refine wl (ro_fieldAddr (k := 0) rfl fo_151_0) ?_
    refine wl (ro_loadB rfl sc_98 (hA) (rfl)) ?_
    refine wl (ro_move rfl) ?_
    refine wl (ro_indexAddr (et := 89) (k := 11) rfl rfl se_98 (rfl) (hkl)) ?_
    refine wl (ro_loadAggB rfl ag_89 (hT) (rfl) (hld)) ?_
    refine wl_new (ze_89) (fun xb w2 hbxb hX F2 => ?_)
    have hbsxb := Nat.le_trans hF.size hbxb
    have hnenbxb : nb < xb := Nat.lt_of_lt_of_le hT.lt hbxb
    have hneabxb : ab < xb := Nat.lt_of_lt_of_le hA.lt hbxb
    replace hF := hF.thenDrew.thenN F2
    replace hT := F2.blkN hT
    replace hA := F2.blkN hA
    refine wl_puta rfl rfl (by simp [Value.oneCell', i64c, u64c, u8c, ptr]) sz_89 (rfl) hX ((by simp)) (rfl) (fun w3 hX F3 => ?_)
    replace hF := hF.thenDrew.thenO F3 (by first | exact .inr (by omega) | exact .inl rfl | exact .inl (by assumption))
    replace hT := F3.blkO hT (by omega)
    replace hA := F3.blkO hA (by omega)
    refine wl_nil (x_then (hK2 _ _ ?_))
    clear hK2 K2
    refine c_seq (fun K3 hK3 => ?_)
    refine c_seq (fun K4 hK4 => ?_)
    refine c_reg ?_ -- region 2 match.go:12
    refine wl (ro_fieldAddr (k := 0) rfl fo_89_0) ?_
    refine wl (ro_loadB rfl sc_3 (by assumption) rfl) ?_
    refine wl_nil (x_then (hK4 _ _ ?_))
    clear hK4 K4
    refine c_block ?_
    refine forget [(2, _), (5, _), (12, _)] ⟨rfl, rfl, rfl, trivial⟩ (fun e => ?_)
    refine c_seq (fun K5 hK5 => ?_)
    refine c_reg ?_ -- region 3 match.go:13
    refine wl (ro_cmp rfl rfl rfl) ?_
    refine wl (ro_assign rfl) ?_
    refine wl_nil (x_then (hK5 _ _ ?_))
    clear hK5 K5
    refine wc_condF rfl ?_
    refine c_seq (fun K6 hK6 => ?_)
    refine c_reg ?_ -- region 5 match.go:15
    refine wl (ro_cmp rfl rfl rfl) ?_
    refine wl (ro_assign rfl) ?_
    refine wl_nil (x_then (hK6 _ _ ?_))
    clear hK6 K6
    refine wc_condF rfl ?_
    refine c_seq (fun K7 hK7 => ?_)
    refine c_reg ?_ -- region 9 match.go:20
    refine wl (ro_cmp rfl rfl rfl) ?_
    refine wl (ro_assign rfl) ?_
    refine wl_nil (x_then (hK7 _ _ ?_))
    clear hK7 K7
    refine wc_condF rfl ?_
    refine c_seq (fun K8 hK8 => ?_)
    refine c_reg ?_ -- region 13 match.go:25
    refine wl (ro_cmp rfl rfl rfl) ?_
    refine wl (ro_assign rfl) ?_
    refine wl_nil (x_then (hK8 _ _ ?_))
    clear hK8 K8
    refine wc_condF rfl ?_
    refine c_seq (fun K9 hK9 => ?_)
    refine c_reg ?_ -- region 17 match.go:30
    refine wl (ro_cmp rfl rfl rfl) ?_
    refine wl (ro_assign rfl) ?_
    refine wl_nil (x_then (hK9 _ _ ?_))
    clear hK9 K9
    refine wc_condF rfl ?_
    refine c_skip (x_blk (x_then (hK3 _ _ ?_)))
    clear hK3 K3
    refine forget [] trivial (fun e => ?_)
    refine c_seq (fun K10 hK10 => ?_)
    refine c_reg ?_ -- region 19 match.go:33
    refine wl (ro_assign rfl) ?_
    refine wl_nil (x_then (hK10 _ _ ?_))
    clear hK10 K10
    refine c_ret ?_
    refine bp_ret Tryz.results146 rfl ?_
    exact ⟨rfl, hF⟩
  | ret =>
    cases hN
    refine ret_of Tryz.func146 rfl Tryz.ntmps146 rfl ?_
    refine c_seq (fun K1 hK1 => ?_)
    refine c_reg ?_ -- region 0 match.go:10
    refine wl_box (cs := (trc nb T.length cap z1 z2 z3 z4)) rfl rfl (fun ab w1 hbab hA F1 => ?_)
    have hbsab := Nat.le_trans hF.size hbab
    have hnenbab : nb < ab := Nat.lt_of_lt_of_le hT.lt hbab
    replace hF := hF.thenDrew.thenN F1
    replace hT := F1.blkN hT
    refine wl (ro_assign rfl) ?_
    refine wl_nil (x_then (hK1 _ _ ?_))
    clear hK1 K1
    refine forget [(1, _), (2, _)] ⟨rfl, rfl, trivial⟩ (fun e => ?_)
    refine c_seq (fun K2 hK2 => ?_)
    refine c_reg ?_ -- region 1 match.go:11
    refine wl (ro_fieldAddr (k := 0) rfl fo_151_0) ?_
    refine wl (ro_loadB rfl sc_98 (hA) (rfl)) ?_
    refine wl (ro_move rfl) ?_
    refine wl (ro_indexAddr (et := 89) (k := 11) rfl rfl se_98 (rfl) (hkl)) ?_
    refine wl (ro_loadAggB rfl ag_89 (hT) (rfl) (hld)) ?_
    refine wl_new (ze_89) (fun xb w2 hbxb hX F2 => ?_)
    have hbsxb := Nat.le_trans hF.size hbxb
    have hnenbxb : nb < xb := Nat.lt_of_lt_of_le hT.lt hbxb
    have hneabxb : ab < xb := Nat.lt_of_lt_of_le hA.lt hbxb
    replace hF := hF.thenDrew.thenN F2
    replace hT := F2.blkN hT
    replace hA := F2.blkN hA
    refine wl_puta rfl rfl (by simp [Value.oneCell', i64c, u64c, u8c, ptr]) sz_89 (rfl) hX ((by simp)) (rfl) (fun w3 hX F3 => ?_)
    replace hF := hF.thenDrew.thenO F3 (by first | exact .inr (by omega) | exact .inl rfl | exact .inl (by assumption))
    replace hT := F3.blkO hT (by omega)
    replace hA := F3.blkO hA (by omega)
    refine wl_nil (x_then (hK2 _ _ ?_))
    clear hK2 K2
    refine c_seq (fun K3 hK3 => ?_)
    refine c_seq (fun K4 hK4 => ?_)
    refine c_reg ?_ -- region 2 match.go:12
    refine wl (ro_fieldAddr (k := 0) rfl fo_89_0) ?_
    refine wl (ro_loadB rfl sc_3 (by assumption) rfl) ?_
    refine wl_nil (x_then (hK4 _ _ ?_))
    clear hK4 K4
    refine c_block ?_
    refine forget [(2, _), (5, _), (12, _)] ⟨rfl, rfl, rfl, trivial⟩ (fun e => ?_)
    refine c_seq (fun K5 hK5 => ?_)
    refine c_reg ?_ -- region 3 match.go:13
    refine wl (ro_cmp rfl rfl rfl) ?_
    refine wl (ro_assign rfl) ?_
    refine wl_nil (x_then (hK5 _ _ ?_))
    clear hK5 K5
    refine wc_condF rfl ?_
    refine c_seq (fun K6 hK6 => ?_)
    refine c_reg ?_ -- region 5 match.go:15
    refine wl (ro_cmp rfl rfl rfl) ?_
    refine wl (ro_assign rfl) ?_
    refine wl_nil (x_then (hK6 _ _ ?_))
    clear hK6 K6
    refine wc_condF rfl ?_
    refine c_seq (fun K7 hK7 => ?_)
    refine c_reg ?_ -- region 9 match.go:20
    refine wl (ro_cmp rfl rfl rfl) ?_
    refine wl (ro_assign rfl) ?_
    refine wl_nil (x_then (hK7 _ _ ?_))
    clear hK7 K7
    refine wc_condF rfl ?_
    refine c_seq (fun K8 hK8 => ?_)
    refine c_reg ?_ -- region 13 match.go:25
    refine wl (ro_cmp rfl rfl rfl) ?_
    refine wl (ro_assign rfl) ?_
    refine wl_nil (x_then (hK8 _ _ ?_))
    clear hK8 K8
    refine wc_condF rfl ?_
    refine c_seq (fun K9 hK9 => ?_)
    refine c_reg ?_ -- region 17 match.go:30
    refine wl (ro_cmp rfl rfl rfl) ?_
    refine wl (ro_assign rfl) ?_
    refine wl_nil (x_then (hK9 _ _ ?_))
    clear hK9 K9
    refine wc_condF rfl ?_
    refine c_skip (x_blk (x_then (hK3 _ _ ?_)))
    clear hK3 K3
    refine forget [] trivial (fun e => ?_)
    refine c_seq (fun K10 hK10 => ?_)
    refine c_reg ?_ -- region 19 match.go:33
    refine wl (ro_assign rfl) ?_
    refine wl_nil (x_then (hK10 _ _ ?_))
    clear hK10 K10
    refine c_ret ?_
    refine bp_ret Tryz.results146 rfl ?_
    exact ⟨rfl, hF⟩
  | label l =>
    cases hN
    refine ret_of Tryz.func146 rfl Tryz.ntmps146 rfl ?_
    refine c_seq (fun K1 hK1 => ?_)
    refine c_reg ?_ -- region 0 match.go:10
    refine wl_box (cs := (trc nb T.length cap z1 z2 z3 z4)) rfl rfl (fun ab w1 hbab hA F1 => ?_)
    have hbsab := Nat.le_trans hF.size hbab
    have hnenbab : nb < ab := Nat.lt_of_lt_of_le hT.lt hbab
    replace hF := hF.thenDrew.thenN F1
    replace hT := F1.blkN hT
    refine wl (ro_assign rfl) ?_
    refine wl_nil (x_then (hK1 _ _ ?_))
    clear hK1 K1
    refine forget [(1, _), (2, _)] ⟨rfl, rfl, trivial⟩ (fun e => ?_)
    refine c_seq (fun K2 hK2 => ?_)
    refine c_reg ?_ -- region 1 match.go:11
    refine wl (ro_fieldAddr (k := 0) rfl fo_151_0) ?_
    refine wl (ro_loadB rfl sc_98 (hA) (rfl)) ?_
    refine wl (ro_move rfl) ?_
    refine wl (ro_indexAddr (et := 89) (k := 11) rfl rfl se_98 (rfl) (hkl)) ?_
    refine wl (ro_loadAggB rfl ag_89 (hT) (rfl) (hld)) ?_
    refine wl_new (ze_89) (fun xb w2 hbxb hX F2 => ?_)
    have hbsxb := Nat.le_trans hF.size hbxb
    have hnenbxb : nb < xb := Nat.lt_of_lt_of_le hT.lt hbxb
    have hneabxb : ab < xb := Nat.lt_of_lt_of_le hA.lt hbxb
    replace hF := hF.thenDrew.thenN F2
    replace hT := F2.blkN hT
    replace hA := F2.blkN hA
    refine wl_puta rfl rfl (by simp [Value.oneCell', i64c, u64c, u8c, ptr]) sz_89 (rfl) hX ((by simp)) (rfl) (fun w3 hX F3 => ?_)
    replace hF := hF.thenDrew.thenO F3 (by first | exact .inr (by omega) | exact .inl rfl | exact .inl (by assumption))
    replace hT := F3.blkO hT (by omega)
    replace hA := F3.blkO hA (by omega)
    refine wl_nil (x_then (hK2 _ _ ?_))
    clear hK2 K2
    refine c_seq (fun K3 hK3 => ?_)
    refine c_seq (fun K4 hK4 => ?_)
    refine c_reg ?_ -- region 2 match.go:12
    refine wl (ro_fieldAddr (k := 0) rfl fo_89_0) ?_
    refine wl (ro_loadB rfl sc_3 (by assumption) rfl) ?_
    refine wl_nil (x_then (hK4 _ _ ?_))
    clear hK4 K4
    refine c_block ?_
    refine forget [(2, _), (5, _), (12, _)] ⟨rfl, rfl, rfl, trivial⟩ (fun e => ?_)
    refine c_seq (fun K5 hK5 => ?_)
    refine c_reg ?_ -- region 3 match.go:13
    refine wl (ro_cmp rfl rfl rfl) ?_
    refine wl (ro_assign rfl) ?_
    refine wl_nil (x_then (hK5 _ _ ?_))
    clear hK5 K5
    refine wc_condF rfl ?_
    refine c_seq (fun K6 hK6 => ?_)
    refine c_reg ?_ -- region 5 match.go:15
    refine wl (ro_cmp rfl rfl rfl) ?_
    refine wl (ro_assign rfl) ?_
    refine wl_nil (x_then (hK6 _ _ ?_))
    clear hK6 K6
    refine wc_condF rfl ?_
    refine c_seq (fun K7 hK7 => ?_)
    refine c_reg ?_ -- region 9 match.go:20
    refine wl (ro_cmp rfl rfl rfl) ?_
    refine wl (ro_assign rfl) ?_
    refine wl_nil (x_then (hK7 _ _ ?_))
    clear hK7 K7
    refine wc_condF rfl ?_
    refine c_seq (fun K8 hK8 => ?_)
    refine c_reg ?_ -- region 13 match.go:25
    refine wl (ro_cmp rfl rfl rfl) ?_
    refine wl (ro_assign rfl) ?_
    refine wl_nil (x_then (hK8 _ _ ?_))
    clear hK8 K8
    refine wc_condF rfl ?_
    refine c_seq (fun K9 hK9 => ?_)
    refine c_reg ?_ -- region 17 match.go:30
    refine wl (ro_cmp rfl rfl rfl) ?_
    refine wl (ro_assign rfl) ?_
    refine wl_nil (x_then (hK9 _ _ ?_))
    clear hK9 K9
    refine wc_condF rfl ?_
    refine c_skip (x_blk (x_then (hK3 _ _ ?_)))
    clear hK3 K3
    refine forget [] trivial (fun e => ?_)
    refine c_seq (fun K10 hK10 => ?_)
    refine c_reg ?_ -- region 19 match.go:33
    refine wl (ro_assign rfl) ?_
    refine wl_nil (x_then (hK10 _ _ ?_))
    clear hK10 K10
    refine c_ret ?_
    refine bp_ret Tryz.results146 rfl ?_
    exact ⟨rfl, hF⟩
  | goto S =>
    cases hN
    refine ret_of Tryz.func146 rfl Tryz.ntmps146 rfl ?_
    refine c_seq (fun K1 hK1 => ?_)
    refine c_reg ?_ -- region 0 match.go:10
    refine wl_box (cs := (trc nb T.length cap z1 z2 z3 z4)) rfl rfl (fun ab w1 hbab hA F1 => ?_)
    have hbsab := Nat.le_trans hF.size hbab
    have hnenbab : nb < ab := Nat.lt_of_lt_of_le hT.lt hbab
    replace hF := hF.thenDrew.thenN F1
    replace hT := F1.blkN hT
    refine wl (ro_assign rfl) ?_
    refine wl_nil (x_then (hK1 _ _ ?_))
    clear hK1 K1
    refine forget [(1, _), (2, _)] ⟨rfl, rfl, trivial⟩ (fun e => ?_)
    refine c_seq (fun K2 hK2 => ?_)
    refine c_reg ?_ -- region 1 match.go:11
    refine wl (ro_fieldAddr (k := 0) rfl fo_151_0) ?_
    refine wl (ro_loadB rfl sc_98 (hA) (rfl)) ?_
    refine wl (ro_move rfl) ?_
    refine wl (ro_indexAddr (et := 89) (k := 11) rfl rfl se_98 (rfl) (hkl)) ?_
    refine wl (ro_loadAggB rfl ag_89 (hT) (rfl) (hld)) ?_
    refine wl_new (ze_89) (fun xb w2 hbxb hX F2 => ?_)
    have hbsxb := Nat.le_trans hF.size hbxb
    have hnenbxb : nb < xb := Nat.lt_of_lt_of_le hT.lt hbxb
    have hneabxb : ab < xb := Nat.lt_of_lt_of_le hA.lt hbxb
    replace hF := hF.thenDrew.thenN F2
    replace hT := F2.blkN hT
    replace hA := F2.blkN hA
    refine wl_puta rfl rfl (by simp [Value.oneCell', i64c, u64c, u8c, ptr]) sz_89 (rfl) hX ((by simp)) (rfl) (fun w3 hX F3 => ?_)
    replace hF := hF.thenDrew.thenO F3 (by first | exact .inr (by omega) | exact .inl rfl | exact .inl (by assumption))
    replace hT := F3.blkO hT (by omega)
    replace hA := F3.blkO hA (by omega)
    refine wl_nil (x_then (hK2 _ _ ?_))
    clear hK2 K2
    refine c_seq (fun K3 hK3 => ?_)
    refine c_seq (fun K4 hK4 => ?_)
    refine c_reg ?_ -- region 2 match.go:12
    refine wl (ro_fieldAddr (k := 0) rfl fo_89_0) ?_
    refine wl (ro_loadB rfl sc_3 (by assumption) rfl) ?_
    refine wl_nil (x_then (hK4 _ _ ?_))
    clear hK4 K4
    refine c_block ?_
    refine forget [(2, _), (5, _), (12, _)] ⟨rfl, rfl, rfl, trivial⟩ (fun e => ?_)
    refine c_seq (fun K5 hK5 => ?_)
    refine c_reg ?_ -- region 3 match.go:13
    refine wl (ro_cmp rfl rfl rfl) ?_
    refine wl (ro_assign rfl) ?_
    refine wl_nil (x_then (hK5 _ _ ?_))
    clear hK5 K5
    refine wc_condT rfl ?_
    refine c_seq (fun K6 hK6 => ?_)
    refine c_reg ?_ -- region 4 match.go:14
    refine wl (ro_assign rfl) ?_
    refine wl_nil (x_then (hK6 _ _ ?_))
    clear hK6 K6
    refine c_ret (x_blkR (x_thenR ?_))
    refine bp_ret Tryz.results146 rfl ?_
    exact ⟨rfl, hF⟩
  | seq a b =>
    obtain ⟨i, j, hi, hj, hia, hjb, rfl⟩ := hN
    cases hna : nul a with
    | true =>
      refine ret_of Tryz.func146 rfl Tryz.ntmps146 rfl ?_
      refine c_seq (fun K1 hK1 => ?_)
      refine c_reg ?_ -- region 0 match.go:10
      refine wl_box (cs := (trc nb T.length cap z1 z2 z3 z4)) rfl rfl (fun ab w1 hbab hA F1 => ?_)
      have hbsab := Nat.le_trans hF.size hbab
      have hnenbab : nb < ab := Nat.lt_of_lt_of_le hT.lt hbab
      replace hF := hF.thenDrew.thenN F1
      replace hT := F1.blkN hT
      refine wl (ro_assign rfl) ?_
      refine wl_nil (x_then (hK1 _ _ ?_))
      clear hK1 K1
      refine forget [(1, _), (2, _)] ⟨rfl, rfl, trivial⟩ (fun e => ?_)
      refine c_seq (fun K2 hK2 => ?_)
      refine c_reg ?_ -- region 1 match.go:11
      refine wl (ro_fieldAddr (k := 0) rfl fo_151_0) ?_
      refine wl (ro_loadB rfl sc_98 (hA) (rfl)) ?_
      refine wl (ro_move rfl) ?_
      refine wl (ro_indexAddr (et := 89) (k := 11) rfl rfl se_98 (rfl) (hkl)) ?_
      refine wl (ro_loadAggB rfl ag_89 (hT) (rfl) (hld)) ?_
      refine wl_new (ze_89) (fun xb w2 hbxb hX F2 => ?_)
      have hbsxb := Nat.le_trans hF.size hbxb
      have hnenbxb : nb < xb := Nat.lt_of_lt_of_le hT.lt hbxb
      have hneabxb : ab < xb := Nat.lt_of_lt_of_le hA.lt hbxb
      replace hF := hF.thenDrew.thenN F2
      replace hT := F2.blkN hT
      replace hA := F2.blkN hA
      refine wl_puta rfl rfl (by simp [Value.oneCell', i64c, u64c, u8c, ptr]) sz_89 (rfl) hX ((by simp)) (rfl) (fun w3 hX F3 => ?_)
      replace hF := hF.thenDrew.thenO F3 (by first | exact .inr (by omega) | exact .inl rfl | exact .inl (by assumption))
      replace hT := F3.blkO hT (by omega)
      replace hA := F3.blkO hA (by omega)
      refine wl_nil (x_then (hK2 _ _ ?_))
      clear hK2 K2
      refine c_seq (fun K3 hK3 => ?_)
      refine c_seq (fun K4 hK4 => ?_)
      refine c_reg ?_ -- region 2 match.go:12
      refine wl (ro_fieldAddr (k := 0) rfl fo_89_0) ?_
      refine wl (ro_loadB rfl sc_3 (by assumption) rfl) ?_
      refine wl_nil (x_then (hK4 _ _ ?_))
      clear hK4 K4
      refine c_block ?_
      refine forget [(2, _), (5, _), (12, _)] ⟨rfl, rfl, rfl, trivial⟩ (fun e => ?_)
      refine c_seq (fun K5 hK5 => ?_)
      refine c_reg ?_ -- region 3 match.go:13
      refine wl (ro_cmp rfl rfl rfl) ?_
      refine wl (ro_assign rfl) ?_
      refine wl_nil (x_then (hK5 _ _ ?_))
      clear hK5 K5
      refine wc_condF rfl ?_
      refine c_seq (fun K6 hK6 => ?_)
      refine c_reg ?_ -- region 5 match.go:15
      refine wl (ro_cmp rfl rfl rfl) ?_
      refine wl (ro_assign rfl) ?_
      refine wl_nil (x_then (hK6 _ _ ?_))
      clear hK6 K6
      refine wc_condT rfl ?_
      refine c_seq (fun K7 hK7 => ?_)
      refine c_seq (fun K8 hK8 => ?_)
      refine c_reg ?_ -- region 6 match.go:16
      refine wl (ro_loadAggB rfl ag_151 (hA) rfl rfl) ?_
      refine wl (ro_fieldAddr (k := 1) rfl fo_89_1) ?_
      refine wl (ro_loadB rfl sc_3 (hX) (rfl)) ?_
      refine wl_call rfl en_146 (ih i hi hT hia) ?_
      rintro _ w4 ⟨rfl, F4⟩
      replace hF := hF.thenDrew.thenN F4
      replace hT := F4.blkN hT
      replace hA := F4.blkN hA
      replace hX := F4.blkN hX
      refine wl (ro_not rfl) ?_
      rw [hna]
      refine wl_nil (x_then (hK8 _ _ ?_))
      clear hK8 K8
      refine wc_condF rfl ?_
      refine c_skip (x_then (hK7 _ _ ?_))
      clear hK7 K7
      refine forget [(2, _), (5, _)] ⟨rfl, rfl, trivial⟩ (fun e => ?_)
      refine c_seq (fun K9 hK9 => ?_)
      refine c_reg ?_ -- region 8 match.go:19
      refine wl (ro_loadAggB rfl ag_151 (hA) rfl rfl) ?_
      refine wl (ro_fieldAddr (k := 2) rfl fo_89_2) ?_
      refine wl (ro_loadB rfl sc_3 (hX) (rfl)) ?_
      refine wl_call rfl en_146 (ih j hj hT hjb) ?_
      rintro _ w5 ⟨rfl, F5⟩
      replace hF := hF.thenDrew.thenN F5
      replace hT := F5.blkN hT
      replace hA := F5.blkN hA
      replace hX := F5.blkN hX
      refine wl (ro_assign rfl) ?_
      refine wl_nil (x_then (hK9 _ _ ?_))
      clear hK9 K9
      refine c_ret (x_blkR (x_thenR ?_))
      refine bp_ret Tryz.results146 rfl ?_
      exact ⟨by simp [nul, hna], hF⟩
    | false =>
      refine ret_of Tryz.func146 rfl Tryz.ntmps146 rfl ?_
      refine c_seq (fun K1 hK1 => ?_)
      refine c_reg ?_ -- region 0 match.go:10
      refine wl_box (cs := (trc nb T.length cap z1 z2 z3 z4)) rfl rfl (fun ab w1 hbab hA F1 => ?_)
      have hbsab := Nat.le_trans hF.size hbab
      have hnenbab : nb < ab := Nat.lt_of_lt_of_le hT.lt hbab
      replace hF := hF.thenDrew.thenN F1
      replace hT := F1.blkN hT
      refine wl (ro_assign rfl) ?_
      refine wl_nil (x_then (hK1 _ _ ?_))
      clear hK1 K1
      refine forget [(1, _), (2, _)] ⟨rfl, rfl, trivial⟩ (fun e => ?_)
      refine c_seq (fun K2 hK2 => ?_)
      refine c_reg ?_ -- region 1 match.go:11
      refine wl (ro_fieldAddr (k := 0) rfl fo_151_0) ?_
      refine wl (ro_loadB rfl sc_98 (hA) (rfl)) ?_
      refine wl (ro_move rfl) ?_
      refine wl (ro_indexAddr (et := 89) (k := 11) rfl rfl se_98 (rfl) (hkl)) ?_
      refine wl (ro_loadAggB rfl ag_89 (hT) (rfl) (hld)) ?_
      refine wl_new (ze_89) (fun xb w2 hbxb hX F2 => ?_)
      have hbsxb := Nat.le_trans hF.size hbxb
      have hnenbxb : nb < xb := Nat.lt_of_lt_of_le hT.lt hbxb
      have hneabxb : ab < xb := Nat.lt_of_lt_of_le hA.lt hbxb
      replace hF := hF.thenDrew.thenN F2
      replace hT := F2.blkN hT
      replace hA := F2.blkN hA
      refine wl_puta rfl rfl (by simp [Value.oneCell', i64c, u64c, u8c, ptr]) sz_89 (rfl) hX ((by simp)) (rfl) (fun w3 hX F3 => ?_)
      replace hF := hF.thenDrew.thenO F3 (by first | exact .inr (by omega) | exact .inl rfl | exact .inl (by assumption))
      replace hT := F3.blkO hT (by omega)
      replace hA := F3.blkO hA (by omega)
      refine wl_nil (x_then (hK2 _ _ ?_))
      clear hK2 K2
      refine c_seq (fun K3 hK3 => ?_)
      refine c_seq (fun K4 hK4 => ?_)
      refine c_reg ?_ -- region 2 match.go:12
      refine wl (ro_fieldAddr (k := 0) rfl fo_89_0) ?_
      refine wl (ro_loadB rfl sc_3 (by assumption) rfl) ?_
      refine wl_nil (x_then (hK4 _ _ ?_))
      clear hK4 K4
      refine c_block ?_
      refine forget [(2, _), (5, _), (12, _)] ⟨rfl, rfl, rfl, trivial⟩ (fun e => ?_)
      refine c_seq (fun K5 hK5 => ?_)
      refine c_reg ?_ -- region 3 match.go:13
      refine wl (ro_cmp rfl rfl rfl) ?_
      refine wl (ro_assign rfl) ?_
      refine wl_nil (x_then (hK5 _ _ ?_))
      clear hK5 K5
      refine wc_condF rfl ?_
      refine c_seq (fun K6 hK6 => ?_)
      refine c_reg ?_ -- region 5 match.go:15
      refine wl (ro_cmp rfl rfl rfl) ?_
      refine wl (ro_assign rfl) ?_
      refine wl_nil (x_then (hK6 _ _ ?_))
      clear hK6 K6
      refine wc_condT rfl ?_
      refine c_seq (fun K7 hK7 => ?_)
      refine c_seq (fun K8 hK8 => ?_)
      refine c_reg ?_ -- region 6 match.go:16
      refine wl (ro_loadAggB rfl ag_151 (hA) rfl rfl) ?_
      refine wl (ro_fieldAddr (k := 1) rfl fo_89_1) ?_
      refine wl (ro_loadB rfl sc_3 (hX) (rfl)) ?_
      refine wl_call rfl en_146 (ih i hi hT hia) ?_
      rintro _ w4 ⟨rfl, F4⟩
      replace hF := hF.thenDrew.thenN F4
      replace hT := F4.blkN hT
      replace hA := F4.blkN hA
      replace hX := F4.blkN hX
      refine wl (ro_not rfl) ?_
      rw [hna]
      refine wl_nil (x_then (hK8 _ _ ?_))
      clear hK8 K8
      refine wc_condT rfl ?_
      refine c_seq (fun K9 hK9 => ?_)
      refine c_reg ?_ -- region 7 match.go:17
      refine wl (ro_assign rfl) ?_
      refine wl_nil (x_then (hK9 _ _ ?_))
      clear hK9 K9
      refine c_ret (x_thenR (x_blkR (x_thenR ?_)))
      refine bp_ret Tryz.results146 rfl ?_
      exact ⟨by simp [nul, hna], hF⟩
  | cond o a b =>
    obtain ⟨i, j, hi, hj, hia, hjb, rfl⟩ := hN
    cases hna : nul a with
    | true =>
      refine ret_of Tryz.func146 rfl Tryz.ntmps146 rfl ?_
      refine c_seq (fun K1 hK1 => ?_)
      refine c_reg ?_ -- region 0 match.go:10
      refine wl_box (cs := (trc nb T.length cap z1 z2 z3 z4)) rfl rfl (fun ab w1 hbab hA F1 => ?_)
      have hbsab := Nat.le_trans hF.size hbab
      have hnenbab : nb < ab := Nat.lt_of_lt_of_le hT.lt hbab
      replace hF := hF.thenDrew.thenN F1
      replace hT := F1.blkN hT
      refine wl (ro_assign rfl) ?_
      refine wl_nil (x_then (hK1 _ _ ?_))
      clear hK1 K1
      refine forget [(1, _), (2, _)] ⟨rfl, rfl, trivial⟩ (fun e => ?_)
      refine c_seq (fun K2 hK2 => ?_)
      refine c_reg ?_ -- region 1 match.go:11
      refine wl (ro_fieldAddr (k := 0) rfl fo_151_0) ?_
      refine wl (ro_loadB rfl sc_98 (hA) (rfl)) ?_
      refine wl (ro_move rfl) ?_
      refine wl (ro_indexAddr (et := 89) (k := 11) rfl rfl se_98 (rfl) (hkl)) ?_
      refine wl (ro_loadAggB rfl ag_89 (hT) (rfl) (hld)) ?_
      refine wl_new (ze_89) (fun xb w2 hbxb hX F2 => ?_)
      have hbsxb := Nat.le_trans hF.size hbxb
      have hnenbxb : nb < xb := Nat.lt_of_lt_of_le hT.lt hbxb
      have hneabxb : ab < xb := Nat.lt_of_lt_of_le hA.lt hbxb
      replace hF := hF.thenDrew.thenN F2
      replace hT := F2.blkN hT
      replace hA := F2.blkN hA
      refine wl_puta rfl rfl (by simp [Value.oneCell', i64c, u64c, u8c, ptr]) sz_89 (rfl) hX ((by simp)) (rfl) (fun w3 hX F3 => ?_)
      replace hF := hF.thenDrew.thenO F3 (by first | exact .inr (by omega) | exact .inl rfl | exact .inl (by assumption))
      replace hT := F3.blkO hT (by omega)
      replace hA := F3.blkO hA (by omega)
      refine wl_nil (x_then (hK2 _ _ ?_))
      clear hK2 K2
      refine c_seq (fun K3 hK3 => ?_)
      refine c_seq (fun K4 hK4 => ?_)
      refine c_reg ?_ -- region 2 match.go:12
      refine wl (ro_fieldAddr (k := 0) rfl fo_89_0) ?_
      refine wl (ro_loadB rfl sc_3 (by assumption) rfl) ?_
      refine wl_nil (x_then (hK4 _ _ ?_))
      clear hK4 K4
      refine c_block ?_
      refine forget [(2, _), (5, _), (12, _)] ⟨rfl, rfl, rfl, trivial⟩ (fun e => ?_)
      refine c_seq (fun K5 hK5 => ?_)
      refine c_reg ?_ -- region 3 match.go:13
      refine wl (ro_cmp rfl rfl rfl) ?_
      refine wl (ro_assign rfl) ?_
      refine wl_nil (x_then (hK5 _ _ ?_))
      clear hK5 K5
      refine wc_condF rfl ?_
      refine c_seq (fun K6 hK6 => ?_)
      refine c_reg ?_ -- region 5 match.go:15
      refine wl (ro_cmp rfl rfl rfl) ?_
      refine wl (ro_assign rfl) ?_
      refine wl_nil (x_then (hK6 _ _ ?_))
      clear hK6 K6
      refine wc_condF rfl ?_
      refine c_seq (fun K7 hK7 => ?_)
      refine c_reg ?_ -- region 9 match.go:20
      refine wl (ro_cmp rfl rfl rfl) ?_
      refine wl (ro_assign rfl) ?_
      refine wl_nil (x_then (hK7 _ _ ?_))
      clear hK7 K7
      refine wc_condT rfl ?_
      refine c_seq (fun K8 hK8 => ?_)
      refine c_seq (fun K9 hK9 => ?_)
      refine c_reg ?_ -- region 10 match.go:21
      refine wl (ro_loadAggB rfl ag_151 (hA) rfl rfl) ?_
      refine wl (ro_fieldAddr (k := 1) rfl fo_89_1) ?_
      refine wl (ro_loadB rfl sc_3 (hX) (rfl)) ?_
      refine wl_call rfl en_146 (ih i hi hT hia) ?_
      rintro _ w4 ⟨rfl, F4⟩
      rw [hna]
      replace hF := hF.thenDrew.thenN F4
      replace hT := F4.blkN hT
      replace hA := F4.blkN hA
      replace hX := F4.blkN hX
      refine wl_nil (x_then (hK9 _ _ ?_))
      clear hK9 K9
      refine wc_condT rfl ?_
      refine c_seq (fun K10 hK10 => ?_)
      refine c_reg ?_ -- region 11 match.go:22
      refine wl (ro_assign rfl) ?_
      refine wl_nil (x_then (hK10 _ _ ?_))
      clear hK10 K10
      refine c_ret (x_thenR (x_blkR (x_thenR ?_)))
      refine bp_ret Tryz.results146 rfl ?_
      exact ⟨by simp [nul, hna], hF⟩
    | false =>
      refine ret_of Tryz.func146 rfl Tryz.ntmps146 rfl ?_
      refine c_seq (fun K1 hK1 => ?_)
      refine c_reg ?_ -- region 0 match.go:10
      refine wl_box (cs := (trc nb T.length cap z1 z2 z3 z4)) rfl rfl (fun ab w1 hbab hA F1 => ?_)
      have hbsab := Nat.le_trans hF.size hbab
      have hnenbab : nb < ab := Nat.lt_of_lt_of_le hT.lt hbab
      replace hF := hF.thenDrew.thenN F1
      replace hT := F1.blkN hT
      refine wl (ro_assign rfl) ?_
      refine wl_nil (x_then (hK1 _ _ ?_))
      clear hK1 K1
      refine forget [(1, _), (2, _)] ⟨rfl, rfl, trivial⟩ (fun e => ?_)
      refine c_seq (fun K2 hK2 => ?_)
      refine c_reg ?_ -- region 1 match.go:11
      refine wl (ro_fieldAddr (k := 0) rfl fo_151_0) ?_
      refine wl (ro_loadB rfl sc_98 (hA) (rfl)) ?_
      refine wl (ro_move rfl) ?_
      refine wl (ro_indexAddr (et := 89) (k := 11) rfl rfl se_98 (rfl) (hkl)) ?_
      refine wl (ro_loadAggB rfl ag_89 (hT) (rfl) (hld)) ?_
      refine wl_new (ze_89) (fun xb w2 hbxb hX F2 => ?_)
      have hbsxb := Nat.le_trans hF.size hbxb
      have hnenbxb : nb < xb := Nat.lt_of_lt_of_le hT.lt hbxb
      have hneabxb : ab < xb := Nat.lt_of_lt_of_le hA.lt hbxb
      replace hF := hF.thenDrew.thenN F2
      replace hT := F2.blkN hT
      replace hA := F2.blkN hA
      refine wl_puta rfl rfl (by simp [Value.oneCell', i64c, u64c, u8c, ptr]) sz_89 (rfl) hX ((by simp)) (rfl) (fun w3 hX F3 => ?_)
      replace hF := hF.thenDrew.thenO F3 (by first | exact .inr (by omega) | exact .inl rfl | exact .inl (by assumption))
      replace hT := F3.blkO hT (by omega)
      replace hA := F3.blkO hA (by omega)
      refine wl_nil (x_then (hK2 _ _ ?_))
      clear hK2 K2
      refine c_seq (fun K3 hK3 => ?_)
      refine c_seq (fun K4 hK4 => ?_)
      refine c_reg ?_ -- region 2 match.go:12
      refine wl (ro_fieldAddr (k := 0) rfl fo_89_0) ?_
      refine wl (ro_loadB rfl sc_3 (by assumption) rfl) ?_
      refine wl_nil (x_then (hK4 _ _ ?_))
      clear hK4 K4
      refine c_block ?_
      refine forget [(2, _), (5, _), (12, _)] ⟨rfl, rfl, rfl, trivial⟩ (fun e => ?_)
      refine c_seq (fun K5 hK5 => ?_)
      refine c_reg ?_ -- region 3 match.go:13
      refine wl (ro_cmp rfl rfl rfl) ?_
      refine wl (ro_assign rfl) ?_
      refine wl_nil (x_then (hK5 _ _ ?_))
      clear hK5 K5
      refine wc_condF rfl ?_
      refine c_seq (fun K6 hK6 => ?_)
      refine c_reg ?_ -- region 5 match.go:15
      refine wl (ro_cmp rfl rfl rfl) ?_
      refine wl (ro_assign rfl) ?_
      refine wl_nil (x_then (hK6 _ _ ?_))
      clear hK6 K6
      refine wc_condF rfl ?_
      refine c_seq (fun K7 hK7 => ?_)
      refine c_reg ?_ -- region 9 match.go:20
      refine wl (ro_cmp rfl rfl rfl) ?_
      refine wl (ro_assign rfl) ?_
      refine wl_nil (x_then (hK7 _ _ ?_))
      clear hK7 K7
      refine wc_condT rfl ?_
      refine c_seq (fun K8 hK8 => ?_)
      refine c_seq (fun K9 hK9 => ?_)
      refine c_reg ?_ -- region 10 match.go:21
      refine wl (ro_loadAggB rfl ag_151 (hA) rfl rfl) ?_
      refine wl (ro_fieldAddr (k := 1) rfl fo_89_1) ?_
      refine wl (ro_loadB rfl sc_3 (hX) (rfl)) ?_
      refine wl_call rfl en_146 (ih i hi hT hia) ?_
      rintro _ w4 ⟨rfl, F4⟩
      rw [hna]
      replace hF := hF.thenDrew.thenN F4
      replace hT := F4.blkN hT
      replace hA := F4.blkN hA
      replace hX := F4.blkN hX
      refine wl_nil (x_then (hK9 _ _ ?_))
      clear hK9 K9
      refine wc_condF rfl ?_
      refine c_skip (x_then (hK8 _ _ ?_))
      clear hK8 K8
      refine forget [(2, _), (5, _)] ⟨rfl, rfl, trivial⟩ (fun e => ?_)
      refine c_seq (fun K10 hK10 => ?_)
      refine c_reg ?_ -- region 12 match.go:24
      refine wl (ro_loadAggB rfl ag_151 (hA) rfl rfl) ?_
      refine wl (ro_fieldAddr (k := 2) rfl fo_89_2) ?_
      refine wl (ro_loadB rfl sc_3 (hX) (rfl)) ?_
      refine wl_call rfl en_146 (ih j hj hT hjb) ?_
      rintro _ w5 ⟨rfl, F5⟩
      replace hF := hF.thenDrew.thenN F5
      replace hT := F5.blkN hT
      replace hA := F5.blkN hA
      replace hX := F5.blkN hX
      refine wl (ro_assign rfl) ?_
      refine wl_nil (x_then (hK10 _ _ ?_))
      clear hK10 K10
      refine c_ret (x_blkR (x_thenR ?_))
      refine bp_ret Tryz.results146 rfl ?_
      exact ⟨by simp [nul, hna], hF⟩
  | rangeFunc ff ps x a =>
    obtain ⟨i, hi, hia, hcn, rfl⟩ := hN
    by_cases hm : rmn x = 0
    · have hcmp : ((rmn x : Int) == 0) = true := by simp [hm]
      refine ret_of Tryz.func146 rfl Tryz.ntmps146 rfl ?_
      refine c_seq (fun K1 hK1 => ?_)
      refine c_reg ?_ -- region 0 match.go:10
      refine wl_box (cs := (trc nb T.length cap z1 z2 z3 z4)) rfl rfl (fun ab w1 hbab hA F1 => ?_)
      have hbsab := Nat.le_trans hF.size hbab
      have hnenbab : nb < ab := Nat.lt_of_lt_of_le hT.lt hbab
      replace hF := hF.thenDrew.thenN F1
      replace hT := F1.blkN hT
      refine wl (ro_assign rfl) ?_
      refine wl_nil (x_then (hK1 _ _ ?_))
      clear hK1 K1
      refine forget [(1, _), (2, _)] ⟨rfl, rfl, trivial⟩ (fun e => ?_)
      refine c_seq (fun K2 hK2 => ?_)
      refine c_reg ?_ -- region 1 match.go:11
      refine wl (ro_fieldAddr (k := 0) rfl fo_151_0) ?_
      refine wl (ro_loadB rfl sc_98 (hA) (rfl)) ?_
      refine wl (ro_move rfl) ?_
      refine wl (ro_indexAddr (et := 89) (k := 11) rfl rfl se_98 (rfl) (hkl)) ?_
      refine wl (ro_loadAggB rfl ag_89 (hT) (rfl) (hld)) ?_
      refine wl_new (ze_89) (fun xb w2 hbxb hX F2 => ?_)
      have hbsxb := Nat.le_trans hF.size hbxb
      have hnenbxb : nb < xb := Nat.lt_of_lt_of_le hT.lt hbxb
      have hneabxb : ab < xb := Nat.lt_of_lt_of_le hA.lt hbxb
      replace hF := hF.thenDrew.thenN F2
      replace hT := F2.blkN hT
      replace hA := F2.blkN hA
      refine wl_puta rfl rfl (by simp [Value.oneCell', i64c, u64c, u8c, ptr]) sz_89 (rfl) hX ((by simp)) (rfl) (fun w3 hX F3 => ?_)
      replace hF := hF.thenDrew.thenO F3 (by first | exact .inr (by omega) | exact .inl rfl | exact .inl (by assumption))
      replace hT := F3.blkO hT (by omega)
      replace hA := F3.blkO hA (by omega)
      refine wl_nil (x_then (hK2 _ _ ?_))
      clear hK2 K2
      refine c_seq (fun K3 hK3 => ?_)
      refine c_seq (fun K4 hK4 => ?_)
      refine c_reg ?_ -- region 2 match.go:12
      refine wl (ro_fieldAddr (k := 0) rfl fo_89_0) ?_
      refine wl (ro_loadB rfl sc_3 (by assumption) rfl) ?_
      refine wl_nil (x_then (hK4 _ _ ?_))
      clear hK4 K4
      refine c_block ?_
      refine forget [(2, _), (5, _), (12, _)] ⟨rfl, rfl, rfl, trivial⟩ (fun e => ?_)
      refine c_seq (fun K5 hK5 => ?_)
      refine c_reg ?_ -- region 3 match.go:13
      refine wl (ro_cmp rfl rfl rfl) ?_
      refine wl (ro_assign rfl) ?_
      refine wl_nil (x_then (hK5 _ _ ?_))
      clear hK5 K5
      refine wc_condF rfl ?_
      refine c_seq (fun K6 hK6 => ?_)
      refine c_reg ?_ -- region 5 match.go:15
      refine wl (ro_cmp rfl rfl rfl) ?_
      refine wl (ro_assign rfl) ?_
      refine wl_nil (x_then (hK6 _ _ ?_))
      clear hK6 K6
      refine wc_condF rfl ?_
      refine c_seq (fun K7 hK7 => ?_)
      refine c_reg ?_ -- region 9 match.go:20
      refine wl (ro_cmp rfl rfl rfl) ?_
      refine wl (ro_assign rfl) ?_
      refine wl_nil (x_then (hK7 _ _ ?_))
      clear hK7 K7
      refine wc_condF rfl ?_
      refine c_seq (fun K8 hK8 => ?_)
      refine c_reg ?_ -- region 13 match.go:25
      refine wl (ro_cmp rfl rfl rfl) ?_
      refine wl (ro_assign rfl) ?_
      refine wl_nil (x_then (hK8 _ _ ?_))
      clear hK8 K8
      refine wc_condT rfl ?_
      refine c_seq (fun K9 hK9 => ?_)
      refine c_seq (fun K10 hK10 => ?_)
      refine c_reg ?_ -- region 14 match.go:26
      refine wl (ro_fieldAddr (k := 3) rfl fo_89_3) ?_
      refine wl (ro_loadB rfl sc_3 (hX) (rfl)) ?_
      refine wl (ro_cmp (r := true) rfl rfl (congrArg some hcmp)) ?_
      refine wl_nil (x_then (hK10 _ _ ?_))
      clear hK10 K10
      refine wc_condT rfl ?_
      refine c_seq (fun K11 hK11 => ?_)
      refine c_reg ?_ -- region 15 match.go:27
      refine wl (ro_assign rfl) ?_
      refine wl_nil (x_then (hK11 _ _ ?_))
      clear hK11 K11
      refine c_ret (x_thenR (x_blkR (x_thenR ?_)))
      refine bp_ret Tryz.results146 rfl ?_
      exact ⟨by simp [nul, hm], hF⟩
    · have hcmp : ((rmn x : Int) == 0) = false := by simp; omega
      refine ret_of Tryz.func146 rfl Tryz.ntmps146 rfl ?_
      refine c_seq (fun K1 hK1 => ?_)
      refine c_reg ?_ -- region 0 match.go:10
      refine wl_box (cs := (trc nb T.length cap z1 z2 z3 z4)) rfl rfl (fun ab w1 hbab hA F1 => ?_)
      have hbsab := Nat.le_trans hF.size hbab
      have hnenbab : nb < ab := Nat.lt_of_lt_of_le hT.lt hbab
      replace hF := hF.thenDrew.thenN F1
      replace hT := F1.blkN hT
      refine wl (ro_assign rfl) ?_
      refine wl_nil (x_then (hK1 _ _ ?_))
      clear hK1 K1
      refine forget [(1, _), (2, _)] ⟨rfl, rfl, trivial⟩ (fun e => ?_)
      refine c_seq (fun K2 hK2 => ?_)
      refine c_reg ?_ -- region 1 match.go:11
      refine wl (ro_fieldAddr (k := 0) rfl fo_151_0) ?_
      refine wl (ro_loadB rfl sc_98 (hA) (rfl)) ?_
      refine wl (ro_move rfl) ?_
      refine wl (ro_indexAddr (et := 89) (k := 11) rfl rfl se_98 (rfl) (hkl)) ?_
      refine wl (ro_loadAggB rfl ag_89 (hT) (rfl) (hld)) ?_
      refine wl_new (ze_89) (fun xb w2 hbxb hX F2 => ?_)
      have hbsxb := Nat.le_trans hF.size hbxb
      have hnenbxb : nb < xb := Nat.lt_of_lt_of_le hT.lt hbxb
      have hneabxb : ab < xb := Nat.lt_of_lt_of_le hA.lt hbxb
      replace hF := hF.thenDrew.thenN F2
      replace hT := F2.blkN hT
      replace hA := F2.blkN hA
      refine wl_puta rfl rfl (by simp [Value.oneCell', i64c, u64c, u8c, ptr]) sz_89 (rfl) hX ((by simp)) (rfl) (fun w3 hX F3 => ?_)
      replace hF := hF.thenDrew.thenO F3 (by first | exact .inr (by omega) | exact .inl rfl | exact .inl (by assumption))
      replace hT := F3.blkO hT (by omega)
      replace hA := F3.blkO hA (by omega)
      refine wl_nil (x_then (hK2 _ _ ?_))
      clear hK2 K2
      refine c_seq (fun K3 hK3 => ?_)
      refine c_seq (fun K4 hK4 => ?_)
      refine c_reg ?_ -- region 2 match.go:12
      refine wl (ro_fieldAddr (k := 0) rfl fo_89_0) ?_
      refine wl (ro_loadB rfl sc_3 (by assumption) rfl) ?_
      refine wl_nil (x_then (hK4 _ _ ?_))
      clear hK4 K4
      refine c_block ?_
      refine forget [(2, _), (5, _), (12, _)] ⟨rfl, rfl, rfl, trivial⟩ (fun e => ?_)
      refine c_seq (fun K5 hK5 => ?_)
      refine c_reg ?_ -- region 3 match.go:13
      refine wl (ro_cmp rfl rfl rfl) ?_
      refine wl (ro_assign rfl) ?_
      refine wl_nil (x_then (hK5 _ _ ?_))
      clear hK5 K5
      refine wc_condF rfl ?_
      refine c_seq (fun K6 hK6 => ?_)
      refine c_reg ?_ -- region 5 match.go:15
      refine wl (ro_cmp rfl rfl rfl) ?_
      refine wl (ro_assign rfl) ?_
      refine wl_nil (x_then (hK6 _ _ ?_))
      clear hK6 K6
      refine wc_condF rfl ?_
      refine c_seq (fun K7 hK7 => ?_)
      refine c_reg ?_ -- region 9 match.go:20
      refine wl (ro_cmp rfl rfl rfl) ?_
      refine wl (ro_assign rfl) ?_
      refine wl_nil (x_then (hK7 _ _ ?_))
      clear hK7 K7
      refine wc_condF rfl ?_
      refine c_seq (fun K8 hK8 => ?_)
      refine c_reg ?_ -- region 13 match.go:25
      refine wl (ro_cmp rfl rfl rfl) ?_
      refine wl (ro_assign rfl) ?_
      refine wl_nil (x_then (hK8 _ _ ?_))
      clear hK8 K8
      refine wc_condT rfl ?_
      refine c_seq (fun K9 hK9 => ?_)
      refine c_seq (fun K10 hK10 => ?_)
      refine c_reg ?_ -- region 14 match.go:26
      refine wl (ro_fieldAddr (k := 3) rfl fo_89_3) ?_
      refine wl (ro_loadB rfl sc_3 (hX) (rfl)) ?_
      refine wl (ro_cmp (r := false) rfl rfl (congrArg some hcmp)) ?_
      refine wl_nil (x_then (hK10 _ _ ?_))
      clear hK10 K10
      refine wc_condF rfl ?_
      refine c_skip (x_then (hK9 _ _ ?_))
      clear hK9 K9
      refine forget [(2, _), (5, _)] ⟨rfl, rfl, trivial⟩ (fun e => ?_)
      refine c_seq (fun K11 hK11 => ?_)
      refine c_reg ?_ -- region 16 match.go:29
      refine wl (ro_loadAggB rfl ag_151 (hA) rfl rfl) ?_
      refine wl (ro_fieldAddr (k := 1) rfl fo_89_1) ?_
      refine wl (ro_loadB rfl sc_3 (hX) (rfl)) ?_
      refine wl_call rfl en_146 (ih i hi hT hia) ?_
      rintro _ w4 ⟨rfl, F4⟩
      replace hF := hF.thenDrew.thenN F4
      replace hT := F4.blkN hT
      replace hA := F4.blkN hA
      replace hX := F4.blkN hX
      refine wl (ro_assign rfl) ?_
      refine wl_nil (x_then (hK11 _ _ ?_))
      clear hK11 K11
      refine c_ret (x_blkR (x_thenR ?_))
      refine bp_ret Tryz.results146 rfl ?_
      exact ⟨by simp [nul, hm], hF⟩
  | block g a =>
    obtain ⟨i, hi, hia, rfl⟩ := hN
    refine ret_of Tryz.func146 rfl Tryz.ntmps146 rfl ?_
    refine c_seq (fun K1 hK1 => ?_)
    refine c_reg ?_ -- region 0 match.go:10
    refine wl_box (cs := (trc nb T.length cap z1 z2 z3 z4)) rfl rfl (fun ab w1 hbab hA F1 => ?_)
    have hbsab := Nat.le_trans hF.size hbab
    have hnenbab : nb < ab := Nat.lt_of_lt_of_le hT.lt hbab
    replace hF := hF.thenDrew.thenN F1
    replace hT := F1.blkN hT
    refine wl (ro_assign rfl) ?_
    refine wl_nil (x_then (hK1 _ _ ?_))
    clear hK1 K1
    refine forget [(1, _), (2, _)] ⟨rfl, rfl, trivial⟩ (fun e => ?_)
    refine c_seq (fun K2 hK2 => ?_)
    refine c_reg ?_ -- region 1 match.go:11
    refine wl (ro_fieldAddr (k := 0) rfl fo_151_0) ?_
    refine wl (ro_loadB rfl sc_98 (hA) (rfl)) ?_
    refine wl (ro_move rfl) ?_
    refine wl (ro_indexAddr (et := 89) (k := 11) rfl rfl se_98 (rfl) (hkl)) ?_
    refine wl (ro_loadAggB rfl ag_89 (hT) (rfl) (hld)) ?_
    refine wl_new (ze_89) (fun xb w2 hbxb hX F2 => ?_)
    have hbsxb := Nat.le_trans hF.size hbxb
    have hnenbxb : nb < xb := Nat.lt_of_lt_of_le hT.lt hbxb
    have hneabxb : ab < xb := Nat.lt_of_lt_of_le hA.lt hbxb
    replace hF := hF.thenDrew.thenN F2
    replace hT := F2.blkN hT
    replace hA := F2.blkN hA
    refine wl_puta rfl rfl (by simp [Value.oneCell', i64c, u64c, u8c, ptr]) sz_89 (rfl) hX ((by simp)) (rfl) (fun w3 hX F3 => ?_)
    replace hF := hF.thenDrew.thenO F3 (by first | exact .inr (by omega) | exact .inl rfl | exact .inl (by assumption))
    replace hT := F3.blkO hT (by omega)
    replace hA := F3.blkO hA (by omega)
    refine wl_nil (x_then (hK2 _ _ ?_))
    clear hK2 K2
    refine c_seq (fun K3 hK3 => ?_)
    refine c_seq (fun K4 hK4 => ?_)
    refine c_reg ?_ -- region 2 match.go:12
    refine wl (ro_fieldAddr (k := 0) rfl fo_89_0) ?_
    refine wl (ro_loadB rfl sc_3 (by assumption) rfl) ?_
    refine wl_nil (x_then (hK4 _ _ ?_))
    clear hK4 K4
    refine c_block ?_
    refine forget [(2, _), (5, _), (12, _)] ⟨rfl, rfl, rfl, trivial⟩ (fun e => ?_)
    refine c_seq (fun K5 hK5 => ?_)
    refine c_reg ?_ -- region 3 match.go:13
    refine wl (ro_cmp rfl rfl rfl) ?_
    refine wl (ro_assign rfl) ?_
    refine wl_nil (x_then (hK5 _ _ ?_))
    clear hK5 K5
    refine wc_condF rfl ?_
    refine c_seq (fun K6 hK6 => ?_)
    refine c_reg ?_ -- region 5 match.go:15
    refine wl (ro_cmp rfl rfl rfl) ?_
    refine wl (ro_assign rfl) ?_
    refine wl_nil (x_then (hK6 _ _ ?_))
    clear hK6 K6
    refine wc_condF rfl ?_
    refine c_seq (fun K7 hK7 => ?_)
    refine c_reg ?_ -- region 9 match.go:20
    refine wl (ro_cmp rfl rfl rfl) ?_
    refine wl (ro_assign rfl) ?_
    refine wl_nil (x_then (hK7 _ _ ?_))
    clear hK7 K7
    refine wc_condF rfl ?_
    refine c_seq (fun K8 hK8 => ?_)
    refine c_reg ?_ -- region 13 match.go:25
    refine wl (ro_cmp rfl rfl rfl) ?_
    refine wl (ro_assign rfl) ?_
    refine wl_nil (x_then (hK8 _ _ ?_))
    clear hK8 K8
    refine wc_condF rfl ?_
    refine c_seq (fun K9 hK9 => ?_)
    refine c_reg ?_ -- region 17 match.go:30
    refine wl (ro_cmp rfl rfl rfl) ?_
    refine wl (ro_assign rfl) ?_
    refine wl_nil (x_then (hK9 _ _ ?_))
    clear hK9 K9
    refine wc_condT rfl ?_
    refine c_seq (fun K10 hK10 => ?_)
    refine c_reg ?_ -- region 18 match.go:31
    refine wl (ro_loadAggB rfl ag_151 (hA) rfl rfl) ?_
    refine wl (ro_fieldAddr (k := 1) rfl fo_89_1) ?_
    refine wl (ro_loadB rfl sc_3 (hX) (rfl)) ?_
    refine wl_call rfl en_146 (ih i hi hT hia) ?_
    rintro _ w4 ⟨rfl, F4⟩
    replace hF := hF.thenDrew.thenN F4
    replace hT := F4.blkN hT
    replace hA := F4.blkN hA
    replace hX := F4.blkN hX
    refine wl (ro_assign rfl) ?_
    refine wl_nil (x_then (hK10 _ _ ?_))
    clear hK10 K10
    refine c_ret (x_blkR (x_thenR ?_))
    refine bp_ret Tryz.results146 rfl ?_
    exact ⟨rfl, hF⟩
  | region _ _ _ => exact hN.elim
  | loop _ => exact hN.elim
  | exit _ => exact hN.elim
  | scope _ => exact hN.elim
  | refuse _ => exact hN.elim

end Go.Proofs.Qxb6500567aGreat
