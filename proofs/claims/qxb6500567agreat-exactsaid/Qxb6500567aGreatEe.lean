import Derived.Test.Qxb6500567aGreatEd
/- The model's simplifier: build, Core, New. -/
namespace Go.Proofs.Qxb6500567aGreat
set_option linter.unusedVariables false
set_option linter.unusedSimpArgs false

theorem tailM_none {x : RE} {mn m : Nat} {lz : Bool} (h : mn < m) : tailM (nds x) mn (some m) = nds (optn x lz (m - mn)) := by
  obtain ⟨k, hk⟩ : ∃ k, m - mn = k + 1 := ⟨m - mn - 1, by omega⟩
  have := nds_optn x lz k
  show (if mn < m then (m - mn) * (nds x + 3) - 1 else 0) = _
  rw [if_pos h, hk]
  omega

set_option maxHeartbeats 4000000 in
theorem build120 {nb cap : Nat} {T : List RE} {c : Nat → Value} {z1 z2 z3 z4 : Value} (hz : ∀ u ∈ [z1, z2, z3, z4], u.oneCell' = true) (hle : T.length ≤ cap) (hAR : AR T c 0) : ∀ (k : Nat), BuildOK nb cap T c z1 z2 z3 z4 k := by
  intro k
  induction k using Nat.strongRecOn with
  | ind k ih =>
  intro w rb n VN r m hT s1 r1 hk hw hs2 hn
  have hF : Fram none' w w := Fram.refl _ _
  have hN := hAR k r hk
  have hkl := (List.getElem?_eq_some_iff.1 hk).1
  generalize hcs : cel 11 (fun j => c (0 + 11 * k + j)) = cs at hN
  have hld := nd_load (cap := cap) (k := k) (by omega) hcs
  have hB := m.blk
  have hT0 := hT
  refine ret_of Tryz.func120 rfl Tryz.ntmps120 rfl ?_
  refine c_seq (fun K1 hK1 => ?_)
  rcases hN.kinds with ⟨hq, rfl⟩ | ⟨S, hq, rfl⟩ | ⟨hq, rfl⟩ | ⟨l, hq, rfl⟩ | ⟨a, b, i, j, hq, hi, hj, hia, hjb, rfl⟩ | ⟨o, a, b, i, j, hq, hi, hj, hia, hjb, rfl⟩ | ⟨ff, ps, x, a, i, hq, hi, hia, hcn, rfl⟩ | ⟨g, a, i, hq, hi, hia, rfl⟩
  · skip
    have hcr : nds (core r) = 1 := by rw [hq]; rfl
    refine c_reg ?_ -- region 0 simpm.go:176
    refine wl (ro_assign rfl) ?_
    refine wl_nil (x_then (hK1 _ _ ?_))
    clear hK1 K1
    refine forget [(0, _), (1, _)] ⟨rfl, rfl, trivial⟩ (fun e => ?_)
    refine c_seq (fun K2 hK2 => ?_)
    refine c_reg ?_ -- region 1 simpm.go:177
    refine wl (ro_move rfl) ?_
    refine wl (ro_nilCheck rfl) ?_
    refine wl (ro_fieldAddr (k := 0) rfl fo_193_0) ?_
    refine wl (ro_fieldAddr (k := 0) rfl fo_151_0) ?_
    refine wl (ro_loadB rfl sc_98 (hB) (rfl)) ?_
    refine wl (ro_move rfl) ?_
    refine wl (ro_indexAddr (et := 89) (k := 11) rfl rfl se_98 (rfl) (hkl)) ?_
    refine wl (ro_loadAggB rfl ag_89 (hT) (rfl) (hld)) ?_
    refine wl_new (ze_89) (fun xb w1 hbxb hX F1 => ?_)
    have hbsxb := Nat.le_trans hF.size hbxb
    have hnenbxb : nb < xb := Nat.lt_of_lt_of_le hT.lt hbxb
    have hnerbxb : rb < xb := Nat.lt_of_lt_of_le hB.lt hbxb
    replace hF := hF.thenDrew.thenN F1
    replace hT := F1.blkN hT
    replace hB := F1.blkN hB
    refine wl_puta rfl rfl (by simp [Value.oneCell', i64c, u64c, u8c, ptr]) sz_89 (rfl) hX ((by simp)) (rfl) (fun w2 hX F2 => ?_)
    replace hF := hF.thenDrew.thenO F2 (by first | exact .inr (by omega) | exact .inl rfl | exact .inl (by assumption))
    replace hT := F2.blkO hT (by omega)
    replace hB := F2.blkO hB (by omega)
    refine wl_nil (x_then (hK2 _ _ ?_))
    clear hK2 K2
    refine c_seq (fun K3 hK3 => ?_)
    refine c_seq (fun K4 hK4 => ?_)
    have M : MX w _ rb nb xb (trc nb T.length cap z1 z2 z3 z4) _ (cap * 11) c n VN VN := ⟨(MY.start m hT0 s1 r1).framN hF, hX, fun h => by obtain ⟨xs, ho, _⟩ := m.own; have := ho.lt h; omega, by omega⟩
    clear hX hT hF hB
    refine c_reg ?_ -- region 2 simpm.go:178
    refine wl (ro_fieldAddr (k := 0) rfl fo_89_0) ?_
    refine wl (ro_loadB rfl sc_3 (M.hX) (rfl)) ?_
    refine wl_nil (x_then (hK4 _ _ ?_))
    clear hK4 K4
    refine c_block ?_
    refine forget [(0, _), (5, _), (25, _)] ⟨rfl, rfl, rfl, trivial⟩ (fun e => ?_)
    refine c_seq (fun K5 hK5 => ?_)
    refine c_reg ?_ -- region 3 simpm.go:179
    refine wl (ro_cmp rfl rfl rfl) ?_
    refine wl (ro_assign rfl) ?_
    refine wl_nil (x_then (hK5 _ _ ?_))
    clear hK5 K5
    refine wc_condF rfl ?_
    refine c_seq (fun K6 hK6 => ?_)
    refine c_reg ?_ -- region 11 simpm.go:189
    refine wl (ro_cmp rfl rfl rfl) ?_
    refine wl (ro_assign rfl) ?_
    refine wl_nil (x_then (hK6 _ _ ?_))
    clear hK6 K6
    refine wc_condF rfl ?_
    refine c_seq (fun K7 hK7 => ?_)
    refine c_reg ?_ -- region 19 simpm.go:199
    refine wl (ro_cmp rfl rfl rfl) ?_
    refine wl (ro_assign rfl) ?_
    refine wl_nil (x_then (hK7 _ _ ?_))
    clear hK7 K7
    refine wc_condF rfl ?_
    refine c_seq (fun K8 hK8 => ?_)
    refine c_reg ?_ -- region 22 simpm.go:202
    refine wl (ro_cmp rfl rfl rfl) ?_
    refine wl (ro_assign rfl) ?_
    refine wl_nil (x_then (hK8 _ _ ?_))
    clear hK8 K8
    refine wc_condF rfl ?_
    refine c_skip (x_blk (x_then (hK3 _ _ ?_)))
    clear hK3 K3
    refine forget [(0, _), (5, _)] ⟨rfl, rfl, trivial⟩ (fun e => ?_)
    refine c_seq (fun K9 hK9 => ?_)
    refine c_reg ?_ -- region 42 simpm.go:227
    refine wl (ro_move rfl) ?_
    refine wl (ro_loadAggB rfl ag_89 (M.hX) (rfl) (rfl)) ?_
    refine wl_call rfl en_119 (add119 M.y.m (by omega) rfl one11 hz) ?_
    rintro _ w6 ⟨rfl, G6⟩
    obtain ⟨VN6, M6⟩ := M.call G6
    clear M
    have M := M6
    refine wl (ro_assign rfl) ?_
    refine wl_nil (x_then (hK9 _ _ ?_))
    clear hK9 K9
    refine c_ret ?_
    refine bp_ret Tryz.results120 rfl ?_
    rw [hcr]; exact ⟨⟨_, rfl⟩, M.y.out⟩
  · skip
    have hcr : nds (core r) = 1 := by rw [hq]; rfl
    refine c_reg ?_ -- region 0 simpm.go:176
    refine wl (ro_assign rfl) ?_
    refine wl_nil (x_then (hK1 _ _ ?_))
    clear hK1 K1
    refine forget [(0, _), (1, _)] ⟨rfl, rfl, trivial⟩ (fun e => ?_)
    refine c_seq (fun K10 hK10 => ?_)
    refine c_reg ?_ -- region 1 simpm.go:177
    refine wl (ro_move rfl) ?_
    refine wl (ro_nilCheck rfl) ?_
    refine wl (ro_fieldAddr (k := 0) rfl fo_193_0) ?_
    refine wl (ro_fieldAddr (k := 0) rfl fo_151_0) ?_
    refine wl (ro_loadB rfl sc_98 (hB) (rfl)) ?_
    refine wl (ro_move rfl) ?_
    refine wl (ro_indexAddr (et := 89) (k := 11) rfl rfl se_98 (rfl) (hkl)) ?_
    refine wl (ro_loadAggB rfl ag_89 (hT) (rfl) (hld)) ?_
    refine wl_new (ze_89) (fun xb w3 hbxb hX F3 => ?_)
    have hbsxb := Nat.le_trans hF.size hbxb
    have hnenbxb : nb < xb := Nat.lt_of_lt_of_le hT.lt hbxb
    have hnerbxb : rb < xb := Nat.lt_of_lt_of_le hB.lt hbxb
    replace hF := hF.thenDrew.thenN F3
    replace hT := F3.blkN hT
    replace hB := F3.blkN hB
    refine wl_puta rfl rfl (by simp [Value.oneCell', i64c, u64c, u8c, ptr]) sz_89 (rfl) hX ((by simp)) (rfl) (fun w4 hX F4 => ?_)
    replace hF := hF.thenDrew.thenO F4 (by first | exact .inr (by omega) | exact .inl rfl | exact .inl (by assumption))
    replace hT := F4.blkO hT (by omega)
    replace hB := F4.blkO hB (by omega)
    refine wl_nil (x_then (hK10 _ _ ?_))
    clear hK10 K10
    refine c_seq (fun K11 hK11 => ?_)
    refine c_seq (fun K12 hK12 => ?_)
    have M : MX w _ rb nb xb (trc nb T.length cap z1 z2 z3 z4) _ (cap * 11) c n VN VN := ⟨(MY.start m hT0 s1 r1).framN hF, hX, fun h => by obtain ⟨xs, ho, _⟩ := m.own; have := ho.lt h; omega, by omega⟩
    clear hX hT hF hB
    refine c_reg ?_ -- region 2 simpm.go:178
    refine wl (ro_fieldAddr (k := 0) rfl fo_89_0) ?_
    refine wl (ro_loadB rfl sc_3 (M.hX) (rfl)) ?_
    refine wl_nil (x_then (hK12 _ _ ?_))
    clear hK12 K12
    refine c_block ?_
    refine forget [(0, _), (5, _), (25, _)] ⟨rfl, rfl, rfl, trivial⟩ (fun e => ?_)
    refine c_seq (fun K13 hK13 => ?_)
    refine c_reg ?_ -- region 3 simpm.go:179
    refine wl (ro_cmp rfl rfl rfl) ?_
    refine wl (ro_assign rfl) ?_
    refine wl_nil (x_then (hK13 _ _ ?_))
    clear hK13 K13
    refine wc_condF rfl ?_
    refine c_seq (fun K14 hK14 => ?_)
    refine c_reg ?_ -- region 11 simpm.go:189
    refine wl (ro_cmp rfl rfl rfl) ?_
    refine wl (ro_assign rfl) ?_
    refine wl_nil (x_then (hK14 _ _ ?_))
    clear hK14 K14
    refine wc_condF rfl ?_
    refine c_seq (fun K15 hK15 => ?_)
    refine c_reg ?_ -- region 19 simpm.go:199
    refine wl (ro_cmp rfl rfl rfl) ?_
    refine wl (ro_assign rfl) ?_
    refine wl_nil (x_then (hK15 _ _ ?_))
    clear hK15 K15
    refine wc_condF rfl ?_
    refine c_seq (fun K16 hK16 => ?_)
    refine c_reg ?_ -- region 22 simpm.go:202
    refine wl (ro_cmp rfl rfl rfl) ?_
    refine wl (ro_assign rfl) ?_
    refine wl_nil (x_then (hK16 _ _ ?_))
    clear hK16 K16
    refine wc_condF rfl ?_
    refine c_skip (x_blk (x_then (hK11 _ _ ?_)))
    clear hK11 K11
    refine forget [(0, _), (5, _)] ⟨rfl, rfl, trivial⟩ (fun e => ?_)
    refine c_seq (fun K17 hK17 => ?_)
    refine c_reg ?_ -- region 42 simpm.go:227
    refine wl (ro_move rfl) ?_
    refine wl (ro_loadAggB rfl ag_89 (M.hX) (rfl) (rfl)) ?_
    refine wl_call rfl en_119 (add119 M.y.m (by omega) rfl one11 hz) ?_
    rintro _ w6 ⟨rfl, G6⟩
    obtain ⟨VN6, M6⟩ := M.call G6
    clear M
    have M := M6
    refine wl (ro_assign rfl) ?_
    refine wl_nil (x_then (hK17 _ _ ?_))
    clear hK17 K17
    refine c_ret ?_
    refine bp_ret Tryz.results120 rfl ?_
    rw [hcr]; exact ⟨⟨_, rfl⟩, M.y.out⟩
  · skip
    have hcr : nds (core r) = 1 := by rw [hq]; rfl
    refine c_reg ?_ -- region 0 simpm.go:176
    refine wl (ro_assign rfl) ?_
    refine wl_nil (x_then (hK1 _ _ ?_))
    clear hK1 K1
    refine forget [(0, _), (1, _)] ⟨rfl, rfl, trivial⟩ (fun e => ?_)
    refine c_seq (fun K18 hK18 => ?_)
    refine c_reg ?_ -- region 1 simpm.go:177
    refine wl (ro_move rfl) ?_
    refine wl (ro_nilCheck rfl) ?_
    refine wl (ro_fieldAddr (k := 0) rfl fo_193_0) ?_
    refine wl (ro_fieldAddr (k := 0) rfl fo_151_0) ?_
    refine wl (ro_loadB rfl sc_98 (hB) (rfl)) ?_
    refine wl (ro_move rfl) ?_
    refine wl (ro_indexAddr (et := 89) (k := 11) rfl rfl se_98 (rfl) (hkl)) ?_
    refine wl (ro_loadAggB rfl ag_89 (hT) (rfl) (hld)) ?_
    refine wl_new (ze_89) (fun xb w5 hbxb hX F5 => ?_)
    have hbsxb := Nat.le_trans hF.size hbxb
    have hnenbxb : nb < xb := Nat.lt_of_lt_of_le hT.lt hbxb
    have hnerbxb : rb < xb := Nat.lt_of_lt_of_le hB.lt hbxb
    replace hF := hF.thenDrew.thenN F5
    replace hT := F5.blkN hT
    replace hB := F5.blkN hB
    refine wl_puta rfl rfl (by simp [Value.oneCell', i64c, u64c, u8c, ptr]) sz_89 (rfl) hX ((by simp)) (rfl) (fun w6 hX F6 => ?_)
    replace hF := hF.thenDrew.thenO F6 (by first | exact .inr (by omega) | exact .inl rfl | exact .inl (by assumption))
    replace hT := F6.blkO hT (by omega)
    replace hB := F6.blkO hB (by omega)
    refine wl_nil (x_then (hK18 _ _ ?_))
    clear hK18 K18
    refine c_seq (fun K19 hK19 => ?_)
    refine c_seq (fun K20 hK20 => ?_)
    have M : MX w _ rb nb xb (trc nb T.length cap z1 z2 z3 z4) _ (cap * 11) c n VN VN := ⟨(MY.start m hT0 s1 r1).framN hF, hX, fun h => by obtain ⟨xs, ho, _⟩ := m.own; have := ho.lt h; omega, by omega⟩
    clear hX hT hF hB
    refine c_reg ?_ -- region 2 simpm.go:178
    refine wl (ro_fieldAddr (k := 0) rfl fo_89_0) ?_
    refine wl (ro_loadB rfl sc_3 (M.hX) (rfl)) ?_
    refine wl_nil (x_then (hK20 _ _ ?_))
    clear hK20 K20
    refine c_block ?_
    refine forget [(0, _), (5, _), (25, _)] ⟨rfl, rfl, rfl, trivial⟩ (fun e => ?_)
    refine c_seq (fun K21 hK21 => ?_)
    refine c_reg ?_ -- region 3 simpm.go:179
    refine wl (ro_cmp rfl rfl rfl) ?_
    refine wl (ro_assign rfl) ?_
    refine wl_nil (x_then (hK21 _ _ ?_))
    clear hK21 K21
    refine wc_condF rfl ?_
    refine c_seq (fun K22 hK22 => ?_)
    refine c_reg ?_ -- region 11 simpm.go:189
    refine wl (ro_cmp rfl rfl rfl) ?_
    refine wl (ro_assign rfl) ?_
    refine wl_nil (x_then (hK22 _ _ ?_))
    clear hK22 K22
    refine wc_condF rfl ?_
    refine c_seq (fun K23 hK23 => ?_)
    refine c_reg ?_ -- region 19 simpm.go:199
    refine wl (ro_cmp rfl rfl rfl) ?_
    refine wl (ro_assign rfl) ?_
    refine wl_nil (x_then (hK23 _ _ ?_))
    clear hK23 K23
    refine wc_condF rfl ?_
    refine c_seq (fun K24 hK24 => ?_)
    refine c_reg ?_ -- region 22 simpm.go:202
    refine wl (ro_cmp rfl rfl rfl) ?_
    refine wl (ro_assign rfl) ?_
    refine wl_nil (x_then (hK24 _ _ ?_))
    clear hK24 K24
    refine wc_condF rfl ?_
    refine c_skip (x_blk (x_then (hK19 _ _ ?_)))
    clear hK19 K19
    refine forget [(0, _), (5, _)] ⟨rfl, rfl, trivial⟩ (fun e => ?_)
    refine c_seq (fun K25 hK25 => ?_)
    refine c_reg ?_ -- region 42 simpm.go:227
    refine wl (ro_move rfl) ?_
    refine wl (ro_loadAggB rfl ag_89 (M.hX) (rfl) (rfl)) ?_
    refine wl_call rfl en_119 (add119 M.y.m (by omega) rfl one11 hz) ?_
    rintro _ w6 ⟨rfl, G6⟩
    obtain ⟨VN6, M6⟩ := M.call G6
    clear M
    have M := M6
    refine wl (ro_assign rfl) ?_
    refine wl_nil (x_then (hK25 _ _ ?_))
    clear hK25 K25
    refine c_ret ?_
    refine bp_ret Tryz.results120 rfl ?_
    rw [hcr]; exact ⟨⟨_, rfl⟩, M.y.out⟩
  · skip
    have hcr : nds (core r) = 1 := by rw [hq]; rfl
    refine c_reg ?_ -- region 0 simpm.go:176
    refine wl (ro_assign rfl) ?_
    refine wl_nil (x_then (hK1 _ _ ?_))
    clear hK1 K1
    refine forget [(0, _), (1, _)] ⟨rfl, rfl, trivial⟩ (fun e => ?_)
    refine c_seq (fun K26 hK26 => ?_)
    refine c_reg ?_ -- region 1 simpm.go:177
    refine wl (ro_move rfl) ?_
    refine wl (ro_nilCheck rfl) ?_
    refine wl (ro_fieldAddr (k := 0) rfl fo_193_0) ?_
    refine wl (ro_fieldAddr (k := 0) rfl fo_151_0) ?_
    refine wl (ro_loadB rfl sc_98 (hB) (rfl)) ?_
    refine wl (ro_move rfl) ?_
    refine wl (ro_indexAddr (et := 89) (k := 11) rfl rfl se_98 (rfl) (hkl)) ?_
    refine wl (ro_loadAggB rfl ag_89 (hT) (rfl) (hld)) ?_
    refine wl_new (ze_89) (fun xb w7 hbxb hX F7 => ?_)
    have hbsxb := Nat.le_trans hF.size hbxb
    have hnenbxb : nb < xb := Nat.lt_of_lt_of_le hT.lt hbxb
    have hnerbxb : rb < xb := Nat.lt_of_lt_of_le hB.lt hbxb
    replace hF := hF.thenDrew.thenN F7
    replace hT := F7.blkN hT
    replace hB := F7.blkN hB
    refine wl_puta rfl rfl (by simp [Value.oneCell', i64c, u64c, u8c, ptr]) sz_89 (rfl) hX ((by simp)) (rfl) (fun w8 hX F8 => ?_)
    replace hF := hF.thenDrew.thenO F8 (by first | exact .inr (by omega) | exact .inl rfl | exact .inl (by assumption))
    replace hT := F8.blkO hT (by omega)
    replace hB := F8.blkO hB (by omega)
    refine wl_nil (x_then (hK26 _ _ ?_))
    clear hK26 K26
    refine c_seq (fun K27 hK27 => ?_)
    refine c_seq (fun K28 hK28 => ?_)
    have M : MX w _ rb nb xb (trc nb T.length cap z1 z2 z3 z4) _ (cap * 11) c n VN VN := ⟨(MY.start m hT0 s1 r1).framN hF, hX, fun h => by obtain ⟨xs, ho, _⟩ := m.own; have := ho.lt h; omega, by omega⟩
    clear hX hT hF hB
    refine c_reg ?_ -- region 2 simpm.go:178
    refine wl (ro_fieldAddr (k := 0) rfl fo_89_0) ?_
    refine wl (ro_loadB rfl sc_3 (M.hX) (rfl)) ?_
    refine wl_nil (x_then (hK28 _ _ ?_))
    clear hK28 K28
    refine c_block ?_
    refine forget [(0, _), (5, _), (25, _)] ⟨rfl, rfl, rfl, trivial⟩ (fun e => ?_)
    refine c_seq (fun K29 hK29 => ?_)
    refine c_reg ?_ -- region 3 simpm.go:179
    refine wl (ro_cmp rfl rfl rfl) ?_
    refine wl (ro_assign rfl) ?_
    refine wl_nil (x_then (hK29 _ _ ?_))
    clear hK29 K29
    refine wc_condF rfl ?_
    refine c_seq (fun K30 hK30 => ?_)
    refine c_reg ?_ -- region 11 simpm.go:189
    refine wl (ro_cmp rfl rfl rfl) ?_
    refine wl (ro_assign rfl) ?_
    refine wl_nil (x_then (hK30 _ _ ?_))
    clear hK30 K30
    refine wc_condF rfl ?_
    refine c_seq (fun K31 hK31 => ?_)
    refine c_reg ?_ -- region 19 simpm.go:199
    refine wl (ro_cmp rfl rfl rfl) ?_
    refine wl (ro_assign rfl) ?_
    refine wl_nil (x_then (hK31 _ _ ?_))
    clear hK31 K31
    refine wc_condF rfl ?_
    refine c_seq (fun K32 hK32 => ?_)
    refine c_reg ?_ -- region 22 simpm.go:202
    refine wl (ro_cmp rfl rfl rfl) ?_
    refine wl (ro_assign rfl) ?_
    refine wl_nil (x_then (hK32 _ _ ?_))
    clear hK32 K32
    refine wc_condF rfl ?_
    refine c_skip (x_blk (x_then (hK27 _ _ ?_)))
    clear hK27 K27
    refine forget [(0, _), (5, _)] ⟨rfl, rfl, trivial⟩ (fun e => ?_)
    refine c_seq (fun K33 hK33 => ?_)
    refine c_reg ?_ -- region 42 simpm.go:227
    refine wl (ro_move rfl) ?_
    refine wl (ro_loadAggB rfl ag_89 (M.hX) (rfl) (rfl)) ?_
    refine wl_call rfl en_119 (add119 M.y.m (by omega) rfl one11 hz) ?_
    rintro _ w6 ⟨rfl, G6⟩
    obtain ⟨VN6, M6⟩ := M.call G6
    clear M
    have M := M6
    refine wl (ro_assign rfl) ?_
    refine wl_nil (x_then (hK33 _ _ ?_))
    clear hK33 K33
    refine c_ret ?_
    refine bp_ret Tryz.results120 rfl ?_
    rw [hcr]; exact ⟨⟨_, rfl⟩, M.y.out⟩
  · skip
    have hwa : WF a := by rw [hq] at hw; exact hw.1
    have hwb : WF b := by rw [hq] at hw; exact hw.2
    have ca := shp_cases a
    have cb := shp_cases b
    have hs : shp r = if shp a = 1 ∨ shp b = 1 then 1 else if shp a = 0 ∧ shp b = 0 then 0 else 2 := by rw [hq]; rfl
    have hc : core r = if shp a = 0 then core b else if shp b = 0 then core a else .cat (core a) (core b) := by rw [hq]; rfl
    have hn1 : ¬ (shp a = 1 ∨ shp b = 1) := fun h => by rw [if_pos h] at hs; omega
    have hn2 : ¬ (shp a = 0 ∧ shp b = 0) := fun h => by rw [if_neg hn1, if_pos h] at hs; omega
    refine c_reg ?_ -- region 0 simpm.go:176
    refine wl (ro_assign rfl) ?_
    refine wl_nil (x_then (hK1 _ _ ?_))
    clear hK1 K1
    refine forget [(0, _), (1, _)] ⟨rfl, rfl, trivial⟩ (fun e => ?_)
    refine c_seq (fun K34 hK34 => ?_)
    refine c_reg ?_ -- region 1 simpm.go:177
    refine wl (ro_move rfl) ?_
    refine wl (ro_nilCheck rfl) ?_
    refine wl (ro_fieldAddr (k := 0) rfl fo_193_0) ?_
    refine wl (ro_fieldAddr (k := 0) rfl fo_151_0) ?_
    refine wl (ro_loadB rfl sc_98 (hB) (rfl)) ?_
    refine wl (ro_move rfl) ?_
    refine wl (ro_indexAddr (et := 89) (k := 11) rfl rfl se_98 (rfl) (hkl)) ?_
    refine wl (ro_loadAggB rfl ag_89 (hT) (rfl) (hld)) ?_
    refine wl_new (ze_89) (fun xb w9 hbxb hX F9 => ?_)
    have hbsxb := Nat.le_trans hF.size hbxb
    have hnenbxb : nb < xb := Nat.lt_of_lt_of_le hT.lt hbxb
    have hnerbxb : rb < xb := Nat.lt_of_lt_of_le hB.lt hbxb
    replace hF := hF.thenDrew.thenN F9
    replace hT := F9.blkN hT
    replace hB := F9.blkN hB
    refine wl_puta rfl rfl (by simp [Value.oneCell', i64c, u64c, u8c, ptr]) sz_89 (rfl) hX ((by simp)) (rfl) (fun w10 hX F10 => ?_)
    replace hF := hF.thenDrew.thenO F10 (by first | exact .inr (by omega) | exact .inl rfl | exact .inl (by assumption))
    replace hT := F10.blkO hT (by omega)
    replace hB := F10.blkO hB (by omega)
    refine wl_nil (x_then (hK34 _ _ ?_))
    clear hK34 K34
    refine c_seq (fun K35 hK35 => ?_)
    refine c_seq (fun K36 hK36 => ?_)
    have M : MX w _ rb nb xb (trc nb T.length cap z1 z2 z3 z4) _ (cap * 11) c n VN VN := ⟨(MY.start m hT0 s1 r1).framN hF, hX, fun h => by obtain ⟨xs, ho, _⟩ := m.own; have := ho.lt h; omega, by omega⟩
    clear hX hT hF hB
    refine c_reg ?_ -- region 2 simpm.go:178
    refine wl (ro_fieldAddr (k := 0) rfl fo_89_0) ?_
    refine wl (ro_loadB rfl sc_3 (M.hX) (rfl)) ?_
    refine wl_nil (x_then (hK36 _ _ ?_))
    clear hK36 K36
    refine c_block ?_
    refine forget [(0, _), (5, _), (25, _)] ⟨rfl, rfl, rfl, trivial⟩ (fun e => ?_)
    refine c_seq (fun K37 hK37 => ?_)
    refine c_reg ?_ -- region 3 simpm.go:179
    refine wl (ro_cmp rfl rfl rfl) ?_
    refine wl (ro_assign rfl) ?_
    refine wl_nil (x_then (hK37 _ _ ?_))
    clear hK37 K37
    refine wc_condT rfl ?_
    refine c_seq (fun K38 hK38 => ?_)
    refine c_seq (fun K39 hK39 => ?_)
    refine c_pi [(0, false), (1, false), (2, false), (3, false), (4, false), (5, false), (6, true), (7, false)] (fun w' => Blk w'.heap rb (tcs nb T.length cap z1 z2 z3 z4 VN) 193 ∧ Blk w'.heap xb (ndc 4 i j 0 0 0 false 0) 89) mixed (by kernel_rfl) rfl (by kernel_rfl) (po_then (po_then (po_blk (po_then (po_bp))))) (⟨M.y.m.blk, M.hX⟩) ?_ -- region 4 simpm.go:180
    refine pi_ro rfl (fun w hS => ro_move rfl) ?_
    refine pi_ro rfl (fun w hS => ro_nilCheck rfl) ?_
    refine pi_ro rfl (fun w hS => ro_fieldAddr (k := 0) rfl fo_193_0) ?_
    refine pi_ro rfl (fun w hS => ro_loadAggB rfl ag_151 (hS.1) (rfl) (rfl)) ?_
    refine pi_ro rfl (fun w hS => ro_fieldAddr (k := 1) rfl fo_89_1) ?_
    refine pi_ro rfl (fun w hS => ro_loadB rfl sc_3 (hS.2) (rfl)) ?_
    refine pi_call rfl rfl en_117 (shape117 hle hAR i M.y.hT hia hwa) ?_
    rintro _ w3 ⟨rfl, F3⟩
    replace M := M.drew.framN F3
    refine ⟨⟨M.y.m.blk, M.hX⟩, ?_⟩
    refine pi_ro rfl (fun w hS => ro_cmp (r := decide (shp a = 0)) rfl rfl (congrArg some (beqc (shp a) 0))) ?_
    refine pi_nil (x_then (hK39 _ _ ?_))
    clear hK39 K39
    refine wc_cond rfl (fun hc35 => ?_) (fun hc35 => ?_)
    · try simp only [decide_eq_true_eq, decide_eq_false_iff_not, Bool.not_eq_true', Bool.not_eq_false', Bool.not_eq_eq_eq_not, Bool.not_true, Bool.not_false, beq_iff_eq, bne_iff_ne, ne_eq, beq_eq_false_iff_ne, bne_eq_false_iff_eq, gt_iff_lt, ge_iff_le, Int.not_lt, Int.not_le] at hc35
      rw [if_pos hc35] at hc
      refine c_seq (fun K40 hK40 => ?_)
      refine c_reg ?_ -- region 5 simpm.go:181
      refine wl (ro_move rfl) ?_
      refine wl (ro_fieldAddr (k := 2) rfl fo_89_2) ?_
      refine wl (ro_loadB rfl sc_3 (M.hX) (rfl)) ?_
      refine wl_call rfl en_120 (ih j hj M.y.m M.y.hT M.y.s1 M.y.r1 hjb hwb (by omega) (by rw [← hc]; exact hn)) ?_
      rintro _ w4 ⟨⟨q4, rfl⟩, G4⟩
      obtain ⟨VN4, M4⟩ := M.call G4
      clear M
      have M := M4
      refine wl (ro_assign rfl) ?_
      refine wl_nil (x_then (hK40 _ _ ?_))
      clear hK40 K40
      refine c_ret (x_thenR (x_blkR (x_thenR ?_)))
      refine bp_ret Tryz.results120 rfl ?_
      first
        | (rw [hcn, ← Nat.add_assoc, ← Nat.add_assoc]; exact ⟨⟨_, rfl⟩, M.y.out⟩)
        | (rw [hc]; exact ⟨⟨_, rfl⟩, M.y.out⟩)
    · try simp only [decide_eq_true_eq, decide_eq_false_iff_not, Bool.not_eq_true', Bool.not_eq_false', Bool.not_eq_eq_eq_not, Bool.not_true, Bool.not_false, beq_iff_eq, bne_iff_ne, ne_eq, beq_eq_false_iff_ne, bne_eq_false_iff_eq, gt_iff_lt, ge_iff_le, Int.not_lt, Int.not_le] at hc35
      rw [if_neg hc35] at hc
      refine c_skip (x_then (hK38 _ _ ?_))
      clear hK38 K38
      refine c_seq (fun K41 hK41 => ?_)
      refine c_seq (fun K42 hK42 => ?_)
      refine c_pi [(0, false), (1, false), (2, false), (3, false), (4, false), (5, false), (6, true), (7, false)] (fun w' => Blk w'.heap rb (tcs nb T.length cap z1 z2 z3 z4 VN) 193 ∧ Blk w'.heap xb (ndc 4 i j 0 0 0 false 0) 89) mixed (by kernel_rfl) rfl (by kernel_rfl) (po_then (po_then (po_blk (po_then (po_bp))))) (⟨M.y.m.blk, M.hX⟩) ?_ -- region 6 simpm.go:183
      refine pi_ro rfl (fun w hS => ro_move rfl) ?_
      refine pi_ro rfl (fun w hS => ro_nilCheck rfl) ?_
      refine pi_ro rfl (fun w hS => ro_fieldAddr (k := 0) rfl fo_193_0) ?_
      refine pi_ro rfl (fun w hS => ro_loadAggB rfl ag_151 (hS.1) (rfl) (rfl)) ?_
      refine pi_ro rfl (fun w hS => ro_fieldAddr (k := 2) rfl fo_89_2) ?_
      refine pi_ro rfl (fun w hS => ro_loadB rfl sc_3 (hS.2) (rfl)) ?_
      refine pi_call rfl rfl en_117 (shape117 hle hAR j M.y.hT hjb hwb) ?_
      rintro _ w3 ⟨rfl, F3⟩
      replace M := M.drew.framN F3
      refine ⟨⟨M.y.m.blk, M.hX⟩, ?_⟩
      refine pi_ro rfl (fun w hS => ro_cmp (r := decide (shp b = 0)) rfl rfl (congrArg some (beqc (shp b) 0))) ?_
      refine pi_nil (x_then (hK42 _ _ ?_))
      clear hK42 K42
      refine wc_cond rfl (fun hc47 => ?_) (fun hc47 => ?_)
      · try simp only [decide_eq_true_eq, decide_eq_false_iff_not, Bool.not_eq_true', Bool.not_eq_false', Bool.not_eq_eq_eq_not, Bool.not_true, Bool.not_false, beq_iff_eq, bne_iff_ne, ne_eq, beq_eq_false_iff_ne, bne_eq_false_iff_eq, gt_iff_lt, ge_iff_le, Int.not_lt, Int.not_le] at hc47
        rw [if_pos hc47] at hc
        refine c_seq (fun K43 hK43 => ?_)
        refine c_reg ?_ -- region 7 simpm.go:184
        refine wl (ro_move rfl) ?_
        refine wl (ro_fieldAddr (k := 1) rfl fo_89_1) ?_
        refine wl (ro_loadB rfl sc_3 (M.hX) (rfl)) ?_
        refine wl_call rfl en_120 (ih i hi M.y.m M.y.hT M.y.s1 M.y.r1 hia hwa (by omega) (by rw [← hc]; exact hn)) ?_
        rintro _ w4 ⟨⟨q4, rfl⟩, G4⟩
        obtain ⟨VN4, M4⟩ := M.call G4
        clear M
        have M := M4
        refine wl (ro_assign rfl) ?_
        refine wl_nil (x_then (hK43 _ _ ?_))
        clear hK43 K43
        refine c_ret (x_thenR (x_blkR (x_thenR ?_)))
        refine bp_ret Tryz.results120 rfl ?_
        first
          | (rw [hcn, ← Nat.add_assoc, ← Nat.add_assoc]; exact ⟨⟨_, rfl⟩, M.y.out⟩)
          | (rw [hc]; exact ⟨⟨_, rfl⟩, M.y.out⟩)
      · try simp only [decide_eq_true_eq, decide_eq_false_iff_not, Bool.not_eq_true', Bool.not_eq_false', Bool.not_eq_eq_eq_not, Bool.not_true, Bool.not_false, beq_iff_eq, bne_iff_ne, ne_eq, beq_eq_false_iff_ne, bne_eq_false_iff_eq, gt_iff_lt, ge_iff_le, Int.not_lt, Int.not_le] at hc47
        rw [if_neg hc47] at hc
        have hcn : nds (core r) = nds (core a) + nds (core b) + 1 := by rw [hc]; rfl
        refine c_skip (x_then (hK41 _ _ ?_))
        clear hK41 K41
        refine forget [(0, _), (5, _)] ⟨rfl, rfl, trivial⟩ (fun e => ?_)
        refine c_seq (fun K44 hK44 => ?_)
        refine c_reg ?_ -- region 8 simpm.go:186
        refine wl (ro_move rfl) ?_
        refine wl (ro_fieldAddr (k := 1) rfl fo_89_1) ?_
        refine wl (ro_loadB rfl sc_3 (M.hX) (rfl)) ?_
        refine wl_call rfl en_120 (ih i hi M.y.m M.y.hT M.y.s1 M.y.r1 hia hwa (by omega) (by omega)) ?_
        rintro _ w4 ⟨⟨q4, rfl⟩, G4⟩
        obtain ⟨VN4, M4⟩ := M.call G4
        clear M
        have M := M4
        refine wl (ro_assign rfl) ?_
        refine wl_nil (x_then (hK44 _ _ ?_))
        clear hK44 K44
        refine forget [(0, _), (5, _), (6, _)] ⟨rfl, rfl, rfl, trivial⟩ (fun e => ?_)
        refine c_seq (fun K45 hK45 => ?_)
        refine c_reg ?_ -- region 9 simpm.go:187
        refine wl (ro_move rfl) ?_
        refine wl (ro_fieldAddr (k := 2) rfl fo_89_2) ?_
        refine wl (ro_loadB rfl sc_3 (M.hX) (rfl)) ?_
        refine wl_call rfl en_120 (ih j hj M.y.m M.y.hT M.y.s1 M.y.r1 hjb hwb (by omega) (by omega)) ?_
        rintro _ w5 ⟨⟨q5, rfl⟩, G5⟩
        obtain ⟨VN5, M5⟩ := M.call G5
        clear M
        have M := M5
        refine wl (ro_assign rfl) ?_
        refine wl_nil (x_then (hK45 _ _ ?_))
        clear hK45 K45
        refine forget [(0, _), (6, _), (7, _)] ⟨rfl, rfl, rfl, trivial⟩ (fun e => ?_)
        refine c_seq (fun K46 hK46 => ?_)
        refine c_reg ?_ -- region 10 simpm.go:188
        refine wl (ro_move rfl) ?_
        refine wl (ro_move rfl) ?_
        refine wl (ro_move rfl) ?_
        refine wl (ro_build rfl bld_89_0_1_2) ?_
        refine wl_call rfl en_119 (add119' M.y.m (by omega) hz) ?_
        rintro _ w6 ⟨rfl, G6⟩
        obtain ⟨VN6, M6⟩ := M.call G6
        clear M
        have M := M6
        refine wl (ro_assign rfl) ?_
        refine wl_nil (x_then (hK46 _ _ ?_))
        clear hK46 K46
        refine c_ret (x_blkR (x_thenR ?_))
        refine bp_ret Tryz.results120 rfl ?_
        first
          | (rw [hcn, ← Nat.add_assoc, ← Nat.add_assoc]; exact ⟨⟨_, rfl⟩, M.y.out⟩)
          | (rw [hc]; exact ⟨⟨_, rfl⟩, M.y.out⟩)
  · skip
    have hwa : WF a := by rw [hq] at hw; exact hw.1
    have hwb : WF b := by rw [hq] at hw; exact hw.2
    have ca := shp_cases a
    have cb := shp_cases b
    have hs : shp r = if shp a = 1 then shp b else if shp b = 1 ∨ (shp a = 0 ∧ shp b = 0) then shp a else 2 := by rw [hq]; rfl
    have hc : core r = if shp a = 1 then core b else if shp b = 1 then core a else .alt (child a) (child b) := by rw [hq]; rfl
    refine c_reg ?_ -- region 0 simpm.go:176
    refine wl (ro_assign rfl) ?_
    refine wl_nil (x_then (hK1 _ _ ?_))
    clear hK1 K1
    refine forget [(0, _), (1, _)] ⟨rfl, rfl, trivial⟩ (fun e => ?_)
    refine c_seq (fun K47 hK47 => ?_)
    refine c_reg ?_ -- region 1 simpm.go:177
    refine wl (ro_move rfl) ?_
    refine wl (ro_nilCheck rfl) ?_
    refine wl (ro_fieldAddr (k := 0) rfl fo_193_0) ?_
    refine wl (ro_fieldAddr (k := 0) rfl fo_151_0) ?_
    refine wl (ro_loadB rfl sc_98 (hB) (rfl)) ?_
    refine wl (ro_move rfl) ?_
    refine wl (ro_indexAddr (et := 89) (k := 11) rfl rfl se_98 (rfl) (hkl)) ?_
    refine wl (ro_loadAggB rfl ag_89 (hT) (rfl) (hld)) ?_
    refine wl_new (ze_89) (fun xb w11 hbxb hX F11 => ?_)
    have hbsxb := Nat.le_trans hF.size hbxb
    have hnenbxb : nb < xb := Nat.lt_of_lt_of_le hT.lt hbxb
    have hnerbxb : rb < xb := Nat.lt_of_lt_of_le hB.lt hbxb
    replace hF := hF.thenDrew.thenN F11
    replace hT := F11.blkN hT
    replace hB := F11.blkN hB
    refine wl_puta rfl rfl (by simp [Value.oneCell', i64c, u64c, u8c, ptr]) sz_89 (rfl) hX ((by simp)) (rfl) (fun w12 hX F12 => ?_)
    replace hF := hF.thenDrew.thenO F12 (by first | exact .inr (by omega) | exact .inl rfl | exact .inl (by assumption))
    replace hT := F12.blkO hT (by omega)
    replace hB := F12.blkO hB (by omega)
    refine wl_nil (x_then (hK47 _ _ ?_))
    clear hK47 K47
    refine c_seq (fun K48 hK48 => ?_)
    refine c_seq (fun K49 hK49 => ?_)
    have M : MX w _ rb nb xb (trc nb T.length cap z1 z2 z3 z4) _ (cap * 11) c n VN VN := ⟨(MY.start m hT0 s1 r1).framN hF, hX, fun h => by obtain ⟨xs, ho, _⟩ := m.own; have := ho.lt h; omega, by omega⟩
    clear hX hT hF hB
    refine c_reg ?_ -- region 2 simpm.go:178
    refine wl (ro_fieldAddr (k := 0) rfl fo_89_0) ?_
    refine wl (ro_loadB rfl sc_3 (M.hX) (rfl)) ?_
    refine wl_nil (x_then (hK49 _ _ ?_))
    clear hK49 K49
    refine c_block ?_
    refine forget [(0, _), (5, _), (25, _)] ⟨rfl, rfl, rfl, trivial⟩ (fun e => ?_)
    refine c_seq (fun K50 hK50 => ?_)
    refine c_reg ?_ -- region 3 simpm.go:179
    refine wl (ro_cmp rfl rfl rfl) ?_
    refine wl (ro_assign rfl) ?_
    refine wl_nil (x_then (hK50 _ _ ?_))
    clear hK50 K50
    refine wc_condF rfl ?_
    refine c_seq (fun K51 hK51 => ?_)
    refine c_reg ?_ -- region 11 simpm.go:189
    refine wl (ro_cmp rfl rfl rfl) ?_
    refine wl (ro_assign rfl) ?_
    refine wl_nil (x_then (hK51 _ _ ?_))
    clear hK51 K51
    refine wc_condT rfl ?_
    refine c_seq (fun K52 hK52 => ?_)
    refine c_seq (fun K53 hK53 => ?_)
    refine c_pi [(0, false), (1, false), (2, false), (3, false), (4, false), (5, false), (6, true), (7, false)] (fun w' => Blk w'.heap rb (tcs nb T.length cap z1 z2 z3 z4 VN) 193 ∧ Blk w'.heap xb (ndc 5 i j 0 0 0 false 0) 89) mixed (by kernel_rfl) rfl (by kernel_rfl) (po_then (po_then (po_blk (po_then (po_bp))))) (⟨M.y.m.blk, M.hX⟩) ?_ -- region 12 simpm.go:190
    refine pi_ro rfl (fun w hS => ro_move rfl) ?_
    refine pi_ro rfl (fun w hS => ro_nilCheck rfl) ?_
    refine pi_ro rfl (fun w hS => ro_fieldAddr (k := 0) rfl fo_193_0) ?_
    refine pi_ro rfl (fun w hS => ro_loadAggB rfl ag_151 (hS.1) (rfl) (rfl)) ?_
    refine pi_ro rfl (fun w hS => ro_fieldAddr (k := 1) rfl fo_89_1) ?_
    refine pi_ro rfl (fun w hS => ro_loadB rfl sc_3 (hS.2) (rfl)) ?_
    refine pi_call rfl rfl en_117 (shape117 hle hAR i M.y.hT hia hwa) ?_
    rintro _ w3 ⟨rfl, F3⟩
    replace M := M.drew.framN F3
    refine ⟨⟨M.y.m.blk, M.hX⟩, ?_⟩
    refine pi_ro rfl (fun w hS => ro_cmp (r := decide (shp a = 1)) rfl rfl (congrArg some (beqc (shp a) 1))) ?_
    refine pi_nil (x_then (hK53 _ _ ?_))
    clear hK53 K53
    refine wc_cond rfl (fun hc74 => ?_) (fun hc74 => ?_)
    · try simp only [decide_eq_true_eq, decide_eq_false_iff_not, Bool.not_eq_true', Bool.not_eq_false', Bool.not_eq_eq_eq_not, Bool.not_true, Bool.not_false, beq_iff_eq, bne_iff_ne, ne_eq, beq_eq_false_iff_ne, bne_eq_false_iff_eq, gt_iff_lt, ge_iff_le, Int.not_lt, Int.not_le] at hc74
      rw [if_pos hc74] at hc hs
      refine c_seq (fun K54 hK54 => ?_)
      refine c_reg ?_ -- region 13 simpm.go:191
      refine wl (ro_move rfl) ?_
      refine wl (ro_fieldAddr (k := 2) rfl fo_89_2) ?_
      refine wl (ro_loadB rfl sc_3 (M.hX) (rfl)) ?_
      refine wl_call rfl en_120 (ih j hj M.y.m M.y.hT M.y.s1 M.y.r1 hjb hwb (by omega) (by rw [← hc]; exact hn)) ?_
      rintro _ w4 ⟨⟨q4, rfl⟩, G4⟩
      obtain ⟨VN4, M4⟩ := M.call G4
      clear M
      have M := M4
      refine wl (ro_assign rfl) ?_
      refine wl_nil (x_then (hK54 _ _ ?_))
      clear hK54 K54
      refine c_ret (x_thenR (x_blkR (x_thenR ?_)))
      refine bp_ret Tryz.results120 rfl ?_
      first
        | (rw [hcn, ← Nat.add_assoc, ← Nat.add_assoc]; exact ⟨⟨_, rfl⟩, M.y.out⟩)
        | (rw [hc]; exact ⟨⟨_, rfl⟩, M.y.out⟩)
    · try simp only [decide_eq_true_eq, decide_eq_false_iff_not, Bool.not_eq_true', Bool.not_eq_false', Bool.not_eq_eq_eq_not, Bool.not_true, Bool.not_false, beq_iff_eq, bne_iff_ne, ne_eq, beq_eq_false_iff_ne, bne_eq_false_iff_eq, gt_iff_lt, ge_iff_le, Int.not_lt, Int.not_le] at hc74
      rw [if_neg hc74] at hc hs
      refine c_skip (x_then (hK52 _ _ ?_))
      clear hK52 K52
      refine c_seq (fun K55 hK55 => ?_)
      refine c_seq (fun K56 hK56 => ?_)
      refine c_pi [(0, false), (1, false), (2, false), (3, false), (4, false), (5, false), (6, true), (7, false)] (fun w' => Blk w'.heap rb (tcs nb T.length cap z1 z2 z3 z4 VN) 193 ∧ Blk w'.heap xb (ndc 5 i j 0 0 0 false 0) 89) mixed (by kernel_rfl) rfl (by kernel_rfl) (po_then (po_then (po_blk (po_then (po_bp))))) (⟨M.y.m.blk, M.hX⟩) ?_ -- region 14 simpm.go:193
      refine pi_ro rfl (fun w hS => ro_move rfl) ?_
      refine pi_ro rfl (fun w hS => ro_nilCheck rfl) ?_
      refine pi_ro rfl (fun w hS => ro_fieldAddr (k := 0) rfl fo_193_0) ?_
      refine pi_ro rfl (fun w hS => ro_loadAggB rfl ag_151 (hS.1) (rfl) (rfl)) ?_
      refine pi_ro rfl (fun w hS => ro_fieldAddr (k := 2) rfl fo_89_2) ?_
      refine pi_ro rfl (fun w hS => ro_loadB rfl sc_3 (hS.2) (rfl)) ?_
      refine pi_call rfl rfl en_117 (shape117 hle hAR j M.y.hT hjb hwb) ?_
      rintro _ w3 ⟨rfl, F3⟩
      replace M := M.drew.framN F3
      refine ⟨⟨M.y.m.blk, M.hX⟩, ?_⟩
      refine pi_ro rfl (fun w hS => ro_cmp (r := decide (shp b = 1)) rfl rfl (congrArg some (beqc (shp b) 1))) ?_
      refine pi_nil (x_then (hK56 _ _ ?_))
      clear hK56 K56
      refine wc_cond rfl (fun hc86 => ?_) (fun hc86 => ?_)
      · try simp only [decide_eq_true_eq, decide_eq_false_iff_not, Bool.not_eq_true', Bool.not_eq_false', Bool.not_eq_eq_eq_not, Bool.not_true, Bool.not_false, beq_iff_eq, bne_iff_ne, ne_eq, beq_eq_false_iff_ne, bne_eq_false_iff_eq, gt_iff_lt, ge_iff_le, Int.not_lt, Int.not_le] at hc86
        rw [if_pos hc86] at hc
        rw [if_pos (.inl hc86)] at hs
        refine c_seq (fun K57 hK57 => ?_)
        refine c_reg ?_ -- region 15 simpm.go:194
        refine wl (ro_move rfl) ?_
        refine wl (ro_fieldAddr (k := 1) rfl fo_89_1) ?_
        refine wl (ro_loadB rfl sc_3 (M.hX) (rfl)) ?_
        refine wl_call rfl en_120 (ih i hi M.y.m M.y.hT M.y.s1 M.y.r1 hia hwa (by omega) (by rw [← hc]; exact hn)) ?_
        rintro _ w4 ⟨⟨q4, rfl⟩, G4⟩
        obtain ⟨VN4, M4⟩ := M.call G4
        clear M
        have M := M4
        refine wl (ro_assign rfl) ?_
        refine wl_nil (x_then (hK57 _ _ ?_))
        clear hK57 K57
        refine c_ret (x_thenR (x_blkR (x_thenR ?_)))
        refine bp_ret Tryz.results120 rfl ?_
        first
          | (rw [hcn, ← Nat.add_assoc, ← Nat.add_assoc]; exact ⟨⟨_, rfl⟩, M.y.out⟩)
          | (rw [hc]; exact ⟨⟨_, rfl⟩, M.y.out⟩)
      · try simp only [decide_eq_true_eq, decide_eq_false_iff_not, Bool.not_eq_true', Bool.not_eq_false', Bool.not_eq_eq_eq_not, Bool.not_true, Bool.not_false, beq_iff_eq, bne_iff_ne, ne_eq, beq_eq_false_iff_ne, bne_eq_false_iff_eq, gt_iff_lt, ge_iff_le, Int.not_lt, Int.not_le] at hc86
        rw [if_neg hc86] at hc
        have hcn : nds (core r) = nds (child a) + nds (child b) + 1 := by rw [hc]; rfl
        refine c_skip (x_then (hK55 _ _ ?_))
        clear hK55 K55
        refine forget [(0, _), (5, _)] ⟨rfl, rfl, trivial⟩ (fun e => ?_)
        refine c_seq (fun K58 hK58 => ?_)
        refine c_reg ?_ -- region 16 simpm.go:196
        refine wl (ro_move rfl) ?_
        refine wl (ro_fieldAddr (k := 1) rfl fo_89_1) ?_
        refine wl (ro_loadB rfl sc_3 (M.hX) (rfl)) ?_
        refine wl_call rfl en_92 (child92 hz hle hAR (ih i hi) M.y.m M.y.hT M.y.s1 M.y.r1 hia hwa (by omega)) ?_
        rintro _ w4 ⟨⟨q4, rfl⟩, G4⟩
        obtain ⟨VN4, M4⟩ := M.call G4
        clear M
        have M := M4
        refine wl (ro_assign rfl) ?_
        refine wl_nil (x_then (hK58 _ _ ?_))
        clear hK58 K58
        refine forget [(0, _), (5, _), (8, _)] ⟨rfl, rfl, rfl, trivial⟩ (fun e => ?_)
        refine c_seq (fun K59 hK59 => ?_)
        refine c_reg ?_ -- region 17 simpm.go:197
        refine wl (ro_move rfl) ?_
        refine wl (ro_fieldAddr (k := 2) rfl fo_89_2) ?_
        refine wl (ro_loadB rfl sc_3 (M.hX) (rfl)) ?_
        refine wl_call rfl en_92 (child92 hz hle hAR (ih j hj) M.y.m M.y.hT M.y.s1 M.y.r1 hjb hwb (by omega)) ?_
        rintro _ w5 ⟨⟨q5, rfl⟩, G5⟩
        obtain ⟨VN5, M5⟩ := M.call G5
        clear M
        have M := M5
        refine wl (ro_assign rfl) ?_
        refine wl_nil (x_then (hK59 _ _ ?_))
        clear hK59 K59
        refine forget [(0, _), (8, _), (9, _)] ⟨rfl, rfl, rfl, trivial⟩ (fun e => ?_)
        refine c_seq (fun K60 hK60 => ?_)
        refine c_reg ?_ -- region 18 simpm.go:198
        refine wl (ro_move rfl) ?_
        refine wl (ro_move rfl) ?_
        refine wl (ro_move rfl) ?_
        refine wl (ro_build rfl bld_89_0_1_2) ?_
        refine wl_call rfl en_119 (add119' M.y.m (by omega) hz) ?_
        rintro _ w6 ⟨rfl, G6⟩
        obtain ⟨VN6, M6⟩ := M.call G6
        clear M
        have M := M6
        refine wl (ro_assign rfl) ?_
        refine wl_nil (x_then (hK60 _ _ ?_))
        clear hK60 K60
        refine c_ret (x_blkR (x_thenR ?_))
        refine bp_ret Tryz.results120 rfl ?_
        first
          | (rw [hcn, ← Nat.add_assoc, ← Nat.add_assoc]; exact ⟨⟨_, rfl⟩, M.y.out⟩)
          | (rw [hc]; exact ⟨⟨_, rfl⟩, M.y.out⟩)
  · skip
    have hwa : WF a := by rw [hq] at hw; exact hw.1
    have ca := shp_cases a
    have hs : shp r = if shp a = 1 ∧ 0 < rmn x then 1 else if shp a ≠ 2 ∨ rmx x = some 0 then 0 else 2 := by rw [hq]; rfl
    have hn1 : ¬ (shp a = 1 ∧ 0 < rmn x) := fun h => by rw [if_pos h] at hs; omega
    have hn2 : ¬ (shp a ≠ 2 ∨ rmx x = some 0) := fun h => by rw [if_neg hn1, if_pos h] at hs; omega
    have hsa : shp a = 2 := by
      by_cases h : shp a = 2
      · exact h
      · exact absurd (.inl h) hn2
    have hc : nds (core r) = (if 0 < sumM (nds (core a)) (rmn x) ∧ 0 < tailM (nds (core a)) (rmn x) (rmx x) then sumM (nds (core a)) (rmn x) + 1 else sumM (nds (core a)) (rmn x)) + tailM (nds (core a)) (rmn x) (rmx x) := by
      rw [hq]
      exact nds_unr (core a) (rmn x) (rmx x) (rlz x) (fun h => hn2 (.inr h)) (fun m hm => (hcn.2 m hm).1)
    have hY := nds_pos (core a)
    generalize hYe : nds (core a) = Y at hc hY
    obtain ⟨M9, hM⟩ : ∃ M : Int, mxI (rmx x) = M := ⟨_, rfl⟩
    rw [hM] at hld
    have hmn3 := hcn.1
    have hsle : ∀ j, j ≤ rmn x → n + sumM Y j ≤ n + nds (core r) := by
      intro j hj
      have hm : sumM Y j ≤ sumM Y (rmn x) := by
        unfold sumM
        by_cases h0 : 0 < j
        · rw [if_pos h0, if_pos (by omega)]
          have := Nat.mul_le_mul_right Y hj
          omega
        · rw [if_neg h0]; omega
      have : sumM Y (rmn x) ≤ nds (core r) := by rw [hc]; split <;> omega
      omega
    have htle : tailM Y (rmn x) (rmx x) ≤ nds (core r) := by rw [hc]; omega
    refine c_reg ?_ -- region 0 simpm.go:176
    refine wl (ro_assign rfl) ?_
    refine wl_nil (x_then (hK1 _ _ ?_))
    clear hK1 K1
    refine forget [(0, _), (1, _)] ⟨rfl, rfl, trivial⟩ (fun e => ?_)
    refine c_seq (fun K61 hK61 => ?_)
    refine c_reg ?_ -- region 1 simpm.go:177
    refine wl (ro_move rfl) ?_
    refine wl (ro_nilCheck rfl) ?_
    refine wl (ro_fieldAddr (k := 0) rfl fo_193_0) ?_
    refine wl (ro_fieldAddr (k := 0) rfl fo_151_0) ?_
    refine wl (ro_loadB rfl sc_98 (hB) (rfl)) ?_
    refine wl (ro_move rfl) ?_
    refine wl (ro_indexAddr (et := 89) (k := 11) rfl rfl se_98 (rfl) (hkl)) ?_
    refine wl (ro_loadAggB rfl ag_89 (hT) (rfl) (hld)) ?_
    refine wl_new (ze_89) (fun xb w13 hbxb hX F13 => ?_)
    have hbsxb := Nat.le_trans hF.size hbxb
    have hnenbxb : nb < xb := Nat.lt_of_lt_of_le hT.lt hbxb
    have hnerbxb : rb < xb := Nat.lt_of_lt_of_le hB.lt hbxb
    replace hF := hF.thenDrew.thenN F13
    replace hT := F13.blkN hT
    replace hB := F13.blkN hB
    refine wl_puta rfl rfl (by simp [Value.oneCell', i64c, u64c, u8c, ptr]) sz_89 (rfl) hX ((by simp)) (rfl) (fun w14 hX F14 => ?_)
    replace hF := hF.thenDrew.thenO F14 (by first | exact .inr (by omega) | exact .inl rfl | exact .inl (by assumption))
    replace hT := F14.blkO hT (by omega)
    replace hB := F14.blkO hB (by omega)
    refine wl_nil (x_then (hK61 _ _ ?_))
    clear hK61 K61
    refine c_seq (fun K62 hK62 => ?_)
    refine c_seq (fun K63 hK63 => ?_)
    have M : MX w _ rb nb xb (trc nb T.length cap z1 z2 z3 z4) _ (cap * 11) c n VN VN := ⟨(MY.start m hT0 s1 r1).framN hF, hX, fun h => by obtain ⟨xs, ho, _⟩ := m.own; have := ho.lt h; omega, by omega⟩
    clear hX hT hF hB
    refine c_reg ?_ -- region 2 simpm.go:178
    refine wl (ro_fieldAddr (k := 0) rfl fo_89_0) ?_
    refine wl (ro_loadB rfl sc_3 (M.hX) (rfl)) ?_
    refine wl_nil (x_then (hK63 _ _ ?_))
    clear hK63 K63
    refine c_block ?_
    refine forget [(0, _), (5, _), (25, _)] ⟨rfl, rfl, rfl, trivial⟩ (fun e => ?_)
    refine c_seq (fun K64 hK64 => ?_)
    refine c_reg ?_ -- region 3 simpm.go:179
    refine wl (ro_cmp rfl rfl rfl) ?_
    refine wl (ro_assign rfl) ?_
    refine wl_nil (x_then (hK64 _ _ ?_))
    clear hK64 K64
    refine wc_condF rfl ?_
    refine c_seq (fun K65 hK65 => ?_)
    refine c_reg ?_ -- region 11 simpm.go:189
    refine wl (ro_cmp rfl rfl rfl) ?_
    refine wl (ro_assign rfl) ?_
    refine wl_nil (x_then (hK65 _ _ ?_))
    clear hK65 K65
    refine wc_condF rfl ?_
    refine c_seq (fun K66 hK66 => ?_)
    refine c_reg ?_ -- region 19 simpm.go:199
    refine wl (ro_cmp rfl rfl rfl) ?_
    refine wl (ro_assign rfl) ?_
    refine wl_nil (x_then (hK66 _ _ ?_))
    clear hK66 K66
    refine wc_condF rfl ?_
    refine c_seq (fun K67 hK67 => ?_)
    refine c_reg ?_ -- region 22 simpm.go:202
    refine wl (ro_cmp rfl rfl rfl) ?_
    refine wl (ro_assign rfl) ?_
    refine wl_nil (x_then (hK67 _ _ ?_))
    clear hK67 K67
    refine wc_condT rfl ?_
    refine c_seq (fun K68 hK68 => ?_)
    refine c_reg ?_ -- region 23 simpm.go:203
    refine wl (ro_assign rfl) ?_
    refine wl_nil (x_then (hK68 _ _ ?_))
    clear hK68 K68
    refine c_seq (fun K69 hK69 => ?_)
    refine c_seq (fun K70 hK70 => ?_)
    refine c_reg ?_ -- region 24 simpm.go:204
    refine wl (ro_assign rfl) ?_
    refine wl_nil (x_then (hK70 _ _ ?_))
    clear hK70 K70
    refine c_block ?_
    -- loop@r25: live slots [0, 5, 11, 12]
    refine c_loopG (fun m a' w' => ∃ (j : Nat) (acc : Int) (V : Value), m = rmn x - j ∧ j ≤ rmn x ∧ (0 < j ↔ 0 ≤ acc) ∧ MX w w' rb nb xb (trc nb T.length cap z1 z2 z3 z4) (ndc 6 i (-1) (rmn x) M9 0 (rlz x) 0) (cap * 11) c (n + sumM Y j) V VN ∧ ∃ e, a' = Fr 179 (upds e [(0, ptr rb), (5, ptr xb), (11, icv acc), (12, i64c j)]) []) (rmn x) ⟨0, -1, VN, rfl, by omega, by omega, M, kp _ ⟨rfl, rfl, rfl, rfl, trivial⟩⟩ ?_
    clear M
    rintro m9 a' w9 ⟨j, acc, VX, rfl, hj, hacc, M, e, rfl⟩
    have hst := sumM_step (A := Y) (j := j)
    refine c_seq (fun K71 hK71 => ?_)
    refine c_seq (fun K72 hK72 => ?_)
    refine c_reg ?_ -- region 25 simpm.go:204
    refine wl (ro_move rfl) ?_
    refine wl (ro_fieldAddr (k := 3) rfl fo_89_3) ?_
    refine wl (ro_loadB rfl sc_3 (M.hX) (rfl)) ?_
    refine wl (ro_cmp (r := decide (j < rmn x)) rfl rfl (congrArg some (decide_eq_decide.2 (by omega)))) ?_
    refine wl_nil (x_then (hK72 _ _ ?_))
    clear hK72 K72
    refine wc_cond rfl (fun hc121 => ?_) (fun hc121 => ?_)
    · try simp only [decide_eq_true_eq, decide_eq_false_iff_not, Bool.not_eq_true', Bool.not_eq_false', Bool.not_eq_eq_eq_not, Bool.not_true, Bool.not_false, beq_iff_eq, bne_iff_ne, ne_eq, beq_eq_false_iff_ne, bne_eq_false_iff_eq, gt_iff_lt, ge_iff_le, Int.not_lt, Int.not_le] at hc121
      have hnx := hsle (j + 1) hc121
      refine c_skip (x_then (hK71 _ _ ?_))
      clear hK71 K71
      refine forget [(0, _), (5, _), (11, _), (12, _)] ⟨rfl, rfl, rfl, rfl, trivial⟩ (fun e => ?_)
      refine c_seq (fun K73 hK73 => ?_)
      refine c_block ?_
      refine c_seq (fun K74 hK74 => ?_)
      refine c_reg ?_ -- region 27 simpm.go:205
      refine wl (ro_move rfl) ?_
      refine wl (ro_fieldAddr (k := 1) rfl fo_89_1) ?_
      refine wl (ro_loadB rfl sc_3 (M.hX) (rfl)) ?_
      refine wl_call rfl en_120 (ih i hi M.y.m M.y.hT M.y.s1 M.y.r1 hia hwa hsa (by rw [hYe]; rw [hst] at hnx; split at hnx <;> omega)) ?_
      rintro _ w4 ⟨⟨q4, rfl⟩, G4⟩
      rw [hYe] at G4
      obtain ⟨VN4, M4⟩ := M.call G4
      clear M
      have M := M4
      refine wl (ro_assign rfl) ?_
      refine wl_nil (x_then (hK74 _ _ ?_))
      clear hK74 K74
      refine forget [(0, _), (5, _), (11, _), (12, _), (13, _)] ⟨rfl, rfl, rfl, rfl, rfl, trivial⟩ (fun e => ?_)
      refine c_seq (fun K75 hK75 => ?_)
      refine c_reg ?_ -- region 28 simpm.go:206
      refine wl (ro_move rfl) ?_
      refine wl (ro_cmp (r := decide (acc < 0)) rfl rfl rfl) ?_
      refine wl_nil (x_then (hK75 _ _ ?_))
      clear hK75 K75
      refine wc_cond rfl (fun hc129 => ?_) (fun hc129 => ?_)
      · try simp only [decide_eq_true_eq, decide_eq_false_iff_not, Bool.not_eq_true', Bool.not_eq_false', Bool.not_eq_eq_eq_not, Bool.not_true, Bool.not_false, beq_iff_eq, bne_iff_ne, ne_eq, beq_eq_false_iff_ne, bne_eq_false_iff_eq, gt_iff_lt, ge_iff_le, Int.not_lt, Int.not_le] at hc129
        rw [if_neg (by omega)] at hst
        refine c_reg ?_ -- region 29 simpm.go:207
        refine wl (ro_move rfl) ?_
        refine wl (ro_assign rfl) ?_
        refine wl_nil (x_blk (x_then (hK73 _ _ ?_)))
        clear hK73 K73
        refine c_reg ?_ -- region 26 simpm.go:204
        refine wl (ro_move rfl) ?_
        refine wl (ro_arith rfl rfl rfl (Go.IntWalk.i64_in _ (by omega))) ?_
        refine wl (ro_assign rfl) ?_
        refine wl_nil (x_then ?_)
        exact ⟨rmn x - (j + 1), by omega, j + 1, _, _, rfl, by omega, by omega, by rw [hst, ← Nat.add_assoc]; exact M, kp _ ⟨rfl, rfl, rfl, rfl, trivial⟩⟩
      · try simp only [decide_eq_true_eq, decide_eq_false_iff_not, Bool.not_eq_true', Bool.not_eq_false', Bool.not_eq_eq_eq_not, Bool.not_true, Bool.not_false, beq_iff_eq, bne_iff_ne, ne_eq, beq_eq_false_iff_ne, bne_eq_false_iff_eq, gt_iff_lt, ge_iff_le, Int.not_lt, Int.not_le] at hc129
        rw [if_pos (by omega)] at hst
        refine c_reg ?_ -- region 30 simpm.go:209
        refine wl (ro_move rfl) ?_
        refine wl (ro_move rfl) ?_
        refine wl (ro_move rfl) ?_
        refine wl (ro_build rfl bld_89_0_1_2) ?_
        refine wl_call rfl en_119 (add119' M.y.m (by omega) hz) ?_
        rintro _ w6 ⟨rfl, G6⟩
        obtain ⟨VN6, M6⟩ := M.call G6
        clear M
        have M := M6
        refine wl (ro_assign rfl) ?_
        refine wl_nil (x_blk (x_then (hK73 _ _ ?_)))
        clear hK73 K73
        refine c_reg ?_ -- region 26 simpm.go:204
        refine wl (ro_move rfl) ?_
        refine wl (ro_arith rfl rfl rfl (Go.IntWalk.i64_in _ (by omega))) ?_
        refine wl (ro_assign rfl) ?_
        refine wl_nil (x_then ?_)
        exact ⟨rmn x - (j + 1), by omega, j + 1, _, _, rfl, by omega, by omega, by rw [hst, ← Nat.add_assoc, ← Nat.add_assoc]; exact M, kp _ ⟨rfl, rfl, rfl, rfl, trivial⟩⟩
    · try simp only [decide_eq_true_eq, decide_eq_false_iff_not, Bool.not_eq_true', Bool.not_eq_false', Bool.not_eq_eq_eq_not, Bool.not_true, Bool.not_false, beq_iff_eq, bne_iff_ne, ne_eq, beq_eq_false_iff_ne, bne_eq_false_iff_eq, gt_iff_lt, ge_iff_le, Int.not_lt, Int.not_le] at hc121
      refine c_exit (x_thenX (x_thenX (x_blkX (x_then (hK69 _ _ ?_)))))
      clear hK71 K71 hK69 K69
      refine forget [(0, _), (5, _), (11, _)] ⟨rfl, rfl, rfl, trivial⟩ (fun e => ?_)
      refine c_seq (fun K76 hK76 => ?_)
      have hjm : j = rmn x := by omega
      subst hjm
      have hTM : (M9 < 0 ∧ rmx x = none) ∨ (∃ mm : Nat, M9 = mm ∧ rmx x = some mm ∧ rmn x ≤ mm ∧ mm ≤ 3) := by
        rw [← hM]
        cases hmx : rmx x with
        | none => left; simp [mxI]
        | some mm => right; have := hcn.2 mm hmx; exact ⟨mm, rfl, rfl, this.1, this.2⟩
      have hsY := hsle (rmn x) (Nat.le_refl _)
      have htot : n + sumM Y (rmn x) + tailM Y (rmn x) (rmx x) ≤ n + nds (core r) := by rw [hc]; split <;> omega
      refine c_reg ?_ -- region 31 simpm.go:212
      refine wl (ro_assign rfl) ?_
      refine wl_nil (x_then (hK76 _ _ ?_))
      clear hK76 K76
      refine c_mid (fun a' w' => ∃ (tl : Int) (V : Value), (0 < tailM Y (rmn x) (rmx x) ↔ 0 ≤ tl) ∧ MX w w' rb nb xb (trc nb T.length cap z1 z2 z3 z4) (ndc 6 i (-1) (rmn x) M9 0 (rlz x) 0) (cap * 11) c (n + sumM Y (rmn x) + tailM Y (rmn x) (rmx x)) V VN ∧ ∃ e, a' = Fr 179 (upds e [(0, ptr rb), (11, icv acc), (14, icv tl)]) []) ?_ ?_
      · skip
        refine c_seq (fun K77 hK77 => ?_)
        refine c_reg ?_ -- region 32 simpm.go:213
        refine wl (ro_fieldAddr (k := 4) rfl fo_89_4) ?_
        refine wl (ro_loadB rfl sc_3 (M.hX) ((show _ = some (icv M9) from rfl))) ?_
        refine wl (ro_cmp (r := decide (M9 < 0)) rfl rfl rfl) ?_
        refine wl_nil (x_then (hK77 _ _ ?_))
        clear hK77 K77
        refine wc_cond rfl (fun hc138 => ?_) (fun hc138 => ?_)
        · try simp only [decide_eq_true_eq, decide_eq_false_iff_not, Bool.not_eq_true', Bool.not_eq_false', Bool.not_eq_eq_eq_not, Bool.not_true, Bool.not_false, beq_iff_eq, bne_iff_ne, ne_eq, beq_eq_false_iff_ne, bne_eq_false_iff_eq, gt_iff_lt, ge_iff_le, Int.not_lt, Int.not_le] at hc138
          have hmx : rmx x = none := by
            rcases hTM with h | ⟨mm, h, _⟩
            · exact h.2
            · omega
          have hty : tailM Y (rmn x) (rmx x) = Y + 1 := by rw [hmx]; rfl
          rw [hty] at htot
          refine c_seq (fun K78 hK78 => ?_)
          refine c_reg ?_ -- region 33 simpm.go:214
          refine wl (ro_move rfl) ?_
          refine wl (ro_fieldAddr (k := 1) rfl fo_89_1) ?_
          refine wl (ro_loadB rfl sc_3 (M.hX) (rfl)) ?_
          refine wl_call rfl en_120 (ih i hi M.y.m M.y.hT M.y.s1 M.y.r1 hia hwa hsa (by rw [hYe]; omega)) ?_
          rintro _ w4 ⟨⟨q4, rfl⟩, G4⟩
          rw [hYe] at G4
          obtain ⟨VN4, M4⟩ := M.call G4
          clear M
          have M := M4
          refine wl (ro_assign rfl) ?_
          refine wl_nil (x_then (hK78 _ _ ?_))
          clear hK78 K78
          refine c_reg ?_ -- region 34 simpm.go:215
          refine wl (ro_move rfl) ?_
          refine wl (ro_move rfl) ?_
          refine wl (ro_fieldAddr (k := 6) rfl fo_89_6) ?_
          refine wl (ro_loadB rfl sc_4 (M.hX) ((show _ = some (.bool (rlz x)) from rfl))) ?_
          refine wl (ro_build rfl bld_89_0_1_2_3_4_6) ?_
          refine wl_call rfl en_119 (add119' M.y.m (by omega) hz) ?_
          rintro _ w6 ⟨rfl, G6⟩
          obtain ⟨VN6, M6⟩ := M.call G6
          clear M
          have M := M6
          refine wl (ro_assign rfl) ?_
          refine wl_nil (x_then ?_)
          exact ⟨_, _, by rw [hty]; omega, by rw [hty, ← Nat.add_assoc]; exact M, kp _ ⟨rfl, rfl, rfl, trivial⟩⟩
        · try simp only [decide_eq_true_eq, decide_eq_false_iff_not, Bool.not_eq_true', Bool.not_eq_false', Bool.not_eq_eq_eq_not, Bool.not_true, Bool.not_false, beq_iff_eq, bne_iff_ne, ne_eq, beq_eq_false_iff_ne, bne_eq_false_iff_eq, gt_iff_lt, ge_iff_le, Int.not_lt, Int.not_le] at hc138
          obtain ⟨mm, hMm, hmx, hm1, hm2⟩ : ∃ mm : Nat, M9 = mm ∧ rmx x = some mm ∧ rmn x ≤ mm ∧ mm ≤ 3 := by
            rcases hTM with h | h
            · omega
            · exact h
          refine c_seq (fun K79 hK79 => ?_)
          refine c_reg ?_ -- region 35 simpm.go:216
          refine wl (ro_fieldAddr (k := 4) rfl fo_89_4) ?_
          refine wl (ro_loadB rfl sc_3 (M.hX) ((show _ = some (icv M9) from rfl))) ?_
          refine wl (ro_fieldAddr (k := 3) rfl fo_89_3) ?_
          refine wl (ro_loadB rfl sc_3 (M.hX) (rfl)) ?_
          refine wl (ro_cmp (r := decide ((rmn x : Int) < M9)) rfl rfl rfl) ?_
          refine wl_nil (x_then (hK79 _ _ ?_))
          clear hK79 K79
          refine wc_cond rfl (fun hc153 => ?_) (fun hc153 => ?_)
          · try simp only [decide_eq_true_eq, decide_eq_false_iff_not, Bool.not_eq_true', Bool.not_eq_false', Bool.not_eq_eq_eq_not, Bool.not_true, Bool.not_false, beq_iff_eq, bne_iff_ne, ne_eq, beq_eq_false_iff_ne, bne_eq_false_iff_eq, gt_iff_lt, ge_iff_le, Int.not_lt, Int.not_le] at hc153
            obtain ⟨q9, hq9⟩ : ∃ q, mm - rmn x = q + 1 := ⟨mm - rmn x - 1, by omega⟩
            have hty : tailM Y (rmn x) (rmx x) = nds (optn (core a) (rlz x) (q9 + 1)) := by rw [hmx, ← hYe, tailM_none (lz := rlz x) (by omega), hq9]
            have hop := nds_pos (optn (core a) (rlz x) (q9 + 1))
            rw [hty] at htot
            refine c_reg ?_ -- region 36 simpm.go:217
            refine wl (ro_move rfl) ?_
            refine wl (ro_fieldAddr (k := 1) rfl fo_89_1) ?_
            refine wl (ro_loadB rfl sc_3 (M.hX) (rfl)) ?_
            refine wl (ro_fieldAddr (k := 4) rfl fo_89_4) ?_
            refine wl (ro_loadB rfl sc_3 (M.hX) ((show _ = some (icv M9) from rfl))) ?_
            refine wl (ro_fieldAddr (k := 3) rfl fo_89_3) ?_
            refine wl (ro_loadB rfl sc_3 (M.hX) (rfl)) ?_
            refine wl (ro_arith (r := ((q9 + 1 : Nat) : Int)) rfl rfl (congrArg some (by show M9 - (rmn x : Int) = _; omega)) (Go.IntWalk.i64_in _ (by omega))) ?_
            refine wl (ro_fieldAddr (k := 6) rfl fo_89_6) ?_
            refine wl (ro_loadB rfl sc_4 (M.hX) ((show _ = some (.bool (rlz x)) from rfl))) ?_
            refine wl_call rfl en_135 (option135 hz (ih i hi) hia hwa hsa q9 M.y.m M.y.hT M.y.s1 M.y.r1 (by omega) (by omega)) ?_
            rintro _ w4 ⟨⟨q4, rfl⟩, G4⟩
            obtain ⟨VN4, M4⟩ := M.call G4
            clear M
            have M := M4
            refine wl (ro_assign rfl) ?_
            refine wl_nil (x_then ?_)
            exact ⟨_, _, by rw [hty]; omega, by rw [hty]; exact M, kp _ ⟨rfl, rfl, rfl, trivial⟩⟩
          · try simp only [decide_eq_true_eq, decide_eq_false_iff_not, Bool.not_eq_true', Bool.not_eq_false', Bool.not_eq_eq_eq_not, Bool.not_true, Bool.not_false, beq_iff_eq, bne_iff_ne, ne_eq, beq_eq_false_iff_ne, bne_eq_false_iff_eq, gt_iff_lt, ge_iff_le, Int.not_lt, Int.not_le] at hc153
            have hty : tailM Y (rmn x) (rmx x) = 0 := by rw [hmx]; show (if rmn x < mm then (mm - rmn x) * (Y + 3) - 1 else 0) = 0; rw [if_neg (by omega)]
            refine c_skip (x_then ?_)
            exact ⟨-1, _, by rw [hty]; omega, by rw [hty]; exact M, kp _ ⟨rfl, rfl, rfl, trivial⟩⟩
      clear M
      rintro a' w9 ⟨tl, VY, htl, M, e, rfl⟩
      refine c_seq (fun K80 hK80 => ?_)
      refine c_seq (fun K81 hK81 => ?_)
      have hsp : 0 < rmn x ↔ 0 < sumM Y (rmn x) := by
        constructor
        · intro h; exact sumM_pos hY h
        · intro h
          rcases Nat.eq_zero_or_pos (rmn x) with h0 | h0
          · rw [h0] at h; simp [sumM] at h
          · exact h0
      have htp : rmn x = 0 → 0 < tailM Y (rmn x) (rmx x) := by
        intro h0
        cases hmx : rmx x with
        | none => simp [tailM]
        | some mm =>
          have hm0 : mm ≠ 0 := fun h => hn2 (.inr (by rw [hmx, h]))
          exact tailM_pos hY (by omega)
      clear hTM
      refine c_reg ?_ -- region 37 simpm.go:219
      refine wl (ro_move rfl) ?_
      refine wl (ro_cmp (r := decide (acc < 0)) rfl rfl rfl) ?_
      refine wl_nil (x_then (hK81 _ _ ?_))
      clear hK81 K81
      refine wc_cond rfl (fun hc166 => ?_) (fun hc166 => ?_)
      · try simp only [decide_eq_true_eq, decide_eq_false_iff_not, Bool.not_eq_true', Bool.not_eq_false', Bool.not_eq_eq_eq_not, Bool.not_true, Bool.not_false, beq_iff_eq, bne_iff_ne, ne_eq, beq_eq_false_iff_ne, bne_eq_false_iff_eq, gt_iff_lt, ge_iff_le, Int.not_lt, Int.not_le] at hc166
        refine c_seq (fun K82 hK82 => ?_)
        refine c_reg ?_ -- region 38 simpm.go:220
        refine wl (ro_move rfl) ?_
        refine wl (ro_assign rfl) ?_
        refine wl_nil (x_then (hK82 _ _ ?_))
        clear hK82 K82
        refine c_ret (x_thenR (x_blkR (x_thenR ?_)))
        refine bp_ret Tryz.results120 rfl ?_
        have hac : 0 < rmn x ↔ 0 ≤ acc := hacc
        first
          | (obtain ⟨q7, rfl⟩ : ∃ q : Nat, tl = q := ⟨tl.toNat, by omega⟩
             rw [hc, if_neg (by omega), ← Nat.add_assoc]; exact ⟨⟨_, rfl⟩, M.y.out⟩)
          | (obtain ⟨q7, rfl⟩ : ∃ q : Nat, acc = q := ⟨acc.toNat, by omega⟩
             rw [hc, if_neg (by omega), ← Nat.add_assoc]; exact ⟨⟨_, rfl⟩, M.y.out⟩)
          | (rw [hc, if_pos (by omega), show n + (sumM Y (rmn x) + 1 + tailM Y (rmn x) (rmx x)) = n + sumM Y (rmn x) + tailM Y (rmn x) (rmx x) + 1 by omega]; exact ⟨⟨_, rfl⟩, M.y.out⟩)
      · try simp only [decide_eq_true_eq, decide_eq_false_iff_not, Bool.not_eq_true', Bool.not_eq_false', Bool.not_eq_eq_eq_not, Bool.not_true, Bool.not_false, beq_iff_eq, bne_iff_ne, ne_eq, beq_eq_false_iff_ne, bne_eq_false_iff_eq, gt_iff_lt, ge_iff_le, Int.not_lt, Int.not_le] at hc166
        refine c_skip (x_then (hK80 _ _ ?_))
        clear hK80 K80
        refine c_seq (fun K83 hK83 => ?_)
        refine c_seq (fun K84 hK84 => ?_)
        refine c_reg ?_ -- region 39 simpm.go:222
        refine wl (ro_move rfl) ?_
        refine wl (ro_cmp (r := decide (tl < 0)) rfl rfl rfl) ?_
        refine wl_nil (x_then (hK84 _ _ ?_))
        clear hK84 K84
        refine wc_cond rfl (fun hc169 => ?_) (fun hc169 => ?_)
        · try simp only [decide_eq_true_eq, decide_eq_false_iff_not, Bool.not_eq_true', Bool.not_eq_false', Bool.not_eq_eq_eq_not, Bool.not_true, Bool.not_false, beq_iff_eq, bne_iff_ne, ne_eq, beq_eq_false_iff_ne, bne_eq_false_iff_eq, gt_iff_lt, ge_iff_le, Int.not_lt, Int.not_le] at hc169
          refine c_seq (fun K85 hK85 => ?_)
          refine c_reg ?_ -- region 40 simpm.go:223
          refine wl (ro_move rfl) ?_
          refine wl (ro_assign rfl) ?_
          refine wl_nil (x_then (hK85 _ _ ?_))
          clear hK85 K85
          refine c_ret (x_thenR (x_blkR (x_thenR ?_)))
          refine bp_ret Tryz.results120 rfl ?_
          have hac : 0 < rmn x ↔ 0 ≤ acc := hacc
          first
            | (obtain ⟨q7, rfl⟩ : ∃ q : Nat, tl = q := ⟨tl.toNat, by omega⟩
               rw [hc, if_neg (by omega), ← Nat.add_assoc]; exact ⟨⟨_, rfl⟩, M.y.out⟩)
            | (obtain ⟨q7, rfl⟩ : ∃ q : Nat, acc = q := ⟨acc.toNat, by omega⟩
               rw [hc, if_neg (by omega), ← Nat.add_assoc]; exact ⟨⟨_, rfl⟩, M.y.out⟩)
            | (rw [hc, if_pos (by omega), show n + (sumM Y (rmn x) + 1 + tailM Y (rmn x) (rmx x)) = n + sumM Y (rmn x) + tailM Y (rmn x) (rmx x) + 1 by omega]; exact ⟨⟨_, rfl⟩, M.y.out⟩)
        · try simp only [decide_eq_true_eq, decide_eq_false_iff_not, Bool.not_eq_true', Bool.not_eq_false', Bool.not_eq_eq_eq_not, Bool.not_true, Bool.not_false, beq_iff_eq, bne_iff_ne, ne_eq, beq_eq_false_iff_ne, bne_eq_false_iff_eq, gt_iff_lt, ge_iff_le, Int.not_lt, Int.not_le] at hc169
          refine c_skip (x_then (hK83 _ _ ?_))
          clear hK83 K83
          refine forget [(0, _), (11, _), (14, _)] ⟨rfl, rfl, rfl, trivial⟩ (fun e => ?_)
          refine c_seq (fun K86 hK86 => ?_)
          refine c_reg ?_ -- region 41 simpm.go:225
          refine wl (ro_move rfl) ?_
          refine wl (ro_move rfl) ?_
          refine wl (ro_move rfl) ?_
          refine wl (ro_build rfl bld_89_0_1_2) ?_
          refine wl_call rfl en_119 (add119' M.y.m (by omega) hz) ?_
          rintro _ w6 ⟨rfl, G6⟩
          obtain ⟨VN6, M6⟩ := M.call G6
          clear M
          have M := M6
          refine wl (ro_assign rfl) ?_
          refine wl_nil (x_then (hK86 _ _ ?_))
          clear hK86 K86
          refine c_ret (x_blkR (x_thenR ?_))
          refine bp_ret Tryz.results120 rfl ?_
          have hac : 0 < rmn x ↔ 0 ≤ acc := hacc
          first
            | (obtain ⟨q7, rfl⟩ : ∃ q : Nat, tl = q := ⟨tl.toNat, by omega⟩
               rw [hc, if_neg (by omega), ← Nat.add_assoc]; exact ⟨⟨_, rfl⟩, M.y.out⟩)
            | (obtain ⟨q7, rfl⟩ : ∃ q : Nat, acc = q := ⟨acc.toNat, by omega⟩
               rw [hc, if_neg (by omega), ← Nat.add_assoc]; exact ⟨⟨_, rfl⟩, M.y.out⟩)
            | (rw [hc, if_pos (by omega), show n + (sumM Y (rmn x) + 1 + tailM Y (rmn x) (rmx x)) = n + sumM Y (rmn x) + tailM Y (rmn x) (rmx x) + 1 by omega]; exact ⟨⟨_, rfl⟩, M.y.out⟩)
  · skip
    have hwa : WF a := by rw [hq] at hw; exact hw.1
    have hc : nds (core r) = nds (child a) + 1 := by rw [hq]; rfl
    refine c_reg ?_ -- region 0 simpm.go:176
    refine wl (ro_assign rfl) ?_
    refine wl_nil (x_then (hK1 _ _ ?_))
    clear hK1 K1
    refine forget [(0, _), (1, _)] ⟨rfl, rfl, trivial⟩ (fun e => ?_)
    refine c_seq (fun K87 hK87 => ?_)
    refine c_reg ?_ -- region 1 simpm.go:177
    refine wl (ro_move rfl) ?_
    refine wl (ro_nilCheck rfl) ?_
    refine wl (ro_fieldAddr (k := 0) rfl fo_193_0) ?_
    refine wl (ro_fieldAddr (k := 0) rfl fo_151_0) ?_
    refine wl (ro_loadB rfl sc_98 (hB) (rfl)) ?_
    refine wl (ro_move rfl) ?_
    refine wl (ro_indexAddr (et := 89) (k := 11) rfl rfl se_98 (rfl) (hkl)) ?_
    refine wl (ro_loadAggB rfl ag_89 (hT) (rfl) (hld)) ?_
    refine wl_new (ze_89) (fun xb w15 hbxb hX F15 => ?_)
    have hbsxb := Nat.le_trans hF.size hbxb
    have hnenbxb : nb < xb := Nat.lt_of_lt_of_le hT.lt hbxb
    have hnerbxb : rb < xb := Nat.lt_of_lt_of_le hB.lt hbxb
    replace hF := hF.thenDrew.thenN F15
    replace hT := F15.blkN hT
    replace hB := F15.blkN hB
    refine wl_puta rfl rfl (by simp [Value.oneCell', i64c, u64c, u8c, ptr]) sz_89 (rfl) hX ((by simp)) (rfl) (fun w16 hX F16 => ?_)
    replace hF := hF.thenDrew.thenO F16 (by first | exact .inr (by omega) | exact .inl rfl | exact .inl (by assumption))
    replace hT := F16.blkO hT (by omega)
    replace hB := F16.blkO hB (by omega)
    refine wl_nil (x_then (hK87 _ _ ?_))
    clear hK87 K87
    refine c_seq (fun K88 hK88 => ?_)
    refine c_seq (fun K89 hK89 => ?_)
    have M : MX w _ rb nb xb (trc nb T.length cap z1 z2 z3 z4) _ (cap * 11) c n VN VN := ⟨(MY.start m hT0 s1 r1).framN hF, hX, fun h => by obtain ⟨xs, ho, _⟩ := m.own; have := ho.lt h; omega, by omega⟩
    clear hX hT hF hB
    refine c_reg ?_ -- region 2 simpm.go:178
    refine wl (ro_fieldAddr (k := 0) rfl fo_89_0) ?_
    refine wl (ro_loadB rfl sc_3 (M.hX) (rfl)) ?_
    refine wl_nil (x_then (hK89 _ _ ?_))
    clear hK89 K89
    refine c_block ?_
    refine forget [(0, _), (5, _), (25, _)] ⟨rfl, rfl, rfl, trivial⟩ (fun e => ?_)
    refine c_seq (fun K90 hK90 => ?_)
    refine c_reg ?_ -- region 3 simpm.go:179
    refine wl (ro_cmp rfl rfl rfl) ?_
    refine wl (ro_assign rfl) ?_
    refine wl_nil (x_then (hK90 _ _ ?_))
    clear hK90 K90
    refine wc_condF rfl ?_
    refine c_seq (fun K91 hK91 => ?_)
    refine c_reg ?_ -- region 11 simpm.go:189
    refine wl (ro_cmp rfl rfl rfl) ?_
    refine wl (ro_assign rfl) ?_
    refine wl_nil (x_then (hK91 _ _ ?_))
    clear hK91 K91
    refine wc_condF rfl ?_
    refine c_seq (fun K92 hK92 => ?_)
    refine c_reg ?_ -- region 19 simpm.go:199
    refine wl (ro_cmp rfl rfl rfl) ?_
    refine wl (ro_assign rfl) ?_
    refine wl_nil (x_then (hK92 _ _ ?_))
    clear hK92 K92
    refine wc_condT rfl ?_
    refine c_seq (fun K93 hK93 => ?_)
    refine c_reg ?_ -- region 20 simpm.go:200
    refine wl (ro_move rfl) ?_
    refine wl (ro_fieldAddr (k := 1) rfl fo_89_1) ?_
    refine wl (ro_loadB rfl sc_3 (M.hX) (rfl)) ?_
    refine wl_call rfl en_92 (child92 hz hle hAR (ih i hi) M.y.m M.y.hT M.y.s1 M.y.r1 hia hwa (by omega)) ?_
    rintro _ w4 ⟨⟨q4, rfl⟩, G4⟩
    obtain ⟨VN4, M4⟩ := M.call G4
    clear M
    have M := M4
    refine wl (ro_assign rfl) ?_
    refine wl_nil (x_then (hK93 _ _ ?_))
    clear hK93 K93
    refine forget [(0, _), (5, _), (10, _)] ⟨rfl, rfl, rfl, trivial⟩ (fun e => ?_)
    refine c_seq (fun K94 hK94 => ?_)
    refine c_reg ?_ -- region 21 simpm.go:201
    refine wl (ro_move rfl) ?_
    refine wl (ro_move rfl) ?_
    refine wl (ro_fieldAddr (k := 5) rfl fo_89_5) ?_
    refine wl (ro_loadB rfl sc_3 (M.hX) (rfl)) ?_
    refine wl (ro_build rfl bld_89_0_1_2_5) ?_
    refine wl_call rfl en_119 (add119' M.y.m (by omega) hz) ?_
    rintro _ w6 ⟨rfl, G6⟩
    obtain ⟨VN6, M6⟩ := M.call G6
    clear M
    have M := M6
    refine wl (ro_assign rfl) ?_
    refine wl_nil (x_then (hK94 _ _ ?_))
    clear hK94 K94
    refine c_ret (x_blkR (x_thenR ?_))
    refine bp_ret Tryz.results120 rfl ?_
    rw [hc, ← Nat.add_assoc]; exact ⟨⟨_, rfl⟩, M.y.out⟩

end Go.Proofs.Qxb6500567aGreat
