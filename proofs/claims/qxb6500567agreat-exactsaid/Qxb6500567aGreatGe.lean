import Derived.Test.Qxb6500567aGreatGd
/- The definition of matching: ways. -/
namespace Go.Proofs.Qxb6500567aGreat
set_option linter.unusedVariables false
set_option linter.unusedSimpArgs false

/-- The first q ways have their group written. -/
def gset (g i : Nat) (L : List Way) (q : Nat) : List Way := (L.take q).map (fun x => (x.1, (x.2.set (2 * g) (i : Int)).set (2 * g + 1) (x.1 : Int))) ++ L.drop q

theorem gset_len (g i : Nat) (L : List Way) (q : Nat) : (gset g i L q).length = L.length := by simp [gset]; omega
theorem gset_at {g i : Nat} {L : List Way} {q : Nat} {x : Way} (h : L[q]? = some x) : (gset g i L q)[q]? = some x := by
  have hl := (List.getElem?_eq_some_iff.1 h).1
  unfold gset
  rw [List.getElem?_append_right (by simp; omega)]
  simp only [List.length_map, List.length_take]
  rw [List.getElem?_drop, show q + (q - min q L.length) = q by omega]
  exact h
theorem gset_step {g i : Nat} {L : List Way} {q : Nat} {x : Way} (h : L[q]? = some x) : ((gset g i L q).set q (x.1, x.2.set (2 * g) (i : Int))).set q (x.1, (x.2.set (2 * g) (i : Int)).set (2 * g + 1) (x.1 : Int)) = gset g i L (q + 1) := by
  obtain ⟨hl, hx⟩ := List.getElem?_eq_some_iff.1 h
  rw [List.set_set]
  unfold gset
  rw [List.set_append_right _ _ (by simp; omega)]
  simp only [List.length_map, List.length_take]
  rw [show q - min q L.length = 0 by omega, List.drop_eq_getElem_cons hl, List.set_cons_zero, List.take_add_one, h]
  simp

set_option maxHeartbeats 8000000 in
theorem ways121 {s : List UInt8} {nb cap : Nat} {T : List RE} {c : Nat → Value} {z1 z2 z3 z4 : Value} (hs256 : s.length ≤ 256) (hle : T.length ≤ cap) (hAR : AR T c 0) : ∀ (k : Nat), WaysOK s nb cap T c z1 z2 z3 z4 k := by
  intro k
  induction k using Nat.strongRecOn with
  | ind k ih =>
  intro w r i cc hT hk hw hi hcc
  have hF : Fram none' w w := Fram.refl _ _
  have hN := hAR k r hk
  have hkl := (List.getElem?_eq_some_iff.1 hk).1
  generalize hcs : cel 11 (fun j => c (0 + 11 * k + j)) = cs at hN
  have hld := nd_load (cap := cap) (k := k) (by omega) hcs
  refine ret_of Tryz.func121 rfl Tryz.ntmps121 rfl ?_
  refine c_seq (fun K1 hK1 => ?_)
  rcases hN.kinds with ⟨hq, rfl⟩ | ⟨Z, hq, rfl⟩ | ⟨hq, rfl⟩ | ⟨l, hq, rfl⟩ | ⟨a, b, i1, j1, hq, hi1, hj1, hia, hjb, rfl⟩ | ⟨o, a, b, i1, j1, hq, hi1, hj1, hia, hjb, rfl⟩ | ⟨ff, ps, x, a, i1, hq, hi1, hia, hcn, rfl⟩ | ⟨g, a, i1, hq, hi1, hia, rfl⟩
  · skip
    have hR : dd (all s r i cc) = [(i, cc)] := by rw [hq]; simp [all, dd, ddS]
    refine c_reg ?_ -- region 0 match.go:86
    refine wl_box (cs := (trc nb T.length cap z1 z2 z3 z4)) rfl rfl (fun ab w1 hbab hA F1 => ?_)
    have hbsab := Nat.le_trans hF.size hbab
    have hnenbab : nb < ab := Nat.lt_of_lt_of_le hT.lt hbab
    replace hF := hF.thenDrew.thenN F1
    replace hT := F1.blkN hT
    refine wl_box (cs := (capc cc)) rfl rfl (fun cb w2 hbcb hC F2 => ?_)
    have hbscb := Nat.le_trans hF.size hbcb
    have hnenbcb : nb < cb := Nat.lt_of_lt_of_le hT.lt hbcb
    have hneabcb : ab < cb := Nat.lt_of_lt_of_le hA.lt hbcb
    replace hF := hF.thenDrew.thenN F2
    replace hT := F2.blkN hT
    replace hA := F2.blkN hA
    refine wl (ro_assign rfl) ?_
    refine wl_nil (x_then (hK1 _ _ ?_))
    clear hK1 K1
    refine forget [(1, _), (2, _), (3, _), (5, _), (9, _)] ⟨rfl, rfl, rfl, rfl, rfl, trivial⟩ (fun e => ?_)
    refine c_seq (fun K2 hK2 => ?_)
    refine c_reg ?_ -- region 1 match.go:87
    refine wl (ro_fieldAddr (k := 0) rfl fo_151_0) ?_
    refine wl (ro_loadB rfl sc_98 (hA) (rfl)) ?_
    refine wl (ro_move rfl) ?_
    refine wl (ro_indexAddr (et := 89) (k := 11) rfl rfl se_98 (rfl) (hkl)) ?_
    refine wl (ro_loadAggB rfl ag_89 (hT) (rfl) (hld)) ?_
    refine wl_new (ze_89) (fun xb w3 hbxb hX F3 => ?_)
    have hbsxb := Nat.le_trans hF.size hbxb
    have hnenbxb : nb < xb := Nat.lt_of_lt_of_le hT.lt hbxb
    have hneabxb : ab < xb := Nat.lt_of_lt_of_le hA.lt hbxb
    have hnecbxb : cb < xb := Nat.lt_of_lt_of_le hC.lt hbxb
    replace hF := hF.thenDrew.thenN F3
    replace hT := F3.blkN hT
    replace hA := F3.blkN hA
    replace hC := F3.blkN hC
    refine wl_puta rfl rfl (by simp [Value.oneCell', i64c, u64c, u8c, ptr]) sz_89 (rfl) hX ((by simp)) (rfl) (fun w4 hX F4 => ?_)
    replace hF := hF.thenDrew.thenO F4 (by first | exact .inr (by omega) | exact .inl rfl | exact .inl (by assumption))
    replace hT := F4.blkO hT (by omega)
    replace hA := F4.blkO hA (by omega)
    replace hC := F4.blkO hC (by omega)
    refine wl_nil (x_then (hK2 _ _ ?_))
    clear hK2 K2
    refine c_seq (fun K3 hK3 => ?_)
    refine c_seq (fun K4 hK4 => ?_)
    refine c_reg ?_ -- region 2 match.go:88
    refine wl (ro_fieldAddr (k := 0) rfl fo_89_0) ?_
    refine wl (ro_loadB rfl sc_3 (hX) (rfl)) ?_
    refine wl_nil (x_then (hK4 _ _ ?_))
    clear hK4 K4
    refine c_block ?_
    refine forget [(1, _), (2, _), (3, _), (5, _), (9, _), (11, _), (26, _)] ⟨rfl, rfl, rfl, rfl, rfl, rfl, rfl, trivial⟩ (fun e => ?_)
    refine c_seq (fun K5 hK5 => ?_)
    refine c_reg ?_ -- region 3 match.go:89
    refine wl (ro_cmp rfl rfl rfl) ?_
    refine wl (ro_assign rfl) ?_
    refine wl_nil (x_then (hK5 _ _ ?_))
    clear hK5 K5
    refine wc_condT rfl ?_
    refine c_seq (fun K6 hK6 => ?_)
    refine c_reg ?_ -- region 4 match.go:90
    refine wl (ro_move rfl) ?_
    refine wl (ro_loadAggB rfl ag_55 (hC) (rfl) (rfl)) ?_
    refine wl (ro_build rfl bld_215_0_1) ?_
    refine wl_bs1 (cs := wcl (i, cc)) rfl rfl se_212 zx_215 (wcl_len _) rfl rfl (fun gb w5 hgb1 hgb2 hon5 F5 ↦ ?_)
    have hgbw : w.heap.size ≤ gb := Nat.le_trans hF.size hgb1
    replace hF := hF.transG F5 (by intro k hk h; simp only [one, two, none', rgs] at h ⊢ <;> omega)
    replace hT := F5.blkF hT (by intro h; simp only [one, two, none', rgs] at h <;> omega)
    replace hA := F5.blkF hA (by intro h; simp only [one, two, none', rgs] at h <;> omega)
    replace hC := F5.blkF hC (by intro h; simp only [one, two, none', rgs] at h <;> omega)
    replace hX := F5.blkF hX (by intro h; simp only [one, two, none', rgs] at h <;> omega)
    refine wl (ro_assign rfl) ?_
    refine wl_nil (x_then (hK6 _ _ ?_))
    clear hK6 K6
    refine c_ret (x_blkR (x_thenR ?_))
    refine bp_ret Tryz.results121 rfl ?_
    rw [hR]; exact ⟨(wv_one' hon5).wide hgbw hgb2, hF⟩
  · skip
    have hR : dd (all s r i cc) = match s[i]? with | some b => (if Z.testBit b.toNat then [(i + 1, cc)] else []) | none => [] := by
      rw [hq]
      simp only [all]
      cases s[i]? with
      | none => rfl
      | some b => simp only; split <;> simp [dd, ddS]
    refine c_reg ?_ -- region 0 match.go:86
    refine wl_box (cs := (trc nb T.length cap z1 z2 z3 z4)) rfl rfl (fun ab w5 hbab hA F5 => ?_)
    have hbsab := Nat.le_trans hF.size hbab
    have hnenbab : nb < ab := Nat.lt_of_lt_of_le hT.lt hbab
    replace hF := hF.thenDrew.thenN F5
    replace hT := F5.blkN hT
    refine wl_box (cs := (capc cc)) rfl rfl (fun cb w6 hbcb hC F6 => ?_)
    have hbscb := Nat.le_trans hF.size hbcb
    have hnenbcb : nb < cb := Nat.lt_of_lt_of_le hT.lt hbcb
    have hneabcb : ab < cb := Nat.lt_of_lt_of_le hA.lt hbcb
    replace hF := hF.thenDrew.thenN F6
    replace hT := F6.blkN hT
    replace hA := F6.blkN hA
    refine wl (ro_assign rfl) ?_
    refine wl_nil (x_then (hK1 _ _ ?_))
    clear hK1 K1
    refine forget [(1, _), (2, _), (3, _), (5, _), (9, _)] ⟨rfl, rfl, rfl, rfl, rfl, trivial⟩ (fun e => ?_)
    refine c_seq (fun K7 hK7 => ?_)
    refine c_reg ?_ -- region 1 match.go:87
    refine wl (ro_fieldAddr (k := 0) rfl fo_151_0) ?_
    refine wl (ro_loadB rfl sc_98 (hA) (rfl)) ?_
    refine wl (ro_move rfl) ?_
    refine wl (ro_indexAddr (et := 89) (k := 11) rfl rfl se_98 (rfl) (hkl)) ?_
    refine wl (ro_loadAggB rfl ag_89 (hT) (rfl) (hld)) ?_
    refine wl_new (ze_89) (fun xb w7 hbxb hX F7 => ?_)
    have hbsxb := Nat.le_trans hF.size hbxb
    have hnenbxb : nb < xb := Nat.lt_of_lt_of_le hT.lt hbxb
    have hneabxb : ab < xb := Nat.lt_of_lt_of_le hA.lt hbxb
    have hnecbxb : cb < xb := Nat.lt_of_lt_of_le hC.lt hbxb
    replace hF := hF.thenDrew.thenN F7
    replace hT := F7.blkN hT
    replace hA := F7.blkN hA
    replace hC := F7.blkN hC
    refine wl_puta rfl rfl (by simp [Value.oneCell', i64c, u64c, u8c, ptr]) sz_89 (rfl) hX ((by simp)) (rfl) (fun w8 hX F8 => ?_)
    replace hF := hF.thenDrew.thenO F8 (by first | exact .inr (by omega) | exact .inl rfl | exact .inl (by assumption))
    replace hT := F8.blkO hT (by omega)
    replace hA := F8.blkO hA (by omega)
    replace hC := F8.blkO hC (by omega)
    refine wl_nil (x_then (hK7 _ _ ?_))
    clear hK7 K7
    refine c_seq (fun K8 hK8 => ?_)
    refine c_seq (fun K9 hK9 => ?_)
    refine c_reg ?_ -- region 2 match.go:88
    refine wl (ro_fieldAddr (k := 0) rfl fo_89_0) ?_
    refine wl (ro_loadB rfl sc_3 (hX) (rfl)) ?_
    refine wl_nil (x_then (hK9 _ _ ?_))
    clear hK9 K9
    refine c_block ?_
    refine forget [(1, _), (2, _), (3, _), (5, _), (9, _), (11, _), (26, _)] ⟨rfl, rfl, rfl, rfl, rfl, rfl, rfl, trivial⟩ (fun e => ?_)
    refine c_seq (fun K10 hK10 => ?_)
    refine c_reg ?_ -- region 3 match.go:89
    refine wl (ro_cmp rfl rfl rfl) ?_
    refine wl (ro_assign rfl) ?_
    refine wl_nil (x_then (hK10 _ _ ?_))
    clear hK10 K10
    refine wc_condF rfl ?_
    refine c_seq (fun K11 hK11 => ?_)
    refine c_reg ?_ -- region 5 match.go:91
    refine wl (ro_cmp rfl rfl rfl) ?_
    refine wl (ro_assign rfl) ?_
    refine wl_nil (x_then (hK11 _ _ ?_))
    clear hK11 K11
    refine wc_condT rfl ?_
    refine c_seq (fun K12 hK12 => ?_)
    refine c_reg ?_ -- region 6 match.go:92
    refine wl (ro_move rfl) ?_
    refine wl (ro_move rfl) ?_
    refine wl (ro_lenS rfl st_9) ?_
    refine wl (ro_cmp (r := decide (i < s.length)) rfl rfl (congrArg some (decide_eq_decide.2 (by omega)))) ?_
    refine wl_nil (x_then (hK12 _ _ ?_))
    clear hK12 K12
    refine wc_cond rfl (fun hc38 => ?_) (fun hc38 => ?_)
    · try simp only [decide_eq_true_eq, decide_eq_false_iff_not, Bool.not_eq_true', Bool.not_eq_false', Bool.not_eq_eq_eq_not, Bool.not_true, Bool.not_false, beq_iff_eq, bne_iff_ne, ne_eq, beq_eq_false_iff_ne, bne_eq_false_iff_eq, gt_iff_lt, ge_iff_le, Int.not_lt, Int.not_le] at hc38
      obtain ⟨bb, hbb⟩ : ∃ b, s[i]? = some b := ⟨_, List.getElem?_eq_getElem hc38⟩
      rw [hbb] at hR
      simp only at hR
      refine c_seq (fun K13 hK13 => ?_)
      refine c_piL 5 [(0, false), (1, false), (2, false), (3, false), (4, false)] (SameH _) mixed (by kernel_rfl) rfl (by kernel_rfl) (po_then (po_blk (po_then (po_bp)))) (sameH_now _ _) ?_ -- region 7 match.go:93
      refine ql_ro rfl (fun w hS => ro_fieldAddr (k := 7) rfl fo_89_7) ?_
      refine ql_ro rfl (fun w hS => ro_loadAggB rfl ag_87 (Blk.of_heap hX hS) (rfl) (rfl)) ?_
      refine ql_ro rfl (fun w hS => ro_move rfl) ?_
      refine ql_ro rfl (fun w hS => ro_move rfl) ?_
      refine ql_ro rfl (fun w hS => ro_indexS rfl rfl st_9 rfl (hbb)) ?_
      refine ql_lastC rfl rfl en_88 (Has88 (S := Z)) ?_
      rintro _ w6 ⟨rfl, F6⟩
      replace hF := hF.transG F6 (by intro k hk h; simp only [one, two, none', rgs] at h ⊢ <;> omega)
      replace hT := F6.blkF hT (by intro h; simp only [one, two, none', rgs] at h <;> omega)
      replace hA := F6.blkF hA (by intro h; simp only [one, two, none', rgs] at h <;> omega)
      replace hC := F6.blkF hC (by intro h; simp only [one, two, none', rgs] at h <;> omega)
      replace hX := F6.blkF hX (by intro h; simp only [one, two, none', rgs] at h <;> omega)
      refine x_then (hK13 _ _ ?_)
      clear hK13 K13
      refine wc_cond rfl (fun hc44 => ?_) (fun hc44 => ?_)
      · try simp only [decide_eq_true_eq, decide_eq_false_iff_not, Bool.not_eq_true', Bool.not_eq_false', Bool.not_eq_eq_eq_not, Bool.not_true, Bool.not_false, beq_iff_eq, bne_iff_ne, ne_eq, beq_eq_false_iff_ne, bne_eq_false_iff_eq, gt_iff_lt, ge_iff_le, Int.not_lt, Int.not_le] at hc44
        rw [if_pos hc44] at hR
        refine c_seq (fun K14 hK14 => ?_)
        refine c_reg ?_ -- region 8 match.go:94
        refine wl (ro_move rfl) ?_
        refine wl (ro_arith rfl rfl rfl (Go.IntWalk.i64_in _ (by omega))) ?_
        refine wl (ro_loadAggB rfl ag_55 (hC) (rfl) (rfl)) ?_
        refine wl (ro_build rfl bld_215_0_1) ?_
        refine wl_bs1 (cs := wcl (i + 1, cc)) rfl rfl se_212 zx_215 (wcl_len _) rfl rfl (fun gb w5 hgb1 hgb2 hon5 F5 ↦ ?_)
        have hgbw : w.heap.size ≤ gb := Nat.le_trans hF.size hgb1
        replace hF := hF.transG F5 (by intro k hk h; simp only [one, two, none', rgs] at h ⊢ <;> omega)
        replace hT := F5.blkF hT (by intro h; simp only [one, two, none', rgs] at h <;> omega)
        replace hA := F5.blkF hA (by intro h; simp only [one, two, none', rgs] at h <;> omega)
        replace hC := F5.blkF hC (by intro h; simp only [one, two, none', rgs] at h <;> omega)
        replace hX := F5.blkF hX (by intro h; simp only [one, two, none', rgs] at h <;> omega)
        refine wl (ro_assign rfl) ?_
        refine wl_nil (x_then (hK14 _ _ ?_))
        clear hK14 K14
        refine c_ret (x_blkR (x_thenR ?_))
        refine bp_ret Tryz.results121 rfl ?_
        rw [hR]
        first
          | exact ⟨(wv_one' hon5).wide hgbw hgb2, hF⟩
          | exact ⟨WV.nil _ _ _, hF⟩
      · try simp only [decide_eq_true_eq, decide_eq_false_iff_not, Bool.not_eq_true', Bool.not_eq_false', Bool.not_eq_eq_eq_not, Bool.not_true, Bool.not_false, beq_iff_eq, bne_iff_ne, ne_eq, beq_eq_false_iff_ne, bne_eq_false_iff_eq, gt_iff_lt, ge_iff_le, Int.not_lt, Int.not_le] at hc44
        rw [if_neg (by rw [hc44]; simp)] at hR
        refine c_skip (x_blk (x_then (hK8 _ _ ?_)))
        clear hK8 K8
        refine forget [] trivial (fun e => ?_)
        refine c_seq (fun K15 hK15 => ?_)
        refine c_reg ?_ -- region 38 match.go:127
        refine wl (ro_assign rfl) ?_
        refine wl_nil (x_then (hK15 _ _ ?_))
        clear hK15 K15
        refine c_ret ?_
        refine bp_ret Tryz.results121 rfl ?_
        rw [hR]
        first
          | exact ⟨(wv_one' hon5).wide hgbw hgb2, hF⟩
          | exact ⟨WV.nil _ _ _, hF⟩
    · try simp only [decide_eq_true_eq, decide_eq_false_iff_not, Bool.not_eq_true', Bool.not_eq_false', Bool.not_eq_eq_eq_not, Bool.not_true, Bool.not_false, beq_iff_eq, bne_iff_ne, ne_eq, beq_eq_false_iff_ne, bne_eq_false_iff_eq, gt_iff_lt, ge_iff_le, Int.not_lt, Int.not_le] at hc38
      rw [List.getElem?_eq_none (by omega)] at hR
      refine c_skip (x_blk (x_then (hK8 _ _ ?_)))
      clear hK8 K8
      refine forget [] trivial (fun e => ?_)
      refine c_seq (fun K16 hK16 => ?_)
      refine c_reg ?_ -- region 38 match.go:127
      refine wl (ro_assign rfl) ?_
      refine wl_nil (x_then (hK16 _ _ ?_))
      clear hK16 K16
      refine c_ret ?_
      refine bp_ret Tryz.results121 rfl ?_
      rw [hR]
      first
        | exact ⟨(wv_one' hon5).wide hgbw hgb2, hF⟩
        | exact ⟨WV.nil _ _ _, hF⟩
  · skip
    have hR : dd (all s r i cc) = if i = 0 then [(i, cc)] else [] := by rw [hq]; simp only [all]; split <;> simp [dd, ddS]
    refine c_reg ?_ -- region 0 match.go:86
    refine wl_box (cs := (trc nb T.length cap z1 z2 z3 z4)) rfl rfl (fun ab w9 hbab hA F9 => ?_)
    have hbsab := Nat.le_trans hF.size hbab
    have hnenbab : nb < ab := Nat.lt_of_lt_of_le hT.lt hbab
    replace hF := hF.thenDrew.thenN F9
    replace hT := F9.blkN hT
    refine wl_box (cs := (capc cc)) rfl rfl (fun cb w10 hbcb hC F10 => ?_)
    have hbscb := Nat.le_trans hF.size hbcb
    have hnenbcb : nb < cb := Nat.lt_of_lt_of_le hT.lt hbcb
    have hneabcb : ab < cb := Nat.lt_of_lt_of_le hA.lt hbcb
    replace hF := hF.thenDrew.thenN F10
    replace hT := F10.blkN hT
    replace hA := F10.blkN hA
    refine wl (ro_assign rfl) ?_
    refine wl_nil (x_then (hK1 _ _ ?_))
    clear hK1 K1
    refine forget [(1, _), (2, _), (3, _), (5, _), (9, _)] ⟨rfl, rfl, rfl, rfl, rfl, trivial⟩ (fun e => ?_)
    refine c_seq (fun K17 hK17 => ?_)
    refine c_reg ?_ -- region 1 match.go:87
    refine wl (ro_fieldAddr (k := 0) rfl fo_151_0) ?_
    refine wl (ro_loadB rfl sc_98 (hA) (rfl)) ?_
    refine wl (ro_move rfl) ?_
    refine wl (ro_indexAddr (et := 89) (k := 11) rfl rfl se_98 (rfl) (hkl)) ?_
    refine wl (ro_loadAggB rfl ag_89 (hT) (rfl) (hld)) ?_
    refine wl_new (ze_89) (fun xb w11 hbxb hX F11 => ?_)
    have hbsxb := Nat.le_trans hF.size hbxb
    have hnenbxb : nb < xb := Nat.lt_of_lt_of_le hT.lt hbxb
    have hneabxb : ab < xb := Nat.lt_of_lt_of_le hA.lt hbxb
    have hnecbxb : cb < xb := Nat.lt_of_lt_of_le hC.lt hbxb
    replace hF := hF.thenDrew.thenN F11
    replace hT := F11.blkN hT
    replace hA := F11.blkN hA
    replace hC := F11.blkN hC
    refine wl_puta rfl rfl (by simp [Value.oneCell', i64c, u64c, u8c, ptr]) sz_89 (rfl) hX ((by simp)) (rfl) (fun w12 hX F12 => ?_)
    replace hF := hF.thenDrew.thenO F12 (by first | exact .inr (by omega) | exact .inl rfl | exact .inl (by assumption))
    replace hT := F12.blkO hT (by omega)
    replace hA := F12.blkO hA (by omega)
    replace hC := F12.blkO hC (by omega)
    refine wl_nil (x_then (hK17 _ _ ?_))
    clear hK17 K17
    refine c_seq (fun K18 hK18 => ?_)
    refine c_seq (fun K19 hK19 => ?_)
    refine c_reg ?_ -- region 2 match.go:88
    refine wl (ro_fieldAddr (k := 0) rfl fo_89_0) ?_
    refine wl (ro_loadB rfl sc_3 (hX) (rfl)) ?_
    refine wl_nil (x_then (hK19 _ _ ?_))
    clear hK19 K19
    refine c_block ?_
    refine forget [(1, _), (2, _), (3, _), (5, _), (9, _), (11, _), (26, _)] ⟨rfl, rfl, rfl, rfl, rfl, rfl, rfl, trivial⟩ (fun e => ?_)
    refine c_seq (fun K20 hK20 => ?_)
    refine c_reg ?_ -- region 3 match.go:89
    refine wl (ro_cmp rfl rfl rfl) ?_
    refine wl (ro_assign rfl) ?_
    refine wl_nil (x_then (hK20 _ _ ?_))
    clear hK20 K20
    refine wc_condF rfl ?_
    refine c_seq (fun K21 hK21 => ?_)
    refine c_reg ?_ -- region 5 match.go:91
    refine wl (ro_cmp rfl rfl rfl) ?_
    refine wl (ro_assign rfl) ?_
    refine wl_nil (x_then (hK21 _ _ ?_))
    clear hK21 K21
    refine wc_condF rfl ?_
    refine c_seq (fun K22 hK22 => ?_)
    refine c_reg ?_ -- region 9 match.go:97
    refine wl (ro_cmp rfl rfl rfl) ?_
    refine wl (ro_assign rfl) ?_
    refine wl_nil (x_then (hK22 _ _ ?_))
    clear hK22 K22
    refine wc_condT rfl ?_
    refine c_seq (fun K23 hK23 => ?_)
    refine c_reg ?_ -- region 10 match.go:98
    refine wl (ro_move rfl) ?_
    refine wl (ro_cmp (r := decide (i = 0)) rfl rfl (congrArg some (beqc i 0))) ?_
    refine wl_nil (x_then (hK23 _ _ ?_))
    clear hK23 K23
    refine wc_cond rfl (fun hc53 => ?_) (fun hc53 => ?_)
    · try simp only [decide_eq_true_eq, decide_eq_false_iff_not, Bool.not_eq_true', Bool.not_eq_false', Bool.not_eq_eq_eq_not, Bool.not_true, Bool.not_false, beq_iff_eq, bne_iff_ne, ne_eq, beq_eq_false_iff_ne, bne_eq_false_iff_eq, gt_iff_lt, ge_iff_le, Int.not_lt, Int.not_le] at hc53
      rw [if_pos hc53] at hR
      refine c_seq (fun K24 hK24 => ?_)
      refine c_reg ?_ -- region 11 match.go:99
      refine wl (ro_move rfl) ?_
      refine wl (ro_loadAggB rfl ag_55 (hC) (rfl) (rfl)) ?_
      refine wl (ro_build rfl bld_215_0_1) ?_
      refine wl_bs1 (cs := wcl (i, cc)) rfl rfl se_212 zx_215 (wcl_len _) rfl rfl (fun gb w5 hgb1 hgb2 hon5 F5 ↦ ?_)
      have hgbw : w.heap.size ≤ gb := Nat.le_trans hF.size hgb1
      replace hF := hF.transG F5 (by intro k hk h; simp only [one, two, none', rgs] at h ⊢ <;> omega)
      replace hT := F5.blkF hT (by intro h; simp only [one, two, none', rgs] at h <;> omega)
      replace hA := F5.blkF hA (by intro h; simp only [one, two, none', rgs] at h <;> omega)
      replace hC := F5.blkF hC (by intro h; simp only [one, two, none', rgs] at h <;> omega)
      replace hX := F5.blkF hX (by intro h; simp only [one, two, none', rgs] at h <;> omega)
      refine wl (ro_assign rfl) ?_
      refine wl_nil (x_then (hK24 _ _ ?_))
      clear hK24 K24
      refine c_ret (x_blkR (x_thenR ?_))
      refine bp_ret Tryz.results121 rfl ?_
      rw [hR]
      first
        | exact ⟨(wv_one' hon5).wide hgbw hgb2, hF⟩
        | exact ⟨WV.nil _ _ _, hF⟩
    · try simp only [decide_eq_true_eq, decide_eq_false_iff_not, Bool.not_eq_true', Bool.not_eq_false', Bool.not_eq_eq_eq_not, Bool.not_true, Bool.not_false, beq_iff_eq, bne_iff_ne, ne_eq, beq_eq_false_iff_ne, bne_eq_false_iff_eq, gt_iff_lt, ge_iff_le, Int.not_lt, Int.not_le] at hc53
      rw [if_neg hc53] at hR
      refine c_skip (x_blk (x_then (hK18 _ _ ?_)))
      clear hK18 K18
      refine forget [] trivial (fun e => ?_)
      refine c_seq (fun K25 hK25 => ?_)
      refine c_reg ?_ -- region 38 match.go:127
      refine wl (ro_assign rfl) ?_
      refine wl_nil (x_then (hK25 _ _ ?_))
      clear hK25 K25
      refine c_ret ?_
      refine bp_ret Tryz.results121 rfl ?_
      rw [hR]
      first
        | exact ⟨(wv_one' hon5).wide hgbw hgb2, hF⟩
        | exact ⟨WV.nil _ _ _, hF⟩
  · skip
    have hR : dd (all s r i cc) = if i = s.length then [(i, cc)] else [] := by rw [hq]; simp only [all]; split <;> simp [dd, ddS]
    refine c_reg ?_ -- region 0 match.go:86
    refine wl_box (cs := (trc nb T.length cap z1 z2 z3 z4)) rfl rfl (fun ab w13 hbab hA F13 => ?_)
    have hbsab := Nat.le_trans hF.size hbab
    have hnenbab : nb < ab := Nat.lt_of_lt_of_le hT.lt hbab
    replace hF := hF.thenDrew.thenN F13
    replace hT := F13.blkN hT
    refine wl_box (cs := (capc cc)) rfl rfl (fun cb w14 hbcb hC F14 => ?_)
    have hbscb := Nat.le_trans hF.size hbcb
    have hnenbcb : nb < cb := Nat.lt_of_lt_of_le hT.lt hbcb
    have hneabcb : ab < cb := Nat.lt_of_lt_of_le hA.lt hbcb
    replace hF := hF.thenDrew.thenN F14
    replace hT := F14.blkN hT
    replace hA := F14.blkN hA
    refine wl (ro_assign rfl) ?_
    refine wl_nil (x_then (hK1 _ _ ?_))
    clear hK1 K1
    refine forget [(1, _), (2, _), (3, _), (5, _), (9, _)] ⟨rfl, rfl, rfl, rfl, rfl, trivial⟩ (fun e => ?_)
    refine c_seq (fun K26 hK26 => ?_)
    refine c_reg ?_ -- region 1 match.go:87
    refine wl (ro_fieldAddr (k := 0) rfl fo_151_0) ?_
    refine wl (ro_loadB rfl sc_98 (hA) (rfl)) ?_
    refine wl (ro_move rfl) ?_
    refine wl (ro_indexAddr (et := 89) (k := 11) rfl rfl se_98 (rfl) (hkl)) ?_
    refine wl (ro_loadAggB rfl ag_89 (hT) (rfl) (hld)) ?_
    refine wl_new (ze_89) (fun xb w15 hbxb hX F15 => ?_)
    have hbsxb := Nat.le_trans hF.size hbxb
    have hnenbxb : nb < xb := Nat.lt_of_lt_of_le hT.lt hbxb
    have hneabxb : ab < xb := Nat.lt_of_lt_of_le hA.lt hbxb
    have hnecbxb : cb < xb := Nat.lt_of_lt_of_le hC.lt hbxb
    replace hF := hF.thenDrew.thenN F15
    replace hT := F15.blkN hT
    replace hA := F15.blkN hA
    replace hC := F15.blkN hC
    refine wl_puta rfl rfl (by simp [Value.oneCell', i64c, u64c, u8c, ptr]) sz_89 (rfl) hX ((by simp)) (rfl) (fun w16 hX F16 => ?_)
    replace hF := hF.thenDrew.thenO F16 (by first | exact .inr (by omega) | exact .inl rfl | exact .inl (by assumption))
    replace hT := F16.blkO hT (by omega)
    replace hA := F16.blkO hA (by omega)
    replace hC := F16.blkO hC (by omega)
    refine wl_nil (x_then (hK26 _ _ ?_))
    clear hK26 K26
    refine c_seq (fun K27 hK27 => ?_)
    refine c_seq (fun K28 hK28 => ?_)
    refine c_reg ?_ -- region 2 match.go:88
    refine wl (ro_fieldAddr (k := 0) rfl fo_89_0) ?_
    refine wl (ro_loadB rfl sc_3 (hX) (rfl)) ?_
    refine wl_nil (x_then (hK28 _ _ ?_))
    clear hK28 K28
    refine c_block ?_
    refine forget [(1, _), (2, _), (3, _), (5, _), (9, _), (11, _), (26, _)] ⟨rfl, rfl, rfl, rfl, rfl, rfl, rfl, trivial⟩ (fun e => ?_)
    refine c_seq (fun K29 hK29 => ?_)
    refine c_reg ?_ -- region 3 match.go:89
    refine wl (ro_cmp rfl rfl rfl) ?_
    refine wl (ro_assign rfl) ?_
    refine wl_nil (x_then (hK29 _ _ ?_))
    clear hK29 K29
    refine wc_condF rfl ?_
    refine c_seq (fun K30 hK30 => ?_)
    refine c_reg ?_ -- region 5 match.go:91
    refine wl (ro_cmp rfl rfl rfl) ?_
    refine wl (ro_assign rfl) ?_
    refine wl_nil (x_then (hK30 _ _ ?_))
    clear hK30 K30
    refine wc_condF rfl ?_
    refine c_seq (fun K31 hK31 => ?_)
    refine c_reg ?_ -- region 9 match.go:97
    refine wl (ro_cmp rfl rfl rfl) ?_
    refine wl (ro_assign rfl) ?_
    refine wl_nil (x_then (hK31 _ _ ?_))
    clear hK31 K31
    refine wc_condF rfl ?_
    refine c_seq (fun K32 hK32 => ?_)
    refine c_reg ?_ -- region 12 match.go:101
    refine wl (ro_cmp rfl rfl rfl) ?_
    refine wl (ro_assign rfl) ?_
    refine wl_nil (x_then (hK32 _ _ ?_))
    clear hK32 K32
    refine wc_condT rfl ?_
    refine c_seq (fun K33 hK33 => ?_)
    refine c_reg ?_ -- region 13 match.go:102
    refine wl (ro_move rfl) ?_
    refine wl (ro_move rfl) ?_
    refine wl (ro_lenS rfl st_9) ?_
    refine wl (ro_cmp (r := decide (i = s.length)) rfl rfl (congrArg some (beqc i s.length))) ?_
    refine wl_nil (x_then (hK33 _ _ ?_))
    clear hK33 K33
    refine wc_cond rfl (fun hc63 => ?_) (fun hc63 => ?_)
    · try simp only [decide_eq_true_eq, decide_eq_false_iff_not, Bool.not_eq_true', Bool.not_eq_false', Bool.not_eq_eq_eq_not, Bool.not_true, Bool.not_false, beq_iff_eq, bne_iff_ne, ne_eq, beq_eq_false_iff_ne, bne_eq_false_iff_eq, gt_iff_lt, ge_iff_le, Int.not_lt, Int.not_le] at hc63
      rw [if_pos hc63] at hR
      refine c_seq (fun K34 hK34 => ?_)
      refine c_reg ?_ -- region 14 match.go:103
      refine wl (ro_move rfl) ?_
      refine wl (ro_loadAggB rfl ag_55 (hC) (rfl) (rfl)) ?_
      refine wl (ro_build rfl bld_215_0_1) ?_
      refine wl_bs1 (cs := wcl (i, cc)) rfl rfl se_212 zx_215 (wcl_len _) rfl rfl (fun gb w5 hgb1 hgb2 hon5 F5 ↦ ?_)
      have hgbw : w.heap.size ≤ gb := Nat.le_trans hF.size hgb1
      replace hF := hF.transG F5 (by intro k hk h; simp only [one, two, none', rgs] at h ⊢ <;> omega)
      replace hT := F5.blkF hT (by intro h; simp only [one, two, none', rgs] at h <;> omega)
      replace hA := F5.blkF hA (by intro h; simp only [one, two, none', rgs] at h <;> omega)
      replace hC := F5.blkF hC (by intro h; simp only [one, two, none', rgs] at h <;> omega)
      replace hX := F5.blkF hX (by intro h; simp only [one, two, none', rgs] at h <;> omega)
      refine wl (ro_assign rfl) ?_
      refine wl_nil (x_then (hK34 _ _ ?_))
      clear hK34 K34
      refine c_ret (x_blkR (x_thenR ?_))
      refine bp_ret Tryz.results121 rfl ?_
      rw [hR]
      first
        | exact ⟨(wv_one' hon5).wide hgbw hgb2, hF⟩
        | exact ⟨WV.nil _ _ _, hF⟩
    · try simp only [decide_eq_true_eq, decide_eq_false_iff_not, Bool.not_eq_true', Bool.not_eq_false', Bool.not_eq_eq_eq_not, Bool.not_true, Bool.not_false, beq_iff_eq, bne_iff_ne, ne_eq, beq_eq_false_iff_ne, bne_eq_false_iff_eq, gt_iff_lt, ge_iff_le, Int.not_lt, Int.not_le] at hc63
      rw [if_neg hc63] at hR
      refine c_skip (x_blk (x_then (hK27 _ _ ?_)))
      clear hK27 K27
      refine forget [] trivial (fun e => ?_)
      refine c_seq (fun K35 hK35 => ?_)
      refine c_reg ?_ -- region 38 match.go:127
      refine wl (ro_assign rfl) ?_
      refine wl_nil (x_then (hK35 _ _ ?_))
      clear hK35 K35
      refine c_ret ?_
      refine bp_ret Tryz.results121 rfl ?_
      rw [hR]
      first
        | exact ⟨(wv_one' hon5).wide hgbw hgb2, hF⟩
        | exact ⟨WV.nil _ _ _, hF⟩
  · skip
    have hwa : WF a := by rw [hq] at hw; exact hw.1
    have hwb : WF b := by rw [hq] at hw; exact hw.2
    have hR := dd_seq (s := s) a b i cc
    rw [← hq] at hR
    generalize hLA : dd (all s a i cc) = LA at hR
    have hLAm : ∀ y ∈ LA, y ∈ all s a i cc := fun y hy => dd_mem (by rw [hLA]; exact hy)
    have hLAb : ∀ y ∈ LA, i ≤ y.1 ∧ y.1 ≤ s.length := fun y hy => all_bnd a i cc hi y (hLAm y hy)
    have hLAc : ∀ y ∈ LA, CapsOK s.length y.2 := fun y hy => all_caps a i cc hwa hi hcc y (hLAm y hy)
    have hLAl : LA.length ≤ s.length + 1 := by rw [← hLA]; exact dd_le (fun y hy => (all_bnd a i cc hi y hy).2)
    have htb : ∀ (y : Way), y.1 ≤ s.length → ∀ u ∈ dd (all s b y.1 y.2), u.1 ≤ s.length := fun y hy u hu => (all_bnd b y.1 y.2 hy u (dd_mem hu)).2
    have htl : ∀ (y : Way), y.1 ≤ s.length → (dd (all s b y.1 y.2)).length ≤ s.length + 1 := fun y hy => dd_le (fun u hu => (all_bnd b y.1 y.2 hy u hu).2)
    have hfl : ∀ k, k ≤ LA.length → (∀ u ∈ (LA.take k).foldl (fun o x => jn o (dd (all s b x.1 x.2))) [], u.1 ≤ s.length) ∧ ((LA.take k).foldl (fun o x => jn o (dd (all s b x.1 x.2))) []).length ≤ s.length + 1 := by
      intro k hk
      have := fold_dd (f := fun x => all s b x.1 x.2) (LA.take k) []
      rw [List.nil_append] at this
      have hb : ∀ u ∈ (LA.take k).flatMap (fun x => all s b x.1 x.2), u.1 ≤ s.length := by
        intro u hu
        obtain ⟨y, hy, hu⟩ := List.mem_flatMap.1 hu
        exact (all_bnd b y.1 y.2 (hLAb y (List.mem_of_mem_take hy)).2 u hu).2
      have e0 : dd ([] : List Way) = [] := rfl
      rw [e0] at this
      rw [this]
      exact ⟨fun u hu => hb u (dd_mem hu), dd_le hb⟩
    refine c_reg ?_ -- region 0 match.go:86
    refine wl_box (cs := (trc nb T.length cap z1 z2 z3 z4)) rfl rfl (fun ab w17 hbab hA F17 => ?_)
    have hbsab := Nat.le_trans hF.size hbab
    have hnenbab : nb < ab := Nat.lt_of_lt_of_le hT.lt hbab
    replace hF := hF.thenDrew.thenN F17
    replace hT := F17.blkN hT
    refine wl_box (cs := (capc cc)) rfl rfl (fun cb w18 hbcb hC F18 => ?_)
    have hbscb := Nat.le_trans hF.size hbcb
    have hnenbcb : nb < cb := Nat.lt_of_lt_of_le hT.lt hbcb
    have hneabcb : ab < cb := Nat.lt_of_lt_of_le hA.lt hbcb
    replace hF := hF.thenDrew.thenN F18
    replace hT := F18.blkN hT
    replace hA := F18.blkN hA
    refine wl (ro_assign rfl) ?_
    refine wl_nil (x_then (hK1 _ _ ?_))
    clear hK1 K1
    refine forget [(1, _), (2, _), (3, _), (5, _), (9, _)] ⟨rfl, rfl, rfl, rfl, rfl, trivial⟩ (fun e => ?_)
    refine c_seq (fun K36 hK36 => ?_)
    refine c_reg ?_ -- region 1 match.go:87
    refine wl (ro_fieldAddr (k := 0) rfl fo_151_0) ?_
    refine wl (ro_loadB rfl sc_98 (hA) (rfl)) ?_
    refine wl (ro_move rfl) ?_
    refine wl (ro_indexAddr (et := 89) (k := 11) rfl rfl se_98 (rfl) (hkl)) ?_
    refine wl (ro_loadAggB rfl ag_89 (hT) (rfl) (hld)) ?_
    refine wl_new (ze_89) (fun xb w19 hbxb hX F19 => ?_)
    have hbsxb := Nat.le_trans hF.size hbxb
    have hnenbxb : nb < xb := Nat.lt_of_lt_of_le hT.lt hbxb
    have hneabxb : ab < xb := Nat.lt_of_lt_of_le hA.lt hbxb
    have hnecbxb : cb < xb := Nat.lt_of_lt_of_le hC.lt hbxb
    replace hF := hF.thenDrew.thenN F19
    replace hT := F19.blkN hT
    replace hA := F19.blkN hA
    replace hC := F19.blkN hC
    refine wl_puta rfl rfl (by simp [Value.oneCell', i64c, u64c, u8c, ptr]) sz_89 (rfl) hX ((by simp)) (rfl) (fun w20 hX F20 => ?_)
    replace hF := hF.thenDrew.thenO F20 (by first | exact .inr (by omega) | exact .inl rfl | exact .inl (by assumption))
    replace hT := F20.blkO hT (by omega)
    replace hA := F20.blkO hA (by omega)
    replace hC := F20.blkO hC (by omega)
    refine wl_nil (x_then (hK36 _ _ ?_))
    clear hK36 K36
    refine c_seq (fun K37 hK37 => ?_)
    refine c_seq (fun K38 hK38 => ?_)
    refine c_reg ?_ -- region 2 match.go:88
    refine wl (ro_fieldAddr (k := 0) rfl fo_89_0) ?_
    refine wl (ro_loadB rfl sc_3 (hX) (rfl)) ?_
    refine wl_nil (x_then (hK38 _ _ ?_))
    clear hK38 K38
    refine c_block ?_
    refine forget [(1, _), (2, _), (3, _), (5, _), (9, _), (11, _), (26, _)] ⟨rfl, rfl, rfl, rfl, rfl, rfl, rfl, trivial⟩ (fun e => ?_)
    refine c_seq (fun K39 hK39 => ?_)
    refine c_reg ?_ -- region 3 match.go:89
    refine wl (ro_cmp rfl rfl rfl) ?_
    refine wl (ro_assign rfl) ?_
    refine wl_nil (x_then (hK39 _ _ ?_))
    clear hK39 K39
    refine wc_condF rfl ?_
    refine c_seq (fun K40 hK40 => ?_)
    refine c_reg ?_ -- region 5 match.go:91
    refine wl (ro_cmp rfl rfl rfl) ?_
    refine wl (ro_assign rfl) ?_
    refine wl_nil (x_then (hK40 _ _ ?_))
    clear hK40 K40
    refine wc_condF rfl ?_
    refine c_seq (fun K41 hK41 => ?_)
    refine c_reg ?_ -- region 9 match.go:97
    refine wl (ro_cmp rfl rfl rfl) ?_
    refine wl (ro_assign rfl) ?_
    refine wl_nil (x_then (hK41 _ _ ?_))
    clear hK41 K41
    refine wc_condF rfl ?_
    refine c_seq (fun K42 hK42 => ?_)
    refine c_reg ?_ -- region 12 match.go:101
    refine wl (ro_cmp rfl rfl rfl) ?_
    refine wl (ro_assign rfl) ?_
    refine wl_nil (x_then (hK42 _ _ ?_))
    clear hK42 K42
    refine wc_condF rfl ?_
    refine c_seq (fun K43 hK43 => ?_)
    refine c_reg ?_ -- region 15 match.go:105
    refine wl (ro_cmp rfl rfl rfl) ?_
    refine wl (ro_assign rfl) ?_
    refine wl_nil (x_then (hK43 _ _ ?_))
    clear hK43 K43
    refine wc_condT rfl ?_
    refine c_seq (fun K44 hK44 => ?_)
    refine c_reg ?_ -- region 16 match.go:106
    refine wl (ro_assign rfl) ?_
    refine wl_nil (x_then (hK44 _ _ ?_))
    clear hK44 K44
    refine forget [(1, _), (3, _), (5, _), (9, _), (11, _), (12, _)] ⟨rfl, rfl, rfl, rfl, rfl, rfl, trivial⟩ (fun e => ?_)
    refine c_seq (fun K45 hK45 => ?_)
    refine c_reg ?_ -- region 17 match.go:107
    refine wl (ro_loadAggB rfl ag_151 (hA) (rfl) (rfl)) ?_
    refine wl (ro_move rfl) ?_
    refine wl (ro_fieldAddr (k := 1) rfl fo_89_1) ?_
    refine wl (ro_loadB rfl sc_3 (hX) (rfl)) ?_
    refine wl (ro_move rfl) ?_
    refine wl (ro_loadAggB rfl ag_55 (hC) (rfl) (rfl)) ?_
    refine wl_call rfl en_121 (ih i1 hi1 hT hia hwa hi hcc) ?_
    rintro VA w6 ⟨hVA, F6⟩
    rw [hLA] at hVA
    have hs56 := F6.size
    have hsw6 := hF.size
    replace hF := hF.transG F6 (by intro k hk h; simp only [one, two, none', rgs] at h ⊢ <;> omega)
    replace hT := F6.blkF hT (by intro h; simp only [one, two, none', rgs] at h <;> omega)
    replace hA := F6.blkF hA (by intro h; simp only [one, two, none', rgs] at h <;> omega)
    replace hC := F6.blkF hC (by intro h; simp only [one, two, none', rgs] at h <;> omega)
    replace hX := F6.blkF hX (by intro h; simp only [one, two, none', rgs] at h <;> omega)
    obtain ⟨aA, cA, rfl⟩ := hVA.own.form
    replace hVA := hVA.wide hsw6 (Nat.le_refl _)
    refine wl (ro_assign rfl) ?_
    refine wl_nil (x_then (hK45 _ _ ?_))
    clear hK45 K45
    refine c_seq (fun K46 hK46 => ?_)
    refine c_seq (fun K47 hK47 => ?_)
    refine c_reg ?_ -- region 18 match.go:108
    refine wl (ro_assign rfl) ?_
    refine wl_nil (x_then (hK47 _ _ ?_))
    clear hK47 K47
    refine c_block ?_
    -- loop@r19: live slots [1, 5, 11, 12, 13, 14]
    have la := hA.lt
    have lx := hX.lt
    have ln := hT.lt
    have hsw := hF.size
    refine c_loopG (fun m a' w' => ∃ (q : Nat) (VM : Value), m = LA.length - q ∧ q ≤ LA.length ∧ w6.heap.size ≤ w'.heap.size ∧ WV w' VM ((LA.take q).foldl (fun o x => jn o (dd (all s b x.1 x.2))) []) w6.heap.size w'.heap.size ∧ WV w' (.slice aA LA.length cA) LA w.heap.size w6.heap.size ∧ Blk w'.heap ab (trc nb T.length cap z1 z2 z3 z4) 151 ∧ Blk w'.heap xb (ndc 4 i1 j1 0 0 0 false 0) 89 ∧ FB w'.heap nb (cap * 11) c 89 ∧ Fram none' w w' ∧ ∃ e, a' = Fr 172 (upds e [(1, S s), (5, ptr ab), (11, ptr xb), (12, VM), (13, .slice aA LA.length cA), (14, i64c q)]) []) LA.length ⟨0, .slice none 0 0, rfl, by omega, Nat.le_refl _, WV.nil _ _ _, hVA, hA, hX, hT, hF, kp _ ⟨rfl, rfl, rfl, rfl, rfl, rfl, trivial⟩⟩ ?_
    clear hVA hA hX hT hF hC
    rintro m a' w1 ⟨q, VM, rfl, hql, hw61, hVM, hVA, hA, hX, hT, hF, e, rfl⟩
    obtain ⟨hfb, hfn⟩ := hfl q hql
    refine c_seq (fun K48 hK48 => ?_)
    refine c_seq (fun K49 hK49 => ?_)
    refine c_reg ?_ -- region 19 match.go:108
    refine wl (ro_move rfl) ?_
    refine wl (ro_move rfl) ?_
    refine wl (ro_lenL rfl se_212) ?_
    refine wl (ro_cmp (r := decide (q < LA.length)) rfl rfl (congrArg some (decide_eq_decide.2 (by omega)))) ?_
    refine wl_nil (x_then (hK49 _ _ ?_))
    clear hK49 K49
    refine wc_cond rfl (fun hc80 => ?_) (fun hc80 => ?_)
    · try simp only [decide_eq_true_eq, decide_eq_false_iff_not, Bool.not_eq_true', Bool.not_eq_false', Bool.not_eq_eq_eq_not, Bool.not_true, Bool.not_false, beq_iff_eq, bne_iff_ne, ne_eq, beq_eq_false_iff_ne, bne_eq_false_iff_eq, gt_iff_lt, ge_iff_le, Int.not_lt, Int.not_le] at hc80
      obtain ⟨y, hy⟩ : ∃ y, LA[q]? = some y := ⟨_, List.getElem?_eq_getElem hc80⟩
      have hyb := hLAb y (List.mem_of_getElem? hy)
      have hyc := hLAc y (List.mem_of_getElem? hy)
      obtain ⟨g, gcap, l, hV, hGB, hgc, hgl, hg1, hg2, hga⟩ := hVA.at hy
      cases hV
      have hcell : l[0 + q * 9 + 0]? = some (i64c y.1) := way_cell (hga q y hy) rfl
      have hcaps : (l.drop (0 + q * 9 + 1)).take 8 = capc y.2 := by
        have := congrArg (List.drop 1) (hga q y hy)
        rw [List.drop_take, List.drop_drop] at this
        exact this
      have hstep := foldl_take (fun o x => jn o (dd (all s b x.1 x.2))) LA q y [] hy
      refine c_skip (x_then (hK48 _ _ ?_))
      clear hK48 K48
      refine forget [(1, _), (5, _), (11, _), (12, _), (13, _), (14, _)] ⟨rfl, rfl, rfl, rfl, rfl, rfl, trivial⟩ (fun e => ?_)
      refine c_seq (fun K50 hK50 => ?_)
      refine c_block ?_
      refine c_seq (fun K51 hK51 => ?_)
      refine c_pi [(0, false), (1, false), (2, false), (3, false), (4, false), (5, false), (6, false), (7, false), (8, false), (9, false), (10, false), (11, false), (12, false), (13, false), (14, true), (15, false)] (Fram none' w1) mixed (by kernel_rfl) rfl (by kernel_rfl) (po_then (po_blk (po_then (po_then (po_blk (po_then (po_blk (po_then (po_bp))))))))) (Fram.drew none' _ _) ?_ -- region 21 match.go:109
      refine pi_ro rfl (fun w hS => ro_loadAggB rfl ag_151 (hS.blkN hA) (rfl) (rfl)) ?_
      refine pi_ro rfl (fun w hS => ro_move rfl) ?_
      refine pi_ro rfl (fun w hS => ro_fieldAddr (k := 2) rfl fo_89_2) ?_
      refine pi_ro rfl (fun w hS => ro_loadB rfl sc_3 (hS.blkN hX) (rfl)) ?_
      refine pi_ro rfl (fun w hS => ro_move rfl) ?_
      refine pi_ro rfl (fun w hS => ro_move rfl) ?_
      refine pi_ro rfl (fun w hS => ro_indexAddr (et := 215) (k := 9) rfl rfl se_212 (rfl) (hc80)) ?_
      refine pi_ro rfl (fun w hS => ro_fieldAddr (k := 0) rfl fo_215_0) ?_
      refine pi_ro rfl (fun w hS => ro_loadB rfl sc_3 (hS.blkN hGB) (hcell)) ?_
      refine pi_ro rfl (fun w hS => ro_move rfl) ?_
      refine pi_ro rfl (fun w hS => ro_move rfl) ?_
      refine pi_ro rfl (fun w hS => ro_indexAddr (et := 215) (k := 9) rfl rfl se_212 (rfl) (hc80)) ?_
      refine pi_ro rfl (fun w hS => ro_fieldAddr (k := 1) rfl fo_215_1) ?_
      refine pi_ro rfl (fun w hS => ro_loadAggB rfl ag_55 (hS.blkN hGB) (rfl) (hcaps)) ?_
      refine pi_call rfl rfl en_121 (ih j1 hj1 hT hjb hwb hyb.2 hyc) ?_
      rintro VB w7 ⟨hVB, F7⟩
      have hs17 : w1.heap.size ≤ w7.heap.size := F7.size
      replace hF := hF.transG F7 (by intro k hk h; simp only [one, two, none', rgs] at h ⊢ <;> omega)
      replace hT := F7.blkF hT (by intro h; simp only [one, two, none', rgs] at h <;> omega)
      replace hA := F7.blkF hA (by intro h; simp only [one, two, none', rgs] at h <;> omega)
      replace hX := F7.blkF hX (by intro h; simp only [one, two, none', rgs] at h <;> omega)
      replace hVA := hVA.framS F7 (by intro b h1 h2 h; simp only [one, two, none', rgs] at h <;> omega)
      replace hVM := hVM.framS F7 (by intro b h1 h2 h; simp only [one, two, none', rgs] at h <;> omega)
      replace hVB : WV w7 VB _ w1.heap.size w7.heap.size := hVB
      refine ⟨(Fram.drew none' _ _).trans F7, ?_⟩
      refine pi_ro rfl (fun w hS => ro_assign rfl) ?_
      refine pi_nil (x_then (hK51 _ _ ?_))
      clear hK51 K51
      refine c_reg ?_ -- region 22 match.go:110
      refine wl (ro_move rfl) ?_
      refine wl (ro_move rfl) ?_
      refine wl (ro_move rfl) ?_
      refine wl (ro_lenS rfl st_9) ?_
      refine wl_call rfl en_136 (join136 hVM hVB (.inl (Nat.le_refl _)) hs17 (Nat.le_refl _) (Nat.le_trans hw61 hs17) hs256 hfb (htb y hyb.2) (by omega) (by have := htl y hyb.2; omega)) ?_
      rintro VM2 w8 ⟨hVM2, F8⟩
      have hs78 := F8.size
      replace hF := hF.transG F8 (by intro k hk h; simp only [one, two, none', rgs] at h ⊢ <;> omega)
      replace hT := F8.blkF hT (by intro h; simp only [one, two, none', rgs] at h <;> omega)
      replace hA := F8.blkF hA (by intro h; simp only [one, two, none', rgs] at h <;> omega)
      replace hX := F8.blkF hX (by intro h; simp only [one, two, none', rgs] at h <;> omega)
      replace hVA := hVA.framS F8 (by intro b h1 h2 h; simp only [one, two, none', rgs] at h <;> omega)
      refine wl (ro_assign rfl) ?_
      refine wl_nil (x_blk (x_then (hK50 _ _ ?_)))
      clear hK50 K50
      refine c_reg ?_ -- region 20 match.go:108
      refine wl (ro_move rfl) ?_
      refine wl (ro_arith rfl rfl rfl (Go.IntWalk.i64_in _ (by omega))) ?_
      refine wl (ro_assign rfl) ?_
      refine wl_nil (x_then ?_)
      exact ⟨LA.length - (q + 1), by omega, q + 1, VM2, rfl, by omega, by omega, by rw [hstep]; exact hVM2, hVA, hA, hX, hT, hF, kp _ ⟨rfl, rfl, rfl, rfl, rfl, rfl, trivial⟩⟩
    · try simp only [decide_eq_true_eq, decide_eq_false_iff_not, Bool.not_eq_true', Bool.not_eq_false', Bool.not_eq_eq_eq_not, Bool.not_true, Bool.not_false, beq_iff_eq, bne_iff_ne, ne_eq, beq_eq_false_iff_ne, bne_eq_false_iff_eq, gt_iff_lt, ge_iff_le, Int.not_lt, Int.not_le] at hc80
      refine c_exit (x_thenX (x_thenX (x_blkX (x_then (hK46 _ _ ?_)))))
      clear hK48 K48 hK46 K46
      refine forget [(12, _)] ⟨rfl, trivial⟩ (fun e => ?_)
      refine c_seq (fun K52 hK52 => ?_)
      refine c_reg ?_ -- region 23 match.go:112
      refine wl (ro_move rfl) ?_
      refine wl (ro_assign rfl) ?_
      refine wl_nil (x_then (hK52 _ _ ?_))
      clear hK52 K52
      refine c_ret (x_blkR (x_thenR ?_))
      refine bp_ret Tryz.results121 rfl ?_
      have hqe : q = LA.length := by omega
      subst hqe
      rw [List.take_length] at hVM
      rw [hR]
      exact ⟨hVM.wide hsw (Nat.le_refl _), hF⟩
  · skip
    have hwa : WF a := by rw [hq] at hw; exact hw.1
    have hwb : WF b := by rw [hq] at hw; exact hw.2
    have hR := dd_cond (s := s) o a b i cc
    rw [← hq] at hR
    have hLAb : ∀ y ∈ dd (all s a i cc), y.1 ≤ s.length := fun y hy => (all_bnd a i cc hi y (dd_mem hy)).2
    have hLBb : ∀ y ∈ dd (all s b i cc), y.1 ≤ s.length := fun y hy => (all_bnd b i cc hi y (dd_mem hy)).2
    have hLAl : (dd (all s a i cc)).length ≤ s.length + 1 := dd_le (fun y hy => (all_bnd a i cc hi y hy).2)
    have hLBl : (dd (all s b i cc)).length ≤ s.length + 1 := dd_le (fun y hy => (all_bnd b i cc hi y hy).2)
    refine c_reg ?_ -- region 0 match.go:86
    refine wl_box (cs := (trc nb T.length cap z1 z2 z3 z4)) rfl rfl (fun ab w21 hbab hA F21 => ?_)
    have hbsab := Nat.le_trans hF.size hbab
    have hnenbab : nb < ab := Nat.lt_of_lt_of_le hT.lt hbab
    replace hF := hF.thenDrew.thenN F21
    replace hT := F21.blkN hT
    refine wl_box (cs := (capc cc)) rfl rfl (fun cb w22 hbcb hC F22 => ?_)
    have hbscb := Nat.le_trans hF.size hbcb
    have hnenbcb : nb < cb := Nat.lt_of_lt_of_le hT.lt hbcb
    have hneabcb : ab < cb := Nat.lt_of_lt_of_le hA.lt hbcb
    replace hF := hF.thenDrew.thenN F22
    replace hT := F22.blkN hT
    replace hA := F22.blkN hA
    refine wl (ro_assign rfl) ?_
    refine wl_nil (x_then (hK1 _ _ ?_))
    clear hK1 K1
    refine forget [(1, _), (2, _), (3, _), (5, _), (9, _)] ⟨rfl, rfl, rfl, rfl, rfl, trivial⟩ (fun e => ?_)
    refine c_seq (fun K53 hK53 => ?_)
    refine c_reg ?_ -- region 1 match.go:87
    refine wl (ro_fieldAddr (k := 0) rfl fo_151_0) ?_
    refine wl (ro_loadB rfl sc_98 (hA) (rfl)) ?_
    refine wl (ro_move rfl) ?_
    refine wl (ro_indexAddr (et := 89) (k := 11) rfl rfl se_98 (rfl) (hkl)) ?_
    refine wl (ro_loadAggB rfl ag_89 (hT) (rfl) (hld)) ?_
    refine wl_new (ze_89) (fun xb w23 hbxb hX F23 => ?_)
    have hbsxb := Nat.le_trans hF.size hbxb
    have hnenbxb : nb < xb := Nat.lt_of_lt_of_le hT.lt hbxb
    have hneabxb : ab < xb := Nat.lt_of_lt_of_le hA.lt hbxb
    have hnecbxb : cb < xb := Nat.lt_of_lt_of_le hC.lt hbxb
    replace hF := hF.thenDrew.thenN F23
    replace hT := F23.blkN hT
    replace hA := F23.blkN hA
    replace hC := F23.blkN hC
    refine wl_puta rfl rfl (by simp [Value.oneCell', i64c, u64c, u8c, ptr]) sz_89 (rfl) hX ((by simp)) (rfl) (fun w24 hX F24 => ?_)
    replace hF := hF.thenDrew.thenO F24 (by first | exact .inr (by omega) | exact .inl rfl | exact .inl (by assumption))
    replace hT := F24.blkO hT (by omega)
    replace hA := F24.blkO hA (by omega)
    replace hC := F24.blkO hC (by omega)
    refine wl_nil (x_then (hK53 _ _ ?_))
    clear hK53 K53
    refine c_seq (fun K54 hK54 => ?_)
    refine c_seq (fun K55 hK55 => ?_)
    refine c_reg ?_ -- region 2 match.go:88
    refine wl (ro_fieldAddr (k := 0) rfl fo_89_0) ?_
    refine wl (ro_loadB rfl sc_3 (hX) (rfl)) ?_
    refine wl_nil (x_then (hK55 _ _ ?_))
    clear hK55 K55
    refine c_block ?_
    refine forget [(1, _), (2, _), (3, _), (5, _), (9, _), (11, _), (26, _)] ⟨rfl, rfl, rfl, rfl, rfl, rfl, rfl, trivial⟩ (fun e => ?_)
    refine c_seq (fun K56 hK56 => ?_)
    refine c_reg ?_ -- region 3 match.go:89
    refine wl (ro_cmp rfl rfl rfl) ?_
    refine wl (ro_assign rfl) ?_
    refine wl_nil (x_then (hK56 _ _ ?_))
    clear hK56 K56
    refine wc_condF rfl ?_
    refine c_seq (fun K57 hK57 => ?_)
    refine c_reg ?_ -- region 5 match.go:91
    refine wl (ro_cmp rfl rfl rfl) ?_
    refine wl (ro_assign rfl) ?_
    refine wl_nil (x_then (hK57 _ _ ?_))
    clear hK57 K57
    refine wc_condF rfl ?_
    refine c_seq (fun K58 hK58 => ?_)
    refine c_reg ?_ -- region 9 match.go:97
    refine wl (ro_cmp rfl rfl rfl) ?_
    refine wl (ro_assign rfl) ?_
    refine wl_nil (x_then (hK58 _ _ ?_))
    clear hK58 K58
    refine wc_condF rfl ?_
    refine c_seq (fun K59 hK59 => ?_)
    refine c_reg ?_ -- region 12 match.go:101
    refine wl (ro_cmp rfl rfl rfl) ?_
    refine wl (ro_assign rfl) ?_
    refine wl_nil (x_then (hK59 _ _ ?_))
    clear hK59 K59
    refine wc_condF rfl ?_
    refine c_seq (fun K60 hK60 => ?_)
    refine c_reg ?_ -- region 15 match.go:105
    refine wl (ro_cmp rfl rfl rfl) ?_
    refine wl (ro_assign rfl) ?_
    refine wl_nil (x_then (hK60 _ _ ?_))
    clear hK60 K60
    refine wc_condF rfl ?_
    refine c_seq (fun K61 hK61 => ?_)
    refine c_reg ?_ -- region 24 match.go:113
    refine wl (ro_cmp rfl rfl rfl) ?_
    refine wl (ro_assign rfl) ?_
    refine wl_nil (x_then (hK61 _ _ ?_))
    clear hK61 K61
    refine wc_condT rfl ?_
    refine c_seq (fun K62 hK62 => ?_)
    refine c_reg ?_ -- region 25 match.go:114
    refine wl (ro_loadAggB rfl ag_151 (hA) (rfl) (rfl)) ?_
    refine wl (ro_move rfl) ?_
    refine wl (ro_fieldAddr (k := 1) rfl fo_89_1) ?_
    refine wl (ro_loadB rfl sc_3 (hX) (rfl)) ?_
    refine wl (ro_move rfl) ?_
    refine wl (ro_loadAggB rfl ag_55 (hC) (rfl) (rfl)) ?_
    refine wl_call rfl en_121 (ih i1 hi1 hT hia hwa hi hcc) ?_
    rintro VA w6 ⟨hVA, F6⟩
    have hs56 := F6.size
    have hsw6 := hF.size
    replace hF := hF.transG F6 (by intro k hk h; simp only [one, two, none', rgs] at h ⊢ <;> omega)
    replace hT := F6.blkF hT (by intro h; simp only [one, two, none', rgs] at h <;> omega)
    replace hA := F6.blkF hA (by intro h; simp only [one, two, none', rgs] at h <;> omega)
    replace hC := F6.blkF hC (by intro h; simp only [one, two, none', rgs] at h <;> omega)
    replace hX := F6.blkF hX (by intro h; simp only [one, two, none', rgs] at h <;> omega)
    refine wl (ro_assign rfl) ?_
    refine wl_nil (x_then (hK62 _ _ ?_))
    clear hK62 K62
    refine forget [(1, _), (3, _), (5, _), (9, _), (11, _), (16, _)] ⟨rfl, rfl, rfl, rfl, rfl, rfl, trivial⟩ (fun e => ?_)
    refine c_seq (fun K63 hK63 => ?_)
    refine c_reg ?_ -- region 26 match.go:115
    refine wl (ro_loadAggB rfl ag_151 (hA) (rfl) (rfl)) ?_
    refine wl (ro_move rfl) ?_
    refine wl (ro_fieldAddr (k := 2) rfl fo_89_2) ?_
    refine wl (ro_loadB rfl sc_3 (hX) (rfl)) ?_
    refine wl (ro_move rfl) ?_
    refine wl (ro_loadAggB rfl ag_55 (hC) (rfl) (rfl)) ?_
    refine wl_call rfl en_121 (ih j1 hj1 hT hjb hwb hi hcc) ?_
    rintro VB w7 ⟨hVB, F7⟩
    have hs67 := F7.size
    replace hF := hF.transG F7 (by intro k hk h; simp only [one, two, none', rgs] at h ⊢ <;> omega)
    replace hT := F7.blkF hT (by intro h; simp only [one, two, none', rgs] at h <;> omega)
    replace hA := F7.blkF hA (by intro h; simp only [one, two, none', rgs] at h <;> omega)
    replace hC := F7.blkF hC (by intro h; simp only [one, two, none', rgs] at h <;> omega)
    replace hX := F7.blkF hX (by intro h; simp only [one, two, none', rgs] at h <;> omega)
    replace hVA := hVA.framS F7 (by intro b h1 h2 h; simp only [one, two, none', rgs] at h <;> omega)
    refine wl (ro_assign rfl) ?_
    refine wl_nil (x_then (hK63 _ _ ?_))
    clear hK63 K63
    refine forget [(1, _), (16, _), (17, _)] ⟨rfl, rfl, rfl, trivial⟩ (fun e => ?_)
    refine c_seq (fun K64 hK64 => ?_)
    refine c_reg ?_ -- region 27 match.go:116
    refine wl (ro_move rfl) ?_
    refine wl (ro_move rfl) ?_
    refine wl (ro_move rfl) ?_
    refine wl (ro_lenS rfl st_9) ?_
    refine wl_call rfl en_136 (join136 hVA hVB (.inl (Nat.le_refl _)) hs67 (Nat.le_refl _) (by omega) hs256 hLAb hLBb (by omega) (by omega)) ?_
    rintro VZ w8 ⟨hVZ, F8⟩
    replace hF := hF.transG F8 (by intro k hk h; simp only [rgs] at h; omega)
    refine wl (ro_assign rfl) ?_
    refine wl_nil (x_then (hK64 _ _ ?_))
    clear hK64 K64
    refine c_ret (x_blkR (x_thenR ?_))
    refine bp_ret Tryz.results121 rfl ?_
    rw [hR]; exact ⟨hVZ.wide hsw6 (Nat.le_refl _), hF⟩
  · skip
    have hwa : WF a := by rw [hq] at hw; exact hw.1
    have hR : dd (all s r i cc) = dd (tn (all s a) (rmn x) (rmx x) (rlz x) (tm (rmn x) (rmx x) s.length 0 i) 0 i cc) := by rw [hq]; rfl
    refine c_reg ?_ -- region 0 match.go:86
    refine wl_box (cs := (trc nb T.length cap z1 z2 z3 z4)) rfl rfl (fun ab w25 hbab hA F25 => ?_)
    have hbsab := Nat.le_trans hF.size hbab
    have hnenbab : nb < ab := Nat.lt_of_lt_of_le hT.lt hbab
    replace hF := hF.thenDrew.thenN F25
    replace hT := F25.blkN hT
    refine wl_box (cs := (capc cc)) rfl rfl (fun cb w26 hbcb hC F26 => ?_)
    have hbscb := Nat.le_trans hF.size hbcb
    have hnenbcb : nb < cb := Nat.lt_of_lt_of_le hT.lt hbcb
    have hneabcb : ab < cb := Nat.lt_of_lt_of_le hA.lt hbcb
    replace hF := hF.thenDrew.thenN F26
    replace hT := F26.blkN hT
    replace hA := F26.blkN hA
    refine wl (ro_assign rfl) ?_
    refine wl_nil (x_then (hK1 _ _ ?_))
    clear hK1 K1
    refine forget [(1, _), (2, _), (3, _), (5, _), (9, _)] ⟨rfl, rfl, rfl, rfl, rfl, trivial⟩ (fun e => ?_)
    refine c_seq (fun K65 hK65 => ?_)
    refine c_reg ?_ -- region 1 match.go:87
    refine wl (ro_fieldAddr (k := 0) rfl fo_151_0) ?_
    refine wl (ro_loadB rfl sc_98 (hA) (rfl)) ?_
    refine wl (ro_move rfl) ?_
    refine wl (ro_indexAddr (et := 89) (k := 11) rfl rfl se_98 (rfl) (hkl)) ?_
    refine wl (ro_loadAggB rfl ag_89 (hT) (rfl) (hld)) ?_
    refine wl_new (ze_89) (fun xb w27 hbxb hX F27 => ?_)
    have hbsxb := Nat.le_trans hF.size hbxb
    have hnenbxb : nb < xb := Nat.lt_of_lt_of_le hT.lt hbxb
    have hneabxb : ab < xb := Nat.lt_of_lt_of_le hA.lt hbxb
    have hnecbxb : cb < xb := Nat.lt_of_lt_of_le hC.lt hbxb
    replace hF := hF.thenDrew.thenN F27
    replace hT := F27.blkN hT
    replace hA := F27.blkN hA
    replace hC := F27.blkN hC
    refine wl_puta rfl rfl (by simp [Value.oneCell', i64c, u64c, u8c, ptr]) sz_89 (rfl) hX ((by simp)) (rfl) (fun w28 hX F28 => ?_)
    replace hF := hF.thenDrew.thenO F28 (by first | exact .inr (by omega) | exact .inl rfl | exact .inl (by assumption))
    replace hT := F28.blkO hT (by omega)
    replace hA := F28.blkO hA (by omega)
    replace hC := F28.blkO hC (by omega)
    refine wl_nil (x_then (hK65 _ _ ?_))
    clear hK65 K65
    refine c_seq (fun K66 hK66 => ?_)
    refine c_seq (fun K67 hK67 => ?_)
    refine c_reg ?_ -- region 2 match.go:88
    refine wl (ro_fieldAddr (k := 0) rfl fo_89_0) ?_
    refine wl (ro_loadB rfl sc_3 (hX) (rfl)) ?_
    refine wl_nil (x_then (hK67 _ _ ?_))
    clear hK67 K67
    refine c_block ?_
    refine forget [(1, _), (2, _), (3, _), (5, _), (9, _), (11, _), (26, _)] ⟨rfl, rfl, rfl, rfl, rfl, rfl, rfl, trivial⟩ (fun e => ?_)
    refine c_seq (fun K68 hK68 => ?_)
    refine c_reg ?_ -- region 3 match.go:89
    refine wl (ro_cmp rfl rfl rfl) ?_
    refine wl (ro_assign rfl) ?_
    refine wl_nil (x_then (hK68 _ _ ?_))
    clear hK68 K68
    refine wc_condF rfl ?_
    refine c_seq (fun K69 hK69 => ?_)
    refine c_reg ?_ -- region 5 match.go:91
    refine wl (ro_cmp rfl rfl rfl) ?_
    refine wl (ro_assign rfl) ?_
    refine wl_nil (x_then (hK69 _ _ ?_))
    clear hK69 K69
    refine wc_condF rfl ?_
    refine c_seq (fun K70 hK70 => ?_)
    refine c_reg ?_ -- region 9 match.go:97
    refine wl (ro_cmp rfl rfl rfl) ?_
    refine wl (ro_assign rfl) ?_
    refine wl_nil (x_then (hK70 _ _ ?_))
    clear hK70 K70
    refine wc_condF rfl ?_
    refine c_seq (fun K71 hK71 => ?_)
    refine c_reg ?_ -- region 12 match.go:101
    refine wl (ro_cmp rfl rfl rfl) ?_
    refine wl (ro_assign rfl) ?_
    refine wl_nil (x_then (hK71 _ _ ?_))
    clear hK71 K71
    refine wc_condF rfl ?_
    refine c_seq (fun K72 hK72 => ?_)
    refine c_reg ?_ -- region 15 match.go:105
    refine wl (ro_cmp rfl rfl rfl) ?_
    refine wl (ro_assign rfl) ?_
    refine wl_nil (x_then (hK72 _ _ ?_))
    clear hK72 K72
    refine wc_condF rfl ?_
    refine c_seq (fun K73 hK73 => ?_)
    refine c_reg ?_ -- region 24 match.go:113
    refine wl (ro_cmp rfl rfl rfl) ?_
    refine wl (ro_assign rfl) ?_
    refine wl_nil (x_then (hK73 _ _ ?_))
    clear hK73 K73
    refine wc_condF rfl ?_
    refine c_seq (fun K74 hK74 => ?_)
    refine c_reg ?_ -- region 28 match.go:117
    refine wl (ro_cmp rfl rfl rfl) ?_
    refine wl (ro_assign rfl) ?_
    refine wl_nil (x_then (hK74 _ _ ?_))
    clear hK74 K74
    refine wc_condT rfl ?_
    refine c_seq (fun K75 hK75 => ?_)
    refine c_reg ?_ -- region 29 match.go:118
    refine wl (ro_loadAggB rfl ag_151 (hA) (rfl) (rfl)) ?_
    refine wl (ro_move rfl) ?_
    refine wl (ro_move rfl) ?_
    refine wl (ro_move rfl) ?_
    refine wl (ro_loadAggB rfl ag_55 (hC) (rfl) (rfl)) ?_
    refine wl_call rfl en_137 (turns137 (ff := ff) (ps := ps) (x := x) (a := a) hs256 hle hkl hcs hia hwa hcn (ih i1 hi1) _ (Nat.le_refl _) hi (Nat.zero_le _) hcc hT) ?_
    rintro VA w6 ⟨hVA, F6⟩
    have hsw6 := hF.size
    replace hF := hF.transG F6 (by intro k hk h; simp only [one, two, none', rgs] at h ⊢ <;> omega)
    replace hT := F6.blkF hT (by intro h; simp only [one, two, none', rgs] at h <;> omega)
    replace hA := F6.blkF hA (by intro h; simp only [one, two, none', rgs] at h <;> omega)
    replace hC := F6.blkF hC (by intro h; simp only [one, two, none', rgs] at h <;> omega)
    replace hX := F6.blkF hX (by intro h; simp only [one, two, none', rgs] at h <;> omega)
    refine wl (ro_assign rfl) ?_
    refine wl_nil (x_then (hK75 _ _ ?_))
    clear hK75 K75
    refine c_ret (x_blkR (x_thenR ?_))
    refine bp_ret Tryz.results121 rfl ?_
    rw [hR]; exact ⟨hVA.wide hsw6 (Nat.le_refl _), hF⟩
  · skip
    have hwa : WF a := by rw [hq] at hw; exact hw.1
    have hg3 : g ≤ 3 := by rw [hq] at hw; exact hw.2.2.2
    have hR := dd_block (s := s) g a i cc
    rw [← hq] at hR
    generalize hLA : dd (all s a i cc) = LA at hR
    have hLAm : ∀ y ∈ LA, y ∈ all s a i cc := fun y hy => dd_mem (by rw [hLA]; exact hy)
    have hLAc : ∀ y ∈ LA, CapsOK s.length y.2 := fun y hy => all_caps a i cc hwa hi hcc y (hLAm y hy)
    have hLAl : LA.length ≤ s.length + 1 := by rw [← hLA]; exact dd_le (fun y hy => (all_bnd a i cc hi y hy).2)
    refine c_reg ?_ -- region 0 match.go:86
    refine wl_box (cs := (trc nb T.length cap z1 z2 z3 z4)) rfl rfl (fun ab w29 hbab hA F29 => ?_)
    have hbsab := Nat.le_trans hF.size hbab
    have hnenbab : nb < ab := Nat.lt_of_lt_of_le hT.lt hbab
    replace hF := hF.thenDrew.thenN F29
    replace hT := F29.blkN hT
    refine wl_box (cs := (capc cc)) rfl rfl (fun cb w30 hbcb hC F30 => ?_)
    have hbscb := Nat.le_trans hF.size hbcb
    have hnenbcb : nb < cb := Nat.lt_of_lt_of_le hT.lt hbcb
    have hneabcb : ab < cb := Nat.lt_of_lt_of_le hA.lt hbcb
    replace hF := hF.thenDrew.thenN F30
    replace hT := F30.blkN hT
    replace hA := F30.blkN hA
    refine wl (ro_assign rfl) ?_
    refine wl_nil (x_then (hK1 _ _ ?_))
    clear hK1 K1
    refine forget [(1, _), (2, _), (3, _), (5, _), (9, _)] ⟨rfl, rfl, rfl, rfl, rfl, trivial⟩ (fun e => ?_)
    refine c_seq (fun K76 hK76 => ?_)
    refine c_reg ?_ -- region 1 match.go:87
    refine wl (ro_fieldAddr (k := 0) rfl fo_151_0) ?_
    refine wl (ro_loadB rfl sc_98 (hA) (rfl)) ?_
    refine wl (ro_move rfl) ?_
    refine wl (ro_indexAddr (et := 89) (k := 11) rfl rfl se_98 (rfl) (hkl)) ?_
    refine wl (ro_loadAggB rfl ag_89 (hT) (rfl) (hld)) ?_
    refine wl_new (ze_89) (fun xb w31 hbxb hX F31 => ?_)
    have hbsxb := Nat.le_trans hF.size hbxb
    have hnenbxb : nb < xb := Nat.lt_of_lt_of_le hT.lt hbxb
    have hneabxb : ab < xb := Nat.lt_of_lt_of_le hA.lt hbxb
    have hnecbxb : cb < xb := Nat.lt_of_lt_of_le hC.lt hbxb
    replace hF := hF.thenDrew.thenN F31
    replace hT := F31.blkN hT
    replace hA := F31.blkN hA
    replace hC := F31.blkN hC
    refine wl_puta rfl rfl (by simp [Value.oneCell', i64c, u64c, u8c, ptr]) sz_89 (rfl) hX ((by simp)) (rfl) (fun w32 hX F32 => ?_)
    replace hF := hF.thenDrew.thenO F32 (by first | exact .inr (by omega) | exact .inl rfl | exact .inl (by assumption))
    replace hT := F32.blkO hT (by omega)
    replace hA := F32.blkO hA (by omega)
    replace hC := F32.blkO hC (by omega)
    refine wl_nil (x_then (hK76 _ _ ?_))
    clear hK76 K76
    refine c_seq (fun K77 hK77 => ?_)
    refine c_seq (fun K78 hK78 => ?_)
    refine c_reg ?_ -- region 2 match.go:88
    refine wl (ro_fieldAddr (k := 0) rfl fo_89_0) ?_
    refine wl (ro_loadB rfl sc_3 (hX) (rfl)) ?_
    refine wl_nil (x_then (hK78 _ _ ?_))
    clear hK78 K78
    refine c_block ?_
    refine forget [(1, _), (2, _), (3, _), (5, _), (9, _), (11, _), (26, _)] ⟨rfl, rfl, rfl, rfl, rfl, rfl, rfl, trivial⟩ (fun e => ?_)
    refine c_seq (fun K79 hK79 => ?_)
    refine c_reg ?_ -- region 3 match.go:89
    refine wl (ro_cmp rfl rfl rfl) ?_
    refine wl (ro_assign rfl) ?_
    refine wl_nil (x_then (hK79 _ _ ?_))
    clear hK79 K79
    refine wc_condF rfl ?_
    refine c_seq (fun K80 hK80 => ?_)
    refine c_reg ?_ -- region 5 match.go:91
    refine wl (ro_cmp rfl rfl rfl) ?_
    refine wl (ro_assign rfl) ?_
    refine wl_nil (x_then (hK80 _ _ ?_))
    clear hK80 K80
    refine wc_condF rfl ?_
    refine c_seq (fun K81 hK81 => ?_)
    refine c_reg ?_ -- region 9 match.go:97
    refine wl (ro_cmp rfl rfl rfl) ?_
    refine wl (ro_assign rfl) ?_
    refine wl_nil (x_then (hK81 _ _ ?_))
    clear hK81 K81
    refine wc_condF rfl ?_
    refine c_seq (fun K82 hK82 => ?_)
    refine c_reg ?_ -- region 12 match.go:101
    refine wl (ro_cmp rfl rfl rfl) ?_
    refine wl (ro_assign rfl) ?_
    refine wl_nil (x_then (hK82 _ _ ?_))
    clear hK82 K82
    refine wc_condF rfl ?_
    refine c_seq (fun K83 hK83 => ?_)
    refine c_reg ?_ -- region 15 match.go:105
    refine wl (ro_cmp rfl rfl rfl) ?_
    refine wl (ro_assign rfl) ?_
    refine wl_nil (x_then (hK83 _ _ ?_))
    clear hK83 K83
    refine wc_condF rfl ?_
    refine c_seq (fun K84 hK84 => ?_)
    refine c_reg ?_ -- region 24 match.go:113
    refine wl (ro_cmp rfl rfl rfl) ?_
    refine wl (ro_assign rfl) ?_
    refine wl_nil (x_then (hK84 _ _ ?_))
    clear hK84 K84
    refine wc_condF rfl ?_
    refine c_seq (fun K85 hK85 => ?_)
    refine c_reg ?_ -- region 28 match.go:117
    refine wl (ro_cmp rfl rfl rfl) ?_
    refine wl (ro_assign rfl) ?_
    refine wl_nil (x_then (hK85 _ _ ?_))
    clear hK85 K85
    refine wc_condF rfl ?_
    refine c_seq (fun K86 hK86 => ?_)
    refine c_reg ?_ -- region 30 match.go:119
    refine wl (ro_cmp rfl rfl rfl) ?_
    refine wl (ro_assign rfl) ?_
    refine wl_nil (x_then (hK86 _ _ ?_))
    clear hK86 K86
    refine wc_condT rfl ?_
    refine c_seq (fun K87 hK87 => ?_)
    refine c_reg ?_ -- region 31 match.go:120
    refine wl (ro_loadAggB rfl ag_151 (hA) (rfl) (rfl)) ?_
    refine wl (ro_move rfl) ?_
    refine wl (ro_fieldAddr (k := 1) rfl fo_89_1) ?_
    refine wl (ro_loadB rfl sc_3 (hX) (rfl)) ?_
    refine wl (ro_move rfl) ?_
    refine wl (ro_loadAggB rfl ag_55 (hC) (rfl) (rfl)) ?_
    refine wl_call rfl en_121 (ih i1 hi1 hT hia hwa hi hcc) ?_
    rintro VA w6 ⟨hVA, F6⟩
    rw [hLA] at hVA
    have hs56 := F6.size
    have hsw6 := hF.size
    have lx := hX.lt
    obtain ⟨lo6, hlo6, hxlo, hVA⟩ : ∃ lo, w.heap.size ≤ lo ∧ xb < lo ∧ WV w6 VA LA lo w6.heap.size := ⟨_, hsw6, lx, hVA⟩
    replace hF := hF.transG F6 (by intro k hk h; simp only [one, two, none', rgs] at h ⊢ <;> omega)
    replace hT := F6.blkF hT (by intro h; simp only [one, two, none', rgs] at h <;> omega)
    replace hA := F6.blkF hA (by intro h; simp only [one, two, none', rgs] at h <;> omega)
    replace hC := F6.blkF hC (by intro h; simp only [one, two, none', rgs] at h <;> omega)
    replace hX := F6.blkF hX (by intro h; simp only [one, two, none', rgs] at h <;> omega)
    obtain ⟨aA, cA, rfl⟩ := hVA.own.form
    refine wl (ro_assign rfl) ?_
    refine wl_nil (x_then (hK87 _ _ ?_))
    clear hK87 K87
    refine c_seq (fun K88 hK88 => ?_)
    refine c_seq (fun K89 hK89 => ?_)
    refine c_reg ?_ -- region 32 match.go:121
    refine wl (ro_assign rfl) ?_
    refine wl_nil (x_then (hK89 _ _ ?_))
    clear hK89 K89
    refine c_block ?_
    -- loop@r33: live slots [3, 11, 18, 19]
    have hVA0 : WV w6 (.slice aA LA.length cA) (gset g i LA 0) lo6 w6.heap.size := by simp only [gset, List.take_zero, List.map_nil, List.nil_append, List.drop_zero]; exact hVA
    refine c_loopG (fun m a' w' => ∃ (q : Nat), m = LA.length - q ∧ q ≤ LA.length ∧ w6.heap.size ≤ w'.heap.size ∧ WV w' (.slice aA LA.length cA) (gset g i LA q) lo6 w6.heap.size ∧ Blk w'.heap xb (ndc 7 i1 (-1) 0 0 g false 0) 89 ∧ Fram none' w w' ∧ ∃ e, a' = Fr 172 (upds e [(3, i64c i), (11, ptr xb), (18, .slice aA LA.length cA), (19, i64c q)]) []) LA.length ⟨0, rfl, by omega, Nat.le_refl _, hVA0, hX, hF, kp _ ⟨rfl, rfl, rfl, rfl, trivial⟩⟩ ?_
    clear hVA hA hX hT hF hC hVA0
    rintro m a' w1 ⟨q, rfl, hql, hw61, hVA, hX, hF, e, rfl⟩
    have hgl0 := gset_len g i LA q
    refine c_seq (fun K90 hK90 => ?_)
    refine c_seq (fun K91 hK91 => ?_)
    refine c_reg ?_ -- region 33 match.go:121
    refine wl (ro_move rfl) ?_
    refine wl (ro_move rfl) ?_
    refine wl (ro_lenL rfl se_212) ?_
    refine wl (ro_cmp (r := decide (q < LA.length)) rfl rfl (congrArg some (decide_eq_decide.2 (by omega)))) ?_
    refine wl_nil (x_then (hK91 _ _ ?_))
    clear hK91 K91
    refine wc_cond rfl (fun hc145 => ?_) (fun hc145 => ?_)
    · try simp only [decide_eq_true_eq, decide_eq_false_iff_not, Bool.not_eq_true', Bool.not_eq_false', Bool.not_eq_eq_eq_not, Bool.not_true, Bool.not_false, beq_iff_eq, bne_iff_ne, ne_eq, beq_eq_false_iff_ne, bne_eq_false_iff_eq, gt_iff_lt, ge_iff_le, Int.not_lt, Int.not_le] at hc145
      obtain ⟨y, hy⟩ : ∃ y, LA[q]? = some y := ⟨_, List.getElem?_eq_getElem hc145⟩
      have hyc := hLAc y (List.mem_of_getElem? hy)
      have hyg := gset_at (g := g) (i := i) hy
      obtain ⟨gb, gcap, l, hV, hGB, hgc, hgl, hg1, hg2, hga⟩ := hVA.at hyg
      rw [hgl0] at hV
      have hV2 := hV
      cases hV
      have hcell : l[0 + q * 9 + 0]? = some (i64c y.1) := way_cell (hga q y hyg) rfl
      have hwg : w.heap.size ≤ gb := by omega
      have hstep := gset_step (g := g) (i := i) hy
      have hGB0 := hGB
      refine c_skip (x_then (hK90 _ _ ?_))
      clear hK90 K90
      refine forget [(3, _), (11, _), (18, _), (19, _)] ⟨rfl, rfl, rfl, rfl, trivial⟩ (fun e => ?_)
      refine c_seq (fun K92 hK92 => ?_)
      refine c_block ?_
      refine c_seq (fun K93 hK93 => ?_)
      refine c_piL 9 [(0, false), (1, false), (2, false), (3, false), (4, false), (5, false), (6, false), (7, false), (8, false)] (SameH _) mixed (by kernel_rfl) rfl (by kernel_rfl) (po_then (po_blk (po_then (po_then (po_blk (po_then (po_blk (po_then (po_bp))))))))) (sameH_now _ _) ?_ -- region 35 match.go:122
      refine ql_ro rfl (fun w hS => ro_move rfl) ?_
      refine ql_ro rfl (fun w hS => ro_move rfl) ?_
      refine ql_ro rfl (fun w hS => ro_fieldAddr (k := 5) rfl fo_89_5) ?_
      refine ql_ro rfl (fun w hS => ro_loadB rfl sc_3 (Blk.of_heap hX hS) (rfl)) ?_
      refine ql_ro rfl (fun w hS => ro_arith (r := ((2 * g : Nat) : Int)) rfl rfl (congrArg some (by simp)) (Go.IntWalk.i64_in _ (by omega))) ?_
      refine ql_ro rfl (fun w hS => ro_move rfl) ?_
      refine ql_ro rfl (fun w hS => ro_indexAddr (et := 215) (k := 9) rfl rfl se_212 (rfl) (hc145)) ?_
      refine ql_ro rfl (fun w hS => ro_fieldAddr (k := 1) rfl fo_215_1) ?_
      refine ql_ro rfl (fun w hS => ro_indexAddrA (et := 3) (k := 1) rfl rfl ar_55 (rfl) ((by omega : 2 * g < 8))) ?_
      refine ql_put rfl rfl rfl rfl sz_3 hGB ((by omega)) (rfl) (fun w33 hGB F33 => ?_)
      replace hF := hF.thenDrew.thenO F33 (by first | exact .inr (by omega) | exact .inl rfl | exact .inl (by assumption))
      replace hX := F33.blkO hX (by omega)
      have hs33 := F33.size
      rw [Nat.mul_one] at hGB
      have hGB2 := hGB
      have hVA2 := hVA.put (l := l) (v := (i : Int)) hyg hyc.len (show 2 * g < 8 by omega) (by rw [hgl0]) hGB0 hGB
      refine x_then (hK93 _ _ ?_)
      clear hK93 K93
      refine c_piL 14 [(0, false), (1, false), (2, false), (3, false), (4, false), (5, false), (6, false), (7, false), (8, false), (9, false), (10, false), (11, false), (12, false), (13, false)] (SameH _) mixed (by kernel_rfl) rfl (by kernel_rfl) (po_blk (po_then (po_then (po_blk (po_then (po_blk (po_then (po_bp)))))))) (sameH_now _ _) ?_ -- region 36 match.go:123
      refine ql_ro rfl (fun w hS => ro_move rfl) ?_
      refine ql_ro rfl (fun w hS => ro_move rfl) ?_
      refine ql_ro rfl (fun w hS => ro_fieldAddr (k := 5) rfl fo_89_5) ?_
      refine ql_ro rfl (fun w hS => ro_loadB rfl sc_3 (Blk.of_heap hX hS) (rfl)) ?_
      refine ql_ro rfl (fun w hS => ro_arith (r := ((2 * g : Nat) : Int)) rfl rfl (congrArg some (by simp)) (Go.IntWalk.i64_in _ (by omega))) ?_
      refine ql_ro rfl (fun w hS => ro_arith (r := ((2 * g + 1 : Nat) : Int)) rfl rfl (congrArg some (by simp)) (Go.IntWalk.i64_in _ (by omega))) ?_
      refine ql_ro rfl (fun w hS => ro_move rfl) ?_
      refine ql_ro rfl (fun w hS => ro_move rfl) ?_
      refine ql_ro rfl (fun w hS => ro_indexAddr (et := 215) (k := 9) rfl rfl se_212 (rfl) (hc145)) ?_
      refine ql_ro rfl (fun w hS => ro_fieldAddr (k := 0) rfl fo_215_0) ?_
      refine ql_ro rfl (fun w hS => ro_loadB rfl sc_3 (Blk.of_heap hGB hS) ((by rw [List.getElem?_set_ne (by omega)]; exact hcell))) ?_
      refine ql_ro rfl (fun w hS => ro_indexAddr (et := 215) (k := 9) rfl rfl se_212 (rfl) (hc145)) ?_
      refine ql_ro rfl (fun w hS => ro_fieldAddr (k := 1) rfl fo_215_1) ?_
      refine ql_ro rfl (fun w hS => ro_indexAddrA (et := 3) (k := 1) rfl rfl ar_55 (rfl) ((by omega : 2 * g + 1 < 8))) ?_
      refine ql_put rfl rfl rfl rfl sz_3 hGB ((by rw [List.length_set]; omega)) (rfl) (fun w34 hGB F34 => ?_)
      replace hF := hF.thenDrew.thenO F34 (by first | exact .inr (by omega) | exact .inl rfl | exact .inl (by assumption))
      replace hX := F34.blkO hX (by omega)
      have hs34 := F34.size
      rw [Nat.mul_one] at hGB
      refine x_blk (x_then (hK92 _ _ ?_))
      clear hK92 K92
      refine c_reg ?_ -- region 34 match.go:121
      refine wl (ro_move rfl) ?_
      refine wl (ro_arith rfl rfl rfl (Go.IntWalk.i64_in _ (by omega))) ?_
      refine wl (ro_assign rfl) ?_
      refine wl_nil (x_then ?_)
      refine ⟨LA.length - (q + 1), by omega, q + 1, rfl, by omega, Nat.le_trans hw61 (Nat.le_trans hs33 hs34), ?_, hX, hF, kp _ ⟨rfl, rfl, rfl, rfl, trivial⟩⟩
      rw [← hstep]
      refine hVA2.put (l := l.set (0 + q * 9 + 1 + 2 * g) (icv (i : Int))) (x := (y.1, y.2.set (2 * g) (i : Int))) (v := (y.1 : Int)) ?_ (by simp [hyc.len]) (show 2 * g + 1 < 8 by omega) (by rw [List.length_set, hgl0]) hGB2 hGB
      rw [List.getElem?_set_self (by rw [hgl0]; exact hc145)]
    · try simp only [decide_eq_true_eq, decide_eq_false_iff_not, Bool.not_eq_true', Bool.not_eq_false', Bool.not_eq_eq_eq_not, Bool.not_true, Bool.not_false, beq_iff_eq, bne_iff_ne, ne_eq, beq_eq_false_iff_ne, bne_eq_false_iff_eq, gt_iff_lt, ge_iff_le, Int.not_lt, Int.not_le] at hc145
      refine c_exit (x_thenX (x_thenX (x_blkX (x_then (hK88 _ _ ?_)))))
      clear hK90 K90 hK88 K88
      refine forget [(18, _)] ⟨rfl, trivial⟩ (fun e => ?_)
      refine c_seq (fun K94 hK94 => ?_)
      refine c_reg ?_ -- region 37 match.go:125
      refine wl (ro_move rfl) ?_
      refine wl (ro_assign rfl) ?_
      refine wl_nil (x_then (hK94 _ _ ?_))
      clear hK94 K94
      refine c_ret (x_blkR (x_thenR ?_))
      refine bp_ret Tryz.results121 rfl ?_
      have hqe : q = LA.length := by omega
      subst hqe
      have e9 : gset g i LA LA.length = LA.map (fun x => (x.1, (x.2.set (2 * g) (i : Int)).set (2 * g + 1) (x.1 : Int))) := by simp [gset]
      rw [e9] at hVA
      rw [hR]
      exact ⟨hVA.wide hlo6 hw61, hF⟩

end Go.Proofs.Qxb6500567aGreat
