import Derived.Test.Qxb6500567aGreatGe
import Derived.Test.Qxb6500567aGreatFj
/- The definition of matching: MatchAt, Leftmost. -/
namespace Go.Proofs.Qxb6500567aGreat
set_option linter.unusedVariables false
set_option linter.unusedSimpArgs false

/-- The captures told. -/
def capO : Option (List Int) → List Int
  | some c => c
  | none => nocaps

theorem ways_zero {l : List Value} {x : Way} (h : (l.drop (0 + 0 * 9)).take 9 = wcl x) : l[0]? = some (i64c x.1) ∧ (l.drop (0 + 0 * 9 + 1)).take 8 = capc x.2 := by
  refine ⟨by have := way_cell (j := 0) h rfl; simpa using this, ?_⟩
  have := congrArg (List.drop 1) h
  rw [List.drop_take, List.drop_drop] at this
  exact this

set_option maxHeartbeats 4000000 in
theorem MatchAt93 {s : List UInt8} {nb cap root g at0 : Nat} {T : List RE} {c : Nat → Value} {r : RE} {w : World} (hs256 : s.length ≤ 256) (hle : T.length ≤ cap) (hAR : AR T c 0) (hT : FB w.heap nb (cap * 11) c 89) (hr : T[root]? = some r) (hw : WF r) (hi : at0 ≤ s.length) :
    Ret Tryz.prog 93 [.agg (trc nb T.length cap (i64c root) (i64c g) (icv 0) (icv 0)).toArray, S s, i64c at0] w (fun v w' => v = .tuple #[.bool (matAt s r at0).isSome, .agg (capc (capO (matAt s r at0))).toArray] ∧ Fram none' w w') := by
  have hF : Fram none' w w := Fram.refl _ _
  have hcc := caps_no s.length
  generalize hLA : dd (all s r at0 nocaps) = LA
  have hmat : matAt s r at0 = LA.head?.map (fun x => (x.2.set 0 (at0 : Int)).set 1 (x.1 : Int)) := by
    unfold matAt
    rw [← hLA, dd_head]
  refine ret_of Tryz.func93 rfl Tryz.ntmps93 rfl ?_
  refine c_seq (fun K1 hK1 => ?_)
  refine c_reg ?_ -- region 0 match.go:131
  refine wl_box (cs := (trc nb T.length cap (i64c root) (i64c g) (icv 0) (icv 0))) rfl rfl (fun ab w1 hbab hA F1 => ?_)
  have hbsab := Nat.le_trans hF.size hbab
  have hnenbab : nb < ab := Nat.lt_of_lt_of_le hT.lt hbab
  replace hF := hF.thenDrew.thenN F1
  replace hT := F1.blkN hT
  refine wl (ro_assign rfl) ?_
  refine wl_new (ze_55) (fun mb w2 hbmb hM F2 => ?_)
  have hbsmb := Nat.le_trans hF.size hbmb
  have hnenbmb : nb < mb := Nat.lt_of_lt_of_le hT.lt hbmb
  have hneabmb : ab < mb := Nat.lt_of_lt_of_le hA.lt hbmb
  replace hF := hF.thenDrew.thenN F2
  replace hT := F2.blkN hT
  replace hA := F2.blkN hA
  refine wl_nil (x_then (hK1 _ _ ?_))
  clear hK1 K1
  refine forget [(1, _), (2, _), (3, _), (7, _)] ⟨rfl, rfl, rfl, rfl, trivial⟩ (fun e => ?_)
  refine c_seq (fun K2 hK2 => ?_)
  refine c_reg ?_ -- region 1 match.go:132
  refine wl_call rfl en_47 (NoCaps47) ?_
  rintro _ w3 ⟨rfl, F3⟩
  replace hF := hF.thenDrew.thenN F3
  replace hT := F3.blkN hT
  replace hA := F3.blkN hA
  replace hM := F3.blkN hM
  refine wl_new (ze_55) (fun cb w4 hbcb hC F4 => ?_)
  have hbscb := Nat.le_trans hF.size hbcb
  have hnenbcb : nb < cb := Nat.lt_of_lt_of_le hT.lt hbcb
  have hneabcb : ab < cb := Nat.lt_of_lt_of_le hA.lt hbcb
  have hnembcb : mb < cb := Nat.lt_of_lt_of_le hM.lt hbcb
  replace hF := hF.thenDrew.thenN F4
  replace hT := F4.blkN hT
  replace hA := F4.blkN hA
  replace hM := F4.blkN hM
  refine wl_puta rfl rfl ((capc_cells _)) sz_55 (rfl) hC ((by simp)) (rfl) (fun w5 hC F5 => ?_)
  replace hF := hF.thenDrew.thenO F5 (by first | exact .inr (by omega) | exact .inl rfl | exact .inl (by assumption))
  replace hT := F5.blkO hT (by omega)
  replace hA := F5.blkO hA (by omega)
  replace hM := F5.blkO hM (by omega)
  refine wl_nil (x_then (hK2 _ _ ?_))
  clear hK2 K2
  refine c_seq (fun K3 hK3 => ?_)
  refine c_seq (fun K4 hK4 => ?_)
  refine c_reg ?_ -- region 2 match.go:133
  refine wl (ro_fieldAddr (k := 3) rfl fo_151_3) ?_
  refine wl (ro_loadB rfl sc_53 (hA) (rfl)) ?_
  refine wl (ro_cmp rfl rfl rfl) ?_
  refine wl (ro_move rfl) ?_
  refine wlg_yes rfl (ro_move rfl) ?_
  refine wlg_yes rfl (ro_lenS rfl st_9) ?_
  refine wlg_yes rfl (ro_cmp (r := false) rfl rfl (congrArg some (decide_eq_false (by omega)))) ?_
  refine wl (ro_pick rfl rfl rfl) ?_
  refine wl (ro_move rfl) ?_
  refine wlg_yes rfl (ro_move rfl) ?_
  refine wlg_yes rfl (ro_cmp (r := false) rfl rfl (congrArg some (decide_eq_false (by omega)))) ?_
  refine wl (ro_pick rfl rfl rfl) ?_
  refine wl (ro_move rfl) ?_
  refine wlg_yes rfl (ro_move rfl) ?_
  refine wlg_yes rfl (ro_move rfl) ?_
  refine wlg_yes rfl (ro_lenS rfl st_9) ?_
  refine wlg_yes rfl (ro_cmp (r := false) rfl rfl (congrArg some (decide_eq_false (by omega)))) ?_
  refine wl (ro_pick rfl rfl rfl) ?_
  refine wl_nil (x_then (hK4 _ _ ?_))
  clear hK4 K4
  refine wc_condF rfl ?_
  refine c_skip (x_then (hK3 _ _ ?_))
  clear hK3 K3
  refine forget [(1, _), (2, _), (3, _), (7, _), (8, _)] ⟨rfl, rfl, rfl, rfl, rfl, trivial⟩ (fun e => ?_)
  refine c_seq (fun K5 hK5 => ?_)
  refine c_reg ?_ -- region 4 match.go:136
  refine wl (ro_loadAggB rfl ag_151 (hA) (rfl) (rfl)) ?_
  refine wl (ro_move rfl) ?_
  refine wl (ro_fieldAddr (k := 1) rfl fo_151_1) ?_
  refine wl (ro_loadB rfl sc_3 (hA) (rfl)) ?_
  refine wl (ro_move rfl) ?_
  refine wl (ro_loadAggB rfl ag_55 (hC) (rfl) (rfl)) ?_
  refine wl_call rfl en_121 (ways121 hs256 hle hAR root hT hr hw hi hcc) ?_
  rintro VA w6 ⟨hVA, F6⟩
  rw [hLA] at hVA
  have hsz6 := hF.size
  have lm := hM.lt
  replace hF := hF.transG F6 (by intro k hk h; simp only [one, two, none', rgs] at h ⊢ <;> omega)
  replace hT := F6.blkF hT (by intro h; simp only [one, two, none', rgs] at h <;> omega)
  replace hA := F6.blkF hA (by intro h; simp only [one, two, none', rgs] at h <;> omega)
  replace hM := F6.blkF hM (by intro h; simp only [one, two, none', rgs] at h <;> omega)
  replace hC := F6.blkF hC (by intro h; simp only [one, two, none', rgs] at h <;> omega)
  obtain ⟨aA, cA, rfl⟩ := hVA.own.form
  refine wl (ro_assign rfl) ?_
  refine wl_nil (x_then (hK5 _ _ ?_))
  clear hK5 K5
  refine c_seq (fun K6 hK6 => ?_)
  refine c_seq (fun K7 hK7 => ?_)
  refine c_reg ?_ -- region 5 match.go:137
  refine wl (ro_move rfl) ?_
  refine wl (ro_lenL rfl se_212) ?_
  refine wl (ro_cmp (r := decide (LA.length = 0)) rfl rfl (congrArg some (beqc LA.length 0))) ?_
  refine wl_nil (x_then (hK7 _ _ ?_))
  clear hK7 K7
  refine wc_cond rfl (fun hc40 => ?_) (fun hc40 => ?_)
  · try simp only [decide_eq_true_eq, decide_eq_false_iff_not, Bool.not_eq_true', Bool.not_eq_false', Bool.not_eq_eq_eq_not, Bool.not_true, Bool.not_false, beq_iff_eq, bne_iff_ne, ne_eq, beq_eq_false_iff_ne, bne_eq_false_iff_eq, gt_iff_lt, ge_iff_le, Int.not_lt, Int.not_le] at hc40
    have hL0 : LA = [] := List.length_eq_zero_iff.1 hc40
    rw [hL0] at hmat
    refine c_seq (fun K8 hK8 => ?_)
    refine c_piL 2 [(0, false), (1, false)] (SameH _) mixed (by kernel_rfl) rfl (by kernel_rfl) (po_then (po_then (po_bp))) (sameH_now _ _) ?_ -- region 6 match.go:138
    refine ql_ro rfl (fun w hS => ro_loadAggB rfl ag_55 (Blk.of_heap hC hS) (rfl) (rfl)) ?_
    refine ql_ro rfl (fun w hS => ro_assign rfl) ?_
    refine ql_puta rfl rfl rfl ((capc_cells _)) sz_55 (rfl) hM ((by simp)) (rfl) (fun w6 hM F6 => ?_)
    replace hF := hF.thenDrew.thenO F6 (by first | exact .inr (by omega) | exact .inl rfl | exact .inl (by assumption))
    replace hT := F6.blkO hT (by omega)
    replace hA := F6.blkO hA (by omega)
    replace hC := F6.blkO hC (by omega)
    refine x_then (hK8 _ _ ?_)
    clear hK8 K8
    refine c_ret (x_thenR ?_)
    refine bq_ret (res2 Tryz.results93 (rv_t rfl) (rv_c rfl ag_55 (hM) rfl)) ?_
    rw [hmat]; exact ⟨rfl, hF⟩
  · try simp only [decide_eq_true_eq, decide_eq_false_iff_not, Bool.not_eq_true', Bool.not_eq_false', Bool.not_eq_eq_eq_not, Bool.not_true, Bool.not_false, beq_iff_eq, bne_iff_ne, ne_eq, beq_eq_false_iff_ne, bne_eq_false_iff_eq, gt_iff_lt, ge_iff_le, Int.not_lt, Int.not_le] at hc40
    obtain ⟨y, hy⟩ : ∃ y, LA[0]? = some y := ⟨_, List.getElem?_eq_getElem (by omega)⟩
    have hhd : LA.head? = some y := by rw [List.head?_eq_getElem?]; exact hy
    rw [hhd] at hmat
    simp only [Option.map_some] at hmat
    obtain ⟨gb, gcap, l, hV, hGB, hgc, hgl, hg1, hg2, hga⟩ := hVA.at hy
    cases hV
    obtain ⟨hcell, hcaps⟩ := ways_zero (hga 0 y hy)
    have hyc : CapsOK s.length y.2 := all_caps r at0 nocaps hw hi hcc y (dd_mem (by rw [hLA]; exact List.mem_of_getElem? hy))
    have hmg : mb < gb := by omega
    refine c_skip (x_then (hK6 _ _ ?_))
    clear hK6 K6
    refine forget [(2, _), (7, _), (9, _)] ⟨rfl, rfl, rfl, trivial⟩ (fun e => ?_)
    refine c_seq (fun K9 hK9 => ?_)
    refine c_reg ?_ -- region 7 match.go:140
    refine wl (ro_move rfl) ?_
    refine wl (ro_indexAddr (et := 215) (k := 9) rfl rfl se_212 (rfl) ((by omega : 0 < LA.length))) ?_
    refine wl (ro_fieldAddr (k := 1) rfl fo_215_1) ?_
    refine wl (ro_loadAggB rfl ag_55 (hGB) (rfl) (hcaps)) ?_
    refine wl_new (ze_55) (fun db w7 hbdb hD F7 => ?_)
    have hbsdb := Nat.le_trans hF.size hbdb
    have hnenbdb : nb < db := Nat.lt_of_lt_of_le hT.lt hbdb
    have hneabdb : ab < db := Nat.lt_of_lt_of_le hA.lt hbdb
    have hnembdb : mb < db := Nat.lt_of_lt_of_le hM.lt hbdb
    have hnecbdb : cb < db := Nat.lt_of_lt_of_le hC.lt hbdb
    have hnegbdb : gb < db := Nat.lt_of_lt_of_le hGB.lt hbdb
    replace hF := hF.thenDrew.thenN F7
    replace hT := F7.blkN hT
    replace hA := F7.blkN hA
    replace hM := F7.blkN hM
    replace hC := F7.blkN hC
    replace hGB := F7.blkN hGB
    refine wl_puta rfl rfl ((capc_cells _)) sz_55 (rfl) hD ((by simp)) ((show _ = capc y.2 from rfl)) (fun w8 hD F8 => ?_)
    replace hF := hF.thenDrew.thenO F8 (by first | exact .inr (by omega) | exact .inl rfl | exact .inl (by assumption))
    replace hT := F8.blkO hT (by omega)
    replace hA := F8.blkO hA (by omega)
    replace hM := F8.blkO hM (by omega)
    replace hC := F8.blkO hC (by omega)
    replace hGB := F8.blkO hGB (by omega)
    refine wl_nil (x_then (hK9 _ _ ?_))
    clear hK9 K9
    refine forget [(2, _), (7, _), (9, _), (10, _)] ⟨rfl, rfl, rfl, rfl, trivial⟩ (fun e => ?_)
    refine c_seq (fun K10 hK10 => ?_)
    refine c_piL 8 [(0, false), (1, false), (2, false), (3, false), (4, false), (5, false), (6, true), (7, false)] (fun w' => Blk w'.heap gb l 215) mixed (by kernel_rfl) rfl (by kernel_rfl) (po_then (po_bp)) (hGB) ?_ -- region 8 match.go:141
    refine ql_ro rfl (fun w hS => ro_move rfl) ?_
    refine ql_ro rfl (fun w hS => ro_move rfl) ?_
    refine ql_ro rfl (fun w hS => ro_indexAddr (et := 215) (k := 9) rfl rfl se_212 (rfl) ((by omega : 0 < LA.length))) ?_
    refine ql_ro rfl (fun w hS => ro_fieldAddr (k := 0) rfl fo_215_0) ?_
    refine ql_ro rfl (fun w hS => ro_loadB rfl sc_3 (hS) ((by simpa using hcell))) ?_
    refine ql_ro rfl (fun w hS => ro_indexAddrA (et := 3) (k := 1) rfl rfl ar_55 (rfl) ((by omega : 0 < 8))) ?_
    refine ql_putm rfl rfl rfl rfl sz_3 hD ((by simp)) ((capc_set (j := 0) hyc.len (by omega)).symm) (fun w1 hB1 F ↦ F.blkF hGB (fun h ↦ by simp only [one] at h; omega)) (fun w9 hD F9 => ?_)
    replace hF := hF.thenDrew.thenO F9 (by first | exact .inr (by omega) | exact .inl rfl | exact .inl (by assumption))
    replace hT := F9.blkO hT (by omega)
    replace hA := F9.blkO hA (by omega)
    replace hM := F9.blkO hM (by omega)
    replace hC := F9.blkO hC (by omega)
    replace hGB := F9.blkO hGB (by omega)
    refine ql_ro rfl (fun w hS => ro_indexAddrA (et := 3) (k := 1) rfl rfl ar_55 (rfl) ((by omega : 1 < 8))) ?_
    refine ql_put rfl rfl rfl rfl sz_3 hD ((by simp)) ((capc_set (j := 1) (by simp [hyc.len]) (by omega)).symm) (fun w10 hD F10 => ?_)
    replace hF := hF.thenDrew.thenO F10 (by first | exact .inr (by omega) | exact .inl rfl | exact .inl (by assumption))
    replace hT := F10.blkO hT (by omega)
    replace hA := F10.blkO hA (by omega)
    replace hM := F10.blkO hM (by omega)
    replace hC := F10.blkO hC (by omega)
    replace hGB := F10.blkO hGB (by omega)
    refine x_then (hK10 _ _ ?_)
    clear hK10 K10
    refine forget [(7, _), (10, _)] ⟨rfl, rfl, trivial⟩ (fun e => ?_)
    refine c_seq (fun K11 hK11 => ?_)
    refine c_piL 2 [(0, false), (1, false)] (SameH _) mixed (by kernel_rfl) rfl (by kernel_rfl) (po_then (po_bp)) (sameH_now _ _) ?_ -- region 9 match.go:142
    refine ql_ro rfl (fun w hS => ro_loadAggB rfl ag_55 (Blk.of_heap hD hS) (rfl) (rfl)) ?_
    refine ql_ro rfl (fun w hS => ro_assign rfl) ?_
    refine ql_puta rfl rfl rfl ((capc_cells _)) sz_55 (rfl) hM ((by simp)) (rfl) (fun w11 hM F11 => ?_)
    replace hF := hF.thenDrew.thenO F11 (by first | exact .inr (by omega) | exact .inl rfl | exact .inl (by assumption))
    replace hT := F11.blkO hT (by omega)
    replace hA := F11.blkO hA (by omega)
    replace hC := F11.blkO hC (by omega)
    replace hGB := F11.blkO hGB (by omega)
    replace hD := F11.blkO hD (by omega)
    refine x_then (hK11 _ _ ?_)
    clear hK11 K11
    refine c_ret ?_
    refine bq_ret (res2 Tryz.results93 (rv_t rfl) (rv_c rfl ag_55 (hM) rfl)) ?_
    rw [hmat]; exact ⟨rfl, hF⟩

theorem lft_step {s : List UInt8} {r : RE} {i : Nat} (hi : i ≤ s.length) : lft s r i = (matAt s r i).or (lft s r (i + 1)) := by
  unfold lft
  obtain ⟨k, hk⟩ : ∃ k, s.length + 1 - i = k + 1 := ⟨s.length - i, by omega⟩
  rw [hk, List.range'_succ, List.findSome?_cons, show s.length + 1 - (i + 1) = k by omega]
  cases matAt s r i <;> rfl
theorem lft_past {s : List UInt8} {r : RE} : lft s r (s.length + 1) = none := by
  unfold lft
  rw [Nat.sub_self]
  rfl

set_option maxHeartbeats 4000000 in
theorem Leftmost68 {s : List UInt8} {nb cap root g fr : Nat} {T : List RE} {c : Nat → Value} {r : RE} {w : World} (hs256 : s.length ≤ 256) (hle : T.length ≤ cap) (hAR : AR T c 0) (hT : FB w.heap nb (cap * 11) c 89) (hr : T[root]? = some r) (hw : WF r) (hi : fr ≤ s.length) :
    Ret Tryz.prog 68 [.agg (trc nb T.length cap (i64c root) (i64c g) (icv 0) (icv 0)).toArray, S s, i64c fr] w (fun v w' => v = .agg (fdc 0 0 (lft s r fr).isSome (capO (lft s r fr))).toArray ∧ Fram none' w w') := by
  have hF : Fram none' w w := Fram.refl _ _
  refine ret_of Tryz.func68 rfl Tryz.ntmps68 rfl ?_
  refine c_seq (fun K1 hK1 => ?_)
  refine c_reg ?_ -- region 0 match.go:146
  refine wl_box (cs := (trc nb T.length cap (i64c root) (i64c g) (icv 0) (icv 0))) rfl rfl (fun ab w1 hbab hA F1 => ?_)
  have hbsab := Nat.le_trans hF.size hbab
  have hnenbab : nb < ab := Nat.lt_of_lt_of_le hT.lt hbab
  replace hF := hF.thenDrew.thenN F1
  replace hT := F1.blkN hT
  refine wl_new (ze_57) (fun mb w2 hbmb hM F2 => ?_)
  have hbsmb := Nat.le_trans hF.size hbmb
  have hnenbmb : nb < mb := Nat.lt_of_lt_of_le hT.lt hbmb
  have hneabmb : ab < mb := Nat.lt_of_lt_of_le hA.lt hbmb
  replace hF := hF.thenDrew.thenN F2
  replace hT := F2.blkN hT
  replace hA := F2.blkN hA
  refine wl_nil (x_then (hK1 _ _ ?_))
  clear hK1 K1
  refine c_seq (fun K2 hK2 => ?_)
  refine c_seq (fun K3 hK3 => ?_)
  refine c_reg ?_ -- region 1 match.go:147
  refine wl (ro_move rfl) ?_
  refine wl (ro_lenS rfl st_9) ?_
  refine wl (ro_cmp (r := false) rfl rfl (congrArg some (decide_eq_false (by omega)))) ?_
  refine wl_nil (x_then (hK3 _ _ ?_))
  clear hK3 K3
  refine wc_condF rfl ?_
  refine c_skip (x_then (hK2 _ _ ?_))
  clear hK2 K2
  refine c_seq (fun K4 hK4 => ?_)
  refine c_seq (fun K5 hK5 => ?_)
  refine c_reg ?_ -- region 3 match.go:150
  refine wl (ro_fieldAddr (k := 3) rfl fo_151_3) ?_
  refine wl (ro_loadB rfl sc_53 (hA) (rfl)) ?_
  refine wl (ro_cmp rfl rfl rfl) ?_
  refine wl_nil (x_then (hK5 _ _ ?_))
  clear hK5 K5
  refine wc_condF rfl ?_
  refine c_skip (x_then (hK4 _ _ ?_))
  clear hK4 K4
  refine c_seq (fun K6 hK6 => ?_)
  refine c_seq (fun K7 hK7 => ?_)
  refine c_reg ?_ -- region 5 match.go:153
  refine wl (ro_move rfl) ?_
  refine wl (ro_cmp (r := false) rfl rfl (congrArg some (decide_eq_false (by omega)))) ?_
  refine wl (ro_move rfl) ?_
  refine wlg_yes rfl (ro_move rfl) ?_
  refine wlg_yes rfl (ro_move rfl) ?_
  refine wlg_yes rfl (ro_lenS rfl st_9) ?_
  refine wlg_yes rfl (ro_cmp (r := false) rfl rfl (congrArg some (decide_eq_false (by omega)))) ?_
  refine wl (ro_pick rfl rfl rfl) ?_
  refine wl_nil (x_then (hK7 _ _ ?_))
  clear hK7 K7
  refine wc_condF rfl ?_
  refine c_skip (x_then (hK6 _ _ ?_))
  clear hK6 K6
  refine c_seq (fun K8 hK8 => ?_)
  refine c_seq (fun K9 hK9 => ?_)
  refine c_reg ?_ -- region 7 match.go:156
  refine wl (ro_move rfl) ?_
  refine wl (ro_assign rfl) ?_
  refine wl_nil (x_then (hK9 _ _ ?_))
  clear hK9 K9
  refine c_block ?_
  -- loop@r8: live slots [1, 3, 6, 7]
  refine c_loopG (fun m a' w' => ∃ (i : Nat), m = s.length + 1 - i ∧ i ≤ s.length + 1 ∧ lft s r i = lft s r fr ∧ Blk w'.heap ab (trc nb T.length cap (i64c root) (i64c g) (icv 0) (icv 0)) 151 ∧ (∃ z, Blk w'.heap mb z 57 ∧ z.length = 11) ∧ FB w'.heap nb (cap * 11) c 89 ∧ Fram none' w w' ∧ ∃ e, a' = Fr 49 (upds e [(1, S s), (3, ptr ab), (6, ptr mb), (7, i64c i)]) []) (s.length + 1 - fr) ⟨fr, rfl, by omega, rfl, hA, ⟨_, hM, rfl⟩, hT, hF, kp _ ⟨rfl, rfl, rfl, rfl, trivial⟩⟩ ?_
  clear hA hM hT hF
  rintro m a' w1 ⟨i, rfl, hi1, hli, hA, ⟨z, hM, hz⟩, hT, hF, e, rfl⟩
  refine c_seq (fun K10 hK10 => ?_)
  refine c_seq (fun K11 hK11 => ?_)
  refine c_reg ?_ -- region 8 match.go:156
  refine wl (ro_move rfl) ?_
  refine wl (ro_move rfl) ?_
  refine wl (ro_lenS rfl st_9) ?_
  refine wl (ro_cmp (r := decide (i ≤ s.length)) rfl rfl (congrArg some (decide_eq_decide.2 (by omega)))) ?_
  refine wl_nil (x_then (hK11 _ _ ?_))
  clear hK11 K11
  refine wc_cond rfl (fun hc35 => ?_) (fun hc35 => ?_)
  · try simp only [decide_eq_true_eq, decide_eq_false_iff_not, Bool.not_eq_true', Bool.not_eq_false', Bool.not_eq_eq_eq_not, Bool.not_true, Bool.not_false, beq_iff_eq, bne_iff_ne, ne_eq, beq_eq_false_iff_ne, bne_eq_false_iff_eq, gt_iff_lt, ge_iff_le, Int.not_lt, Int.not_le] at hc35
    rw [lft_step hc35] at hli
    refine c_skip (x_then (hK10 _ _ ?_))
    clear hK10 K10
    refine forget [(1, _), (3, _), (6, _), (7, _)] ⟨rfl, rfl, rfl, rfl, trivial⟩ (fun e => ?_)
    refine c_seq (fun K12 hK12 => ?_)
    refine c_block ?_
    refine c_seq (fun K13 hK13 => ?_)
    refine c_reg ?_ -- region 10 match.go:157
    refine wl (ro_loadAggB rfl ag_151 (hA) (rfl) (rfl)) ?_
    refine wl (ro_move rfl) ?_
    refine wl (ro_move rfl) ?_
    refine wl_call rfl en_93 (MatchAt93 hs256 hle hAR hT hr hw hc35) ?_
    rintro _ w3 ⟨rfl, F3⟩
    replace hF := hF.transG F3 (by intro k hk h; simp only [one, two, none', rgs] at h ⊢ <;> omega)
    replace hT := F3.blkF hT (by intro h; simp only [one, two, none', rgs] at h <;> omega)
    replace hA := F3.blkF hA (by intro h; simp only [one, two, none', rgs] at h <;> omega)
    replace hM := F3.blkF hM (by intro h; simp only [one, two, none', rgs] at h <;> omega)
    refine wl (ro_move rfl) ?_
    refine wl (ro_extract rfl rfl) ?_
    refine wl (ro_extract rfl rfl) ?_
    refine wl_new (ze_55) (fun cb w3 hbcb hC F3 => ?_)
    have hbscb := Nat.le_trans hF.size hbcb
    have hnenbcb : nb < cb := Nat.lt_of_lt_of_le hT.lt hbcb
    have hneabcb : ab < cb := Nat.lt_of_lt_of_le hA.lt hbcb
    have hnembcb : mb < cb := Nat.lt_of_lt_of_le hM.lt hbcb
    replace hF := hF.thenDrew.thenN F3
    replace hT := F3.blkN hT
    replace hA := F3.blkN hA
    replace hM := F3.blkN hM
    refine wl (ro_assign rfl) ?_
    refine wl_puta rfl rfl ((capc_cells _)) sz_55 (rfl) hC ((by simp)) ((show _ = capc (capO (matAt s r i)) from rfl)) (fun w4 hC F4 => ?_)
    replace hF := hF.thenDrew.thenO F4 (by first | exact .inr (by omega) | exact .inl rfl | exact .inl (by assumption))
    replace hT := F4.blkO hT (by omega)
    replace hA := F4.blkO hA (by omega)
    replace hM := F4.blkO hM (by omega)
    refine wl_nil (x_then (hK13 _ _ ?_))
    clear hK13 K13
    refine forget [(1, _), (3, _), (6, _), (7, _), (8, _), (9, _)] ⟨rfl, rfl, rfl, rfl, rfl, rfl, trivial⟩ (fun e => ?_)
    refine c_seq (fun K14 hK14 => ?_)
    refine c_reg ?_ -- region 11 match.go:158
    refine wl (ro_move rfl) ?_
    refine wl_nil (x_then (hK14 _ _ ?_))
    clear hK14 K14
    refine wc_cond rfl (fun hc45 => ?_) (fun hc45 => ?_)
    · try simp only [decide_eq_true_eq, decide_eq_false_iff_not, Bool.not_eq_true', Bool.not_eq_false', Bool.not_eq_eq_eq_not, Bool.not_true, Bool.not_false, beq_iff_eq, bne_iff_ne, ne_eq, beq_eq_false_iff_ne, bne_eq_false_iff_eq, gt_iff_lt, ge_iff_le, Int.not_lt, Int.not_le] at hc45
      obtain ⟨cc, hcc⟩ := Option.isSome_iff_exists.1 hc45
      rw [hcc] at hli hC
      refine c_seq (fun K15 hK15 => ?_)
      refine c_reg ?_ -- region 12 match.go:159
      refine wl (ro_loadAggB rfl ag_55 (hC) (rfl) (rfl)) ?_
      refine wl (ro_build rfl bld_57_2_3) ?_
      refine wl_puta rfl rfl ((fdc_cells 0 0 true cc)) sz_57 (rfl) hM ((by omega)) ((seg_all hz)) (fun w5 hM F5 => ?_)
      replace hF := hF.thenDrew.thenO F5 (by first | exact .inr (by omega) | exact .inl rfl | exact .inl (by assumption))
      replace hT := F5.blkO hT (by omega)
      replace hA := F5.blkO hA (by omega)
      replace hC := F5.blkO hC (by omega)
      refine wl_nil (x_then (hK15 _ _ ?_))
      clear hK15 K15
      refine c_ret (x_blkR (x_thenR (x_thenR (x_blkR (x_thenR ?_)))))
      refine bq_ret (res1 Tryz.results68 (rv_c rfl ag_57 (hM) rfl)) ?_
      rw [← hli]; exact ⟨rfl, hF⟩
    · try simp only [decide_eq_true_eq, decide_eq_false_iff_not, Bool.not_eq_true', Bool.not_eq_false', Bool.not_eq_eq_eq_not, Bool.not_true, Bool.not_false, beq_iff_eq, bne_iff_ne, ne_eq, beq_eq_false_iff_ne, bne_eq_false_iff_eq, gt_iff_lt, ge_iff_le, Int.not_lt, Int.not_le] at hc45
      have hcc : matAt s r i = none := by cases h : matAt s r i with | none => rfl | some x => rw [h] at hc45; simp at hc45
      rw [hcc] at hli
      refine c_skip (x_blk (x_then (hK12 _ _ ?_)))
      clear hK12 K12
      refine c_reg ?_ -- region 9 match.go:156
      refine wl (ro_move rfl) ?_
      refine wl (ro_arith rfl rfl rfl (Go.IntWalk.i64_in _ (by omega))) ?_
      refine wl (ro_assign rfl) ?_
      refine wl_nil (x_then ?_)
      exact ⟨s.length + 1 - (i + 1), by omega, i + 1, rfl, by omega, hli, hA, ⟨z, hM, hz⟩, hT, hF, kp _ ⟨rfl, rfl, rfl, rfl, trivial⟩⟩
  · try simp only [decide_eq_true_eq, decide_eq_false_iff_not, Bool.not_eq_true', Bool.not_eq_false', Bool.not_eq_eq_eq_not, Bool.not_true, Bool.not_false, beq_iff_eq, bne_iff_ne, ne_eq, beq_eq_false_iff_ne, bne_eq_false_iff_eq, gt_iff_lt, ge_iff_le, Int.not_lt, Int.not_le] at hc35
    have hie : i = s.length + 1 := by omega
    rw [hie, lft_past] at hli
    refine c_exit (x_thenX (x_thenX (x_blkX (x_then (hK8 _ _ ?_)))))
    clear hK10 K10 hK8 K8
    refine forget [(6, _)] ⟨rfl, trivial⟩ (fun e => ?_)
    refine c_seq (fun K16 hK16 => ?_)
    refine c_reg ?_ -- region 13 match.go:162
    refine wl_call rfl en_50 (Nothing50) ?_
    rintro _ w6 ⟨rfl, F6⟩
    replace hF := hF.thenDrew.thenN F6
    replace hT := F6.blkN hT
    replace hA := F6.blkN hA
    replace hM := F6.blkN hM
    refine wl_puta rfl rfl ((fdc_cells 0 0 false nocaps)) sz_57 (rfl) hM ((by omega)) ((seg_all hz)) (fun w7 hM F7 => ?_)
    replace hF := hF.thenDrew.thenO F7 (by first | exact .inr (by omega) | exact .inl rfl | exact .inl (by assumption))
    replace hT := F7.blkO hT (by omega)
    replace hA := F7.blkO hA (by omega)
    refine wl_nil (x_then (hK16 _ _ ?_))
    clear hK16 K16
    refine c_ret ?_
    refine bq_ret (res1 Tryz.results68 (rv_c rfl ag_57 (hM) rfl)) ?_
    rw [← hli]; exact ⟨rfl, hF⟩

end Go.Proofs.Qxb6500567aGreat
