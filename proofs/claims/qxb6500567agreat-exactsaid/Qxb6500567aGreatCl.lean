import Derived.Test.Qxb6500567aGreatCk
import Derived.Test.Qxb6500567aGreatFe
/- The model's parser: Parse, New. -/
namespace Go.Proofs.Qxb6500567aGreat
set_option linter.unusedVariables false
set_option linter.unusedSimpArgs false

theorem AR.cells {T : List RE} {c : Nat → Value} {o : Nat} (h : AR T c o) : ∀ j, j < T.length * 11 → (c (o + j)).oneCell' = true := by
  intro j hj
  have hk : j / 11 < T.length := by omega
  have := (h (j / 11) _ (List.getElem?_eq_getElem hk)).cells
  apply this
  simp only [cel, List.mem_map, List.mem_range]
  exact ⟨j % 11, by omega, by congr 1; omega⟩

theorem mv_new {w : World} {rb : Nat} {p : List UInt8} (hB : Blk w.heap rb (rc p 0 (.slice none 0 0) 0 0 0) 187) (hpl : p.length ≤ 128) : MV w rb p 0 0 0 [] (.slice none 0 0) [] :=
  ⟨hB, Own.nil _ _ _, fun k r h => by simp at h, rfl, by omega, by omega, hpl, by omega⟩

set_option maxHeartbeats 4000000 in
theorem Parse66 {w : World} {mb c : Nat} {p : List UInt8} (hB : Blk w.heap mb [i64c c] 135) (hc : c + 1 ≤ 9223372036854775807) (hpm : p.length ≤ 9223372036854775807) :
    Ret Tryz.prog 66 [ptr mb, S p] w (fun v w' => TV w w' v (parseT p) ∧ Blk w'.heap mb [i64c (c + 1)] 135 ∧ Fram (one mb) w w') := by
  have hF : Fram (one mb) w w := Fram.refl _ _
  have hxw := hB.lt
  refine ret_of Tryz.func66 rfl Tryz.ntmps66 rfl ?_
  refine c_seq (fun K1 hK1 => ?_)
  refine c_reg ?_ -- region 0 syntaxm.go:327
  refine wl_new (ze_151) (fun vb w1 hbvb hM F1 => ?_)
  have hbsvb := Nat.le_trans hF.size hbvb
  have hnembvb : mb < vb := Nat.lt_of_lt_of_le hB.lt hbvb
  replace hF := hF.thenDrew.thenN F1
  replace hB := F1.blkN hB
  refine wl_nil (x_then (hK1 _ _ ?_))
  clear hK1 K1
  refine forget [(0, _), (1, _), (4, _)] ⟨rfl, rfl, rfl, trivial⟩ (fun e => ?_)
  refine c_seq (fun K2 hK2 => ?_)
  refine c_reg ?_ -- region 1 syntaxm.go:328
  refine wl (ro_move rfl) ?_
  refine wl (ro_nilCheck rfl) ?_
  refine wl (ro_fieldAddr (k := 0) rfl fo_135_0) ?_
  refine wl (ro_loadB rfl sc_3 (hB) (rfl)) ?_
  refine wl (ro_arith rfl rfl rfl (Go.IntWalk.i64_in _ (by omega))) ?_
  refine wl (ro_nilCheck rfl) ?_
  refine wl (ro_fieldAddr (k := 0) rfl fo_135_0) ?_
  refine wl_put rfl rfl rfl sz_3 hB ((by simp)) (rfl) (fun w2 hB F2 => ?_)
  replace hF := hF.thenDrew.thenO F2 (by first | exact .inr (by omega) | exact .inl rfl | exact .inl (by assumption))
  replace hM := F2.blkO hM (by omega)
  refine wl_nil (x_then (hK2 _ _ ?_))
  clear hK2 K2
  refine c_seq (fun K3 hK3 => ?_)
  refine c_seq (fun K4 hK4 => ?_)
  refine c_reg ?_ -- region 2 syntaxm.go:329
  refine wl (ro_move rfl) ?_
  refine wl (ro_lenS rfl st_9) ?_
  refine wl (ro_cmp rfl rfl rfl) ?_
  refine wl_nil (x_then (hK4 _ _ ?_))
  clear hK4 K4
  refine wc_cond rfl (fun hc17 => ?_) (fun hc17 => ?_)
  · try simp only [decide_eq_true_eq, decide_eq_false_iff_not, Bool.not_eq_true', Bool.not_eq_false', Bool.not_eq_eq_eq_not, Bool.not_true, Bool.not_false, beq_iff_eq, bne_iff_ne, ne_eq, beq_eq_false_iff_ne, bne_eq_false_iff_eq, gt_iff_lt, ge_iff_le, Int.not_lt, Int.not_le] at hc17
    have hl : 128 < p.length := by omega
    refine c_seq (fun K5 hK5 => ?_)
    refine c_reg ?_ -- region 3 syntaxm.go:330
    refine wl (ro_build rfl bld_151_1_3_4) ?_
    refine wl_puta rfl rfl (by simp [Value.oneCell', i64c, u64c, u8c, ptr]) sz_151 (rfl) hM ((by simp)) (rfl) (fun w3 hM F3 => ?_)
    replace hF := hF.thenDrew.thenO F3 (by first | exact .inr (by omega) | exact .inl rfl | exact .inl (by assumption))
    replace hB := F3.blkO hB (by omega)
    refine wl_nil (x_then (hK5 _ _ ?_))
    clear hK5 K5
    refine c_ret (x_thenR ?_)
    refine bq_ret (res1 Tryz.results66 (rv_c rfl ag_151 (hM) rfl)) ?_
    exact ⟨by unfold parseT; rw [if_pos hl]; rfl, hB, hF⟩
  · try simp only [decide_eq_true_eq, decide_eq_false_iff_not, Bool.not_eq_true', Bool.not_eq_false', Bool.not_eq_eq_eq_not, Bool.not_true, Bool.not_false, beq_iff_eq, bne_iff_ne, ne_eq, beq_eq_false_iff_ne, bne_eq_false_iff_eq, gt_iff_lt, ge_iff_le, Int.not_lt, Int.not_le] at hc17
    have hl : p.length ≤ 128 := by omega
    refine c_skip (x_then (hK3 _ _ ?_))
    clear hK3 K3
    refine forget [(1, _), (4, _)] ⟨rfl, rfl, trivial⟩ (fun e => ?_)
    refine c_seq (fun K6 hK6 => ?_)
    refine c_reg ?_ -- region 4 syntaxm.go:332
    refine wl (ro_move rfl) ?_
    refine wl (ro_build rfl bld_187_0) ?_
    refine wl_box (cs := (rc p 0 (.slice none 0 0) 0 0 0)) rfl rfl (fun rb w4 hbrb hR F4 => ?_)
    have hbsrb := Nat.le_trans hF.size hbrb
    have hnembrb : mb < rb := Nat.lt_of_lt_of_le hB.lt hbrb
    have hnevbrb : vb < rb := Nat.lt_of_lt_of_le hM.lt hbrb
    replace hF := hF.thenDrew.thenN F4
    replace hB := F4.blkN hB
    replace hM := F4.blkN hM
    have hPT : parseT p = parseP p := by unfold parseT; rw [if_neg (by omega)]
    have hpe : ∀ e, pd p (5 * p.length + 5) (.alt 0) 0 0 0 = .error e → e.1 ≠ 0 := fun e h => (parse_ok (p := p)).2 e (by unfold parseP; rw [h])
    refine wl (ro_assign rfl) ?_
    refine wl_nil (x_then (hK6 _ _ ?_))
    clear hK6 K6
    refine forget [(1, _), (4, _), (5, _)] ⟨rfl, rfl, rfl, trivial⟩ (fun e => ?_)
    refine c_seq (fun K7 hK7 => ?_)
    refine c_reg ?_ -- region 5 syntaxm.go:333
    refine wl (ro_move rfl) ?_
    refine wl_call rfl en_89 (altC p (5 * p.length + 5) _ rb 0 0 0 0 [] (.slice none 0 0) [] _ (mv_new hR hl) (by omega) rfl hpe) ?_
    rintro v w5 ⟨hP, F5⟩
    have hne5 : ∀ k, mfr rb (.slice none 0 0) k → k = rb := by
      intro k hk
      rcases hk with h | h
      · exact h
      · cases h
    have F5' : Fram (one rb) _ w5 := F5.mono (fun k _ hk => hne5 k hk)
    replace hF := hF.thenO F5' (.inr (by omega))
    replace hB := F5'.blkO hB (by omega)
    replace hM := F5'.blkO hM (by omega)
    clear hR
    refine wl (ro_assign rfl) ?_
    refine wl_nil (x_then (hK7 _ _ ?_))
    clear hK7 K7
    refine c_seq (fun K8 hK8 => ?_)
    refine c_seq (fun K9 hK9 => ?_)
    rcases hPd : pd p (5 * p.length + 5) (.alt 0) 0 0 0 with e4 | ⟨x4, j4, n4, g4⟩
    · skip
      rw [hPd] at hP
      obtain ⟨⟨z, rfl⟩, k4, a4, l4, c4, gg4, hk4, hR⟩ := hP
      have he4 := hpe e4 hPd
      have hPP : parseT p = .error e4 := by rw [hPT]; unfold parseP; rw [hPd]
      refine c_reg ?_ -- region 6 syntaxm.go:334
      refine wl (ro_move rfl) ?_
      refine wl (ro_nilCheck rfl) ?_
      refine wl (ro_fieldAddr (k := 4) rfl fo_187_4) ?_
      refine wl (ro_loadB rfl sc_53 (hR) (rfl)) ?_
      refine wl (ro_cmp (r := false) rfl rfl (congrArg some ((beqc e4.1 0).trans (decide_eq_false he4)))) ?_
      refine wl (ro_move rfl) ?_
      refine wlg_no rfl ?_
      refine wlg_no rfl ?_
      refine wlg_no rfl ?_
      refine wlg_no rfl ?_
      refine wlg_no rfl ?_
      refine wlg_no rfl ?_
      refine wlg_no rfl ?_
      refine wl (ro_pick rfl rfl rfl) ?_
      refine wl_nil (x_then (hK9 _ _ ?_))
      clear hK9 K9
      refine wc_condF rfl ?_
      refine c_skip (x_then (hK8 _ _ ?_))
      clear hK8 K8
      refine c_seq (fun K10 hK10 => ?_)
      refine c_seq (fun K11 hK11 => ?_)
      refine c_reg ?_ -- region 8 syntaxm.go:337
      refine wl (ro_move rfl) ?_
      refine wl (ro_nilCheck rfl) ?_
      refine wl (ro_fieldAddr (k := 4) rfl fo_187_4) ?_
      refine wl (ro_loadB rfl sc_53 (hR) (rfl)) ?_
      refine wl (ro_cmp (r := true) rfl rfl (congrArg some ((bnec e4.1 0).trans (decide_eq_true he4)))) ?_
      refine wl_nil (x_then (hK11 _ _ ?_))
      clear hK11 K11
      refine wc_condT rfl ?_
      refine c_seq (fun K12 hK12 => ?_)
      refine c_piL 9 [(0, false), (1, false), (2, false), (3, false), (4, false), (5, false), (6, false), (7, false), (8, false)] (SameH _) mixed (by kernel_rfl) rfl (by kernel_rfl) (po_then (po_then (po_bp))) (sameH_now _ _) ?_ -- region 9 syntaxm.go:338
      refine ql_ro rfl (fun w hS => ro_move rfl) ?_
      refine ql_ro rfl (fun w hS => ro_nilCheck rfl) ?_
      refine ql_ro rfl (fun w hS => ro_fieldAddr (k := 4) rfl fo_187_4) ?_
      refine ql_ro rfl (fun w hS => ro_loadB rfl sc_53 (Blk.of_heap hR hS) (rfl)) ?_
      refine ql_ro rfl (fun w hS => ro_move rfl) ?_
      refine ql_ro rfl (fun w hS => ro_nilCheck rfl) ?_
      refine ql_ro rfl (fun w hS => ro_fieldAddr (k := 5) rfl fo_187_5) ?_
      refine ql_ro rfl (fun w hS => ro_loadB rfl sc_3 (Blk.of_heap hR hS) (rfl)) ?_
      refine ql_ro rfl (fun w hS => ro_build rfl bld_151_1_3_4) ?_
      refine ql_puta rfl rfl rfl (by simp [Value.oneCell', i64c, u64c, u8c, ptr]) sz_151 (rfl) hM ((by simp)) (rfl) (fun w5 hM F5 => ?_)
      replace hF := hF.thenDrew.thenO F5 (by first | exact .inr (by omega) | exact .inl rfl | exact .inl (by assumption))
      replace hB := F5.blkO hB (by omega)
      replace hR := F5.blkO hR (by omega)
      refine x_then (hK12 _ _ ?_)
      clear hK12 K12
      refine c_ret (x_thenR ?_)
      refine bq_ret (res1 Tryz.results66 (rv_c rfl ag_151 (hM) rfl)) ?_
      exact ⟨TV.er hPP, hB, hF⟩
    · skip
      rw [hPd] at hP
      obtain ⟨T4, VN4, xs4, k4, rfl, hTk, M4, hn4, hU4⟩ := hP
      have hR := M4.blk
      have hj4 := M4.il
      have hn24 := M4.n24
      have htl := M4.tl
      subst htl
      have hlk := ND.u (cs := []) hTk
      obtain ⟨nb4, cap4, cc4, hV4, hT4, hcap4, hAR⟩ := M4.tr (by omega)
      subst hV4
      refine c_reg ?_ -- region 6 syntaxm.go:334
      refine wl (ro_move rfl) ?_
      refine wl (ro_nilCheck rfl) ?_
      refine wl (ro_fieldAddr (k := 4) rfl fo_187_4) ?_
      refine wl (ro_loadB rfl sc_53 (hR) (rfl)) ?_
      refine wl (ro_cmp (r := true) rfl rfl rfl) ?_
      refine wl (ro_move rfl) ?_
      refine wlg_yes rfl (ro_move rfl) ?_
      refine wlg_yes rfl (ro_nilCheck rfl) ?_
      refine wlg_yes rfl (ro_fieldAddr (k := 1) rfl fo_187_1) ?_
      refine wlg_yes rfl (ro_loadB rfl sc_3 (hR) (rfl)) ?_
      refine wlg_yes rfl (ro_move rfl) ?_
      refine wlg_yes rfl (ro_lenS rfl st_9) ?_
      refine wlg_yes rfl (ro_cmp rfl rfl rfl) ?_
      refine wl (ro_pick rfl rfl rfl) ?_
      refine wl_nil (x_then (hK9 _ _ ?_))
      clear hK9 K9
      refine wc_cond rfl (fun hc37 => ?_) (fun hc37 => ?_)
      · try simp only [decide_eq_true_eq, decide_eq_false_iff_not, Bool.not_eq_true', Bool.not_eq_false', Bool.not_eq_eq_eq_not, Bool.not_true, Bool.not_false, beq_iff_eq, bne_iff_ne, ne_eq, beq_eq_false_iff_ne, bne_eq_false_iff_eq, gt_iff_lt, ge_iff_le, Int.not_lt, Int.not_le] at hc37
        have hPP : parseT p = .error (1, j4) := by rw [hPT]; unfold parseP; rw [hPd]; simp only; rw [if_pos (by omega)]
        refine c_reg ?_ -- region 7 syntaxm.go:335
        refine wl (ro_move rfl) ?_
        refine wl (ro_move rfl) ?_
        refine wl (ro_nilCheck rfl) ?_
        refine wl (ro_fieldAddr (k := 1) rfl fo_187_1) ?_
        refine wl (ro_loadB rfl sc_3 (hR) (rfl)) ?_
        refine wl_call rfl en_90 (fail90 hR) ?_
        rintro _ w9 ⟨rfl, hR, F9⟩
        replace hF := hF.thenO F9 (.inr (by omega))
        replace hB := F9.blkO hB (by omega)
        replace hM := F9.blkO hM (by omega)
        refine wl_nil (x_then (hK8 _ _ ?_))
        clear hK8 K8
        refine c_seq (fun K13 hK13 => ?_)
        refine c_seq (fun K14 hK14 => ?_)
        refine c_reg ?_ -- region 8 syntaxm.go:337
        refine wl (ro_move rfl) ?_
        refine wl (ro_nilCheck rfl) ?_
        refine wl (ro_fieldAddr (k := 4) rfl fo_187_4) ?_
        refine wl (ro_loadB rfl sc_53 (hR) (rfl)) ?_
        refine wl (ro_cmp rfl rfl rfl) ?_
        refine wl_nil (x_then (hK14 _ _ ?_))
        clear hK14 K14
        refine wc_condT rfl ?_
        refine c_seq (fun K15 hK15 => ?_)
        refine c_piL 9 [(0, false), (1, false), (2, false), (3, false), (4, false), (5, false), (6, false), (7, false), (8, false)] (SameH _) mixed (by kernel_rfl) rfl (by kernel_rfl) (po_then (po_then (po_bp))) (sameH_now _ _) ?_ -- region 9 syntaxm.go:338
        refine ql_ro rfl (fun w hS => ro_move rfl) ?_
        refine ql_ro rfl (fun w hS => ro_nilCheck rfl) ?_
        refine ql_ro rfl (fun w hS => ro_fieldAddr (k := 4) rfl fo_187_4) ?_
        refine ql_ro rfl (fun w hS => ro_loadB rfl sc_53 (Blk.of_heap hR hS) (rfl)) ?_
        refine ql_ro rfl (fun w hS => ro_move rfl) ?_
        refine ql_ro rfl (fun w hS => ro_nilCheck rfl) ?_
        refine ql_ro rfl (fun w hS => ro_fieldAddr (k := 5) rfl fo_187_5) ?_
        refine ql_ro rfl (fun w hS => ro_loadB rfl sc_3 (Blk.of_heap hR hS) (rfl)) ?_
        refine ql_ro rfl (fun w hS => ro_build rfl bld_151_1_3_4) ?_
        refine ql_puta rfl rfl rfl (by simp [Value.oneCell', i64c, u64c, u8c, ptr]) sz_151 (rfl) hM ((by simp)) (rfl) (fun w6 hM F6 => ?_)
        replace hF := hF.thenDrew.thenO F6 (by first | exact .inr (by omega) | exact .inl rfl | exact .inl (by assumption))
        replace hB := F6.blkO hB (by omega)
        replace hR := F6.blkO hR (by omega)
        refine x_then (hK15 _ _ ?_)
        clear hK15 K15
        refine c_ret (x_thenR ?_)
        refine bq_ret (res1 Tryz.results66 (rv_c rfl ag_151 (hM) rfl)) ?_
        first | exact ⟨TV.er (e := (1, j4)) hPP, hB, hF⟩ | exact ⟨by rw [hPP]; exact ⟨nb, T4.length, k4, T4, _, rfl, hbsnb, hN, Nat.le_refl _, hn24, hAR.shift (fun j hj => by rw [cpf_in (by omega) (by omega)]; congr 1; omega), hTk⟩, hB, hF⟩
      · try simp only [decide_eq_true_eq, decide_eq_false_iff_not, Bool.not_eq_true', Bool.not_eq_false', Bool.not_eq_eq_eq_not, Bool.not_true, Bool.not_false, beq_iff_eq, bne_iff_ne, ne_eq, beq_eq_false_iff_ne, bne_eq_false_iff_eq, gt_iff_lt, ge_iff_le, Int.not_lt, Int.not_le] at hc37
        have hPP : parseT p = .ok (x4, g4) := by rw [hPT]; unfold parseP; rw [hPd]; simp only; rw [if_neg (by omega)]
        refine c_skip (x_then (hK8 _ _ ?_))
        clear hK8 K8
        refine c_seq (fun K16 hK16 => ?_)
        refine c_seq (fun K17 hK17 => ?_)
        refine c_reg ?_ -- region 8 syntaxm.go:337
        refine wl (ro_move rfl) ?_
        refine wl (ro_nilCheck rfl) ?_
        refine wl (ro_fieldAddr (k := 4) rfl fo_187_4) ?_
        refine wl (ro_loadB rfl sc_53 (hR) (rfl)) ?_
        refine wl (ro_cmp rfl rfl rfl) ?_
        refine wl_nil (x_then (hK17 _ _ ?_))
        clear hK17 K17
        refine wc_condF rfl ?_
        refine c_skip (x_then (hK16 _ _ ?_))
        clear hK16 K16
        refine forget [(4, _), (5, _), (6, _)] ⟨rfl, rfl, rfl, trivial⟩ (fun e => ?_)
        refine c_seq (fun K18 hK18 => ?_)
        refine c_reg ?_ -- region 10 syntaxm.go:340
        refine wl (ro_move rfl) ?_
        refine wl (ro_nilCheck rfl) ?_
        refine wl (ro_fieldAddr (k := 2) rfl fo_187_2) ?_
        refine wl (ro_loadB rfl sc_98 (hR) (rfl)) ?_
        refine wl (ro_lenL rfl se_98) ?_
        refine wl_make (len := T4.length) (cap := T4.length) rfl rfl se_98 ze_89 (by simp) (by omega) (by omega) rfl bb_89 (fun nb w8 hbnb hN F8 => ?_)
        have hbsnb := Nat.le_trans hF.size hbnb
        have hnexbnb : mb ≠ nb := Nat.ne_of_lt (Nat.lt_of_lt_of_le hB.lt hbnb)
        have hnembnb : vb ≠ nb := Nat.ne_of_lt (Nat.lt_of_lt_of_le hM.lt hbnb)
        have hnerbnb : rb ≠ nb := Nat.ne_of_lt (Nat.lt_of_lt_of_le hR.lt hbnb)
        replace hF := hF.thenDrew.thenN F8
        replace hB := F8.blkN hB
        replace hM := F8.blkN hM
        replace hR := F8.blkN hR
        replace hT4 := F8.blkN hT4
        refine wl (ro_assign rfl) ?_
        refine wl_nil (x_then (hK18 _ _ ?_))
        clear hK18 K18
        refine forget [(4, _), (5, _), (6, _), (7, _)] ⟨rfl, rfl, rfl, rfl, trivial⟩ (fun e => ?_)
        refine c_seq (fun K19 hK19 => ?_)
        refine c_reg ?_ -- region 11 syntaxm.go:341
        refine wl (ro_move rfl) ?_
        refine wl (ro_move rfl) ?_
        refine wl (ro_nilCheck rfl) ?_
        refine wl (ro_fieldAddr (k := 2) rfl fo_187_2) ?_
        refine wl (ro_loadB rfl sc_98 (hR) (rfl)) ?_
        refine wl_copy (m := T4.length) (k := 11) rfl rfl se_98 hN hT4 (Nat.min_self _) (fun j hj => hAR.cells j hj) (by omega) (by omega) (fun w17 hN F17 => ?_)
        replace hF := hF.thenO F17 (.inr (by omega))
        replace hB := F17.blkO hB (by omega)
        replace hM := F17.blkO hM (by omega)
        replace hR := F17.blkO hR (by omega)
        refine wl_nil (x_then (hK19 _ _ ?_))
        clear hK19 K19
        refine forget [(4, _), (5, _), (6, _), (7, _)] ⟨rfl, rfl, rfl, rfl, trivial⟩ (fun e => ?_)
        refine c_seq (fun K20 hK20 => ?_)
        refine c_reg ?_ -- region 12 syntaxm.go:342
        refine wl (ro_move rfl) ?_
        refine wl (ro_move rfl) ?_
        refine wl (ro_move rfl) ?_
        refine wl (ro_nilCheck rfl) ?_
        refine wl (ro_fieldAddr (k := 3) rfl fo_187_3) ?_
        refine wl (ro_loadB rfl sc_3 (hR) (rfl)) ?_
        refine wl (ro_build rfl bld_151_0_1_2) ?_
        refine wl_puta rfl rfl (by simp [Value.oneCell', i64c, u64c, u8c, ptr]) sz_151 (rfl) hM ((by simp)) (rfl) (fun w7 hM F7 => ?_)
        replace hF := hF.thenDrew.thenO F7 (by first | exact .inr (by omega) | exact .inl rfl | exact .inl (by assumption))
        replace hB := F7.blkO hB (by omega)
        replace hR := F7.blkO hR (by omega)
        replace hN := F7.blkO hN (by omega)
        refine wl_nil (x_then (hK20 _ _ ?_))
        clear hK20 K20
        refine c_ret ?_
        refine bq_ret (res1 Tryz.results66 (rv_c rfl ag_151 (hM) rfl)) ?_
        first | exact ⟨TV.er (e := (1, j4)) hPP, hB, hF⟩ | exact ⟨by rw [hPP]; exact ⟨nb, T4.length, k4, T4, _, rfl, hbsnb, hN, Nat.le_refl _, hn24, hAR.shift (fun j hj => by rw [cpf_in (by omega) (by omega)]; congr 1; omega), hTk⟩, hB, hF⟩

theorem New33 {w : World} : Ret Tryz.prog 33 [] w (fun v w' => ∃ mb, v = ptr mb ∧ w.heap.size ≤ mb ∧ Blk w'.heap mb [i64c 0] 135 ∧ Fram none' w w') := by
  have hF : Fram none' w w := Fram.refl _ _
  refine ret_of Tryz.func33 rfl Tryz.ntmps33 rfl ?_
  refine c_seq (fun K1 hK1 => ?_)
  refine c_reg ?_ -- region 0 syntaxm.go:14
  refine wl (ro_assign rfl) ?_
  refine wl_nil (x_then (hK1 _ _ ?_))
  clear hK1 K1
  refine forget [] trivial (fun e => ?_)
  refine c_seq (fun K2 hK2 => ?_)
  refine c_reg ?_ -- region 1 syntaxm.go:14
  refine wl (ro_build rfl bld_135) ?_
  refine wl_box (cs := [i64c 0]) rfl rfl (fun nb w1 hbnb hN F1 => ?_)
  have hbsnb := Nat.le_trans hF.size hbnb
  replace hF := hF.thenDrew.thenN F1
  refine wl (ro_assign rfl) ?_
  refine wl_nil (x_then (hK2 _ _ ?_))
  clear hK2 K2
  refine c_ret ?_
  refine bp_ret Tryz.results33 rfl ?_
  exact ⟨nb, rfl, hbnb, hN, hF⟩

end Go.Proofs.Qxb6500567aGreat
