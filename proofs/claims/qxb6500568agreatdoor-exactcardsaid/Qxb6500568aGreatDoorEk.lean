import Derived.Test.Qxb6500568aGreatDoorEj
/- The real parser: unary expressions, lists. -/
namespace Go.Proofs.Qxb6500568aGreatDoor
open Ieee
set_option linter.unusedVariables false
set_option linter.unusedSimpArgs false

set_option maxHeartbeats 4000000 in
theorem unary223 {f : Nat} {w : World} {ow : Nat → Nat} {pb tb cap : Nat} {L : List Tok} {s : PS} {lv : Nat} {ρ : Int} {R : PO} (ih : PAll f) (hG : PGo w ow pb tb cap L s lv ρ) (hR : parP (f + 1) 2 lv 0 0 dumT s = some R) : Ret Tryz.prog 223 [ptr pb, .int .i64 ρ] w (Rs1 w ow pb tb cap L 0 R) := by
  have hP := hG.pr
  have hT := hG.cx.tk
  have hne := hG.cx.ne
  have hρ := hG.rm
  have hPl := hG.cx.pl
  have hl13 := hG.l13
  obtain ⟨i, hX, hi, hs⟩ := hP.ex
  have hF : Fram (one pb) w w := Fram.refl _ _
  have hF0 : Fram none' w w := Fram.refl _ _
  unfold prc at hX
  have hkk : s.k = s.cur.k := rfl
  replace hR : pUnary (parP f) lv s = some R := hR
  unfold pUnary at hR
  refine ret_of Tryz.func223 rfl Tryz.ntmps223 rfl ?_
  refine c_seq (fun K1 hK1 => ?_)
  refine c_reg ?_ -- region 0 expr.go:101
  refine wl (ro_assign rfl) ?_
  refine wl_nil (x_then (hK1 _ _ ?_))
  clear hK1 K1
  refine c_seq (fun K2 hK2 => ?_)
  refine c_seq (fun K3 hK3 => ?_)
  refine c_reg ?_ -- region 1 expr.go:102
  refine wl (ro_move rfl) ?_
  refine wl (ro_cmp rfl rfl rfl) ?_
  refine wl_nil (x_then (hK3 _ _ ?_))
  clear hK3 K3
  refine wc_cond rfl (fun hc9 => ?_) (fun hc9 => ?_)
  · try simp only [decide_eq_true_eq, decide_eq_false_iff_not, Bool.not_eq_true', Bool.not_eq_false', Bool.not_eq_eq_eq_not, Bool.not_true, Bool.not_false, beq_iff_eq, bne_iff_ne, ne_eq, beq_eq_false_iff_ne, bne_eq_false_iff_eq, gt_iff_lt, ge_iff_le, Int.not_lt, Int.not_le] at hc9
    rw [if_pos (by omega)] at hR
    refine c_seq (fun K4 hK4 => ?_)
    refine c_reg ?_ -- region 2 expr.go:103
    refine wl (ro_move rfl) ?_
    refine wl_call rfl en_77 (fail77 (e := 16) (hP.farN hF0)) ?_
    rintro _ u1 ⟨rfl, hP1, F9⟩
    refine wl_nil (x_then (hK4 _ _ ?_))
    clear hK4 K4
    refine forget [] trivial (fun e => ?_)
    refine c_seq (fun K5 hK5 => ?_)
    refine c_reg ?_ -- region 3 expr.go:104
    refine wl (ro_assign rfl) ?_
    refine wl_nil (x_then (hK5 _ _ ?_))
    clear hK5 K5
    refine c_ret (x_thenR ?_)
    refine bp_ret Tryz.results223 rfl ?_
    cases failP_inj hR
    exact ⟨hF.trans' F9 (fun _ _ h => h), rfl, hP1⟩
  · try simp only [decide_eq_true_eq, decide_eq_false_iff_not, Bool.not_eq_true', Bool.not_eq_false', Bool.not_eq_eq_eq_not, Bool.not_true, Bool.not_false, beq_iff_eq, bne_iff_ne, ne_eq, beq_eq_false_iff_ne, bne_eq_false_iff_eq, gt_iff_lt, ge_iff_le, Int.not_lt, Int.not_le] at hc9
    rw [if_neg (by omega)] at hR
    have hlv : lv ≤ 12 := by omega
    refine c_skip (x_then (hK2 _ _ ?_))
    clear hK2 K2
    refine forget [(0, _), (1, _)] ⟨rfl, rfl, trivial⟩ (fun e => ?_)
    refine c_seq (fun K6 hK6 => ?_)
    refine c_reg ?_ -- region 4 expr.go:106
    refine wl (ro_move rfl) ?_
    refine wl (ro_nilCheck rfl) ?_
    refine wl (ro_fieldAddr (k := 2) rfl fo_186_2) ?_
    refine wl (ro_loadAggB rfl ag_182 (by assumption) rfl rfl) ?_
    refine wl_new (ze_182) (fun b5 w1 hbb5 h5 F1 => ?_)
    have hbsb5 := Nat.le_trans hF.size hbb5
    have hnepbb5 : pb < b5 := Nat.lt_of_lt_of_le hX.lt hbb5
    have hbsb5 := Nat.le_trans hF0.size hbb5
    replace hF := hF.thenDrew.thenN F1
    replace hX := F1.blkN hX
    replace hF0 := hF0.thenDrew.thenN F1
    refine wl_puta rfl rfl ((by (try exact vlc_cells _); all_goals simp [Value.oneCell', i64c, icv, u64c, u8c, ptr, S])) sz_182 (rfl) h5 ((by simp)) (rfl) (fun w2 h5 F2 => ?_)
    replace hF := hF.thenDrew.thenO F2 (by first | exact .inr (by omega) | exact .inl rfl | exact .inl (by assumption) | assumption)
    replace hX := F2.blkO hX (by omega)
    replace hF0 := hF0.thenDrew.thenO F2 (by first | exact .inr (by omega) | exact .inl rfl | exact .inl (by assumption) | assumption)
    refine wl_nil (x_then (hK6 _ _ ?_))
    clear hK6 K6
    refine forget [(0, _), (1, _), (5, _)] ⟨rfl, rfl, rfl, trivial⟩ (fun e => ?_)
    refine c_seq (fun K7 hK7 => ?_)
    refine c_reg ?_ -- region 5 expr.go:107
    refine wl (ro_assign rfl) ?_
    refine wl_nil (x_then (hK7 _ _ ?_))
    clear hK7 K7
    refine c_seq (fun K8 hK8 => ?_)
    refine c_seq (fun K9 hK9 => ?_)
    refine c_reg ?_ -- region 6 expr.go:108
    refine wl (ro_fieldAddr (k := 0) rfl fo_182_0) ?_
    refine wl (ro_loadB rfl sc_180 (by assumption) rfl) ?_
    refine wl_nil (x_then (hK9 _ _ ?_))
    clear hK9 K9
    refine c_block ?_
    refine forget [(0, _), (1, _), (5, _), (17, _)] ⟨rfl, rfl, rfl, rfl, trivial⟩ (fun e => ?_)
    refine c_seq (fun K10 hK10 => ?_)
    refine c_reg ?_ -- region 8 expr.go:109
    refine wl (ro_cmp rfl rfl rfl) ?_
    refine wl (ro_assign rfl) ?_
    refine wl_nil (x_then (hK10 _ _ ?_))
    clear hK10 K10
    refine wc_cond rfl (fun hc21 => ?_) (fun hc21 => ?_)
    · try simp only [decide_eq_true_eq, decide_eq_false_iff_not, Bool.not_eq_true', Bool.not_eq_false', Bool.not_eq_eq_eq_not, Bool.not_true, Bool.not_false, beq_iff_eq, bne_iff_ne, ne_eq, beq_eq_false_iff_ne, bne_eq_false_iff_eq, gt_iff_lt, ge_iff_le, Int.not_lt, Int.not_le] at hc21
      rw [if_pos (by omega)] at hR
      refine c_reg ?_ -- region 9 expr.go:110
      refine wl (ro_assign rfl) ?_
      refine wl_nil (x_blk (x_then (hK8 _ _ ?_)))
      clear hK8 K8
      refine forget [(0, _), (1, _), (5, _), (6, _)] ⟨rfl, rfl, rfl, rfl, trivial⟩ (fun e => ?_)
      refine c_seq (fun K11 hK11 => ?_)
      refine c_reg ?_ -- region 14 expr.go:118
      refine wl (ro_move rfl) ?_
      refine wl_call rfl en_176 (next176 (hP.farN hF0) (hT.farN hF0) hne (by omega)) ?_
      rintro _ u1 ⟨rfl, hP1, F9⟩
      replace h5 := F9.blkO h5 (by omega)
      replace hF := hF.trans' F9 (fun _ _ h => h)
      refine wl_nil (x_then (hK11 _ _ ?_))
      clear hK11 K11
      refine forget [(0, _), (1, _), (5, _), (6, _)] ⟨rfl, rfl, rfl, rfl, trivial⟩ (fun e => ?_)
      refine c_seq (fun K12 hK12 => ?_)
      rcases bdP_some hR with ⟨⟨ee, pp⟩, hq, rfl⟩ | ⟨t1, s1, hq, hR⟩
      · skip
        refine c_reg ?_ -- region 15 expr.go:119
        refine wl (ro_move rfl) ?_
        refine wl (ro_move rfl) ?_
        refine wl (ro_arith rfl rfl rfl (Go.IntWalk.i64_in _ (by omega))) ?_
        refine wl_call rfl en_223 (ih.u2 (hG.adv hlv hF hP1) hq) ?_
        rintro v u3 hr
        obtain ⟨hF, rfl, hE⟩ := hr.thru hF
        refine wl (ro_assign rfl) ?_
        refine wl_nil (x_then (hK12 _ _ ?_))
        clear hK12 K12
        refine c_seq (fun K13 hK13 => ?_)
        refine c_seq (fun K14 hK14 => ?_)
        refine c_reg ?_ -- region 16 expr.go:120
        refine wl (ro_move rfl) ?_
        refine wl (ro_eqNilN rfl ifc_290) ?_
        refine wl_nil (x_then (hK14 _ _ ?_))
        clear hK14 K14
        refine wc_condT rfl ?_
        refine c_seq (fun K15 hK15 => ?_)
        refine c_reg ?_ -- region 17 expr.go:121
        refine wl (ro_assign rfl) ?_
        refine wl_nil (x_then (hK15 _ _ ?_))
        clear hK15 K15
        refine c_ret (x_thenR ?_)
        refine bp_ret Tryz.results223 rfl ?_
        exact ⟨hF, rfl, hE⟩
      · skip
        refine c_reg ?_ -- region 15 expr.go:119
        refine wl (ro_move rfl) ?_
        refine wl (ro_move rfl) ?_
        refine wl (ro_arith rfl rfl rfl (Go.IntWalk.i64_in _ (by omega))) ?_
        refine wl_call rfl en_223 (ih.u2 (hG.adv hlv hF hP1) hq) ?_
        rintro v u3 hr
        replace h5 := hr.1.blkO h5 (by omega)
        obtain ⟨hF, hT1, hP2⟩ := hr.thru hF
        obtain ⟨T, b, rfl⟩ := hT1.ifc (.inl rfl)
        refine wl (ro_assign rfl) ?_
        refine wl_nil (x_then (hK12 _ _ ?_))
        clear hK12 K12
        refine c_seq (fun K16 hK16 => ?_)
        refine c_seq (fun K17 hK17 => ?_)
        refine c_reg ?_ -- region 16 expr.go:120
        refine wl (ro_move rfl) ?_
        refine wl (ro_eqNilI rfl ifc_290) ?_
        refine wl_nil (x_then (hK17 _ _ ?_))
        clear hK17 K17
        refine wc_condF rfl ?_
        refine c_skip (x_then (hK16 _ _ ?_))
        clear hK16 K16
        refine forget [(5, _), (6, _), (7, _)] ⟨rfl, rfl, rfl, trivial⟩ (fun e => ?_)
        refine c_seq (fun K18 hK18 => ?_)
        refine c_reg ?_ -- region 18 expr.go:123
        refine wl (ro_fieldAddr (k := 1) rfl fo_182_1) ?_
        refine wl (ro_loadB rfl sc_3 (by assumption) rfl) ?_
        refine wl (ro_move rfl) ?_
        refine wl (ro_move rfl) ?_
        refine wl (ro_build rfl bld_394_0_1_2) ?_
        refine wl_box rfl rfl (fun b40 w3 hbb40 h40 F3 => ?_)
        have hbsb40 := Nat.le_trans hF.size hbb40
        have hneb5b40 : b5 < b40 := Nat.lt_of_lt_of_le h5.lt hbb40
        replace hF := hF.thenDrew.thenN F3
        replace h5 := F3.blkN h5
        have hF40 := (F3)
        refine wl (ro_mkIface rfl (by kernel_rfl)) ?_
        refine wl (ro_assign rfl) ?_
        refine wl_nil (x_then (hK18 _ _ ?_))
        clear hK18 K18
        refine c_ret ?_
        refine bp_ret Tryz.results223 rfl ?_
        cases okP_inj hR
        exact ⟨hF, TrM_un.2 ⟨b40, _, _, rfl, ⟨h40, nw_new (by omega)⟩, hT1.thruN hF40⟩, hP2.farN hF40⟩
    · try simp only [decide_eq_true_eq, decide_eq_false_iff_not, Bool.not_eq_true', Bool.not_eq_false', Bool.not_eq_eq_eq_not, Bool.not_true, Bool.not_false, beq_iff_eq, bne_iff_ne, ne_eq, beq_eq_false_iff_ne, bne_eq_false_iff_eq, gt_iff_lt, ge_iff_le, Int.not_lt, Int.not_le] at hc21
      rw [if_neg (by omega)] at hR
      refine c_seq (fun K19 hK19 => ?_)
      refine c_reg ?_ -- region 10 expr.go:111
      refine wl (ro_cmp rfl rfl rfl) ?_
      refine wl (ro_assign rfl) ?_
      refine wl_nil (x_then (hK19 _ _ ?_))
      clear hK19 K19
      refine wc_cond rfl (fun hc23 => ?_) (fun hc23 => ?_)
      · try simp only [decide_eq_true_eq, decide_eq_false_iff_not, Bool.not_eq_true', Bool.not_eq_false', Bool.not_eq_eq_eq_not, Bool.not_true, Bool.not_false, beq_iff_eq, bne_iff_ne, ne_eq, beq_eq_false_iff_ne, bne_eq_false_iff_eq, gt_iff_lt, ge_iff_le, Int.not_lt, Int.not_le] at hc23
        rw [if_pos (by omega)] at hR
        refine c_reg ?_ -- region 11 expr.go:112
        refine wl (ro_assign rfl) ?_
        refine wl_nil (x_blk (x_then (hK8 _ _ ?_)))
        clear hK8 K8
        refine forget [(0, _), (1, _), (5, _), (6, _)] ⟨rfl, rfl, rfl, rfl, trivial⟩ (fun e => ?_)
        refine c_seq (fun K20 hK20 => ?_)
        refine c_reg ?_ -- region 14 expr.go:118
        refine wl (ro_move rfl) ?_
        refine wl_call rfl en_176 (next176 (hP.farN hF0) (hT.farN hF0) hne (by omega)) ?_
        rintro _ u1 ⟨rfl, hP1, F9⟩
        replace h5 := F9.blkO h5 (by omega)
        replace hF := hF.trans' F9 (fun _ _ h => h)
        refine wl_nil (x_then (hK20 _ _ ?_))
        clear hK20 K20
        refine forget [(0, _), (1, _), (5, _), (6, _)] ⟨rfl, rfl, rfl, rfl, trivial⟩ (fun e => ?_)
        refine c_seq (fun K21 hK21 => ?_)
        rcases bdP_some hR with ⟨⟨ee, pp⟩, hq, rfl⟩ | ⟨t1, s1, hq, hR⟩
        · skip
          refine c_reg ?_ -- region 15 expr.go:119
          refine wl (ro_move rfl) ?_
          refine wl (ro_move rfl) ?_
          refine wl (ro_arith rfl rfl rfl (Go.IntWalk.i64_in _ (by omega))) ?_
          refine wl_call rfl en_223 (ih.u2 (hG.adv hlv hF hP1) hq) ?_
          rintro v u3 hr
          obtain ⟨hF, rfl, hE⟩ := hr.thru hF
          refine wl (ro_assign rfl) ?_
          refine wl_nil (x_then (hK21 _ _ ?_))
          clear hK21 K21
          refine c_seq (fun K22 hK22 => ?_)
          refine c_seq (fun K23 hK23 => ?_)
          refine c_reg ?_ -- region 16 expr.go:120
          refine wl (ro_move rfl) ?_
          refine wl (ro_eqNilN rfl ifc_290) ?_
          refine wl_nil (x_then (hK23 _ _ ?_))
          clear hK23 K23
          refine wc_condT rfl ?_
          refine c_seq (fun K24 hK24 => ?_)
          refine c_reg ?_ -- region 17 expr.go:121
          refine wl (ro_assign rfl) ?_
          refine wl_nil (x_then (hK24 _ _ ?_))
          clear hK24 K24
          refine c_ret (x_thenR ?_)
          refine bp_ret Tryz.results223 rfl ?_
          exact ⟨hF, rfl, hE⟩
        · skip
          refine c_reg ?_ -- region 15 expr.go:119
          refine wl (ro_move rfl) ?_
          refine wl (ro_move rfl) ?_
          refine wl (ro_arith rfl rfl rfl (Go.IntWalk.i64_in _ (by omega))) ?_
          refine wl_call rfl en_223 (ih.u2 (hG.adv hlv hF hP1) hq) ?_
          rintro v u3 hr
          replace h5 := hr.1.blkO h5 (by omega)
          obtain ⟨hF, hT1, hP2⟩ := hr.thru hF
          obtain ⟨T, b, rfl⟩ := hT1.ifc (.inl rfl)
          refine wl (ro_assign rfl) ?_
          refine wl_nil (x_then (hK21 _ _ ?_))
          clear hK21 K21
          refine c_seq (fun K25 hK25 => ?_)
          refine c_seq (fun K26 hK26 => ?_)
          refine c_reg ?_ -- region 16 expr.go:120
          refine wl (ro_move rfl) ?_
          refine wl (ro_eqNilI rfl ifc_290) ?_
          refine wl_nil (x_then (hK26 _ _ ?_))
          clear hK26 K26
          refine wc_condF rfl ?_
          refine c_skip (x_then (hK25 _ _ ?_))
          clear hK25 K25
          refine forget [(5, _), (6, _), (7, _)] ⟨rfl, rfl, rfl, trivial⟩ (fun e => ?_)
          refine c_seq (fun K27 hK27 => ?_)
          refine c_reg ?_ -- region 18 expr.go:123
          refine wl (ro_fieldAddr (k := 1) rfl fo_182_1) ?_
          refine wl (ro_loadB rfl sc_3 (by assumption) rfl) ?_
          refine wl (ro_move rfl) ?_
          refine wl (ro_move rfl) ?_
          refine wl (ro_build rfl bld_394_0_1_2) ?_
          refine wl_box rfl rfl (fun b40 w4 hbb40 h40 F4 => ?_)
          have hbsb40 := Nat.le_trans hF.size hbb40
          have hneb5b40 : b5 < b40 := Nat.lt_of_lt_of_le h5.lt hbb40
          replace hF := hF.thenDrew.thenN F4
          replace h5 := F4.blkN h5
          have hF40 := (F4)
          refine wl (ro_mkIface rfl (by kernel_rfl)) ?_
          refine wl (ro_assign rfl) ?_
          refine wl_nil (x_then (hK27 _ _ ?_))
          clear hK27 K27
          refine c_ret ?_
          refine bp_ret Tryz.results223 rfl ?_
          cases okP_inj hR
          exact ⟨hF, TrM_un.2 ⟨b40, _, _, rfl, ⟨h40, nw_new (by omega)⟩, hT1.thruN hF40⟩, hP2.farN hF40⟩
      · try simp only [decide_eq_true_eq, decide_eq_false_iff_not, Bool.not_eq_true', Bool.not_eq_false', Bool.not_eq_eq_eq_not, Bool.not_true, Bool.not_false, beq_iff_eq, bne_iff_ne, ne_eq, beq_eq_false_iff_ne, bne_eq_false_iff_eq, gt_iff_lt, ge_iff_le, Int.not_lt, Int.not_le] at hc23
        rw [if_neg (by omega)] at hR
        refine c_seq (fun K28 hK28 => ?_)
        refine c_reg ?_ -- region 12 expr.go:113
        refine wl (ro_cmp rfl rfl rfl) ?_
        refine wl (ro_assign rfl) ?_
        refine wl_nil (x_then (hK28 _ _ ?_))
        clear hK28 K28
        refine wc_cond rfl (fun hc25 => ?_) (fun hc25 => ?_)
        · try simp only [decide_eq_true_eq, decide_eq_false_iff_not, Bool.not_eq_true', Bool.not_eq_false', Bool.not_eq_eq_eq_not, Bool.not_true, Bool.not_false, beq_iff_eq, bne_iff_ne, ne_eq, beq_eq_false_iff_ne, bne_eq_false_iff_eq, gt_iff_lt, ge_iff_le, Int.not_lt, Int.not_le] at hc25
          rw [if_pos (by omega)] at hR
          refine c_reg ?_ -- region 13 expr.go:114
          refine wl (ro_assign rfl) ?_
          refine wl_nil (x_blk (x_then (hK8 _ _ ?_)))
          clear hK8 K8
          refine forget [(0, _), (1, _), (5, _), (6, _)] ⟨rfl, rfl, rfl, rfl, trivial⟩ (fun e => ?_)
          refine c_seq (fun K29 hK29 => ?_)
          refine c_reg ?_ -- region 14 expr.go:118
          refine wl (ro_move rfl) ?_
          refine wl_call rfl en_176 (next176 (hP.farN hF0) (hT.farN hF0) hne (by omega)) ?_
          rintro _ u1 ⟨rfl, hP1, F9⟩
          replace h5 := F9.blkO h5 (by omega)
          replace hF := hF.trans' F9 (fun _ _ h => h)
          refine wl_nil (x_then (hK29 _ _ ?_))
          clear hK29 K29
          refine forget [(0, _), (1, _), (5, _), (6, _)] ⟨rfl, rfl, rfl, rfl, trivial⟩ (fun e => ?_)
          refine c_seq (fun K30 hK30 => ?_)
          rcases bdP_some hR with ⟨⟨ee, pp⟩, hq, rfl⟩ | ⟨t1, s1, hq, hR⟩
          · skip
            refine c_reg ?_ -- region 15 expr.go:119
            refine wl (ro_move rfl) ?_
            refine wl (ro_move rfl) ?_
            refine wl (ro_arith rfl rfl rfl (Go.IntWalk.i64_in _ (by omega))) ?_
            refine wl_call rfl en_223 (ih.u2 (hG.adv hlv hF hP1) hq) ?_
            rintro v u3 hr
            obtain ⟨hF, rfl, hE⟩ := hr.thru hF
            refine wl (ro_assign rfl) ?_
            refine wl_nil (x_then (hK30 _ _ ?_))
            clear hK30 K30
            refine c_seq (fun K31 hK31 => ?_)
            refine c_seq (fun K32 hK32 => ?_)
            refine c_reg ?_ -- region 16 expr.go:120
            refine wl (ro_move rfl) ?_
            refine wl (ro_eqNilN rfl ifc_290) ?_
            refine wl_nil (x_then (hK32 _ _ ?_))
            clear hK32 K32
            refine wc_condT rfl ?_
            refine c_seq (fun K33 hK33 => ?_)
            refine c_reg ?_ -- region 17 expr.go:121
            refine wl (ro_assign rfl) ?_
            refine wl_nil (x_then (hK33 _ _ ?_))
            clear hK33 K33
            refine c_ret (x_thenR ?_)
            refine bp_ret Tryz.results223 rfl ?_
            exact ⟨hF, rfl, hE⟩
          · skip
            refine c_reg ?_ -- region 15 expr.go:119
            refine wl (ro_move rfl) ?_
            refine wl (ro_move rfl) ?_
            refine wl (ro_arith rfl rfl rfl (Go.IntWalk.i64_in _ (by omega))) ?_
            refine wl_call rfl en_223 (ih.u2 (hG.adv hlv hF hP1) hq) ?_
            rintro v u3 hr
            replace h5 := hr.1.blkO h5 (by omega)
            obtain ⟨hF, hT1, hP2⟩ := hr.thru hF
            obtain ⟨T, b, rfl⟩ := hT1.ifc (.inl rfl)
            refine wl (ro_assign rfl) ?_
            refine wl_nil (x_then (hK30 _ _ ?_))
            clear hK30 K30
            refine c_seq (fun K34 hK34 => ?_)
            refine c_seq (fun K35 hK35 => ?_)
            refine c_reg ?_ -- region 16 expr.go:120
            refine wl (ro_move rfl) ?_
            refine wl (ro_eqNilI rfl ifc_290) ?_
            refine wl_nil (x_then (hK35 _ _ ?_))
            clear hK35 K35
            refine wc_condF rfl ?_
            refine c_skip (x_then (hK34 _ _ ?_))
            clear hK34 K34
            refine forget [(5, _), (6, _), (7, _)] ⟨rfl, rfl, rfl, trivial⟩ (fun e => ?_)
            refine c_seq (fun K36 hK36 => ?_)
            refine c_reg ?_ -- region 18 expr.go:123
            refine wl (ro_fieldAddr (k := 1) rfl fo_182_1) ?_
            refine wl (ro_loadB rfl sc_3 (by assumption) rfl) ?_
            refine wl (ro_move rfl) ?_
            refine wl (ro_move rfl) ?_
            refine wl (ro_build rfl bld_394_0_1_2) ?_
            refine wl_box rfl rfl (fun b40 w5 hbb40 h40 F5 => ?_)
            have hbsb40 := Nat.le_trans hF.size hbb40
            have hneb5b40 : b5 < b40 := Nat.lt_of_lt_of_le h5.lt hbb40
            replace hF := hF.thenDrew.thenN F5
            replace h5 := F5.blkN h5
            have hF40 := (F5)
            refine wl (ro_mkIface rfl (by kernel_rfl)) ?_
            refine wl (ro_assign rfl) ?_
            refine wl_nil (x_then (hK36 _ _ ?_))
            clear hK36 K36
            refine c_ret ?_
            refine bp_ret Tryz.results223 rfl ?_
            cases okP_inj hR
            exact ⟨hF, TrM_un.2 ⟨b40, _, _, rfl, ⟨h40, nw_new (by omega)⟩, hT1.thruN hF40⟩, hP2.farN hF40⟩
        · try simp only [decide_eq_true_eq, decide_eq_false_iff_not, Bool.not_eq_true', Bool.not_eq_false', Bool.not_eq_eq_eq_not, Bool.not_true, Bool.not_false, beq_iff_eq, bne_iff_ne, ne_eq, beq_eq_false_iff_ne, bne_eq_false_iff_eq, gt_iff_lt, ge_iff_le, Int.not_lt, Int.not_le] at hc25
          rw [if_neg (by omega)] at hR
          refine c_seq (fun K37 hK37 => ?_)
          refine c_reg ?_ -- region 7 expr.go:116
          refine wl (ro_move rfl) ?_
          refine wl (ro_move rfl) ?_
          refine wl_call rfl en_183 (ih.p3 (hG.at hF (hP.farN hF0) hG.pe hl13 hG.lo hρ) hR) ?_
          rintro v u3 hr
          refine wl (ro_assign rfl) ?_
          refine wl_nil (x_then (hK37 _ _ ?_))
          clear hK37 K37
          refine c_ret (x_blkR (x_thenR ?_))
          refine bp_ret Tryz.results223 rfl ?_
          exact hr.thru hF
end Go.Proofs.Qxb6500568aGreatDoor
