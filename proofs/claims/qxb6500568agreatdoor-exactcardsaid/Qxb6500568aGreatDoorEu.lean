import Derived.Test.Qxb6500568aGreatDoorEt
/- The real parser: statements; all of it. -/
namespace Go.Proofs.Qxb6500568aGreatDoor
open Ieee
set_option linter.unusedVariables false
set_option linter.unusedSimpArgs false

set_option maxHeartbeats 8000000 in
theorem stmt135 {f : Nat} {w : World} {ow : Nat → Nat} {pb tb cap : Nat} {L : List Tok} {s : PS} {lv : Nat} {ρ : Int} {R : PO} (ih : PAll f) (hG : PGo w ow pb tb cap L s lv ρ) (hlv : lv ≤ 12) (hR : parP (f + 1) 8 lv 0 0 dumT s = some R) : Ret Tryz.prog 135 [ptr pb, .int .i64 ρ] w (Rs1 w ow pb tb cap L 2 R) := by
  have hP := hG.pr
  have hT := hG.cx.tk
  have hne := hG.cx.ne
  have hρ := hG.rm
  have hPl := hG.cx.pl
  have hl13 := hG.l13
  have hglo := hG.lo
  have hF : Fram (one pb) w w := Fram.refl _ _
  have hF0 : Fram none' w w := Fram.refl _ _
  have hmpb : one pb pb := rfl
  replace hR : pStmt (parP f) lv s = some R := hR
  unfold pStmt at hR
  obtain ⟨i, hX, hi, hs⟩ := hP.ex
  unfold prc at hX
  have hkk : s.k = s.cur.k := rfl
  have hpe0 := hG.pe.cm (Cm.adv hG.pe)
  refine ret_of Tryz.func135 rfl Tryz.ntmps135 rfl ?_
  refine c_seq (fun K1 hK1 => ?_)
  refine c_reg ?_ -- region 0 parse.go:44
  refine wl (ro_assign rfl) ?_
  refine wl_nil (x_then (hK1 _ _ ?_))
  clear hK1 K1
  refine forget [(0, _), (1, _)] ⟨rfl, rfl, trivial⟩ (fun e => ?_)
  refine c_seq (fun K2 hK2 => ?_)
  refine c_reg ?_ -- region 1 parse.go:45
  refine wl (ro_move rfl) ?_
  refine wl (ro_nilCheck rfl) ?_
  refine wl (ro_fieldAddr (k := 2) rfl fo_186_2) ?_
  refine wl (ro_loadAggB rfl ag_182 (by assumption) rfl rfl) ?_
  refine wl_new (ze_182) (fun b5 w1 hbb5 h5 F1 => ?_)
  have hbsb5 := Nat.le_trans hF.size hbb5
  have hnepbb5 : pb < b5 := Nat.lt_of_lt_of_le hX.lt hbb5
  have hbsb5 := Nat.le_trans hF0.size hbb5
  replace hF := hF.thenDrew.thenN F1
  replace hX := F1.blkN hX
  replace hF0 := hF0.thenDrew.thenN F1
  refine wl_puta rfl rfl ((by (try exact vlc_cells _); all_goals simp [Value.oneCell', i64c, icv, u64c, u8c, ptr, S])) sz_182 (rfl) h5 ((by simp)) (rfl) (fun w2 h5 F2 => ?_)
  replace hF := hF.thenDrew.thenO F2 (by first | exact .inr (by omega) | exact .inl rfl | exact .inl (by assumption) | assumption)
  replace hX := F2.blkO hX (by omega)
  replace hF0 := hF0.thenDrew.thenO F2 (by first | exact .inr (by omega) | exact .inl rfl | exact .inl (by assumption) | assumption)
  refine wl_nil (x_then (hK2 _ _ ?_))
  clear hK2 K2
  refine c_seq (fun K3 hK3 => ?_)
  refine c_seq (fun K4 hK4 => ?_)
  refine c_reg ?_ -- region 2 parse.go:46
  refine wl (ro_fieldAddr (k := 0) rfl fo_182_0) ?_
  refine wl (ro_loadB rfl sc_180 (by assumption) rfl) ?_
  refine wl_nil (x_then (hK4 _ _ ?_))
  clear hK4 K4
  refine c_block ?_
  refine forget [(0, _), (1, _), (5, _), (19, _)] ⟨rfl, rfl, rfl, rfl, trivial⟩ (fun e => ?_)
  refine c_seq (fun K5 hK5 => ?_)
  refine c_reg ?_ -- region 3 parse.go:47
  refine wl (ro_cmp rfl rfl rfl) ?_
  refine wl (ro_assign rfl) ?_
  refine wl_nil (x_then (hK5 _ _ ?_))
  clear hK5 K5
  refine wc_cond rfl (fun hc20 => ?_) (fun hc20 => ?_)
  · try simp only [decide_eq_true_eq, decide_eq_false_iff_not, Bool.not_eq_true', Bool.not_eq_false', Bool.not_eq_eq_eq_not, Bool.not_true, Bool.not_false, beq_iff_eq, bne_iff_ne, ne_eq, beq_eq_false_iff_ne, bne_eq_false_iff_eq, gt_iff_lt, ge_iff_le, Int.not_lt, Int.not_le] at hc20
    rw [if_pos (by omega)] at hR
    refine c_seq (fun K6 hK6 => ?_)
    refine c_reg ?_ -- region 4 parse.go:48
    refine wl (ro_move rfl) ?_
    refine wl_call rfl en_176 (next176 (hP.farN hF0) (hT.farN hF0) hne (by omega)) ?_
    rintro _ u1 ⟨rfl, hP1, F9⟩
    replace hF := hF.trans' F9 (fun _ _ h => h)
    replace h5 := F9.blkO h5 (by omega)
    refine wl_nil (x_then (hK6 _ _ ?_))
    clear hK6 K6
    refine forget [(0, _), (1, _)] ⟨rfl, rfl, trivial⟩ (fun e => ?_)
    refine c_seq (fun K7 hK7 => ?_)
    refine c_reg ?_ -- region 5 parse.go:49
    refine wl (ro_move rfl) ?_
    refine wl (ro_move rfl) ?_
    refine wl_call rfl en_177 (local177 ih (hG.at (lv1 := lv) (ρ1 := ρ) hF hP1 hpe0 hl13 hglo hρ) hlv hR) ?_
    rintro v u2 hr
    refine wl (ro_assign rfl) ?_
    refine wl_nil (x_then (hK7 _ _ ?_))
    clear hK7 K7
    refine c_ret (x_blkR (x_thenR ?_))
    refine bp_ret Tryz.results135 rfl ?_
    exact hr.thru hF
  · try simp only [decide_eq_true_eq, decide_eq_false_iff_not, Bool.not_eq_true', Bool.not_eq_false', Bool.not_eq_eq_eq_not, Bool.not_true, Bool.not_false, beq_iff_eq, bne_iff_ne, ne_eq, beq_eq_false_iff_ne, bne_eq_false_iff_eq, gt_iff_lt, ge_iff_le, Int.not_lt, Int.not_le] at hc20
    rw [if_neg (by omega)] at hR
    refine c_seq (fun K8 hK8 => ?_)
    refine c_reg ?_ -- region 6 parse.go:50
    refine wl (ro_cmp rfl rfl rfl) ?_
    refine wl (ro_assign rfl) ?_
    refine wl_nil (x_then (hK8 _ _ ?_))
    clear hK8 K8
    refine wc_cond rfl (fun hc27 => ?_) (fun hc27 => ?_)
    · try simp only [decide_eq_true_eq, decide_eq_false_iff_not, Bool.not_eq_true', Bool.not_eq_false', Bool.not_eq_eq_eq_not, Bool.not_true, Bool.not_false, beq_iff_eq, bne_iff_ne, ne_eq, beq_eq_false_iff_ne, bne_eq_false_iff_eq, gt_iff_lt, ge_iff_le, Int.not_lt, Int.not_le] at hc27
      rw [if_pos (by omega)] at hR
      refine c_seq (fun K9 hK9 => ?_)
      refine c_reg ?_ -- region 7 parse.go:51
      refine wl (ro_move rfl) ?_
      refine wl (ro_move rfl) ?_
      refine wl_call rfl en_178 (ih.i9 (hG.at (lv1 := lv) (ρ1 := ρ) hF (hP.farN hF0) hG.pe hl13 hglo hρ) hlv (by omega) hR) ?_
      rintro v u2 hr
      refine wl (ro_assign rfl) ?_
      refine wl_nil (x_then (hK9 _ _ ?_))
      clear hK9 K9
      refine c_ret (x_blkR (x_thenR ?_))
      refine bp_ret Tryz.results135 rfl ?_
      exact hr.thru hF
    · try simp only [decide_eq_true_eq, decide_eq_false_iff_not, Bool.not_eq_true', Bool.not_eq_false', Bool.not_eq_eq_eq_not, Bool.not_true, Bool.not_false, beq_iff_eq, bne_iff_ne, ne_eq, beq_eq_false_iff_ne, bne_eq_false_iff_eq, gt_iff_lt, ge_iff_le, Int.not_lt, Int.not_le] at hc27
      rw [if_neg (by omega)] at hR
      refine c_seq (fun K10 hK10 => ?_)
      refine c_reg ?_ -- region 8 parse.go:52
      refine wl (ro_cmp rfl rfl rfl) ?_
      refine wl (ro_assign rfl) ?_
      refine wl_nil (x_then (hK10 _ _ ?_))
      clear hK10 K10
      refine wc_cond rfl (fun hc32 => ?_) (fun hc32 => ?_)
      · try simp only [decide_eq_true_eq, decide_eq_false_iff_not, Bool.not_eq_true', Bool.not_eq_false', Bool.not_eq_eq_eq_not, Bool.not_true, Bool.not_false, beq_iff_eq, bne_iff_ne, ne_eq, beq_eq_false_iff_ne, bne_eq_false_iff_eq, gt_iff_lt, ge_iff_le, Int.not_lt, Int.not_le] at hc32
        rw [if_pos (by omega)] at hR
        refine c_seq (fun K11 hK11 => ?_)
        refine c_reg ?_ -- region 9 parse.go:53
        refine wl (ro_move rfl) ?_
        refine wl_call rfl en_176 (next176 (hP.farN hF0) (hT.farN hF0) hne (by omega)) ?_
        rintro _ u1 ⟨rfl, hP1, F9⟩
        replace hF := hF.trans' F9 (fun _ _ h => h)
        replace h5 := F9.blkO h5 (by omega)
        refine wl_nil (x_then (hK11 _ _ ?_))
        clear hK11 K11
        refine forget [(0, _), (1, _)] ⟨rfl, rfl, trivial⟩ (fun e => ?_)
        refine c_seq (fun K12 hK12 => ?_)
        refine c_reg ?_ -- region 10 parse.go:54
        refine wl (ro_move rfl) ?_
        refine wl (ro_move rfl) ?_
        refine wl_call rfl en_179 (loopFor179 ih (hG.at (lv1 := lv) (ρ1 := ρ) hF hP1 hpe0 hl13 hglo hρ) hlv hR) ?_
        rintro v u2 hr
        refine wl (ro_assign rfl) ?_
        refine wl_nil (x_then (hK12 _ _ ?_))
        clear hK12 K12
        refine c_ret (x_blkR (x_thenR ?_))
        refine bp_ret Tryz.results135 rfl ?_
        exact hr.thru hF
      · try simp only [decide_eq_true_eq, decide_eq_false_iff_not, Bool.not_eq_true', Bool.not_eq_false', Bool.not_eq_eq_eq_not, Bool.not_true, Bool.not_false, beq_iff_eq, bne_iff_ne, ne_eq, beq_eq_false_iff_ne, bne_eq_false_iff_eq, gt_iff_lt, ge_iff_le, Int.not_lt, Int.not_le] at hc32
        rw [if_neg (by omega)] at hR
        refine c_seq (fun K13 hK13 => ?_)
        refine c_reg ?_ -- region 11 parse.go:55
        refine wl (ro_cmp rfl rfl rfl) ?_
        refine wl (ro_assign rfl) ?_
        refine wl_nil (x_then (hK13 _ _ ?_))
        clear hK13 K13
        refine wc_cond rfl (fun hc39 => ?_) (fun hc39 => ?_)
        · try simp only [decide_eq_true_eq, decide_eq_false_iff_not, Bool.not_eq_true', Bool.not_eq_false', Bool.not_eq_eq_eq_not, Bool.not_true, Bool.not_false, beq_iff_eq, bne_iff_ne, ne_eq, beq_eq_false_iff_ne, bne_eq_false_iff_eq, gt_iff_lt, ge_iff_le, Int.not_lt, Int.not_le] at hc39
          rw [if_pos (by omega)] at hR
          refine c_seq (fun K14 hK14 => ?_)
          refine c_reg ?_ -- region 12 parse.go:56
          refine wl (ro_move rfl) ?_
          refine wl_call rfl en_176 (next176 (hP.farN hF0) (hT.farN hF0) hne (by omega)) ?_
          rintro _ u1 ⟨rfl, hP1, F9⟩
          replace hF := hF.trans' F9 (fun _ _ h => h)
          replace h5 := F9.blkO h5 (by omega)
          refine wl_nil (x_then (hK14 _ _ ?_))
          clear hK14 K14
          refine forget [(0, _), (1, _), (5, _)] ⟨rfl, rfl, rfl, trivial⟩ (fun e => ?_)
          refine c_seq (fun K15 hK15 => ?_)
          rcases bdP_some hR with ⟨⟨ee, pp⟩, hq, rfl⟩ | ⟨t1, s1, hq, hR⟩
          · skip
            refine c_reg ?_ -- region 13 parse.go:57
            refine wl (ro_move rfl) ?_
            refine wl (ro_move rfl) ?_
            refine wl (ro_arith rfl rfl rfl (Go.IntWalk.i64_in _ (by omega))) ?_
            refine wl_call rfl en_180 (ih.e0 (r := 1) (hG.adv hlv hF hP1) (by decide) (by decide) hq) ?_
            rintro v u3 ⟨F9, rfl, hE⟩
            replace hF := hF.trans' F9 (fun _ _ h => h)
            replace h5 := F9.blkO h5 (by omega)
            refine wl (ro_assign rfl) ?_
            refine wl_nil (x_then (hK15 _ _ ?_))
            clear hK15 K15
            refine c_seq (fun K16 hK16 => ?_)
            refine c_seq (fun K17 hK17 => ?_)
            refine c_reg ?_ -- region 14 parse.go:58
            refine wl (ro_move rfl) ?_
            refine wl (ro_eqNilN rfl ifc_290) ?_
            refine wl_nil (x_then (hK17 _ _ ?_))
            clear hK17 K17
            refine wc_condT rfl ?_
            refine c_seq (fun K18 hK18 => ?_)
            refine c_reg ?_ -- region 15 parse.go:59
            refine wl (ro_assign rfl) ?_
            refine wl_nil (x_then (hK18 _ _ ?_))
            clear hK18 K18
            refine c_ret (x_thenR (x_blkR (x_thenR ?_)))
            refine bp_ret Tryz.results135 rfl ?_
            exact ⟨hF, rfl, hE⟩
          · skip
            refine c_reg ?_ -- region 13 parse.go:57
            refine wl (ro_move rfl) ?_
            refine wl (ro_move rfl) ?_
            refine wl (ro_arith rfl rfl rfl (Go.IntWalk.i64_in _ (by omega))) ?_
            refine wl_call rfl en_180 (ih.e0 (r := 1) (hG.adv hlv hF hP1) (by decide) (by decide) hq) ?_
            rintro v u3 hr
            have F9 := hr.1
            obtain ⟨hF9, hT3, hP3⟩ := hr.thru hF
            obtain ⟨TT, bb, rfl⟩ := hT3.ifc (.inl rfl)
            obtain ⟨_, hSm1, _, hlv1⟩ := (par_q f).i0 hpe0 t1 s1 hq
            have hlo3 : s1.lo = s.lo := hSm1.lo
            replace hF := hF.trans' F9 (fun _ _ h => h)
            replace h5 := F9.blkO h5 (by omega)
            refine wl (ro_assign rfl) ?_
            refine wl_nil (x_then (hK15 _ _ ?_))
            clear hK15 K15
            refine c_seq (fun K19 hK19 => ?_)
            refine c_seq (fun K20 hK20 => ?_)
            refine c_reg ?_ -- region 14 parse.go:58
            refine wl (ro_move rfl) ?_
            refine wl (ro_eqNilI rfl ifc_290) ?_
            refine wl_nil (x_then (hK20 _ _ ?_))
            clear hK20 K20
            refine wc_condF rfl ?_
            refine c_skip (x_then (hK19 _ _ ?_))
            clear hK19 K19
            refine forget [(0, _), (1, _), (5, _), (6, _)] ⟨rfl, rfl, rfl, rfl, trivial⟩ (fun e => ?_)
            refine c_seq (fun K21 hK21 => ?_)
            rcases bdP_some hR with ⟨⟨ee, pp⟩, hq, rfl⟩ | ⟨t2, s2, hq, hR⟩
            · skip
              refine c_reg ?_ -- region 16 parse.go:61
              refine wl (ro_move rfl) ?_
              refine wl (ro_move rfl) ?_
              refine wl_call rfl en_181 (ih.d10 (r := 0) (hG.at (lv1 := lv) (ρ1 := ρ) hF hP3 (hpe0.cm hSm1.toCm) hl13 (by omega) hρ) hlv hP3.al hq) ?_
              rintro v u4 ⟨F9, rfl, hE⟩
              have hcx_ := hG.cx.go hF
              replace hF := hF.trans' F9 (fun _ _ h => h)
              replace h5 := F9.blkO h5 (by omega)
              replace hT3 := hT3.thru hcx_ F9
              refine wl (ro_move rfl) ?_
              refine wl (ro_extract rfl rfl) ?_
              refine wl (ro_extract rfl rfl) ?_
              refine wl (ro_assign rfl) ?_
              refine wl (ro_assign rfl) ?_
              refine wl_nil (x_then (hK21 _ _ ?_))
              clear hK21 K21
              refine c_seq (fun K22 hK22 => ?_)
              refine c_seq (fun K23 hK23 => ?_)
              refine c_reg ?_ -- region 17 parse.go:62
              refine wl (ro_move rfl) ?_
              refine wl (ro_not rfl) ?_
              refine wl_nil (x_then (hK23 _ _ ?_))
              clear hK23 K23
              refine wc_condT rfl ?_
              refine c_seq (fun K24 hK24 => ?_)
              refine c_reg ?_ -- region 18 parse.go:63
              refine wl (ro_assign rfl) ?_
              refine wl_nil (x_then (hK24 _ _ ?_))
              clear hK24 K24
              refine c_ret (x_thenR (x_blkR (x_thenR ?_)))
              refine bp_ret Tryz.results135 rfl ?_
              exact ⟨hF, rfl, hE⟩
            · skip
              refine c_reg ?_ -- region 16 parse.go:61
              refine wl (ro_move rfl) ?_
              refine wl (ro_move rfl) ?_
              refine wl_call rfl en_181 (ih.d10 (r := 0) (hG.at (lv1 := lv) (ρ1 := ρ) hF hP3 (hpe0.cm hSm1.toCm) hl13 (by omega) hρ) hlv hP3.al hq) ?_
              rintro v u4 hr
              have F9 := hr.1
              obtain ⟨hF9, U4, us4, rfl, hU4, hT4, hP4⟩ := hr.thru hF
              obtain ⟨ua4, uc4, rfl⟩ := OwT.form hU4
              have hcx_ := hG.cx.go hF
              replace hF := hF.trans' F9 (fun _ _ h => h)
              replace h5 := F9.blkO h5 (by omega)
              replace hT3 := hT3.thru hcx_ F9
              refine wl (ro_move rfl) ?_
              refine wl (ro_extract rfl rfl) ?_
              refine wl (ro_extract rfl rfl) ?_
              refine wl (ro_assign rfl) ?_
              refine wl (ro_assign rfl) ?_
              refine wl_nil (x_then (hK21 _ _ ?_))
              clear hK21 K21
              refine c_seq (fun K25 hK25 => ?_)
              refine c_seq (fun K26 hK26 => ?_)
              refine c_reg ?_ -- region 17 parse.go:62
              refine wl (ro_move rfl) ?_
              refine wl (ro_not rfl) ?_
              refine wl_nil (x_then (hK26 _ _ ?_))
              clear hK26 K26
              refine wc_condF rfl ?_
              refine c_skip (x_then (hK25 _ _ ?_))
              clear hK25 K25
              refine forget [(5, _), (6, _), (7, _)] ⟨rfl, rfl, rfl, trivial⟩ (fun e => ?_)
              refine c_seq (fun K27 hK27 => ?_)
              refine c_reg ?_ -- region 19 parse.go:65
              refine wl (ro_fieldAddr (k := 1) rfl fo_182_1) ?_
              refine wl (ro_loadB rfl sc_3 (by assumption) rfl) ?_
              refine wl (ro_move rfl) ?_
              refine wl (ro_move rfl) ?_
              refine wl (ro_build rfl bld_295_0_1_2) ?_
              refine wl_box rfl rfl (fun b62 w3 hbb62 h62 F3 => ?_)
              have hbsb62 := Nat.le_trans hF.size hbb62
              have hneb5b62 : b5 < b62 := Nat.lt_of_lt_of_le h5.lt hbb62
              replace hF := hF.thenDrew.thenN F3
              replace h5 := F3.blkN h5
              replace hT3 := hT3.thruN ((Fram.refl none' _).thenDrew.thenN F3)
              replace hU4 := hU4.thruN ((Fram.refl none' _).thenDrew.thenN F3)
              replace hT4 := hT4.thruN ((Fram.refl none' _).thenDrew.thenN F3)
              replace hP4 := hP4.farN (F3)
              refine wl (ro_mkIface rfl (by kernel_rfl)) ?_
              refine wl (ro_assign rfl) ?_
              refine wl_nil (x_then (hK27 _ _ ?_))
              clear hK27 K27
              refine c_ret (x_blkR (x_thenR ?_))
              refine bp_ret Tryz.results135 rfl ?_
              cases okP_inj hR
              exact ⟨hF, TrM_whl.2 ⟨b62, _, _, _, us4, rfl, ⟨h62, nw_new hbsb62⟩, hT3, hU4, hT4⟩, hP4⟩
        · try simp only [decide_eq_true_eq, decide_eq_false_iff_not, Bool.not_eq_true', Bool.not_eq_false', Bool.not_eq_eq_eq_not, Bool.not_true, Bool.not_false, beq_iff_eq, bne_iff_ne, ne_eq, beq_eq_false_iff_ne, bne_eq_false_iff_eq, gt_iff_lt, ge_iff_le, Int.not_lt, Int.not_le] at hc39
          rw [if_neg (by omega)] at hR
          refine c_seq (fun K28 hK28 => ?_)
          refine c_reg ?_ -- region 20 parse.go:66
          refine wl (ro_cmp rfl rfl rfl) ?_
          refine wl (ro_assign rfl) ?_
          refine wl_nil (x_then (hK28 _ _ ?_))
          clear hK28 K28
          refine wc_cond rfl (fun hc64 => ?_) (fun hc64 => ?_)
          · try simp only [decide_eq_true_eq, decide_eq_false_iff_not, Bool.not_eq_true', Bool.not_eq_false', Bool.not_eq_eq_eq_not, Bool.not_true, Bool.not_false, beq_iff_eq, bne_iff_ne, ne_eq, beq_eq_false_iff_ne, bne_eq_false_iff_eq, gt_iff_lt, ge_iff_le, Int.not_lt, Int.not_le] at hc64
            rw [if_pos (by omega)] at hR
            refine c_seq (fun K29 hK29 => ?_)
            refine c_seq (fun K30 hK30 => ?_)
            refine c_reg ?_ -- region 21 parse.go:67
            refine wl (ro_move rfl) ?_
            refine wl (ro_nilCheck rfl) ?_
            refine wl (ro_fieldAddr (k := 7) rfl fo_186_3) ?_
            refine wl (ro_fieldAddr (k := 1) rfl fo_184_1) ?_
            refine wl (ro_loadB rfl sc_3 (by assumption) rfl) ?_
            refine wl (ro_cmp rfl rfl rfl) ?_
            refine wl_nil (x_then (hK30 _ _ ?_))
            clear hK30 K30
            refine wc_cond rfl (fun hc71 => ?_) (fun hc71 => ?_)
            · try simp only [decide_eq_true_eq, decide_eq_false_iff_not, Bool.not_eq_true', Bool.not_eq_false', Bool.not_eq_eq_eq_not, Bool.not_true, Bool.not_false, beq_iff_eq, bne_iff_ne, ne_eq, beq_eq_false_iff_ne, bne_eq_false_iff_eq, gt_iff_lt, ge_iff_le, Int.not_lt, Int.not_le] at hc71
              rw [if_pos (by omega)] at hR
              cases failP_inj hR
              refine c_seq (fun K31 hK31 => ?_)
              refine c_reg ?_ -- region 22 parse.go:68
              refine wl (ro_move rfl) ?_
              refine wl_call rfl en_77 (fail77 (e := 15) (hP.farN hF0)) ?_
              rintro _ u1 ⟨rfl, hP1, F9⟩
              replace hF := hF.trans' F9 (fun _ _ h => h)
              replace h5 := F9.blkO h5 (by omega)
              refine wl_nil (x_then (hK31 _ _ ?_))
              clear hK31 K31
              refine forget [] trivial (fun e => ?_)
              refine c_seq (fun K32 hK32 => ?_)
              refine c_reg ?_ -- region 23 parse.go:69
              refine wl (ro_assign rfl) ?_
              refine wl_nil (x_then (hK32 _ _ ?_))
              clear hK32 K32
              refine c_ret (x_thenR (x_blkR (x_thenR ?_)))
              refine bp_ret Tryz.results135 rfl ?_
              exact ⟨hF, rfl, hP1⟩
            · try simp only [decide_eq_true_eq, decide_eq_false_iff_not, Bool.not_eq_true', Bool.not_eq_false', Bool.not_eq_eq_eq_not, Bool.not_true, Bool.not_false, beq_iff_eq, bne_iff_ne, ne_eq, beq_eq_false_iff_ne, bne_eq_false_iff_eq, gt_iff_lt, ge_iff_le, Int.not_lt, Int.not_le] at hc71
              rw [if_neg (by omega)] at hR
              cases okP_inj hR
              refine c_skip (x_then (hK29 _ _ ?_))
              clear hK29 K29
              refine forget [(0, _), (5, _)] ⟨rfl, rfl, trivial⟩ (fun e => ?_)
              refine c_seq (fun K33 hK33 => ?_)
              refine c_reg ?_ -- region 24 parse.go:71
              refine wl (ro_move rfl) ?_
              refine wl_call rfl en_176 (next176 (hP.farN hF0) (hT.farN hF0) hne (by omega)) ?_
              rintro _ u1 ⟨rfl, hP1, F9⟩
              replace hF := hF.trans' F9 (fun _ _ h => h)
              replace h5 := F9.blkO h5 (by omega)
              refine wl_nil (x_then (hK33 _ _ ?_))
              clear hK33 K33
              refine forget [(5, _)] ⟨rfl, trivial⟩ (fun e => ?_)
              refine c_seq (fun K34 hK34 => ?_)
              refine c_reg ?_ -- region 25 parse.go:72
              refine wl (ro_fieldAddr (k := 1) rfl fo_182_1) ?_
              refine wl (ro_loadB rfl sc_3 (by assumption) rfl) ?_
              refine wl (ro_build rfl bld_297_0) ?_
              refine wl_box rfl rfl (fun b79 w4 hbb79 h79 F4 => ?_)
              have hbsb79 := Nat.le_trans hF.size hbb79
              have hneb5b79 : b5 < b79 := Nat.lt_of_lt_of_le h5.lt hbb79
              replace hF := hF.thenDrew.thenN F4
              replace h5 := F4.blkN h5
              replace hP1 := hP1.farN (F4)
              refine wl (ro_mkIface rfl (by kernel_rfl)) ?_
              refine wl (ro_assign rfl) ?_
              refine wl_nil (x_then (hK34 _ _ ?_))
              clear hK34 K34
              refine c_ret (x_blkR (x_thenR ?_))
              refine bp_ret Tryz.results135 rfl ?_
              exact ⟨hF, TrM_brk.2 ⟨b79, _, rfl, h79, nw_new hbsb79⟩, hP1⟩
          · try simp only [decide_eq_true_eq, decide_eq_false_iff_not, Bool.not_eq_true', Bool.not_eq_false', Bool.not_eq_eq_eq_not, Bool.not_true, Bool.not_false, beq_iff_eq, bne_iff_ne, ne_eq, beq_eq_false_iff_ne, bne_eq_false_iff_eq, gt_iff_lt, ge_iff_le, Int.not_lt, Int.not_le] at hc64
            rw [if_neg (by omega)] at hR
            refine c_seq (fun K35 hK35 => ?_)
            refine c_reg ?_ -- region 26 parse.go:73
            refine wl (ro_cmp rfl rfl rfl) ?_
            refine wl (ro_assign rfl) ?_
            refine wl_nil (x_then (hK35 _ _ ?_))
            clear hK35 K35
            refine wc_cond rfl (fun hc81 => ?_) (fun hc81 => ?_)
            · try simp only [decide_eq_true_eq, decide_eq_false_iff_not, Bool.not_eq_true', Bool.not_eq_false', Bool.not_eq_eq_eq_not, Bool.not_true, Bool.not_false, beq_iff_eq, bne_iff_ne, ne_eq, beq_eq_false_iff_ne, bne_eq_false_iff_eq, gt_iff_lt, ge_iff_le, Int.not_lt, Int.not_le] at hc81
              rw [if_pos (by omega)] at hR
              refine c_seq (fun K36 hK36 => ?_)
              refine c_reg ?_ -- region 27 parse.go:74
              refine wl (ro_move rfl) ?_
              refine wl_call rfl en_176 (next176 (hP.farN hF0) (hT.farN hF0) hne (by omega)) ?_
              rintro _ u1 ⟨rfl, hP1, F9⟩
              replace hF := hF.trans' F9 (fun _ _ h => h)
              replace h5 := F9.blkO h5 (by omega)
              refine wl_nil (x_then (hK36 _ _ ?_))
              clear hK36 K36
              refine forget [(0, _), (1, _), (5, _)] ⟨rfl, rfl, rfl, trivial⟩ (fun e => ?_)
              refine c_seq (fun K37 hK37 => ?_)
              refine c_reg ?_ -- region 28 parse.go:75
              refine wl (ro_move rfl) ?_
              refine wl (ro_move rfl) ?_
              refine wl (ro_fieldAddr (k := 1) rfl fo_182_1) ?_
              refine wl (ro_loadB rfl sc_3 (by assumption) rfl) ?_
              refine wl_call rfl en_182 (results182 ih (hG.at (lv1 := lv) (ρ1 := ρ) hF hP1 hpe0 hl13 hglo hρ) hlv hR) ?_
              rintro v u2 hr
              refine wl (ro_assign rfl) ?_
              refine wl_nil (x_then (hK37 _ _ ?_))
              clear hK37 K37
              refine c_ret (x_blkR (x_thenR ?_))
              refine bp_ret Tryz.results135 rfl ?_
              exact hr.thru hF
            · try simp only [decide_eq_true_eq, decide_eq_false_iff_not, Bool.not_eq_true', Bool.not_eq_false', Bool.not_eq_eq_eq_not, Bool.not_true, Bool.not_false, beq_iff_eq, bne_iff_ne, ne_eq, beq_eq_false_iff_ne, bne_eq_false_iff_eq, gt_iff_lt, ge_iff_le, Int.not_lt, Int.not_le] at hc81
              rw [if_neg (by omega)] at hR
              refine c_skip (x_blk (x_then (hK3 _ _ ?_)))
              clear hK3 K3
              refine forget [(0, _), (1, _)] ⟨rfl, rfl, trivial⟩ (fun e => ?_)
              refine c_seq (fun K38 hK38 => ?_)
              rcases bdP_some hR with ⟨⟨ee, pp⟩, hq, rfl⟩ | ⟨t1, s1, hq, hR⟩
              · skip
                refine c_reg ?_ -- region 29 parse.go:77
                refine wl (ro_move rfl) ?_
                refine wl (ro_move rfl) ?_
                refine wl (ro_arith rfl rfl rfl (Go.IntWalk.i64_in _ (by omega))) ?_
                refine wl_call rfl en_183 (ih.p3 (hG.at (lv1 := lv + 1) (ρ1 := ρ - 1) hF (hP.farN hF0) hG.pe (by omega) (by omega) (by omega)) hq) ?_
                rintro v u3 ⟨F9, rfl, hE⟩
                replace hF := hF.trans' F9 (fun _ _ h => h)
                replace h5 := F9.blkO h5 (by omega)
                refine wl (ro_assign rfl) ?_
                refine wl_nil (x_then (hK38 _ _ ?_))
                clear hK38 K38
                refine c_seq (fun K39 hK39 => ?_)
                refine c_seq (fun K40 hK40 => ?_)
                refine c_reg ?_ -- region 30 parse.go:78
                refine wl (ro_move rfl) ?_
                refine wl (ro_eqNilN rfl ifc_290) ?_
                refine wl_nil (x_then (hK40 _ _ ?_))
                clear hK40 K40
                refine wc_condT rfl ?_
                refine c_seq (fun K41 hK41 => ?_)
                refine c_reg ?_ -- region 31 parse.go:79
                refine wl (ro_assign rfl) ?_
                refine wl_nil (x_then (hK41 _ _ ?_))
                clear hK41 K41
                refine c_ret (x_thenR ?_)
                refine bp_ret Tryz.results135 rfl ?_
                exact ⟨hF, rfl, hE⟩
              · skip
                refine c_reg ?_ -- region 29 parse.go:77
                refine wl (ro_move rfl) ?_
                refine wl (ro_move rfl) ?_
                refine wl (ro_arith rfl rfl rfl (Go.IntWalk.i64_in _ (by omega))) ?_
                refine wl_call rfl en_183 (ih.p3 (hG.at (lv1 := lv + 1) (ρ1 := ρ - 1) hF (hP.farN hF0) hG.pe (by omega) (by omega) (by omega)) hq) ?_
                rintro v u3 hr
                have F9 := hr.1
                obtain ⟨hF9, hT3, hP3⟩ := hr.thru hF
                obtain ⟨TT, bb, rfl⟩ := hT3.ifc (.inl rfl)
                have hSm1 : Sm s s1 := ((par_q f).i3 hG.pe t1 s1 hq).2.1
                have hlo3 : s1.lo = s.lo := hSm1.lo
                have hpe1 := hG.pe.cm hSm1.toCm
                have hpe2 := hpe1.cm (Cm.adv hpe1)
                have hkd := hT3.kd
                have hkk1 : s1.k = s1.cur.k := rfl
                replace hF := hF.trans' F9 (fun _ _ h => h)
                replace h5 := F9.blkO h5 (by omega)
                obtain ⟨i3, hX, hi3, hs3⟩ := hP3.ex
                unfold prc at hX
                refine wl (ro_assign rfl) ?_
                refine wl_nil (x_then (hK38 _ _ ?_))
                clear hK38 K38
                refine c_seq (fun K42 hK42 => ?_)
                refine c_seq (fun K43 hK43 => ?_)
                refine c_reg ?_ -- region 30 parse.go:78
                refine wl (ro_move rfl) ?_
                refine wl (ro_eqNilI rfl ifc_290) ?_
                refine wl_nil (x_then (hK43 _ _ ?_))
                clear hK43 K43
                refine wc_condF rfl ?_
                refine c_skip (x_then (hK42 _ _ ?_))
                clear hK42 K42
                refine c_seq (fun K44 hK44 => ?_)
                refine c_seq (fun K45 hK45 => ?_)
                refine c_reg ?_ -- region 32 parse.go:81
                refine wl (ro_move rfl) ?_
                refine wl (ro_nilCheck rfl) ?_
                refine wl (ro_fieldAddr (k := 2) rfl fo_186_2) ?_
                refine wl (ro_fieldAddr (k := 0) rfl fo_182_0) ?_
                refine wl (ro_loadB rfl sc_180 (by assumption) rfl) ?_
                refine wl (ro_cmp rfl rfl rfl) ?_
                refine wl_nil (x_then (hK45 _ _ ?_))
                clear hK45 K45
                refine wc_cond rfl (fun hc101 => ?_) (fun hc101 => ?_)
                · try simp only [decide_eq_true_eq, decide_eq_false_iff_not, Bool.not_eq_true', Bool.not_eq_false', Bool.not_eq_eq_eq_not, Bool.not_true, Bool.not_false, beq_iff_eq, bne_iff_ne, ne_eq, beq_eq_false_iff_ne, bne_eq_false_iff_eq, gt_iff_lt, ge_iff_le, Int.not_lt, Int.not_le] at hc101
                  rw [if_neg (by omega)] at hR
                  refine c_seq (fun K46 hK46 => ?_)
                  rcases hkd with ⟨b', a', c', e', rfl⟩ | ⟨b', s', e', rfl⟩ | ⟨b', a', c', e', rfl⟩ | ⟨T', b', e', g3, g5, g6, x3, x4, x5⟩
                  · skip
                    cases e'
                    rw [if_pos (by rfl)] at hR
                    refine c_reg ?_ -- region 33 parse.go:82
                    refine wl (ro_move rfl) ?_
                    refine wl (ro_taY rfl nif_300) ?_
                    refine wl (ro_move rfl) ?_
                    refine wl (ro_extract rfl rfl) ?_
                    refine wl (ro_extract rfl rfl) ?_
                    refine wl (ro_assign rfl) ?_
                    refine wl (ro_assign rfl) ?_
                    refine wl_nil (x_then (hK46 _ _ ?_))
                    clear hK46 K46
                    refine c_seq (fun K47 hK47 => ?_)
                    refine c_seq (fun K48 hK48 => ?_)
                    refine c_reg ?_ -- region 34 parse.go:83
                    refine wl (ro_move rfl) ?_
                    refine wl (ro_not rfl) ?_
                    refine wl_nil (x_then (hK48 _ _ ?_))
                    clear hK48 K48
                    refine wc_condF rfl ?_
                    refine c_skip (x_then (hK47 _ _ ?_))
                    clear hK47 K47
                    refine forget [(10, _)] ⟨rfl, trivial⟩ (fun e => ?_)
                    refine c_seq (fun K49 hK49 => ?_)
                    refine c_reg ?_ -- region 37 parse.go:87
                    refine wl (ro_move rfl) ?_
                    refine wl (ro_build rfl bld_304_0) ?_
                    refine wl_box rfl rfl (fun b113 w5 hbb113 h113 F5 => ?_)
                    have hbsb113 := Nat.le_trans hF.size hbb113
                    have hneb5b113 : b5 < b113 := Nat.lt_of_lt_of_le h5.lt hbb113
                    have hnepbb113 : pb < b113 := Nat.lt_of_lt_of_le hX.lt hbb113
                    replace hF := hF.thenDrew.thenN F5
                    replace h5 := F5.blkN h5
                    replace hT3 := hT3.thruN ((Fram.refl none' _).thenDrew.thenN F5)
                    replace hX := F5.blkN hX
                    replace hP3 := hP3.farN (F5)
                    refine wl (ro_mkIface rfl (by kernel_rfl)) ?_
                    refine wl (ro_assign rfl) ?_
                    refine wl_nil (x_then (hK49 _ _ ?_))
                    clear hK49 K49
                    refine c_ret (x_thenR ?_)
                    refine bp_ret Tryz.results135 rfl ?_
                    cases okP_inj hR
                    obtain ⟨b6', p6, x6, U6, us6, e6, g1, g2, g3, g4⟩ := TrM_call.1 hT3
                    injection e6 with e6 _
                    injection e6 with _ e6
                    cases e6
                    exact ⟨hF, TrM_scall.2 ⟨b113, _, p6, x6, U6, us6, rfl, ⟨h113, nw_new hbsb113⟩, g1, g2, g3, g4⟩, hP3⟩
                  · skip
                    cases e'
                    rw [if_neg (Nat.ne_of_beq_eq_false rfl)] at hR
                    refine c_reg ?_ -- region 33 parse.go:82
                    refine wl (ro_move rfl) ?_
                    refine wl (ro_taN rfl nif_300 rfl zi_300) ?_
                    refine wl (ro_move rfl) ?_
                    refine wl (ro_extract rfl rfl) ?_
                    refine wl (ro_extract rfl rfl) ?_
                    refine wl (ro_assign rfl) ?_
                    refine wl (ro_assign rfl) ?_
                    refine wl_nil (x_then (hK46 _ _ ?_))
                    clear hK46 K46
                    refine c_seq (fun K50 hK50 => ?_)
                    refine c_seq (fun K51 hK51 => ?_)
                    refine c_reg ?_ -- region 34 parse.go:83
                    refine wl (ro_move rfl) ?_
                    refine wl (ro_not rfl) ?_
                    refine wl_nil (x_then (hK51 _ _ ?_))
                    clear hK51 K51
                    refine wc_condT rfl ?_
                    refine c_seq (fun K52 hK52 => ?_)
                    refine c_reg ?_ -- region 35 parse.go:84
                    refine wl (ro_move rfl) ?_
                    refine wl_call rfl en_77 (fail77 (e := 15) hP3) ?_
                    rintro _ u7 ⟨rfl, hE, F9⟩
                    have hcx_ := hG.cx.go hF
                    replace hF := hF.trans' F9 (fun _ _ h => h)
                    replace h5 := F9.blkO h5 (by omega)
                    replace hT3 := hT3.thru hcx_ F9
                    refine wl_nil (x_then (hK52 _ _ ?_))
                    clear hK52 K52
                    refine forget [] trivial (fun e => ?_)
                    refine c_seq (fun K53 hK53 => ?_)
                    refine c_reg ?_ -- region 36 parse.go:85
                    refine wl (ro_assign rfl) ?_
                    refine wl_nil (x_then (hK53 _ _ ?_))
                    clear hK53 K53
                    refine c_ret (x_thenR (x_thenR ?_))
                    refine bp_ret Tryz.results135 rfl ?_
                    cases failP_inj hR
                    exact ⟨hF, rfl, hE⟩
                  · skip
                    cases e'
                    rw [if_neg (Nat.ne_of_beq_eq_false rfl)] at hR
                    refine c_reg ?_ -- region 33 parse.go:82
                    refine wl (ro_move rfl) ?_
                    refine wl (ro_taN rfl nif_300 rfl zi_300) ?_
                    refine wl (ro_move rfl) ?_
                    refine wl (ro_extract rfl rfl) ?_
                    refine wl (ro_extract rfl rfl) ?_
                    refine wl (ro_assign rfl) ?_
                    refine wl (ro_assign rfl) ?_
                    refine wl_nil (x_then (hK46 _ _ ?_))
                    clear hK46 K46
                    refine c_seq (fun K54 hK54 => ?_)
                    refine c_seq (fun K55 hK55 => ?_)
                    refine c_reg ?_ -- region 34 parse.go:83
                    refine wl (ro_move rfl) ?_
                    refine wl (ro_not rfl) ?_
                    refine wl_nil (x_then (hK55 _ _ ?_))
                    clear hK55 K55
                    refine wc_condT rfl ?_
                    refine c_seq (fun K56 hK56 => ?_)
                    refine c_reg ?_ -- region 35 parse.go:84
                    refine wl (ro_move rfl) ?_
                    refine wl_call rfl en_77 (fail77 (e := 15) hP3) ?_
                    rintro _ u7 ⟨rfl, hE, F9⟩
                    have hcx_ := hG.cx.go hF
                    replace hF := hF.trans' F9 (fun _ _ h => h)
                    replace h5 := F9.blkO h5 (by omega)
                    replace hT3 := hT3.thru hcx_ F9
                    refine wl_nil (x_then (hK56 _ _ ?_))
                    clear hK56 K56
                    refine forget [] trivial (fun e => ?_)
                    refine c_seq (fun K57 hK57 => ?_)
                    refine c_reg ?_ -- region 36 parse.go:85
                    refine wl (ro_assign rfl) ?_
                    refine wl_nil (x_then (hK57 _ _ ?_))
                    clear hK57 K57
                    refine c_ret (x_thenR (x_thenR ?_))
                    refine bp_ret Tryz.results135 rfl ?_
                    cases failP_inj hR
                    exact ⟨hF, rfl, hE⟩
                  · skip
                    cases e'
                    rw [if_neg x5] at hR
                    refine c_reg ?_ -- region 33 parse.go:82
                    refine wl (ro_move rfl) ?_
                    refine wl (ro_taN rfl nif_300 g3 zi_300) ?_
                    refine wl (ro_move rfl) ?_
                    refine wl (ro_extract rfl rfl) ?_
                    refine wl (ro_extract rfl rfl) ?_
                    refine wl (ro_assign rfl) ?_
                    refine wl (ro_assign rfl) ?_
                    refine wl_nil (x_then (hK46 _ _ ?_))
                    clear hK46 K46
                    refine c_seq (fun K58 hK58 => ?_)
                    refine c_seq (fun K59 hK59 => ?_)
                    refine c_reg ?_ -- region 34 parse.go:83
                    refine wl (ro_move rfl) ?_
                    refine wl (ro_not rfl) ?_
                    refine wl_nil (x_then (hK59 _ _ ?_))
                    clear hK59 K59
                    refine wc_condT rfl ?_
                    refine c_seq (fun K60 hK60 => ?_)
                    refine c_reg ?_ -- region 35 parse.go:84
                    refine wl (ro_move rfl) ?_
                    refine wl_call rfl en_77 (fail77 (e := 15) hP3) ?_
                    rintro _ u7 ⟨rfl, hE, F9⟩
                    have hcx_ := hG.cx.go hF
                    replace hF := hF.trans' F9 (fun _ _ h => h)
                    replace h5 := F9.blkO h5 (by omega)
                    replace hT3 := hT3.thru hcx_ F9
                    refine wl_nil (x_then (hK60 _ _ ?_))
                    clear hK60 K60
                    refine forget [] trivial (fun e => ?_)
                    refine c_seq (fun K61 hK61 => ?_)
                    refine c_reg ?_ -- region 36 parse.go:85
                    refine wl (ro_assign rfl) ?_
                    refine wl_nil (x_then (hK61 _ _ ?_))
                    clear hK61 K61
                    refine c_ret (x_thenR (x_thenR ?_))
                    refine bp_ret Tryz.results135 rfl ?_
                    cases failP_inj hR
                    exact ⟨hF, rfl, hE⟩
                · try simp only [decide_eq_true_eq, decide_eq_false_iff_not, Bool.not_eq_true', Bool.not_eq_false', Bool.not_eq_eq_eq_not, Bool.not_true, Bool.not_false, beq_iff_eq, bne_iff_ne, ne_eq, beq_eq_false_iff_ne, bne_eq_false_iff_eq, gt_iff_lt, ge_iff_le, Int.not_lt, Int.not_le] at hc101
                  rw [if_pos (by omega)] at hR
                  refine c_skip (x_then (hK44 _ _ ?_))
                  clear hK44 K44
                  refine c_seq (fun K62 hK62 => ?_)
                  refine c_seq (fun K63 hK63 => ?_)
                  rcases hkd with ⟨b', a', c', e', rfl⟩ | ⟨b', s', e', rfl⟩ | ⟨b', a', c', e', rfl⟩ | ⟨T', b', e', g3, g5, g6, x3, x4, x5⟩
                  · skip
                    cases e'
                    rw [if_neg (Nat.ne_of_beq_eq_false rfl), if_neg (Nat.ne_of_beq_eq_false rfl)] at hR
                    refine c_reg ?_ -- region 38 parse.go:89
                    refine wl (ro_move rfl) ?_
                    refine wl_nil (x_then (hK63 _ _ ?_))
                    clear hK63 K63
                    refine c_block ?_
                    refine forget [(0, _), (1, _), (9, _), (115, _)] ⟨rfl, rfl, rfl, rfl, trivial⟩ (fun e => ?_)
                    refine c_seq (fun K64 hK64 => ?_)
                    refine c_reg ?_ -- region 41 parse.go:89
                    refine wl (ro_taN rfl nif_305 rfl zi_305) ?_
                    refine wl (ro_extract rfl rfl) ?_
                    refine wl (ro_extract rfl rfl) ?_
                    refine wl (ro_taN rfl nif_306 rfl zi_306) ?_
                    refine wl (ro_extract rfl rfl) ?_
                    refine wl (ro_extract rfl rfl) ?_
                    refine wl (ro_pick rfl rfl rfl) ?_
                    refine wl_nil (x_then (hK64 _ _ ?_))
                    clear hK64 K64
                    refine wc_condF rfl ?_
                    refine c_seq (fun K65 hK65 => ?_)
                    refine c_reg ?_ -- region 39 parse.go:92
                    refine wl (ro_move rfl) ?_
                    refine wl_call rfl en_77 (fail77 (e := 15) hP3) ?_
                    rintro _ u7 ⟨rfl, hE, F9⟩
                    have hcx_ := hG.cx.go hF
                    replace hF := hF.trans' F9 (fun _ _ h => h)
                    replace h5 := F9.blkO h5 (by omega)
                    replace hT3 := hT3.thru hcx_ F9
                    refine wl_nil (x_then (hK65 _ _ ?_))
                    clear hK65 K65
                    refine forget [] trivial (fun e => ?_)
                    refine c_seq (fun K66 hK66 => ?_)
                    refine c_reg ?_ -- region 40 parse.go:93
                    refine wl (ro_assign rfl) ?_
                    refine wl_nil (x_then (hK66 _ _ ?_))
                    clear hK66 K66
                    refine c_ret (x_blkR (x_thenR ?_))
                    refine bp_ret Tryz.results135 rfl ?_
                    cases failP_inj hR
                    exact ⟨hF, rfl, hE⟩
                  · skip
                    cases e'
                    rw [if_pos (by rfl)] at hR
                    refine c_reg ?_ -- region 38 parse.go:89
                    refine wl (ro_move rfl) ?_
                    refine wl_nil (x_then (hK63 _ _ ?_))
                    clear hK63 K63
                    refine c_block ?_
                    refine forget [(0, _), (1, _), (9, _), (115, _)] ⟨rfl, rfl, rfl, rfl, trivial⟩ (fun e => ?_)
                    refine c_seq (fun K67 hK67 => ?_)
                    refine c_reg ?_ -- region 41 parse.go:89
                    refine wl (ro_taY rfl nif_305) ?_
                    refine wl (ro_extract rfl rfl) ?_
                    refine wl (ro_extract rfl rfl) ?_
                    refine wl (ro_taN rfl nif_306 rfl zi_306) ?_
                    refine wl (ro_extract rfl rfl) ?_
                    refine wl (ro_extract rfl rfl) ?_
                    refine wl (ro_pick rfl rfl rfl) ?_
                    refine wl_nil (x_then (hK67 _ _ ?_))
                    clear hK67 K67
                    refine wc_condT rfl ?_
                    refine c_skip (x_blk (x_then (hK62 _ _ ?_)))
                    clear hK62 K62
                    refine forget [(0, _), (1, _), (9, _)] ⟨rfl, rfl, rfl, trivial⟩ (fun e => ?_)
                    refine c_seq (fun K68 hK68 => ?_)
                    refine c_reg ?_ -- region 42 parse.go:95
                    refine wl (ro_move rfl) ?_
                    refine wl (ro_nilCheck rfl) ?_
                    refine wl (ro_fieldAddr (k := 2) rfl fo_186_2) ?_
                    refine wl (ro_fieldAddr (k := 1) rfl fo_182_1) ?_
                    refine wl (ro_loadB rfl sc_3 (by assumption) rfl) ?_
                    refine wl (ro_assign rfl) ?_
                    refine wl_nil (x_then (hK68 _ _ ?_))
                    clear hK68 K68
                    refine forget [(0, _), (1, _), (9, _), (12, _)] ⟨rfl, rfl, rfl, rfl, trivial⟩ (fun e => ?_)
                    refine c_seq (fun K69 hK69 => ?_)
                    refine c_reg ?_ -- region 43 parse.go:96
                    refine wl (ro_move rfl) ?_
                    refine wl_call rfl en_176 (next176 hP3 (hG.cx.go hF).tk hne (by omega)) ?_
                    rintro _ u4 ⟨rfl, hP4, F9⟩
                    have hcx_ := hG.cx.go hF
                    replace hF := hF.trans' F9 (fun _ _ h => h)
                    replace h5 := F9.blkO h5 (by omega)
                    replace hT3 := hT3.thru hcx_ F9
                    refine wl_nil (x_then (hK69 _ _ ?_))
                    clear hK69 K69
                    refine forget [(0, _), (1, _), (9, _), (12, _)] ⟨rfl, rfl, rfl, rfl, trivial⟩ (fun e => ?_)
                    refine c_seq (fun K70 hK70 => ?_)
                    rcases bdP_some hR with ⟨⟨ee, pp⟩, hq, rfl⟩ | ⟨t2, s2, hq, hR⟩
                    · skip
                      refine c_reg ?_ -- region 44 parse.go:97
                      refine wl (ro_move rfl) ?_
                      refine wl (ro_move rfl) ?_
                      refine wl (ro_arith rfl rfl rfl (Go.IntWalk.i64_in _ (by omega))) ?_
                      refine wl_call rfl en_180 (ih.e0 (r := 1) (hG.at (lv1 := lv + 1) (ρ1 := ρ - 1) hF hP4 hpe2 (by omega) (by show s1.lo ≤ lv + 1; omega) (by omega)) (by decide) (by decide) hq) ?_
                      rintro v u5 ⟨F9, rfl, hE⟩
                      have hcx_ := hG.cx.go hF
                      replace hF := hF.trans' F9 (fun _ _ h => h)
                      replace h5 := F9.blkO h5 (by omega)
                      replace hT3 := hT3.thru hcx_ F9
                      refine wl (ro_assign rfl) ?_
                      refine wl_nil (x_then (hK70 _ _ ?_))
                      clear hK70 K70
                      refine c_seq (fun K71 hK71 => ?_)
                      refine c_seq (fun K72 hK72 => ?_)
                      refine c_reg ?_ -- region 45 parse.go:98
                      refine wl (ro_move rfl) ?_
                      refine wl (ro_eqNilN rfl ifc_290) ?_
                      refine wl_nil (x_then (hK72 _ _ ?_))
                      clear hK72 K72
                      refine wc_condT rfl ?_
                      refine c_seq (fun K73 hK73 => ?_)
                      refine c_reg ?_ -- region 46 parse.go:99
                      refine wl (ro_assign rfl) ?_
                      refine wl_nil (x_then (hK73 _ _ ?_))
                      clear hK73 K73
                      refine c_ret (x_thenR ?_)
                      refine bp_ret Tryz.results135 rfl ?_
                      exact ⟨hF, rfl, hE⟩
                    · skip
                      refine c_reg ?_ -- region 44 parse.go:97
                      refine wl (ro_move rfl) ?_
                      refine wl (ro_move rfl) ?_
                      refine wl (ro_arith rfl rfl rfl (Go.IntWalk.i64_in _ (by omega))) ?_
                      refine wl_call rfl en_180 (ih.e0 (r := 1) (hG.at (lv1 := lv + 1) (ρ1 := ρ - 1) hF hP4 hpe2 (by omega) (by show s1.lo ≤ lv + 1; omega) (by omega)) (by decide) (by decide) hq) ?_
                      rintro v u5 hr
                      have F9 := hr.1
                      obtain ⟨hF9, hT5, hP5⟩ := hr.thru hF
                      obtain ⟨T5, b5', rfl⟩ := hT5.ifc (.inl rfl)
                      have hcx_ := hG.cx.go hF
                      replace hF := hF.trans' F9 (fun _ _ h => h)
                      replace h5 := F9.blkO h5 (by omega)
                      replace hT3 := hT3.thru hcx_ F9
                      refine wl (ro_assign rfl) ?_
                      refine wl_nil (x_then (hK70 _ _ ?_))
                      clear hK70 K70
                      refine c_seq (fun K74 hK74 => ?_)
                      refine c_seq (fun K75 hK75 => ?_)
                      refine c_reg ?_ -- region 45 parse.go:98
                      refine wl (ro_move rfl) ?_
                      refine wl (ro_eqNilI rfl ifc_290) ?_
                      refine wl_nil (x_then (hK75 _ _ ?_))
                      clear hK75 K75
                      refine wc_condF rfl ?_
                      refine c_skip (x_then (hK74 _ _ ?_))
                      clear hK74 K74
                      refine forget [(9, _), (12, _), (13, _)] ⟨rfl, rfl, rfl, trivial⟩ (fun e => ?_)
                      refine c_seq (fun K76 hK76 => ?_)
                      refine c_reg ?_ -- region 47 parse.go:101
                      refine wl (ro_move rfl) ?_
                      refine wl (ro_move rfl) ?_
                      refine wl (ro_move rfl) ?_
                      refine wl (ro_build rfl bld_309_0_1_2) ?_
                      refine wl_box rfl rfl (fun b142 w6 hbb142 h142 F6 => ?_)
                      have hbsb142 := Nat.le_trans hF.size hbb142
                      have hneb5b142 : b5 < b142 := Nat.lt_of_lt_of_le h5.lt hbb142
                      replace hF := hF.thenDrew.thenN F6
                      replace h5 := F6.blkN h5
                      replace hT3 := hT3.thruN ((Fram.refl none' _).thenDrew.thenN F6)
                      replace hT5 := hT5.thruN ((Fram.refl none' _).thenDrew.thenN F6)
                      replace hP5 := hP5.farN (F6)
                      refine wl (ro_mkIface rfl (by kernel_rfl)) ?_
                      refine wl (ro_assign rfl) ?_
                      refine wl_nil (x_then (hK76 _ _ ?_))
                      clear hK76 K76
                      refine c_ret ?_
                      refine bp_ret Tryz.results135 rfl ?_
                      cases okP_inj hR
                      obtain ⟨b6', p6, e6, g1⟩ := TrM_name.1 hT3
                      injection e6 with e6 _
                      injection e6 with _ e6
                      cases e6
                      exact ⟨hF, TrM_setN.2 ⟨b142, _, _, p6, _, rfl, ⟨h142, nw_new hbsb142⟩, g1, hT5⟩, hP5⟩
                  · skip
                    cases e'
                    rw [if_neg (Nat.ne_of_beq_eq_false rfl), if_pos (by rfl)] at hR
                    refine c_reg ?_ -- region 38 parse.go:89
                    refine wl (ro_move rfl) ?_
                    refine wl_nil (x_then (hK63 _ _ ?_))
                    clear hK63 K63
                    refine c_block ?_
                    refine forget [(0, _), (1, _), (9, _), (115, _)] ⟨rfl, rfl, rfl, rfl, trivial⟩ (fun e => ?_)
                    refine c_seq (fun K77 hK77 => ?_)
                    refine c_reg ?_ -- region 41 parse.go:89
                    refine wl (ro_taN rfl nif_305 rfl zi_305) ?_
                    refine wl (ro_extract rfl rfl) ?_
                    refine wl (ro_extract rfl rfl) ?_
                    refine wl (ro_taY rfl nif_306) ?_
                    refine wl (ro_extract rfl rfl) ?_
                    refine wl (ro_extract rfl rfl) ?_
                    refine wl (ro_pick rfl rfl rfl) ?_
                    refine wl_nil (x_then (hK77 _ _ ?_))
                    clear hK77 K77
                    refine wc_condT rfl ?_
                    refine c_skip (x_blk (x_then (hK62 _ _ ?_)))
                    clear hK62 K62
                    refine forget [(0, _), (1, _), (9, _)] ⟨rfl, rfl, rfl, trivial⟩ (fun e => ?_)
                    refine c_seq (fun K78 hK78 => ?_)
                    refine c_reg ?_ -- region 42 parse.go:95
                    refine wl (ro_move rfl) ?_
                    refine wl (ro_nilCheck rfl) ?_
                    refine wl (ro_fieldAddr (k := 2) rfl fo_186_2) ?_
                    refine wl (ro_fieldAddr (k := 1) rfl fo_182_1) ?_
                    refine wl (ro_loadB rfl sc_3 (by assumption) rfl) ?_
                    refine wl (ro_assign rfl) ?_
                    refine wl_nil (x_then (hK78 _ _ ?_))
                    clear hK78 K78
                    refine forget [(0, _), (1, _), (9, _), (12, _)] ⟨rfl, rfl, rfl, rfl, trivial⟩ (fun e => ?_)
                    refine c_seq (fun K79 hK79 => ?_)
                    refine c_reg ?_ -- region 43 parse.go:96
                    refine wl (ro_move rfl) ?_
                    refine wl_call rfl en_176 (next176 hP3 (hG.cx.go hF).tk hne (by omega)) ?_
                    rintro _ u4 ⟨rfl, hP4, F9⟩
                    have hcx_ := hG.cx.go hF
                    replace hF := hF.trans' F9 (fun _ _ h => h)
                    replace h5 := F9.blkO h5 (by omega)
                    replace hT3 := hT3.thru hcx_ F9
                    refine wl_nil (x_then (hK79 _ _ ?_))
                    clear hK79 K79
                    refine forget [(0, _), (1, _), (9, _), (12, _)] ⟨rfl, rfl, rfl, rfl, trivial⟩ (fun e => ?_)
                    refine c_seq (fun K80 hK80 => ?_)
                    rcases bdP_some hR with ⟨⟨ee, pp⟩, hq, rfl⟩ | ⟨t2, s2, hq, hR⟩
                    · skip
                      refine c_reg ?_ -- region 44 parse.go:97
                      refine wl (ro_move rfl) ?_
                      refine wl (ro_move rfl) ?_
                      refine wl (ro_arith rfl rfl rfl (Go.IntWalk.i64_in _ (by omega))) ?_
                      refine wl_call rfl en_180 (ih.e0 (r := 1) (hG.at (lv1 := lv + 1) (ρ1 := ρ - 1) hF hP4 hpe2 (by omega) (by show s1.lo ≤ lv + 1; omega) (by omega)) (by decide) (by decide) hq) ?_
                      rintro v u5 ⟨F9, rfl, hE⟩
                      have hcx_ := hG.cx.go hF
                      replace hF := hF.trans' F9 (fun _ _ h => h)
                      replace h5 := F9.blkO h5 (by omega)
                      replace hT3 := hT3.thru hcx_ F9
                      refine wl (ro_assign rfl) ?_
                      refine wl_nil (x_then (hK80 _ _ ?_))
                      clear hK80 K80
                      refine c_seq (fun K81 hK81 => ?_)
                      refine c_seq (fun K82 hK82 => ?_)
                      refine c_reg ?_ -- region 45 parse.go:98
                      refine wl (ro_move rfl) ?_
                      refine wl (ro_eqNilN rfl ifc_290) ?_
                      refine wl_nil (x_then (hK82 _ _ ?_))
                      clear hK82 K82
                      refine wc_condT rfl ?_
                      refine c_seq (fun K83 hK83 => ?_)
                      refine c_reg ?_ -- region 46 parse.go:99
                      refine wl (ro_assign rfl) ?_
                      refine wl_nil (x_then (hK83 _ _ ?_))
                      clear hK83 K83
                      refine c_ret (x_thenR ?_)
                      refine bp_ret Tryz.results135 rfl ?_
                      exact ⟨hF, rfl, hE⟩
                    · skip
                      refine c_reg ?_ -- region 44 parse.go:97
                      refine wl (ro_move rfl) ?_
                      refine wl (ro_move rfl) ?_
                      refine wl (ro_arith rfl rfl rfl (Go.IntWalk.i64_in _ (by omega))) ?_
                      refine wl_call rfl en_180 (ih.e0 (r := 1) (hG.at (lv1 := lv + 1) (ρ1 := ρ - 1) hF hP4 hpe2 (by omega) (by show s1.lo ≤ lv + 1; omega) (by omega)) (by decide) (by decide) hq) ?_
                      rintro v u5 hr
                      have F9 := hr.1
                      obtain ⟨hF9, hT5, hP5⟩ := hr.thru hF
                      obtain ⟨T5, b5', rfl⟩ := hT5.ifc (.inl rfl)
                      have hcx_ := hG.cx.go hF
                      replace hF := hF.trans' F9 (fun _ _ h => h)
                      replace h5 := F9.blkO h5 (by omega)
                      replace hT3 := hT3.thru hcx_ F9
                      refine wl (ro_assign rfl) ?_
                      refine wl_nil (x_then (hK80 _ _ ?_))
                      clear hK80 K80
                      refine c_seq (fun K84 hK84 => ?_)
                      refine c_seq (fun K85 hK85 => ?_)
                      refine c_reg ?_ -- region 45 parse.go:98
                      refine wl (ro_move rfl) ?_
                      refine wl (ro_eqNilI rfl ifc_290) ?_
                      refine wl_nil (x_then (hK85 _ _ ?_))
                      clear hK85 K85
                      refine wc_condF rfl ?_
                      refine c_skip (x_then (hK84 _ _ ?_))
                      clear hK84 K84
                      refine forget [(9, _), (12, _), (13, _)] ⟨rfl, rfl, rfl, trivial⟩ (fun e => ?_)
                      refine c_seq (fun K86 hK86 => ?_)
                      refine c_reg ?_ -- region 47 parse.go:101
                      refine wl (ro_move rfl) ?_
                      refine wl (ro_move rfl) ?_
                      refine wl (ro_move rfl) ?_
                      refine wl (ro_build rfl bld_309_0_1_2) ?_
                      refine wl_box rfl rfl (fun b142 w7 hbb142 h142 F7 => ?_)
                      have hbsb142 := Nat.le_trans hF.size hbb142
                      have hneb5b142 : b5 < b142 := Nat.lt_of_lt_of_le h5.lt hbb142
                      replace hF := hF.thenDrew.thenN F7
                      replace h5 := F7.blkN h5
                      replace hT3 := hT3.thruN ((Fram.refl none' _).thenDrew.thenN F7)
                      replace hT5 := hT5.thruN ((Fram.refl none' _).thenDrew.thenN F7)
                      replace hP5 := hP5.farN (F7)
                      refine wl (ro_mkIface rfl (by kernel_rfl)) ?_
                      refine wl (ro_assign rfl) ?_
                      refine wl_nil (x_then (hK86 _ _ ?_))
                      clear hK86 K86
                      refine c_ret ?_
                      refine bp_ret Tryz.results135 rfl ?_
                      cases okP_inj hR
                      obtain ⟨b6', p6, x6, y6, e6, g1, g2, g3⟩ := TrM_index.1 hT3
                      injection e6 with e6 _
                      injection e6 with _ e6
                      cases e6
                      exact ⟨hF, TrM_setI.2 ⟨b142, _, _, p6, x6, y6, _, rfl, ⟨h142, nw_new hbsb142⟩, g1, g2, g3, hT5⟩, hP5⟩
                  · skip
                    cases e'
                    rw [if_neg x3, if_neg x4] at hR
                    refine c_reg ?_ -- region 38 parse.go:89
                    refine wl (ro_move rfl) ?_
                    refine wl_nil (x_then (hK63 _ _ ?_))
                    clear hK63 K63
                    refine c_block ?_
                    refine forget [(0, _), (1, _), (9, _), (115, _)] ⟨rfl, rfl, rfl, rfl, trivial⟩ (fun e => ?_)
                    refine c_seq (fun K87 hK87 => ?_)
                    refine c_reg ?_ -- region 41 parse.go:89
                    refine wl (ro_taN rfl nif_305 g5 zi_305) ?_
                    refine wl (ro_extract rfl rfl) ?_
                    refine wl (ro_extract rfl rfl) ?_
                    refine wl (ro_taN rfl nif_306 g6 zi_306) ?_
                    refine wl (ro_extract rfl rfl) ?_
                    refine wl (ro_extract rfl rfl) ?_
                    refine wl (ro_pick rfl rfl rfl) ?_
                    refine wl_nil (x_then (hK87 _ _ ?_))
                    clear hK87 K87
                    refine wc_condF rfl ?_
                    refine c_seq (fun K88 hK88 => ?_)
                    refine c_reg ?_ -- region 39 parse.go:92
                    refine wl (ro_move rfl) ?_
                    refine wl_call rfl en_77 (fail77 (e := 15) hP3) ?_
                    rintro _ u7 ⟨rfl, hE, F9⟩
                    have hcx_ := hG.cx.go hF
                    replace hF := hF.trans' F9 (fun _ _ h => h)
                    replace h5 := F9.blkO h5 (by omega)
                    replace hT3 := hT3.thru hcx_ F9
                    refine wl_nil (x_then (hK88 _ _ ?_))
                    clear hK88 K88
                    refine forget [] trivial (fun e => ?_)
                    refine c_seq (fun K89 hK89 => ?_)
                    refine c_reg ?_ -- region 40 parse.go:93
                    refine wl (ro_assign rfl) ?_
                    refine wl_nil (x_then (hK89 _ _ ?_))
                    clear hK89 K89
                    refine c_ret (x_blkR (x_thenR ?_))
                    refine bp_ret Tryz.results135 rfl ?_
                    cases failP_inj hR
                    exact ⟨hF, rfl, hE⟩
theorem PAll.step {f : Nat} (ih : PAll f) (hf : f < 1000000000) : PAll (f + 1) where
  e0 := fun hG h1 h2 hR => expr180 ih hG h1 h2 hR
  u2 := fun hG hR => unary223 ih hG hR
  p3 := fun hG hR => post183 ih hG hR
  l5 := fun hG hr hR => list225 ih hf hG hr hR
  b6 := fun hG hR => block76 ih hf hG hR
  s8 := fun hG h1 hR => stmt135 ih hG h1 hR
  i9 := fun hG h1 h2 hR => branch178 ih hG h1 h2 hR
  d10 := fun hG h1 h2 hR => body181 ih hG h1 h2 hR
  f12 := fun hG h1 h2 hR => literal220 ih hf hG h1 h2 hR
theorem PAll.all : ∀ f : Nat, f ≤ 1000000000 → PAll f
  | 0, _ => PAll.zero
  | f + 1, h => (PAll.all f (by omega)).step (by omega)
end Go.Proofs.Qxb6500568aGreatDoor
