import Derived.Test.Qxb6500568aGreatDoorXf
/- The model's parser: primary expressions. -/
namespace Go.Proofs.Qxb6500568aGreatDoor
open Ieee
set_option linter.unusedVariables false
set_option linter.unusedSimpArgs false

section
variable {w u u' : World} {mp : Nat} {np : Value} {src : Str} {U U' U1 : Value} {G : List (Nd × Nat)} {s' : PS} {lv : Nat} {t : Tr} {nd : Nd} {p : Nat}
theorem MR.leaf (hF : Fram (arS mp U) w u') (hA : MA u' mp np src U' (G ++ [(nd, p)]) s') (hnb : nob U U' w) (hl : lay t G.length = [nd]) (hn : ndT t = 1) (hr : rt t G.length = G.length + 1 - 1) : MR w mp np src lv U G (.inr (t, s')) (i64c G.length) u' := by
  refine ⟨hF, ?_, U', _, hA, hnb, ?_, ?_⟩
  · rw [hr]; rfl
  · rw [List.map_append, hl]; rfl
  · rw [List.length_append, hn]; rfl
theorem mK_2 {t : Tok} : mK t = 2 ↔ t.k = 3 := by
  unfold mK
  repeat' split
  all_goals omega
theorem mK_3 {t : Tok} : mK t = 3 ↔ t.k = 4 := by
  unfold mK
  repeat' split
  all_goals omega
end
set_option maxHeartbeats 8000000 in
theorem prim213 {n : Nat} {w : World} {mp : Nat} {np : Value} {src : Str} {U : Value} {G : List (Nd × Nat)} {s : PS} {lv f : Nat} {R : PO} (ih : MAll n) (hG : MG w mp np src U G s lv) (hlv : lv ≤ 12) (hn : 20 * s.len + 1 ≤ n + 1) (hR : pPrim (parP f) lv s = some R) : Ret Tryz.prog 213 [ptr mp, i64c lv] w (MR w mp np src lv U G R) := by
  have hA := hG.a
  have hM := hA.v
  have hl13 := hG.l13
  have hlo := hG.lo
  have hbd := hG.bd
  have hF : Fram (arS mp U) w w := Fram.refl _ _
  have hL : Fram none' w w := Fram.refl _ _
  have hkk : s.k = s.cur.k := rfl
  have m1 := mK_1 (t := s.cur)
  have m2 := mK_2 (t := s.cur)
  have m3 := mK_3 (t := s.cur)
  have hpe1 := hG.pe.cm (Cm.adv hG.pe)
  obtain ⟨pos, hX, hpos⟩ := hM.ex
  have hml := hX.lt
  unfold mpc at hX
  unfold pPrim at hR
  have hob : ∀ b, own1 U b → b < w.heap.size := fun b q => hA.own.lt q
  refine ret_of Tryz.func213 rfl Tryz.ntmps213 rfl ?_
  refine c_seq (fun K1 hK1 => ?_)
  refine c_reg ?_ -- region 0 syntaxm.go:530
  refine wl (ro_assign rfl) ?_
  refine wl_nil (x_then (hK1 _ _ ?_))
  clear hK1 K1
  refine forget [(0, _), (1, _)] ⟨rfl, rfl, trivial⟩ (fun e => ?_)
  refine c_seq (fun K2 hK2 => ?_)
  refine c_reg ?_ -- region 1 syntaxm.go:531
  refine wl (ro_move rfl) ?_
  refine wl (ro_nilCheck rfl) ?_
  refine wl (ro_fieldAddr (k := 3) rfl fo_146_3) ?_
  refine wl (ro_loadAggB rfl ag_144 (by assumption) rfl rfl) ?_
  refine wl_new (ze_144) (fun b5 w1 hbb5 h5 F1 => ?_)
  have hbsb5 := Nat.le_trans hF.size hbb5
  have hnempb5 : mp < b5 := Nat.lt_of_lt_of_le hX.lt hbb5
  have hbsb5 := Nat.le_trans hL.size hbb5
  replace hF := hF.thenDrew.thenN F1
  replace hX := F1.blkN hX
  replace hL := hL.thenDrew.thenN F1
  refine wl_puta rfl rfl ((by simp [Value.oneCell', i64c, u64c, S])) sz_144 (rfl) h5 ((by simp)) (rfl) (fun w2 h5 F2 => ?_)
  replace hF := hF.thenDrew.thenO F2 (by first | exact .inr (by omega) | exact .inl rfl | exact .inl (by assumption) | assumption)
  replace hX := F2.blkO hX (by omega)
  replace hL := hL.thenDrew.thenO F2 (by first | exact .inr (by omega) | exact .inl rfl | exact .inl (by assumption) | assumption)
  refine wl_nil (x_then (hK2 _ _ ?_))
  clear hK2 K2
  refine c_seq (fun K3 hK3 => ?_)
  refine c_seq (fun K4 hK4 => ?_)
  have hA1 := hA.far hL (fun h => h) (fun _ _ h => h)
  have hn5 : ¬ arS mp U b5 := fun q => by
    rcases q with q | q
    · omega
    · have := hob _ q; omega
  refine c_reg ?_ -- region 2 syntaxm.go:532
  refine wl (ro_fieldAddr (k := 0) rfl fo_144_0) ?_
  refine wl (ro_loadB rfl sc_3 (by assumption) rfl) ?_
  refine wl_nil (x_then (hK4 _ _ ?_))
  clear hK4 K4
  refine c_block ?_
  refine forget [(0, _), (1, _), (5, _), (13, _)] ⟨rfl, rfl, rfl, rfl, trivial⟩ (fun e => ?_)
  refine c_seq (fun K5 hK5 => ?_)
  refine c_reg ?_ -- region 3 syntaxm.go:533
  refine wl (ro_cmp rfl rfl rfl) ?_
  refine wl (ro_assign rfl) ?_
  refine wl_nil (x_then (hK5 _ _ ?_))
  clear hK5 K5
  refine wc_cond rfl (fun hc14 => ?_) (fun hc14 => ?_)
  · try simp only [decide_eq_true_eq, decide_eq_false_iff_not, Bool.not_eq_true', Bool.not_eq_false', Bool.not_eq_eq_eq_not, Bool.not_true, Bool.not_false, beq_iff_eq, bne_iff_ne, ne_eq, beq_eq_false_iff_ne, bne_eq_false_iff_eq, gt_iff_lt, ge_iff_le, Int.not_lt, Int.not_le] at hc14
    rw [if_pos (by omega)] at hR
    cases okP_inj hR
    refine c_seq (fun K6 hK6 => ?_)
    refine c_reg ?_ -- region 4 syntaxm.go:534
    refine wl (ro_move rfl) ?_
    refine wl_call rfl en_48 (nextM hA1.v (by omega)) ?_
    rintro _ u2 ⟨rfl, hM2, F2⟩
    replace hF := ar_one hF F2
    have hA2 := hA1.turn hM2 F2
    have ha1 := adv_len' (s := s) (by omega)
    replace h5 := F2.blkO h5 (by omega)
    refine wl_nil (x_then (hK6 _ _ ?_))
    clear hK6 K6
    refine forget [(0, _), (5, _)] ⟨rfl, rfl, trivial⟩ (fun e => ?_)
    refine c_seq (fun K7 hK7 => ?_)
    refine c_reg ?_ -- region 5 syntaxm.go:535
    refine wl (ro_move rfl) ?_
    refine wl (ro_fieldAddr (k := 2) rfl fo_144_2) ?_
    refine wl (ro_loadB rfl sc_117 (by assumption) rfl) ?_
    refine wl (ro_fieldAddr (k := 3) rfl fo_144_3) ?_
    refine wl (ro_loadB rfl sc_3 (by assumption) rfl) ?_
    refine wl (ro_build rfl bld_148_0_5_7) ?_
    refine wl_call rfl en_162 (addM (x := (⟨15, 0, 0, 0, 0, mN s.cur, []⟩, s.cur.pl)) hA2 (by omega)) ?_
    rintro _ u3 ⟨rfl, U3, hA3, hn3, F3⟩
    refine wl (ro_assign rfl) ?_
    refine wl_nil (x_then (hK7 _ _ ?_))
    clear hK7 K7
    refine c_ret (x_blkR (x_thenR ?_))
    refine bp_ret Tryz.results213 rfl ?_
    rw [show mN s.cur = s.cur.n by unfold mN; rw [if_pos (by omega)]] at hA3
    exact MR.leaf (ar_trans hF (fun b q => .inl q) F3) hA3 (nob_trans (fun b q => .inl q) hF.size hn3) rfl rfl rfl
  · try simp only [decide_eq_true_eq, decide_eq_false_iff_not, Bool.not_eq_true', Bool.not_eq_false', Bool.not_eq_eq_eq_not, Bool.not_true, Bool.not_false, beq_iff_eq, bne_iff_ne, ne_eq, beq_eq_false_iff_ne, bne_eq_false_iff_eq, gt_iff_lt, ge_iff_le, Int.not_lt, Int.not_le] at hc14
    rw [if_neg (by omega)] at hR
    refine c_seq (fun K8 hK8 => ?_)
    refine c_reg ?_ -- region 6 syntaxm.go:536
    refine wl (ro_cmp rfl rfl rfl) ?_
    refine wl (ro_assign rfl) ?_
    refine wl_nil (x_then (hK8 _ _ ?_))
    clear hK8 K8
    refine wc_cond rfl (fun hc25 => ?_) (fun hc25 => ?_)
    · try simp only [decide_eq_true_eq, decide_eq_false_iff_not, Bool.not_eq_true', Bool.not_eq_false', Bool.not_eq_eq_eq_not, Bool.not_true, Bool.not_false, beq_iff_eq, bne_iff_ne, ne_eq, beq_eq_false_iff_ne, bne_eq_false_iff_eq, gt_iff_lt, ge_iff_le, Int.not_lt, Int.not_le] at hc25
      rw [if_pos (by omega)] at hR
      cases okP_inj hR
      refine c_seq (fun K9 hK9 => ?_)
      refine c_reg ?_ -- region 7 syntaxm.go:537
      refine wl (ro_move rfl) ?_
      refine wl_call rfl en_48 (nextM hA1.v (by omega)) ?_
      rintro _ u2 ⟨rfl, hM2, F2⟩
      replace hF := ar_one hF F2
      have hA2 := hA1.turn hM2 F2
      have ha1 := adv_len' (s := s) (by omega)
      replace h5 := F2.blkO h5 (by omega)
      refine wl_nil (x_then (hK9 _ _ ?_))
      clear hK9 K9
      refine forget [(0, _), (5, _)] ⟨rfl, rfl, trivial⟩ (fun e => ?_)
      refine c_seq (fun K10 hK10 => ?_)
      refine c_reg ?_ -- region 8 syntaxm.go:538
      refine wl (ro_move rfl) ?_
      refine wl (ro_fieldAddr (k := 1) rfl fo_144_1) ?_
      refine wl (ro_loadB rfl sc_9 (by assumption) rfl) ?_
      refine wl (ro_fieldAddr (k := 3) rfl fo_144_3) ?_
      refine wl (ro_loadB rfl sc_3 (by assumption) rfl) ?_
      refine wl (ro_build rfl bld_148_0_6_7) ?_
      refine wl_call rfl en_162 (addM (x := (⟨16, 0, 0, 0, 0, 0, mS s.cur⟩, s.cur.pl)) hA2 (by omega)) ?_
      rintro _ u3 ⟨rfl, U3, hA3, hn3, F3⟩
      refine wl (ro_assign rfl) ?_
      refine wl_nil (x_then (hK10 _ _ ?_))
      clear hK10 K10
      refine c_ret (x_blkR (x_thenR ?_))
      refine bp_ret Tryz.results213 rfl ?_
      rw [show mS s.cur = s.cur.s by unfold mS; rw [if_pos (.inr (by omega))]] at hA3
      exact MR.leaf (ar_trans hF (fun b q => .inl q) F3) hA3 (nob_trans (fun b q => .inl q) hF.size hn3) rfl rfl rfl
    · try simp only [decide_eq_true_eq, decide_eq_false_iff_not, Bool.not_eq_true', Bool.not_eq_false', Bool.not_eq_eq_eq_not, Bool.not_true, Bool.not_false, beq_iff_eq, bne_iff_ne, ne_eq, beq_eq_false_iff_ne, bne_eq_false_iff_eq, gt_iff_lt, ge_iff_le, Int.not_lt, Int.not_le] at hc25
      rw [if_neg (by omega)] at hR
      refine c_seq (fun K11 hK11 => ?_)
      refine c_reg ?_ -- region 9 syntaxm.go:539
      refine wl (ro_cmp rfl rfl rfl) ?_
      refine wl (ro_assign rfl) ?_
      refine wl_nil (x_then (hK11 _ _ ?_))
      clear hK11 K11
      refine wc_cond rfl (fun hc36 => ?_) (fun hc36 => ?_)
      · try simp only [decide_eq_true_eq, decide_eq_false_iff_not, Bool.not_eq_true', Bool.not_eq_false', Bool.not_eq_eq_eq_not, Bool.not_true, Bool.not_false, beq_iff_eq, bne_iff_ne, ne_eq, beq_eq_false_iff_ne, bne_eq_false_iff_eq, gt_iff_lt, ge_iff_le, Int.not_lt, Int.not_le] at hc36
        rw [if_pos (by omega)] at hR
        cases okP_inj hR
        refine c_seq (fun K12 hK12 => ?_)
        refine c_reg ?_ -- region 10 syntaxm.go:540
        refine wl (ro_move rfl) ?_
        refine wl_call rfl en_48 (nextM hA1.v (by omega)) ?_
        rintro _ u2 ⟨rfl, hM2, F2⟩
        replace hF := ar_one hF F2
        have hA2 := hA1.turn hM2 F2
        have ha1 := adv_len' (s := s) (by omega)
        replace h5 := F2.blkO h5 (by omega)
        refine wl_nil (x_then (hK12 _ _ ?_))
        clear hK12 K12
        refine forget [(0, _), (5, _)] ⟨rfl, rfl, trivial⟩ (fun e => ?_)
        refine c_seq (fun K13 hK13 => ?_)
        refine c_reg ?_ -- region 11 syntaxm.go:541
        refine wl (ro_move rfl) ?_
        refine wl (ro_fieldAddr (k := 1) rfl fo_144_1) ?_
        refine wl (ro_loadB rfl sc_9 (by assumption) rfl) ?_
        refine wl (ro_fieldAddr (k := 3) rfl fo_144_3) ?_
        refine wl (ro_loadB rfl sc_3 (by assumption) rfl) ?_
        refine wl (ro_build rfl bld_148_0_6_7) ?_
        refine wl_call rfl en_162 (addM (x := (⟨17, 0, 0, 0, 0, 0, mS s.cur⟩, s.cur.pl)) hA2 (by omega)) ?_
        rintro _ u3 ⟨rfl, U3, hA3, hn3, F3⟩
        refine wl (ro_assign rfl) ?_
        refine wl_nil (x_then (hK13 _ _ ?_))
        clear hK13 K13
        refine c_ret (x_blkR (x_thenR ?_))
        refine bp_ret Tryz.results213 rfl ?_
        rw [show mS s.cur = s.cur.s by unfold mS; rw [if_pos (.inl (by omega))]] at hA3
        exact MR.leaf (ar_trans hF (fun b q => .inl q) F3) hA3 (nob_trans (fun b q => .inl q) hF.size hn3) rfl rfl rfl
      · try simp only [decide_eq_true_eq, decide_eq_false_iff_not, Bool.not_eq_true', Bool.not_eq_false', Bool.not_eq_eq_eq_not, Bool.not_true, Bool.not_false, beq_iff_eq, bne_iff_ne, ne_eq, beq_eq_false_iff_ne, bne_eq_false_iff_eq, gt_iff_lt, ge_iff_le, Int.not_lt, Int.not_le] at hc36
        rw [if_neg (by omega)] at hR
        refine c_skip (x_blk (x_then (hK3 _ _ ?_)))
        clear hK3 K3
        refine c_seq (fun K14 hK14 => ?_)
        refine c_seq (fun K15 hK15 => ?_)
        refine c_reg ?_ -- region 12 syntaxm.go:543
        refine wl (ro_move rfl) ?_
        refine wl_call rfl en_156 (is156 (k := 16) hA1.v (by decide) (by decide)) ?_
        rintro _ w9 ⟨rfl, e9⟩
        replace e9 := e9.symm
        subst e9
        refine wl_nil (x_then (hK15 _ _ ?_))
        clear hK15 K15
        refine wc_cond rfl (fun hc48 => ?_) (fun hc48 => ?_)
        · try simp only [decide_eq_true_eq, decide_eq_false_iff_not, Bool.not_eq_true', Bool.not_eq_false', Bool.not_eq_eq_eq_not, Bool.not_true, Bool.not_false, beq_iff_eq, bne_iff_ne, ne_eq, beq_eq_false_iff_ne, bne_eq_false_iff_eq, gt_iff_lt, ge_iff_le, Int.not_lt, Int.not_le] at hc48
          rw [if_pos (by omega)] at hR
          cases okP_inj hR
          refine c_seq (fun K16 hK16 => ?_)
          refine c_reg ?_ -- region 13 syntaxm.go:544
          refine wl (ro_move rfl) ?_
          refine wl_call rfl en_48 (nextM hA1.v (by omega)) ?_
          rintro _ u2 ⟨rfl, hM2, F2⟩
          replace hF := ar_one hF F2
          have hA2 := hA1.turn hM2 F2
          have ha1 := adv_len' (s := s) (by omega)
          replace h5 := F2.blkO h5 (by omega)
          refine wl_nil (x_then (hK16 _ _ ?_))
          clear hK16 K16
          refine forget [(0, _), (5, _)] ⟨rfl, rfl, trivial⟩ (fun e => ?_)
          refine c_seq (fun K17 hK17 => ?_)
          refine c_reg ?_ -- region 14 syntaxm.go:545
          refine wl (ro_move rfl) ?_
          refine wl (ro_fieldAddr (k := 3) rfl fo_144_3) ?_
          refine wl (ro_loadB rfl sc_3 (by assumption) rfl) ?_
          refine wl (ro_build rfl bld_148_0_7) ?_
          refine wl_call rfl en_162 (addM (x := (⟨12, 0, 0, 0, 0, 0, []⟩, s.cur.pl)) hA2 (by omega)) ?_
          rintro _ u3 ⟨rfl, U3, hA3, hn3, F3⟩
          refine wl (ro_assign rfl) ?_
          refine wl_nil (x_then (hK17 _ _ ?_))
          clear hK17 K17
          refine c_ret (x_thenR ?_)
          refine bp_ret Tryz.results213 rfl ?_
          exact MR.leaf (ar_trans hF (fun b q => .inl q) F3) hA3 (nob_trans (fun b q => .inl q) hF.size hn3) rfl rfl rfl
        · try simp only [decide_eq_true_eq, decide_eq_false_iff_not, Bool.not_eq_true', Bool.not_eq_false', Bool.not_eq_eq_eq_not, Bool.not_true, Bool.not_false, beq_iff_eq, bne_iff_ne, ne_eq, beq_eq_false_iff_ne, bne_eq_false_iff_eq, gt_iff_lt, ge_iff_le, Int.not_lt, Int.not_le] at hc48
          rw [if_neg (by omega)] at hR
          refine c_skip (x_then (hK14 _ _ ?_))
          clear hK14 K14
          refine c_seq (fun K18 hK18 => ?_)
          refine c_seq (fun K19 hK19 => ?_)
          refine c_reg ?_ -- region 15 syntaxm.go:547
          refine wl (ro_move rfl) ?_
          refine wl_call rfl en_156 (is156 (k := 20) hA1.v (by decide) (by decide)) ?_
          rintro _ w9 ⟨rfl, e9⟩
          replace e9 := e9.symm
          subst e9
          refine wl_nil (x_then (hK19 _ _ ?_))
          clear hK19 K19
          refine wc_cond rfl (fun hc57 => ?_) (fun hc57 => ?_)
          · try simp only [decide_eq_true_eq, decide_eq_false_iff_not, Bool.not_eq_true', Bool.not_eq_false', Bool.not_eq_eq_eq_not, Bool.not_true, Bool.not_false, beq_iff_eq, bne_iff_ne, ne_eq, beq_eq_false_iff_ne, bne_eq_false_iff_eq, gt_iff_lt, ge_iff_le, Int.not_lt, Int.not_le] at hc57
            rw [if_pos (by omega)] at hR
            cases okP_inj hR
            refine c_seq (fun K20 hK20 => ?_)
            refine c_reg ?_ -- region 16 syntaxm.go:548
            refine wl (ro_move rfl) ?_
            refine wl_call rfl en_48 (nextM hA1.v (by omega)) ?_
            rintro _ u2 ⟨rfl, hM2, F2⟩
            replace hF := ar_one hF F2
            have hA2 := hA1.turn hM2 F2
            have ha1 := adv_len' (s := s) (by omega)
            replace h5 := F2.blkO h5 (by omega)
            refine wl_nil (x_then (hK20 _ _ ?_))
            clear hK20 K20
            refine forget [(0, _), (5, _)] ⟨rfl, rfl, trivial⟩ (fun e => ?_)
            refine c_seq (fun K21 hK21 => ?_)
            refine c_reg ?_ -- region 17 syntaxm.go:549
            refine wl (ro_move rfl) ?_
            refine wl (ro_fieldAddr (k := 3) rfl fo_144_3) ?_
            refine wl (ro_loadB rfl sc_3 (by assumption) rfl) ?_
            refine wl (ro_build rfl bld_148_0_7) ?_
            refine wl_call rfl en_162 (addM (x := (⟨13, 0, 0, 0, 0, 0, []⟩, s.cur.pl)) hA2 (by omega)) ?_
            rintro _ u3 ⟨rfl, U3, hA3, hn3, F3⟩
            refine wl (ro_assign rfl) ?_
            refine wl_nil (x_then (hK21 _ _ ?_))
            clear hK21 K21
            refine c_ret (x_thenR ?_)
            refine bp_ret Tryz.results213 rfl ?_
            exact MR.leaf (ar_trans hF (fun b q => .inl q) F3) hA3 (nob_trans (fun b q => .inl q) hF.size hn3) rfl rfl rfl
          · try simp only [decide_eq_true_eq, decide_eq_false_iff_not, Bool.not_eq_true', Bool.not_eq_false', Bool.not_eq_eq_eq_not, Bool.not_true, Bool.not_false, beq_iff_eq, bne_iff_ne, ne_eq, beq_eq_false_iff_ne, bne_eq_false_iff_eq, gt_iff_lt, ge_iff_le, Int.not_lt, Int.not_le] at hc57
            rw [if_neg (by omega)] at hR
            refine c_skip (x_then (hK18 _ _ ?_))
            clear hK18 K18
            refine c_seq (fun K22 hK22 => ?_)
            refine c_seq (fun K23 hK23 => ?_)
            refine c_reg ?_ -- region 18 syntaxm.go:551
            refine wl (ro_move rfl) ?_
            refine wl_call rfl en_156 (is156 (k := 10) hA1.v (by decide) (by decide)) ?_
            rintro _ w9 ⟨rfl, e9⟩
            replace e9 := e9.symm
            subst e9
            refine wl_nil (x_then (hK23 _ _ ?_))
            clear hK23 K23
            refine wc_cond rfl (fun hc66 => ?_) (fun hc66 => ?_)
            · try simp only [decide_eq_true_eq, decide_eq_false_iff_not, Bool.not_eq_true', Bool.not_eq_false', Bool.not_eq_eq_eq_not, Bool.not_true, Bool.not_false, beq_iff_eq, bne_iff_ne, ne_eq, beq_eq_false_iff_ne, bne_eq_false_iff_eq, gt_iff_lt, ge_iff_le, Int.not_lt, Int.not_le] at hc66
              rw [if_pos (by omega)] at hR
              cases okP_inj hR
              refine c_seq (fun K24 hK24 => ?_)
              refine c_reg ?_ -- region 19 syntaxm.go:552
              refine wl (ro_move rfl) ?_
              refine wl_call rfl en_48 (nextM hA1.v (by omega)) ?_
              rintro _ u2 ⟨rfl, hM2, F2⟩
              replace hF := ar_one hF F2
              have hA2 := hA1.turn hM2 F2
              have ha1 := adv_len' (s := s) (by omega)
              replace h5 := F2.blkO h5 (by omega)
              refine wl_nil (x_then (hK24 _ _ ?_))
              clear hK24 K24
              refine forget [(0, _), (5, _)] ⟨rfl, rfl, trivial⟩ (fun e => ?_)
              refine c_seq (fun K25 hK25 => ?_)
              refine c_reg ?_ -- region 20 syntaxm.go:553
              refine wl (ro_move rfl) ?_
              refine wl (ro_fieldAddr (k := 3) rfl fo_144_3) ?_
              refine wl (ro_loadB rfl sc_3 (by assumption) rfl) ?_
              refine wl (ro_build rfl bld_148_0_7) ?_
              refine wl_call rfl en_162 (addM (x := (⟨14, 0, 0, 0, 0, 0, []⟩, s.cur.pl)) hA2 (by omega)) ?_
              rintro _ u3 ⟨rfl, U3, hA3, hn3, F3⟩
              refine wl (ro_assign rfl) ?_
              refine wl_nil (x_then (hK25 _ _ ?_))
              clear hK25 K25
              refine c_ret (x_thenR ?_)
              refine bp_ret Tryz.results213 rfl ?_
              exact MR.leaf (ar_trans hF (fun b q => .inl q) F3) hA3 (nob_trans (fun b q => .inl q) hF.size hn3) rfl rfl rfl
            · try simp only [decide_eq_true_eq, decide_eq_false_iff_not, Bool.not_eq_true', Bool.not_eq_false', Bool.not_eq_eq_eq_not, Bool.not_true, Bool.not_false, beq_iff_eq, bne_iff_ne, ne_eq, beq_eq_false_iff_ne, bne_eq_false_iff_eq, gt_iff_lt, ge_iff_le, Int.not_lt, Int.not_le] at hc66
              rw [if_neg (by omega)] at hR
              refine c_skip (x_then (hK22 _ _ ?_))
              clear hK22 K22
              refine c_seq (fun K26 hK26 => ?_)
              refine c_seq (fun K27 hK27 => ?_)
              refine c_reg ?_ -- region 21 syntaxm.go:555
              refine wl (ro_move rfl) ?_
              refine wl_call rfl en_156 (is156 (k := 39) hA1.v (by decide) (by decide)) ?_
              rintro _ w9 ⟨rfl, e9⟩
              replace e9 := e9.symm
              subst e9
              refine wl_nil (x_then (hK27 _ _ ?_))
              clear hK27 K27
              refine wc_cond rfl (fun hc75 => ?_) (fun hc75 => ?_)
              · try simp only [decide_eq_true_eq, decide_eq_false_iff_not, Bool.not_eq_true', Bool.not_eq_false', Bool.not_eq_eq_eq_not, Bool.not_true, Bool.not_false, beq_iff_eq, bne_iff_ne, ne_eq, beq_eq_false_iff_ne, bne_eq_false_iff_eq, gt_iff_lt, ge_iff_le, Int.not_lt, Int.not_le] at hc75
                rw [if_pos (by omega)] at hR
                refine c_seq (fun K28 hK28 => ?_)
                refine c_reg ?_ -- region 22 syntaxm.go:556
                refine wl (ro_move rfl) ?_
                refine wl_call rfl en_48 (nextM hA1.v (by omega)) ?_
                rintro _ u2 ⟨rfl, hM2, F2⟩
                replace hF := ar_one hF F2
                have hA2 := hA1.turn hM2 F2
                have ha1 := adv_len' (s := s) (by omega)
                replace h5 := F2.blkO h5 (by omega)
                have hG2 := hG.at (lv1 := lv + 1) hA2 hpe1 (by show s.lo ≤ lv + 1; omega) (by omega) (Nat.le_refl _) (by omega)
                refine wl_nil (x_then (hK28 _ _ ?_))
                clear hK28 K28
                refine forget [(0, _), (1, _)] ⟨rfl, rfl, trivial⟩ (fun e => ?_)
                refine c_seq (fun K29 hK29 => ?_)
                rcases bdP_some hR with ⟨⟨ee, pp⟩, hq, rfl⟩ | ⟨t1, s1, hq, hR⟩
                · skip
                  refine c_reg ?_ -- region 23 syntaxm.go:557
                  refine wl (ro_move rfl) ?_
                  refine wl (ro_move rfl) ?_
                  refine wl (ro_arith rfl rfl rfl (Go.IntWalk.i64_in _ (by omega))) ?_
                  refine wl_call rfl en_160 (ih.x0 hG2 (by omega) ⟨f, hq⟩) ?_
                  rintro v u3 ⟨F3, ⟨z, rfl⟩, hE⟩
                  replace hF := ar_trans hF (fun b q => .inl q) F3
                  refine wl (ro_assign rfl) ?_
                  refine wl_nil (x_then (hK29 _ _ ?_))
                  clear hK29 K29
                  refine forget [(0, _), (6, _)] ⟨rfl, rfl, trivial⟩ (fun e => ?_)
                  refine c_seq (fun K30 hK30 => ?_)
                  refine c_reg ?_ -- region 24 syntaxm.go:558
                  refine wl (ro_move rfl) ?_
                  refine wl_call rfl en_211 (wantE hE) ?_
                  rintro _ u4 ⟨rfl, hE4, F4⟩
                  replace hF := ar_one hF F4
                  refine wl_nil (x_then (hK30 _ _ ?_))
                  clear hK30 K30
                  refine forget [(6, _)] ⟨rfl, trivial⟩ (fun e => ?_)
                  refine c_seq (fun K31 hK31 => ?_)
                  refine c_reg ?_ -- region 25 syntaxm.go:559
                  refine wl (ro_move rfl) ?_
                  refine wl (ro_assign rfl) ?_
                  refine wl_nil (x_then (hK31 _ _ ?_))
                  clear hK31 K31
                  refine c_ret (x_thenR ?_)
                  refine bp_ret Tryz.results213 rfl ?_
                  exact ⟨hF, ⟨_, rfl⟩, hE4.le (by omega)⟩
                · skip
                  refine c_reg ?_ -- region 23 syntaxm.go:557
                  refine wl (ro_move rfl) ?_
                  refine wl (ro_move rfl) ?_
                  refine wl (ro_arith rfl rfl rfl (Go.IntWalk.i64_in _ (by omega))) ?_
                  refine wl_call rfl en_160 (ih.x0 hG2 (by omega) ⟨f, hq⟩) ?_
                  rintro v u3 ⟨F3, rfl, U3, G3, hA3, hn3, hm3, hl3⟩
                  have hz := hF.size
                  replace hF := ar_trans hF (fun b q => .inl q) F3
                  unfold expP at hR
                  refine wl (ro_assign rfl) ?_
                  refine wl_nil (x_then (hK29 _ _ ?_))
                  clear hK29 K29
                  refine forget [(0, _), (6, _)] ⟨rfl, rfl, trivial⟩ (fun e => ?_)
                  refine c_seq (fun K32 hK32 => ?_)
                  refine c_reg ?_ -- region 24 syntaxm.go:558
                  refine wl (ro_move rfl) ?_
                  refine wl_call rfl en_211 (wantM (lv := lv) (k := 40) hA3.v (by decide) (by decide) (by omega)) ?_
                  rintro _ u4 ⟨rfl, hq4, F4⟩
                  replace hF := ar_one hF F4
                  refine wl_nil (x_then (hK32 _ _ ?_))
                  clear hK32 K32
                  refine forget [(6, _)] ⟨rfl, trivial⟩ (fun e => ?_)
                  refine c_seq (fun K33 hK33 => ?_)
                  refine c_reg ?_ -- region 25 syntaxm.go:559
                  refine wl (ro_move rfl) ?_
                  refine wl (ro_assign rfl) ?_
                  refine wl_nil (x_then (hK33 _ _ ?_))
                  clear hK33 K33
                  refine c_ret (x_thenR ?_)
                  refine bp_ret Tryz.results213 rfl ?_
                  by_cases hk4 : s1.k = 40
                  · rw [if_pos hk4] at hR hq4
                    cases okP_inj hR
                    exact ⟨hF, rfl, U3, G3, hA3.turn hq4 F4, nob_trans (fun b q => .inl q) hz hn3, hm3, hl3⟩
                  · rw [if_neg hk4] at hR hq4
                    cases failP_inj hR
                    exact ⟨hF, ⟨_, rfl⟩, hq4⟩
              · try simp only [decide_eq_true_eq, decide_eq_false_iff_not, Bool.not_eq_true', Bool.not_eq_false', Bool.not_eq_eq_eq_not, Bool.not_true, Bool.not_false, beq_iff_eq, bne_iff_ne, ne_eq, beq_eq_false_iff_ne, bne_eq_false_iff_eq, gt_iff_lt, ge_iff_le, Int.not_lt, Int.not_le] at hc75
                rw [if_neg (by omega)] at hR
                refine c_skip (x_then (hK26 _ _ ?_))
                clear hK26 K26
                refine c_seq (fun K34 hK34 => ?_)
                refine c_seq (fun K35 hK35 => ?_)
                refine c_reg ?_ -- region 26 syntaxm.go:561
                refine wl (ro_move rfl) ?_
                refine wl_call rfl en_156 (is156 (k := 12) hA1.v (by decide) (by decide)) ?_
                rintro _ w9 ⟨rfl, e9⟩
                replace e9 := e9.symm
                subst e9
                refine wl_nil (x_then (hK35 _ _ ?_))
                clear hK35 K35
                refine wc_cond rfl (fun hc86 => ?_) (fun hc86 => ?_)
                · try simp only [decide_eq_true_eq, decide_eq_false_iff_not, Bool.not_eq_true', Bool.not_eq_false', Bool.not_eq_eq_eq_not, Bool.not_true, Bool.not_false, beq_iff_eq, bne_iff_ne, ne_eq, beq_eq_false_iff_ne, bne_eq_false_iff_eq, gt_iff_lt, ge_iff_le, Int.not_lt, Int.not_le] at hc86
                  rw [if_pos (by omega)] at hR
                  refine c_seq (fun K36 hK36 => ?_)
                  refine c_seq (fun K37 hK37 => ?_)
                  refine c_reg ?_ -- region 27 syntaxm.go:562
                  refine wl (ro_move rfl) ?_
                  refine wl (ro_nilCheck rfl) ?_
                  refine wl (ro_fieldAddr (k := 13) rfl fo_146_9) ?_
                  refine wl (ro_loadB rfl sc_3 (by assumption) rfl) ?_
                  refine wl (ro_cmp rfl rfl rfl) ?_
                  refine wl_nil (x_then (hK37 _ _ ?_))
                  clear hK37 K37
                  refine wc_cond rfl (fun hc91 => ?_) (fun hc91 => ?_)
                  · try simp only [decide_eq_true_eq, decide_eq_false_iff_not, Bool.not_eq_true', Bool.not_eq_false', Bool.not_eq_eq_eq_not, Bool.not_true, Bool.not_false, beq_iff_eq, bne_iff_ne, ne_eq, beq_eq_false_iff_ne, bne_eq_false_iff_eq, gt_iff_lt, ge_iff_le, Int.not_lt, Int.not_le] at hc91
                    rw [if_pos (by omega)] at hR
                    cases failP_inj hR
                    refine c_seq (fun K38 hK38 => ?_)
                    refine c_reg ?_ -- region 28 syntaxm.go:563
                    refine wl (ro_move rfl) ?_
                    refine wl_call rfl en_50 (failM (lv := lv) (c := 20) hA1.v (by decide) (by omega)) ?_
                    rintro _ u2 ⟨rfl, hE, F2⟩
                    replace hF := ar_one hF F2
                    refine wl_nil (x_then (hK38 _ _ ?_))
                    clear hK38 K38
                    refine forget [] trivial (fun e => ?_)
                    refine c_seq (fun K39 hK39 => ?_)
                    refine c_reg ?_ -- region 29 syntaxm.go:564
                    refine wl (ro_assign rfl) ?_
                    refine wl_nil (x_then (hK39 _ _ ?_))
                    clear hK39 K39
                    refine c_ret (x_thenR (x_thenR ?_))
                    refine bp_ret Tryz.results213 rfl ?_
                    exact ⟨hF, ⟨0, rfl⟩, hE⟩
                  · try simp only [decide_eq_true_eq, decide_eq_false_iff_not, Bool.not_eq_true', Bool.not_eq_false', Bool.not_eq_eq_eq_not, Bool.not_true, Bool.not_false, beq_iff_eq, bne_iff_ne, ne_eq, beq_eq_false_iff_ne, bne_eq_false_iff_eq, gt_iff_lt, ge_iff_le, Int.not_lt, Int.not_le] at hc91
                    rw [if_neg (by omega)] at hR
                    refine c_skip (x_then (hK36 _ _ ?_))
                    clear hK36 K36
                    refine forget [(0, _), (1, _), (5, _)] ⟨rfl, rfl, rfl, trivial⟩ (fun e => ?_)
                    refine c_seq (fun K40 hK40 => ?_)
                    refine c_reg ?_ -- region 30 syntaxm.go:566
                    refine wl (ro_move rfl) ?_
                    refine wl_call rfl en_48 (nextM hA1.v (by omega)) ?_
                    rintro _ u2 ⟨rfl, hM2, F2⟩
                    replace hF := ar_one hF F2
                    have hA2 := hA1.turn hM2 F2
                    have ha1 := adv_len' (s := s) (by omega)
                    replace h5 := F2.blkO h5 (by omega)
                    have hG2 := hG.at (lv1 := lv) hA2 hpe1 (by show s.lo ≤ lv; omega) (by omega) (Nat.le_refl _) (by omega)
                    refine wl_nil (x_then (hK40 _ _ ?_))
                    clear hK40 K40
                    refine c_seq (fun K41 hK41 => ?_)
                    refine c_seq (fun K42 hK42 => ?_)
                    refine c_reg ?_ -- region 31 syntaxm.go:567
                    refine wl (ro_move rfl) ?_
                    refine wl_call rfl en_156 (is156 (k := 39) hA2.v (by decide) (by decide)) ?_
                    rintro _ w9 ⟨rfl, e9⟩
                    replace e9 := e9.symm
                    subst e9
                    refine wl (ro_not rfl) ?_
                    refine wl_nil (x_then (hK42 _ _ ?_))
                    clear hK42 K42
                    refine wc_cond rfl (fun hc98 => ?_) (fun hc98 => ?_)
                    · try simp only [decide_eq_true_eq, decide_eq_false_iff_not, Bool.not_eq_true', Bool.not_eq_false', Bool.not_eq_eq_eq_not, Bool.not_true, Bool.not_false, beq_iff_eq, bne_iff_ne, ne_eq, beq_eq_false_iff_ne, bne_eq_false_iff_eq, gt_iff_lt, ge_iff_le, Int.not_lt, Int.not_le] at hc98
                      refine c_seq (fun K43 hK43 => ?_)
                      refine c_reg ?_ -- region 32 syntaxm.go:568
                      refine wl (ro_move rfl) ?_
                      refine wl_call rfl en_50 (failM (lv := lv) (c := 15) hA2.v (by decide) (by omega)) ?_
                      rintro _ u3 ⟨rfl, hE, F3⟩
                      replace hF := ar_one hF F3
                      refine wl_nil (x_then (hK43 _ _ ?_))
                      clear hK43 K43
                      refine forget [] trivial (fun e => ?_)
                      refine c_seq (fun K44 hK44 => ?_)
                      refine c_reg ?_ -- region 33 syntaxm.go:569
                      refine wl (ro_assign rfl) ?_
                      refine wl_nil (x_then (hK44 _ _ ?_))
                      clear hK44 K44
                      refine c_ret (x_thenR (x_thenR ?_))
                      refine bp_ret Tryz.results213 rfl ?_
                      obtain ⟨g, hR⟩ := run_step.1 (show Run 12 lv 0 0 dumT s.adv R from ⟨f, hR⟩)
                      replace hR : pLit (parP g) lv s.adv = some R := hR
                      unfold pLit expP at hR
                      rw [if_neg (by simpa using hc98)] at hR
                      cases failP_inj hR
                      exact ⟨hF, ⟨0, rfl⟩, hE⟩
                    · try simp only [decide_eq_true_eq, decide_eq_false_iff_not, Bool.not_eq_true', Bool.not_eq_false', Bool.not_eq_eq_eq_not, Bool.not_true, Bool.not_false, beq_iff_eq, bne_iff_ne, ne_eq, beq_eq_false_iff_ne, bne_eq_false_iff_eq, gt_iff_lt, ge_iff_le, Int.not_lt, Int.not_le] at hc98
                      refine c_skip (x_then (hK41 _ _ ?_))
                      clear hK41 K41
                      refine forget [(0, _), (1, _), (5, _)] ⟨rfl, rfl, rfl, trivial⟩ (fun e => ?_)
                      refine c_seq (fun K45 hK45 => ?_)
                      refine c_reg ?_ -- region 34 syntaxm.go:571
                      refine wl (ro_move rfl) ?_
                      refine wl (ro_move rfl) ?_
                      refine wl (ro_fieldAddr (k := 3) rfl fo_144_3) ?_
                      refine wl (ro_loadB rfl sc_3 (by assumption) rfl) ?_
                      refine wl_call rfl en_210 (ih.f12 hG2 hlv (by show s.fu < 12; omega) (by simpa using hc98) (by omega) ⟨f, hR⟩) ?_
                      rintro v u3 ⟨F3, hr⟩
                      refine wl (ro_assign rfl) ?_
                      refine wl_nil (x_then (hK45 _ _ ?_))
                      clear hK45 K45
                      refine c_ret (x_thenR ?_)
                      refine bp_ret Tryz.results213 rfl ?_
                      rcases R with ⟨ee, pp⟩ | ⟨t1, s1⟩
                      · exact ⟨ar_trans hF (fun b q => .inl q) F3, hr⟩
                      · obtain ⟨h1, U3, G3, h2, h3, h4, h5⟩ := hr
                        exact ⟨ar_trans hF (fun b q => .inl q) F3, h1, U3, G3, h2, nob_trans (fun b q => .inl q) hF.size h3, h4, h5⟩
                · try simp only [decide_eq_true_eq, decide_eq_false_iff_not, Bool.not_eq_true', Bool.not_eq_false', Bool.not_eq_eq_eq_not, Bool.not_true, Bool.not_false, beq_iff_eq, bne_iff_ne, ne_eq, beq_eq_false_iff_ne, bne_eq_false_iff_eq, gt_iff_lt, ge_iff_le, Int.not_lt, Int.not_le] at hc86
                  rw [if_neg (by omega)] at hR
                  refine c_skip (x_then (hK34 _ _ ?_))
                  clear hK34 K34
                  refine c_seq (fun K46 hK46 => ?_)
                  refine c_seq (fun K47 hK47 => ?_)
                  refine c_reg ?_ -- region 35 syntaxm.go:573
                  refine wl (ro_move rfl) ?_
                  refine wl_call rfl en_156 (is156 (k := 41) hA1.v (by decide) (by decide)) ?_
                  rintro _ w9 ⟨rfl, e9⟩
                  replace e9 := e9.symm
                  subst e9
                  refine wl_nil (x_then (hK47 _ _ ?_))
                  clear hK47 K47
                  refine wc_cond rfl (fun hc107 => ?_) (fun hc107 => ?_)
                  · try simp only [decide_eq_true_eq, decide_eq_false_iff_not, Bool.not_eq_true', Bool.not_eq_false', Bool.not_eq_eq_eq_not, Bool.not_true, Bool.not_false, beq_iff_eq, bne_iff_ne, ne_eq, beq_eq_false_iff_ne, bne_eq_false_iff_eq, gt_iff_lt, ge_iff_le, Int.not_lt, Int.not_le] at hc107
                    rw [if_pos (by omega)] at hR
                    refine c_seq (fun K48 hK48 => ?_)
                    refine c_reg ?_ -- region 36 syntaxm.go:574
                    refine wl (ro_move rfl) ?_
                    refine wl_call rfl en_48 (nextM hA1.v (by omega)) ?_
                    rintro _ u2 ⟨rfl, hM2, F2⟩
                    replace hF := ar_one hF F2
                    have hA2 := hA1.turn hM2 F2
                    have ha1 := adv_len' (s := s) (by omega)
                    replace h5 := F2.blkO h5 (by omega)
                    have hG2 := hG.at (lv1 := lv + 1) hA2 hpe1 (by show s.lo ≤ lv + 1; omega) (by omega) (Nat.le_refl _) (by omega)
                    refine wl_nil (x_then (hK48 _ _ ?_))
                    clear hK48 K48
                    refine forget [(0, _), (1, _), (5, _)] ⟨rfl, rfl, rfl, trivial⟩ (fun e => ?_)
                    refine c_seq (fun K49 hK49 => ?_)
                    rcases bdP_some hR with ⟨⟨ee, pp⟩, hq, rfl⟩ | ⟨t1, s1, hq, hR⟩
                    · skip
                      refine c_reg ?_ -- region 37 syntaxm.go:575
                      refine wl (ro_move rfl) ?_
                      refine wl (ro_move rfl) ?_
                      refine wl (ro_arith rfl rfl rfl (Go.IntWalk.i64_in _ (by omega))) ?_
                      refine wl_call rfl en_214 (ih.li (r := 42) hG2 (.inr rfl) (by omega) ⟨f, hq⟩) ?_
                      rintro v u3 ⟨F3, ⟨z, rfl⟩, hE⟩
                      replace hF := ar_trans hF (fun b q => .inl q) F3
                      have hE0 := hE.le (lv' := lv) (by omega)
                      obtain ⟨np', src', pos', t', U', al', lo', fu', hXe, h1, h2, h3, h4⟩ := hE
                      unfold mpc at hXe
                      refine wl (ro_assign rfl) ?_
                      refine wl_nil (x_then (hK49 _ _ ?_))
                      clear hK49 K49
                      refine c_seq (fun K50 hK50 => ?_)
                      refine c_seq (fun K51 hK51 => ?_)
                      refine c_reg ?_ -- region 38 syntaxm.go:576
                      refine wl (ro_move rfl) ?_
                      refine wl (ro_nilCheck rfl) ?_
                      refine wl (ro_fieldAddr (k := 9) rfl fo_146_5) ?_
                      refine wl (ro_loadB rfl sc_54 (by assumption) rfl) ?_
                      refine wl (ro_cmp rfl rfl rfl) ?_
                      refine wl_nil (x_then (hK51 _ _ ?_))
                      clear hK51 K51
                      refine wc_cond rfl (fun hc118 => ?_) (fun hc118 => ?_)
                      · try simp only [decide_eq_true_eq, decide_eq_false_iff_not, Bool.not_eq_true', Bool.not_eq_false', Bool.not_eq_eq_eq_not, Bool.not_true, Bool.not_false, beq_iff_eq, bne_iff_ne, ne_eq, beq_eq_false_iff_ne, bne_eq_false_iff_eq, gt_iff_lt, ge_iff_le, Int.not_lt, Int.not_le] at hc118
                        refine c_seq (fun K52 hK52 => ?_)
                        refine c_reg ?_ -- region 39 syntaxm.go:577
                        refine wl (ro_assign rfl) ?_
                        refine wl_nil (x_then (hK52 _ _ ?_))
                        clear hK52 K52
                        refine c_ret (x_thenR (x_thenR ?_))
                        refine bp_ret Tryz.results213 rfl ?_
                        exact ⟨hF, ⟨0, rfl⟩, hE0⟩
                      · try simp only [decide_eq_true_eq, decide_eq_false_iff_not, Bool.not_eq_true', Bool.not_eq_false', Bool.not_eq_eq_eq_not, Bool.not_true, Bool.not_false, beq_iff_eq, bne_iff_ne, ne_eq, beq_eq_false_iff_ne, bne_eq_false_iff_eq, gt_iff_lt, ge_iff_le, Int.not_lt, Int.not_le] at hc118
                        omega
                    · skip
                      refine c_reg ?_ -- region 37 syntaxm.go:575
                      refine wl (ro_move rfl) ?_
                      refine wl (ro_move rfl) ?_
                      refine wl (ro_arith rfl rfl rfl (Go.IntWalk.i64_in _ (by omega))) ?_
                      refine wl_call rfl en_214 (ih.li (r := 42) hG2 (.inr rfl) (by omega) ⟨f, hq⟩) ?_
                      rintro v u3 ⟨F3, rfl, U3, G3, hA3, hn3, hm3, hl3⟩
                      have hz := hF.size
                      replace h5 := h5.fram F3 hn5
                      replace hF := ar_trans hF (fun b q => .inl q) F3
                      have hnb := nob_trans (fun b q => .inl q) hz hn3
                      obtain ⟨pos3, hX3, hp3⟩ := hA3.v.ex
                      unfold mpc at hX3
                      have hIB : ndT t1 + 3 * s1.len ≤ 3 * s.adv.len := (IB.all f).l (by decide) t1 s1 hq
                      refine wl (ro_assign rfl) ?_
                      refine wl_nil (x_then (hK49 _ _ ?_))
                      clear hK49 K49
                      refine c_seq (fun K53 hK53 => ?_)
                      refine c_seq (fun K54 hK54 => ?_)
                      refine c_reg ?_ -- region 38 syntaxm.go:576
                      refine wl (ro_move rfl) ?_
                      refine wl (ro_nilCheck rfl) ?_
                      refine wl (ro_fieldAddr (k := 9) rfl fo_146_5) ?_
                      refine wl (ro_loadB rfl sc_54 (by assumption) rfl) ?_
                      refine wl (ro_cmp rfl rfl rfl) ?_
                      refine wl_nil (x_then (hK54 _ _ ?_))
                      clear hK54 K54
                      refine wc_cond rfl (fun hc118 => ?_) (fun hc118 => ?_)
                      · try simp only [decide_eq_true_eq, decide_eq_false_iff_not, Bool.not_eq_true', Bool.not_eq_false', Bool.not_eq_eq_eq_not, Bool.not_true, Bool.not_false, beq_iff_eq, bne_iff_ne, ne_eq, beq_eq_false_iff_ne, bne_eq_false_iff_eq, gt_iff_lt, ge_iff_le, Int.not_lt, Int.not_le] at hc118
                        exact absurd rfl hc118
                      · try simp only [decide_eq_true_eq, decide_eq_false_iff_not, Bool.not_eq_true', Bool.not_eq_false', Bool.not_eq_eq_eq_not, Bool.not_true, Bool.not_false, beq_iff_eq, bne_iff_ne, ne_eq, beq_eq_false_iff_ne, bne_eq_false_iff_eq, gt_iff_lt, ge_iff_le, Int.not_lt, Int.not_le] at hc118
                        refine c_skip (x_then (hK53 _ _ ?_))
                        clear hK53 K53
                        refine forget [(0, _), (5, _), (7, _)] ⟨rfl, rfl, rfl, trivial⟩ (fun e => ?_)
                        refine c_seq (fun K55 hK55 => ?_)
                        refine c_reg ?_ -- region 40 syntaxm.go:579
                        refine wl (ro_move rfl) ?_
                        refine wl (ro_move rfl) ?_
                        refine wl (ro_fieldAddr (k := 3) rfl fo_144_3) ?_
                        refine wl (ro_loadB rfl sc_3 (by assumption) rfl) ?_
                        refine wl (ro_build rfl bld_148_0_1_7) ?_
                        refine wl_call rfl en_162 (addM (x := (⟨21, rt t1 G.length, 0, 0, 0, 0, []⟩, s.cur.pl)) hA3 (by omega)) ?_
                        rintro _ u4 ⟨rfl, U4, hA4, hn4, F4⟩
                        refine wl (ro_assign rfl) ?_
                        refine wl_nil (x_then (hK55 _ _ ?_))
                        clear hK55 K55
                        refine c_ret (x_thenR ?_)
                        refine bp_ret Tryz.results213 rfl ?_
                        cases okP_inj hR
                        refine ⟨ar_trans hF hnb F4, ?_, U4, _, hA4, nob_trans hnb hF.size hn4, ?_, ?_⟩
                        · show _ = i64c (G.length + ndT (Ex.table t1) - 1)
                          have : ndT (Ex.table t1) = 1 + ndT t1 := rfl
                          exact congrArg (fun z : Nat => i64c z) (by omega)
                        · rw [List.map_append, hm3, List.append_assoc]
                          rfl
                        · rw [List.length_append]
                          show _ = G.length + (1 + ndT t1)
                          simp only [List.length_cons, List.length_nil]
                          omega
                  · try simp only [decide_eq_true_eq, decide_eq_false_iff_not, Bool.not_eq_true', Bool.not_eq_false', Bool.not_eq_eq_eq_not, Bool.not_true, Bool.not_false, beq_iff_eq, bne_iff_ne, ne_eq, beq_eq_false_iff_ne, bne_eq_false_iff_eq, gt_iff_lt, ge_iff_le, Int.not_lt, Int.not_le] at hc107
                    rw [if_neg (by omega)] at hR
                    refine c_skip (x_then (hK46 _ _ ?_))
                    clear hK46 K46
                    refine forget [(0, _)] ⟨rfl, trivial⟩ (fun e => ?_)
                    refine c_seq (fun K56 hK56 => ?_)
                    refine c_reg ?_ -- region 41 syntaxm.go:581
                    refine wl (ro_move rfl) ?_
                    refine wl_call rfl en_50 (failM (lv := lv) (c := 15) hA1.v (by decide) (by omega)) ?_
                    rintro _ u2 ⟨rfl, hE, F2⟩
                    replace hF := ar_one hF F2
                    refine wl_nil (x_then (hK56 _ _ ?_))
                    clear hK56 K56
                    refine forget [] trivial (fun e => ?_)
                    refine c_seq (fun K57 hK57 => ?_)
                    refine c_reg ?_ -- region 42 syntaxm.go:582
                    refine wl (ro_assign rfl) ?_
                    refine wl_nil (x_then (hK57 _ _ ?_))
                    clear hK57 K57
                    refine c_ret ?_
                    refine bp_ret Tryz.results213 rfl ?_
                    cases failP_inj hR
                    exact ⟨hF, ⟨0, rfl⟩, hE⟩
end Go.Proofs.Qxb6500568aGreatDoor
