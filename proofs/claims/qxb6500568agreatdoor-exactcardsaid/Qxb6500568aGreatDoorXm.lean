import Derived.Test.Qxb6500568aGreatDoorXl
/- The model's parser: function literals. -/
namespace Go.Proofs.Qxb6500568aGreatDoor
open Ieee
set_option linter.unusedVariables false
set_option linter.unusedSimpArgs false

set_option maxHeartbeats 8000000 in
theorem function210 {n : Nat} {w : World} {mp : Nat} {np : Value} {src : Str} {U : Value} {G : List (Nd × Nat)} {s : PS} {lv p : Nat} {R : PO} (ih : MAll n) (hG : MG w mp np src U G s lv) (hlv : lv ≤ 12) (hfu : s.fu < 12) (hk39 : s.k = 39) (hn : 20 * s.len + 5 ≤ n + 1) (hR : Run 12 lv 0 0 dumT s R) : Ret Tryz.prog 210 [ptr mp, i64c lv, i64c p] w (MR w mp np src lv U G R) := by
  have hA := hG.a
  have hM := hA.v
  have hlo := hG.lo
  have hbd := hG.bd
  have hg1 := hG.g1
  have hF : Fram (arS mp U) w w := Fram.refl _ _
  have hL : Fram (one mp) w w := Fram.refl _ _
  have hmp : one mp mp := rfl
  have hmpa : arS mp U mp := .inl rfl
  obtain ⟨f, hR⟩ := run_step.1 hR
  replace hR : pLit (parP f) lv s = some R := hR
  unfold pLit expP at hR
  rw [if_pos hk39] at hR
  obtain ⟨R7, hq7, hR7⟩ := bdP_res hR
  have ef0 : s.adv.fu = s.fu := rfl
  have ha1 := adv_len' (s := s) (by omega)
  have hp9 : Pe { s.adv with fu := s.adv.fu + 1 } := ⟨(hG.pe.cm (Cm.adv hG.pe)).tk, by show s.fu + 1 ≤ 12; omega⟩
  obtain ⟨pos0, hX, hpos0⟩ := hM.ex
  unfold mpc at hX
  have hal0 := hM.al
  refine ret_of Tryz.func210 rfl Tryz.ntmps210 rfl ?_
  refine c_seq (fun K1 hK1 => ?_)
  refine c_reg ?_ -- region 0 syntaxm.go:487
  refine wl (ro_assign rfl) ?_
  refine wl_nil (x_then (hK1 _ _ ?_))
  clear hK1 K1
  refine forget [(0, _), (1, _), (2, _)] ⟨rfl, rfl, rfl, trivial⟩ (fun e => ?_)
  refine c_seq (fun K2 hK2 => ?_)
  refine c_reg ?_ -- region 1 syntaxm.go:488
  refine wl (ro_move rfl) ?_
  refine wl (ro_nilCheck rfl) ?_
  refine wl (ro_fieldAddr (k := 13) rfl fo_146_9) ?_
  refine wl (ro_loadB rfl sc_3 (by assumption) rfl) ?_
  refine wl (ro_arith rfl rfl rfl (Go.IntWalk.i64_in _ (by omega))) ?_
  refine wl (ro_nilCheck rfl) ?_
  refine wl (ro_fieldAddr (k := 13) rfl fo_146_9) ?_
  refine wl_put rfl rfl rfl sz_3 hX (by simp) (rfl) (fun w1 hX F1 => ?_)
  replace hF := hF.thenDrew.thenO F1 (by first | exact .inr (by omega) | exact .inl rfl | exact .inl (by assumption) | assumption)
  replace hL := hL.thenDrew.thenO F1 (by first | exact .inr (by omega) | exact .inl rfl | exact .inl (by assumption) | assumption)
  refine wl_nil (x_then (hK2 _ _ ?_))
  clear hK2 K2
  refine forget [(0, _), (1, _), (2, _)] ⟨rfl, rfl, rfl, trivial⟩ (fun e => ?_)
  refine c_seq (fun K3 hK3 => ?_)
  refine c_reg ?_ -- region 2 syntaxm.go:489
  refine wl (ro_move rfl) ?_
  refine wl (ro_nilCheck rfl) ?_
  refine wl (ro_fieldAddr (k := 13) rfl fo_146_9) ?_
  refine wl (ro_loadB rfl sc_3 (by assumption) rfl) ?_
  refine wl (ro_assign rfl) ?_
  refine wl_nil (x_then (hK3 _ _ ?_))
  clear hK3 K3
  refine forget [(0, _), (1, _), (2, _), (7, _)] ⟨rfl, rfl, rfl, rfl, trivial⟩ (fun e => ?_)
  refine c_seq (fun K4 hK4 => ?_)
  have hM1 : MV _ mp np src U { s with fu := s.fu + 1 } := ⟨⟨pos0, hX, hpos0⟩, hM.sx, hM.ne, hM.al, hM.lo, by show s.fu + 1 ≤ 100; omega, hM.sl⟩
  have hA1 := hA.turn hM1 hL
  refine c_reg ?_ -- region 3 syntaxm.go:490
  refine wl (ro_move rfl) ?_
  refine wl_call rfl en_48 (nextM hM1 (by show 1 < s.k; omega)) ?_
  rintro _ u2 ⟨rfl, hM2, F2⟩
  replace hF := ar_one hF F2
  have hA2 := hA1.turn hM2 F2
  obtain ⟨pos2, hX2, hpos2⟩ := hM2.ex
  unfold mpc at hX2
  have hL2 : Fram (one mp) u2 u2 := Fram.refl _ _
  refine wl_nil (x_then (hK4 _ _ ?_))
  clear hK4 K4
  refine forget [(0, _), (1, _), (2, _), (7, _)] ⟨rfl, rfl, rfl, rfl, trivial⟩ (fun e => ?_)
  refine c_seq (fun K5 hK5 => ?_)
  refine c_reg ?_ -- region 4 syntaxm.go:491
  refine wl (ro_assign rfl) ?_
  refine wl_nil (x_then (hK5 _ _ ?_))
  clear hK5 K5
  refine forget [(0, _), (1, _), (2, _), (7, _), (8, _)] ⟨rfl, rfl, rfl, rfl, rfl, trivial⟩ (fun e => ?_)
  refine c_seq (fun K6 hK6 => ?_)
  refine c_reg ?_ -- region 5 syntaxm.go:492
  refine wl (ro_assign rfl) ?_
  refine wl_nil (x_then (hK6 _ _ ?_))
  clear hK6 K6
  refine forget [(0, _), (1, _), (2, _), (7, _), (8, _), (9, _)] ⟨rfl, rfl, rfl, rfl, rfl, rfl, trivial⟩ (fun e => ?_)
  refine c_seq (fun K7 hK7 => ?_)
  refine c_reg ?_ -- region 6 syntaxm.go:493
  refine wl (ro_assign rfl) ?_
  refine wl_nil (x_then (hK7 _ _ ?_))
  clear hK7 K7
  refine forget [(0, _), (1, _), (2, _), (7, _), (8, _), (9, _), (10, _)] ⟨rfl, rfl, rfl, rfl, rfl, rfl, rfl, trivial⟩ (fun e => ?_)
  refine c_seq (fun K8 hK8 => ?_)
  refine c_reg ?_ -- region 7 syntaxm.go:494
  refine wl (ro_move rfl) ?_
  refine wl (ro_nilCheck rfl) ?_
  refine wl (ro_fieldAddr (k := 11) rfl fo_146_7) ?_
  refine wl (ro_loadB rfl sc_3 (by assumption) rfl) ?_
  refine wl (ro_assign rfl) ?_
  refine wl_nil (x_then (hK8 _ _ ?_))
  clear hK8 K8
  refine forget [(0, _), (1, _), (2, _), (7, _), (8, _), (9, _), (10, _), (11, _)] ⟨rfl, rfl, rfl, rfl, rfl, rfl, rfl, rfl, trivial⟩ (fun e => ?_)
  refine c_seq (fun K9 hK9 => ?_)
  refine c_reg ?_ -- region 8 syntaxm.go:495
  refine wl (ro_move rfl) ?_
  refine wl (ro_nilCheck rfl) ?_
  refine wl (ro_fieldAddr (k := 12) rfl fo_146_8) ?_
  refine wl (ro_loadB rfl sc_3 (by assumption) rfl) ?_
  refine wl (ro_assign rfl) ?_
  refine wl_nil (x_then (hK9 _ _ ?_))
  clear hK9 K9
  refine forget [(0, _), (1, _), (2, _), (7, _), (8, _), (9, _), (10, _), (11, _), (12, _)] ⟨rfl, rfl, rfl, rfl, rfl, rfl, rfl, rfl, rfl, trivial⟩ (fun e => ?_)
  refine c_seq (fun K10 hK10 => ?_)
  refine c_reg ?_ -- region 9 syntaxm.go:496
  refine wl (ro_move rfl) ?_
  refine wl (ro_nilCheck rfl) ?_
  refine wl (ro_fieldAddr (k := 11) rfl fo_146_7) ?_
  refine wl_put rfl rfl rfl sz_3 hX2 (by simp) (rfl) (fun w2 hX2 F2 => ?_)
  replace hF := hF.thenDrew.thenO F2 (by first | exact .inr (by omega) | exact .inl rfl | exact .inl (by assumption) | assumption)
  replace hL2 := hL2.thenDrew.thenO F2 (by first | exact .inr (by omega) | exact .inl rfl | exact .inl (by assumption) | assumption)
  refine wl_nil (x_then (hK10 _ _ ?_))
  clear hK10 K10
  refine forget [(0, _), (1, _), (2, _), (7, _), (8, _), (9, _), (10, _), (11, _), (12, _)] ⟨rfl, rfl, rfl, rfl, rfl, rfl, rfl, rfl, rfl, trivial⟩ (fun e => ?_)
  refine c_seq (fun K11 hK11 => ?_)
  refine c_block ?_
  -- loop@r10: live slots [0, 1, 2, 7, 8, 9, 10, 11, 12]
  refine c_loopG (fun m a' w' => ∃ (x : Tr) (l : List Str) (U1 : Value) (G1 : List (Nd × Nat)) (s1 : PS), m = s1.len ∧ Run 11 0 0 l.length x s1 R7 ∧ x.ps = l ∧ l.length ≤ 3 ∧ MA w' mp np src U1 G1 { s1 with al := 0 } ∧ nob U U1 w ∧ LC G (l.map Ex.name) G1 ∧ Pe s1 ∧ s1.lo = s.lo ∧ s1.al = s.al ∧ G1.length + 3 * s1.len ≤ 10000 ∧ s1.len < s.len ∧ Fram (arS mp U) w w' ∧ ∃ e, a' = Fr 124 (upds e [(0, ptr mp), (1, i64c lv), (2, i64c p), (7, i64c (s.fu + 1)), (8, i64c (rtC (l.map Ex.name) G.length)), (9, i64c (lst G.length (l.map Ex.name))), (10, i64c l.length), (11, i64c s.al), (12, i64c s.lo)]) []) s.adv.len ⟨dumT, [], U, G, { s.adv with fu := s.adv.fu + 1 }, rfl, ⟨f, hq7⟩, rfl, by decide, hA2.turn ⟨⟨pos2, hX2, hpos2⟩, hM2.sx, hM2.ne, Nat.zero_le _, hM2.lo, hM2.fu, hM2.sl⟩ hL2, fun b q => .inl q, ⟨by rw [show layC (([] : List Str).map Ex.name) G.length = [] from rfl, List.append_nil], rfl, fun t ht => by cases ht⟩, hp9, rfl, rfl, by show G.length + 3 * s.adv.len ≤ 10000; omega, by show s.adv.len < s.len; omega, hF, kp _ ⟨rfl, rfl, rfl, rfl, rfl, rfl, rfl, rfl, rfl, trivial⟩⟩ ?_
  clear hF hA1 hA2 hX2 hL2 hq7 hM2 hM1 hpos2 F2 hR
  rintro m a' u1 ⟨x, l, U1, G1, s1, rfl, hR, hxl, hl3, hA, hnb, hLC, hpe, hlo1, hal1, hbd1, hlen, hF, e, rfl⟩
  obtain ⟨g, hR⟩ := run_step.1 hR
  replace hR : pPars (parP g) l.length x s1 = some R7 := hR
  unfold pPars at hR
  have hlc := hLC.l
  rw [ndC_nm] at hlc
  have hkA : PS.k { s1 with al := 0 } = s1.k := rfl
  refine c_seq (fun K12 hK12 => ?_)
  refine c_seq (fun K13 hK13 => ?_)
  refine c_reg ?_ -- region 10 syntaxm.go:497
  refine wl (ro_move rfl) ?_
  refine wl_call rfl en_156 (is156 (k := 40) hA.v (by decide) (by decide)) ?_
  rintro _ w9 ⟨rfl, e9⟩
  replace e9 := e9.symm
  subst e9
  refine wl (ro_not rfl) ?_
  refine wl_nil (x_then (hK13 _ _ ?_))
  clear hK13 K13
  refine wc_cond rfl (fun hc43 => ?_) (fun hc43 => ?_)
  · try simp only [decide_eq_true_eq, decide_eq_false_iff_not, Bool.not_eq_true', Bool.not_eq_false', Bool.not_eq_eq_eq_not, Bool.not_true, Bool.not_false, beq_iff_eq, bne_iff_ne, ne_eq, beq_eq_false_iff_ne, bne_eq_false_iff_eq, gt_iff_lt, ge_iff_le, Int.not_lt, Int.not_le] at hc43
    have hk40 : ¬ s1.k = 40 := by
      first
      | exact hc43
      | (have h := hc43; simp at h; exact h)
    rw [if_neg hk40] at hR
    refine c_skip (x_then (hK12 _ _ ?_))
    clear hK12 K12
    refine c_block ?_
    refine c_mid (fun a' w' => ((∃ s2, MA w' mp np src U1 G1 { s2 with al := 0 } ∧ Pe s2 ∧ s2.lo = s.lo ∧ s2.al = s.al ∧ s2.len ≤ s1.len ∧ (if l.length = 3 then failP 19 s2 else nameP 0 s2 fun nm s => parP g 11 0 0 (l.length + 1) { x with ps := x.ps ++ [nm] } s) = some R7) ∨ ∃ ee pp, R7 = .inl (ee, pp) ∧ ME w' mp lv ee pp) ∧ Fram (arS mp U) w w' ∧ ∃ e, a' = Fr 124 (upds e [(0, ptr mp), (1, i64c lv), (2, i64c p), (7, i64c (s.fu + 1)), (8, i64c (rtC (l.map Ex.name) G.length)), (9, i64c (lst G.length (l.map Ex.name))), (10, i64c l.length), (11, i64c s.al), (12, i64c s.lo)]) []) ?_ ?_
    · skip
      refine c_seq (fun K14 hK14 => ?_)
      refine c_reg ?_ -- region 11 syntaxm.go:498
      refine wl (ro_move rfl) ?_
      refine wl (ro_cmp rfl rfl rfl) ?_
      refine wl_nil (x_then (hK14 _ _ ?_))
      clear hK14 K14
      refine wc_cond rfl (fun hc45 => ?_) (fun hc45 => ?_)
      · try simp only [decide_eq_true_eq, decide_eq_false_iff_not, Bool.not_eq_true', Bool.not_eq_false', Bool.not_eq_eq_eq_not, Bool.not_true, Bool.not_false, beq_iff_eq, bne_iff_ne, ne_eq, beq_eq_false_iff_ne, bne_eq_false_iff_eq, gt_iff_lt, ge_iff_le, Int.not_lt, Int.not_le] at hc45
        rw [if_pos (by omega)] at hR
        unfold expP at hR
        refine c_reg ?_ -- region 12 syntaxm.go:499
        refine wl (ro_move rfl) ?_
        refine wl_call rfl en_211 (wantM (lv := lv) (k := 45) hA.v (by decide) (by decide) (by omega)) ?_
        rintro _ u2 ⟨rfl, hq2, F2⟩
        replace hF := ar_one hF F2
        refine wl_nil (x_then ?_)
        refine ⟨?_, hF, kp _ ⟨rfl, rfl, rfl, rfl, rfl, rfl, rfl, rfl, rfl, trivial⟩⟩
        rw [hkA] at hq2
        by_cases hk : s1.k = 45
        · rw [if_pos hk] at hR hq2
          have ha2 := adv_len' (s := s1) (by omega)
          exact .inl ⟨s1.adv, hA.turn hq2 F2, hpe.cm (Cm.adv hpe), hlo1, hal1, by omega, hR⟩
        · rw [if_neg hk] at hR hq2
          cases failP_inj hR
          exact .inr ⟨_, _, rfl, hq2⟩
      · try simp only [decide_eq_true_eq, decide_eq_false_iff_not, Bool.not_eq_true', Bool.not_eq_false', Bool.not_eq_eq_eq_not, Bool.not_true, Bool.not_false, beq_iff_eq, bne_iff_ne, ne_eq, beq_eq_false_iff_ne, bne_eq_false_iff_eq, gt_iff_lt, ge_iff_le, Int.not_lt, Int.not_le] at hc45
        rw [if_neg (by omega)] at hR
        refine c_skip (x_then ?_)
        exact ⟨.inl ⟨s1, hA, hpe, hlo1, hal1, Nat.le_refl _, hR⟩, hF, kp _ ⟨rfl, rfl, rfl, rfl, rfl, rfl, rfl, rfl, rfl, trivial⟩⟩
    clear hF hA hR
    rintro a' u2 ⟨hor, hF, e, rfl⟩
    replace hor := hor.elim (fun ⟨s2, h⟩ => Classical.byCases (p := l.length = 3) (fun q => Or.inl (Exists.intro s2 (And.intro q h))) (fun q => Or.inr (Or.inl (Exists.intro s2 (And.intro q h))))) (fun h => Or.inr (Or.inr h))
    refine c_seq (fun K15 hK15 => ?_)
    refine c_seq (fun K16 hK16 => ?_)
    rcases hor with ⟨s2, hmx, hA, hpe2, hlo2, hal2, hlen2, hR⟩ | ⟨s2, hmx, hA, hpe2, hlo2, hal2, hlen2, hR⟩ | ⟨ee, pp, rfl, hE⟩
    · skip
      obtain ⟨pos, hX, hpos⟩ := hA.v.ex
      unfold mpc at hX
      rw [if_pos hmx] at hR
      cases failP_inj hR
      refine c_reg ?_ -- region 13 syntaxm.go:501
      refine wl (ro_move rfl) ?_
      refine wl (ro_cmp (r := true) rfl rfl (congrArg some (beq_iff_eq.2 (by omega)))) ?_
      refine wl (ro_move rfl) ?_
      refine wlg_yes rfl (ro_move rfl) ?_
      refine wlg_yes rfl (ro_nilCheck rfl) ?_
      refine wlg_yes rfl (ro_fieldAddr (k := 9) rfl fo_146_5) ?_
      refine wlg_yes rfl (ro_loadB rfl sc_54 (by assumption) rfl) ?_
      refine wlg_yes rfl (ro_cmp rfl rfl rfl) ?_
      refine wl (ro_pick rfl rfl rfl) ?_
      refine wl_nil (x_then (hK16 _ _ ?_))
      clear hK16 K16
      refine wc_condT rfl ?_
      refine c_reg ?_ -- region 14 syntaxm.go:502
      refine wl (ro_move rfl) ?_
      refine wl_call rfl en_50 (failM (lv := lv) (c := 19) hA.v (by decide) (by omega)) ?_
      rintro _ u3 ⟨rfl, hE0, F3⟩
      replace hF := ar_one hF F3
      refine wl_nil (x_then (hK15 _ _ ?_))
      clear hK15 K15
      refine forget [(0, _), (1, _), (2, _), (7, _), (8, _), (9, _), (10, _), (11, _), (12, _), (51, _), (52, _), (53, _), (54, _), (55, _)] ⟨rfl, rfl, rfl, rfl, rfl, rfl, rfl, rfl, rfl, rfl, rfl, rfl, rfl, rfl, trivial⟩ (fun e => ?_)
      refine c_seq (fun K17 hK17 => ?_)
      refine c_reg ?_ -- region 15 syntaxm.go:504
      refine wl (ro_move rfl) ?_
      refine wl_call rfl en_209 (nameE (x := 0) hE0 (by decide) (by omega)) ?_
      rintro _ u4 ⟨F4, ⟨na, nb, rfl⟩, hE⟩
      replace hF := ar_one hF F4
      have hE1 := hE
      obtain ⟨np', src', pos', t', U', al', lo', fu', hXe, h1, h2, h3, h4⟩ := hE
      unfold mpc at hXe
      refine wl (ro_move rfl) ?_
      refine wl (ro_extract rfl rfl) ?_
      refine wl (ro_extract rfl rfl) ?_
      refine wl (ro_assign rfl) ?_
      refine wl (ro_assign rfl) ?_
      refine wl_nil (x_then (hK17 _ _ ?_))
      clear hK17 K17
      refine c_seq (fun K18 hK18 => ?_)
      refine c_seq (fun K19 hK19 => ?_)
      refine c_reg ?_ -- region 16 syntaxm.go:505
      refine wl (ro_move rfl) ?_
      refine wl (ro_nilCheck rfl) ?_
      refine wl (ro_fieldAddr (k := 9) rfl fo_146_5) ?_
      refine wl (ro_loadB rfl sc_54 (by assumption) rfl) ?_
      refine wl (ro_cmp rfl rfl rfl) ?_
      refine wl_nil (x_then (hK19 _ _ ?_))
      clear hK19 K19
      refine wc_cond rfl (fun hc68 => ?_) (fun hc68 => ?_)
      · try simp only [decide_eq_true_eq, decide_eq_false_iff_not, Bool.not_eq_true', Bool.not_eq_false', Bool.not_eq_eq_eq_not, Bool.not_true, Bool.not_false, beq_iff_eq, bne_iff_ne, ne_eq, beq_eq_false_iff_ne, bne_eq_false_iff_eq, gt_iff_lt, ge_iff_le, Int.not_lt, Int.not_le] at hc68
        refine c_seq (fun K20 hK20 => ?_)
        refine c_reg ?_ -- region 17 syntaxm.go:506
        refine wl (ro_assign rfl) ?_
        refine wl_nil (x_then (hK20 _ _ ?_))
        clear hK20 K20
        refine c_ret (x_thenR (x_blkR (x_thenR (x_blkR (x_thenR ?_)))))
        refine bp_ret Tryz.results210 rfl ?_
        cases hR7
        exact ⟨hF, ⟨0, rfl⟩, hE1⟩
      · try simp only [decide_eq_true_eq, decide_eq_false_iff_not, Bool.not_eq_true', Bool.not_eq_false', Bool.not_eq_eq_eq_not, Bool.not_true, Bool.not_false, beq_iff_eq, bne_iff_ne, ne_eq, beq_eq_false_iff_ne, bne_eq_false_iff_eq, gt_iff_lt, ge_iff_le, Int.not_lt, Int.not_le] at hc68
        omega
    · skip
      obtain ⟨pos, hX, hpos⟩ := hA.v.ex
      unfold mpc at hX
      rw [if_neg hmx] at hR
      refine c_reg ?_ -- region 13 syntaxm.go:501
      refine wl (ro_move rfl) ?_
      refine wl (ro_cmp (r := false) rfl rfl (congrArg some (beq_eq_false_iff_ne.2 (by omega)))) ?_
      refine wl (ro_move rfl) ?_
      refine wlg_no rfl ?_
      refine wlg_no rfl ?_
      refine wlg_no rfl ?_
      refine wlg_no rfl ?_
      refine wlg_no rfl ?_
      refine wl (ro_pick rfl rfl rfl) ?_
      refine wl_nil (x_then (hK16 _ _ ?_))
      clear hK16 K16
      refine wc_condF rfl ?_
      refine c_skip (x_then (hK15 _ _ ?_))
      clear hK15 K15
      refine forget [(0, _), (1, _), (2, _), (7, _), (8, _), (9, _), (10, _), (11, _), (12, _)] ⟨rfl, rfl, rfl, rfl, rfl, rfl, rfl, rfl, rfl, trivial⟩ (fun e => ?_)
      refine c_seq (fun K21 hK21 => ?_)
      rcases nameP_or hR with ⟨ee, pp, rfl, hNF⟩ | ⟨hNK, hR⟩
      · skip
        refine c_reg ?_ -- region 15 syntaxm.go:504
        refine wl (ro_move rfl) ?_
        refine wl_call rfl en_209 (nameMF (x := 0) (lv := lv) (e := ee) (p := pp) (by rcases hNF with h | ⟨_, h, _⟩; exact .inl h; omega) hA.v (by decide) (by omega)) ?_
        rintro _ u4 ⟨F4, ⟨na, nb, rfl⟩, hE⟩
        replace hF := ar_one hF F4
        have hE1 := hE
        obtain ⟨np', src', pos', t', U', al', lo', fu', hXe, h1, h2, h3, h4⟩ := hE
        unfold mpc at hXe
        refine wl (ro_move rfl) ?_
        refine wl (ro_extract rfl rfl) ?_
        refine wl (ro_extract rfl rfl) ?_
        refine wl (ro_assign rfl) ?_
        refine wl (ro_assign rfl) ?_
        refine wl_nil (x_then (hK21 _ _ ?_))
        clear hK21 K21
        refine c_seq (fun K22 hK22 => ?_)
        refine c_seq (fun K23 hK23 => ?_)
        refine c_reg ?_ -- region 16 syntaxm.go:505
        refine wl (ro_move rfl) ?_
        refine wl (ro_nilCheck rfl) ?_
        refine wl (ro_fieldAddr (k := 9) rfl fo_146_5) ?_
        refine wl (ro_loadB rfl sc_54 (by assumption) rfl) ?_
        refine wl (ro_cmp rfl rfl rfl) ?_
        refine wl_nil (x_then (hK23 _ _ ?_))
        clear hK23 K23
        refine wc_cond rfl (fun hc68 => ?_) (fun hc68 => ?_)
        · try simp only [decide_eq_true_eq, decide_eq_false_iff_not, Bool.not_eq_true', Bool.not_eq_false', Bool.not_eq_eq_eq_not, Bool.not_true, Bool.not_false, beq_iff_eq, bne_iff_ne, ne_eq, beq_eq_false_iff_ne, bne_eq_false_iff_eq, gt_iff_lt, ge_iff_le, Int.not_lt, Int.not_le] at hc68
          refine c_seq (fun K24 hK24 => ?_)
          refine c_reg ?_ -- region 17 syntaxm.go:506
          refine wl (ro_assign rfl) ?_
          refine wl_nil (x_then (hK24 _ _ ?_))
          clear hK24 K24
          refine c_ret (x_thenR (x_blkR (x_thenR (x_blkR (x_thenR ?_)))))
          refine bp_ret Tryz.results210 rfl ?_
          cases hR7
          exact ⟨hF, ⟨0, rfl⟩, hE1⟩
        · try simp only [decide_eq_true_eq, decide_eq_false_iff_not, Bool.not_eq_true', Bool.not_eq_false', Bool.not_eq_eq_eq_not, Bool.not_true, Bool.not_false, beq_iff_eq, bne_iff_ne, ne_eq, beq_eq_false_iff_ne, bne_eq_false_iff_eq, gt_iff_lt, ge_iff_le, Int.not_lt, Int.not_le] at hc68
          omega
      · skip
        refine c_reg ?_ -- region 15 syntaxm.go:504
        refine wl (ro_move rfl) ?_
        refine wl_call rfl en_209 (nameMK (x := 0) (s := { s2 with al := 0 }) ⟨hNK.1, fun q ↦ by omega⟩ hA.v (by decide)) ?_
        rintro _ u4 ⟨F4, rfl, hM4⟩
        replace hF := ar_one hF F4
        have hA4 := hA.turn hM4 F4
        have ha2 := adv_len' (s := s2) (by have := hNK.1; omega)
        obtain ⟨pos4, hX4, hpos4⟩ := hM4.ex
        unfold mpc at hX4
        refine wl (ro_move rfl) ?_
        refine wl (ro_extract rfl rfl) ?_
        refine wl (ro_extract rfl rfl) ?_
        refine wl (ro_assign rfl) ?_
        refine wl (ro_assign rfl) ?_
        refine wl_nil (x_then (hK21 _ _ ?_))
        clear hK21 K21
        refine c_seq (fun K25 hK25 => ?_)
        refine c_seq (fun K26 hK26 => ?_)
        refine c_reg ?_ -- region 16 syntaxm.go:505
        refine wl (ro_move rfl) ?_
        refine wl (ro_nilCheck rfl) ?_
        refine wl (ro_fieldAddr (k := 9) rfl fo_146_5) ?_
        refine wl (ro_loadB rfl sc_54 (by assumption) rfl) ?_
        refine wl (ro_cmp rfl rfl rfl) ?_
        refine wl_nil (x_then (hK26 _ _ ?_))
        clear hK26 K26
        refine wc_cond rfl (fun hc68 => ?_) (fun hc68 => ?_)
        · try simp only [decide_eq_true_eq, decide_eq_false_iff_not, Bool.not_eq_true', Bool.not_eq_false', Bool.not_eq_eq_eq_not, Bool.not_true, Bool.not_false, beq_iff_eq, bne_iff_ne, ne_eq, beq_eq_false_iff_ne, bne_eq_false_iff_eq, gt_iff_lt, ge_iff_le, Int.not_lt, Int.not_le] at hc68
          exact absurd rfl hc68
        · try simp only [decide_eq_true_eq, decide_eq_false_iff_not, Bool.not_eq_true', Bool.not_eq_false', Bool.not_eq_eq_eq_not, Bool.not_true, Bool.not_false, beq_iff_eq, bne_iff_ne, ne_eq, beq_eq_false_iff_ne, bne_eq_false_iff_eq, gt_iff_lt, ge_iff_le, Int.not_lt, Int.not_le] at hc68
          refine c_skip (x_then (hK25 _ _ ?_))
          clear hK25 K25
          refine forget [(0, _), (1, _), (2, _), (7, _), (8, _), (9, _), (10, _), (11, _), (12, _), (13, _), (14, _)] ⟨rfl, rfl, rfl, rfl, rfl, rfl, rfl, rfl, rfl, rfl, rfl, trivial⟩ (fun e => ?_)
          refine c_seq (fun K27 hK27 => ?_)
          refine c_reg ?_ -- region 18 syntaxm.go:508
          refine wl (ro_move rfl) ?_
          refine wl (ro_move rfl) ?_
          refine wl (ro_move rfl) ?_
          refine wl (ro_build rfl bld_148_0_6_7) ?_
          refine wl_call rfl en_162 (addM (x := (⟨17, 0, 0, 0, 0, 0, s2.cur.s⟩, s2.cur.pl)) hA4 (by omega)) ?_
          rintro _ u5 ⟨rfl, U5, hA5, hn5, F5⟩
          have hz := hF.size
          replace hF := ar_trans hF hnb F5
          have hnb5 := nob_trans hnb hz hn5
          have hl5 : (G1 ++ [((⟨17, 0, 0, 0, 0, 0, s2.cur.s⟩ : Nd), s2.cur.pl)]).length = G1.length + 1 := by simp
          have hm5 : (G1 ++ [((⟨17, 0, 0, 0, 0, 0, s2.cur.s⟩ : Nd), s2.cur.pl)]).map Prod.fst = G1.map Prod.fst ++ lay (Ex.name s2.cur.s) G1.length := by rw [List.map_append]; rfl
          obtain ⟨g3, cap3, l3, e3, hO3⟩ := hA5.open (by omega)
          subst e3
          obtain ⟨pos3, hX3, hp3⟩ := hA5.v.ex
          unfold mpc at hX3
          have hB3 := hO3.b
          have hne3 := hO3.ne
          have hLX : LX (Ex.name s2.cur.s) := ly_name.lx
          have hmg3 : arS mp U g3 ∨ w.heap.size ≤ g3 := by
            rcases hnb5 g3 rfl with q | q
            · exact .inl (.inr q)
            · exact .inr q
          have hz3 := rtC_zero (ts := l.map Ex.name) (b := G.length) hg1 hLC.x
          have hml : (l ++ [s2.cur.s]).map Ex.name = l.map Ex.name ++ [Ex.name s2.cur.s] := by rw [List.map_append]; rfl
          have hndn : ndC (l.map Ex.name) = l.length := ndC_nm l
          refine wl (ro_assign rfl) ?_
          refine wl_nil (x_then (hK27 _ _ ?_))
          clear hK27 K27
          refine c_seq (fun K28 hK28 => ?_)
          refine c_seq (fun K29 hK29 => ?_)
          refine c_reg ?_ -- region 19 syntaxm.go:509
          refine wl (ro_move rfl) ?_
          refine wl (ro_cmp rfl rfl rfl) ?_
          refine wl_nil (x_then (hK29 _ _ ?_))
          clear hK29 K29
          refine wc_cond rfl (fun hc75 => ?_) (fun hc75 => ?_)
          · try simp only [decide_eq_true_eq, decide_eq_false_iff_not, Bool.not_eq_true', Bool.not_eq_false', Bool.not_eq_eq_eq_not, Bool.not_true, Bool.not_false, beq_iff_eq, bne_iff_ne, ne_eq, beq_eq_false_iff_ne, bne_eq_false_iff_eq, gt_iff_lt, ge_iff_le, Int.not_lt, Int.not_le] at hc75
            have hts : l.map Ex.name = [] := hz3.1 (by omega)
            refine c_reg ?_ -- region 20 syntaxm.go:510
            refine wl (ro_move rfl) ?_
            refine wl (ro_assign rfl) ?_
            refine wl_nil (x_then (hK28 _ _ ?_))
            clear hK28 K28
            refine forget [(0, _), (1, _), (2, _), (7, _), (8, _), (10, _), (11, _), (12, _), (15, _)] ⟨rfl, rfl, rfl, rfl, rfl, rfl, rfl, rfl, rfl, trivial⟩ (fun e => ?_)
            refine c_seq (fun K30 hK30 => ?_)
            refine c_reg ?_ -- region 22 syntaxm.go:514
            refine wl (ro_move rfl) ?_
            refine wl (ro_assign rfl) ?_
            refine wl_nil (x_then (hK30 _ _ ?_))
            clear hK30 K30
            refine c_reg ?_ -- region 23 syntaxm.go:515
            refine wl (ro_move rfl) ?_
            refine wl (ro_arith rfl rfl rfl (Go.IntWalk.i64_in _ (by omega))) ?_
            refine wl (ro_assign rfl) ?_
            refine wl_nil (x_blk (x_then ?_))
            obtain rfl : l = [] := List.map_eq_nil_iff.1 hts
            have e0 : G1.length = G.length := hlc
            have hLC3 : LC G ([s2.cur.s].map Ex.name) (G1 ++ [((⟨17, 0, 0, 0, 0, 0, s2.cur.s⟩ : Nd), s2.cur.pl)]) := LC.one hLX (by rw [hm5, hLC.m]; show _ ++ [] ++ _ = _; rw [List.append_nil, e0]) (by rw [hl5]; show G1.length + 1 = G.length + 1; omega)
            have e8 : G1.length = rtC ([s2.cur.s].map Ex.name) G.length := by show G1.length = G.length + 1 - 1; omega
            have e9 : G1.length = lst G.length ([s2.cur.s].map Ex.name) := by unfold lst; rw [if_neg (by simp)]; show G1.length = G.length + (1 + 0) - 1; omega
            exact ⟨s2.adv.len, by omega, { x with ps := x.ps ++ [s2.cur.s] }, [s2.cur.s], _, _, s2.adv, rfl, ⟨g, hR⟩, by show x.ps ++ [s2.cur.s] = _; rw [hxl]; rfl, by show 1 ≤ 3; omega, hA5, hnb5, hLC3, hpe2.cm (Cm.adv hpe2), hlo2, hal2, by rw [hl5]; omega, by omega, hF, kp _ ⟨rfl, rfl, rfl, rfl, congrArg (fun z : Nat => some (i64c z)) e8, congrArg (fun z : Nat => some (i64c z)) e9, rfl, rfl, rfl, trivial⟩⟩
          · try simp only [decide_eq_true_eq, decide_eq_false_iff_not, Bool.not_eq_true', Bool.not_eq_false', Bool.not_eq_eq_eq_not, Bool.not_true, Bool.not_false, beq_iff_eq, bne_iff_ne, ne_eq, beq_eq_false_iff_ne, bne_eq_false_iff_eq, gt_iff_lt, ge_iff_le, Int.not_lt, Int.not_le] at hc75
            have hts : l.map Ex.name ≠ [] := fun q => hc75 (by rw [hz3.2 q]; rfl)
            have hls : lst G.length (l.map Ex.name) = G.length + ndC (l.map Ex.name) - 1 := if_neg hts
            have hp1 := ndC_pos hLC.x hts
            rw [hls]
            refine c_reg ?_ -- region 21 syntaxm.go:512
            refine wl (ro_move rfl) ?_
            refine wl (ro_nilCheck rfl) ?_
            refine wl (ro_fieldAddr (k := 8) rfl fo_146_4) ?_
            refine wl (ro_loadB rfl sc_77 (by assumption) rfl) ?_
            refine wl (ro_move rfl) ?_
            refine wl (ro_move rfl) ?_
            refine wl (ro_indexAddr (et := 148) (k := 8) rfl rfl se_77 (rfl) ((by rw [hl5]; omega))) ?_
            refine wl (ro_fieldAddr (k := 4) rfl fo_148_4) ?_
            refine wl_put rfl rfl rfl sz_3 hB3 ((by have := hO3.k3; have := hO3.k1; rw [hl5] at this; omega)) (rfl) (fun w3 hB3 F3 => ?_)
            replace hF := hF.thenDrew.thenO F3 (by first | exact .inr (by omega) | exact .inl rfl | exact .inl (by assumption) | assumption)
            replace hX3 := F3.blkO hX3 (by omega)
            have F16 := (F3)
            refine wl_nil (x_then (hK28 _ _ ?_))
            clear hK28 K28
            refine forget [(0, _), (1, _), (2, _), (7, _), (8, _), (10, _), (11, _), (12, _), (15, _)] ⟨rfl, rfl, rfl, rfl, rfl, rfl, rfl, rfl, rfl, trivial⟩ (fun e => ?_)
            refine c_seq (fun K31 hK31 => ?_)
            refine c_reg ?_ -- region 22 syntaxm.go:514
            refine wl (ro_move rfl) ?_
            refine wl (ro_assign rfl) ?_
            refine wl_nil (x_then (hK31 _ _ ?_))
            clear hK31 K31
            refine c_reg ?_ -- region 23 syntaxm.go:515
            refine wl (ro_move rfl) ?_
            refine wl (ro_arith rfl rfl rfl (Go.IntWalk.i64_in _ (by omega))) ?_
            refine wl (ro_assign rfl) ?_
            refine wl_nil (x_blk (x_then ?_))
            have hLC3 := hLC.more hts hLX hm5 (by rw [hl5]; rfl)
            rw [← hml, show G1.length + ndT (Ex.name s2.cur.s) - 1 = G1.length from rfl] at hLC3
            have hA6 := hA5.link hO3 (by rw [hl5]; omega) hB3 F16
            have e8 : rtC (l.map Ex.name) G.length = rtC ((l ++ [s2.cur.s]).map Ex.name) G.length := by rw [hml, rtC_snoc, if_neg hts]
            have e9 : G1.length = lst G.length ((l ++ [s2.cur.s]).map Ex.name) := by unfold lst; rw [if_neg (by simp), ndC_nm]; simp only [List.length_append, List.length_cons, List.length_nil]; omega
            have e10 : l.length + 1 = (l ++ [s2.cur.s]).length := by simp
            exact ⟨s2.adv.len, by omega, { x with ps := x.ps ++ [s2.cur.s] }, l ++ [s2.cur.s], _, _, s2.adv, rfl, by rw [← e10]; exact ⟨g, hR⟩, by show x.ps ++ [s2.cur.s] = _; rw [hxl], by omega, hA6, hnb5, hLC3, hpe2.cm (Cm.adv hpe2), hlo2, hal2, by rw [lkG_len, hl5]; omega, by omega, hF, kp _ ⟨rfl, rfl, rfl, rfl, congrArg (fun z : Nat => some (i64c z)) e8, congrArg (fun z : Nat => some (i64c z)) e9, congrArg (fun z : Nat => some (i64c z)) e10, rfl, rfl, trivial⟩⟩
    · skip
      have hE0 := hE
      obtain ⟨np', src', pos', t', U', al', lo', fu', hXe, h1, h2, h3, h4⟩ := hE
      unfold mpc at hXe
      refine c_reg ?_ -- region 13 syntaxm.go:501
      refine wl (ro_move rfl) ?_
      refine wl (ro_cmp rfl rfl rfl) ?_
      refine wl_fork rfl (fun hg50 => ?_) (fun hg50 => ?_)
      · try simp only [decide_eq_true_eq, decide_eq_false_iff_not, Bool.not_eq_true', Bool.not_eq_false', Bool.not_eq_eq_eq_not, Bool.not_true, Bool.not_false, beq_iff_eq, bne_iff_ne, ne_eq, beq_eq_false_iff_ne, bne_eq_false_iff_eq, gt_iff_lt, ge_iff_le, Int.not_lt, Int.not_le] at hg50
        refine wlg_yes rfl (ro_move rfl) ?_
        refine wlg_yes rfl (ro_nilCheck rfl) ?_
        refine wlg_yes rfl (ro_fieldAddr (k := 9) rfl fo_146_5) ?_
        refine wlg_yes rfl (ro_loadB rfl sc_54 (by assumption) rfl) ?_
        refine wlg_yes rfl (ro_cmp (r := false) rfl rfl (congrArg some (beq_eq_false_iff_ne.2 (by omega)))) ?_
        refine wl (ro_pick rfl rfl rfl) ?_
        refine wl_nil (x_then (hK16 _ _ ?_))
        clear hK16 K16
        refine wc_condF rfl ?_
        refine c_skip (x_then (hK15 _ _ ?_))
        clear hK15 K15
        refine forget [(0, _), (1, _), (2, _), (7, _), (8, _), (9, _), (10, _), (11, _), (12, _), (51, _), (52, _), (53, _), (54, _), (55, _)] ⟨rfl, rfl, rfl, rfl, rfl, rfl, rfl, rfl, rfl, rfl, rfl, rfl, rfl, rfl, trivial⟩ (fun e => ?_)
        refine c_seq (fun K32 hK32 => ?_)
        refine c_reg ?_ -- region 15 syntaxm.go:504
        refine wl (ro_move rfl) ?_
        refine wl_call rfl en_209 (nameE (x := 0) hE0 (by decide) (by omega)) ?_
        rintro _ u4 ⟨F4, ⟨na, nb, rfl⟩, hE⟩
        replace hF := ar_one hF F4
        have hE1 := hE
        clear hXe h1 h2 h3 h4
        obtain ⟨np', src', pos', t', U', al', lo', fu', hXe, h1, h2, h3, h4⟩ := hE
        unfold mpc at hXe
        refine wl (ro_move rfl) ?_
        refine wl (ro_extract rfl rfl) ?_
        refine wl (ro_extract rfl rfl) ?_
        refine wl (ro_assign rfl) ?_
        refine wl (ro_assign rfl) ?_
        refine wl_nil (x_then (hK32 _ _ ?_))
        clear hK32 K32
        refine c_seq (fun K33 hK33 => ?_)
        refine c_seq (fun K34 hK34 => ?_)
        refine c_reg ?_ -- region 16 syntaxm.go:505
        refine wl (ro_move rfl) ?_
        refine wl (ro_nilCheck rfl) ?_
        refine wl (ro_fieldAddr (k := 9) rfl fo_146_5) ?_
        refine wl (ro_loadB rfl sc_54 (by assumption) rfl) ?_
        refine wl (ro_cmp rfl rfl rfl) ?_
        refine wl_nil (x_then (hK34 _ _ ?_))
        clear hK34 K34
        refine wc_cond rfl (fun hc68 => ?_) (fun hc68 => ?_)
        · try simp only [decide_eq_true_eq, decide_eq_false_iff_not, Bool.not_eq_true', Bool.not_eq_false', Bool.not_eq_eq_eq_not, Bool.not_true, Bool.not_false, beq_iff_eq, bne_iff_ne, ne_eq, beq_eq_false_iff_ne, bne_eq_false_iff_eq, gt_iff_lt, ge_iff_le, Int.not_lt, Int.not_le] at hc68
          refine c_seq (fun K35 hK35 => ?_)
          refine c_reg ?_ -- region 17 syntaxm.go:506
          refine wl (ro_assign rfl) ?_
          refine wl_nil (x_then (hK35 _ _ ?_))
          clear hK35 K35
          refine c_ret (x_thenR (x_blkR (x_thenR (x_blkR (x_thenR ?_)))))
          refine bp_ret Tryz.results210 rfl ?_
          cases hR7
          exact ⟨hF, ⟨0, rfl⟩, hE1⟩
        · try simp only [decide_eq_true_eq, decide_eq_false_iff_not, Bool.not_eq_true', Bool.not_eq_false', Bool.not_eq_eq_eq_not, Bool.not_true, Bool.not_false, beq_iff_eq, bne_iff_ne, ne_eq, beq_eq_false_iff_ne, bne_eq_false_iff_eq, gt_iff_lt, ge_iff_le, Int.not_lt, Int.not_le] at hc68
          omega
      · try simp only [decide_eq_true_eq, decide_eq_false_iff_not, Bool.not_eq_true', Bool.not_eq_false', Bool.not_eq_eq_eq_not, Bool.not_true, Bool.not_false, beq_iff_eq, bne_iff_ne, ne_eq, beq_eq_false_iff_ne, bne_eq_false_iff_eq, gt_iff_lt, ge_iff_le, Int.not_lt, Int.not_le] at hg50
        refine wlg_no rfl ?_
        refine wlg_no rfl ?_
        refine wlg_no rfl ?_
        refine wlg_no rfl ?_
        refine wlg_no rfl ?_
        refine wl (ro_pick rfl rfl rfl) ?_
        refine wl_nil (x_then (hK16 _ _ ?_))
        clear hK16 K16
        refine wc_condF rfl ?_
        refine c_skip (x_then (hK15 _ _ ?_))
        clear hK15 K15
        refine forget [(0, _), (1, _), (2, _), (7, _), (8, _), (9, _), (10, _), (11, _), (12, _)] ⟨rfl, rfl, rfl, rfl, rfl, rfl, rfl, rfl, rfl, trivial⟩ (fun e => ?_)
        refine c_seq (fun K36 hK36 => ?_)
        refine c_reg ?_ -- region 15 syntaxm.go:504
        refine wl (ro_move rfl) ?_
        refine wl_call rfl en_209 (nameE (x := 0) hE0 (by decide) (by omega)) ?_
        rintro _ u4 ⟨F4, ⟨na, nb, rfl⟩, hE⟩
        replace hF := ar_one hF F4
        have hE1 := hE
        clear hXe h1 h2 h3 h4
        obtain ⟨np', src', pos', t', U', al', lo', fu', hXe, h1, h2, h3, h4⟩ := hE
        unfold mpc at hXe
        refine wl (ro_move rfl) ?_
        refine wl (ro_extract rfl rfl) ?_
        refine wl (ro_extract rfl rfl) ?_
        refine wl (ro_assign rfl) ?_
        refine wl (ro_assign rfl) ?_
        refine wl_nil (x_then (hK36 _ _ ?_))
        clear hK36 K36
        refine c_seq (fun K37 hK37 => ?_)
        refine c_seq (fun K38 hK38 => ?_)
        refine c_reg ?_ -- region 16 syntaxm.go:505
        refine wl (ro_move rfl) ?_
        refine wl (ro_nilCheck rfl) ?_
        refine wl (ro_fieldAddr (k := 9) rfl fo_146_5) ?_
        refine wl (ro_loadB rfl sc_54 (by assumption) rfl) ?_
        refine wl (ro_cmp rfl rfl rfl) ?_
        refine wl_nil (x_then (hK38 _ _ ?_))
        clear hK38 K38
        refine wc_cond rfl (fun hc68 => ?_) (fun hc68 => ?_)
        · try simp only [decide_eq_true_eq, decide_eq_false_iff_not, Bool.not_eq_true', Bool.not_eq_false', Bool.not_eq_eq_eq_not, Bool.not_true, Bool.not_false, beq_iff_eq, bne_iff_ne, ne_eq, beq_eq_false_iff_ne, bne_eq_false_iff_eq, gt_iff_lt, ge_iff_le, Int.not_lt, Int.not_le] at hc68
          refine c_seq (fun K39 hK39 => ?_)
          refine c_reg ?_ -- region 17 syntaxm.go:506
          refine wl (ro_assign rfl) ?_
          refine wl_nil (x_then (hK39 _ _ ?_))
          clear hK39 K39
          refine c_ret (x_thenR (x_blkR (x_thenR (x_blkR (x_thenR ?_)))))
          refine bp_ret Tryz.results210 rfl ?_
          cases hR7
          exact ⟨hF, ⟨0, rfl⟩, hE1⟩
        · try simp only [decide_eq_true_eq, decide_eq_false_iff_not, Bool.not_eq_true', Bool.not_eq_false', Bool.not_eq_eq_eq_not, Bool.not_true, Bool.not_false, beq_iff_eq, bne_iff_ne, ne_eq, beq_eq_false_iff_ne, bne_eq_false_iff_eq, gt_iff_lt, ge_iff_le, Int.not_lt, Int.not_le] at hc68
          omega
  · try simp only [decide_eq_true_eq, decide_eq_false_iff_not, Bool.not_eq_true', Bool.not_eq_false', Bool.not_eq_eq_eq_not, Bool.not_true, Bool.not_false, beq_iff_eq, bne_iff_ne, ne_eq, beq_eq_false_iff_ne, bne_eq_false_iff_eq, gt_iff_lt, ge_iff_le, Int.not_lt, Int.not_le] at hc43
    have hk40 : s1.k = 40 := by
      first
      | exact hc43
      | (have h := hc43; simp at h; exact h)
    rw [if_pos hk40] at hR
    cases okP_inj hR
    refine c_exit (x_thenX (x_thenX (x_blkX (x_then (hK11 _ _ ?_)))))
    clear hK12 K12 hK11 K11
    refine forget [(0, _), (1, _), (2, _), (7, _), (8, _), (10, _), (11, _), (12, _)] ⟨rfl, rfl, rfl, rfl, rfl, rfl, rfl, rfl, trivial⟩ (fun e => ?_)
    refine c_seq (fun K40 hK40 => ?_)
    refine c_reg ?_ -- region 24 syntaxm.go:517
    refine wl (ro_move rfl) ?_
    refine wl_call rfl en_48 (nextM hA.v (by rw [hkA]; omega)) ?_
    rintro _ u2 ⟨rfl, hM2, F2⟩
    replace hF := ar_one hF F2
    have hA2 := hA.turn hM2 F2
    have ha2 := adv_len' (s := s1) (by omega)
    obtain ⟨pos2, hX2, hpos2⟩ := hM2.ex
    unfold mpc at hX2
    have hL2 : Fram (one mp) u2 u2 := Fram.refl _ _
    refine wl_nil (x_then (hK40 _ _ ?_))
    clear hK40 K40
    refine forget [(0, _), (1, _), (2, _), (7, _), (8, _), (10, _), (11, _), (12, _)] ⟨rfl, rfl, rfl, rfl, rfl, rfl, rfl, rfl, trivial⟩ (fun e => ?_)
    refine c_seq (fun K41 hK41 => ?_)
    refine c_reg ?_ -- region 25 syntaxm.go:518
    refine wl (ro_move rfl) ?_
    refine wl (ro_move rfl) ?_
    refine wl (ro_nilCheck rfl) ?_
    refine wl (ro_fieldAddr (k := 11) rfl fo_146_7) ?_
    refine wl_put rfl rfl rfl sz_3 hX2 (by simp) (rfl) (fun w4 hX2 F4 => ?_)
    replace hF := hF.thenDrew.thenO F4 (by first | exact .inr (by omega) | exact .inl rfl | exact .inl (by assumption) | assumption)
    replace hL2 := hL2.thenDrew.thenO F4 (by first | exact .inr (by omega) | exact .inl rfl | exact .inl (by assumption) | assumption)
    refine wl_nil (x_then (hK41 _ _ ?_))
    clear hK41 K41
    refine forget [(0, _), (1, _), (2, _), (7, _), (8, _), (11, _), (12, _)] ⟨rfl, rfl, rfl, rfl, rfl, rfl, rfl, trivial⟩ (fun e => ?_)
    refine c_seq (fun K42 hK42 => ?_)
    refine c_reg ?_ -- region 26 syntaxm.go:519
    refine wl (ro_move rfl) ?_
    refine wl (ro_nilCheck rfl) ?_
    refine wl (ro_fieldAddr (k := 12) rfl fo_146_8) ?_
    refine wl_put rfl rfl rfl sz_3 hX2 (by simp) (rfl) (fun w5 hX2 F5 => ?_)
    replace hF := hF.thenDrew.thenO F5 (by first | exact .inr (by omega) | exact .inl rfl | exact .inl (by assumption) | assumption)
    replace hL2 := hL2.thenDrew.thenO F5 (by first | exact .inr (by omega) | exact .inl rfl | exact .inl (by assumption) | assumption)
    refine wl_nil (x_then (hK42 _ _ ?_))
    clear hK42 K42
    refine forget [(0, _), (1, _), (2, _), (7, _), (8, _), (11, _), (12, _)] ⟨rfl, rfl, rfl, rfl, rfl, rfl, rfl, trivial⟩ (fun e => ?_)
    refine c_seq (fun K43 hK43 => ?_)
    rcases bdP_some hR7 with ⟨⟨ee, pp⟩, hq, rfl⟩ | ⟨t1, s3, hq, hR⟩
    · skip
      have hM3 : MV _ mp np src U1 { s1.adv with al := l.length, lo := 0 } := ⟨⟨pos2, hX2, hpos2⟩, hM2.sx, hM2.ne, by show l.length ≤ 12; omega, Nat.zero_le _, hM2.fu, hM2.sl⟩
      have hA3 := hA2.turn hM3 hL2
      rw [← hxl] at hA3
      have hpe3 : Pe { s1.adv with al := x.ps.length, lo := 0 } := ⟨(hpe.cm (Cm.adv hpe)).tk, hpe.fu⟩
      have hlp : PS.len { s1.adv with al := x.ps.length, lo := 0 } = s1.adv.len := rfl
      have hG3 := hG.at (lv1 := lv + 1) hA3 hpe3 (Nat.zero_le _) (by omega) (by omega) (by omega)
      refine c_reg ?_ -- region 27 syntaxm.go:520
      refine wl (ro_move rfl) ?_
      refine wl (ro_move rfl) ?_
      refine wl (ro_arith rfl rfl rfl (Go.IntWalk.i64_in _ (by omega))) ?_
      refine wl_call rfl en_49 (ih.bl hG3 (by omega) ⟨f, hq⟩) ?_
      rintro v u3 ⟨F3, ⟨z, rfl⟩, hE⟩
      replace hF := ar_trans hF hnb F3
      refine wl (ro_assign rfl) ?_
      refine wl_nil (x_then (hK43 _ _ ?_))
      clear hK43 K43
      refine forget [(0, _), (2, _), (7, _), (8, _), (11, _), (12, _), (16, _)] ⟨rfl, rfl, rfl, rfl, rfl, rfl, rfl, trivial⟩ (fun e => ?_)
      refine c_seq (fun K44 hK44 => ?_)
      refine c_reg ?_ -- region 28 syntaxm.go:521
      refine wl (ro_move rfl) ?_
      refine wl_call rfl en_211 (wantE hE) ?_
      rintro _ u4 ⟨rfl, hE4, F4⟩
      replace hF := ar_one hF F4
      obtain ⟨np', src', pos', t', U', al', lo', fu', hXe, h1, h2, h3, h4, h5, h6, h7, h8⟩ := hE4
      unfold mpc at hXe
      refine wl_nil (x_then (hK44 _ _ ?_))
      clear hK44 K44
      refine forget [(0, _), (2, _), (7, _), (8, _), (11, _), (12, _), (16, _)] ⟨rfl, rfl, rfl, rfl, rfl, rfl, rfl, trivial⟩ (fun e => ?_)
      refine c_seq (fun K45 hK45 => ?_)
      refine c_reg ?_ -- region 29 syntaxm.go:522
      refine wl (ro_move rfl) ?_
      refine wl (ro_move rfl) ?_
      refine wl (ro_nilCheck rfl) ?_
      refine wl (ro_fieldAddr (k := 11) rfl fo_146_7) ?_
      refine wl_put rfl rfl rfl sz_3 hXe (by simp) (rfl) (fun w6 hXe F6 => ?_)
      replace hF := hF.thenDrew.thenO F6 (by first | exact .inr (by omega) | exact .inl rfl | exact .inl (by assumption) | assumption)
      refine wl_nil (x_then (hK45 _ _ ?_))
      clear hK45 K45
      refine forget [(0, _), (2, _), (7, _), (8, _), (12, _), (16, _)] ⟨rfl, rfl, rfl, rfl, rfl, rfl, trivial⟩ (fun e => ?_)
      refine c_seq (fun K46 hK46 => ?_)
      refine c_reg ?_ -- region 30 syntaxm.go:523
      refine wl (ro_move rfl) ?_
      refine wl (ro_move rfl) ?_
      refine wl (ro_nilCheck rfl) ?_
      refine wl (ro_fieldAddr (k := 12) rfl fo_146_8) ?_
      refine wl_put rfl rfl rfl sz_3 hXe (by simp) (rfl) (fun w7 hXe F7 => ?_)
      replace hF := hF.thenDrew.thenO F7 (by first | exact .inr (by omega) | exact .inl rfl | exact .inl (by assumption) | assumption)
      refine wl_nil (x_then (hK46 _ _ ?_))
      clear hK46 K46
      refine c_seq (fun K47 hK47 => ?_)
      refine c_seq (fun K48 hK48 => ?_)
      refine c_reg ?_ -- region 31 syntaxm.go:524
      refine wl (ro_move rfl) ?_
      refine wl (ro_nilCheck rfl) ?_
      refine wl (ro_fieldAddr (k := 9) rfl fo_146_5) ?_
      refine wl (ro_loadB rfl sc_54 (by assumption) rfl) ?_
      refine wl (ro_cmp rfl rfl rfl) ?_
      refine wl_nil (x_then (hK48 _ _ ?_))
      clear hK48 K48
      refine wc_cond rfl (fun hc115 => ?_) (fun hc115 => ?_)
      · try simp only [decide_eq_true_eq, decide_eq_false_iff_not, Bool.not_eq_true', Bool.not_eq_false', Bool.not_eq_eq_eq_not, Bool.not_true, Bool.not_false, beq_iff_eq, bne_iff_ne, ne_eq, beq_eq_false_iff_ne, bne_eq_false_iff_eq, gt_iff_lt, ge_iff_le, Int.not_lt, Int.not_le] at hc115
        refine c_seq (fun K49 hK49 => ?_)
        refine c_reg ?_ -- region 32 syntaxm.go:525
        refine wl (ro_assign rfl) ?_
        refine wl_nil (x_then (hK49 _ _ ?_))
        clear hK49 K49
        refine c_ret (x_thenR ?_)
        refine bp_ret Tryz.results210 rfl ?_
        exact ⟨hF, ⟨0, rfl⟩, ⟨np', src', pos', t', U', s.al, s.lo, fu', hXe, h1, h2, h3, by omega, by omega, by omega, by omega, h8⟩⟩
      · try simp only [decide_eq_true_eq, decide_eq_false_iff_not, Bool.not_eq_true', Bool.not_eq_false', Bool.not_eq_eq_eq_not, Bool.not_true, Bool.not_false, beq_iff_eq, bne_iff_ne, ne_eq, beq_eq_false_iff_ne, bne_eq_false_iff_eq, gt_iff_lt, ge_iff_le, Int.not_lt, Int.not_le] at hc115
        omega
    · skip
      have hM3 : MV _ mp np src U1 { s1.adv with al := l.length, lo := 0 } := ⟨⟨pos2, hX2, hpos2⟩, hM2.sx, hM2.ne, by show l.length ≤ 12; omega, Nat.zero_le _, hM2.fu, hM2.sl⟩
      have hA3 := hA2.turn hM3 hL2
      rw [← hxl] at hA3
      have hpe3 : Pe { s1.adv with al := x.ps.length, lo := 0 } := ⟨(hpe.cm (Cm.adv hpe)).tk, hpe.fu⟩
      have hlp : PS.len { s1.adv with al := x.ps.length, lo := 0 } = s1.adv.len := rfl
      have hG3 := hG.at (lv1 := lv + 1) hA3 hpe3 (Nat.zero_le _) (by omega) (by omega) (by omega)
      refine c_reg ?_ -- region 27 syntaxm.go:520
      refine wl (ro_move rfl) ?_
      refine wl (ro_move rfl) ?_
      refine wl (ro_arith rfl rfl rfl (Go.IntWalk.i64_in _ (by omega))) ?_
      refine wl_call rfl en_49 (ih.bl hG3 (by omega) ⟨f, hq⟩) ?_
      rintro v u3 ⟨F3, rfl, U3, G3, hA4, hn4, hm4, hl4⟩
      have hz := hF.size
      replace hF := ar_trans hF hnb F3
      have hnb4 := nob_trans hnb hz hn4
      have hIB0 := (IB.all f).b t1 s3 hq
      have hIB : ndT t1 + 3 * s3.len ≤ 3 * s1.adv.len := hIB0
      refine wl (ro_assign rfl) ?_
      refine wl_nil (x_then (hK43 _ _ ?_))
      clear hK43 K43
      refine forget [(0, _), (2, _), (7, _), (8, _), (11, _), (12, _), (16, _)] ⟨rfl, rfl, rfl, rfl, rfl, rfl, rfl, trivial⟩ (fun e => ?_)
      refine c_seq (fun K50 hK50 => ?_)
      by_cases hk9 : s3.k = 9
      · skip
        rw [if_pos hk9] at hR
        cases okP_inj hR
        refine c_reg ?_ -- region 28 syntaxm.go:521
        refine wl (ro_move rfl) ?_
        refine wl_call rfl en_211 (wantM (lv := lv) (k := 9) hA4.v (by decide) (by decide) (by omega)) ?_
        rintro _ u4 ⟨rfl, hM4, F4⟩
        rw [if_pos hk9] at hM4
        replace hF := ar_one hF F4
        have hA5 := hA4.turn hM4 F4
        obtain ⟨pos4, hX4, hpos4⟩ := hM4.ex
        unfold mpc at hX4
        have hL4 : Fram (one mp) u4 u4 := Fram.refl _ _
        refine wl_nil (x_then (hK50 _ _ ?_))
        clear hK50 K50
        refine forget [(0, _), (2, _), (7, _), (8, _), (11, _), (12, _), (16, _)] ⟨rfl, rfl, rfl, rfl, rfl, rfl, rfl, trivial⟩ (fun e => ?_)
        refine c_seq (fun K51 hK51 => ?_)
        refine c_reg ?_ -- region 29 syntaxm.go:522
        refine wl (ro_move rfl) ?_
        refine wl (ro_move rfl) ?_
        refine wl (ro_nilCheck rfl) ?_
        refine wl (ro_fieldAddr (k := 11) rfl fo_146_7) ?_
        refine wl_put rfl rfl rfl sz_3 hX4 (by simp) (rfl) (fun w8 hX4 F8 => ?_)
        replace hF := hF.thenDrew.thenO F8 (by first | exact .inr (by omega) | exact .inl rfl | exact .inl (by assumption) | assumption)
        replace hL4 := hL4.thenDrew.thenO F8 (by first | exact .inr (by omega) | exact .inl rfl | exact .inl (by assumption) | assumption)
        refine wl_nil (x_then (hK51 _ _ ?_))
        clear hK51 K51
        refine forget [(0, _), (2, _), (7, _), (8, _), (12, _), (16, _)] ⟨rfl, rfl, rfl, rfl, rfl, rfl, trivial⟩ (fun e => ?_)
        refine c_seq (fun K52 hK52 => ?_)
        refine c_reg ?_ -- region 30 syntaxm.go:523
        refine wl (ro_move rfl) ?_
        refine wl (ro_move rfl) ?_
        refine wl (ro_nilCheck rfl) ?_
        refine wl (ro_fieldAddr (k := 12) rfl fo_146_8) ?_
        refine wl_put rfl rfl rfl sz_3 hX4 (by simp) (rfl) (fun w9 hX4 F9 => ?_)
        replace hF := hF.thenDrew.thenO F9 (by first | exact .inr (by omega) | exact .inl rfl | exact .inl (by assumption) | assumption)
        replace hL4 := hL4.thenDrew.thenO F9 (by first | exact .inr (by omega) | exact .inl rfl | exact .inl (by assumption) | assumption)
        refine wl_nil (x_then (hK52 _ _ ?_))
        clear hK52 K52
        refine c_seq (fun K53 hK53 => ?_)
        refine c_seq (fun K54 hK54 => ?_)
        refine c_reg ?_ -- region 31 syntaxm.go:524
        refine wl (ro_move rfl) ?_
        refine wl (ro_nilCheck rfl) ?_
        refine wl (ro_fieldAddr (k := 9) rfl fo_146_5) ?_
        refine wl (ro_loadB rfl sc_54 (by assumption) rfl) ?_
        refine wl (ro_cmp rfl rfl rfl) ?_
        refine wl_nil (x_then (hK54 _ _ ?_))
        clear hK54 K54
        refine wc_cond rfl (fun hc115 => ?_) (fun hc115 => ?_)
        · try simp only [decide_eq_true_eq, decide_eq_false_iff_not, Bool.not_eq_true', Bool.not_eq_false', Bool.not_eq_eq_eq_not, Bool.not_true, Bool.not_false, beq_iff_eq, bne_iff_ne, ne_eq, beq_eq_false_iff_ne, bne_eq_false_iff_eq, gt_iff_lt, ge_iff_le, Int.not_lt, Int.not_le] at hc115
          exact absurd rfl hc115
        · try simp only [decide_eq_true_eq, decide_eq_false_iff_not, Bool.not_eq_true', Bool.not_eq_false', Bool.not_eq_eq_eq_not, Bool.not_true, Bool.not_false, beq_iff_eq, bne_iff_ne, ne_eq, beq_eq_false_iff_ne, bne_eq_false_iff_eq, gt_iff_lt, ge_iff_le, Int.not_lt, Int.not_le] at hc115
          refine c_skip (x_then (hK53 _ _ ?_))
          clear hK53 K53
          refine forget [(0, _), (2, _), (7, _), (8, _), (16, _)] ⟨rfl, rfl, rfl, rfl, rfl, trivial⟩ (fun e => ?_)
          refine c_seq (fun K55 hK55 => ?_)
          have hM6 : MV _ mp np src U3 { s3.adv with al := s.al, lo := s.lo } := ⟨⟨pos4, hX4, hpos4⟩, hM4.sx, hM4.ne, hM.al, hM.lo, hM4.fu, hM4.sl⟩
          have hA6 := hA5.turn hM6 hL4
          refine c_reg ?_ -- region 33 syntaxm.go:527
          refine wl (ro_move rfl) ?_
          refine wl (ro_move rfl) ?_
          refine wl (ro_move rfl) ?_
          refine wl (ro_move rfl) ?_
          refine wl (ro_conv rfl sc_3 in_117 (Go.IntWalk.u64_in _ (by omega))) ?_
          refine wl (ro_move rfl) ?_
          refine wl (ro_build rfl bld_148_0_1_2_5_7) ?_
          refine wl_call rfl en_162 (addM (x := (⟨20, rtC (l.map Ex.name) G.length, rt t1 G1.length, 0, 0, s.fu + 1, []⟩, p)) hA6 (by omega)) ?_
          rintro _ u7 ⟨rfl, U7, hA7, hn7, F7⟩
          refine wl (ro_assign rfl) ?_
          refine wl_nil (x_then (hK55 _ _ ?_))
          clear hK55 K55
          refine c_ret ?_
          refine bp_ret Tryz.results210 rfl ?_
          rw [show s1.adv.al = s.al from hal1, show s1.adv.lo = s.lo from hlo1, hxl]
          refine ⟨ar_trans hF hnb4 F7, ?_, U7, _, hA7, nob_trans hnb4 hF.size hn7, ?_, ?_⟩
          · show _ = i64c (G.length + ndT (Ex.func (s.fu + 1) l t1) - 1)
            have : ndT (Ex.func (s.fu + 1) l t1) = (1 + l.length) + ndT t1 := rfl
            exact congrArg (fun z : Nat => i64c z) (by omega)
          · rw [List.map_append, hm4, hLC.m, layC_nm, rtC_nm, hlc]
            rw [show lay (Ex.func (s.adv.fu + 1) l t1) G.length = layN l G.length ++ lay t1 (G.length + l.length) ++ [⟨20, if l = [] then 0 else G.length, rt t1 (G.length + l.length), 0, 0, s.fu + 1, []⟩] from rfl]
            simp only [List.append_assoc]
            rfl
          · rw [List.length_append]
            show _ = G.length + ((1 + l.length) + ndT t1)
            simp only [List.length_cons, List.length_nil]
            omega
      · skip
        rw [if_neg hk9] at hR
        cases failP_inj hR
        refine c_reg ?_ -- region 28 syntaxm.go:521
        refine wl (ro_move rfl) ?_
        refine wl_call rfl en_211 (wantM (lv := lv) (k := 9) hA4.v (by decide) (by decide) (by omega)) ?_
        rintro _ u4 ⟨rfl, hE4, F4⟩
        rw [if_neg hk9] at hE4
        replace hF := ar_one hF F4
        obtain ⟨np', src', pos', t', U', al', lo', fu', hXe, h1, h2, h3, h4, h5, h6, h7, h8⟩ := hE4
        unfold mpc at hXe
        refine wl_nil (x_then (hK50 _ _ ?_))
        clear hK50 K50
        refine forget [(0, _), (2, _), (7, _), (8, _), (11, _), (12, _), (16, _)] ⟨rfl, rfl, rfl, rfl, rfl, rfl, rfl, trivial⟩ (fun e => ?_)
        refine c_seq (fun K56 hK56 => ?_)
        refine c_reg ?_ -- region 29 syntaxm.go:522
        refine wl (ro_move rfl) ?_
        refine wl (ro_move rfl) ?_
        refine wl (ro_nilCheck rfl) ?_
        refine wl (ro_fieldAddr (k := 11) rfl fo_146_7) ?_
        refine wl_put rfl rfl rfl sz_3 hXe (by simp) (rfl) (fun w10 hXe F10 => ?_)
        replace hF := hF.thenDrew.thenO F10 (by first | exact .inr (by omega) | exact .inl rfl | exact .inl (by assumption) | assumption)
        refine wl_nil (x_then (hK56 _ _ ?_))
        clear hK56 K56
        refine forget [(0, _), (2, _), (7, _), (8, _), (12, _), (16, _)] ⟨rfl, rfl, rfl, rfl, rfl, rfl, trivial⟩ (fun e => ?_)
        refine c_seq (fun K57 hK57 => ?_)
        refine c_reg ?_ -- region 30 syntaxm.go:523
        refine wl (ro_move rfl) ?_
        refine wl (ro_move rfl) ?_
        refine wl (ro_nilCheck rfl) ?_
        refine wl (ro_fieldAddr (k := 12) rfl fo_146_8) ?_
        refine wl_put rfl rfl rfl sz_3 hXe (by simp) (rfl) (fun w11 hXe F11 => ?_)
        replace hF := hF.thenDrew.thenO F11 (by first | exact .inr (by omega) | exact .inl rfl | exact .inl (by assumption) | assumption)
        refine wl_nil (x_then (hK57 _ _ ?_))
        clear hK57 K57
        refine c_seq (fun K58 hK58 => ?_)
        refine c_seq (fun K59 hK59 => ?_)
        refine c_reg ?_ -- region 31 syntaxm.go:524
        refine wl (ro_move rfl) ?_
        refine wl (ro_nilCheck rfl) ?_
        refine wl (ro_fieldAddr (k := 9) rfl fo_146_5) ?_
        refine wl (ro_loadB rfl sc_54 (by assumption) rfl) ?_
        refine wl (ro_cmp rfl rfl rfl) ?_
        refine wl_nil (x_then (hK59 _ _ ?_))
        clear hK59 K59
        refine wc_cond rfl (fun hc115 => ?_) (fun hc115 => ?_)
        · try simp only [decide_eq_true_eq, decide_eq_false_iff_not, Bool.not_eq_true', Bool.not_eq_false', Bool.not_eq_eq_eq_not, Bool.not_true, Bool.not_false, beq_iff_eq, bne_iff_ne, ne_eq, beq_eq_false_iff_ne, bne_eq_false_iff_eq, gt_iff_lt, ge_iff_le, Int.not_lt, Int.not_le] at hc115
          refine c_seq (fun K60 hK60 => ?_)
          refine c_reg ?_ -- region 32 syntaxm.go:525
          refine wl (ro_assign rfl) ?_
          refine wl_nil (x_then (hK60 _ _ ?_))
          clear hK60 K60
          refine c_ret (x_thenR ?_)
          refine bp_ret Tryz.results210 rfl ?_
          exact ⟨hF, ⟨0, rfl⟩, ⟨np', src', pos', t', U', s.al, s.lo, fu', hXe, h1, h2, h3, by omega, by omega, by omega, by omega, h8⟩⟩
        · try simp only [decide_eq_true_eq, decide_eq_false_iff_not, Bool.not_eq_true', Bool.not_eq_false', Bool.not_eq_eq_eq_not, Bool.not_true, Bool.not_false, beq_iff_eq, bne_iff_ne, ne_eq, beq_eq_false_iff_ne, bne_eq_false_iff_eq, gt_iff_lt, ge_iff_le, Int.not_lt, Int.not_le] at hc115
          omega
end Go.Proofs.Qxb6500568aGreatDoor
