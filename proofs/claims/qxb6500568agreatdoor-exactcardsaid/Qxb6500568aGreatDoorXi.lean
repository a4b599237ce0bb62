import Derived.Test.Qxb6500568aGreatDoorXh
/- The model's parser: lists of expressions. -/
namespace Go.Proofs.Qxb6500568aGreatDoor
open Ieee
set_option linter.unusedVariables false
set_option linter.unusedSimpArgs false

set_option maxHeartbeats 8000000 in
theorem list214 {n : Nat} {w : World} {mp : Nat} {np : Value} {src : Str} {U : Value} {G : List (Nd × Nat)} {s : PS} {lv r : Nat} {R : PO} (ih : MAll n) (hG : MG w mp np src U G s lv) (hr : r = 40 ∨ r = 42) (hn : 20 * s.len + 12 ≤ n + 1) (hR : Run 5 lv r 0 dumT s R) : Ret Tryz.prog 214 [ptr mp, i64c lv, S (txt r), i64c (if r = 40 then 3 else 1073741824)] w (MR w mp np src lv U G R) := by
  have hA := hG.a
  have hl13 := hG.l13
  have hlo := hG.lo
  have hbd := hG.bd
  have hg1 := hG.g1
  have hF : Fram (arS mp U) w w := Fram.refl _ _
  have hr5 : 5 ≤ r ∧ r ≤ 46 := by omega
  refine ret_of Tryz.func214 rfl Tryz.ntmps214 rfl ?_
  refine c_seq (fun K1 hK1 => ?_)
  refine c_reg ?_ -- region 0 syntaxm.go:586
  refine wl (ro_assign rfl) ?_
  refine wl_nil (x_then (hK1 _ _ ?_))
  clear hK1 K1
  refine forget [(0, _), (1, _), (2, _), (3, _)] ⟨rfl, rfl, rfl, rfl, trivial⟩ (fun e => ?_)
  refine c_seq (fun K2 hK2 => ?_)
  refine c_reg ?_ -- region 1 syntaxm.go:587
  refine wl (ro_assign rfl) ?_
  refine wl_nil (x_then (hK2 _ _ ?_))
  clear hK2 K2
  refine forget [(0, _), (1, _), (2, _), (3, _), (9, _)] ⟨rfl, rfl, rfl, rfl, rfl, trivial⟩ (fun e => ?_)
  refine c_seq (fun K3 hK3 => ?_)
  refine c_reg ?_ -- region 2 syntaxm.go:588
  refine wl (ro_assign rfl) ?_
  refine wl_nil (x_then (hK3 _ _ ?_))
  clear hK3 K3
  refine forget [(0, _), (1, _), (2, _), (3, _), (9, _), (10, _)] ⟨rfl, rfl, rfl, rfl, rfl, rfl, trivial⟩ (fun e => ?_)
  refine c_seq (fun K4 hK4 => ?_)
  refine c_reg ?_ -- region 3 syntaxm.go:589
  refine wl (ro_assign rfl) ?_
  refine wl_nil (x_then (hK4 _ _ ?_))
  clear hK4 K4
  refine forget [(0, _), (1, _), (2, _), (3, _), (9, _), (10, _), (11, _)] ⟨rfl, rfl, rfl, rfl, rfl, rfl, rfl, trivial⟩ (fun e => ?_)
  refine c_seq (fun K5 hK5 => ?_)
  refine c_block ?_
  -- loop@r4: live slots [0, 1, 2, 3, 9, 10, 11]
  refine c_loopG (fun m a' w' => ∃ (ts : List Tr) (U1 : Value) (G1 : List (Nd × Nat)) (s1 : PS) (R1 : PO), m = s1.len ∧ Run 5 lv r ts.length dumT s1 R1 ∧ R = glue ts R1 ∧ MA w' mp np src U1 G1 s1 ∧ nob U U1 w ∧ LC G ts G1 ∧ Pe s1 ∧ s1.lo ≤ lv ∧ G1.length + 3 * s1.len ≤ 10000 ∧ s1.len ≤ s.len ∧ Fram (arS mp U) w w' ∧ ∃ e, a' = Fr 63 (upds e [(0, ptr mp), (1, i64c lv), (2, S (txt r)), (3, i64c (if r = 40 then 3 else 1073741824)), (9, i64c (rtC ts G.length)), (10, i64c (lst G.length ts)), (11, i64c ts.length)]) []) s.len ⟨[], U, G, s, R, rfl, hR, (by cases R <;> rfl), hA, fun b q => .inl q, ⟨by rw [show layC [] G.length = [] from rfl, List.append_nil], rfl, fun t ht => by cases ht⟩, hG.pe, hlo, hbd, Nat.le_refl _, hF, kp _ ⟨rfl, rfl, rfl, rfl, rfl, rfl, rfl, trivial⟩⟩ ?_
  clear hF hR hA
  rintro m a' u1 ⟨ts, U1, G1, s1, R1, rfl, hR, rfl, hA, hnb, hLC, hpe, hlo1, hbd1, hlen, hF, e, rfl⟩
  obtain ⟨g, hR⟩ := run_step.1 hR
  replace hR : pList (parP g) lv r ts.length s1 = some R1 := hR
  unfold pList at hR
  have hlc := hLC.l
  have htl := ndC_len hLC.x
  refine c_seq (fun K6 hK6 => ?_)
  refine c_seq (fun K7 hK7 => ?_)
  refine c_reg ?_ -- region 4 syntaxm.go:590
  refine wl (ro_move rfl) ?_
  refine wl (ro_move rfl) ?_
  refine wl_call rfl en_156 (is156 (k := r) hA.v hr5.1 hr5.2) ?_
  rintro _ w9 ⟨rfl, e9⟩
  replace e9 := e9.symm
  subst e9
  refine wl (ro_not rfl) ?_
  refine wl_nil (x_then (hK7 _ _ ?_))
  clear hK7 K7
  refine wc_cond rfl (fun hc16 => ?_) (fun hc16 => ?_)
  · try simp only [decide_eq_true_eq, decide_eq_false_iff_not, Bool.not_eq_true', Bool.not_eq_false', Bool.not_eq_eq_eq_not, Bool.not_true, Bool.not_false, beq_iff_eq, bne_iff_ne, ne_eq, beq_eq_false_iff_ne, bne_eq_false_iff_eq, gt_iff_lt, ge_iff_le, Int.not_lt, Int.not_le] at hc16
    rw [if_neg (by simpa using hc16)] at hR
    refine c_skip (x_then (hK6 _ _ ?_))
    clear hK6 K6
    refine c_block ?_
    refine c_mid (fun a' w' => ((∃ s2, MA w' mp np src U1 G1 s2 ∧ Pe s2 ∧ s2.lo ≤ lv ∧ s2.len ≤ s1.len ∧ (if r = 40 ∧ ts.length = 3 then failP 19 s2 else bdP (parP g 0 lv 1 0 dumT s2) fun x s => bdP (parP g 5 lv r (ts.length + 1) dumT s) fun l s => okP (ExL.cons x l) s) = some R1) ∨ ∃ ee pp, R1 = .inl (ee, pp) ∧ ME w' mp lv ee pp) ∧ Fram (arS mp U) w w' ∧ ∃ e, a' = Fr 63 (upds e [(0, ptr mp), (1, i64c lv), (2, S (txt r)), (3, i64c (if r = 40 then 3 else 1073741824)), (9, i64c (rtC ts G.length)), (10, i64c (lst G.length ts)), (11, i64c ts.length)]) []) ?_ ?_
    · skip
      refine c_seq (fun K8 hK8 => ?_)
      refine c_reg ?_ -- region 5 syntaxm.go:591
      refine wl (ro_move rfl) ?_
      refine wl (ro_cmp rfl rfl rfl) ?_
      refine wl_nil (x_then (hK8 _ _ ?_))
      clear hK8 K8
      refine wc_cond rfl (fun hc18 => ?_) (fun hc18 => ?_)
      · try simp only [decide_eq_true_eq, decide_eq_false_iff_not, Bool.not_eq_true', Bool.not_eq_false', Bool.not_eq_eq_eq_not, Bool.not_true, Bool.not_false, beq_iff_eq, bne_iff_ne, ne_eq, beq_eq_false_iff_ne, bne_eq_false_iff_eq, gt_iff_lt, ge_iff_le, Int.not_lt, Int.not_le] at hc18
        rw [if_pos (by omega)] at hR
        unfold expP at hR
        refine c_reg ?_ -- region 6 syntaxm.go:592
        refine wl (ro_move rfl) ?_
        refine wl_call rfl en_211 (wantM (lv := lv) (k := 45) hA.v (by decide) (by decide) (by omega)) ?_
        rintro _ u2 ⟨rfl, hq2, F2⟩
        replace hF := ar_one hF F2
        refine wl_nil (x_then ?_)
        refine ⟨?_, hF, kp _ ⟨rfl, rfl, rfl, rfl, rfl, rfl, rfl, trivial⟩⟩
        by_cases hk : s1.k = 45
        · rw [if_pos hk] at hR hq2
          have ha1 := adv_len' (s := s1) (by omega)
          exact .inl ⟨s1.adv, hA.turn hq2 F2, hpe.cm (Cm.adv hpe), hlo1, by omega, hR⟩
        · rw [if_neg hk] at hR hq2
          cases failP_inj hR
          exact .inr ⟨_, _, rfl, hq2⟩
      · try simp only [decide_eq_true_eq, decide_eq_false_iff_not, Bool.not_eq_true', Bool.not_eq_false', Bool.not_eq_eq_eq_not, Bool.not_true, Bool.not_false, beq_iff_eq, bne_iff_ne, ne_eq, beq_eq_false_iff_ne, bne_eq_false_iff_eq, gt_iff_lt, ge_iff_le, Int.not_lt, Int.not_le] at hc18
        rw [if_neg (by omega)] at hR
        refine c_skip (x_then ?_)
        exact ⟨.inl ⟨s1, hA, hpe, hlo1, Nat.le_refl _, hR⟩, hF, kp _ ⟨rfl, rfl, rfl, rfl, rfl, rfl, rfl, trivial⟩⟩
    clear hF hA hR
    rintro a' u2 ⟨hor, hF, e, rfl⟩
    have hmx0 : (r = 40 ∧ ts.length = 3) ↔ (ts.length : Int) = ((if r = 40 then 3 else 1073741824 : Nat) : Int) := by
      rcases hr with rfl | rfl
      · rw [if_pos rfl]; omega
      · rw [if_neg (by decide)]; omega
    replace hor := hor.elim (fun ⟨s2, h⟩ => Classical.byCases (p := r = 40 ∧ ts.length = 3) (fun q => Or.inl (Exists.intro s2 (And.intro q h))) (fun q => Or.inr (Or.inl (Exists.intro s2 (And.intro q h))))) (fun h => Or.inr (Or.inr h))
    refine c_seq (fun K9 hK9 => ?_)
    refine c_seq (fun K10 hK10 => ?_)
    rcases hor with ⟨s2, hmx, hA, hpe2, hlo2, hlen2, hR⟩ | ⟨s2, hmx, hA, hpe2, hlo2, hlen2, hR⟩ | ⟨ee, pp, rfl, hE⟩
    · skip
      obtain ⟨pos, hX, hpos⟩ := hA.v.ex
      unfold mpc at hX
      rw [if_pos hmx] at hR
      cases failP_inj hR
      refine c_reg ?_ -- region 7 syntaxm.go:594
      refine wl (ro_move rfl) ?_
      refine wl (ro_move rfl) ?_
      refine wl (ro_cmp (r := true) rfl rfl (congrArg some (beq_iff_eq.2 (hmx0.1 hmx)))) ?_
      refine wl (ro_move rfl) ?_
      refine wlg_yes rfl (ro_move rfl) ?_
      refine wlg_yes rfl (ro_nilCheck rfl) ?_
      refine wlg_yes rfl (ro_fieldAddr (k := 9) rfl fo_146_5) ?_
      refine wlg_yes rfl (ro_loadB rfl sc_54 (by assumption) rfl) ?_
      refine wlg_yes rfl (ro_cmp rfl rfl rfl) ?_
      refine wl (ro_pick rfl rfl rfl) ?_
      refine wl_nil (x_then (hK10 _ _ ?_))
      clear hK10 K10
      refine wc_condT rfl ?_
      refine c_reg ?_ -- region 8 syntaxm.go:595
      refine wl (ro_move rfl) ?_
      refine wl_call rfl en_50 (failM (lv := lv) (c := 19) hA.v (by decide) (by omega)) ?_
      rintro _ u3 ⟨rfl, hE, F3⟩
      replace hF := ar_one hF F3
      have hE0 := hE
      obtain ⟨np', src', pos', t', U', al', lo', fu', hXe, h1, h2, h3, h4⟩ := hE
      unfold mpc at hXe
      refine wl_nil (x_then (hK9 _ _ ?_))
      clear hK9 K9
      refine c_seq (fun K11 hK11 => ?_)
      refine c_seq (fun K12 hK12 => ?_)
      refine c_reg ?_ -- region 9 syntaxm.go:597
      refine wl (ro_move rfl) ?_
      refine wl (ro_nilCheck rfl) ?_
      refine wl (ro_fieldAddr (k := 9) rfl fo_146_5) ?_
      refine wl (ro_loadB rfl sc_54 (by assumption) rfl) ?_
      refine wl (ro_cmp rfl rfl rfl) ?_
      refine wl_nil (x_then (hK12 _ _ ?_))
      clear hK12 K12
      refine wc_cond rfl (fun hc37 => ?_) (fun hc37 => ?_)
      · try simp only [decide_eq_true_eq, decide_eq_false_iff_not, Bool.not_eq_true', Bool.not_eq_false', Bool.not_eq_eq_eq_not, Bool.not_true, Bool.not_false, beq_iff_eq, bne_iff_ne, ne_eq, beq_eq_false_iff_ne, bne_eq_false_iff_eq, gt_iff_lt, ge_iff_le, Int.not_lt, Int.not_le] at hc37
        refine c_seq (fun K13 hK13 => ?_)
        refine c_reg ?_ -- region 10 syntaxm.go:598
        refine wl (ro_assign rfl) ?_
        refine wl_nil (x_then (hK13 _ _ ?_))
        clear hK13 K13
        refine c_ret (x_thenR (x_blkR (x_thenR (x_blkR (x_thenR ?_)))))
        refine bp_ret Tryz.results214 rfl ?_
        exact ⟨hF, ⟨0, rfl⟩, hE0⟩
      · try simp only [decide_eq_true_eq, decide_eq_false_iff_not, Bool.not_eq_true', Bool.not_eq_false', Bool.not_eq_eq_eq_not, Bool.not_true, Bool.not_false, beq_iff_eq, bne_iff_ne, ne_eq, beq_eq_false_iff_ne, bne_eq_false_iff_eq, gt_iff_lt, ge_iff_le, Int.not_lt, Int.not_le] at hc37
        omega
    · skip
      obtain ⟨pos, hX, hpos⟩ := hA.v.ex
      unfold mpc at hX
      rw [if_neg hmx] at hR
      refine c_reg ?_ -- region 7 syntaxm.go:594
      refine wl (ro_move rfl) ?_
      refine wl (ro_move rfl) ?_
      refine wl (ro_cmp (r := false) rfl rfl (congrArg some (beq_eq_false_iff_ne.2 (fun q => hmx (hmx0.2 q))))) ?_
      refine wl (ro_move rfl) ?_
      refine wlg_no rfl ?_
      refine wlg_no rfl ?_
      refine wlg_no rfl ?_
      refine wlg_no rfl ?_
      refine wlg_no rfl ?_
      refine wl (ro_pick rfl rfl rfl) ?_
      refine wl_nil (x_then (hK10 _ _ ?_))
      clear hK10 K10
      refine wc_condF rfl ?_
      refine c_skip (x_then (hK9 _ _ ?_))
      clear hK9 K9
      refine c_seq (fun K14 hK14 => ?_)
      refine c_seq (fun K15 hK15 => ?_)
      refine c_reg ?_ -- region 9 syntaxm.go:597
      refine wl (ro_move rfl) ?_
      refine wl (ro_nilCheck rfl) ?_
      refine wl (ro_fieldAddr (k := 9) rfl fo_146_5) ?_
      refine wl (ro_loadB rfl sc_54 (by assumption) rfl) ?_
      refine wl (ro_cmp rfl rfl rfl) ?_
      refine wl_nil (x_then (hK15 _ _ ?_))
      clear hK15 K15
      refine wc_cond rfl (fun hc37 => ?_) (fun hc37 => ?_)
      · try simp only [decide_eq_true_eq, decide_eq_false_iff_not, Bool.not_eq_true', Bool.not_eq_false', Bool.not_eq_eq_eq_not, Bool.not_true, Bool.not_false, beq_iff_eq, bne_iff_ne, ne_eq, beq_eq_false_iff_ne, bne_eq_false_iff_eq, gt_iff_lt, ge_iff_le, Int.not_lt, Int.not_le] at hc37
        exact absurd rfl hc37
      · try simp only [decide_eq_true_eq, decide_eq_false_iff_not, Bool.not_eq_true', Bool.not_eq_false', Bool.not_eq_eq_eq_not, Bool.not_true, Bool.not_false, beq_iff_eq, bne_iff_ne, ne_eq, beq_eq_false_iff_ne, bne_eq_false_iff_eq, gt_iff_lt, ge_iff_le, Int.not_lt, Int.not_le] at hc37
        refine c_skip (x_then (hK14 _ _ ?_))
        clear hK14 K14
        refine forget [(0, _), (1, _), (2, _), (3, _), (9, _), (10, _), (11, _)] ⟨rfl, rfl, rfl, rfl, rfl, rfl, rfl, trivial⟩ (fun e => ?_)
        refine c_seq (fun K16 hK16 => ?_)
        rcases bdP_some hR with ⟨⟨ee, pp⟩, hq, rfl⟩ | ⟨t1, s3, hq, hR⟩
        · skip
          refine c_reg ?_ -- region 11 syntaxm.go:600
          refine wl (ro_move rfl) ?_
          refine wl (ro_move rfl) ?_
          refine wl_call rfl en_160 (ih.x0 (hG.at (lv1 := lv) hA hpe2 hlo2 (by omega) (by omega) hl13) (by omega) ⟨g, hq⟩) ?_
          rintro v u3 ⟨F3, ⟨z, rfl⟩, hE⟩
          replace hF := ar_trans hF hnb F3
          have hE0 := hE
          obtain ⟨np', src', pos', t', U', al', lo', fu', hXe, h1, h2, h3, h4⟩ := hE
          unfold mpc at hXe
          refine wl (ro_assign rfl) ?_
          refine wl_nil (x_then (hK16 _ _ ?_))
          clear hK16 K16
          refine c_seq (fun K17 hK17 => ?_)
          refine c_seq (fun K18 hK18 => ?_)
          refine c_reg ?_ -- region 12 syntaxm.go:601
          refine wl (ro_move rfl) ?_
          refine wl (ro_nilCheck rfl) ?_
          refine wl (ro_fieldAddr (k := 9) rfl fo_146_5) ?_
          refine wl (ro_loadB rfl sc_54 (by assumption) rfl) ?_
          refine wl (ro_cmp rfl rfl rfl) ?_
          refine wl_nil (x_then (hK18 _ _ ?_))
          clear hK18 K18
          refine wc_cond rfl (fun hc45 => ?_) (fun hc45 => ?_)
          · try simp only [decide_eq_true_eq, decide_eq_false_iff_not, Bool.not_eq_true', Bool.not_eq_false', Bool.not_eq_eq_eq_not, Bool.not_true, Bool.not_false, beq_iff_eq, bne_iff_ne, ne_eq, beq_eq_false_iff_ne, bne_eq_false_iff_eq, gt_iff_lt, ge_iff_le, Int.not_lt, Int.not_le] at hc45
            refine c_seq (fun K19 hK19 => ?_)
            refine c_reg ?_ -- region 13 syntaxm.go:602
            refine wl (ro_assign rfl) ?_
            refine wl_nil (x_then (hK19 _ _ ?_))
            clear hK19 K19
            refine c_ret (x_thenR (x_blkR (x_thenR (x_blkR (x_thenR ?_)))))
            refine bp_ret Tryz.results214 rfl ?_
            exact ⟨hF, ⟨0, rfl⟩, hE0⟩
          · try simp only [decide_eq_true_eq, decide_eq_false_iff_not, Bool.not_eq_true', Bool.not_eq_false', Bool.not_eq_eq_eq_not, Bool.not_true, Bool.not_false, beq_iff_eq, bne_iff_ne, ne_eq, beq_eq_false_iff_ne, bne_eq_false_iff_eq, gt_iff_lt, ge_iff_le, Int.not_lt, Int.not_le] at hc45
            omega
        · skip
          refine c_reg ?_ -- region 11 syntaxm.go:600
          refine wl (ro_move rfl) ?_
          refine wl (ro_move rfl) ?_
          refine wl_call rfl en_160 (ih.x0 (hG.at (lv1 := lv) hA hpe2 hlo2 (by omega) (by omega) hl13) (by omega) ⟨g, hq⟩) ?_
          rintro v u3 ⟨F3, rfl, U3, G3, hA3, hn3, hm3, hl3⟩
          have hz := hF.size
          replace hF := ar_trans hF hnb F3
          have hnb3 := nob_trans hnb hz hn3
          obtain ⟨hQE, hSm, hlv, hIB⟩ := MG.run0 ⟨g, hq⟩ hpe2
          have hlo3 : s3.lo = s2.lo := hSm.lo
          have hLX := hQE.ly.lx
          have hxp := hLX.pos
          have hrt : rt t1 G1.length = G1.length + ndT t1 - 1 := hLX.rt _
          obtain ⟨g3, cap3, l3, e3, hO3⟩ := hA3.open (by omega)
          subst e3
          obtain ⟨pos3, hX3, hp3⟩ := hA3.v.ex
          unfold mpc at hX3
          have hB3 := hO3.b
          have hne3 := hO3.ne
          have hmg3 : arS mp U g3 ∨ w.heap.size ≤ g3 := by
            rcases hnb3 g3 rfl with q | q
            · exact .inl (.inr q)
            · exact .inr q
          have hs1 := ndC_snoc ts t1
          have hz3 := rtC_zero (ts := ts) (b := G.length) hg1 hLC.x
          refine wl (ro_assign rfl) ?_
          refine wl_nil (x_then (hK16 _ _ ?_))
          clear hK16 K16
          refine c_seq (fun K20 hK20 => ?_)
          refine c_seq (fun K21 hK21 => ?_)
          refine c_reg ?_ -- region 12 syntaxm.go:601
          refine wl (ro_move rfl) ?_
          refine wl (ro_nilCheck rfl) ?_
          refine wl (ro_fieldAddr (k := 9) rfl fo_146_5) ?_
          refine wl (ro_loadB rfl sc_54 (by assumption) rfl) ?_
          refine wl (ro_cmp rfl rfl rfl) ?_
          refine wl_nil (x_then (hK21 _ _ ?_))
          clear hK21 K21
          refine wc_cond rfl (fun hc45 => ?_) (fun hc45 => ?_)
          · try simp only [decide_eq_true_eq, decide_eq_false_iff_not, Bool.not_eq_true', Bool.not_eq_false', Bool.not_eq_eq_eq_not, Bool.not_true, Bool.not_false, beq_iff_eq, bne_iff_ne, ne_eq, beq_eq_false_iff_ne, bne_eq_false_iff_eq, gt_iff_lt, ge_iff_le, Int.not_lt, Int.not_le] at hc45
            exact absurd rfl hc45
          · try simp only [decide_eq_true_eq, decide_eq_false_iff_not, Bool.not_eq_true', Bool.not_eq_false', Bool.not_eq_eq_eq_not, Bool.not_true, Bool.not_false, beq_iff_eq, bne_iff_ne, ne_eq, beq_eq_false_iff_ne, bne_eq_false_iff_eq, gt_iff_lt, ge_iff_le, Int.not_lt, Int.not_le] at hc45
            refine c_skip (x_then (hK20 _ _ ?_))
            clear hK20 K20
            refine c_seq (fun K22 hK22 => ?_)
            refine c_seq (fun K23 hK23 => ?_)
            refine c_reg ?_ -- region 14 syntaxm.go:604
            refine wl (ro_move rfl) ?_
            refine wl (ro_cmp rfl rfl rfl) ?_
            refine wl_nil (x_then (hK23 _ _ ?_))
            clear hK23 K23
            refine wc_cond rfl (fun hc47 => ?_) (fun hc47 => ?_)
            · try simp only [decide_eq_true_eq, decide_eq_false_iff_not, Bool.not_eq_true', Bool.not_eq_false', Bool.not_eq_eq_eq_not, Bool.not_true, Bool.not_false, beq_iff_eq, bne_iff_ne, ne_eq, beq_eq_false_iff_ne, bne_eq_false_iff_eq, gt_iff_lt, ge_iff_le, Int.not_lt, Int.not_le] at hc47
              have hts : ts = [] := hz3.1 (by omega)
              subst hts
              refine c_reg ?_ -- region 15 syntaxm.go:605
              refine wl (ro_move rfl) ?_
              refine wl (ro_assign rfl) ?_
              refine wl_nil (x_then (hK22 _ _ ?_))
              clear hK22 K22
              refine forget [(0, _), (1, _), (2, _), (3, _), (9, _), (11, _), (12, _)] ⟨rfl, rfl, rfl, rfl, rfl, rfl, rfl, trivial⟩ (fun e => ?_)
              refine c_seq (fun K24 hK24 => ?_)
              refine c_reg ?_ -- region 17 syntaxm.go:609
              refine wl (ro_move rfl) ?_
              refine wl (ro_assign rfl) ?_
              refine wl_nil (x_then (hK24 _ _ ?_))
              clear hK24 K24
              refine c_reg ?_ -- region 18 syntaxm.go:610
              refine wl (ro_move rfl) ?_
              refine wl (ro_arith rfl rfl rfl (Go.IntWalk.i64_in _ (by omega))) ?_
              refine wl (ro_assign rfl) ?_
              refine wl_nil (x_blk (x_then ?_))
              have e0 : G1.length = G.length := hlc
              have hLC3 : LC G [t1] G3 := LC.one hLX (by rw [hm3]; rw [hLC.m]; show _ ++ [] ++ _ = _; rw [List.append_nil, e0]) (by omega)
              have e9 : rt t1 G1.length = rtC [t1] G.length := by rw [hrt, e0]; rfl
              have e10 : rt t1 G1.length = lst G.length [t1] := by rw [hrt, e0]; unfold lst; rw [if_neg (by simp)]; show _ = G.length + (ndT t1 + 0) - 1; omega
              rcases bdP_some hR with ⟨e4, hq4, rfl⟩ | ⟨l4, s4, hq4, hR4⟩
              · exact ⟨s3.len, by omega, [t1], _, G3, s3, .inl e4, rfl, ⟨g, hq4⟩, rfl, hA3, hnb3, hLC3, hpe2.cm hSm.toCm, by omega, by omega, by omega, hF, kp _ ⟨rfl, rfl, rfl, rfl, congrArg (fun z : Nat => some (i64c z)) e9, congrArg (fun z : Nat => some (i64c z)) e10, rfl, trivial⟩⟩
              · cases okP_inj hR4
                exact ⟨s3.len, by omega, [t1], _, G3, s3, .inr (l4, s4), rfl, ⟨g, hq4⟩, rfl, hA3, hnb3, hLC3, hpe2.cm hSm.toCm, by omega, by omega, by omega, hF, kp _ ⟨rfl, rfl, rfl, rfl, congrArg (fun z : Nat => some (i64c z)) e9, congrArg (fun z : Nat => some (i64c z)) e10, rfl, trivial⟩⟩
            · try simp only [decide_eq_true_eq, decide_eq_false_iff_not, Bool.not_eq_true', Bool.not_eq_false', Bool.not_eq_eq_eq_not, Bool.not_true, Bool.not_false, beq_iff_eq, bne_iff_ne, ne_eq, beq_eq_false_iff_ne, bne_eq_false_iff_eq, gt_iff_lt, ge_iff_le, Int.not_lt, Int.not_le] at hc47
              have hts : ts ≠ [] := fun q => hc47 (by rw [hz3.2 q]; rfl)
              have hls : lst G.length ts = G.length + ndC ts - 1 := if_neg hts
              have hp1 := ndC_pos hLC.x hts
              rw [hls]
              refine c_reg ?_ -- region 16 syntaxm.go:607
              refine wl (ro_move rfl) ?_
              refine wl (ro_nilCheck rfl) ?_
              refine wl (ro_fieldAddr (k := 8) rfl fo_146_4) ?_
              refine wl (ro_loadB rfl sc_77 (by assumption) rfl) ?_
              refine wl (ro_move rfl) ?_
              refine wl (ro_move rfl) ?_
              refine wl (ro_indexAddr (et := 148) (k := 8) rfl rfl se_77 (rfl) ((by omega))) ?_
              refine wl (ro_fieldAddr (k := 4) rfl fo_148_4) ?_
              refine wl_put rfl rfl rfl sz_3 hB3 ((by have := hO3.k3; have := hO3.k1; omega)) (rfl) (fun w1 hB3 F1 => ?_)
              replace hF := hF.thenDrew.thenO F1 (by first | exact .inr (by omega) | exact .inl rfl | exact .inl (by assumption) | assumption)
              replace hX3 := F1.blkO hX3 (by omega)
              have F16 := (F1)
              refine wl_nil (x_then (hK22 _ _ ?_))
              clear hK22 K22
              refine forget [(0, _), (1, _), (2, _), (3, _), (9, _), (11, _), (12, _)] ⟨rfl, rfl, rfl, rfl, rfl, rfl, rfl, trivial⟩ (fun e => ?_)
              refine c_seq (fun K25 hK25 => ?_)
              refine c_reg ?_ -- region 17 syntaxm.go:609
              refine wl (ro_move rfl) ?_
              refine wl (ro_assign rfl) ?_
              refine wl_nil (x_then (hK25 _ _ ?_))
              clear hK25 K25
              refine c_reg ?_ -- region 18 syntaxm.go:610
              refine wl (ro_move rfl) ?_
              refine wl (ro_arith rfl rfl rfl (Go.IntWalk.i64_in _ (by omega))) ?_
              refine wl (ro_assign rfl) ?_
              refine wl_nil (x_blk (x_then ?_))
              have hLC3 := hLC.more hts hLX hm3 hl3
              rw [← hrt] at hLC3
              have hA4 := hA3.link hO3 (by omega) hB3 F16
              have e9 : rtC ts G.length = rtC (ts ++ [t1]) G.length := by rw [rtC_snoc, if_neg hts]
              have e10 : rt t1 G1.length = lst G.length (ts ++ [t1]) := by rw [hrt]; unfold lst; rw [if_neg (by simp)]; omega
              have e11 : ts.length + 1 = (ts ++ [t1]).length := by simp
              have hF4 : Fram (arS mp U) w _ := hF
              have hb4 : (lkG G3 (G.length + ndC ts - 1) (rt t1 G1.length)).length + 3 * s3.len ≤ 10000 := by rw [lkG_len]; omega
              rcases bdP_some hR with ⟨e4, hq4, rfl⟩ | ⟨l4, s4, hq4, hR4⟩
              · exact ⟨s3.len, by omega, ts ++ [t1], _, _, s3, .inl e4, rfl, by rw [← e11]; exact ⟨g, hq4⟩, rfl, hA4, hnb3, hLC3, hpe2.cm hSm.toCm, by omega, hb4, by omega, hF4, kp _ ⟨rfl, rfl, rfl, rfl, congrArg (fun z : Nat => some (i64c z)) e9, congrArg (fun z : Nat => some (i64c z)) e10, congrArg (fun z : Nat => some (i64c z)) e11, trivial⟩⟩
              · cases okP_inj hR4
                exact ⟨s3.len, by omega, ts ++ [t1], _, _, s3, .inr (l4, s4), rfl, by rw [← e11]; exact ⟨g, hq4⟩, glue_snoc.symm, hA4, hnb3, hLC3, hpe2.cm hSm.toCm, by omega, hb4, by omega, hF4, kp _ ⟨rfl, rfl, rfl, rfl, congrArg (fun z : Nat => some (i64c z)) e9, congrArg (fun z : Nat => some (i64c z)) e10, congrArg (fun z : Nat => some (i64c z)) e11, trivial⟩⟩
    · skip
      have hE0 := hE
      obtain ⟨np', src', pos', t', U', al', lo', fu', hXe, h1, h2, h3, h4⟩ := hE
      unfold mpc at hXe
      refine c_reg ?_ -- region 7 syntaxm.go:594
      refine wl (ro_move rfl) ?_
      refine wl (ro_move rfl) ?_
      refine wl (ro_cmp rfl rfl rfl) ?_
      refine wl_fork rfl (fun hg24 => ?_) (fun hg24 => ?_)
      · try simp only [decide_eq_true_eq, decide_eq_false_iff_not, Bool.not_eq_true', Bool.not_eq_false', Bool.not_eq_eq_eq_not, Bool.not_true, Bool.not_false, beq_iff_eq, bne_iff_ne, ne_eq, beq_eq_false_iff_ne, bne_eq_false_iff_eq, gt_iff_lt, ge_iff_le, Int.not_lt, Int.not_le] at hg24
        refine wlg_yes rfl (ro_move rfl) ?_
        refine wlg_yes rfl (ro_nilCheck rfl) ?_
        refine wlg_yes rfl (ro_fieldAddr (k := 9) rfl fo_146_5) ?_
        refine wlg_yes rfl (ro_loadB rfl sc_54 (by assumption) rfl) ?_
        refine wlg_yes rfl (ro_cmp (r := false) rfl rfl (congrArg some (beq_eq_false_iff_ne.2 (by omega)))) ?_
        refine wl (ro_pick rfl rfl rfl) ?_
        refine wl_nil (x_then (hK10 _ _ ?_))
        clear hK10 K10
        refine wc_condF rfl ?_
        refine c_skip (x_then (hK9 _ _ ?_))
        clear hK9 K9
        refine c_seq (fun K26 hK26 => ?_)
        refine c_seq (fun K27 hK27 => ?_)
        refine c_reg ?_ -- region 9 syntaxm.go:597
        refine wl (ro_move rfl) ?_
        refine wl (ro_nilCheck rfl) ?_
        refine wl (ro_fieldAddr (k := 9) rfl fo_146_5) ?_
        refine wl (ro_loadB rfl sc_54 (by assumption) rfl) ?_
        refine wl (ro_cmp rfl rfl rfl) ?_
        refine wl_nil (x_then (hK27 _ _ ?_))
        clear hK27 K27
        refine wc_cond rfl (fun hc37 => ?_) (fun hc37 => ?_)
        · try simp only [decide_eq_true_eq, decide_eq_false_iff_not, Bool.not_eq_true', Bool.not_eq_false', Bool.not_eq_eq_eq_not, Bool.not_true, Bool.not_false, beq_iff_eq, bne_iff_ne, ne_eq, beq_eq_false_iff_ne, bne_eq_false_iff_eq, gt_iff_lt, ge_iff_le, Int.not_lt, Int.not_le] at hc37
          refine c_seq (fun K28 hK28 => ?_)
          refine c_reg ?_ -- region 10 syntaxm.go:598
          refine wl (ro_assign rfl) ?_
          refine wl_nil (x_then (hK28 _ _ ?_))
          clear hK28 K28
          refine c_ret (x_thenR (x_blkR (x_thenR (x_blkR (x_thenR ?_)))))
          refine bp_ret Tryz.results214 rfl ?_
          exact ⟨hF, ⟨0, rfl⟩, hE0⟩
        · try simp only [decide_eq_true_eq, decide_eq_false_iff_not, Bool.not_eq_true', Bool.not_eq_false', Bool.not_eq_eq_eq_not, Bool.not_true, Bool.not_false, beq_iff_eq, bne_iff_ne, ne_eq, beq_eq_false_iff_ne, bne_eq_false_iff_eq, gt_iff_lt, ge_iff_le, Int.not_lt, Int.not_le] at hc37
          omega
      · try simp only [decide_eq_true_eq, decide_eq_false_iff_not, Bool.not_eq_true', Bool.not_eq_false', Bool.not_eq_eq_eq_not, Bool.not_true, Bool.not_false, beq_iff_eq, bne_iff_ne, ne_eq, beq_eq_false_iff_ne, bne_eq_false_iff_eq, gt_iff_lt, ge_iff_le, Int.not_lt, Int.not_le] at hg24
        refine wlg_no rfl ?_
        refine wlg_no rfl ?_
        refine wlg_no rfl ?_
        refine wlg_no rfl ?_
        refine wlg_no rfl ?_
        refine wl (ro_pick rfl rfl rfl) ?_
        refine wl_nil (x_then (hK10 _ _ ?_))
        clear hK10 K10
        refine wc_condF rfl ?_
        refine c_skip (x_then (hK9 _ _ ?_))
        clear hK9 K9
        refine c_seq (fun K29 hK29 => ?_)
        refine c_seq (fun K30 hK30 => ?_)
        refine c_reg ?_ -- region 9 syntaxm.go:597
        refine wl (ro_move rfl) ?_
        refine wl (ro_nilCheck rfl) ?_
        refine wl (ro_fieldAddr (k := 9) rfl fo_146_5) ?_
        refine wl (ro_loadB rfl sc_54 (by assumption) rfl) ?_
        refine wl (ro_cmp rfl rfl rfl) ?_
        refine wl_nil (x_then (hK30 _ _ ?_))
        clear hK30 K30
        refine wc_cond rfl (fun hc37 => ?_) (fun hc37 => ?_)
        · try simp only [decide_eq_true_eq, decide_eq_false_iff_not, Bool.not_eq_true', Bool.not_eq_false', Bool.not_eq_eq_eq_not, Bool.not_true, Bool.not_false, beq_iff_eq, bne_iff_ne, ne_eq, beq_eq_false_iff_ne, bne_eq_false_iff_eq, gt_iff_lt, ge_iff_le, Int.not_lt, Int.not_le] at hc37
          refine c_seq (fun K31 hK31 => ?_)
          refine c_reg ?_ -- region 10 syntaxm.go:598
          refine wl (ro_assign rfl) ?_
          refine wl_nil (x_then (hK31 _ _ ?_))
          clear hK31 K31
          refine c_ret (x_thenR (x_blkR (x_thenR (x_blkR (x_thenR ?_)))))
          refine bp_ret Tryz.results214 rfl ?_
          exact ⟨hF, ⟨0, rfl⟩, hE0⟩
        · try simp only [decide_eq_true_eq, decide_eq_false_iff_not, Bool.not_eq_true', Bool.not_eq_false', Bool.not_eq_eq_eq_not, Bool.not_true, Bool.not_false, beq_iff_eq, bne_iff_ne, ne_eq, beq_eq_false_iff_ne, bne_eq_false_iff_eq, gt_iff_lt, ge_iff_le, Int.not_lt, Int.not_le] at hc37
          omega
  · try simp only [decide_eq_true_eq, decide_eq_false_iff_not, Bool.not_eq_true', Bool.not_eq_false', Bool.not_eq_eq_eq_not, Bool.not_true, Bool.not_false, beq_iff_eq, bne_iff_ne, ne_eq, beq_eq_false_iff_ne, bne_eq_false_iff_eq, gt_iff_lt, ge_iff_le, Int.not_lt, Int.not_le] at hc16
    rw [if_pos (by simpa using hc16)] at hR
    cases okP_inj hR
    have hk16 : s1.k = r := by simpa using hc16
    refine c_exit (x_thenX (x_thenX (x_blkX (x_then (hK5 _ _ ?_)))))
    clear hK6 K6 hK5 K5
    refine forget [(0, _), (9, _)] ⟨rfl, rfl, trivial⟩ (fun e => ?_)
    refine c_seq (fun K32 hK32 => ?_)
    refine c_reg ?_ -- region 19 syntaxm.go:612
    refine wl (ro_move rfl) ?_
    refine wl_call rfl en_48 (nextM hA.v (by omega)) ?_
    rintro _ u2 ⟨rfl, hM2, F2⟩
    replace hF := ar_one hF F2
    refine wl_nil (x_then (hK32 _ _ ?_))
    clear hK32 K32
    refine forget [(9, _)] ⟨rfl, trivial⟩ (fun e => ?_)
    refine c_seq (fun K33 hK33 => ?_)
    refine c_reg ?_ -- region 20 syntaxm.go:613
    refine wl (ro_move rfl) ?_
    refine wl (ro_assign rfl) ?_
    refine wl_nil (x_then (hK33 _ _ ?_))
    clear hK33 K33
    refine c_ret ?_
    refine bp_ret Tryz.results214 rfl ?_
    obtain ⟨q1, q2, q3⟩ := exl_lay ts G.length
    refine ⟨hF, by rw [q2], U1, G1, hA.turn hM2 F2, hnb, by rw [q1]; exact hLC.m, by rw [q3]; exact hLC.l⟩
end Go.Proofs.Qxb6500568aGreatDoor
