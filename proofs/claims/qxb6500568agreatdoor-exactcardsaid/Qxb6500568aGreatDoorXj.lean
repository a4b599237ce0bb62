import Derived.Test.Qxb6500568aGreatDoorXi
/- The model's parser: what stands behind a primary expression. -/
namespace Go.Proofs.Qxb6500568aGreatDoor
open Ieee
set_option linter.unusedVariables false
set_option linter.unusedSimpArgs false

set_option maxHeartbeats 8000000 in
theorem post163 {n : Nat} {w : World} {mp : Nat} {np : Value} {src : Str} {U : Value} {G : List (Nd × Nat)} {s : PS} {lv : Nat} {R : PO} (ih : MAll n) (hG : MG w mp np src U G s lv) (hn : 20 * s.len + 2 ≤ n + 1) (hR : Run 3 lv 0 0 dumT s R) : Ret Tryz.prog 163 [ptr mp, i64c lv] w (MR w mp np src lv U G R) := by
  have hA := hG.a
  have hM := hA.v
  have hl13 := hG.l13
  have hlo := hG.lo
  have hbd := hG.bd
  have hF : Fram (arS mp U) w w := Fram.refl _ _
  obtain ⟨f, hR⟩ := run_step.1 hR
  replace hR : pPost (parP f) lv s = some R := hR
  unfold pPost at hR
  refine ret_of Tryz.func163 rfl Tryz.ntmps163 rfl ?_
  refine c_seq (fun K1 hK1 => ?_)
  refine c_reg ?_ -- region 0 syntaxm.go:616
  refine wl (ro_assign rfl) ?_
  refine wl_nil (x_then (hK1 _ _ ?_))
  clear hK1 K1
  refine c_seq (fun K2 hK2 => ?_)
  refine c_seq (fun K3 hK3 => ?_)
  refine c_reg ?_ -- region 1 syntaxm.go:617
  refine wl (ro_move rfl) ?_
  refine wl (ro_move rfl) ?_
  refine wl_call rfl en_104 (deepM (lv := lv) hM (n := lv) (by omega) (by omega)) ?_
  rintro _ u1 ⟨rfl, hq1, F1⟩
  replace hF := ar_one hF F1
  refine wl_nil (x_then (hK3 _ _ ?_))
  clear hK3 K3
  refine wc_cond rfl (fun hc14 => ?_) (fun hc14 => ?_)
  · try simp only [decide_eq_true_eq, decide_eq_false_iff_not, Bool.not_eq_true', Bool.not_eq_false', Bool.not_eq_eq_eq_not, Bool.not_true, Bool.not_false, beq_iff_eq, bne_iff_ne, ne_eq, beq_eq_false_iff_ne, bne_eq_false_iff_eq, gt_iff_lt, ge_iff_le, Int.not_lt, Int.not_le] at hc14
    refine c_seq (fun K4 hK4 => ?_)
    refine c_reg ?_ -- region 2 syntaxm.go:618
    refine wl (ro_assign rfl) ?_
    refine wl_nil (x_then (hK4 _ _ ?_))
    clear hK4 K4
    refine c_ret (x_thenR ?_)
    refine bp_ret Tryz.results163 rfl ?_
    rw [if_pos (by omega)] at hR hq1
    cases failP_inj hR
    exact ⟨hF, ⟨0, rfl⟩, hq1⟩
  · try simp only [decide_eq_true_eq, decide_eq_false_iff_not, Bool.not_eq_true', Bool.not_eq_false', Bool.not_eq_eq_eq_not, Bool.not_true, Bool.not_false, beq_iff_eq, bne_iff_ne, ne_eq, beq_eq_false_iff_ne, bne_eq_false_iff_eq, gt_iff_lt, ge_iff_le, Int.not_lt, Int.not_le] at hc14
    rw [if_neg (by omega)] at hR hq1
    replace hq1 := hq1.symm
    subst hq1
    have hlv : lv ≤ 12 := by omega
    refine c_skip (x_then (hK2 _ _ ?_))
    clear hK2 K2
    refine forget [(0, _), (1, _)] ⟨rfl, rfl, trivial⟩ (fun e => ?_)
    refine c_seq (fun K5 hK5 => ?_)
    rcases bdP_some hR with ⟨⟨ee, pp⟩, hq, rfl⟩ | ⟨x0, s0, hq, hR⟩
    · skip
      refine c_reg ?_ -- region 3 syntaxm.go:620
      refine wl (ro_move rfl) ?_
      refine wl (ro_move rfl) ?_
      refine wl_call rfl en_213 (prim213 ih hG hlv (by omega) hq) ?_
      rintro v u3 ⟨F3, ⟨z, rfl⟩, hE⟩
      replace hF := ar_trans hF (fun b q => .inl q) F3
      have hE0 := hE
      obtain ⟨np', src', pos', t', U', al', lo', fu', hXe, h1, h2, h3, h4⟩ := hE
      unfold mpc at hXe
      refine wl (ro_assign rfl) ?_
      refine wl_nil (x_then (hK5 _ _ ?_))
      clear hK5 K5
      refine forget [(0, _), (1, _), (5, _)] ⟨rfl, rfl, rfl, trivial⟩ (fun e => ?_)
      refine c_seq (fun K6 hK6 => ?_)
      refine c_block ?_
      -- loop@r4: live slots [0, 1, 5]
      refine c_loopG (fun n a' w' => n = 0 ∧ w' = u3 ∧ ∃ e, a' = Fr 94 (upds e [(0, ptr mp)]) []) 0 ⟨rfl, rfl, kp _ ⟨rfl, trivial⟩⟩ ?_
      rintro n a' w1 ⟨rfl, e9, e, rfl⟩
      replace e9 := e9.symm
      subst e9
      refine c_seq (fun K7 hK7 => ?_)
      refine c_seq (fun K8 hK8 => ?_)
      refine c_reg ?_ -- region 4 syntaxm.go:621
      refine wl (ro_move rfl) ?_
      refine wl (ro_nilCheck rfl) ?_
      refine wl (ro_fieldAddr (k := 9) rfl fo_146_5) ?_
      refine wl (ro_loadB rfl sc_54 (by assumption) rfl) ?_
      refine wl (ro_cmp (r := false) rfl rfl (congrArg some (beq_eq_false_iff_ne.2 (by omega)))) ?_
      refine wl_nil (x_then (hK8 _ _ ?_))
      clear hK8 K8
      refine wc_condF rfl ?_
      refine c_exit (x_thenX (x_thenX (x_blkX (x_then (hK6 _ _ ?_)))))
      clear hK7 K7 hK6 K6
      refine forget [] trivial (fun e => ?_)
      refine c_seq (fun K9 hK9 => ?_)
      refine c_reg ?_ -- region 27 syntaxm.go:650
      refine wl (ro_assign rfl) ?_
      refine wl_nil (x_then (hK9 _ _ ?_))
      clear hK9 K9
      refine c_ret ?_
      refine bp_ret Tryz.results163 rfl ?_
      exact ⟨hF, ⟨0, rfl⟩, hE0⟩
    · skip
      refine c_reg ?_ -- region 3 syntaxm.go:620
      refine wl (ro_move rfl) ?_
      refine wl (ro_move rfl) ?_
      refine wl_call rfl en_213 (prim213 ih hG hlv (by omega) hq) ?_
      rintro v u3 ⟨F3, rfl, U3, G3, hA3, hn3, hm3, hl3⟩
      replace hF := ar_trans hF (fun b q => .inl q) F3
      have hSm : Sm s s0 := (st_prim (par_q f) hG.pe hlv x0 s0 hq).2.1
      obtain ⟨hSp, hIB⟩ := ib_prim (IB.all f) x0 s0 hq
      have hlo0 := hSm.lo
      refine wl (ro_assign rfl) ?_
      refine wl_nil (x_then (hK5 _ _ ?_))
      clear hK5 K5
      refine forget [(0, _), (1, _), (5, _)] ⟨rfl, rfl, rfl, trivial⟩ (fun e => ?_)
      refine c_seq (fun K10 hK10 => ?_)
      refine c_block ?_
      -- loop@r4: live slots [0, 1, 5]
      refine c_loopG (fun m a' w' => ∃ (x : Tr) (U1 : Value) (G1 : List (Nd × Nat)) (s1 : PS), m = s1.len ∧ Run 4 lv 0 0 x s1 R ∧ MA w' mp np src U1 G1 s1 ∧ nob U U1 w ∧ G1.map Prod.fst = G.map Prod.fst ++ lay x G.length ∧ G1.length = G.length + ndT x ∧ 1 ≤ ndT x ∧ Pe s1 ∧ s1.lo ≤ lv ∧ G1.length + 3 * s1.len ≤ 10000 ∧ s1.len < s.len ∧ Fram (arS mp U) w w' ∧ ∃ e, a' = Fr 94 (upds e [(0, ptr mp), (1, i64c lv), (5, i64c (rt x G.length))]) []) s0.len ⟨x0, U3, G3, s0, rfl, ⟨f, hR⟩, hA3, hn3, hm3, hl3, hSp.2, hG.pe.cm hSm.toCm, by omega, by omega, by omega, hF, kp _ ⟨rfl, rfl, rfl, trivial⟩⟩ ?_
      clear hF hA hM hA3 hn3 hm3 hl3 hR F3 hIB hSm hlo0 hq hSp
      clear x0 s0
      rintro m a' u1 ⟨x, U1, G1, s1, rfl, hR, hA, hnb, hm, hl, hxp, hpe, hlo1, hbd1, hlen, hF, e, rfl⟩
      obtain ⟨pos, hX, hpos⟩ := hA.v.ex
      unfold mpc at hX
      obtain ⟨g, hR⟩ := run_step.1 hR
      replace hR : pTail (parP g) lv x s1 = some R := hR
      unfold pTail at hR
      refine c_seq (fun K11 hK11 => ?_)
      refine c_seq (fun K12 hK12 => ?_)
      refine c_reg ?_ -- region 4 syntaxm.go:621
      refine wl (ro_move rfl) ?_
      refine wl (ro_nilCheck rfl) ?_
      refine wl (ro_fieldAddr (k := 9) rfl fo_146_5) ?_
      refine wl (ro_loadB rfl sc_54 (by assumption) rfl) ?_
      refine wl (ro_cmp rfl rfl rfl) ?_
      refine wl_nil (x_then (hK12 _ _ ?_))
      clear hK12 K12
      refine wc_condT rfl ?_
      refine c_skip (x_then (hK11 _ _ ?_))
      clear hK11 K11
      refine c_block ?_
      refine forget [(0, _), (1, _), (5, _)] ⟨rfl, rfl, rfl, trivial⟩ (fun e => ?_)
      refine c_seq (fun K13 hK13 => ?_)
      refine c_reg ?_ -- region 5 syntaxm.go:622
      refine wl (ro_move rfl) ?_
      refine wl (ro_nilCheck rfl) ?_
      refine wl (ro_fieldAddr (k := 3) rfl fo_146_3) ?_
      refine wl (ro_fieldAddr (k := 3) rfl fo_144_3) ?_
      refine wl (ro_loadB rfl sc_3 (by assumption) rfl) ?_
      refine wl (ro_assign rfl) ?_
      refine wl_nil (x_then (hK13 _ _ ?_))
      clear hK13 K13
      refine forget [(0, _), (1, _), (5, _), (6, _)] ⟨rfl, rfl, rfl, rfl, trivial⟩ (fun e => ?_)
      refine c_seq (fun K14 hK14 => ?_)
      refine c_reg ?_ -- region 6 syntaxm.go:623
      refine wl (ro_move rfl) ?_
      refine wl_call rfl en_156 (is156 (k := 46) hA.v (by decide) (by decide)) ?_
      rintro _ w9 ⟨rfl, e9⟩
      replace e9 := e9.symm
      subst e9
      refine wl_nil (x_then (hK14 _ _ ?_))
      clear hK14 K14
      refine wc_cond rfl (fun hc29 => ?_) (fun hc29 => ?_)
      · try simp only [decide_eq_true_eq, decide_eq_false_iff_not, Bool.not_eq_true', Bool.not_eq_false', Bool.not_eq_eq_eq_not, Bool.not_true, Bool.not_false, beq_iff_eq, bne_iff_ne, ne_eq, beq_eq_false_iff_ne, bne_eq_false_iff_eq, gt_iff_lt, ge_iff_le, Int.not_lt, Int.not_le] at hc29
        rw [if_pos (by omega)] at hR
        refine c_seq (fun K15 hK15 => ?_)
        refine c_reg ?_ -- region 7 syntaxm.go:624
        refine wl (ro_move rfl) ?_
        refine wl_call rfl en_48 (nextM hA.v (by omega)) ?_
        rintro _ u2 ⟨rfl, hM2, F2⟩
        replace hF := ar_one hF F2
        have hA2 := hA.turn hM2 F2
        have ha1 := adv_len' (s := s1) (by omega)
        have hpe2 := hpe.cm (Cm.adv hpe)
        have hG2 := hG.at (lv1 := lv + 1) hA2 hpe2 (by show s1.lo ≤ lv + 1; omega) (by omega) (by omega) (by omega)
        refine wl_nil (x_then (hK15 _ _ ?_))
        clear hK15 K15
        refine forget [(0, _), (1, _), (5, _), (6, _)] ⟨rfl, rfl, rfl, rfl, trivial⟩ (fun e => ?_)
        refine c_seq (fun K16 hK16 => ?_)
        rcases nameP_or hR with ⟨ee, pp, rfl, hNF⟩ | ⟨hNK, hR⟩
        · skip
          refine c_reg ?_ -- region 8 syntaxm.go:625
          refine wl (ro_move rfl) ?_
          refine wl_call rfl en_209 (nameMF (x := 0) (lv := lv) hNF hA2.v (by decide) (by omega)) ?_
          rintro _ u3 ⟨F3, ⟨na, nb, rfl⟩, hE⟩
          replace hF := ar_one hF F3
          have hE0 := hE
          obtain ⟨np', src', pos', t', U', al', lo', fu', hXe, h1, h2, h3, h4⟩ := hE
          unfold mpc at hXe
          refine wl (ro_move rfl) ?_
          refine wl (ro_extract rfl rfl) ?_
          refine wl (ro_extract rfl rfl) ?_
          refine wl (ro_assign rfl) ?_
          refine wl (ro_assign rfl) ?_
          refine wl_nil (x_then (hK16 _ _ ?_))
          clear hK16 K16
          refine c_seq (fun K17 hK17 => ?_)
          refine c_seq (fun K18 hK18 => ?_)
          refine c_reg ?_ -- region 9 syntaxm.go:626
          refine wl (ro_move rfl) ?_
          refine wl (ro_nilCheck rfl) ?_
          refine wl (ro_fieldAddr (k := 9) rfl fo_146_5) ?_
          refine wl (ro_loadB rfl sc_54 (by assumption) rfl) ?_
          refine wl (ro_cmp rfl rfl rfl) ?_
          refine wl_nil (x_then (hK18 _ _ ?_))
          clear hK18 K18
          refine wc_cond rfl (fun hc41 => ?_) (fun hc41 => ?_)
          · try simp only [decide_eq_true_eq, decide_eq_false_iff_not, Bool.not_eq_true', Bool.not_eq_false', Bool.not_eq_eq_eq_not, Bool.not_true, Bool.not_false, beq_iff_eq, bne_iff_ne, ne_eq, beq_eq_false_iff_ne, bne_eq_false_iff_eq, gt_iff_lt, ge_iff_le, Int.not_lt, Int.not_le] at hc41
            refine c_seq (fun K19 hK19 => ?_)
            refine c_reg ?_ -- region 10 syntaxm.go:627
            refine wl (ro_assign rfl) ?_
            refine wl_nil (x_then (hK19 _ _ ?_))
            clear hK19 K19
            refine c_ret (x_thenR (x_blkR (x_thenR (x_blkR (x_thenR ?_)))))
            refine bp_ret Tryz.results163 rfl ?_
            exact ⟨hF, ⟨0, rfl⟩, hE0⟩
          · try simp only [decide_eq_true_eq, decide_eq_false_iff_not, Bool.not_eq_true', Bool.not_eq_false', Bool.not_eq_eq_eq_not, Bool.not_true, Bool.not_false, beq_iff_eq, bne_iff_ne, ne_eq, beq_eq_false_iff_ne, bne_eq_false_iff_eq, gt_iff_lt, ge_iff_le, Int.not_lt, Int.not_le] at hc41
            omega
        · skip
          refine c_reg ?_ -- region 8 syntaxm.go:625
          refine wl (ro_move rfl) ?_
          refine wl_call rfl en_209 (nameMK (x := 0) hNK hA2.v (by decide)) ?_
          rintro _ u3 ⟨F3, rfl, hM3⟩
          replace hF := ar_one hF F3
          have hA3 := hA2.turn hM3 F3
          have ha2 := adv_len' (s := s1.adv) (by have := hNK.1; omega)
          obtain ⟨pos3, hX3, hp3⟩ := hA3.v.ex
          unfold mpc at hX3
          have hpe9 := hpe2.cm (Cm.adv hpe2)
          refine wl (ro_move rfl) ?_
          refine wl (ro_extract rfl rfl) ?_
          refine wl (ro_extract rfl rfl) ?_
          refine wl (ro_assign rfl) ?_
          refine wl (ro_assign rfl) ?_
          refine wl_nil (x_then (hK16 _ _ ?_))
          clear hK16 K16
          refine c_seq (fun K20 hK20 => ?_)
          refine c_seq (fun K21 hK21 => ?_)
          refine c_reg ?_ -- region 9 syntaxm.go:626
          refine wl (ro_move rfl) ?_
          refine wl (ro_nilCheck rfl) ?_
          refine wl (ro_fieldAddr (k := 9) rfl fo_146_5) ?_
          refine wl (ro_loadB rfl sc_54 (by assumption) rfl) ?_
          refine wl (ro_cmp rfl rfl rfl) ?_
          refine wl_nil (x_then (hK21 _ _ ?_))
          clear hK21 K21
          refine wc_cond rfl (fun hc41 => ?_) (fun hc41 => ?_)
          · try simp only [decide_eq_true_eq, decide_eq_false_iff_not, Bool.not_eq_true', Bool.not_eq_false', Bool.not_eq_eq_eq_not, Bool.not_true, Bool.not_false, beq_iff_eq, bne_iff_ne, ne_eq, beq_eq_false_iff_ne, bne_eq_false_iff_eq, gt_iff_lt, ge_iff_le, Int.not_lt, Int.not_le] at hc41
            exact absurd rfl hc41
          · try simp only [decide_eq_true_eq, decide_eq_false_iff_not, Bool.not_eq_true', Bool.not_eq_false', Bool.not_eq_eq_eq_not, Bool.not_true, Bool.not_false, beq_iff_eq, bne_iff_ne, ne_eq, beq_eq_false_iff_ne, bne_eq_false_iff_eq, gt_iff_lt, ge_iff_le, Int.not_lt, Int.not_le] at hc41
            refine c_skip (x_then (hK20 _ _ ?_))
            clear hK20 K20
            refine forget [(0, _), (1, _), (5, _), (6, _), (7, _), (8, _)] ⟨rfl, rfl, rfl, rfl, rfl, rfl, trivial⟩ (fun e => ?_)
            refine c_seq (fun K22 hK22 => ?_)
            refine c_reg ?_ -- region 11 syntaxm.go:629
            refine wl (ro_move rfl) ?_
            refine wl (ro_move rfl) ?_
            refine wl (ro_move rfl) ?_
            refine wl (ro_build rfl bld_148_0_6_7) ?_
            refine wl_call rfl en_162 (addM (x := (⟨16, 0, 0, 0, 0, 0, s1.adv.cur.s⟩, s1.adv.cur.pl)) hA3 (by omega)) ?_
            rintro _ u4 ⟨rfl, U4, hA4, hn4, F4⟩
            have hz4 := hF.size
            replace hF := ar_trans hF hnb F4
            have hnb9 := nob_trans hnb hz4 hn4
            have hlo9 : s1.adv.adv.lo = s1.lo := rfl
            refine wl (ro_assign rfl) ?_
            refine wl_nil (x_then (hK22 _ _ ?_))
            clear hK22 K22
            refine c_reg ?_ -- region 12 syntaxm.go:630
            refine wl (ro_move rfl) ?_
            refine wl (ro_move rfl) ?_
            refine wl (ro_move rfl) ?_
            refine wl (ro_move rfl) ?_
            refine wl (ro_build rfl bld_148_0_1_2_7) ?_
            refine wl_call rfl en_162 (addM (x := (⟨18, rt x G.length, G1.length, 0, 0, 0, []⟩, s1.cur.pl)) hA4 (by rw [List.length_append]; simp only [List.length_cons, List.length_nil]; omega)) ?_
            rintro _ u5 ⟨rfl, U5, hA9, hn9, F9⟩
            refine wl (ro_assign rfl) ?_
            refine wl_nil (x_blk (x_then ?_))
            have hnd : ndT (Ex.index x (Ex.str s1.adv.cur.s)) = 1 + ndT x + 1 := rfl
            refine ⟨s1.adv.adv.len, by omega, Ex.index x (Ex.str s1.adv.cur.s), _, _, s1.adv.adv, rfl, ⟨g, hR⟩, hA9, nob_trans hnb9 hF.size hn9, ?_, ?_, by omega, hpe9, by omega, ?_, by omega, ar_trans hF hnb9 F9, kp _ ⟨rfl, rfl, congrArg (fun z : Nat => some (i64c z)) ?_, trivial⟩⟩
            · rw [List.map_append, List.map_append, hm]
              rw [show lay (Ex.index x (Ex.str s1.adv.cur.s)) G.length = lay x G.length ++ [⟨16, 0, 0, 0, 0, 0, s1.adv.cur.s⟩] ++ [⟨18, rt x G.length, G.length + ndT x + 1 - 1, 0, 0, 0, []⟩] from rfl]
              rw [show G.length + ndT x + 1 - 1 = G1.length by omega]
              simp only [List.append_assoc]
              rfl
            · simp only [List.length_append, List.length_cons, List.length_nil]
              omega
            · simp only [List.length_append, List.length_cons, List.length_nil]
              omega
            · show (G1 ++ [_]).length = G.length + ndT (Ex.index x (Ex.str s1.adv.cur.s)) - 1
              simp only [List.length_append, List.length_cons, List.length_nil]
              omega
      · try simp only [decide_eq_true_eq, decide_eq_false_iff_not, Bool.not_eq_true', Bool.not_eq_false', Bool.not_eq_eq_eq_not, Bool.not_true, Bool.not_false, beq_iff_eq, bne_iff_ne, ne_eq, beq_eq_false_iff_ne, bne_eq_false_iff_eq, gt_iff_lt, ge_iff_le, Int.not_lt, Int.not_le] at hc29
        rw [if_neg (by omega)] at hR
        refine c_seq (fun K23 hK23 => ?_)
        refine c_reg ?_ -- region 13 syntaxm.go:631
        refine wl (ro_move rfl) ?_
        refine wl_call rfl en_156 (is156 (k := 43) hA.v (by decide) (by decide)) ?_
        rintro _ w9 ⟨rfl, e9⟩
        replace e9 := e9.symm
        subst e9
        refine wl_nil (x_then (hK23 _ _ ?_))
        clear hK23 K23
        refine wc_cond rfl (fun hc54 => ?_) (fun hc54 => ?_)
        · try simp only [decide_eq_true_eq, decide_eq_false_iff_not, Bool.not_eq_true', Bool.not_eq_false', Bool.not_eq_eq_eq_not, Bool.not_true, Bool.not_false, beq_iff_eq, bne_iff_ne, ne_eq, beq_eq_false_iff_ne, bne_eq_false_iff_eq, gt_iff_lt, ge_iff_le, Int.not_lt, Int.not_le] at hc54
          rw [if_pos (by omega)] at hR
          refine c_seq (fun K24 hK24 => ?_)
          refine c_reg ?_ -- region 14 syntaxm.go:632
          refine wl (ro_move rfl) ?_
          refine wl_call rfl en_48 (nextM hA.v (by omega)) ?_
          rintro _ u2 ⟨rfl, hM2, F2⟩
          replace hF := ar_one hF F2
          have hA2 := hA.turn hM2 F2
          have ha1 := adv_len' (s := s1) (by omega)
          have hpe2 := hpe.cm (Cm.adv hpe)
          have hG2 := hG.at (lv1 := lv + 1) hA2 hpe2 (by show s1.lo ≤ lv + 1; omega) (by omega) (by omega) (by omega)
          refine wl_nil (x_then (hK24 _ _ ?_))
          clear hK24 K24
          refine forget [(0, _), (1, _), (5, _), (6, _)] ⟨rfl, rfl, rfl, rfl, trivial⟩ (fun e => ?_)
          refine c_seq (fun K25 hK25 => ?_)
          rcases bdP_some hR with ⟨⟨ee, pp⟩, hq, rfl⟩ | ⟨t1, s3, hq, hR⟩
          · skip
            refine c_reg ?_ -- region 15 syntaxm.go:633
            refine wl (ro_move rfl) ?_
            refine wl (ro_move rfl) ?_
            refine wl (ro_arith rfl rfl rfl (Go.IntWalk.i64_in _ (by omega))) ?_
            refine wl_call rfl en_160 (ih.x0 hG2 (by omega) ⟨g, hq⟩) ?_
            rintro v u3 ⟨F3, ⟨z, rfl⟩, hE⟩
            replace hF := ar_trans hF hnb F3
            refine wl (ro_assign rfl) ?_
            refine wl_nil (x_then (hK25 _ _ ?_))
            clear hK25 K25
            refine forget [(0, _), (1, _), (5, _), (6, _), (10, _)] ⟨rfl, rfl, rfl, rfl, rfl, trivial⟩ (fun e => ?_)
            refine c_seq (fun K26 hK26 => ?_)
            refine c_reg ?_ -- region 16 syntaxm.go:634
            refine wl (ro_move rfl) ?_
            refine wl_call rfl en_211 (wantE hE) ?_
            rintro _ u4 ⟨rfl, hE4, F4⟩
            replace hF := ar_one hF F4
            have hE0 := hE4.le (lv' := lv) (by omega)
            obtain ⟨np', src', pos', t', U', al', lo', fu', hXe, h1, h2, h3, h4⟩ := hE4
            unfold mpc at hXe
            refine wl_nil (x_then (hK26 _ _ ?_))
            clear hK26 K26
            refine c_seq (fun K27 hK27 => ?_)
            refine c_seq (fun K28 hK28 => ?_)
            refine c_reg ?_ -- region 17 syntaxm.go:635
            refine wl (ro_move rfl) ?_
            refine wl (ro_nilCheck rfl) ?_
            refine wl (ro_fieldAddr (k := 9) rfl fo_146_5) ?_
            refine wl (ro_loadB rfl sc_54 (by assumption) rfl) ?_
            refine wl (ro_cmp rfl rfl rfl) ?_
            refine wl_nil (x_then (hK28 _ _ ?_))
            clear hK28 K28
            refine wc_cond rfl (fun hc67 => ?_) (fun hc67 => ?_)
            · try simp only [decide_eq_true_eq, decide_eq_false_iff_not, Bool.not_eq_true', Bool.not_eq_false', Bool.not_eq_eq_eq_not, Bool.not_true, Bool.not_false, beq_iff_eq, bne_iff_ne, ne_eq, beq_eq_false_iff_ne, bne_eq_false_iff_eq, gt_iff_lt, ge_iff_le, Int.not_lt, Int.not_le] at hc67
              refine c_seq (fun K29 hK29 => ?_)
              refine c_reg ?_ -- region 18 syntaxm.go:636
              refine wl (ro_assign rfl) ?_
              refine wl_nil (x_then (hK29 _ _ ?_))
              clear hK29 K29
              refine c_ret (x_thenR (x_blkR (x_thenR (x_blkR (x_thenR ?_)))))
              refine bp_ret Tryz.results163 rfl ?_
              exact ⟨hF, ⟨0, rfl⟩, hE0⟩
            · try simp only [decide_eq_true_eq, decide_eq_false_iff_not, Bool.not_eq_true', Bool.not_eq_false', Bool.not_eq_eq_eq_not, Bool.not_true, Bool.not_false, beq_iff_eq, bne_iff_ne, ne_eq, beq_eq_false_iff_ne, bne_eq_false_iff_eq, gt_iff_lt, ge_iff_le, Int.not_lt, Int.not_le] at hc67
              omega
          · skip
            refine c_reg ?_ -- region 15 syntaxm.go:633
            refine wl (ro_move rfl) ?_
            refine wl (ro_move rfl) ?_
            refine wl (ro_arith rfl rfl rfl (Go.IntWalk.i64_in _ (by omega))) ?_
            refine wl_call rfl en_160 (ih.x0 hG2 (by omega) ⟨g, hq⟩) ?_
            rintro v u3 ⟨F3, rfl, U3, G3, hA3, hn3, hm3, hl3⟩
            have hz3 := hF.size
            replace hF := ar_trans hF hnb F3
            have hnb9 := nob_trans hnb hz3 hn3
            obtain ⟨hQE, hSm, _, hIB⟩ := MG.run0 ⟨g, hq⟩ hpe2
            have hlo3 : s3.lo = s1.lo := hSm.lo
            have hpe3 := hpe2.cm hSm.toCm
            unfold expP at hR
            refine wl (ro_assign rfl) ?_
            refine wl_nil (x_then (hK25 _ _ ?_))
            clear hK25 K25
            refine forget [(0, _), (1, _), (5, _), (6, _), (10, _)] ⟨rfl, rfl, rfl, rfl, rfl, trivial⟩ (fun e => ?_)
            refine c_seq (fun K30 hK30 => ?_)
            by_cases hk44 : s3.k = 44
            · skip
              rw [if_pos hk44] at hR
              refine c_reg ?_ -- region 16 syntaxm.go:634
              refine wl (ro_move rfl) ?_
              refine wl_call rfl en_211 (wantM (lv := lv) (k := 44) hA3.v (by decide) (by decide) (by omega)) ?_
              rintro _ u4 ⟨rfl, hq4, F4⟩
              replace hF := ar_one hF F4
              rw [if_pos hk44] at hq4
              have hA4 := hA3.turn hq4 F4
              have ha2 := adv_len' (s := s3) (by omega)
              have hpe9 := hpe3.cm (Cm.adv hpe3)
              have hlo9 : s3.adv.lo = s3.lo := rfl
              obtain ⟨pos4, hX4, hp4⟩ := hA4.v.ex
              unfold mpc at hX4
              refine wl_nil (x_then (hK30 _ _ ?_))
              clear hK30 K30
              refine c_seq (fun K31 hK31 => ?_)
              refine c_seq (fun K32 hK32 => ?_)
              refine c_reg ?_ -- region 17 syntaxm.go:635
              refine wl (ro_move rfl) ?_
              refine wl (ro_nilCheck rfl) ?_
              refine wl (ro_fieldAddr (k := 9) rfl fo_146_5) ?_
              refine wl (ro_loadB rfl sc_54 (by assumption) rfl) ?_
              refine wl (ro_cmp rfl rfl rfl) ?_
              refine wl_nil (x_then (hK32 _ _ ?_))
              clear hK32 K32
              refine wc_cond rfl (fun hc67 => ?_) (fun hc67 => ?_)
              · try simp only [decide_eq_true_eq, decide_eq_false_iff_not, Bool.not_eq_true', Bool.not_eq_false', Bool.not_eq_eq_eq_not, Bool.not_true, Bool.not_false, beq_iff_eq, bne_iff_ne, ne_eq, beq_eq_false_iff_ne, bne_eq_false_iff_eq, gt_iff_lt, ge_iff_le, Int.not_lt, Int.not_le] at hc67
                exact absurd rfl hc67
              · try simp only [decide_eq_true_eq, decide_eq_false_iff_not, Bool.not_eq_true', Bool.not_eq_false', Bool.not_eq_eq_eq_not, Bool.not_true, Bool.not_false, beq_iff_eq, bne_iff_ne, ne_eq, beq_eq_false_iff_ne, bne_eq_false_iff_eq, gt_iff_lt, ge_iff_le, Int.not_lt, Int.not_le] at hc67
                refine c_skip (x_then (hK31 _ _ ?_))
                clear hK31 K31
                refine c_reg ?_ -- region 19 syntaxm.go:638
                refine wl (ro_move rfl) ?_
                refine wl (ro_move rfl) ?_
                refine wl (ro_move rfl) ?_
                refine wl (ro_move rfl) ?_
                refine wl (ro_build rfl bld_148_0_1_2_7) ?_
                refine wl_call rfl en_162 (addM (x := (⟨18, rt x G.length, rt t1 G1.length, 0, 0, 0, []⟩, s1.cur.pl)) hA4 (by omega)) ?_
                rintro _ u5 ⟨rfl, U5, hA9, hn9, F9⟩
                refine wl (ro_assign rfl) ?_
                refine wl_nil (x_blk (x_then ?_))
                have hnd : ndT (Ex.index x t1) = 1 + ndT x + ndT t1 := rfl
                refine ⟨s3.adv.len, by omega, Ex.index x t1, _, _, s3.adv, rfl, ⟨g, hR⟩, hA9, nob_trans hnb9 hF.size hn9, ?_, ?_, by omega, hpe9, by omega, ?_, by omega, ar_trans hF hnb9 F9, kp _ ⟨rfl, rfl, congrArg (fun z : Nat => some (i64c z)) ?_, trivial⟩⟩
                · rw [List.map_append, hm3, hm, hl]
                  rw [show lay (Ex.index x t1) G.length = lay x G.length ++ lay t1 (G.length + ndT x) ++ [⟨18, rt x G.length, rt t1 (G.length + ndT x), 0, 0, 0, []⟩] from rfl]
                  simp only [List.append_assoc]
                  try rfl
                · rw [List.length_append]
                  simp only [List.length_cons, List.length_nil]
                  omega
                · rw [List.length_append]
                  simp only [List.length_cons, List.length_nil]
                  omega
                · show _ = G.length + ndT (Ex.index x t1) - 1
                  omega
            · skip
              rw [if_neg hk44] at hR
              cases failP_inj hR
              refine c_reg ?_ -- region 16 syntaxm.go:634
              refine wl (ro_move rfl) ?_
              refine wl_call rfl en_211 (wantM (lv := lv) (k := 44) hA3.v (by decide) (by decide) (by omega)) ?_
              rintro _ u4 ⟨rfl, hE, F4⟩
              replace hF := ar_one hF F4
              rw [if_neg hk44] at hE
              have hE0 := hE
              obtain ⟨np', src', pos', t', U', al', lo', fu', hXe, h1, h2, h3, h4⟩ := hE
              unfold mpc at hXe
              refine wl_nil (x_then (hK30 _ _ ?_))
              clear hK30 K30
              refine c_seq (fun K33 hK33 => ?_)
              refine c_seq (fun K34 hK34 => ?_)
              refine c_reg ?_ -- region 17 syntaxm.go:635
              refine wl (ro_move rfl) ?_
              refine wl (ro_nilCheck rfl) ?_
              refine wl (ro_fieldAddr (k := 9) rfl fo_146_5) ?_
              refine wl (ro_loadB rfl sc_54 (by assumption) rfl) ?_
              refine wl (ro_cmp rfl rfl rfl) ?_
              refine wl_nil (x_then (hK34 _ _ ?_))
              clear hK34 K34
              refine wc_cond rfl (fun hc67 => ?_) (fun hc67 => ?_)
              · try simp only [decide_eq_true_eq, decide_eq_false_iff_not, Bool.not_eq_true', Bool.not_eq_false', Bool.not_eq_eq_eq_not, Bool.not_true, Bool.not_false, beq_iff_eq, bne_iff_ne, ne_eq, beq_eq_false_iff_ne, bne_eq_false_iff_eq, gt_iff_lt, ge_iff_le, Int.not_lt, Int.not_le] at hc67
                refine c_seq (fun K35 hK35 => ?_)
                refine c_reg ?_ -- region 18 syntaxm.go:636
                refine wl (ro_assign rfl) ?_
                refine wl_nil (x_then (hK35 _ _ ?_))
                clear hK35 K35
                refine c_ret (x_thenR (x_blkR (x_thenR (x_blkR (x_thenR ?_)))))
                refine bp_ret Tryz.results163 rfl ?_
                exact ⟨hF, ⟨0, rfl⟩, hE0⟩
              · try simp only [decide_eq_true_eq, decide_eq_false_iff_not, Bool.not_eq_true', Bool.not_eq_false', Bool.not_eq_eq_eq_not, Bool.not_true, Bool.not_false, beq_iff_eq, bne_iff_ne, ne_eq, beq_eq_false_iff_ne, bne_eq_false_iff_eq, gt_iff_lt, ge_iff_le, Int.not_lt, Int.not_le] at hc67
                omega
        · try simp only [decide_eq_true_eq, decide_eq_false_iff_not, Bool.not_eq_true', Bool.not_eq_false', Bool.not_eq_eq_eq_not, Bool.not_true, Bool.not_false, beq_iff_eq, bne_iff_ne, ne_eq, beq_eq_false_iff_ne, bne_eq_false_iff_eq, gt_iff_lt, ge_iff_le, Int.not_lt, Int.not_le] at hc54
          rw [if_neg (by omega)] at hR
          refine c_seq (fun K36 hK36 => ?_)
          refine c_reg ?_ -- region 20 syntaxm.go:639
          refine wl (ro_move rfl) ?_
          refine wl_call rfl en_156 (is156 (k := 39) hA.v (by decide) (by decide)) ?_
          rintro _ w9 ⟨rfl, e9⟩
          replace e9 := e9.symm
          subst e9
          refine wl_nil (x_then (hK36 _ _ ?_))
          clear hK36 K36
          refine wc_cond rfl (fun hc75 => ?_) (fun hc75 => ?_)
          · try simp only [decide_eq_true_eq, decide_eq_false_iff_not, Bool.not_eq_true', Bool.not_eq_false', Bool.not_eq_eq_eq_not, Bool.not_true, Bool.not_false, beq_iff_eq, bne_iff_ne, ne_eq, beq_eq_false_iff_ne, bne_eq_false_iff_eq, gt_iff_lt, ge_iff_le, Int.not_lt, Int.not_le] at hc75
            rw [if_pos (by omega)] at hR
            refine c_seq (fun K37 hK37 => ?_)
            refine c_reg ?_ -- region 21 syntaxm.go:640
            refine wl (ro_move rfl) ?_
            refine wl_call rfl en_48 (nextM hA.v (by omega)) ?_
            rintro _ u2 ⟨rfl, hM2, F2⟩
            replace hF := ar_one hF F2
            have hA2 := hA.turn hM2 F2
            have ha1 := adv_len' (s := s1) (by omega)
            have hpe2 := hpe.cm (Cm.adv hpe)
            have hG2 := hG.at (lv1 := lv + 1) hA2 hpe2 (by show s1.lo ≤ lv + 1; omega) (by omega) (by omega) (by omega)
            refine wl_nil (x_then (hK37 _ _ ?_))
            clear hK37 K37
            refine forget [(0, _), (1, _), (5, _), (6, _)] ⟨rfl, rfl, rfl, rfl, trivial⟩ (fun e => ?_)
            refine c_seq (fun K38 hK38 => ?_)
            rcases bdP_some hR with ⟨⟨ee, pp⟩, hq, rfl⟩ | ⟨t1, s3, hq, hR⟩
            · skip
              refine c_reg ?_ -- region 22 syntaxm.go:641
              refine wl (ro_move rfl) ?_
              refine wl (ro_move rfl) ?_
              refine wl (ro_arith rfl rfl rfl (Go.IntWalk.i64_in _ (by omega))) ?_
              refine wl_call rfl en_214 (ih.li (r := 40) hG2 (.inl rfl) (by omega) ⟨g, hq⟩) ?_
              rintro v u3 ⟨F3, ⟨z, rfl⟩, hE⟩
              replace hF := ar_trans hF hnb F3
              have hE0 := hE.le (lv' := lv) (by omega)
              obtain ⟨np', src', pos', t', U', al', lo', fu', hXe, h1, h2, h3, h4⟩ := hE
              unfold mpc at hXe
              refine wl (ro_assign rfl) ?_
              refine wl_nil (x_then (hK38 _ _ ?_))
              clear hK38 K38
              refine c_seq (fun K39 hK39 => ?_)
              refine c_seq (fun K40 hK40 => ?_)
              refine c_reg ?_ -- region 23 syntaxm.go:642
              refine wl (ro_move rfl) ?_
              refine wl (ro_nilCheck rfl) ?_
              refine wl (ro_fieldAddr (k := 9) rfl fo_146_5) ?_
              refine wl (ro_loadB rfl sc_54 (by assumption) rfl) ?_
              refine wl (ro_cmp rfl rfl rfl) ?_
              refine wl_nil (x_then (hK40 _ _ ?_))
              clear hK40 K40
              refine wc_cond rfl (fun hc86 => ?_) (fun hc86 => ?_)
              · try simp only [decide_eq_true_eq, decide_eq_false_iff_not, Bool.not_eq_true', Bool.not_eq_false', Bool.not_eq_eq_eq_not, Bool.not_true, Bool.not_false, beq_iff_eq, bne_iff_ne, ne_eq, beq_eq_false_iff_ne, bne_eq_false_iff_eq, gt_iff_lt, ge_iff_le, Int.not_lt, Int.not_le] at hc86
                refine c_seq (fun K41 hK41 => ?_)
                refine c_reg ?_ -- region 24 syntaxm.go:643
                refine wl (ro_assign rfl) ?_
                refine wl_nil (x_then (hK41 _ _ ?_))
                clear hK41 K41
                refine c_ret (x_thenR (x_blkR (x_thenR (x_blkR (x_thenR ?_)))))
                refine bp_ret Tryz.results163 rfl ?_
                exact ⟨hF, ⟨0, rfl⟩, hE0⟩
              · try simp only [decide_eq_true_eq, decide_eq_false_iff_not, Bool.not_eq_true', Bool.not_eq_false', Bool.not_eq_eq_eq_not, Bool.not_true, Bool.not_false, beq_iff_eq, bne_iff_ne, ne_eq, beq_eq_false_iff_ne, bne_eq_false_iff_eq, gt_iff_lt, ge_iff_le, Int.not_lt, Int.not_le] at hc86
                omega
            · skip
              refine c_reg ?_ -- region 22 syntaxm.go:641
              refine wl (ro_move rfl) ?_
              refine wl (ro_move rfl) ?_
              refine wl (ro_arith rfl rfl rfl (Go.IntWalk.i64_in _ (by omega))) ?_
              refine wl_call rfl en_214 (ih.li (r := 40) hG2 (.inl rfl) (by omega) ⟨g, hq⟩) ?_
              rintro v u3 ⟨F3, rfl, U3, G3, hA3, hn3, hm3, hl3⟩
              have hz3 := hF.size
              replace hF := ar_trans hF hnb F3
              have hnb9 := nob_trans hnb hz3 hn3
              have hSm : Sm s1.adv s3 := ((par_q g).i5 hpe2 (.inl rfl) (fun _ => by decide) t1 s3 hq).2.2.1
              have hIB : ndT t1 + 3 * s3.len ≤ 3 * s1.adv.len := (IB.all g).l (by decide) t1 s3 hq
              have hlo9 : s3.lo = s1.lo := hSm.lo
              have hpe9 := hpe2.cm hSm.toCm
              obtain ⟨pos4, hX4, hp4⟩ := hA3.v.ex
              unfold mpc at hX4
              refine wl (ro_assign rfl) ?_
              refine wl_nil (x_then (hK38 _ _ ?_))
              clear hK38 K38
              refine c_seq (fun K42 hK42 => ?_)
              refine c_seq (fun K43 hK43 => ?_)
              refine c_reg ?_ -- region 23 syntaxm.go:642
              refine wl (ro_move rfl) ?_
              refine wl (ro_nilCheck rfl) ?_
              refine wl (ro_fieldAddr (k := 9) rfl fo_146_5) ?_
              refine wl (ro_loadB rfl sc_54 (by assumption) rfl) ?_
              refine wl (ro_cmp rfl rfl rfl) ?_
              refine wl_nil (x_then (hK43 _ _ ?_))
              clear hK43 K43
              refine wc_cond rfl (fun hc86 => ?_) (fun hc86 => ?_)
              · try simp only [decide_eq_true_eq, decide_eq_false_iff_not, Bool.not_eq_true', Bool.not_eq_false', Bool.not_eq_eq_eq_not, Bool.not_true, Bool.not_false, beq_iff_eq, bne_iff_ne, ne_eq, beq_eq_false_iff_ne, bne_eq_false_iff_eq, gt_iff_lt, ge_iff_le, Int.not_lt, Int.not_le] at hc86
                exact absurd rfl hc86
              · try simp only [decide_eq_true_eq, decide_eq_false_iff_not, Bool.not_eq_true', Bool.not_eq_false', Bool.not_eq_eq_eq_not, Bool.not_true, Bool.not_false, beq_iff_eq, bne_iff_ne, ne_eq, beq_eq_false_iff_ne, bne_eq_false_iff_eq, gt_iff_lt, ge_iff_le, Int.not_lt, Int.not_le] at hc86
                refine c_skip (x_then (hK42 _ _ ?_))
                clear hK42 K42
                refine c_reg ?_ -- region 25 syntaxm.go:645
                refine wl (ro_move rfl) ?_
                refine wl (ro_move rfl) ?_
                refine wl (ro_move rfl) ?_
                refine wl (ro_move rfl) ?_
                refine wl (ro_build rfl bld_148_0_1_2_7) ?_
                refine wl_call rfl en_162 (addM (x := (⟨19, rt x G.length, rt t1 G1.length, 0, 0, 0, []⟩, s1.cur.pl)) hA3 (by omega)) ?_
                rintro _ u5 ⟨rfl, U5, hA9, hn9, F9⟩
                refine wl (ro_assign rfl) ?_
                refine wl_nil (x_blk (x_then ?_))
                have hnd : ndT (Ex.call x t1) = 1 + ndT x + ndT t1 := rfl
                refine ⟨s3.len, by omega, Ex.call x t1, _, _, s3, rfl, ⟨g, hR⟩, hA9, nob_trans hnb9 hF.size hn9, ?_, ?_, by omega, hpe9, by omega, ?_, by omega, ar_trans hF hnb9 F9, kp _ ⟨rfl, rfl, congrArg (fun z : Nat => some (i64c z)) ?_, trivial⟩⟩
                · rw [List.map_append, hm3, hm, hl]
                  rw [show lay (Ex.call x t1) G.length = lay x G.length ++ lay t1 (G.length + ndT x) ++ [⟨19, rt x G.length, rt t1 (G.length + ndT x), 0, 0, 0, []⟩] from rfl]
                  simp only [List.append_assoc]
                  try rfl
                · rw [List.length_append]
                  simp only [List.length_cons, List.length_nil]
                  omega
                · rw [List.length_append]
                  simp only [List.length_cons, List.length_nil]
                  omega
                · show _ = G.length + ndT (Ex.call x t1) - 1
                  omega
          · try simp only [decide_eq_true_eq, decide_eq_false_iff_not, Bool.not_eq_true', Bool.not_eq_false', Bool.not_eq_eq_eq_not, Bool.not_true, Bool.not_false, beq_iff_eq, bne_iff_ne, ne_eq, beq_eq_false_iff_ne, bne_eq_false_iff_eq, gt_iff_lt, ge_iff_le, Int.not_lt, Int.not_le] at hc75
            rw [if_neg (by omega)] at hR
            cases okP_inj hR
            refine c_seq (fun K44 hK44 => ?_)
            refine c_reg ?_ -- region 26 syntaxm.go:647
            refine wl (ro_move rfl) ?_
            refine wl (ro_assign rfl) ?_
            refine wl_nil (x_then (hK44 _ _ ?_))
            clear hK44 K44
            refine c_ret (x_blkR (x_thenR (x_blkR (x_thenR ?_))))
            refine bp_ret Tryz.results163 rfl ?_
            exact ⟨hF, rfl, U1, G1, hA, hnb, hm, hl⟩
end Go.Proofs.Qxb6500568aGreatDoor
