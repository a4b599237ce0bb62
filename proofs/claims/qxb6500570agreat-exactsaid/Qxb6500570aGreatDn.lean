import Derived.Test.Qxb6500570aGreatDm
/- The model's evaluator. -/
namespace Go.Proofs.Qxb6500570aGreat
set_option linter.unusedVariables false
set_option linter.unusedSimpArgs false

theorem wf_all (f : Nat) : WoC f ∧ FoC f := by
  induction f using Nat.strongRecOn with
  | _ f ih => exact ⟨wo_step ih, fo_step ih⟩
theorem Eval149 {w : World} {nb vb : Nat} {n : List Nd} {EL : List Vl} (hN : Blk w.heap nb (rws ndc n) 143) (hV : Blk w.heap vb (rws vlc EL) 104) (hel : EL.length = 24) (hL : ∀ c, c < 24 → Lw (envF EL c)) (hD : DoneOK n) :
    Ret Tryz.prog 149 [.agg [sl nb n.length, icv ((n.length : Int) - 1), icv 0, icv 0].toArray, sl vb 24] w (fun v w' => v = vlA (vT n (envF EL)) ∧ Fram none' w w') := by
  have hF : Fram none' w w := Fram.refl _ _
  obtain ⟨hd1, hd2, f, hf⟩ := hD
  have hf' := sg_fuel _ _ _ _ _ _ hf
  obtain ⟨C, W, hW, hev, -⟩ := (ev_law hL hd2 _).1 _ _ _ hf' (sg_nr hf')
  rw [show n.length - 1 + 1 = n.length by omega] at hf' hev
  have hv : vT n (envF EL) = W := hev 24 0 hd2
  refine ret_of Tryz.func149 rfl Tryz.ntmps149 rfl ?_
  refine c_seq (fun K1 hK1 => ?_)
  refine c_reg ?_ -- region 0 eval.go:380
  refine wl_box rfl rfl (fun b2 w1 hbb2 h2 F1 => ?_)
  have hbsb2 := Nat.le_trans hF.size hbb2
  have hnenbb2 : nb < b2 := Nat.lt_of_lt_of_le hN.lt hbb2
  have hnevbb2 : vb < b2 := Nat.lt_of_lt_of_le hV.lt hbb2
  replace hF := hF.thenDrew.thenN F1
  replace hN := F1.blkN hN
  replace hV := F1.blkN hV
  refine wl_new (ze_104) (fun b4 w2 hbb4 h4 F2 => ?_)
  have hbsb4 := Nat.le_trans hF.size hbb4
  have hnenbb4 : nb < b4 := Nat.lt_of_lt_of_le hN.lt hbb4
  have hnevbb4 : vb < b4 := Nat.lt_of_lt_of_le hV.lt hbb4
  have hneb2b4 : b2 < b4 := Nat.lt_of_lt_of_le h2.lt hbb4
  replace hF := hF.thenDrew.thenN F2
  replace hN := F2.blkN hN
  replace hV := F2.blkN hV
  replace h2 := F2.blkN h2
  refine wl_nil (x_then (hK1 _ _ ?_))
  clear hK1 K1
  refine forget [(1, _), (2, _), (4, _)] ⟨rfl, rfl, rfl, trivial⟩ (fun e => ?_)
  refine c_seq (fun K2 hK2 => ?_)
  refine c_reg ?_ -- region 1 eval.go:380
  refine wl (ro_fieldAddr (k := 0) rfl fo_113_0) ?_
  refine wl (ro_loadB rfl sc_78 (by assumption) rfl) ?_
  refine wl (ro_fieldAddr (k := 1) rfl fo_113_1) ?_
  refine wl (ro_loadB rfl sc_3 (by assumption) rfl) ?_
  refine wl (ro_move rfl) ?_
  refine wl_call rfl en_191 ((wf_all _).1 (i := n.length - 1) (by omega) ⟨hN, hV, hel, hL, hd2⟩ hf' (sg_nr hf')) ?_
  rintro _ u1 ⟨rfl, G1⟩
  rw [hev _ 0 (Nat.le_refl _), ← hv]
  replace hF := hF.transG G1 (by intro k hk h; simp only [one, none'] at h ⊢ <;> omega)
  replace hN := G1.blkF hN (by intro h; simp only [one, none'] at h <;> omega)
  replace hV := G1.blkF hV (by intro h; simp only [one, none'] at h <;> omega)
  replace h2 := G1.blkF h2 (by intro h; simp only [one, none'] at h <;> omega)
  replace h4 := G1.blkF h4 (by intro h; simp only [one, none'] at h <;> omega)
  refine wl_puta rfl rfl ((by (try exact vlc_cells _); all_goals simp [Value.oneCell', i64c, icv, u64c, u8c, ptr, S])) sz_104 (rfl) h4 ((by simp)) (rfl) (fun w3 h4 F3 => ?_)
  replace hF := hF.thenDrew.thenO F3 (by first | exact .inr (by omega) | exact .inl rfl | exact .inl (by assumption))
  replace hN := F3.blkO hN (by omega)
  replace hV := F3.blkO hV (by omega)
  replace h2 := F3.blkO h2 (by omega)
  refine wl_nil (x_then (hK2 _ _ ?_))
  clear hK2 K2
  refine c_ret ?_
  refine bq_ret (res1 Tryz.results149 (rv_c rfl ag_104 (h4) rfl)) ?_
  exact ⟨rfl, hF⟩
set_option maxHeartbeats 2000000 in
theorem Reads190 {w : World} {nb : Nat} {n : List Nd} (hN : Blk w.heap nb (rws ndc n) 143) (hn : n.length ≤ 24) :
    Ret Tryz.prog 190 [.agg [sl nb n.length, icv ((n.length : Int) - 1), icv 0, icv 0].toArray] w (fun v w' => v = u32c (rdT n) ∧ rdT n < 2 ^ 24 ∧ Fram none' w w') := by
  have hF : Fram none' w w := Fram.refl _ _
  refine ret_of Tryz.func190 rfl Tryz.ntmps190 rfl ?_
  refine c_seq (fun K1 hK1 => ?_)
  refine c_reg ?_ -- region 0 eval.go:120
  refine wl_box rfl rfl (fun b1 w1 hbb1 h1 F1 => ?_)
  have hbsb1 := Nat.le_trans hF.size hbb1
  have hnenbb1 : nb < b1 := Nat.lt_of_lt_of_le hN.lt hbb1
  replace hF := hF.thenDrew.thenN F1
  replace hN := F1.blkN hN
  refine wl (ro_assign rfl) ?_
  refine wl_nil (x_then (hK1 _ _ ?_))
  clear hK1 K1
  refine forget [(1, _)] ⟨rfl, trivial⟩ (fun e => ?_)
  refine c_seq (fun K2 hK2 => ?_)
  refine c_reg ?_ -- region 1 eval.go:121
  refine wl (ro_assign rfl) ?_
  refine wl_nil (x_then (hK2 _ _ ?_))
  clear hK2 K2
  refine c_seq (fun K3 hK3 => ?_)
  refine c_seq (fun K4 hK4 => ?_)
  refine c_reg ?_ -- region 2 eval.go:122
  refine wl (ro_assign rfl) ?_
  refine wl_nil (x_then (hK4 _ _ ?_))
  clear hK4 K4
  refine c_block ?_
  -- loop@r3: live slots [1, 3, 4]
  refine c_loopG (fun m a' w' => ∃ i, m = n.length - i ∧ i ≤ n.length ∧ rdF n 0 i < 2 ^ 24 ∧ Blk w'.heap nb (rws ndc n) 143 ∧ Blk w'.heap b1 [sl nb n.length, icv ((n.length : Int) - 1), icv 0, icv 0] 113 ∧ Fram none' w w' ∧ ∃ e, a' = Fr 49 (upds e [(1, ptr b1), (3, u32c (rdF n 0 i)), (4, i64c i)]) []) n.length ⟨0, rfl, by omega, by show 0 < 2 ^ 24; decide, hN, h1, hF, kp _ ⟨rfl, rfl, rfl, trivial⟩⟩ ?_
  clear hF hN h1
  rintro m a' u1 ⟨i, rfl, hi, hlt, hN, h1, hF, e, rfl⟩
  have hsz := hF.size
  refine c_seq (fun K5 hK5 => ?_)
  refine c_seq (fun K6 hK6 => ?_)
  refine c_reg ?_ -- region 3 eval.go:122
  refine wl (ro_move rfl) ?_
  refine wl (ro_fieldAddr (k := 0) rfl fo_113_0) ?_
  refine wl (ro_loadB rfl sc_78 (by assumption) rfl) ?_
  refine wl (ro_lenL rfl se_78) ?_
  refine wl (ro_cmp (r := decide (i < n.length)) rfl rfl (congrArg some (decide_eq_decide.2 (by omega)))) ?_
  refine wl_nil (x_then (hK6 _ _ ?_))
  clear hK6 K6
  refine wc_cond rfl (fun hc13 => ?_) (fun hc13 => ?_)
  · try simp only [decide_eq_true_eq, decide_eq_false_iff_not, Bool.not_eq_true', Bool.not_eq_false', Bool.not_eq_eq_eq_not, Bool.not_true, Bool.not_false, beq_iff_eq, bne_iff_ne, ne_eq, beq_eq_false_iff_ne, bne_eq_false_iff_eq, gt_iff_lt, ge_iff_le, Int.not_lt, Int.not_le] at hc13
    obtain ⟨x, hx⟩ : ∃ x, n[i]? = some x := ⟨_, List.getElem?_eq_getElem hc13⟩
    have hrs : rdF n 0 (i + 1) = rdF n 0 i ||| rdN x := by
      show rdF n 0 i ||| rdN (ndA n (0 + i : Nat)) = _
      rw [Nat.zero_add, ndA_get hx]
    refine c_skip (x_then (hK5 _ _ ?_))
    clear hK5 K5
    refine forget [(1, _), (3, _), (4, _)] ⟨rfl, rfl, rfl, trivial⟩ (fun e => ?_)
    refine c_seq (fun K7 hK7 => ?_)
    refine c_block ?_
    refine c_seq (fun K8 hK8 => ?_)
    refine c_reg ?_ -- region 5 eval.go:123
    refine wl (ro_fieldAddr (k := 0) rfl fo_113_0) ?_
    refine wl (ro_loadB rfl sc_78 (by assumption) rfl) ?_
    refine wl (ro_move rfl) ?_
    refine wl (ro_indexAddr (et := 143) (k := 13) rfl rfl se_78 rfl (by omega)) ?_
    refine wl (ro_loadAggB rfl ag_143 (hN) ((ndc_len _)) ((rw_agg ndc_len hx (by omega)))) ?_
    refine wl_new (ze_143) (fun b5 w2 hbb5 h5 F2 => ?_)
    have hbsb5 := Nat.le_trans hF.size hbb5
    have hnenbb5 : nb < b5 := Nat.lt_of_lt_of_le hN.lt hbb5
    have hneb1b5 : b1 < b5 := Nat.lt_of_lt_of_le h1.lt hbb5
    replace hF := hF.thenDrew.thenN F2
    replace hN := F2.blkN hN
    replace h1 := F2.blkN h1
    refine wl_puta rfl rfl ((ndc_cells x)) sz_143 (rfl) h5 ((by simp)) ((show _ = ndc x from rfl)) (fun w3 h5 F3 => ?_)
    replace hF := hF.thenDrew.thenO F3 (by first | exact .inr (by omega) | exact .inl rfl | exact .inl (by assumption))
    replace hN := F3.blkO hN (by omega)
    replace h1 := F3.blkO h1 (by omega)
    refine wl_nil (x_then (hK8 _ _ ?_))
    clear hK8 K8
    refine c_mid (fun a' w' => Blk w'.heap nb (rws ndc n) 143 ∧ Blk w'.heap b1 [sl nb n.length, icv ((n.length : Int) - 1), icv 0, icv 0] 113 ∧ Blk w'.heap b5 (ndc x) 143 ∧ Fram none' w w' ∧ (rdF n 0 i ||| (if x.k = 3 ∧ gridR x.p = true then 2 ^ cellR x.p else 0)) < 2 ^ 24 ∧ ∃ e, a' = Fr 49 (upds e [(1, ptr b1), (3, u32c (rdF n 0 i ||| (if x.k = 3 ∧ gridR x.p = true then 2 ^ cellR x.p else 0))), (4, i64c i), (5, ptr b5)]) []) ?_ ?_
    · skip
      refine c_seq (fun K9 hK9 => ?_)
      refine c_reg ?_ -- region 6 eval.go:124
      refine wl (ro_fieldAddr (k := 0) rfl fo_143_0) ?_
      refine wl (ro_loadB rfl sc_3 (by assumption) rfl) ?_
      refine wl (ro_cmp rfl rfl rfl) ?_
      refine wl_nil (x_then (hK9 _ _ ?_))
      clear hK9 K9
      refine wc_cond rfl (fun hc23 => ?_) (fun hc23 => ?_)
      · try simp only [decide_eq_true_eq, decide_eq_false_iff_not, Bool.not_eq_true', Bool.not_eq_false', Bool.not_eq_eq_eq_not, Bool.not_true, Bool.not_false, beq_iff_eq, bne_iff_ne, ne_eq, beq_eq_false_iff_ne, bne_eq_false_iff_eq, gt_iff_lt, ge_iff_le, Int.not_lt, Int.not_le] at hc23
        refine c_seq (fun K10 hK10 => ?_)
        refine c_reg ?_ -- region 7 eval.go:125
        refine wl (ro_fieldAddr (k := 5) rfl fo_143_5) ?_
        refine wl (ro_loadAggB rfl ag_141 (by assumption) rfl rfl) ?_
        refine wl_call rfl en_98 (InGrid98) ?_
        rintro _ w4 ⟨rfl, F4⟩
        replace hF := hF.thenDrew.thenN F4
        replace hN := F4.blkN hN
        replace h1 := F4.blkN h1
        replace h5 := F4.blkN h5
        refine wl_nil (x_then (hK10 _ _ ?_))
        clear hK10 K10
        refine wc_cond rfl (fun hc26 => ?_) (fun hc26 => ?_)
        · try simp only [decide_eq_true_eq, decide_eq_false_iff_not, Bool.not_eq_true', Bool.not_eq_false', Bool.not_eq_eq_eq_not, Bool.not_true, Bool.not_false, beq_iff_eq, bne_iff_ne, ne_eq, beq_eq_false_iff_ne, bne_eq_false_iff_eq, gt_iff_lt, ge_iff_le, Int.not_lt, Int.not_le] at hc26
          refine c_seq (fun K11 hK11 => ?_)
          refine c_reg ?_ -- region 8 eval.go:126
          refine wl (ro_fieldAddr (k := 5) rfl fo_143_5) ?_
          refine wl (ro_loadAggB rfl ag_141 (by assumption) rfl rfl) ?_
          refine wl_call rfl en_204 (CellOf204 hc26) ?_
          rintro _ u4 ⟨rfl, G4⟩
          replace hF := hF.transG G4 (by intro k hk h; simp only [one, none'] at h ⊢ <;> omega)
          replace hN := G4.blkF hN (by intro h; simp only [one, none'] at h <;> omega)
          replace h1 := G4.blkF h1 (by intro h; simp only [one, none'] at h <;> omega)
          replace h5 := G4.blkF h5 (by intro h; simp only [one, none'] at h <;> omega)
          have hcl := cell_lt hc26
          have hb2 := bit_lt hcl
          refine wl (ro_assign rfl) ?_
          refine wl_nil (x_then (hK11 _ _ ?_))
          clear hK11 K11
          refine c_reg ?_ -- region 9 eval.go:127
          refine wl (ro_move rfl) ?_
          refine wl (ro_move rfl) ?_
          refine wl_call rfl en_66 (Bit66 hcl) ?_
          rintro _ _ ⟨rfl, rfl⟩
          refine wl (ro_or32 rfl rfl (by omega) (by omega)) ?_
          refine wl (ro_assign rfl) ?_
          refine wl_nil (x_then ?_)
          first
            | (rw [if_pos ⟨hc23, hc26⟩]; exact ⟨hN, h1, h5, hF, or_lt hlt hb2, kp _ ⟨rfl, rfl, rfl, rfl, trivial⟩⟩)
            | (rw [if_neg (fun h => by rw [hc26] at h; exact absurd h.2 (by decide)), Nat.or_zero]; exact ⟨hN, h1, h5, hF, hlt, kp _ ⟨rfl, rfl, rfl, rfl, trivial⟩⟩)
            | (rw [if_neg (fun h => hc23 h.1), Nat.or_zero]; exact ⟨hN, h1, h5, hF, hlt, kp _ ⟨rfl, rfl, rfl, rfl, trivial⟩⟩)
        · try simp only [decide_eq_true_eq, decide_eq_false_iff_not, Bool.not_eq_true', Bool.not_eq_false', Bool.not_eq_eq_eq_not, Bool.not_true, Bool.not_false, beq_iff_eq, bne_iff_ne, ne_eq, beq_eq_false_iff_ne, bne_eq_false_iff_eq, gt_iff_lt, ge_iff_le, Int.not_lt, Int.not_le] at hc26
          refine c_skip (x_then ?_)
          first
            | (rw [if_pos ⟨hc23, hc26⟩]; exact ⟨hN, h1, h5, hF, or_lt hlt hb2, kp _ ⟨rfl, rfl, rfl, rfl, trivial⟩⟩)
            | (rw [if_neg (fun h => by rw [hc26] at h; exact absurd h.2 (by decide)), Nat.or_zero]; exact ⟨hN, h1, h5, hF, hlt, kp _ ⟨rfl, rfl, rfl, rfl, trivial⟩⟩)
            | (rw [if_neg (fun h => hc23 h.1), Nat.or_zero]; exact ⟨hN, h1, h5, hF, hlt, kp _ ⟨rfl, rfl, rfl, rfl, trivial⟩⟩)
      · try simp only [decide_eq_true_eq, decide_eq_false_iff_not, Bool.not_eq_true', Bool.not_eq_false', Bool.not_eq_eq_eq_not, Bool.not_true, Bool.not_false, beq_iff_eq, bne_iff_ne, ne_eq, beq_eq_false_iff_ne, bne_eq_false_iff_eq, gt_iff_lt, ge_iff_le, Int.not_lt, Int.not_le] at hc23
        refine c_skip (x_then ?_)
        first
          | (rw [if_pos ⟨hc23, hc26⟩]; exact ⟨hN, h1, h5, hF, or_lt hlt hb2, kp _ ⟨rfl, rfl, rfl, rfl, trivial⟩⟩)
          | (rw [if_neg (fun h => by rw [hc26] at h; exact absurd h.2 (by decide)), Nat.or_zero]; exact ⟨hN, h1, h5, hF, hlt, kp _ ⟨rfl, rfl, rfl, rfl, trivial⟩⟩)
          | (rw [if_neg (fun h => hc23 h.1), Nat.or_zero]; exact ⟨hN, h1, h5, hF, hlt, kp _ ⟨rfl, rfl, rfl, rfl, trivial⟩⟩)
    clear hF hN h1 h5
    rintro a' u2 ⟨hN, h1, h5, hF, hlt2, e, rfl⟩
    generalize hm3 : (if x.k = 3 ∧ gridR x.p = true then 2 ^ cellR x.p else 0) = M3 at *
    refine c_seq (fun K12 hK12 => ?_)
    refine c_reg ?_ -- region 10 eval.go:130
    refine wl (ro_fieldAddr (k := 0) rfl fo_143_0) ?_
    refine wl (ro_loadB rfl sc_3 (by assumption) rfl) ?_
    refine wl (ro_cmp rfl rfl rfl) ?_
    refine wl_nil (x_then (hK12 _ _ ?_))
    clear hK12 K12
    refine wc_cond rfl (fun hc36 => ?_) (fun hc36 => ?_)
    · try simp only [decide_eq_true_eq, decide_eq_false_iff_not, Bool.not_eq_true', Bool.not_eq_false', Bool.not_eq_eq_eq_not, Bool.not_true, Bool.not_false, beq_iff_eq, bne_iff_ne, ne_eq, beq_eq_false_iff_ne, bne_eq_false_iff_eq, gt_iff_lt, ge_iff_le, Int.not_lt, Int.not_le] at hc36
      refine c_seq (fun K13 hK13 => ?_)
      refine c_reg ?_ -- region 11 eval.go:131
      refine wl (ro_fieldAddr (k := 5) rfl fo_143_5) ?_
      refine wl (ro_loadAggB rfl ag_141 (by assumption) rfl rfl) ?_
      refine wl (ro_fieldAddr (k := 9) rfl fo_143_6) ?_
      refine wl (ro_loadAggB rfl ag_141 (by assumption) rfl rfl) ?_
      refine wl_call rfl en_136 (Block136) ?_
      rintro _ u4 ⟨rfl, G4⟩
      replace hF := hF.transG G4 (by intro k hk h; simp only [one, none'] at h ⊢ <;> omega)
      replace hN := G4.blkF hN (by intro h; simp only [one, none'] at h <;> omega)
      replace h1 := G4.blkF h1 (by intro h; simp only [one, none'] at h <;> omega)
      replace h5 := G4.blkF h5 (by intro h; simp only [one, none'] at h <;> omega)
      have hbl : (blkR x.p x.q).getD 0 < 2 ^ 24 := by
        cases hb : blkR x.p x.q with
        | none => show 0 < 2 ^ 24; decide
        | some m => exact blk_lt hb
      refine wl (ro_move rfl) ?_
      refine wl (ro_extract rfl rfl) ?_
      refine wl (ro_extract rfl rfl) ?_
      refine wl (ro_assign rfl) ?_
      refine wl (ro_assign rfl) ?_
      refine wl_nil (x_then (hK13 _ _ ?_))
      clear hK13 K13
      refine c_reg ?_ -- region 12 eval.go:132
      refine wl (ro_move rfl) ?_
      refine wl (ro_move rfl) ?_
      refine wl (ro_or32 rfl rfl (by omega) (by omega)) ?_
      refine wl (ro_assign rfl) ?_
      refine wl_nil (x_blk (x_then (hK7 _ _ ?_)))
      clear hK7 K7
      refine c_reg ?_ -- region 4 eval.go:122
      refine wl (ro_move rfl) ?_
      refine wl (ro_arith (r := ((i + 1 : Nat) : Int)) rfl rfl rfl (Go.IntWalk.i64_in _ (by omega))) ?_
      refine wl (ro_assign rfl) ?_
      refine wl_nil (x_then ?_)
      first
        | (have hrd : rdF n 0 (i + 1) = (rdF n 0 i ||| M3) ||| (blkR x.p x.q).getD 0 := by rw [hrs]; unfold rdN; rw [hm3, if_pos hc36, Nat.or_assoc]
           exact ⟨n.length - (i + 1), by omega, i + 1, rfl, by omega, by rw [hrd]; exact or_lt hlt2 hbl, hN, h1, hF, kp _ ⟨rfl, by rw [hrd]; rfl, rfl, trivial⟩⟩)
        | (have hrd : rdF n 0 (i + 1) = rdF n 0 i ||| M3 := by rw [hrs]; unfold rdN; rw [hm3, if_neg hc36, Nat.or_zero]
           exact ⟨n.length - (i + 1), by omega, i + 1, rfl, by omega, by rw [hrd]; exact hlt2, hN, h1, hF, kp _ ⟨rfl, by rw [hrd]; rfl, rfl, trivial⟩⟩)
    · try simp only [decide_eq_true_eq, decide_eq_false_iff_not, Bool.not_eq_true', Bool.not_eq_false', Bool.not_eq_eq_eq_not, Bool.not_true, Bool.not_false, beq_iff_eq, bne_iff_ne, ne_eq, beq_eq_false_iff_ne, bne_eq_false_iff_eq, gt_iff_lt, ge_iff_le, Int.not_lt, Int.not_le] at hc36
      refine c_skip (x_blk (x_then (hK7 _ _ ?_)))
      clear hK7 K7
      refine c_reg ?_ -- region 4 eval.go:122
      refine wl (ro_move rfl) ?_
      refine wl (ro_arith (r := ((i + 1 : Nat) : Int)) rfl rfl rfl (Go.IntWalk.i64_in _ (by omega))) ?_
      refine wl (ro_assign rfl) ?_
      refine wl_nil (x_then ?_)
      first
        | (have hrd : rdF n 0 (i + 1) = (rdF n 0 i ||| M3) ||| (blkR x.p x.q).getD 0 := by rw [hrs]; unfold rdN; rw [hm3, if_pos hc36, Nat.or_assoc]
           exact ⟨n.length - (i + 1), by omega, i + 1, rfl, by omega, by rw [hrd]; exact or_lt hlt2 hbl, hN, h1, hF, kp _ ⟨rfl, by rw [hrd]; rfl, rfl, trivial⟩⟩)
        | (have hrd : rdF n 0 (i + 1) = rdF n 0 i ||| M3 := by rw [hrs]; unfold rdN; rw [hm3, if_neg hc36, Nat.or_zero]
           exact ⟨n.length - (i + 1), by omega, i + 1, rfl, by omega, by rw [hrd]; exact hlt2, hN, h1, hF, kp _ ⟨rfl, by rw [hrd]; rfl, rfl, trivial⟩⟩)
  · try simp only [decide_eq_true_eq, decide_eq_false_iff_not, Bool.not_eq_true', Bool.not_eq_false', Bool.not_eq_eq_eq_not, Bool.not_true, Bool.not_false, beq_iff_eq, bne_iff_ne, ne_eq, beq_eq_false_iff_ne, bne_eq_false_iff_eq, gt_iff_lt, ge_iff_le, Int.not_lt, Int.not_le] at hc13
    refine c_exit (x_thenX (x_thenX (x_blkX (x_then (hK3 _ _ ?_)))))
    clear hK5 K5 hK3 K3
    refine forget [(3, _)] ⟨rfl, trivial⟩ (fun e => ?_)
    refine c_seq (fun K14 hK14 => ?_)
    refine c_reg ?_ -- region 13 eval.go:135
    refine wl (ro_move rfl) ?_
    refine wl (ro_assign rfl) ?_
    refine wl_nil (x_then (hK14 _ _ ?_))
    clear hK14 K14
    refine c_ret ?_
    refine bp_ret Tryz.results190 rfl ?_
    have hi0 : i = n.length := by omega
    subst hi0
    exact ⟨rfl, hlt, hF⟩
theorem raw61 (raw : List UInt8) : raw = [] ∨ (∃ x, raw[0]? = some x ∧ x.toNat ≠ 61) ∨ raw[0]? = some 61 := by
  cases raw with
  | nil => exact .inl rfl
  | cons x t =>
    by_cases hx : x.toNat = 61
    · exact .inr (.inr (congrArg some ((u8_eq (n := 61) (by omega)).2 hx)))
    · exact .inr (.inl ⟨x, rfl, hx⟩)

theorem MFm.far {w w' : World} {fb : Nat} {G : Nat → Prop} (h : MFm w fb) (F : Fram G w w') (hn : ¬ G fb) : MFm w' fb := by
  obtain ⟨a, b, l, h⟩ := h
  exact ⟨a, b, l, F.blkF h hn⟩
/-- The model's evaluator. -/
def MEv (w : World) (ve fb : Nat) : Prop := fb < ve ∧ MFm w fb ∧ ∃ a b : Int, Blk w.heap ve [ptr fb, icv a, icv b] 155
theorem MEv.far {w w' : World} {ve fb lo hi : Nat} {G : Nat → Prop} (h : MEv w ve fb) (hb : lo ≤ fb ∧ ve < hi) (F : Fram G w w') (hn : ∀ b, lo ≤ b → b < hi → ¬ G b) : MEv w' ve fb := by
  obtain ⟨h1, h2, a, b, h3⟩ := h
  exact ⟨h1, h2.far F (hn _ (by omega) (by omega)), a, b, F.blkF h3 (hn _ (by omega) (by omega))⟩

set_option maxHeartbeats 4000000 in
theorem CellM124 {w : World} {lo hi ve fb vb : Nat} {raw : List UInt8} {EL : List Vl} (h : MEv w ve fb) (hb : lo ≤ fb ∧ ve < hi) (hr : raw.length ≤ 40) (hvb : vb < lo ∨ hi ≤ vb) (hV : Blk w.heap vb (rws vlc EL) 104) (hel : EL.length = 24) (hL : ∀ v ∈ EL, Lw v) :
    Ret Tryz.prog 124 [ptr ve, S raw, sl vb 24] w (fun v w' => v = .tuple #[vlA (cellV raw (envF EL)), icv 0] ∧ MEv w' ve fb ∧ Fram (rng lo hi) w w') := by
  have hF : Fram (rng lo hi) w w := Fram.refl _ _
  obtain ⟨hfe, hM, ca, cb, hE⟩ := h
  have hm1 : rng lo hi ve := ⟨by omega, by omega⟩
  have hLe := env_lw hL
  have hbv := hb
  refine ret_of Tryz.func124 rfl Tryz.ntmps124 rfl ?_
  refine c_seq (fun K1 hK1 => ?_)
  refine c_reg ?_ -- region 0 valm.go:20
  refine wl_new (ze_104) (fun b6 w1 hbb6 h6 F1 => ?_)
  have hbsb6 := Nat.le_trans hF.size hbb6
  have hnevbb6 : vb < b6 := Nat.lt_of_lt_of_le hV.lt hbb6
  have hneveb6 : ve < b6 := Nat.lt_of_lt_of_le hE.lt hbb6
  replace hF := hF.thenDrew.thenN F1
  replace hV := F1.blkN hV
  replace hE := F1.blkN hE
  replace hM := hM.far F1 (fun h ↦ h)
  refine wl (ro_assign rfl) ?_
  refine wl_nil (x_then (hK1 _ _ ?_))
  clear hK1 K1
  refine forget [(0, _), (1, _), (2, _), (6, _)] ⟨rfl, rfl, rfl, rfl, trivial⟩ (fun e => ?_)
  refine c_seq (fun K2 hK2 => ?_)
  refine c_reg ?_ -- region 1 valm.go:21
  refine wl (ro_move rfl) ?_
  refine wl (ro_nilCheck rfl) ?_
  refine wl (ro_fieldAddr (k := 1) rfl fo_155_1) ?_
  refine wl (ro_loadB rfl sc_3 (by assumption) rfl) ?_
  refine wl (ro_arithW rfl rfl rfl) ?_
  refine wl (ro_nilCheck rfl) ?_
  refine wl (ro_fieldAddr (k := 1) rfl fo_155_1) ?_
  refine wl_put rfl rfl rfl sz_3 hE ((by simp)) ((show _ = [ptr fb, icv (IntKind.i64.wrap (ca + 1)), icv cb] from rfl)) (fun w2 hE F2 => ?_)
  replace hF := hF.thenDrew.thenO F2 (by first | exact .inr (by omega) | exact .inl rfl | exact .inl (by assumption))
  replace hV := F2.blkO hV (by omega)
  replace h6 := F2.blkO h6 (by omega)
  replace hM := hM.far F2 (fun h ↦ absurd (show fb = ve from h) (by omega))
  refine wl_nil (x_then (hK2 _ _ ?_))
  clear hK2 K2
  refine c_seq (fun K3 hK3 => ?_)
  refine c_seq (fun K4 hK4 => ?_)
  refine c_reg ?_ -- region 2 valm.go:22
  refine wl (ro_move rfl) ?_
  refine wl (ro_lenS rfl st_9) ?_
  refine wl (ro_cmp (r := false) rfl rfl (congrArg some (decide_eq_false (by show ¬ ((raw.length : Nat) : Int) > 40; omega)))) ?_
  refine wl_nil (x_then (hK4 _ _ ?_))
  clear hK4 K4
  refine wc_condF rfl ?_
  refine c_skip (x_then (hK3 _ _ ?_))
  clear hK3 K3
  refine c_seq (fun K5 hK5 => ?_)
  refine c_seq (fun K6 hK6 => ?_)
  refine c_reg ?_ -- region 4 valm.go:25
  refine wl (ro_move rfl) ?_
  refine wl (ro_lenL rfl se_86) ?_
  refine wl (ro_cmp (r := false) rfl rfl rfl) ?_
  refine wl_nil (x_then (hK6 _ _ ?_))
  clear hK6 K6
  refine wc_condF rfl ?_
  refine c_skip (x_then (hK5 _ _ ?_))
  clear hK5 K5
  refine c_seq (fun K7 hK7 => ?_)
  refine c_seq (fun K8 hK8 => ?_)
  refine c_reg ?_ -- region 6 valm.go:28
  refine wl (ro_assign rfl) ?_
  refine wl_nil (x_then (hK8 _ _ ?_))
  clear hK8 K8
  refine c_block ?_
  -- loop@r7: live slots [0, 1, 2, 6, 8]
  refine c_loopG (fun m a' w' => ∃ c, m = 24 - c ∧ c ≤ 24 ∧ MFm w' fb ∧ Blk w'.heap ve [ptr fb, icv (IntKind.i64.wrap (ca + 1)), icv cb] 155 ∧ Blk w'.heap vb (rws vlc EL) 104 ∧ Blk w'.heap b6 [icv 0, icv 0, S []] 104 ∧ Fram (rng lo hi) w w' ∧ ∃ e, a' = Fr 59 (upds e [(0, ptr ve), (1, S raw), (2, sl vb 24), (6, ptr b6), (8, i64c c)]) []) 24 ⟨0, rfl, by omega, hM, hE, hV, h6, hF, kp _ ⟨rfl, rfl, rfl, rfl, rfl, trivial⟩⟩ ?_
  clear hF hV h6 hE hM
  rintro m a' u1 ⟨c, rfl, hc, hM, hE, hV, h6, hF, e, rfl⟩
  have hsz := hF.size
  refine c_seq (fun K9 hK9 => ?_)
  refine c_seq (fun K10 hK10 => ?_)
  refine c_reg ?_ -- region 7 valm.go:28
  refine wl (ro_move rfl) ?_
  refine wl (ro_cmp (r := decide (c < 24)) rfl rfl (congrArg some (decide_eq_decide.2 (by omega)))) ?_
  refine wl_nil (x_then (hK10 _ _ ?_))
  clear hK10 K10
  refine wc_cond rfl (fun hc26 => ?_) (fun hc26 => ?_)
  · try simp only [decide_eq_true_eq, decide_eq_false_iff_not, Bool.not_eq_true', Bool.not_eq_false', Bool.not_eq_eq_eq_not, Bool.not_true, Bool.not_false, beq_iff_eq, bne_iff_ne, ne_eq, beq_eq_false_iff_ne, bne_eq_false_iff_eq, gt_iff_lt, ge_iff_le, Int.not_lt, Int.not_le] at hc26
    refine c_skip (x_then (hK9 _ _ ?_))
    clear hK9 K9
    refine forget [(0, _), (1, _), (2, _), (6, _), (8, _)] ⟨rfl, rfl, rfl, rfl, rfl, trivial⟩ (fun e => ?_)
    refine c_seq (fun K11 hK11 => ?_)
    refine c_block ?_
    refine c_seq (fun K12 hK12 => ?_)
    refine c_reg ?_ -- region 9 valm.go:29
    refine wl (ro_move rfl) ?_
    refine wl (ro_move rfl) ?_
    refine wl (ro_indexAddr (et := 104) (k := 3) rfl rfl se_86 rfl (by omega)) ?_
    refine wl (ro_loadAggB rfl ag_104 (hV) ((vlc_len _)) ((rw_agg vlc_len (env_get (EL := EL) (c := c) (by omega)) (by omega)))) ?_
    refine wl_call rfl en_142 (Lawful142) ?_
    rintro _ u2 ⟨rfl, G2⟩
    replace hM := hM.far G2 (fun h => h)
    replace hF := hF.transG G2 (by intro k hk h; simp only [one, none', rng] at h ⊢ <;> omega)
    replace hV := G2.blkF hV (by intro h; simp only [one, none', rng] at h <;> omega)
    replace h6 := G2.blkF h6 (by intro h; simp only [one, none', rng] at h <;> omega)
    replace hE := G2.blkF hE (by intro h; simp only [one, none', rng] at h <;> omega)
    rw [lwB_iff.2 (hLe c (by omega))]
    refine wl (ro_not rfl) ?_
    refine wl_nil (x_then (hK12 _ _ ?_))
    clear hK12 K12
    refine wc_condF rfl ?_
    refine c_skip (x_blk (x_then (hK11 _ _ ?_)))
    clear hK11 K11
    refine c_reg ?_ -- region 8 valm.go:28
    refine wl (ro_move rfl) ?_
    refine wl (ro_arith (r := ((c + 1 : Nat) : Int)) rfl rfl rfl (Go.IntWalk.i64_in _ (by omega))) ?_
    refine wl (ro_assign rfl) ?_
    refine wl_nil (x_then ?_)
    exact ⟨24 - (c + 1), by omega, c + 1, rfl, by omega, hM, hE, hV, h6, hF, kp _ ⟨rfl, rfl, rfl, rfl, rfl, trivial⟩⟩
  · try simp only [decide_eq_true_eq, decide_eq_false_iff_not, Bool.not_eq_true', Bool.not_eq_false', Bool.not_eq_eq_eq_not, Bool.not_true, Bool.not_false, beq_iff_eq, bne_iff_ne, ne_eq, beq_eq_false_iff_ne, bne_eq_false_iff_eq, gt_iff_lt, ge_iff_le, Int.not_lt, Int.not_le] at hc26
    refine c_exit (x_thenX (x_thenX (x_blkX (x_then (hK7 _ _ ?_)))))
    clear hK9 K9 hK7 K7
    refine c_seq (fun K13 hK13 => ?_)
    refine c_seq (fun K14 hK14 => ?_)
    have hraw : raw = [] ∨ (∃ x, raw[0]? = some x ∧ x.toNat ≠ 61) ∨ raw[0]? = some 61 := raw61 raw
    rcases hraw with hq | ⟨x, hq, hx⟩ | hq
    · skip
      refine c_reg ?_ -- region 11 valm.go:33
      refine wl (ro_move rfl) ?_
      refine wl (ro_eqS (r := true) rfl rfl (congrArg some (by rw [hq]; rfl))) ?_
      refine wl (ro_move rfl) ?_
      refine wlg_no rfl ?_
      refine wlg_no rfl ?_
      refine wlg_no rfl ?_
      refine wl (ro_pick rfl rfl rfl) ?_
      refine wl_nil (x_then (hK14 _ _ ?_))
      clear hK14 K14
      refine wc_condT rfl ?_
      refine c_seq (fun K15 hK15 => ?_)
      refine c_reg ?_ -- region 12 valm.go:34
      refine wl (ro_move rfl) ?_
      refine wl_call rfl en_143 (Plain143 hr) ?_
      rintro _ u2 ⟨rfl, G2⟩
      replace hM := hM.far G2 (fun h => h)
      replace hF := hF.transG G2 (by intro k hk h; simp only [one, none', rng] at h ⊢ <;> omega)
      replace hV := G2.blkF hV (by intro h; simp only [one, none', rng] at h <;> omega)
      replace h6 := G2.blkF h6 (by intro h; simp only [one, none', rng] at h <;> omega)
      replace hE := G2.blkF hE (by intro h; simp only [one, none', rng] at h <;> omega)
      refine wl_puta rfl rfl ((vlc_cells _)) sz_104 (rfl) h6 ((by simp)) (rfl) (fun w3 h6 F3 => ?_)
      replace hF := hF.thenDrew.thenO F3 (by first | exact .inr (by omega) | exact .inl rfl | exact .inl (by assumption))
      replace hV := F3.blkO hV (by omega)
      replace hE := F3.blkO hE (by omega)
      replace hM := hM.far F3 (fun h ↦ absurd (show fb = b6 from h) (by omega))
      refine wl (ro_assign rfl) ?_
      refine wl_nil (x_then (hK15 _ _ ?_))
      clear hK15 K15
      refine c_ret (x_thenR ?_)
      refine bq_ret (res2 Tryz.results124 (rv_c rfl ag_104 (h6) rfl) (rv_t rfl)) ?_
      refine ⟨?_, ⟨hfe, hM, _, _, hE⟩, hF⟩
      rw [show cellV raw (envF EL) = plainV raw by unfold cellV; rw [if_neg (by rw [hq]; simp)]]
      rfl
    · skip
      refine c_reg ?_ -- region 11 valm.go:33
      refine wl (ro_move rfl) ?_
      refine wl (ro_eqS (r := false) rfl rfl (congrArg some (by cases raw with | nil => cases hq | cons x t => rfl))) ?_
      refine wl (ro_move rfl) ?_
      refine wlg_yes rfl (ro_move rfl) ?_
      refine wlg_yes rfl (ro_indexS rfl rfl st_9 rfl (hq)) ?_
      refine wlg_yes rfl (ro_cmp (r := true) rfl rfl (congrArg some ((bnec x.toNat 61).trans (decide_eq_true hx)))) ?_
      refine wl (ro_pick rfl rfl rfl) ?_
      refine wl_nil (x_then (hK14 _ _ ?_))
      clear hK14 K14
      refine wc_condT rfl ?_
      refine c_seq (fun K16 hK16 => ?_)
      refine c_reg ?_ -- region 12 valm.go:34
      refine wl (ro_move rfl) ?_
      refine wl_call rfl en_143 (Plain143 hr) ?_
      rintro _ u2 ⟨rfl, G2⟩
      replace hM := hM.far G2 (fun h => h)
      replace hF := hF.transG G2 (by intro k hk h; simp only [one, none', rng] at h ⊢ <;> omega)
      replace hV := G2.blkF hV (by intro h; simp only [one, none', rng] at h <;> omega)
      replace h6 := G2.blkF h6 (by intro h; simp only [one, none', rng] at h <;> omega)
      replace hE := G2.blkF hE (by intro h; simp only [one, none', rng] at h <;> omega)
      refine wl_puta rfl rfl ((vlc_cells _)) sz_104 (rfl) h6 ((by simp)) (rfl) (fun w4 h6 F4 => ?_)
      replace hF := hF.thenDrew.thenO F4 (by first | exact .inr (by omega) | exact .inl rfl | exact .inl (by assumption))
      replace hV := F4.blkO hV (by omega)
      replace hE := F4.blkO hE (by omega)
      replace hM := hM.far F4 (fun h ↦ absurd (show fb = b6 from h) (by omega))
      refine wl (ro_assign rfl) ?_
      refine wl_nil (x_then (hK16 _ _ ?_))
      clear hK16 K16
      refine c_ret (x_thenR ?_)
      refine bq_ret (res2 Tryz.results124 (rv_c rfl ag_104 (h6) rfl) (rv_t rfl)) ?_
      refine ⟨?_, ⟨hfe, hM, _, _, hE⟩, hF⟩
      rw [show cellV raw (envF EL) = plainV raw by unfold cellV; rw [if_neg (fun hh => hx (by rw [hq] at hh; cases hh; rfl))]]
      rfl
    · skip
      have hrl : 1 ≤ raw.length := (List.getElem?_eq_some_iff.1 hq).1
      refine c_reg ?_ -- region 11 valm.go:33
      refine wl (ro_move rfl) ?_
      refine wl (ro_eqS (r := false) rfl rfl (congrArg some (by cases raw with | nil => cases hq | cons x t => rfl))) ?_
      refine wl (ro_move rfl) ?_
      refine wlg_yes rfl (ro_move rfl) ?_
      refine wlg_yes rfl (ro_indexS rfl rfl st_9 rfl (hq)) ?_
      refine wlg_yes rfl (ro_cmp (r := false) rfl rfl rfl) ?_
      refine wl (ro_pick rfl rfl rfl) ?_
      refine wl_nil (x_then (hK14 _ _ ?_))
      clear hK14 K14
      refine wc_condF rfl ?_
      refine c_skip (x_then (hK13 _ _ ?_))
      clear hK13 K13
      refine forget [(0, _), (1, _), (2, _), (6, _)] ⟨rfl, rfl, rfl, rfl, trivial⟩ (fun e => ?_)
      refine c_seq (fun K17 hK17 => ?_)
      refine c_piF 8 6 7 [0, 1, 2, 3, 4, 5] [(7, true)] [(6, true)] (fun w' => Blk w'.heap ve [ptr fb, icv (IntKind.i64.wrap (ca + 1)), icv cb] 155) mixed (by kernel_rfl) rfl rfl (by kernel_rfl) (po_then (po_bp)) (hE) ?_ -- region 13 valm.go:36
      refine wf_ro rfl (fun w hS => ro_move rfl) ?_
      refine wf_ro rfl (fun w hS => ro_nilCheck rfl) ?_
      refine wf_ro rfl (fun w hS => ro_fieldAddr (k := 0) rfl fo_155_0) ?_
      refine wf_ro rfl (fun w hS => ro_loadB rfl sc_96 (hS) (rfl)) ?_
      refine wf_ro rfl (fun w hS => ro_move rfl) ?_
      refine wf_ro rfl (fun w hS => ro_sliceSL (l := 1) rfl rfl st_9 rfl hrl) ?_
      refine wf_cn (R := (fun v u => TrV u1 u v (prs (raw.drop 1)) ∧ MFm u fb ∧ Fram (one fb) u1 u)) (G := one fb) rfl rfl rfl (by decide) (by decide) (by decide) rfl (fun _ => rfl) en_102 ze_113 sz_113 rfl ((fun wA1 F1 => (Parse102 (s := raw.drop 1) (hM.far (w := u1) ((Fram.drew none' u1 _).trans F1) (fun h => h)) (by rw [List.length_drop]; omega)).mono (fun v u hh => ⟨⟨hh.1.old F1.size, hh.2.1, (((Fram.drew none' u1 _).trans F1).mono (fun _ _ h => h.elim)).trans hh.2.2⟩, hh.2.2⟩))) ((fun v u u' hh F => ⟨hh.1.framN F, hh.2.1.far F (fun h => h), hh.2.2.thenN F⟩)) ((fun b hg => by have h1 : b = fb := hg; have h2 := hE.lt; show b < u1.heap.size; omega)) ((fun v u hh => hh.1.form)) ((fun u F => F.blkN (w := { u1 with drawn := u1.drawn + 1 }) hE)) ((fun v u hh => hh.2.2.blkF hE (fun hg => absurd (show ve = fb from hg) (by omega)))) ((fun v u hh => hh.2.2.size)) ?_
      intro cs uA bt uB hR hcl hbw h50 h5 F5
      obtain ⟨hTr, hM1, G1⟩ := hR
      have hTc := hTr.cells
      have hbw' : u1.heap.size ≤ bt := hbw
      have hfl := hE.lt
      have hvl := hV.lt
      have h6l := h6.lt
      replace hM := hM1.far F5 (fun h => absurd (show fb = bt from h) (by omega))
      replace hF := hF.transG G1 (by intro k hk h; simp only [one, none', rng] at h ⊢ <;> omega)
      replace hV := G1.blkF hV (by intro h; simp only [one, none', rng] at h <;> omega)
      replace h6 := G1.blkF h6 (by intro h; simp only [one, none', rng] at h <;> omega)
      replace hE := G1.blkF hE (by intro h; simp only [one, none', rng] at h <;> omega)
      replace hF := hF.trans' F5 (fun k hk he => absurd (show k = bt from he) (by have := hF.size; omega))
      replace hE := F5.blkO hE (by omega)
      replace hV := F5.blkO hV (by omega)
      replace h6 := F5.blkO h6 (by omega)
      have hcv : cellV raw (envF EL) = (match prs (raw.drop 1) with | none => vE 1 | some n => vT n (envF EL)) := by unfold cellV; rw [if_pos hq]; cases prs (List.drop 1 raw) <;> rfl
      refine x_then (hK17 _ _ ?_)
      clear hK17 K17
      refine c_seq (fun K18 hK18 => ?_)
      refine c_seq (fun K19 hK19 => ?_)
      cases hp : prs (raw.drop 1)
      · skip
        rw [hp] at hTc hcv
        obtain ⟨er, bd, her, rfl⟩ := hTc
        refine c_reg ?_ -- region 14 valm.go:37
        refine wl (ro_fieldAddr (k := 2) rfl fo_113_2) ?_
        refine wl (ro_loadB rfl sc_26 (h5) (rfl)) ?_
        refine wl (ro_cmp (r := true) rfl rfl (congrArg some (by simpa using her))) ?_
        refine wl_nil (x_then (hK19 _ _ ?_))
        clear hK19 K19
        refine wc_condT rfl ?_
        refine c_seq (fun K20 hK20 => ?_)
        refine c_reg ?_ -- region 15 valm.go:38
        refine wl_call rfl en_116 (Err116) ?_
        rintro _ u4 ⟨rfl, G4⟩
        replace hM := hM.far G4 (fun h => h)
        replace hF := hF.transG G4 (by intro k hk h; simp only [one, none', rng] at h ⊢ <;> omega)
        replace hV := G4.blkF hV (by intro h; simp only [one, none', rng] at h <;> omega)
        replace h6 := G4.blkF h6 (by intro h; simp only [one, none', rng] at h <;> omega)
        replace hE := G4.blkF hE (by intro h; simp only [one, none', rng] at h <;> omega)
        refine wl_puta rfl rfl ((vlc_cells _)) sz_104 (rfl) h6 ((by simp)) (rfl) (fun w5 h6 F5 => ?_)
        replace hF := hF.thenDrew.thenO F5 (by first | exact .inr (by omega) | exact .inl rfl | exact .inl (by assumption))
        replace hV := F5.blkO hV (by omega)
        replace hE := F5.blkO hE (by omega)
        replace hM := hM.far F5 (fun h ↦ absurd (show fb = b6 from h) (by omega))
        refine wl (ro_assign rfl) ?_
        refine wl_nil (x_then (hK20 _ _ ?_))
        clear hK20 K20
        refine c_ret (x_thenR ?_)
        refine bq_ret (res2 Tryz.results124 (rv_c rfl ag_104 (h6) rfl) (rv_t rfl)) ?_
        refine ⟨?_, ⟨hfe, hM, _, _, hE⟩, hF⟩
        rw [hcv]
        rfl
      · skip
        rename_i n
        rw [hp] at hTc hcv
        obtain ⟨qb, rfl, hqb, hQ⟩ := hTc
        have hQ2 := F5.blkO hQ (hQ.ne_type h50 (by decide))
        have hD := prs_ok hp
        refine c_reg ?_ -- region 14 valm.go:37
        refine wl (ro_fieldAddr (k := 2) rfl fo_113_2) ?_
        refine wl (ro_loadB rfl sc_26 (h5) (rfl)) ?_
        refine wl (ro_cmp (r := false) rfl rfl rfl) ?_
        refine wl_nil (x_then (hK19 _ _ ?_))
        clear hK19 K19
        refine wc_condF rfl ?_
        refine c_skip (x_then (hK18 _ _ ?_))
        clear hK18 K18
        refine forget [(2, _), (6, _), (9, _)] ⟨rfl, rfl, rfl, trivial⟩ (fun e => ?_)
        refine c_seq (fun K21 hK21 => ?_)
        refine c_reg ?_ -- region 16 valm.go:40
        refine wl (ro_loadAggB rfl ag_113 (h5) (rfl) (rfl)) ?_
        refine wl (ro_move rfl) ?_
        refine wl_call rfl en_149 (Eval149 hQ2 hV hel hLe hD) ?_
        rintro _ u4 ⟨rfl, G4⟩
        replace hM := hM.far G4 (fun h => h)
        replace hF := hF.transG G4 (by intro k hk h; simp only [one, none', rng] at h ⊢ <;> omega)
        replace hV := G4.blkF hV (by intro h; simp only [one, none', rng] at h <;> omega)
        replace h6 := G4.blkF h6 (by intro h; simp only [one, none', rng] at h <;> omega)
        replace hE := G4.blkF hE (by intro h; simp only [one, none', rng] at h <;> omega)
        refine wl_puta rfl rfl ((vlc_cells _)) sz_104 (rfl) h6 ((by simp)) (rfl) (fun w6 h6 F6 => ?_)
        replace hF := hF.thenDrew.thenO F6 (by first | exact .inr (by omega) | exact .inl rfl | exact .inl (by assumption))
        replace hV := F6.blkO hV (by omega)
        replace hE := F6.blkO hE (by omega)
        replace hM := hM.far F6 (fun h ↦ absurd (show fb = b6 from h) (by omega))
        refine wl (ro_assign rfl) ?_
        refine wl_nil (x_then (hK21 _ _ ?_))
        clear hK21 K21
        refine c_ret ?_
        refine bq_ret (res2 Tryz.results124 (rv_c rfl ag_104 (h6) rfl) (rv_t rfl)) ?_
        refine ⟨?_, ⟨hfe, hM, _, _, hE⟩, hF⟩
        rw [hcv]
        rfl

set_option maxHeartbeats 4000000 in
theorem ReadsM146 {w : World} {lo hi ve fb : Nat} {raw : List UInt8} (h : MEv w ve fb) (hb : lo ≤ fb ∧ ve < hi) (hr : raw.length ≤ 40) :
    Ret Tryz.prog 146 [ptr ve, S raw] w (fun v w' => v = .tuple #[u32c (rdsV raw), icv 0] ∧ MEv w' ve fb ∧ Fram (rng lo hi) w w') := by
  have hF : Fram (rng lo hi) w w := Fram.refl _ _
  obtain ⟨hfe, hM, ca, cb, hE⟩ := h
  have hm1 : rng lo hi ve := ⟨by omega, by omega⟩
  refine ret_of Tryz.func146 rfl Tryz.ntmps146 rfl ?_
  refine c_seq (fun K1 hK1 => ?_)
  refine c_reg ?_ -- region 0 valm.go:43
  refine wl (ro_assign rfl) ?_
  refine wl (ro_assign rfl) ?_
  refine wl_nil (x_then (hK1 _ _ ?_))
  clear hK1 K1
  refine forget [(0, _), (1, _)] ⟨rfl, rfl, trivial⟩ (fun e => ?_)
  refine c_seq (fun K2 hK2 => ?_)
  refine c_reg ?_ -- region 1 valm.go:44
  refine wl (ro_move rfl) ?_
  refine wl (ro_nilCheck rfl) ?_
  refine wl (ro_fieldAddr (k := 2) rfl fo_155_2) ?_
  refine wl (ro_loadB rfl sc_3 (by assumption) rfl) ?_
  refine wl (ro_arithW rfl rfl rfl) ?_
  refine wl (ro_nilCheck rfl) ?_
  refine wl (ro_fieldAddr (k := 2) rfl fo_155_2) ?_
  refine wl_put rfl rfl rfl sz_3 hE ((by simp)) ((show _ = [ptr fb, icv ca, icv (IntKind.i64.wrap (cb + 1))] from rfl)) (fun w1 hE F1 => ?_)
  replace hF := hF.thenDrew.thenO F1 (by first | exact .inr (by omega) | exact .inl rfl | exact .inl (by assumption))
  replace hM := hM.far F1 (fun h ↦ absurd (show fb = ve from h) (by omega))
  refine wl_nil (x_then (hK2 _ _ ?_))
  clear hK2 K2
  refine c_seq (fun K3 hK3 => ?_)
  refine c_seq (fun K4 hK4 => ?_)
  refine c_reg ?_ -- region 2 valm.go:45
  refine wl (ro_move rfl) ?_
  refine wl (ro_lenS rfl st_9) ?_
  refine wl (ro_cmp (r := false) rfl rfl (congrArg some (decide_eq_false (by show ¬ ((raw.length : Nat) : Int) > 40; omega)))) ?_
  refine wl_nil (x_then (hK4 _ _ ?_))
  clear hK4 K4
  refine wc_condF rfl ?_
  refine c_skip (x_then (hK3 _ _ ?_))
  clear hK3 K3
  refine c_seq (fun K5 hK5 => ?_)
  refine c_seq (fun K6 hK6 => ?_)
  have hraw : raw = [] ∨ (∃ x, raw[0]? = some x ∧ x.toNat ≠ 61) ∨ raw[0]? = some 61 := raw61 raw
  rcases hraw with hq | ⟨x, hq, hx⟩ | hq
  · skip
    refine c_reg ?_ -- region 4 valm.go:48
    refine wl (ro_move rfl) ?_
    refine wl (ro_eqS (r := true) rfl rfl (congrArg some (by rw [hq]; rfl))) ?_
    refine wl (ro_move rfl) ?_
    refine wlg_no rfl ?_
    refine wlg_no rfl ?_
    refine wlg_no rfl ?_
    refine wl (ro_pick rfl rfl rfl) ?_
    refine wl_nil (x_then (hK6 _ _ ?_))
    clear hK6 K6
    refine wc_condT rfl ?_
    refine c_seq (fun K7 hK7 => ?_)
    refine c_reg ?_ -- region 5 valm.go:49
    refine wl (ro_assign rfl) ?_
    refine wl (ro_assign rfl) ?_
    refine wl_nil (x_then (hK7 _ _ ?_))
    clear hK7 K7
    refine c_ret (x_thenR ?_)
    refine bp_ret Tryz.results146 rfl ?_
    refine ⟨?_, ⟨hfe, hM, _, _, hE⟩, hF⟩
    rw [show rdsV raw = 0 by unfold rdsV; rw [if_neg (by rw [hq]; simp)]]
    rfl
  · skip
    refine c_reg ?_ -- region 4 valm.go:48
    refine wl (ro_move rfl) ?_
    refine wl (ro_eqS (r := false) rfl rfl (congrArg some (by cases raw with | nil => cases hq | cons x t => rfl))) ?_
    refine wl (ro_move rfl) ?_
    refine wlg_yes rfl (ro_move rfl) ?_
    refine wlg_yes rfl (ro_indexS rfl rfl st_9 rfl (hq)) ?_
    refine wlg_yes rfl (ro_cmp (r := true) rfl rfl (congrArg some ((bnec x.toNat 61).trans (decide_eq_true hx)))) ?_
    refine wl (ro_pick rfl rfl rfl) ?_
    refine wl_nil (x_then (hK6 _ _ ?_))
    clear hK6 K6
    refine wc_condT rfl ?_
    refine c_seq (fun K8 hK8 => ?_)
    refine c_reg ?_ -- region 5 valm.go:49
    refine wl (ro_assign rfl) ?_
    refine wl (ro_assign rfl) ?_
    refine wl_nil (x_then (hK8 _ _ ?_))
    clear hK8 K8
    refine c_ret (x_thenR ?_)
    refine bp_ret Tryz.results146 rfl ?_
    refine ⟨?_, ⟨hfe, hM, _, _, hE⟩, hF⟩
    rw [show rdsV raw = 0 by unfold rdsV; rw [if_neg (fun hh => hx (by rw [hq] at hh; cases hh; rfl))]]
    rfl
  · skip
    have hrl : 1 ≤ raw.length := (List.getElem?_eq_some_iff.1 hq).1
    refine c_reg ?_ -- region 4 valm.go:48
    refine wl (ro_move rfl) ?_
    refine wl (ro_eqS (r := false) rfl rfl (congrArg some (by cases raw with | nil => cases hq | cons x t => rfl))) ?_
    refine wl (ro_move rfl) ?_
    refine wlg_yes rfl (ro_move rfl) ?_
    refine wlg_yes rfl (ro_indexS rfl rfl st_9 rfl (hq)) ?_
    refine wlg_yes rfl (ro_cmp (r := false) rfl rfl rfl) ?_
    refine wl (ro_pick rfl rfl rfl) ?_
    refine wl_nil (x_then (hK6 _ _ ?_))
    clear hK6 K6
    refine wc_condF rfl ?_
    refine c_skip (x_then (hK5 _ _ ?_))
    clear hK5 K5
    refine forget [(0, _), (1, _)] ⟨rfl, rfl, trivial⟩ (fun e => ?_)
    refine c_seq (fun K9 hK9 => ?_)
    refine c_piF 8 6 7 [0, 1, 2, 3, 4, 5] [(7, true)] [(6, true)] (fun w' => Blk w'.heap ve [ptr fb, icv ca, icv (IntKind.i64.wrap (cb + 1))] 155) mixed (by kernel_rfl) rfl rfl (by kernel_rfl) (po_then (po_bp)) (hE) ?_ -- region 6 valm.go:51
    refine wf_ro rfl (fun w hS => ro_move rfl) ?_
    refine wf_ro rfl (fun w hS => ro_nilCheck rfl) ?_
    refine wf_ro rfl (fun w hS => ro_fieldAddr (k := 0) rfl fo_155_0) ?_
    refine wf_ro rfl (fun w hS => ro_loadB rfl sc_96 (hS) (rfl)) ?_
    refine wf_ro rfl (fun w hS => ro_move rfl) ?_
    refine wf_ro rfl (fun w hS => ro_sliceSL (l := 1) rfl rfl st_9 rfl hrl) ?_
    refine wf_cn (R := (fun v u => TrV w1 u v (prs (raw.drop 1)) ∧ MFm u fb ∧ Fram (one fb) w1 u)) (G := one fb) rfl rfl rfl (by decide) (by decide) (by decide) rfl (fun _ => rfl) en_102 ze_113 sz_113 rfl ((fun wA1 F1 => (Parse102 (s := raw.drop 1) (hM.far (w := w1) ((Fram.drew none' w1 _).trans F1) (fun h => h)) (by rw [List.length_drop]; omega)).mono (fun v u hh => ⟨⟨hh.1.old F1.size, hh.2.1, (((Fram.drew none' w1 _).trans F1).mono (fun _ _ h => h.elim)).trans hh.2.2⟩, hh.2.2⟩))) ((fun v u u' hh F => ⟨hh.1.framN F, hh.2.1.far F (fun h => h), hh.2.2.thenN F⟩)) ((fun b hg => by have h1 : b = fb := hg; have h2 := hE.lt; show b < w1.heap.size; omega)) ((fun v u hh => hh.1.form)) ((fun u F => F.blkN (w := { w1 with drawn := w1.drawn + 1 }) hE)) ((fun v u hh => hh.2.2.blkF hE (fun hg => absurd (show ve = fb from hg) (by omega)))) ((fun v u hh => hh.2.2.size)) ?_
    intro cs uA bt uB hR hcl hbw h50 h5 F5
    obtain ⟨hTr, hM1, G1⟩ := hR
    have hTc := hTr.cells
    have hbw' : w1.heap.size ≤ bt := hbw
    have hfl := hE.lt
    have hsz0 := hF.size
    replace hM := hM1.far F5 (fun h => absurd (show fb = bt from h) (by omega))
    replace hF := hF.transG G1 (by intro k hk h; simp only [one, none', rng] at h ⊢ <;> omega)
    replace hE := G1.blkF hE (by intro h; simp only [one, none', rng] at h <;> omega)
    replace hF := hF.trans' F5 (fun k hk he => absurd (show k = bt from he) (by have := hF.size; omega))
    replace hE := F5.blkO hE (by omega)
    have hcv : rdsV raw = (match prs (raw.drop 1) with | none => 0 | some n => rdT n) := by unfold rdsV; rw [if_pos hq]; cases prs (List.drop 1 raw) <;> rfl
    refine x_then (hK9 _ _ ?_)
    clear hK9 K9
    refine c_seq (fun K10 hK10 => ?_)
    refine c_seq (fun K11 hK11 => ?_)
    cases hp : prs (raw.drop 1)
    · skip
      rw [hp] at hTc hcv
      obtain ⟨er, bd, her, rfl⟩ := hTc
      refine c_reg ?_ -- region 7 valm.go:52
      refine wl (ro_fieldAddr (k := 2) rfl fo_113_2) ?_
      refine wl (ro_loadB rfl sc_26 (h5) (rfl)) ?_
      refine wl (ro_cmp (r := true) rfl rfl (congrArg some (by simpa using her))) ?_
      refine wl_nil (x_then (hK11 _ _ ?_))
      clear hK11 K11
      refine wc_condT rfl ?_
      refine c_seq (fun K12 hK12 => ?_)
      refine c_reg ?_ -- region 8 valm.go:53
      refine wl (ro_assign rfl) ?_
      refine wl (ro_assign rfl) ?_
      refine wl_nil (x_then (hK12 _ _ ?_))
      clear hK12 K12
      refine c_ret (x_thenR ?_)
      refine bp_ret Tryz.results146 rfl ?_
      refine ⟨?_, ⟨hfe, hM, _, _, hE⟩, hF⟩
      rw [hcv]
      rfl
    · skip
      rename_i n
      rw [hp] at hTc hcv
      obtain ⟨qb, rfl, hqb, hQ⟩ := hTc
      have hQ2 := F5.blkO hQ (hQ.ne_type h50 (by decide))
      have hD := prs_ok hp
      refine c_reg ?_ -- region 7 valm.go:52
      refine wl (ro_fieldAddr (k := 2) rfl fo_113_2) ?_
      refine wl (ro_loadB rfl sc_26 (h5) (rfl)) ?_
      refine wl (ro_cmp (r := false) rfl rfl rfl) ?_
      refine wl_nil (x_then (hK11 _ _ ?_))
      clear hK11 K11
      refine wc_condF rfl ?_
      refine c_skip (x_then (hK10 _ _ ?_))
      clear hK10 K10
      refine forget [(6, _)] ⟨rfl, trivial⟩ (fun e => ?_)
      refine c_seq (fun K13 hK13 => ?_)
      refine c_reg ?_ -- region 9 valm.go:55
      refine wl (ro_loadAggB rfl ag_113 (h5) (rfl) (rfl)) ?_
      refine wl_call rfl en_190 (Reads190 hQ2 hD.2.1) ?_
      rintro _ u4 ⟨rfl, -, G4⟩
      replace hM := hM.far G4 (fun h => h)
      replace hF := hF.transG G4 (by intro k hk h; simp only [one, none', rng] at h ⊢ <;> omega)
      replace hE := G4.blkF hE (by intro h; simp only [one, none', rng] at h <;> omega)
      refine wl (ro_assign rfl) ?_
      refine wl (ro_assign rfl) ?_
      refine wl_nil (x_then (hK13 _ _ ?_))
      clear hK13 K13
      refine c_ret ?_
      refine bp_ret Tryz.results146 rfl ?_
      refine ⟨?_, ⟨hfe, hM, _, _, hE⟩, hF⟩
      rw [hcv]
theorem New86 {w : World} : Ret Tryz.prog 86 [] w (fun v w' => ∃ ve fb, v = ptr ve ∧ w.heap.size ≤ fb ∧ MEv w' ve fb ∧ ve < w'.heap.size ∧ Fram none' w w') := by
  have hF : Fram none' w w := Fram.refl _ _
  refine ret_of Tryz.func86 rfl Tryz.ntmps86 rfl ?_
  refine c_seq (fun K1 hK1 => ?_)
  refine c_reg ?_ -- region 0 valm.go:15
  refine wl (ro_assign rfl) ?_
  refine wl_nil (x_then (hK1 _ _ ?_))
  clear hK1 K1
  refine forget [] trivial (fun e => ?_)
  refine c_seq (fun K2 hK2 => ?_)
  refine c_reg ?_ -- region 1 valm.go:16
  refine wl_call rfl en_56 (New56) ?_
  rintro _ u1 ⟨fb, rfl, hfb, hM, G1⟩
  replace hF := hF.trans G1
  have hfl : fb < u1.heap.size := by obtain ⟨a, b, l, h⟩ := hM; exact h.lt
  refine wl (ro_assign rfl) ?_
  refine wl_nil (x_then (hK2 _ _ ?_))
  clear hK2 K2
  refine forget [(1, _)] ⟨rfl, trivial⟩ (fun e => ?_)
  refine c_seq (fun K3 hK3 => ?_)
  refine c_reg ?_ -- region 2 valm.go:17
  refine wl (ro_move rfl) ?_
  refine wl (ro_build rfl bld_155_0) ?_
  refine wl_box rfl rfl (fun ve w1 hbve hE F1 => ?_)
  have hbsve := Nat.le_trans hF.size hbve
  replace hF := hF.thenDrew.thenN F1
  replace hM := hM.far F1 (fun h ↦ h)
  refine wl (ro_assign rfl) ?_
  refine wl_nil (x_then (hK3 _ _ ?_))
  clear hK3 K3
  refine c_ret ?_
  refine bp_ret Tryz.results86 rfl ?_
  exact ⟨ve, fb, rfl, hfb, ⟨by omega, hM, _, _, hE⟩, hE.lt, hF⟩

end Go.Proofs.Qxb6500570aGreat
