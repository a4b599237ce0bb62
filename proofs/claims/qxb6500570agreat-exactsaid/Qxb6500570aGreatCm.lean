import Derived.Test.Qxb6500570aGreatCl
/- The model's reader: names. -/
namespace Go.Proofs.Qxb6500570aGreat
set_option linter.unusedVariables false
set_option linter.unusedSimpArgs false

theorem MR.at1 {w w' : World} {pb n0 cb : Nat} {s : List UInt8} {p : Nat} {ar : List Nd} {bad : Bool} {l : List Value} (h : MR w pb n0 s p ar bad) (hC : Blk w.heap cb l 141) (F : Fram (one cb) w w') : MR w' pb n0 s p ar bad := by
  obtain ⟨V, er, at', M, hb⟩ := h
  have hne : pb ≠ cb := fun e => by
    subst e
    have h := M.blk.symm.trans hC
    injection h with h
    injection h with _ h
    exact absurd h (by decide)
  exact ⟨V, er, at', ⟨F.blkO M.blk hne, M.own.fram F (fun b hb he => M.own.neblk hC (by decide) b hb he), M.lo, M.vlo, M.l24, M.pl, M.sl40⟩, hb⟩
theorem lk1 {s : List UInt8} {p : Nat} (hb : (lkc s p false).2 = true) : (hdT (tsA s p)).k = 1 := by
  rcases lk_cs s p with ⟨h1, h2⟩ | ⟨h1, h2, h3⟩ | ⟨c', h1, h2, -⟩
  · exact h2
  · rw [h1] at hb; cases hb
  · rw [h1] at hb; cases hb
theorem refc_cells (r : Rf) : ∀ u ∈ refc r, u.oneCell' = true := by
  intro u hu
  simp only [refc, List.mem_cons, List.not_mem_nil, or_false] at hu
  rcases hu with rfl | rfl | rfl | rfl <;> rfl
theorem wordT_ref {W : List UInt8} {r : Rf} (h : refOf W = some r) : wordT W = ⟨4, 0, 0, r⟩ := by unfold wordT; rw [h]
theorem wordT_fn {W : List UInt8} (h : refOf W = none) (h1 : W ≠ wTRUE) (h2 : W ≠ wFALSE) : wordT W = if fnOf W = 0 then ⟨3, 0, 5, zR⟩ else ⟨5, 0, fnOf W, zR⟩ := by
  unfold wordT
  rw [h]
  simp only [if_neg h1, if_neg h2]

set_option maxHeartbeats 8000000 in
theorem name228 {n : Nat} (hE : ExC n) {w : World} {pb n0 : Nat} {s : List UInt8} {p : Nat} {ar : List Nd} {c0 : UInt8} {rg : Bool} (h : MR w pb n0 s p ar false) (hs0 : s[p]? = some c0) (hd0 : dg c0 = false) (hw0 : wy c0 = true) (hn : s.length - p ≤ n + 1) :
    Ret Tryz.prog 228 [ptr pb, .bool rg] w (fun v w' => GO (AtF rg) (AtO rg) w' pb n0 s p ar false v ∧ Fram (fre n0) w w') := by
  have hF : Fram (fre n0) w w := Fram.refl _ _
  obtain ⟨V, er, at', M, hbb⟩ := h
  have hB := M.blk
  have hn0 := M.lo
  have hpbl : pb < w.heap.size := M.blk.lt
  have hm : fre n0 pb := hn0
  have hs40 := M.sl40
  have hpl := (List.getElem?_eq_some_iff.1 hs0).1
  have hc32 : c0 ≠ 32 := by rintro rfl; revert hw0; decide
  have hts : tsA s p = wordT ((s.drop p).takeWhile wy) :: tsA s (p + ((s.drop p).takeWhile wy).length) := by rw [tsA_cons hs0 hc32, tkw_wy hs0 hd0 hw0]
  have hWp : 1 ≤ ((s.drop p).takeWhile wy).length := by rw [drop_get hs0]; exact tw_pos hw0
  have hWl : ((s.drop p).takeWhile wy).length ≤ s.length - p := by rw [← List.length_drop]; exact tw_le _ _
  generalize hWW : (s.drop p).takeWhile wy = W at hts hWp hWl
  have hp1 : p + W.length ≤ s.length := by omega
  have hlg := lk_ge s (p + W.length)
  refine ret_of Tryz.func228 rfl Tryz.ntmps228 rfl ?_
  refine c_seq (fun K1 hK1 => ?_)
  refine c_reg ?_ -- region 0 formm.go:160
  refine wl (ro_assign rfl) ?_
  refine wl_nil (x_then (hK1 _ _ ?_))
  clear hK1 K1
  refine forget [(0, _), (1, _)] ⟨rfl, rfl, trivial⟩ (fun e => ?_)
  refine c_seq (fun K2 hK2 => ?_)
  refine c_reg ?_ -- region 1 formm.go:161
  refine wl (ro_move rfl) ?_
  refine wl (ro_nilCheck rfl) ?_
  refine wl (ro_fieldAddr (k := 1) rfl fo_168_1) ?_
  refine wl (ro_loadB rfl sc_3 (hB) (rfl)) ?_
  refine wl (ro_assign rfl) ?_
  refine wl_nil (x_then (hK2 _ _ ?_))
  clear hK2 K2
  refine forget [(0, _), (1, _), (5, _)] ⟨rfl, rfl, rfl, trivial⟩ (fun e => ?_)
  refine c_seq (fun K3 hK3 => ?_)
  refine c_reg ?_ -- region 2 formm.go:162
  refine wl (ro_move rfl) ?_
  refine wl_call rfl en_229 (wordM ⟨V, er, at', M, hbb⟩) ?_
  rintro _ u1 ⟨rfl, M1, G1⟩
  replace hF := hF.transG G1 (by intro k hk h; simp only [one, none', fre] at h ⊢ <;> omega)
  rw [hWW] at M1 ⊢
  refine wl (ro_assign rfl) ?_
  refine wl_nil (x_then (hK3 _ _ ?_))
  clear hK3 K3
  refine c_seq (fun K4 hK4 => ?_)
  refine c_seq (fun K5 hK5 => ?_)
  refine c_reg ?_ -- region 3 formm.go:163
  refine wl (ro_move rfl) ?_
  refine wl (ro_eqS (l := W) (m := wTRUE) (r := decide (W = wTRUE)) rfl rfl (congrArg some (by by_cases h : W = wTRUE <;> simp [h]))) ?_
  refine wl_nil (x_then (hK5 _ _ ?_))
  clear hK5 K5
  refine wc_cond rfl (fun hc21 => ?_) (fun hc21 => ?_)
  · try simp only [decide_eq_true_eq, decide_eq_false_iff_not, Bool.not_eq_true', Bool.not_eq_false', Bool.not_eq_eq_eq_not, Bool.not_true, Bool.not_false, beq_iff_eq, bne_iff_ne, ne_eq, beq_eq_false_iff_ne, bne_eq_false_iff_eq, gt_iff_lt, ge_iff_le, Int.not_lt, Int.not_le] at hc21
    refine c_seq (fun K6 hK6 => ?_)
    refine c_reg ?_ -- region 4 formm.go:164
    refine wl (ro_move rfl) ?_
    refine wl (ro_build rfl bld_143_0_2_3_4) ?_
    refine wl_call rfl en_175 (add175 (x := nLeaf 2 1) M1) ?_
    rintro _ u2 ⟨rfl, M2, G2⟩
    replace hF := hF.transG G2 (by intro k hk h; simp only [one, none', fre] at h ⊢ <;> omega)
    refine wl (ro_assign rfl) ?_
    refine wl_nil (x_then (hK6 _ _ ?_))
    clear hK6 K6
    refine c_ret (x_thenR ?_)
    refine bp_ret Tryz.results228 rfl ?_
    refine ⟨?_, hF⟩
    have hts' : tsA s p = ⟨2, 2, 1, zR⟩ :: tsA s (p + W.length) := by rw [hts]; congr 1; rw [hc21]; rfl
    by_cases h24 : ar.length < 24
    · rw [addX_lt h24] at M2 ⊢
      exact .inr ⟨_, _, rfl, by rw [rt_app]; rfl, M2, by omega, by simp, by rw [hts']; exact at_leafO (t := ⟨2, 2, 1, zR⟩) rfl h24⟩
    · rw [addX_ge h24] at M2 ⊢
      exact .inl ⟨_, _, _, rfl, M2, .inr (by rw [hts']; exact at_leafF (t := ⟨2, 2, 1, zR⟩) rfl h24)⟩
  · try simp only [decide_eq_true_eq, decide_eq_false_iff_not, Bool.not_eq_true', Bool.not_eq_false', Bool.not_eq_eq_eq_not, Bool.not_true, Bool.not_false, beq_iff_eq, bne_iff_ne, ne_eq, beq_eq_false_iff_ne, bne_eq_false_iff_eq, gt_iff_lt, ge_iff_le, Int.not_lt, Int.not_le] at hc21
    refine c_skip (x_then (hK4 _ _ ?_))
    clear hK4 K4
    refine c_seq (fun K7 hK7 => ?_)
    refine c_seq (fun K8 hK8 => ?_)
    refine c_reg ?_ -- region 5 formm.go:166
    refine wl (ro_move rfl) ?_
    refine wl (ro_eqS (l := W) (m := wFALSE) (r := decide (W = wFALSE)) rfl rfl (congrArg some (by by_cases h : W = wFALSE <;> simp [h]))) ?_
    refine wl_nil (x_then (hK8 _ _ ?_))
    clear hK8 K8
    refine wc_cond rfl (fun hc26 => ?_) (fun hc26 => ?_)
    · try simp only [decide_eq_true_eq, decide_eq_false_iff_not, Bool.not_eq_true', Bool.not_eq_false', Bool.not_eq_eq_eq_not, Bool.not_true, Bool.not_false, beq_iff_eq, bne_iff_ne, ne_eq, beq_eq_false_iff_ne, bne_eq_false_iff_eq, gt_iff_lt, ge_iff_le, Int.not_lt, Int.not_le] at hc26
      refine c_seq (fun K9 hK9 => ?_)
      refine c_reg ?_ -- region 6 formm.go:167
      refine wl (ro_move rfl) ?_
      refine wl (ro_build rfl bld_143_0_2_3) ?_
      refine wl_call rfl en_175 (add175 (x := nLeaf 2 0) M1) ?_
      rintro _ u2 ⟨rfl, M2, G2⟩
      replace hF := hF.transG G2 (by intro k hk h; simp only [one, none', fre] at h ⊢ <;> omega)
      refine wl (ro_assign rfl) ?_
      refine wl_nil (x_then (hK9 _ _ ?_))
      clear hK9 K9
      refine c_ret (x_thenR ?_)
      refine bp_ret Tryz.results228 rfl ?_
      refine ⟨?_, hF⟩
      have hts' : tsA s p = ⟨2, 2, 0, zR⟩ :: tsA s (p + W.length) := by rw [hts]; congr 1; rw [hc26]; rfl
      by_cases h24 : ar.length < 24
      · rw [addX_lt h24] at M2 ⊢
        exact .inr ⟨_, _, rfl, by rw [rt_app]; rfl, M2, by omega, by simp, by rw [hts']; exact at_leafO (t := ⟨2, 2, 0, zR⟩) rfl h24⟩
      · rw [addX_ge h24] at M2 ⊢
        exact .inl ⟨_, _, _, rfl, M2, .inr (by rw [hts']; exact at_leafF (t := ⟨2, 2, 0, zR⟩) rfl h24)⟩
    · try simp only [decide_eq_true_eq, decide_eq_false_iff_not, Bool.not_eq_true', Bool.not_eq_false', Bool.not_eq_eq_eq_not, Bool.not_true, Bool.not_false, beq_iff_eq, bne_iff_ne, ne_eq, beq_eq_false_iff_ne, bne_eq_false_iff_eq, gt_iff_lt, ge_iff_le, Int.not_lt, Int.not_le] at hc26
      refine c_skip (x_then (hK7 _ _ ?_))
      clear hK7 K7
      refine forget [(0, _), (1, _), (5, _), (6, _)] ⟨rfl, rfl, rfl, rfl, trivial⟩ (fun e => ?_)
      refine c_seq (fun K10 hK10 => ?_)
      refine c_reg ?_ -- region 7 formm.go:169
      refine wl (ro_move rfl) ?_
      refine wl_call rfl en_230 (RefOf230 (by omega)) ?_
      rintro _ u3 ⟨rfl, G3⟩
      replace M1 := MR.far M1 G3
      replace hF := hF.transG G3 (by intro k hk h; simp only [one, none', fre] at h ⊢ <;> omega)
      refine wl (ro_move rfl) ?_
      refine wl (ro_extract rfl rfl) ?_
      refine wl (ro_extract rfl rfl) ?_
      refine wl_new (ze_141) (fun cb w1 hbcb hC F1 => ?_)
      have hbscb := Nat.le_trans hF.size hbcb
      replace hF := hF.thenDrew.thenN F1
      have hC0 := hC
      replace M1 := MR.far M1 F1
      refine wl_puta rfl rfl ((refc_cells _)) sz_141 (rfl) hC ((by simp)) ((show _ = refc ((refOf W).getD zR) from rfl)) (fun w2 hC F2 => ?_)
      replace hF := hF.thenDrew.thenO F2 (by first | exact .inr (by omega) | exact .inl rfl | exact .inl (by assumption))
      replace M1 := MR.at1 M1 hC0 F2
      refine wl (ro_assign rfl) ?_
      refine wl_nil (x_then (hK10 _ _ ?_))
      clear hK10 K10
      refine c_seq (fun K11 hK11 => ?_)
      refine c_seq (fun K12 hK12 => ?_)
      refine c_reg ?_ -- region 8 formm.go:170
      refine wl (ro_move rfl) ?_
      refine wl (ro_not rfl) ?_
      refine wl_nil (x_then (hK12 _ _ ?_))
      clear hK12 K12
      refine wc_cond rfl (fun hc36 => ?_) (fun hc36 => ?_)
      · try simp only [decide_eq_true_eq, decide_eq_false_iff_not, Bool.not_eq_true', Bool.not_eq_false', Bool.not_eq_eq_eq_not, Bool.not_true, Bool.not_false, beq_iff_eq, bne_iff_ne, ne_eq, beq_eq_false_iff_ne, bne_eq_false_iff_eq, gt_iff_lt, ge_iff_le, Int.not_lt, Int.not_le] at hc36
        have hno : refOf W = none := by simpa using hc36
        have hwt := wordT_fn hno hc21 hc26
        refine c_seq (fun K13 hK13 => ?_)
        refine c_reg ?_ -- region 9 formm.go:171
        refine wl (ro_move rfl) ?_
        refine wl_call rfl en_231 (funcOf231) ?_
        rintro _ _ ⟨rfl, rfl⟩
        refine wl (ro_assign rfl) ?_
        refine wl_nil (x_then (hK13 _ _ ?_))
        clear hK13 K13
        refine c_seq (fun K14 hK14 => ?_)
        refine c_seq (fun K15 hK15 => ?_)
        have hf8 : fnOf W = 0 ∨ fnOf W ≠ 0 := by omega
        rcases hf8 with q | q
        · skip
          refine c_reg ?_ -- region 10 formm.go:172
          refine wl (ro_move rfl) ?_
          refine wl (ro_cmp (r := true) rfl rfl (congrArg some (by rw [q]; rfl))) ?_
          refine wl (ro_move rfl) ?_
          refine wlg_no rfl ?_
          refine wlg_no rfl ?_
          refine wlg_no rfl ?_
          refine wl (ro_pick rfl rfl rfl) ?_
          refine wl_nil (x_then (hK15 _ _ ?_))
          clear hK15 K15
          refine wc_condT rfl ?_
          refine c_seq (fun K16 hK16 => ?_)
          refine c_reg ?_ -- region 11 formm.go:173
          refine wl (ro_move rfl) ?_
          refine wl (ro_move rfl) ?_
          refine wl_call rfl en_133 (failM (x := 5) (by decide) M1) ?_
          rintro _ u5 ⟨rfl, M5, G5⟩
          replace hF := hF.transG G5 (by intro k hk h; simp only [one, none', fre] at h ⊢ <;> omega)
          replace hC := G5.blkF hC (by intro h; simp only [one, none', fre] at h <;> omega)
          refine wl (ro_assign rfl) ?_
          refine wl_nil (x_then (hK16 _ _ ?_))
          clear hK16 K16
          refine c_ret (x_thenR (x_thenR ?_))
          refine bp_ret Tryz.results228 rfl ?_
          refine ⟨.inl ⟨_, _, _, rfl, M5, .inr ?_⟩, hF⟩
          rw [hts, hwt, if_pos q]
          exact at_bad (show (3 : Nat) ≠ 2 by decide) (show (3 : Nat) ≠ 4 by decide) (show (3 : Nat) ≠ 5 by decide) (show (3 : Nat) ≠ 40 by decide) (fun h => absurd h.1 (show (3 : Nat) ≠ 6 by decide))
        · skip
          refine c_reg ?_ -- region 10 formm.go:172
          refine wl (ro_move rfl) ?_
          refine wl (ro_cmp (r := false) rfl rfl (congrArg some (by simp [q]))) ?_
          refine wl (ro_move rfl) ?_
          refine wlg_yes rfl (ro_move rfl) ?_
          refine wlg_call rfl rfl en_132 (lookM M1) ?_
          rintro _ u4 ⟨rfl, M4, G4⟩
          replace hF := hF.transG G4 (by intro k hk h; simp only [one, none', fre] at h ⊢ <;> omega)
          replace hC := G4.blkF hC (by intro h; simp only [one, none', fre] at h <;> omega)
          generalize hcc : (lkc s (p + W.length) false).1 = c
          refine wlg_yes rfl (ro_cmp (r := decide (c.toNat ≠ 40)) rfl rfl (congrArg some (bnec c.toNat 40))) ?_
          refine wl (ro_pick rfl rfl rfl) ?_
          refine wl_nil (x_then (hK15 _ _ ?_))
          clear hK15 K15
          refine wc_cond rfl (fun hc45 => ?_) (fun hc45 => ?_)
          · try simp only [decide_eq_true_eq, decide_eq_false_iff_not, Bool.not_eq_true', Bool.not_eq_false', Bool.not_eq_eq_eq_not, Bool.not_true, Bool.not_false, beq_iff_eq, bne_iff_ne, ne_eq, beq_eq_false_iff_ne, bne_eq_false_iff_eq, gt_iff_lt, ge_iff_le, Int.not_lt, Int.not_le] at hc45
            refine c_seq (fun K17 hK17 => ?_)
            refine c_reg ?_ -- region 11 formm.go:173
            refine wl (ro_move rfl) ?_
            refine wl (ro_move rfl) ?_
            refine wl_call rfl en_133 (failM (x := 5) (by decide) M4) ?_
            rintro _ u5 ⟨rfl, M5, G5⟩
            replace hF := hF.transG G5 (by intro k hk h; simp only [one, none', fre] at h ⊢ <;> omega)
            replace hC := G5.blkF hC (by intro h; simp only [one, none', fre] at h <;> omega)
            refine wl (ro_assign rfl) ?_
            refine wl_nil (x_then (hK17 _ _ ?_))
            clear hK17 K17
            refine c_ret (x_thenR (x_thenR ?_))
            refine bp_ret Tryz.results228 rfl ?_
            refine ⟨.inl ⟨_, _, _, rfl, M5, .inr ?_⟩, hF⟩
            rw [hts, hwt, if_neg q]
            refine ca_startF rfl (.inl ?_)
            cases hb5 : (lkc s (p + W.length) false).2 with
            | true => rw [lk1 hb5]; decide
            | false => exact fun hh => hc45 (by rw [(lk_kind hcc hb5).2.2.1.1 hh]; rfl)
          · try simp only [decide_eq_true_eq, decide_eq_false_iff_not, Bool.not_eq_true', Bool.not_eq_false', Bool.not_eq_eq_eq_not, Bool.not_true, Bool.not_false, beq_iff_eq, bne_iff_ne, ne_eq, beq_eq_false_iff_ne, bne_eq_false_iff_eq, gt_iff_lt, ge_iff_le, Int.not_lt, Int.not_le] at hc45
            have hc40 : c = 40 := (u8_eq (n := 40) (by omega)).2 (Decidable.not_not.1 hc45)
            rw [hc40] at hcc
            obtain ⟨-, hb6, hs6, -, hts6⟩ := lk_sees hcc (by decide)
            rw [hb6] at M4
            have hfl := fnOf_le W
            refine c_skip (x_then (hK14 _ _ ?_))
            clear hK14 K14
            refine forget [(0, _), (5, _), (9, _)] ⟨rfl, rfl, rfl, trivial⟩ (fun e => ?_)
            refine c_seq (fun K18 hK18 => ?_)
            refine c_reg ?_ -- region 12 formm.go:175
            refine wl (ro_move rfl) ?_
            refine wl (ro_move rfl) ?_
            refine wl (ro_move rfl) ?_
            refine wl_call rfl en_232 (call232 hE M4 hs6 (by omega) (by omega) hfl) ?_
            rintro _ u5 ⟨hG, G5⟩
            replace hF := hF.transG G5 (by intro k hk h; simp only [one, none', fre] at h ⊢ <;> omega)
            refine wl (ro_assign rfl) ?_
            refine wl_nil (x_then (hK18 _ _ ?_))
            clear hK18 K18
            refine c_ret (x_thenR ?_)
            refine bp_ret Tryz.results228 rfl ?_
            refine ⟨?_, hF⟩
            rw [if_neg q] at hwt
            replace hts : tsA s p = ⟨5, 0, fnOf W, zR⟩ :: tsA s (lk s (p + W.length)) := by rw [hts, hwt, tsA_lk]
            rcases hG with ⟨p', ar', z, rfl, M', hf⟩ | ⟨p', ar', rfl, M', h1, h2, ho⟩
            · exact .inl ⟨_, _, _, rfl, M', .inr (by rw [hts]; exact hf rg)⟩
            · exact .inr ⟨_, _, rfl, rfl, M', by omega, h2, by rw [hts]; exact ho rg⟩
      · try simp only [decide_eq_true_eq, decide_eq_false_iff_not, Bool.not_eq_true', Bool.not_eq_false', Bool.not_eq_eq_eq_not, Bool.not_true, Bool.not_false, beq_iff_eq, bne_iff_ne, ne_eq, beq_eq_false_iff_ne, bne_eq_false_iff_eq, gt_iff_lt, ge_iff_le, Int.not_lt, Int.not_le] at hc36
        obtain ⟨r, hr⟩ : ∃ r, refOf W = some r := by
          cases h : refOf W with
          | none => rw [h] at hc36; cases hc36
          | some r => exact ⟨r, rfl⟩
        rw [hr] at hC
        have hwt := wordT_ref hr
        rw [hwt] at hts
        refine c_skip (x_then (hK11 _ _ ?_))
        clear hK11 K11
        refine c_seq (fun K19 hK19 => ?_)
        refine c_seq (fun K20 hK20 => ?_)
        refine c_reg ?_ -- region 13 formm.go:177
        refine wl (ro_move rfl) ?_
        refine wl_call rfl en_132 (lookM M1) ?_
        rintro _ u4 ⟨rfl, M4, G4⟩
        replace hF := hF.transG G4 (by intro k hk h; simp only [one, none', fre] at h ⊢ <;> omega)
        replace hC := G4.blkF hC (by intro h; simp only [one, none', fre] at h <;> omega)
        generalize hcc : (lkc s (p + W.length) false).1 = c
        refine wl (ro_cmp (r := decide (c.toNat ≠ 58)) rfl rfl (congrArg some (bnec c.toNat 58))) ?_
        refine wl_nil (x_then (hK20 _ _ ?_))
        clear hK20 K20
        refine wc_cond rfl (fun hc55 => ?_) (fun hc55 => ?_)
        · try simp only [decide_eq_true_eq, decide_eq_false_iff_not, Bool.not_eq_true', Bool.not_eq_false', Bool.not_eq_eq_eq_not, Bool.not_true, Bool.not_false, beq_iff_eq, bne_iff_ne, ne_eq, beq_eq_false_iff_ne, bne_eq_false_iff_eq, gt_iff_lt, ge_iff_le, Int.not_lt, Int.not_le] at hc55
          refine c_seq (fun K21 hK21 => ?_)
          refine c_reg ?_ -- region 14 formm.go:178
          refine wl (ro_move rfl) ?_
          refine wl (ro_loadAggB rfl ag_141 (hC) (rfl) rfl) ?_
          refine wl (ro_build rfl bld_143_0_2_3_5) ?_
          refine wl_call rfl en_175 (add175 (x := nRef r) M4) ?_
          rintro _ u5 ⟨rfl, M5, G5⟩
          replace hF := hF.transG G5 (by intro k hk h; simp only [one, none', fre] at h ⊢ <;> omega)
          refine wl (ro_assign rfl) ?_
          refine wl_nil (x_then (hK21 _ _ ?_))
          clear hK21 K21
          refine c_ret (x_thenR ?_)
          refine bp_ret Tryz.results228 rfl ?_
          refine ⟨?_, hF⟩
          cases hb5 : (lkc s (p + W.length) false).2 with
          | true =>
            rw [hb5] at M5
            exact .inl ⟨_, _, _, rfl, M5, .inr (by rw [hts]; exact at_refF rfl (.inl (lk1 hb5)))⟩
          | false =>
            have hkd := lk_kind hcc hb5
            have hn58 : (hdT (tsA s (p + W.length))).k ≠ 58 := fun hh => hc55 (by rw [hkd.2.2.2.1.1 hh]; rfl)
            rw [hb5] at M5
            by_cases h24 : ar.length < 24
            · rw [addX_lt h24] at M5 ⊢
              exact .inr ⟨_, _, rfl, by rw [rt_app]; rfl, M5, by omega, by simp, by rw [hts, tsA_lk]; exact at_refO (t := ⟨4, 0, 0, r⟩) rfl hkd.2.2.2.2 hn58 h24⟩
            · rw [addX_ge h24] at M5 ⊢
              exact .inl ⟨_, _, _, rfl, M5, .inr (by rw [hts]; exact at_refF (t := ⟨4, 0, 0, r⟩) rfl (.inr ⟨hn58, h24⟩))⟩
        · try simp only [decide_eq_true_eq, decide_eq_false_iff_not, Bool.not_eq_true', Bool.not_eq_false', Bool.not_eq_eq_eq_not, Bool.not_true, Bool.not_false, beq_iff_eq, bne_iff_ne, ne_eq, beq_eq_false_iff_ne, bne_eq_false_iff_eq, gt_iff_lt, ge_iff_le, Int.not_lt, Int.not_le] at hc55
          have hc58 : c = 58 := (u8_eq (n := 58) (by omega)).2 (Decidable.not_not.1 hc55)
          rw [hc58] at hcc
          obtain ⟨-, hb6, hs6, -, hts6⟩ := lk_sees hcc (by decide)
          rw [tkw_sgn hs6 rfl rfl] at hts6
          have hsl6 := (List.getElem?_eq_some_iff.1 hs6).1
          rw [hb6] at M4
          obtain ⟨V, er, at', M, hbb⟩ := M4
          have hB := M.blk
          have hts7 : tsA s (p + W.length) = ⟨58, 0, 0, zR⟩ :: tsA s (lk s (p + W.length) + 1) := hts6
          have hk58 : (hdT (tsA s (p + W.length))).k = 58 := by rw [hts7]; rfl
          refine c_skip (x_then (hK19 _ _ ?_))
          clear hK19 K19
          refine forget [(0, _), (1, _), (5, _), (7, _)] ⟨rfl, rfl, rfl, rfl, trivial⟩ (fun e => ?_)
          refine c_seq (fun K22 hK22 => ?_)
          refine c_reg ?_ -- region 15 formm.go:180
          refine wl (ro_move rfl) ?_
          refine wl (ro_nilCheck rfl) ?_
          refine wl (ro_fieldAddr (k := 1) rfl fo_168_1) ?_
          refine wl (ro_loadB rfl sc_3 (hB) (rfl)) ?_
          refine wl (ro_arith (r := ((lk s (p + W.length) + 1 : Nat) : Int)) rfl rfl rfl (Go.IntWalk.i64_in _ (by omega))) ?_
          refine wl (ro_nilCheck rfl) ?_
          refine wl (ro_fieldAddr (k := 1) rfl fo_168_1) ?_
          refine wl_put rfl rfl rfl sz_3 hB ((by simp)) ((show _ = rdl s (lk s (p + W.length) + 1) V er at' from rfl)) (fun w3 hB F3 => ?_)
          replace hF := hF.thenDrew.thenO F3 (by first | exact .inr (by omega) | exact .inl rfl | exact .inl (by assumption))
          replace hC := F3.blkO hC (by omega)
          have M5 : MR _ pb n0 s (lk s (p + W.length) + 1) ar false := ⟨V, er, at', M.look hB F3 (show lk s (p + W.length) + 1 ≤ s.length by omega), hbb⟩
          refine wl_nil (x_then (hK22 _ _ ?_))
          clear hK22 K22
          refine forget [(0, _), (1, _), (5, _), (7, _)] ⟨rfl, rfl, rfl, rfl, trivial⟩ (fun e => ?_)
          refine c_seq (fun K23 hK23 => ?_)
          refine c_reg ?_ -- region 16 formm.go:181
          refine wl (ro_move rfl) ?_
          refine wl_call rfl en_132 (lookM M5) ?_
          rintro _ u6 ⟨rfl, M6, G6⟩
          replace hF := hF.transG G6 (by intro k hk h; simp only [one, none', fre] at h ⊢ <;> omega)
          replace hC := G6.blkF hC (by intro h; simp only [one, none', fre] at h <;> omega)
          obtain ⟨V, er, at', M, hbb⟩ := M6
          have hB := M.blk
          have hql := M.pl
          have hqq : lk s (lk s (lk s (p + W.length) + 1)) = lk s (lk s (p + W.length) + 1) := lk_lk _ _ (Nat.le_refl _)
          have hqg := lk_ge s (lk s (p + W.length) + 1)
          have htsq := tsA_lk s (lk s (p + W.length) + 1)
          have hb9 : (hdT (tsA s (lk s (p + W.length) + 1))).k = 4 → (lkc s (lk s (p + W.length) + 1) false).2 = false := by
            intro h4
            cases hb5 : (lkc s (lk s (p + W.length) + 1) false).2 with
            | true => have := lk1 hb5; omega
            | false => rfl
          generalize hqe : lk s (lk s (p + W.length) + 1) = q at *
          refine wl_nil (x_then (hK23 _ _ ?_))
          clear hK23 K23
          refine forget [(0, _), (1, _), (5, _), (7, _)] ⟨rfl, rfl, rfl, rfl, trivial⟩ (fun e => ?_)
          refine c_seq (fun K24 hK24 => ?_)
          refine c_reg ?_ -- region 17 formm.go:182
          refine wl (ro_move rfl) ?_
          refine wl (ro_nilCheck rfl) ?_
          refine wl (ro_fieldAddr (k := 1) rfl fo_168_1) ?_
          refine wl (ro_loadB rfl sc_3 (hB) (rfl)) ?_
          refine wl (ro_assign rfl) ?_
          refine wl_nil (x_then (hK24 _ _ ?_))
          clear hK24 K24
          refine forget [(0, _), (1, _), (5, _), (7, _), (10, _)] ⟨rfl, rfl, rfl, rfl, rfl, trivial⟩ (fun e => ?_)
          refine c_seq (fun K25 hK25 => ?_)
          refine c_reg ?_ -- region 18 formm.go:183
          refine wl (ro_move rfl) ?_
          refine wl_call rfl en_229 (wordM ⟨V, er, at', M, hbb⟩) ?_
          rintro _ u7 ⟨rfl, M7, G7⟩
          replace hF := hF.transG G7 (by intro k hk h; simp only [one, none', fre] at h ⊢ <;> omega)
          replace hC := G7.blkF hC (by intro h; simp only [one, none', fre] at h <;> omega)
          have hrt := ref_tok hqq
          have hW2 : ((s.drop q).takeWhile wy).length ≤ s.length - q := by rw [← List.length_drop]; exact tw_le _ _
          generalize hWW2 : (s.drop q).takeWhile wy = W2 at *
          refine wl (ro_assign rfl) ?_
          refine wl_nil (x_then (hK25 _ _ ?_))
          clear hK25 K25
          refine forget [(0, _), (1, _), (5, _), (7, _), (10, _), (11, _)] ⟨rfl, rfl, rfl, rfl, rfl, rfl, trivial⟩ (fun e => ?_)
          refine c_seq (fun K26 hK26 => ?_)
          refine c_reg ?_ -- region 19 formm.go:184
          refine wl (ro_move rfl) ?_
          refine wl_call rfl en_230 (RefOf230 (by omega)) ?_
          rintro _ u8 ⟨rfl, G8⟩
          replace M7 := MR.far M7 G8
          replace hF := hF.transG G8 (by intro k hk h; simp only [one, none', fre] at h ⊢ <;> omega)
          replace hC := G8.blkF hC (by intro h; simp only [one, none', fre] at h <;> omega)
          refine wl (ro_move rfl) ?_
          refine wl (ro_extract rfl rfl) ?_
          refine wl (ro_extract rfl rfl) ?_
          refine wl_new (ze_141) (fun db w4 hbdb hD F4 => ?_)
          have hbsdb := Nat.le_trans hF.size hbdb
          have hnecbdb : cb < db := Nat.lt_of_lt_of_le hC.lt hbdb
          replace hF := hF.thenDrew.thenN F4
          replace hC := F4.blkN hC
          have hD0 := hD
          replace M7 := MR.far M7 F4
          refine wl_puta rfl rfl ((refc_cells _)) sz_141 (rfl) hD ((by simp)) ((show _ = refc ((refOf W2).getD zR) from rfl)) (fun w5 hD F5 => ?_)
          replace hF := hF.thenDrew.thenO F5 (by first | exact .inr (by omega) | exact .inl rfl | exact .inl (by assumption))
          replace hC := F5.blkO hC (by omega)
          replace M7 := MR.at1 M7 hD0 F5
          refine wl (ro_assign rfl) ?_
          refine wl_nil (x_then (hK26 _ _ ?_))
          clear hK26 K26
          refine c_seq (fun K27 hK27 => ?_)
          refine c_seq (fun K28 hK28 => ?_)
          refine c_reg ?_ -- region 20 formm.go:185
          refine wl (ro_move rfl) ?_
          refine wl (ro_not rfl) ?_
          refine wl_nil (x_then (hK28 _ _ ?_))
          clear hK28 K28
          refine wc_cond rfl (fun hc81 => ?_) (fun hc81 => ?_)
          · try simp only [decide_eq_true_eq, decide_eq_false_iff_not, Bool.not_eq_true', Bool.not_eq_false', Bool.not_eq_eq_eq_not, Bool.not_true, Bool.not_false, beq_iff_eq, bne_iff_ne, ne_eq, beq_eq_false_iff_ne, bne_eq_false_iff_eq, gt_iff_lt, ge_iff_le, Int.not_lt, Int.not_le] at hc81
            refine c_seq (fun K29 hK29 => ?_)
            refine c_reg ?_ -- region 21 formm.go:186
            refine wl (ro_move rfl) ?_
            refine wl (ro_move rfl) ?_
            refine wl_call rfl en_133 (failM (x := 3) (by decide) M7) ?_
            rintro _ u9 ⟨rfl, M9, G9⟩
            replace hF := hF.transG G9 (by intro k hk h; simp only [one, none', fre] at h ⊢ <;> omega)
            replace hC := G9.blkF hC (by intro h; simp only [one, none', fre] at h <;> omega)
            replace hD := G9.blkF hD (by intro h; simp only [one, none', fre] at h <;> omega)
            refine wl (ro_assign rfl) ?_
            refine wl_nil (x_then (hK29 _ _ ?_))
            clear hK29 K29
            refine c_ret (x_thenR ?_)
            refine bp_ret Tryz.results228 rfl ?_
            refine ⟨.inl ⟨_, _, _, rfl, M9, .inr ?_⟩, hF⟩
            rw [hts]
            refine at_rngF rfl hk58 (.inl ?_)
            rw [hts7]
            show (hdT (tsA s (lk s (p + W.length) + 1))).k ≠ 4
            rw [← htsq]
            exact hrt.2 (by simpa using hc81)
          · try simp only [decide_eq_true_eq, decide_eq_false_iff_not, Bool.not_eq_true', Bool.not_eq_false', Bool.not_eq_eq_eq_not, Bool.not_true, Bool.not_false, beq_iff_eq, bne_iff_ne, ne_eq, beq_eq_false_iff_ne, bne_eq_false_iff_eq, gt_iff_lt, ge_iff_le, Int.not_lt, Int.not_le] at hc81
            obtain ⟨r2, hr2⟩ : ∃ r, refOf W2 = some r := by
              cases h : refOf W2 with
              | none => rw [h] at hc81; cases hc81
              | some r => exact ⟨r, rfl⟩
            rw [hr2] at hD
            have hts8 := hrt.1 r2 hr2
            rw [htsq] at hts8
            have hb8 := hb9 (by rw [hts8]; rfl)
            rw [hb8] at M7
            refine c_skip (x_then (hK27 _ _ ?_))
            clear hK27 K27
            refine c_seq (fun K30 hK30 => ?_)
            refine c_seq (fun K31 hK31 => ?_)
            refine c_reg ?_ -- region 22 formm.go:188
            refine wl (ro_move rfl) ?_
            refine wl (ro_not rfl) ?_
            refine wl_nil (x_then (hK31 _ _ ?_))
            clear hK31 K31
            refine wc_cond rfl (fun hc86 => ?_) (fun hc86 => ?_)
            · try simp only [decide_eq_true_eq, decide_eq_false_iff_not, Bool.not_eq_true', Bool.not_eq_false', Bool.not_eq_eq_eq_not, Bool.not_true, Bool.not_false, beq_iff_eq, bne_iff_ne, ne_eq, beq_eq_false_iff_ne, bne_eq_false_iff_eq, gt_iff_lt, ge_iff_le, Int.not_lt, Int.not_le] at hc86
              refine c_seq (fun K32 hK32 => ?_)
              refine c_reg ?_ -- region 23 formm.go:189
              refine wl (ro_move rfl) ?_
              refine wl (ro_move rfl) ?_
              refine wl_call rfl en_133 (failM (x := 6) (by decide) M7) ?_
              rintro _ u9 ⟨rfl, M9, G9⟩
              replace hF := hF.transG G9 (by intro k hk h; simp only [one, none', fre] at h ⊢ <;> omega)
              replace hC := G9.blkF hC (by intro h; simp only [one, none', fre] at h <;> omega)
              replace hD := G9.blkF hD (by intro h; simp only [one, none', fre] at h <;> omega)
              refine wl (ro_assign rfl) ?_
              refine wl_nil (x_then (hK32 _ _ ?_))
              clear hK32 K32
              refine c_ret (x_thenR ?_)
              refine bp_ret Tryz.results228 rfl ?_
              refine ⟨.inl ⟨_, _, _, rfl, M9, .inr ?_⟩, hF⟩
              rw [hts]
              exact at_rngF rfl hk58 (.inr (.inl (by simpa using hc86)))
            · try simp only [decide_eq_true_eq, decide_eq_false_iff_not, Bool.not_eq_true', Bool.not_eq_false', Bool.not_eq_eq_eq_not, Bool.not_true, Bool.not_false, beq_iff_eq, bne_iff_ne, ne_eq, beq_eq_false_iff_ne, bne_eq_false_iff_eq, gt_iff_lt, ge_iff_le, Int.not_lt, Int.not_le] at hc86
              refine c_skip (x_then (hK30 _ _ ?_))
              clear hK30 K30
              refine forget [(0, _), (7, _), (12, _)] ⟨rfl, rfl, rfl, trivial⟩ (fun e => ?_)
              refine c_seq (fun K33 hK33 => ?_)
              refine c_reg ?_ -- region 24 formm.go:191
              refine wl (ro_move rfl) ?_
              refine wl (ro_loadAggB rfl ag_141 (hC) (rfl) rfl) ?_
              refine wl (ro_loadAggB rfl ag_141 (hD) (rfl) rfl) ?_
              refine wl (ro_build rfl bld_143_0_2_3_5_6) ?_
              refine wl_call rfl en_175 (add175 (x := nRng r r2) M7) ?_
              rintro _ u9 ⟨rfl, M9, G9⟩
              replace hF := hF.transG G9 (by intro k hk h; simp only [one, none', fre] at h ⊢ <;> omega)
              refine wl (ro_assign rfl) ?_
              refine wl_nil (x_then (hK33 _ _ ?_))
              clear hK33 K33
              refine c_ret ?_
              refine bp_ret Tryz.results228 rfl ?_
              refine ⟨?_, hF⟩
              have hrg : rg = true := by simpa using hc86
              by_cases h24 : ar.length < 24
              · rw [addX_lt h24] at M9 ⊢
                refine .inr ⟨_, _, rfl, by rw [rt_app]; rfl, M9, by omega, by simp, ?_⟩
                have := at_rngO (t := ⟨4, 0, 0, r⟩) (ts := tsA s (p + W.length)) (ar := ar) rfl hk58 (by rw [hts7]; show (hdT (tsA s (lk s (p + W.length) + 1))).k = 4; rw [hts8]; rfl) h24
                rw [hrg, hts]
                rw [hts7] at this ⊢
                simp only [List.tail_cons] at this
                rw [hts8] at this ⊢
                exact this
              · rw [addX_ge h24] at M9 ⊢
                exact .inl ⟨_, _, _, rfl, M9, .inr (by rw [hts]; exact at_rngF rfl hk58 (.inr (.inr h24)))⟩

end Go.Proofs.Qxb6500570aGreat
