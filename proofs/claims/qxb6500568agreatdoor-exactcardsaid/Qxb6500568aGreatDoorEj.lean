import Derived.Test.Qxb6500568aGreatDoorEi
/- The real parser: primary expressions. -/
namespace Go.Proofs.Qxb6500568aGreatDoor
open Ieee
set_option linter.unusedVariables false
set_option linter.unusedSimpArgs false

theorem okP_inj {t : Tr} {s : PS} {R : PO} (h : okP t s = some R) : R = .inr (t, s) := by unfold okP at h; injection h with h; exact h.symm
theorem failP_inj {e : Nat} {s : PS} {R : PO} (h : failP e s = some R) : R = .inl (if s.k = 1 then s.cur.e else e, s.cur.pl) := by unfold failP at h; injection h with h; exact h.symm
theorem ro_mkIface {P : Program} {n : Nat} {e : Nat → Option Value} {w : World} {t : TypeId} {x : Operand} {v : Value} (hx : evO n e x = some v) (ht : P.concrete t = true) : RO P n e w (.makeInterface t x) (.iface t v) := by
  intro ds dst ty ps af g
  simp [execOp, evO_eval hx, run_makeInterface (P := P) w t v ht]
theorem ifc_290 : Tryz.prog.underlying 290 = some (.interface (Tryz.prog.methodsAt 290)) := by kernel_rfl
section
variable {w u u' : World} {ow : Nat → Nat} {pb tb cap : Nat} {L : List Tok} {s : PS} {md lv : Nat} {R : PO} {r : Value} {ρ : Int}
theorem Rs1.thru (h : Rs1 u (N63 w ow) pb tb cap L md R r u') (hF : Fram (one pb) w u) : Rs1 w ow pb tb cap L md R r u' := by
  obtain ⟨h1, h2⟩ := h
  rw [show N63 u (N63 w ow) = N63 w ow from nw_nw hF.size] at h2
  exact ⟨hF.trans' h1 (fun _ _ h => h), h2⟩
theorem RsL.thru (h : RsL u (N63 w ow) pb tb cap L md R r u') (hF : Fram (one pb) w u) : RsL w ow pb tb cap L md R r u' := by
  obtain ⟨h1, h2⟩ := h
  rw [show N63 u (N63 w ow) = N63 w ow from nw_nw hF.size] at h2
  exact ⟨hF.trans' h1 (fun _ _ h => h), h2⟩
theorem RsF.thru (h : RsF u (N63 w ow) pb tb cap L R r u') (hF : Fram (one pb) w u) : RsF w ow pb tb cap L R r u' := by
  obtain ⟨h1, h2⟩ := h
  rw [show N63 u (N63 w ow) = N63 w ow from nw_nw hF.size] at h2
  exact ⟨hF.trans' h1 (fun _ _ h => h), h2⟩
theorem TrM.thru {t : Tr} {vs : List Value} (h : TrM u ow md t vs) (hc : PCx u ow pb tb cap L) (f : Fram (one pb) u u') : TrM u' ow md t vs :=
  h.far f (fun b hb _ e => by have e : b = pb := e; rw [e, hc.pt] at hb; omega) (Xt.refl _ _)
theorem SlM.thru {V : Value} {vs : List Value} (h : SlM u ow V vs) (hc : PCx u ow pb tb cap L) (f : Fram (one pb) u u') : SlM u' ow V vs :=
  OwT.far h f (fun b hb _ e => by have e : b = pb := e; rw [e, hc.pt] at hb; omega) (Xt.refl _ _)
theorem TrM.thruN {t : Tr} {vs : List Value} (h : TrM u ow md t vs) (f : Fram none' u u') : TrM u' ow md t vs := h.far f (fun _ _ _ h => h) (Xt.refl _ _)
theorem SlM.thruN {V : Value} {vs : List Value} (h : SlM u ow V vs) (f : Fram none' u u') : SlM u' ow V vs := OwT.far h f (fun _ _ _ h => h) (Xt.refl _ _)
theorem PGo.at {s1 : PS} {lv1 : Nat} {ρ1 : Int} (h : PGo w ow pb tb cap L s lv ρ) (hF : Fram (one pb) w u) (hP : PrV u pb tb cap L s1) (hp : Pe s1) (h1 : lv1 ≤ 13) (h2 : s1.lo ≤ lv1) (h3 : ρ1 = 13 - (lv1 : Int)) : PGo u (N63 w ow) pb tb cap L s1 lv1 ρ1 := ⟨h.cx.go hF, hP, hp, h1, h2, h3⟩
theorem PGo.adv (h : PGo w ow pb tb cap L s lv ρ) (hl : lv ≤ 12) (hF : Fram (one pb) w u) (hP : PrV u pb tb cap L s.adv) : PGo u (N63 w ow) pb tb cap L s.adv (lv + 1) (ρ - 1) :=
  h.at hF hP (h.pe.cm (Cm.adv h.pe)) (by omega) (by have := h.lo; show s.lo ≤ lv + 1; omega) (by have := h.rm; omega)
end
set_option maxHeartbeats 4000000 in
theorem prim224 {f : Nat} {w : World} {ow : Nat → Nat} {pb tb cap : Nat} {L : List Tok} {s : PS} {lv : Nat} {ρ : Int} {R : PO} (ih : PAll f) (hG : PGo w ow pb tb cap L s lv ρ) (hlv : lv ≤ 12) (hR : pPrim (parP f) lv s = some R) : Ret Tryz.prog 224 [ptr pb, .int .i64 ρ] w (Rs1 w ow pb tb cap L 0 R) := by
  have hP := hG.pr
  have hT := hG.cx.tk
  have hne := hG.cx.ne
  have hρ := hG.rm
  have hPl := hG.cx.pl
  obtain ⟨i, hX, hi, hs⟩ := hP.ex
  have hF : Fram (one pb) w w := Fram.refl _ _
  have hF0 : Fram none' w w := Fram.refl _ _
  unfold prc at hX
  have hkk : s.k = s.cur.k := rfl
  unfold pPrim at hR
  refine ret_of Tryz.func224 rfl Tryz.ntmps224 rfl ?_
  refine c_seq (fun K1 hK1 => ?_)
  refine c_reg ?_ -- region 0 expr.go:165
  refine wl (ro_assign rfl) ?_
  refine wl_nil (x_then (hK1 _ _ ?_))
  clear hK1 K1
  refine forget [(0, _), (1, _)] ⟨rfl, rfl, trivial⟩ (fun e => ?_)
  refine c_seq (fun K2 hK2 => ?_)
  refine c_reg ?_ -- region 1 expr.go:166
  refine wl (ro_move rfl) ?_
  refine wl (ro_nilCheck rfl) ?_
  refine wl (ro_fieldAddr (k := 2) rfl fo_186_2) ?_
  refine wl (ro_loadAggB rfl ag_182 (by assumption) rfl rfl) ?_
  refine wl_new (ze_182) (fun b5 w1 hbb5 h5 F1 => ?_)
  have hbsb5 := Nat.le_trans hF.size hbb5
  have hnepbb5 : pb < b5 := Nat.lt_of_lt_of_le hX.lt hbb5
  have hbsb5 := Nat.le_trans hF0.size hbb5
  replace hF := hF.thenDrew.thenN F1
  replace hX := F1.blkN hX
  replace hF0 := hF0.thenDrew.thenN F1
  refine wl_puta rfl rfl ((by (try exact vlc_cells _); all_goals simp [Value.oneCell', i64c, icv, u64c, u8c, ptr, S])) sz_182 (rfl) h5 ((by simp)) (rfl) (fun w2 h5 F2 => ?_)
  replace hF := hF.thenDrew.thenO F2 (by first | exact .inr (by omega) | exact .inl rfl | exact .inl (by assumption) | assumption)
  replace hX := F2.blkO hX (by omega)
  replace hF0 := hF0.thenDrew.thenO F2 (by first | exact .inr (by omega) | exact .inl rfl | exact .inl (by assumption) | assumption)
  refine wl_nil (x_then (hK2 _ _ ?_))
  clear hK2 K2
  refine c_seq (fun K3 hK3 => ?_)
  refine c_seq (fun K4 hK4 => ?_)
  refine c_reg ?_ -- region 2 expr.go:167
  refine wl (ro_fieldAddr (k := 0) rfl fo_182_0) ?_
  refine wl (ro_loadB rfl sc_180 (by assumption) rfl) ?_
  refine wl_nil (x_then (hK4 _ _ ?_))
  clear hK4 K4
  refine c_block ?_
  refine forget [(0, _), (1, _), (5, _), (15, _)] ⟨rfl, rfl, rfl, rfl, trivial⟩ (fun e => ?_)
  refine c_seq (fun K5 hK5 => ?_)
  refine c_reg ?_ -- region 3 expr.go:168
  refine wl (ro_cmp rfl rfl rfl) ?_
  refine wl (ro_assign rfl) ?_
  refine wl_nil (x_then (hK5 _ _ ?_))
  clear hK5 K5
  refine wc_cond rfl (fun hc16 => ?_) (fun hc16 => ?_)
  · try simp only [decide_eq_true_eq, decide_eq_false_iff_not, Bool.not_eq_true', Bool.not_eq_false', Bool.not_eq_eq_eq_not, Bool.not_true, Bool.not_false, beq_iff_eq, bne_iff_ne, ne_eq, beq_eq_false_iff_ne, bne_eq_false_iff_eq, gt_iff_lt, ge_iff_le, Int.not_lt, Int.not_le] at hc16
    rw [if_pos (by omega)] at hR
    cases okP_inj hR
    refine c_seq (fun K6 hK6 => ?_)
    refine c_reg ?_ -- region 4 expr.go:169
    refine wl (ro_move rfl) ?_
    refine wl_call rfl en_176 (next176 (hP.farN hF0) (hT.farN hF0) hne (by omega)) ?_
    rintro _ u1 ⟨rfl, hP1, F9⟩
    replace h5 := F9.blkO h5 (by omega)
    replace hF := hF.trans' F9 (fun _ _ h => h)
    refine wl_nil (x_then (hK6 _ _ ?_))
    clear hK6 K6
    refine forget [(5, _)] ⟨rfl, trivial⟩ (fun e => ?_)
    refine c_seq (fun K7 hK7 => ?_)
    refine c_reg ?_ -- region 5 expr.go:170
    refine wl (ro_fieldAddr (k := 1) rfl fo_182_1) ?_
    refine wl (ro_loadB rfl sc_3 (by assumption) rfl) ?_
    refine wl (ro_fieldAddr (k := 3) rfl fo_182_3) ?_
    refine wl (ro_loadB rfl sc_117 (by assumption) rfl) ?_
    refine wl (ro_build rfl bld_386_0_1) ?_
    refine wl_box rfl rfl (fun b25 w3 hbb25 h25 F3 => ?_)
    have hbsb25 := Nat.le_trans hF.size hbb25
    have hneb5b25 : b5 < b25 := Nat.lt_of_lt_of_le h5.lt hbb25
    replace hF := hF.thenDrew.thenN F3
    replace h5 := F3.blkN h5
    have hF25 := (F3)
    refine wl (ro_mkIface rfl (by kernel_rfl)) ?_
    refine wl (ro_assign rfl) ?_
    refine wl_nil (x_then (hK7 _ _ ?_))
    clear hK7 K7
    refine c_ret (x_blkR (x_thenR ?_))
    refine bp_ret Tryz.results224 rfl ?_
    exact ⟨hF, TrM_num.2 ⟨b25, _, rfl, h25, nw_new (by omega)⟩, hP1.farN hF25⟩
  · try simp only [decide_eq_true_eq, decide_eq_false_iff_not, Bool.not_eq_true', Bool.not_eq_false', Bool.not_eq_eq_eq_not, Bool.not_true, Bool.not_false, beq_iff_eq, bne_iff_ne, ne_eq, beq_eq_false_iff_ne, bne_eq_false_iff_eq, gt_iff_lt, ge_iff_le, Int.not_lt, Int.not_le] at hc16
    rw [if_neg (by omega)] at hR
    refine c_seq (fun K8 hK8 => ?_)
    refine c_reg ?_ -- region 6 expr.go:171
    refine wl (ro_cmp rfl rfl rfl) ?_
    refine wl (ro_assign rfl) ?_
    refine wl_nil (x_then (hK8 _ _ ?_))
    clear hK8 K8
    refine wc_cond rfl (fun hc27 => ?_) (fun hc27 => ?_)
    · try simp only [decide_eq_true_eq, decide_eq_false_iff_not, Bool.not_eq_true', Bool.not_eq_false', Bool.not_eq_eq_eq_not, Bool.not_true, Bool.not_false, beq_iff_eq, bne_iff_ne, ne_eq, beq_eq_false_iff_ne, bne_eq_false_iff_eq, gt_iff_lt, ge_iff_le, Int.not_lt, Int.not_le] at hc27
      rw [if_pos (by omega)] at hR
      cases okP_inj hR
      refine c_seq (fun K9 hK9 => ?_)
      refine c_reg ?_ -- region 7 expr.go:172
      refine wl (ro_move rfl) ?_
      refine wl_call rfl en_176 (next176 (hP.farN hF0) (hT.farN hF0) hne (by omega)) ?_
      rintro _ u1 ⟨rfl, hP1, F9⟩
      replace h5 := F9.blkO h5 (by omega)
      replace hF := hF.trans' F9 (fun _ _ h => h)
      refine wl_nil (x_then (hK9 _ _ ?_))
      clear hK9 K9
      refine forget [(5, _)] ⟨rfl, trivial⟩ (fun e => ?_)
      refine c_seq (fun K10 hK10 => ?_)
      refine c_reg ?_ -- region 8 expr.go:173
      refine wl (ro_fieldAddr (k := 1) rfl fo_182_1) ?_
      refine wl (ro_loadB rfl sc_3 (by assumption) rfl) ?_
      refine wl (ro_fieldAddr (k := 2) rfl fo_182_2) ?_
      refine wl (ro_loadB rfl sc_9 (by assumption) rfl) ?_
      refine wl (ro_build rfl bld_375_0_1) ?_
      refine wl_box rfl rfl (fun b36 w4 hbb36 h36 F4 => ?_)
      have hbsb36 := Nat.le_trans hF.size hbb36
      have hneb5b36 : b5 < b36 := Nat.lt_of_lt_of_le h5.lt hbb36
      replace hF := hF.thenDrew.thenN F4
      replace h5 := F4.blkN h5
      have hF36 := (F4)
      refine wl (ro_mkIface rfl (by kernel_rfl)) ?_
      refine wl (ro_assign rfl) ?_
      refine wl_nil (x_then (hK10 _ _ ?_))
      clear hK10 K10
      refine c_ret (x_blkR (x_thenR ?_))
      refine bp_ret Tryz.results224 rfl ?_
      exact ⟨hF, TrM_str.2 ⟨b36, _, rfl, h36, nw_new (by omega)⟩, hP1.farN hF36⟩
    · try simp only [decide_eq_true_eq, decide_eq_false_iff_not, Bool.not_eq_true', Bool.not_eq_false', Bool.not_eq_eq_eq_not, Bool.not_true, Bool.not_false, beq_iff_eq, bne_iff_ne, ne_eq, beq_eq_false_iff_ne, bne_eq_false_iff_eq, gt_iff_lt, ge_iff_le, Int.not_lt, Int.not_le] at hc27
      rw [if_neg (by omega)] at hR
      refine c_seq (fun K11 hK11 => ?_)
      refine c_reg ?_ -- region 9 expr.go:174
      refine wl (ro_cmp rfl rfl rfl) ?_
      refine wl (ro_assign rfl) ?_
      refine wl_nil (x_then (hK11 _ _ ?_))
      clear hK11 K11
      refine wc_cond rfl (fun hc38 => ?_) (fun hc38 => ?_)
      · try simp only [decide_eq_true_eq, decide_eq_false_iff_not, Bool.not_eq_true', Bool.not_eq_false', Bool.not_eq_eq_eq_not, Bool.not_true, Bool.not_false, beq_iff_eq, bne_iff_ne, ne_eq, beq_eq_false_iff_ne, bne_eq_false_iff_eq, gt_iff_lt, ge_iff_le, Int.not_lt, Int.not_le] at hc38
        rw [if_pos (by omega)] at hR
        cases okP_inj hR
        refine c_seq (fun K12 hK12 => ?_)
        refine c_reg ?_ -- region 10 expr.go:175
        refine wl (ro_move rfl) ?_
        refine wl_call rfl en_176 (next176 (hP.farN hF0) (hT.farN hF0) hne (by omega)) ?_
        rintro _ u1 ⟨rfl, hP1, F9⟩
        replace h5 := F9.blkO h5 (by omega)
        replace hF := hF.trans' F9 (fun _ _ h => h)
        refine wl_nil (x_then (hK12 _ _ ?_))
        clear hK12 K12
        refine forget [(5, _)] ⟨rfl, trivial⟩ (fun e => ?_)
        refine c_seq (fun K13 hK13 => ?_)
        refine c_reg ?_ -- region 11 expr.go:176
        refine wl (ro_fieldAddr (k := 1) rfl fo_182_1) ?_
        refine wl (ro_loadB rfl sc_3 (by assumption) rfl) ?_
        refine wl (ro_fieldAddr (k := 2) rfl fo_182_2) ?_
        refine wl (ro_loadB rfl sc_9 (by assumption) rfl) ?_
        refine wl (ro_build rfl bld_349_0_1) ?_
        refine wl_box rfl rfl (fun b47 w5 hbb47 h47 F5 => ?_)
        have hbsb47 := Nat.le_trans hF.size hbb47
        have hneb5b47 : b5 < b47 := Nat.lt_of_lt_of_le h5.lt hbb47
        replace hF := hF.thenDrew.thenN F5
        replace h5 := F5.blkN h5
        have hF47 := (F5)
        refine wl (ro_mkIface rfl (by kernel_rfl)) ?_
        refine wl (ro_assign rfl) ?_
        refine wl_nil (x_then (hK13 _ _ ?_))
        clear hK13 K13
        refine c_ret (x_blkR (x_thenR ?_))
        refine bp_ret Tryz.results224 rfl ?_
        exact ⟨hF, TrM_name.2 ⟨b47, _, rfl, h47, nw_new (by omega)⟩, hP1.farN hF47⟩
      · try simp only [decide_eq_true_eq, decide_eq_false_iff_not, Bool.not_eq_true', Bool.not_eq_false', Bool.not_eq_eq_eq_not, Bool.not_true, Bool.not_false, beq_iff_eq, bne_iff_ne, ne_eq, beq_eq_false_iff_ne, bne_eq_false_iff_eq, gt_iff_lt, ge_iff_le, Int.not_lt, Int.not_le] at hc38
        rw [if_neg (by omega)] at hR
        refine c_seq (fun K14 hK14 => ?_)
        refine c_reg ?_ -- region 12 expr.go:177
        refine wl (ro_cmp rfl rfl rfl) ?_
        refine wl (ro_assign rfl) ?_
        refine wl_nil (x_then (hK14 _ _ ?_))
        clear hK14 K14
        refine wc_cond rfl (fun hc49 => ?_) (fun hc49 => ?_)
        · try simp only [decide_eq_true_eq, decide_eq_false_iff_not, Bool.not_eq_true', Bool.not_eq_false', Bool.not_eq_eq_eq_not, Bool.not_true, Bool.not_false, beq_iff_eq, bne_iff_ne, ne_eq, beq_eq_false_iff_ne, bne_eq_false_iff_eq, gt_iff_lt, ge_iff_le, Int.not_lt, Int.not_le] at hc49
          rw [if_pos (by omega)] at hR
          cases okP_inj hR
          refine c_seq (fun K15 hK15 => ?_)
          refine c_reg ?_ -- region 13 expr.go:178
          refine wl (ro_move rfl) ?_
          refine wl_call rfl en_176 (next176 (hP.farN hF0) (hT.farN hF0) hne (by omega)) ?_
          rintro _ u1 ⟨rfl, hP1, F9⟩
          replace h5 := F9.blkO h5 (by omega)
          replace hF := hF.trans' F9 (fun _ _ h => h)
          refine wl_nil (x_then (hK15 _ _ ?_))
          clear hK15 K15
          refine forget [(5, _)] ⟨rfl, trivial⟩ (fun e => ?_)
          refine c_seq (fun K16 hK16 => ?_)
          refine c_reg ?_ -- region 14 expr.go:179
          refine wl (ro_fieldAddr (k := 1) rfl fo_182_1) ?_
          refine wl (ro_loadB rfl sc_3 (by assumption) rfl) ?_
          refine wl (ro_build rfl bld_383_0_1) ?_
          refine wl_box rfl rfl (fun b56 w6 hbb56 h56 F6 => ?_)
          have hbsb56 := Nat.le_trans hF.size hbb56
          have hneb5b56 : b5 < b56 := Nat.lt_of_lt_of_le h5.lt hbb56
          replace hF := hF.thenDrew.thenN F6
          replace h5 := F6.blkN h5
          have hF56 := (F6)
          refine wl (ro_mkIface rfl (by kernel_rfl)) ?_
          refine wl (ro_assign rfl) ?_
          refine wl_nil (x_then (hK16 _ _ ?_))
          clear hK16 K16
          refine c_ret (x_blkR (x_thenR ?_))
          refine bp_ret Tryz.results224 rfl ?_
          exact ⟨hF, TrM_lit.2 ⟨b56, _, rfl, h56, nw_new (by omega)⟩, hP1.farN hF56⟩
        · try simp only [decide_eq_true_eq, decide_eq_false_iff_not, Bool.not_eq_true', Bool.not_eq_false', Bool.not_eq_eq_eq_not, Bool.not_true, Bool.not_false, beq_iff_eq, bne_iff_ne, ne_eq, beq_eq_false_iff_ne, bne_eq_false_iff_eq, gt_iff_lt, ge_iff_le, Int.not_lt, Int.not_le] at hc49
          rw [if_neg (by omega)] at hR
          refine c_seq (fun K17 hK17 => ?_)
          refine c_reg ?_ -- region 15 expr.go:180
          refine wl (ro_cmp rfl rfl rfl) ?_
          refine wl (ro_assign rfl) ?_
          refine wl_nil (x_then (hK17 _ _ ?_))
          clear hK17 K17
          refine wc_cond rfl (fun hc58 => ?_) (fun hc58 => ?_)
          · try simp only [decide_eq_true_eq, decide_eq_false_iff_not, Bool.not_eq_true', Bool.not_eq_false', Bool.not_eq_eq_eq_not, Bool.not_true, Bool.not_false, beq_iff_eq, bne_iff_ne, ne_eq, beq_eq_false_iff_ne, bne_eq_false_iff_eq, gt_iff_lt, ge_iff_le, Int.not_lt, Int.not_le] at hc58
            rw [if_pos (by omega)] at hR
            cases okP_inj hR
            refine c_seq (fun K18 hK18 => ?_)
            refine c_reg ?_ -- region 16 expr.go:181
            refine wl (ro_move rfl) ?_
            refine wl_call rfl en_176 (next176 (hP.farN hF0) (hT.farN hF0) hne (by omega)) ?_
            rintro _ u1 ⟨rfl, hP1, F9⟩
            replace h5 := F9.blkO h5 (by omega)
            replace hF := hF.trans' F9 (fun _ _ h => h)
            refine wl_nil (x_then (hK18 _ _ ?_))
            clear hK18 K18
            refine forget [(5, _)] ⟨rfl, trivial⟩ (fun e => ?_)
            refine c_seq (fun K19 hK19 => ?_)
            refine c_reg ?_ -- region 17 expr.go:182
            refine wl (ro_fieldAddr (k := 1) rfl fo_182_1) ?_
            refine wl (ro_loadB rfl sc_3 (by assumption) rfl) ?_
            refine wl (ro_build rfl bld_383_0_1) ?_
            refine wl_box rfl rfl (fun b65 w7 hbb65 h65 F7 => ?_)
            have hbsb65 := Nat.le_trans hF.size hbb65
            have hneb5b65 : b5 < b65 := Nat.lt_of_lt_of_le h5.lt hbb65
            replace hF := hF.thenDrew.thenN F7
            replace h5 := F7.blkN h5
            have hF65 := (F7)
            refine wl (ro_mkIface rfl (by kernel_rfl)) ?_
            refine wl (ro_assign rfl) ?_
            refine wl_nil (x_then (hK19 _ _ ?_))
            clear hK19 K19
            refine c_ret (x_blkR (x_thenR ?_))
            refine bp_ret Tryz.results224 rfl ?_
            exact ⟨hF, TrM_lit.2 ⟨b65, _, rfl, h65, nw_new (by omega)⟩, hP1.farN hF65⟩
          · try simp only [decide_eq_true_eq, decide_eq_false_iff_not, Bool.not_eq_true', Bool.not_eq_false', Bool.not_eq_eq_eq_not, Bool.not_true, Bool.not_false, beq_iff_eq, bne_iff_ne, ne_eq, beq_eq_false_iff_ne, bne_eq_false_iff_eq, gt_iff_lt, ge_iff_le, Int.not_lt, Int.not_le] at hc58
            rw [if_neg (by omega)] at hR
            refine c_seq (fun K20 hK20 => ?_)
            refine c_reg ?_ -- region 18 expr.go:183
            refine wl (ro_cmp rfl rfl rfl) ?_
            refine wl (ro_assign rfl) ?_
            refine wl_nil (x_then (hK20 _ _ ?_))
            clear hK20 K20
            refine wc_cond rfl (fun hc67 => ?_) (fun hc67 => ?_)
            · try simp only [decide_eq_true_eq, decide_eq_false_iff_not, Bool.not_eq_true', Bool.not_eq_false', Bool.not_eq_eq_eq_not, Bool.not_true, Bool.not_false, beq_iff_eq, bne_iff_ne, ne_eq, beq_eq_false_iff_ne, bne_eq_false_iff_eq, gt_iff_lt, ge_iff_le, Int.not_lt, Int.not_le] at hc67
              rw [if_pos (by omega)] at hR
              cases okP_inj hR
              refine c_seq (fun K21 hK21 => ?_)
              refine c_reg ?_ -- region 19 expr.go:184
              refine wl (ro_move rfl) ?_
              refine wl_call rfl en_176 (next176 (hP.farN hF0) (hT.farN hF0) hne (by omega)) ?_
              rintro _ u1 ⟨rfl, hP1, F9⟩
              replace h5 := F9.blkO h5 (by omega)
              replace hF := hF.trans' F9 (fun _ _ h => h)
              refine wl_nil (x_then (hK21 _ _ ?_))
              clear hK21 K21
              refine forget [(5, _)] ⟨rfl, trivial⟩ (fun e => ?_)
              refine c_seq (fun K22 hK22 => ?_)
              refine c_reg ?_ -- region 20 expr.go:185
              refine wl (ro_fieldAddr (k := 1) rfl fo_182_1) ?_
              refine wl (ro_loadB rfl sc_3 (by assumption) rfl) ?_
              refine wl (ro_build rfl bld_383_0_1) ?_
              refine wl_box rfl rfl (fun b74 w8 hbb74 h74 F8 => ?_)
              have hbsb74 := Nat.le_trans hF.size hbb74
              have hneb5b74 : b5 < b74 := Nat.lt_of_lt_of_le h5.lt hbb74
              replace hF := hF.thenDrew.thenN F8
              replace h5 := F8.blkN h5
              have hF74 := (F8)
              refine wl (ro_mkIface rfl (by kernel_rfl)) ?_
              refine wl (ro_assign rfl) ?_
              refine wl_nil (x_then (hK22 _ _ ?_))
              clear hK22 K22
              refine c_ret (x_blkR (x_thenR ?_))
              refine bp_ret Tryz.results224 rfl ?_
              exact ⟨hF, TrM_lit.2 ⟨b74, _, rfl, h74, nw_new (by omega)⟩, hP1.farN hF74⟩
            · try simp only [decide_eq_true_eq, decide_eq_false_iff_not, Bool.not_eq_true', Bool.not_eq_false', Bool.not_eq_eq_eq_not, Bool.not_true, Bool.not_false, beq_iff_eq, bne_iff_ne, ne_eq, beq_eq_false_iff_ne, bne_eq_false_iff_eq, gt_iff_lt, ge_iff_le, Int.not_lt, Int.not_le] at hc67
              rw [if_neg (by omega)] at hR
              refine c_seq (fun K23 hK23 => ?_)
              refine c_reg ?_ -- region 21 expr.go:186
              refine wl (ro_cmp rfl rfl rfl) ?_
              refine wl (ro_assign rfl) ?_
              refine wl_nil (x_then (hK23 _ _ ?_))
              clear hK23 K23
              refine wc_cond rfl (fun hc76 => ?_) (fun hc76 => ?_)
              · try simp only [decide_eq_true_eq, decide_eq_false_iff_not, Bool.not_eq_true', Bool.not_eq_false', Bool.not_eq_eq_eq_not, Bool.not_true, Bool.not_false, beq_iff_eq, bne_iff_ne, ne_eq, beq_eq_false_iff_ne, bne_eq_false_iff_eq, gt_iff_lt, ge_iff_le, Int.not_lt, Int.not_le] at hc76
                rw [if_pos (by omega)] at hR
                refine c_seq (fun K24 hK24 => ?_)
                refine c_reg ?_ -- region 22 expr.go:187
                refine wl (ro_move rfl) ?_
                refine wl_call rfl en_176 (next176 (hP.farN hF0) (hT.farN hF0) hne (by omega)) ?_
                rintro _ u1 ⟨rfl, hP1, F9⟩
                replace h5 := F9.blkO h5 (by omega)
                replace hF := hF.trans' F9 (fun _ _ h => h)
                refine wl_nil (x_then (hK24 _ _ ?_))
                clear hK24 K24
                refine forget [(0, _), (1, _)] ⟨rfl, rfl, trivial⟩ (fun e => ?_)
                refine c_seq (fun K25 hK25 => ?_)
                rcases bdP_some hR with ⟨⟨ee, pp⟩, hq, rfl⟩ | ⟨t1, s1, hq, hR⟩
                · skip
                  refine c_reg ?_ -- region 23 expr.go:188
                  refine wl (ro_move rfl) ?_
                  refine wl (ro_move rfl) ?_
                  refine wl (ro_arith rfl rfl rfl (Go.IntWalk.i64_in _ (by omega))) ?_
                  refine wl_call rfl en_180 (ih.e0 (r := 1) (hG.adv hlv hF hP1) (by decide) (by decide) hq) ?_
                  rintro v u3 hr
                  obtain ⟨hF, rfl, hE⟩ := hr.thru hF
                  refine wl (ro_assign rfl) ?_
                  refine wl_nil (x_then (hK25 _ _ ?_))
                  clear hK25 K25
                  refine c_seq (fun K26 hK26 => ?_)
                  refine c_seq (fun K27 hK27 => ?_)
                  refine c_reg ?_ -- region 24 expr.go:189
                  refine wl (ro_move rfl) ?_
                  refine wl (ro_eqNilN rfl ifc_290) ?_
                  refine wl (ro_move rfl) ?_
                  refine wlg_no rfl ?_
                  refine wlg_no rfl ?_
                  refine wlg_no rfl ?_
                  refine wl (ro_pick rfl rfl rfl) ?_
                  refine wl_nil (x_then (hK27 _ _ ?_))
                  clear hK27 K27
                  refine wc_condT rfl ?_
                  refine c_seq (fun K28 hK28 => ?_)
                  refine c_reg ?_ -- region 25 expr.go:190
                  refine wl (ro_assign rfl) ?_
                  refine wl_nil (x_then (hK28 _ _ ?_))
                  clear hK28 K28
                  refine c_ret (x_thenR (x_blkR (x_thenR ?_)))
                  refine bp_ret Tryz.results224 rfl ?_
                  exact ⟨hF, rfl, hE⟩
                · skip
                  refine c_reg ?_ -- region 23 expr.go:188
                  refine wl (ro_move rfl) ?_
                  refine wl (ro_move rfl) ?_
                  refine wl (ro_arith rfl rfl rfl (Go.IntWalk.i64_in _ (by omega))) ?_
                  refine wl_call rfl en_180 (ih.e0 (r := 1) (hG.adv hlv hF hP1) (by decide) (by decide) hq) ?_
                  rintro v u3 hr
                  obtain ⟨hF, hT1, hP2⟩ := hr.thru hF
                  obtain ⟨T, b, rfl⟩ := hT1.ifc (.inl rfl)
                  refine wl (ro_assign rfl) ?_
                  refine wl_nil (x_then (hK25 _ _ ?_))
                  clear hK25 K25
                  refine c_seq (fun K29 hK29 => ?_)
                  refine c_seq (fun K30 hK30 => ?_)
                  refine c_reg ?_ -- region 24 expr.go:189
                  refine wl (ro_move rfl) ?_
                  refine wl (ro_eqNilI rfl ifc_290) ?_
                  refine wl (ro_move rfl) ?_
                  refine wlg_yes rfl (ro_move rfl) ?_
                  refine wlg_call rfl rfl en_222 (expect222 hP2 (hG.cx.go hF).tk hne (by decide)) ?_
                  rintro _ u4 ⟨rfl, hq2, F9⟩
                  have hF4 := hF.trans' F9 (fun _ _ h => h)
                  refine wlg_yes rfl (ro_not rfl) ?_
                  refine wl (ro_pick rfl rfl rfl) ?_
                  refine wl_nil (x_then (hK30 _ _ ?_))
                  clear hK30 K30
                  refine wc_cond rfl (fun hc90 => ?_) (fun hc90 => ?_)
                  · try simp only [decide_eq_true_eq, decide_eq_false_iff_not, Bool.not_eq_true', Bool.not_eq_false', Bool.not_eq_eq_eq_not, Bool.not_true, Bool.not_false, beq_iff_eq, bne_iff_ne, ne_eq, beq_eq_false_iff_ne, bne_eq_false_iff_eq, gt_iff_lt, ge_iff_le, Int.not_lt, Int.not_le] at hc90
                    refine c_seq (fun K31 hK31 => ?_)
                    refine c_reg ?_ -- region 25 expr.go:190
                    refine wl (ro_assign rfl) ?_
                    refine wl_nil (x_then (hK31 _ _ ?_))
                    clear hK31 K31
                    refine c_ret (x_thenR (x_blkR (x_thenR ?_)))
                    refine bp_ret Tryz.results224 rfl ?_
                    unfold expP at hR
                    rw [if_neg (by omega)] at hR hq2
                    cases failP_inj hR
                    exact ⟨hF4, rfl, hq2⟩
                  · try simp only [decide_eq_true_eq, decide_eq_false_iff_not, Bool.not_eq_true', Bool.not_eq_false', Bool.not_eq_eq_eq_not, Bool.not_true, Bool.not_false, beq_iff_eq, bne_iff_ne, ne_eq, beq_eq_false_iff_ne, bne_eq_false_iff_eq, gt_iff_lt, ge_iff_le, Int.not_lt, Int.not_le] at hc90
                    refine c_skip (x_then (hK29 _ _ ?_))
                    clear hK29 K29
                    refine forget [(6, _)] ⟨rfl, trivial⟩ (fun e => ?_)
                    refine c_seq (fun K32 hK32 => ?_)
                    refine c_reg ?_ -- region 26 expr.go:192
                    refine wl (ro_move rfl) ?_
                    refine wl (ro_assign rfl) ?_
                    refine wl_nil (x_then (hK32 _ _ ?_))
                    clear hK32 K32
                    refine c_ret (x_blkR (x_thenR ?_))
                    refine bp_ret Tryz.results224 rfl ?_
                    unfold expP at hR
                    rw [if_pos (by omega)] at hR hq2
                    cases okP_inj hR
                    exact ⟨hF4, hT1.thru (hG.cx.go hF) F9, hq2⟩
              · try simp only [decide_eq_true_eq, decide_eq_false_iff_not, Bool.not_eq_true', Bool.not_eq_false', Bool.not_eq_eq_eq_not, Bool.not_true, Bool.not_false, beq_iff_eq, bne_iff_ne, ne_eq, beq_eq_false_iff_ne, bne_eq_false_iff_eq, gt_iff_lt, ge_iff_le, Int.not_lt, Int.not_le] at hc76
                rw [if_neg (by omega)] at hR
                refine c_seq (fun K33 hK33 => ?_)
                refine c_reg ?_ -- region 27 expr.go:193
                refine wl (ro_cmp rfl rfl rfl) ?_
                refine wl (ro_assign rfl) ?_
                refine wl_nil (x_then (hK33 _ _ ?_))
                clear hK33 K33
                refine wc_cond rfl (fun hc92 => ?_) (fun hc92 => ?_)
                · try simp only [decide_eq_true_eq, decide_eq_false_iff_not, Bool.not_eq_true', Bool.not_eq_false', Bool.not_eq_eq_eq_not, Bool.not_true, Bool.not_false, beq_iff_eq, bne_iff_ne, ne_eq, beq_eq_false_iff_ne, bne_eq_false_iff_eq, gt_iff_lt, ge_iff_le, Int.not_lt, Int.not_le] at hc92
                  rw [if_pos (by omega)] at hR
                  refine c_seq (fun K34 hK34 => ?_)
                  refine c_seq (fun K35 hK35 => ?_)
                  refine c_reg ?_ -- region 28 expr.go:194
                  refine wl (ro_move rfl) ?_
                  refine wl_call rfl en_218 (function218 (hP.farN hF0) (hT.farN hF0) hne (by omega)) ?_
                  rintro _ u1 ⟨rfl, hq1, F9⟩
                  replace h5 := F9.blkO h5 (by omega)
                  replace hF := hF.trans' F9 (fun _ _ h => h)
                  refine wl (ro_not rfl) ?_
                  refine wl_nil (x_then (hK35 _ _ ?_))
                  clear hK35 K35
                  refine wc_cond rfl (fun hc96 => ?_) (fun hc96 => ?_)
                  · try simp only [decide_eq_true_eq, decide_eq_false_iff_not, Bool.not_eq_true', Bool.not_eq_false', Bool.not_eq_eq_eq_not, Bool.not_true, Bool.not_false, beq_iff_eq, bne_iff_ne, ne_eq, beq_eq_false_iff_ne, bne_eq_false_iff_eq, gt_iff_lt, ge_iff_le, Int.not_lt, Int.not_le] at hc96
                    refine c_seq (fun K36 hK36 => ?_)
                    refine c_reg ?_ -- region 29 expr.go:195
                    refine wl (ro_assign rfl) ?_
                    refine wl_nil (x_then (hK36 _ _ ?_))
                    clear hK36 K36
                    refine c_ret (x_thenR (x_blkR (x_thenR ?_)))
                    refine bp_ret Tryz.results224 rfl ?_
                    rw [if_pos (by omega)] at hR
                    rw [if_neg (by omega)] at hq1
                    cases failP_inj hR
                    exact ⟨hF, rfl, hq1⟩
                  · try simp only [decide_eq_true_eq, decide_eq_false_iff_not, Bool.not_eq_true', Bool.not_eq_false', Bool.not_eq_eq_eq_not, Bool.not_true, Bool.not_false, beq_iff_eq, bne_iff_ne, ne_eq, beq_eq_false_iff_ne, bne_eq_false_iff_eq, gt_iff_lt, ge_iff_le, Int.not_lt, Int.not_le] at hc96
                    rw [if_neg (by omega)] at hR
                    rw [if_pos (by omega)] at hq1
                    refine c_skip (x_then (hK34 _ _ ?_))
                    clear hK34 K34
                    refine forget [(0, _), (1, _), (5, _)] ⟨rfl, rfl, rfl, trivial⟩ (fun e => ?_)
                    refine c_seq (fun K37 hK37 => ?_)
                    rcases R with ⟨ee, pp⟩ | ⟨t1, s1⟩
                    · skip
                      refine c_reg ?_ -- region 30 expr.go:197
                      refine wl (ro_move rfl) ?_
                      refine wl (ro_move rfl) ?_
                      refine wl (ro_fieldAddr (k := 1) rfl fo_182_1) ?_
                      refine wl (ro_loadB rfl sc_3 (by assumption) rfl) ?_
                      refine wl_call rfl en_220 (ih.f12 (hG.at hF hq1 (hG.pe.cm (Cm.adv hG.pe)) (by omega) hG.lo hρ) hlv (by show s.fu < 12; omega) hR) ?_
                      rintro v u3 hr
                      obtain ⟨hF, rfl, hE⟩ := hr.thru hF
                      refine wl (ro_assign rfl) ?_
                      refine wl_nil (x_then (hK37 _ _ ?_))
                      clear hK37 K37
                      refine c_seq (fun K38 hK38 => ?_)
                      refine c_seq (fun K39 hK39 => ?_)
                      refine c_reg ?_ -- region 31 expr.go:198
                      refine wl (ro_move rfl) ?_
                      refine wl (ro_eqPtrNil rfl pt_346 rfl) ?_
                      refine wl_nil (x_then (hK39 _ _ ?_))
                      clear hK39 K39
                      refine wc_condT rfl ?_
                      refine c_seq (fun K40 hK40 => ?_)
                      refine c_reg ?_ -- region 32 expr.go:199
                      refine wl (ro_assign rfl) ?_
                      refine wl_nil (x_then (hK40 _ _ ?_))
                      clear hK40 K40
                      refine c_ret (x_thenR (x_blkR (x_thenR ?_)))
                      refine bp_ret Tryz.results224 rfl ?_
                      exact ⟨hF, rfl, hE⟩
                    · skip
                      refine c_reg ?_ -- region 30 expr.go:197
                      refine wl (ro_move rfl) ?_
                      refine wl (ro_move rfl) ?_
                      refine wl (ro_fieldAddr (k := 1) rfl fo_182_1) ?_
                      refine wl (ro_loadB rfl sc_3 (by assumption) rfl) ?_
                      refine wl_call rfl en_220 (ih.f12 (hG.at hF hq1 (hG.pe.cm (Cm.adv hG.pe)) (by omega) hG.lo hρ) hlv (by show s.fu < 12; omega) hR) ?_
                      rintro v u3 hr
                      obtain ⟨hF, b, rfl, hT1, hP2⟩ := hr.thru hF
                      refine wl (ro_assign rfl) ?_
                      refine wl_nil (x_then (hK37 _ _ ?_))
                      clear hK37 K37
                      refine c_seq (fun K41 hK41 => ?_)
                      refine c_seq (fun K42 hK42 => ?_)
                      refine c_reg ?_ -- region 31 expr.go:198
                      refine wl (ro_move rfl) ?_
                      refine wl (ro_eqPtrNil rfl pt_346 rfl) ?_
                      refine wl_nil (x_then (hK42 _ _ ?_))
                      clear hK42 K42
                      refine wc_condF rfl ?_
                      refine c_skip (x_then (hK41 _ _ ?_))
                      clear hK41 K41
                      refine forget [(7, _)] ⟨rfl, trivial⟩ (fun e => ?_)
                      refine c_seq (fun K43 hK43 => ?_)
                      refine c_reg ?_ -- region 33 expr.go:201
                      refine wl (ro_move rfl) ?_
                      refine wl (ro_mkIface rfl (by kernel_rfl)) ?_
                      refine wl (ro_assign rfl) ?_
                      refine wl_nil (x_then (hK43 _ _ ?_))
                      clear hK43 K43
                      refine c_ret (x_blkR (x_thenR ?_))
                      refine bp_ret Tryz.results224 rfl ?_
                      exact ⟨hF, hT1, hP2⟩
                · try simp only [decide_eq_true_eq, decide_eq_false_iff_not, Bool.not_eq_true', Bool.not_eq_false', Bool.not_eq_eq_eq_not, Bool.not_true, Bool.not_false, beq_iff_eq, bne_iff_ne, ne_eq, beq_eq_false_iff_ne, bne_eq_false_iff_eq, gt_iff_lt, ge_iff_le, Int.not_lt, Int.not_le] at hc92
                  rw [if_neg (by omega)] at hR
                  refine c_seq (fun K44 hK44 => ?_)
                  refine c_reg ?_ -- region 34 expr.go:202
                  refine wl (ro_cmp rfl rfl rfl) ?_
                  refine wl (ro_assign rfl) ?_
                  refine wl_nil (x_then (hK44 _ _ ?_))
                  clear hK44 K44
                  refine wc_cond rfl (fun hc106 => ?_) (fun hc106 => ?_)
                  · try simp only [decide_eq_true_eq, decide_eq_false_iff_not, Bool.not_eq_true', Bool.not_eq_false', Bool.not_eq_eq_eq_not, Bool.not_true, Bool.not_false, beq_iff_eq, bne_iff_ne, ne_eq, beq_eq_false_iff_ne, bne_eq_false_iff_eq, gt_iff_lt, ge_iff_le, Int.not_lt, Int.not_le] at hc106
                    rw [if_pos (by omega)] at hR
                    refine c_seq (fun K45 hK45 => ?_)
                    refine c_reg ?_ -- region 35 expr.go:203
                    refine wl (ro_move rfl) ?_
                    refine wl_call rfl en_176 (next176 (hP.farN hF0) (hT.farN hF0) hne (by omega)) ?_
                    rintro _ u1 ⟨rfl, hP1, F9⟩
                    replace h5 := F9.blkO h5 (by omega)
                    replace hF := hF.trans' F9 (fun _ _ h => h)
                    refine wl_nil (x_then (hK45 _ _ ?_))
                    clear hK45 K45
                    refine forget [(0, _), (1, _), (5, _)] ⟨rfl, rfl, rfl, trivial⟩ (fun e => ?_)
                    refine c_seq (fun K46 hK46 => ?_)
                    rcases bdP_some hR with ⟨⟨ee, pp⟩, hq, rfl⟩ | ⟨t1, s1, hq, hR⟩
                    · skip
                      refine c_reg ?_ -- region 36 expr.go:204
                      refine wl (ro_move rfl) ?_
                      refine wl (ro_move rfl) ?_
                      refine wl (ro_arith rfl rfl rfl (Go.IntWalk.i64_in _ (by omega))) ?_
                      refine wl_call rfl en_225 (ih.l5 (r := 42) (hG.adv hlv hF hP1) (.inr rfl) hq) ?_
                      rintro v u3 hr
                      obtain ⟨hF, rfl, hE⟩ := hr.thru hF
                      refine wl (ro_move rfl) ?_
                      refine wl (ro_extract rfl rfl) ?_
                      refine wl (ro_extract rfl rfl) ?_
                      refine wl (ro_assign rfl) ?_
                      refine wl (ro_assign rfl) ?_
                      refine wl_nil (x_then (hK46 _ _ ?_))
                      clear hK46 K46
                      refine c_seq (fun K47 hK47 => ?_)
                      refine c_seq (fun K48 hK48 => ?_)
                      refine c_reg ?_ -- region 37 expr.go:205
                      refine wl (ro_move rfl) ?_
                      refine wl (ro_not rfl) ?_
                      refine wl_nil (x_then (hK48 _ _ ?_))
                      clear hK48 K48
                      refine wc_condT rfl ?_
                      refine c_seq (fun K49 hK49 => ?_)
                      refine c_reg ?_ -- region 38 expr.go:206
                      refine wl (ro_assign rfl) ?_
                      refine wl_nil (x_then (hK49 _ _ ?_))
                      clear hK49 K49
                      refine c_ret (x_thenR (x_blkR (x_thenR ?_)))
                      refine bp_ret Tryz.results224 rfl ?_
                      exact ⟨hF, rfl, hE⟩
                    · skip
                      refine c_reg ?_ -- region 36 expr.go:204
                      refine wl (ro_move rfl) ?_
                      refine wl (ro_move rfl) ?_
                      refine wl (ro_arith rfl rfl rfl (Go.IntWalk.i64_in _ (by omega))) ?_
                      refine wl_call rfl en_225 (ih.l5 (r := 42) (hG.adv hlv hF hP1) (.inr rfl) hq) ?_
                      rintro v u3 hr
                      replace h5 := hr.1.blkO h5 (by omega)
                      obtain ⟨hF, U, us, rfl, hU, hT1, hP2⟩ := hr.thru hF
                      obtain ⟨ua, uc, rfl⟩ := OwT.form hU
                      refine wl (ro_move rfl) ?_
                      refine wl (ro_extract rfl rfl) ?_
                      refine wl (ro_extract rfl rfl) ?_
                      refine wl (ro_assign rfl) ?_
                      refine wl (ro_assign rfl) ?_
                      refine wl_nil (x_then (hK46 _ _ ?_))
                      clear hK46 K46
                      refine c_seq (fun K50 hK50 => ?_)
                      refine c_seq (fun K51 hK51 => ?_)
                      refine c_reg ?_ -- region 37 expr.go:205
                      refine wl (ro_move rfl) ?_
                      refine wl (ro_not rfl) ?_
                      refine wl_nil (x_then (hK51 _ _ ?_))
                      clear hK51 K51
                      refine wc_condF rfl ?_
                      refine c_skip (x_then (hK50 _ _ ?_))
                      clear hK50 K50
                      refine forget [(5, _), (8, _)] ⟨rfl, rfl, trivial⟩ (fun e => ?_)
                      refine c_seq (fun K52 hK52 => ?_)
                      refine c_reg ?_ -- region 39 expr.go:208
                      refine wl (ro_fieldAddr (k := 1) rfl fo_182_1) ?_
                      refine wl (ro_loadB rfl sc_3 (by assumption) rfl) ?_
                      refine wl (ro_move rfl) ?_
                      refine wl (ro_build rfl bld_391_0_1) ?_
                      refine wl_box rfl rfl (fun b123 w9 hbb123 h123 F9 => ?_)
                      have hbsb123 := Nat.le_trans hF.size hbb123
                      have hneb5b123 : b5 < b123 := Nat.lt_of_lt_of_le h5.lt hbb123
                      replace hF := hF.thenDrew.thenN F9
                      replace h5 := F9.blkN h5
                      have hF123 := (F9)
                      refine wl (ro_mkIface rfl (by kernel_rfl)) ?_
                      refine wl (ro_assign rfl) ?_
                      refine wl_nil (x_then (hK52 _ _ ?_))
                      clear hK52 K52
                      refine c_ret (x_blkR (x_thenR ?_))
                      refine bp_ret Tryz.results224 rfl ?_
                      cases okP_inj hR
                      exact ⟨hF, TrM_table.2 ⟨b123, _, _, us, rfl, ⟨h123, nw_new (by omega)⟩, hU.thruN hF123, hT1.thruN hF123⟩, hP2.farN hF123⟩
                  · try simp only [decide_eq_true_eq, decide_eq_false_iff_not, Bool.not_eq_true', Bool.not_eq_false', Bool.not_eq_eq_eq_not, Bool.not_true, Bool.not_false, beq_iff_eq, bne_iff_ne, ne_eq, beq_eq_false_iff_ne, bne_eq_false_iff_eq, gt_iff_lt, ge_iff_le, Int.not_lt, Int.not_le] at hc106
                    rw [if_neg (by omega)] at hR
                    refine c_skip (x_blk (x_then (hK3 _ _ ?_)))
                    clear hK3 K3
                    refine forget [(0, _)] ⟨rfl, trivial⟩ (fun e => ?_)
                    refine c_seq (fun K53 hK53 => ?_)
                    refine c_reg ?_ -- region 40 expr.go:210
                    refine wl (ro_move rfl) ?_
                    refine wl_call rfl en_77 (fail77 (e := 15) (hP.farN hF0)) ?_
                    rintro _ u1 ⟨rfl, hP1, F9⟩
                    refine wl_nil (x_then (hK53 _ _ ?_))
                    clear hK53 K53
                    refine forget [] trivial (fun e => ?_)
                    refine c_seq (fun K54 hK54 => ?_)
                    refine c_reg ?_ -- region 41 expr.go:211
                    refine wl (ro_assign rfl) ?_
                    refine wl_nil (x_then (hK54 _ _ ?_))
                    clear hK54 K54
                    refine c_ret ?_
                    refine bp_ret Tryz.results224 rfl ?_
                    cases failP_inj hR
                    exact ⟨hF.trans' F9 (fun _ _ h => h), rfl, hP1⟩
end Go.Proofs.Qxb6500568aGreatDoor
