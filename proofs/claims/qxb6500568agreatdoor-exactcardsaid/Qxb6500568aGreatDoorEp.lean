import Derived.Test.Qxb6500568aGreatDoorEo
/- The real parser: bodies of loops, results. -/
namespace Go.Proofs.Qxb6500568aGreatDoor
open Ieee
set_option linter.unusedVariables false
set_option linter.unusedSimpArgs false

/-- The block b is not finished. -/
def HB (b : Nat) (ow : Nat → Nat) : Nat → Nat := fun c => if c = b then 64 else ow c
theorem HB.ne {b : Nat} {ow : Nat → Nat} {c : Nat} (h : HB b ow c = 63) : c ≠ b := fun q => by
  unfold HB at h
  rw [if_pos q] at h
  cases h
theorem HB.of {b : Nat} {ow : Nat → Nat} {c : Nat} (h : HB b ow c = 63) : ow c = 63 := by
  have q := HB.ne h
  unfold HB at h
  rw [if_neg q] at h
  exact h
section
variable {w u u' : World} {ow : Nat → Nat} {pb tb cap b : Nat} {L : List Tok} {md : Nat} {t : Tr} {vs : List Value} {V : Value}
theorem HB.xt (h : w.heap.size ≤ b) : Xt w ow (HB b (N63 w ow)) := fun c hc => by
  unfold HB
  rw [if_neg (by omega)]
  exact nw_old hc
theorem HB.n63 (hs : w.heap.size ≤ u.heap.size) (hb : b < u.heap.size) : N63 u (HB b (N63 w ow)) = HB b (N63 w ow) := by
  funext c
  show nw _ _ _ _ = _
  by_cases hc : u.heap.size ≤ c
  · rw [nw_new hc]
    unfold HB
    rw [if_neg (by omega)]
    exact (nw_new (by omega)).symm
  · exact nw_old (by omega)
theorem PCx.hb (h : PCx w ow pb tb cap L) (hb : w.heap.size ≤ b) (f : Fram (one pb) w u) : PCx u (HB b (N63 w ow)) pb tb cap L := h.far f (HB.xt hb)
theorem TrM.hbput (h : TrM u (HB b ow) md t vs) (f : Fram (one b) u u') : TrM u' (HB b ow) md t vs := h.far f (fun c hc _ e => HB.ne hc e) (Xt.refl _ _)
theorem SlM.hbput (h : SlM u (HB b ow) V vs) (f : Fram (one b) u u') : SlM u' (HB b ow) V vs := OwT.far h f (fun c hc _ e => HB.ne hc e) (Xt.refl _ _)
theorem TrM.hbdone (h : TrM u (HB b ow) md t vs) : TrM u ow md t vs := h.far2 (Fram.refl none' u) (fun _ _ _ h => h) (fun c _ q => HB.of q)
theorem SlM.hbdone (h : SlM u (HB b ow) V vs) : SlM u ow V vs := h.far2 (Fram.refl none' u) (fun _ _ _ h => h) (fun c _ q => HB.of q)
theorem PGo.hb {s s1 : PS} {lv lv1 : Nat} {ρ ρ1 : Int} (h : PGo w ow pb tb cap L s lv ρ) (hb : w.heap.size ≤ b) (hF : Fram (one pb) w u) (hP : PrV u pb tb cap L s1) (hp : Pe s1) (h1 : lv1 ≤ 13) (h2 : s1.lo ≤ lv1) (h3 : ρ1 = 13 - (lv1 : Int)) : PGo u (HB b (N63 w ow)) pb tb cap L s1 lv1 ρ1 := ⟨h.cx.hb hb hF, hP, hp, h1, h2, h3⟩
end
set_option maxHeartbeats 4000000 in
theorem body181 {f : Nat} {w : World} {ow : Nat → Nat} {pb tb cap : Nat} {L : List Tok} {s : PS} {lv r : Nat} {ρ : Int} {R : PO} (ih : PAll f) (hG : PGo w ow pb tb cap L s lv ρ) (hlv : lv ≤ 12) (hr : s.al + r ≤ 12) (hR : parP (f + 1) 10 lv r 0 dumT s = some R) : Ret Tryz.prog 181 [ptr pb, .int .i64 ρ, i64c r] w (RsL w ow pb tb cap L 3 R) := by
  have hP := hG.pr
  have hne := hG.cx.ne
  have hρ := hG.rm
  have hPl := hG.cx.pl
  have hl13 := hG.l13
  have hF : Fram (one pb) w w := Fram.refl _ _
  have hmpb : one pb pb := rfl
  have hlo := hP.lo
  have ea0 : s.adv.al = s.al := rfl
  have el0 : s.adv.lo = s.lo := rfl
  replace hR : pBody (parP f) lv r s = some R := hR
  unfold pBody expP at hR
  refine ret_of Tryz.func181 rfl Tryz.ntmps181 rfl ?_
  refine c_seq (fun K1 hK1 => ?_)
  refine c_reg ?_ -- region 0 parse.go:254
  refine wl (ro_assign rfl) ?_
  refine wl (ro_assign rfl) ?_
  refine wl_nil (x_then (hK1 _ _ ?_))
  clear hK1 K1
  refine c_seq (fun K2 hK2 => ?_)
  refine c_seq (fun K3 hK3 => ?_)
  refine c_reg ?_ -- region 1 parse.go:255
  refine wl (ro_move rfl) ?_
  refine wl_call rfl en_222 (expect222 hP hG.cx.tk hne (by decide)) ?_
  rintro _ u1 ⟨rfl, hq1, F9⟩
  replace hF := hF.trans' F9 (fun _ _ h => h)
  refine wl (ro_not rfl) ?_
  refine wl_nil (x_then (hK3 _ _ ?_))
  clear hK3 K3
  refine wc_cond rfl (fun hc12 => ?_) (fun hc12 => ?_)
  · try simp only [decide_eq_true_eq, decide_eq_false_iff_not, Bool.not_eq_true', Bool.not_eq_false', Bool.not_eq_eq_eq_not, Bool.not_true, Bool.not_false, beq_iff_eq, bne_iff_ne, ne_eq, beq_eq_false_iff_ne, bne_eq_false_iff_eq, gt_iff_lt, ge_iff_le, Int.not_lt, Int.not_le] at hc12
    refine c_seq (fun K4 hK4 => ?_)
    refine c_reg ?_ -- region 2 parse.go:256
    refine wl (ro_assign rfl) ?_
    refine wl (ro_assign rfl) ?_
    refine wl_nil (x_then (hK4 _ _ ?_))
    clear hK4 K4
    refine c_ret (x_thenR ?_)
    refine bp_ret Tryz.results181 rfl ?_
    rw [if_neg (by omega)] at hR hq1
    cases failP_inj hR
    exact ⟨hF, rfl, hq1⟩
  · try simp only [decide_eq_true_eq, decide_eq_false_iff_not, Bool.not_eq_true', Bool.not_eq_false', Bool.not_eq_eq_eq_not, Bool.not_true, Bool.not_false, beq_iff_eq, bne_iff_ne, ne_eq, beq_eq_false_iff_ne, bne_eq_false_iff_eq, gt_iff_lt, ge_iff_le, Int.not_lt, Int.not_le] at hc12
    rw [if_pos (by omega)] at hR hq1
    obtain ⟨i, hX, hi, hs⟩ := hq1.ex
    unfold prc at hX
    refine c_skip (x_then (hK2 _ _ ?_))
    clear hK2 K2
    refine forget [(0, _), (1, _), (2, _)] ⟨rfl, rfl, rfl, trivial⟩ (fun e => ?_)
    refine c_seq (fun K5 hK5 => ?_)
    refine c_reg ?_ -- region 3 parse.go:258
    refine wl (ro_move rfl) ?_
    refine wl (ro_nilCheck rfl) ?_
    refine wl (ro_fieldAddr (k := 7) rfl fo_186_3) ?_
    refine wl (ro_fieldAddr (k := 0) rfl fo_184_0) ?_
    refine wl (ro_loadB rfl sc_3 (by assumption) rfl) ?_
    refine wl (ro_move rfl) ?_
    refine wl (ro_arith rfl rfl rfl (Go.IntWalk.i64_in _ (by omega))) ?_
    refine wl (ro_nilCheck rfl) ?_
    refine wl (ro_fieldAddr (k := 7) rfl fo_186_3) ?_
    refine wl (ro_fieldAddr (k := 0) rfl fo_184_0) ?_
    refine wl_put rfl rfl rfl sz_3 hX (by simp) (rfl) (fun w1 hX F1 => ?_)
    replace hF := hF.thenDrew.thenO F1 (by first | exact .inr (by omega) | exact .inl rfl | exact .inl (by assumption) | assumption)
    refine wl_nil (x_then (hK5 _ _ ?_))
    clear hK5 K5
    refine forget [(0, _), (1, _), (2, _)] ⟨rfl, rfl, rfl, trivial⟩ (fun e => ?_)
    refine c_seq (fun K6 hK6 => ?_)
    refine c_reg ?_ -- region 4 parse.go:259
    refine wl (ro_move rfl) ?_
    refine wl (ro_nilCheck rfl) ?_
    refine wl (ro_fieldAddr (k := 7) rfl fo_186_3) ?_
    refine wl (ro_fieldAddr (k := 1) rfl fo_184_1) ?_
    refine wl (ro_loadB rfl sc_3 (by assumption) rfl) ?_
    refine wl (ro_arith rfl rfl rfl (Go.IntWalk.i64_in _ (by omega))) ?_
    refine wl (ro_nilCheck rfl) ?_
    refine wl (ro_fieldAddr (k := 7) rfl fo_186_3) ?_
    refine wl (ro_fieldAddr (k := 1) rfl fo_184_1) ?_
    refine wl_put rfl rfl rfl sz_3 hX (by simp) (rfl) (fun w2 hX F2 => ?_)
    replace hF := hF.thenDrew.thenO F2 (by first | exact .inr (by omega) | exact .inl rfl | exact .inl (by assumption) | assumption)
    refine wl_nil (x_then (hK6 _ _ ?_))
    clear hK6 K6
    refine forget [(0, _), (1, _), (2, _)] ⟨rfl, rfl, rfl, trivial⟩ (fun e => ?_)
    refine c_seq (fun K7 hK7 => ?_)
    rcases bdP_some hR with ⟨⟨ee, pp⟩, hq, rfl⟩ | ⟨t1, s1, hq, hR⟩
    · skip
      have hP2 : PrV _ pb tb cap L { s.adv with al := s.al + r, lo := s.lo + 1 } := ⟨⟨i, hX, hi, hs⟩, hr, by show s.lo + 1 ≤ 100; have := hG.lo; omega, hP.fu⟩
      have hpe2 : Pe { s.adv with al := s.al + r, lo := s.lo + 1 } := ⟨(hG.pe.cm (Cm.adv hG.pe)).tk, hG.pe.fu⟩
      have hG2 := hG.at (lv1 := lv + 1) (ρ1 := ρ - 1) hF hP2 hpe2 (by omega) (by have := hG.lo; show s.lo + 1 ≤ lv + 1; omega) (by omega)
      refine c_reg ?_ -- region 5 parse.go:260
      refine wl (ro_move rfl) ?_
      refine wl (ro_move rfl) ?_
      refine wl (ro_arith rfl rfl rfl (Go.IntWalk.i64_in _ (by omega))) ?_
      refine wl_call rfl en_76 (ih.b6 hG2 hq) ?_
      rintro v u3 hr3
      obtain ⟨hF, rfl, hE⟩ := hr3.thru hF
      refine wl (ro_move rfl) ?_
      refine wl (ro_extract rfl rfl) ?_
      refine wl (ro_extract rfl rfl) ?_
      refine wl (ro_assign rfl) ?_
      refine wl (ro_assign rfl) ?_
      refine wl_nil (x_then (hK7 _ _ ?_))
      clear hK7 K7
      refine c_seq (fun K8 hK8 => ?_)
      refine c_seq (fun K9 hK9 => ?_)
      refine c_reg ?_ -- region 6 parse.go:261
      refine wl (ro_move rfl) ?_
      refine wl (ro_not rfl) ?_
      refine wl (ro_move rfl) ?_
      refine wlg_no rfl ?_
      refine wlg_no rfl ?_
      refine wlg_no rfl ?_
      refine wl (ro_pick rfl rfl rfl) ?_
      refine wl_nil (x_then (hK9 _ _ ?_))
      clear hK9 K9
      refine wc_condT rfl ?_
      refine c_seq (fun K10 hK10 => ?_)
      refine c_reg ?_ -- region 7 parse.go:262
      refine wl (ro_assign rfl) ?_
      refine wl (ro_assign rfl) ?_
      refine wl_nil (x_then (hK10 _ _ ?_))
      clear hK10 K10
      refine c_ret (x_thenR ?_)
      refine bp_ret Tryz.results181 rfl ?_
      exact ⟨hF, rfl, hE⟩
    · skip
      have hP2 : PrV _ pb tb cap L { s.adv with al := s.al + r, lo := s.lo + 1 } := ⟨⟨i, hX, hi, hs⟩, hr, by show s.lo + 1 ≤ 100; have := hG.lo; omega, hP.fu⟩
      have hpe2 : Pe { s.adv with al := s.al + r, lo := s.lo + 1 } := ⟨(hG.pe.cm (Cm.adv hG.pe)).tk, hG.pe.fu⟩
      have hG2 := hG.at (lv1 := lv + 1) (ρ1 := ρ - 1) hF hP2 hpe2 (by omega) (by have := hG.lo; show s.lo + 1 ≤ lv + 1; omega) (by omega)
      refine c_reg ?_ -- region 5 parse.go:260
      refine wl (ro_move rfl) ?_
      refine wl (ro_move rfl) ?_
      refine wl (ro_arith rfl rfl rfl (Go.IntWalk.i64_in _ (by omega))) ?_
      refine wl_call rfl en_76 (ih.b6 hG2 hq) ?_
      rintro v u3 hr3
      obtain ⟨hF, U, us, rfl, hU, hT1, hP3⟩ := hr3.thru hF
      obtain ⟨ua, uc, rfl⟩ := OwT.form hU
      obtain ⟨_, _, hSm1, _⟩ := (par_q f).i6 hpe2 t1 s1 hq
      have hal1 : s1.al = s.al + r := hSm1.al
      have hlo1 : s1.lo = s.lo + 1 := hSm1.lo
      have ea1 : s1.adv.al = s1.al := rfl
      have el1 : s1.adv.lo = s1.lo := rfl
      refine wl (ro_move rfl) ?_
      refine wl (ro_extract rfl rfl) ?_
      refine wl (ro_extract rfl rfl) ?_
      refine wl (ro_assign rfl) ?_
      refine wl (ro_assign rfl) ?_
      refine wl_nil (x_then (hK7 _ _ ?_))
      clear hK7 K7
      refine c_seq (fun K11 hK11 => ?_)
      refine c_seq (fun K12 hK12 => ?_)
      refine c_reg ?_ -- region 6 parse.go:261
      refine wl (ro_move rfl) ?_
      refine wl (ro_not rfl) ?_
      refine wl (ro_move rfl) ?_
      refine wlg_yes rfl (ro_move rfl) ?_
      refine wlg_call rfl rfl en_222 (expect222 hP3 (hG.cx.go hF).tk hne (by decide)) ?_
      rintro _ u4 ⟨rfl, hq4, F9⟩
      replace hU := hU.thru (hG.cx.go hF) F9
      replace hT1 := hT1.thru (hG.cx.go hF) F9
      replace hF := hF.trans' F9 (fun _ _ h => h)
      refine wlg_yes rfl (ro_not rfl) ?_
      refine wl (ro_pick rfl rfl rfl) ?_
      refine wl_nil (x_then (hK12 _ _ ?_))
      clear hK12 K12
      refine wc_cond rfl (fun hc45 => ?_) (fun hc45 => ?_)
      · try simp only [decide_eq_true_eq, decide_eq_false_iff_not, Bool.not_eq_true', Bool.not_eq_false', Bool.not_eq_eq_eq_not, Bool.not_true, Bool.not_false, beq_iff_eq, bne_iff_ne, ne_eq, beq_eq_false_iff_ne, bne_eq_false_iff_eq, gt_iff_lt, ge_iff_le, Int.not_lt, Int.not_le] at hc45
        refine c_seq (fun K13 hK13 => ?_)
        refine c_reg ?_ -- region 7 parse.go:262
        refine wl (ro_assign rfl) ?_
        refine wl (ro_assign rfl) ?_
        refine wl_nil (x_then (hK13 _ _ ?_))
        clear hK13 K13
        refine c_ret (x_thenR ?_)
        refine bp_ret Tryz.results181 rfl ?_
        rw [if_neg (by omega)] at hR hq4
        cases failP_inj hR
        exact ⟨hF, rfl, hq4⟩
      · try simp only [decide_eq_true_eq, decide_eq_false_iff_not, Bool.not_eq_true', Bool.not_eq_false', Bool.not_eq_eq_eq_not, Bool.not_true, Bool.not_false, beq_iff_eq, bne_iff_ne, ne_eq, beq_eq_false_iff_ne, bne_eq_false_iff_eq, gt_iff_lt, ge_iff_le, Int.not_lt, Int.not_le] at hc45
        refine c_skip (x_then (hK11 _ _ ?_))
        clear hK11 K11
        refine forget [(0, _), (2, _), (8, _)] ⟨rfl, rfl, rfl, trivial⟩ (fun e => ?_)
        refine c_seq (fun K14 hK14 => ?_)
        rw [if_pos (by omega)] at hR hq4
        obtain ⟨i, hX, hi, hs⟩ := hq4.ex
        unfold prc at hX
        refine c_reg ?_ -- region 8 parse.go:264
        refine wl (ro_move rfl) ?_
        refine wl (ro_nilCheck rfl) ?_
        refine wl (ro_fieldAddr (k := 7) rfl fo_186_3) ?_
        refine wl (ro_fieldAddr (k := 1) rfl fo_184_1) ?_
        refine wl (ro_loadB rfl sc_3 (by assumption) rfl) ?_
        refine wl (ro_arith rfl rfl rfl (Go.IntWalk.i64_in _ (by omega))) ?_
        refine wl (ro_nilCheck rfl) ?_
        refine wl (ro_fieldAddr (k := 7) rfl fo_186_3) ?_
        refine wl (ro_fieldAddr (k := 1) rfl fo_184_1) ?_
        refine wl_put rfl rfl rfl sz_3 hX (by simp) (rfl) (fun w3 hX F3 => ?_)
        have hcx_ := hG.cx.go hF
        replace hF := hF.thenDrew.thenO F3 (by first | exact .inr (by omega) | exact .inl rfl | exact .inl (by assumption) | assumption)
        replace hU := hU.thru hcx_ ((Fram.refl (one pb) _).thenDrew.thenO F3 (.inl rfl))
        replace hT1 := hT1.thru hcx_ ((Fram.refl (one pb) _).thenDrew.thenO F3 (.inl rfl))
        refine wl_nil (x_then (hK14 _ _ ?_))
        clear hK14 K14
        refine forget [(0, _), (2, _), (8, _)] ⟨rfl, rfl, rfl, trivial⟩ (fun e => ?_)
        refine c_seq (fun K15 hK15 => ?_)
        refine c_reg ?_ -- region 9 parse.go:265
        refine wl (ro_move rfl) ?_
        refine wl (ro_nilCheck rfl) ?_
        refine wl (ro_fieldAddr (k := 7) rfl fo_186_3) ?_
        refine wl (ro_fieldAddr (k := 0) rfl fo_184_0) ?_
        refine wl (ro_loadB rfl sc_3 (by assumption) rfl) ?_
        refine wl (ro_move rfl) ?_
        refine wl (ro_arith rfl rfl rfl (Go.IntWalk.i64_in _ (by omega))) ?_
        refine wl (ro_nilCheck rfl) ?_
        refine wl (ro_fieldAddr (k := 7) rfl fo_186_3) ?_
        refine wl (ro_fieldAddr (k := 0) rfl fo_184_0) ?_
        refine wl_put rfl rfl rfl sz_3 hX (by simp) (rfl) (fun w4 hX F4 => ?_)
        have hcx_ := hG.cx.go hF
        replace hF := hF.thenDrew.thenO F4 (by first | exact .inr (by omega) | exact .inl rfl | exact .inl (by assumption) | assumption)
        replace hU := hU.thru hcx_ ((Fram.refl (one pb) _).thenDrew.thenO F4 (.inl rfl))
        replace hT1 := hT1.thru hcx_ ((Fram.refl (one pb) _).thenDrew.thenO F4 (.inl rfl))
        refine wl_nil (x_then (hK15 _ _ ?_))
        clear hK15 K15
        refine forget [(8, _)] ⟨rfl, trivial⟩ (fun e => ?_)
        refine c_seq (fun K16 hK16 => ?_)
        refine c_reg ?_ -- region 10 parse.go:266
        refine wl (ro_move rfl) ?_
        refine wl (ro_assign rfl) ?_
        refine wl (ro_assign rfl) ?_
        refine wl_nil (x_then (hK16 _ _ ?_))
        clear hK16 K16
        refine c_ret ?_
        refine bp_ret Tryz.results181 rfl ?_
        cases okP_inj hR
        have e1 : ((s1.adv.lo : Int) - 1) = ((s1.adv.lo - 1 : Nat) : Int) := by omega
        have e2 : ((s1.adv.al : Int) - r) = ((s1.adv.al - r : Nat) : Int) := by omega
        rw [e1, e2] at hX
        exact ⟨hF, _, us, rfl, hU, hT1, ⟨⟨i, hX, hi, hs⟩, by show s1.adv.al - r ≤ 12; omega, by show s1.adv.lo - 1 ≤ 100; omega, hq4.fu⟩⟩
theorem PrE.far {w w' : World} {pb e p : Nat} {G : Nat → Prop} (h : PrE w pb e p) (f : Fram G w w') (hn : ¬ G pb) : PrE w' pb e p := by
  obtain ⟨cs, h1, h2⟩ := h
  exact ⟨cs, h1, h2.fram f hn⟩
set_option maxHeartbeats 4000000 in
theorem results182 {f : Nat} {w : World} {ow : Nat → Nat} {pb tb cap : Nat} {L : List Tok} {s : PS} {lv p : Nat} {ρ : Int} {R : PO} (ih : PAll f) (hG : PGo w ow pb tb cap L s lv ρ) (hlv : lv ≤ 12) (hR : pRet (parP f) lv s = some R) : Ret Tryz.prog 182 [ptr pb, .int .i64 ρ, i64c p] w (Rs1 w ow pb tb cap L 2 R) := by
  have hP := hG.pr
  have hne := hG.cx.ne
  have hρ := hG.rm
  have hPl := hG.cx.pl
  have hl13 := hG.l13
  have hF : Fram (one pb) w w := Fram.refl _ _
  unfold pRet at hR
  refine ret_of Tryz.func182 rfl Tryz.ntmps182 rfl ?_
  refine c_seq (fun K1 hK1 => ?_)
  refine c_reg ?_ -- region 0 parse.go:105
  refine wl (ro_assign rfl) ?_
  refine wl_nil (x_then (hK1 _ _ ?_))
  clear hK1 K1
  refine forget [(0, _), (1, _), (2, _)] ⟨rfl, rfl, rfl, trivial⟩ (fun e => ?_)
  refine c_seq (fun K2 hK2 => ?_)
  refine c_reg ?_ -- region 1 parse.go:106
  refine wl (ro_move rfl) ?_
  refine wl (ro_build rfl bld_373_0) ?_
  refine wl_box rfl rfl (fun b10 w1 hbb10 h10 F1 => ?_)
  have hbsb10 := Nat.le_trans hF.size hbb10
  replace hF := hF.thenDrew.thenN F1
  have hP1 := hP.farN (F1)
  refine wl (ro_assign rfl) ?_
  refine wl_nil (x_then (hK2 _ _ ?_))
  clear hK2 K2
  refine c_seq (fun K3 hK3 => ?_)
  refine c_seq (fun K4 hK4 => ?_)
  refine c_reg ?_ -- region 2 parse.go:107
  refine wl (ro_move rfl) ?_
  refine wl_call rfl en_134 (ends134 hP1) ?_
  rintro _ u0 ⟨rfl, hw0⟩
  rw [hw0]
  clear hw0 u0
  refine wl_nil (x_then (hK4 _ _ ?_))
  clear hK4 K4
  refine wc_cond rfl (fun hc12 => ?_) (fun hc12 => ?_)
  · try simp only [decide_eq_true_eq, decide_eq_false_iff_not, Bool.not_eq_true', Bool.not_eq_false', Bool.not_eq_eq_eq_not, Bool.not_true, Bool.not_false, beq_iff_eq, bne_iff_ne, ne_eq, beq_eq_false_iff_ne, bne_eq_false_iff_eq, gt_iff_lt, ge_iff_le, Int.not_lt, Int.not_le] at hc12
    rw [if_pos hc12] at hR
    cases okP_inj hR
    refine c_seq (fun K5 hK5 => ?_)
    refine c_reg ?_ -- region 3 parse.go:108
    refine wl (ro_move rfl) ?_
    refine wl (ro_mkIface rfl (by kernel_rfl)) ?_
    refine wl (ro_assign rfl) ?_
    refine wl_nil (x_then (hK5 _ _ ?_))
    clear hK5 K5
    refine c_ret (x_thenR ?_)
    refine bp_ret Tryz.results182 rfl ?_
    exact ⟨hF, TrM_ret0.2 ⟨b10, _, rfl, h10, nw_new (by omega)⟩, hP1⟩
  · try simp only [decide_eq_true_eq, decide_eq_false_iff_not, Bool.not_eq_true', Bool.not_eq_false', Bool.not_eq_eq_eq_not, Bool.not_true, Bool.not_false, beq_iff_eq, bne_iff_ne, ne_eq, beq_eq_false_iff_ne, bne_eq_false_iff_eq, gt_iff_lt, ge_iff_le, Int.not_lt, Int.not_le] at hc12
    rw [if_neg (by simp [hc12])] at hR
    refine c_skip (x_then (hK3 _ _ ?_))
    clear hK3 K3
    refine forget [(0, _), (1, _), (7, _)] ⟨rfl, rfl, rfl, trivial⟩ (fun e => ?_)
    refine c_seq (fun K6 hK6 => ?_)
    rcases bdP_some hR with ⟨⟨ee, pp⟩, hq, rfl⟩ | ⟨t1, s1, hq, hR⟩
    · skip
      have hb10 : w.heap.size ≤ b10 := by omega
      have hG1 := hG.hb (lv1 := lv + 1) (ρ1 := ρ - 1) hb10 hF hP1 hG.pe (by omega) (by have := hG.lo; omega) (by omega)
      refine c_reg ?_ -- region 4 parse.go:110
      refine wl (ro_move rfl) ?_
      refine wl (ro_move rfl) ?_
      refine wl (ro_move rfl) ?_
      refine wl (ro_arith rfl rfl rfl (Go.IntWalk.i64_in _ (by omega))) ?_
      refine wl_call rfl en_180 (ih.e0 (r := 1) hG1 (by decide) (by decide) hq) ?_
      rintro v u3 ⟨F9, rfl, hE⟩
      replace h10 := F9.blkO h10 (by omega)
      replace hF := hF.trans' F9 (fun _ _ h => h)
      refine wl (ro_nilCheck rfl) ?_
      refine wl (ro_fieldAddr (k := 1) rfl fo_373_1) ?_
      refine wl_put rfl rfl rfl sz_290 h10 (by simp) (rfl) (fun w2 h10 F2 => ?_)
      replace hF := hF.thenDrew.thenO F2 (by first | exact .inr (by omega) | exact .inl rfl | exact .inl (by assumption) | assumption)
      have hE4 := hE.far F2 (fun q => by have q : pb = b10 := q; omega)
      refine wl_nil (x_then (hK6 _ _ ?_))
      clear hK6 K6
      refine c_seq (fun K7 hK7 => ?_)
      refine c_seq (fun K8 hK8 => ?_)
      refine c_reg ?_ -- region 5 parse.go:111
      refine wl (ro_move rfl) ?_
      refine wl (ro_nilCheck rfl) ?_
      refine wl (ro_fieldAddr (k := 1) rfl fo_373_1) ?_
      refine wl (ro_loadB rfl sc_290 (by assumption) rfl) ?_
      refine wl (ro_eqNilN rfl ifc_290) ?_
      refine wl_nil (x_then (hK8 _ _ ?_))
      clear hK8 K8
      refine wc_condT rfl ?_
      refine c_seq (fun K9 hK9 => ?_)
      refine c_reg ?_ -- region 6 parse.go:112
      refine wl (ro_assign rfl) ?_
      refine wl_nil (x_then (hK9 _ _ ?_))
      clear hK9 K9
      refine c_ret (x_thenR ?_)
      refine bp_ret Tryz.results182 rfl ?_
      exact ⟨hF, rfl, hE4⟩
    · skip
      have hb10 : w.heap.size ≤ b10 := by omega
      have hG1 := hG.hb (lv1 := lv + 1) (ρ1 := ρ - 1) hb10 hF hP1 hG.pe (by omega) (by have := hG.lo; omega) (by omega)
      refine c_reg ?_ -- region 4 parse.go:110
      refine wl (ro_move rfl) ?_
      refine wl (ro_move rfl) ?_
      refine wl (ro_move rfl) ?_
      refine wl (ro_arith rfl rfl rfl (Go.IntWalk.i64_in _ (by omega))) ?_
      refine wl_call rfl en_180 (ih.e0 (r := 1) hG1 (by decide) (by decide) hq) ?_
      rintro v u3 ⟨F9, hT1, hP3⟩
      obtain ⟨T1, b1, rfl⟩ := hT1.ifc (.inl rfl)
      rw [HB.n63 hF.size h10.lt] at hT1
      have hSm1 : Sm s s1 := ((par_q f).i0 hG.pe t1 s1 hq).2.1
      replace h10 := F9.blkO h10 (by omega)
      replace hF := hF.trans' F9 (fun _ _ h => h)
      refine wl (ro_nilCheck rfl) ?_
      refine wl (ro_fieldAddr (k := 1) rfl fo_373_1) ?_
      refine wl_put rfl rfl rfl sz_290 h10 (by simp) (rfl) (fun w3 h10 F3 => ?_)
      replace hF := hF.thenDrew.thenO F3 (by first | exact .inr (by omega) | exact .inl rfl | exact .inl (by assumption) | assumption)
      have hT4 := hT1.hbput F3
      have hP4 := hP3.far F3 (fun q => by have q : pb = b10 := q; omega)
      refine wl_nil (x_then (hK6 _ _ ?_))
      clear hK6 K6
      refine c_seq (fun K10 hK10 => ?_)
      refine c_seq (fun K11 hK11 => ?_)
      refine c_reg ?_ -- region 5 parse.go:111
      refine wl (ro_move rfl) ?_
      refine wl (ro_nilCheck rfl) ?_
      refine wl (ro_fieldAddr (k := 1) rfl fo_373_1) ?_
      refine wl (ro_loadB rfl sc_290 (by assumption) rfl) ?_
      refine wl (ro_eqNilI rfl ifc_290) ?_
      refine wl_nil (x_then (hK11 _ _ ?_))
      clear hK11 K11
      refine wc_condF rfl ?_
      refine c_skip (x_then (hK10 _ _ ?_))
      clear hK10 K10
      refine c_seq (fun K12 hK12 => ?_)
      refine c_seq (fun K13 hK13 => ?_)
      refine c_reg ?_ -- region 7 parse.go:114
      refine wl (ro_move rfl) ?_
      refine wl_call rfl en_221 (accept221 hP4 (hG.cx.hb hb10 hF).tk hne (by decide)) ?_
      rintro _ u4 ⟨rfl, hq4, F9⟩
      have hT5 := hT4.thru (hG.cx.hb hb10 hF) F9
      replace h10 := F9.blkO h10 (by omega)
      replace hF := hF.trans' F9 (fun _ _ h => h)
      refine wl (ro_not rfl) ?_
      refine wl_nil (x_then (hK13 _ _ ?_))
      clear hK13 K13
      refine wc_cond rfl (fun hc29 => ?_) (fun hc29 => ?_)
      · try simp only [decide_eq_true_eq, decide_eq_false_iff_not, Bool.not_eq_true', Bool.not_eq_false', Bool.not_eq_eq_eq_not, Bool.not_true, Bool.not_false, beq_iff_eq, bne_iff_ne, ne_eq, beq_eq_false_iff_ne, bne_eq_false_iff_eq, gt_iff_lt, ge_iff_le, Int.not_lt, Int.not_le] at hc29
        refine c_seq (fun K14 hK14 => ?_)
        refine c_reg ?_ -- region 8 parse.go:115
        refine wl (ro_move rfl) ?_
        refine wl (ro_mkIface rfl (by kernel_rfl)) ?_
        refine wl (ro_assign rfl) ?_
        refine wl_nil (x_then (hK14 _ _ ?_))
        clear hK14 K14
        refine c_ret (x_thenR ?_)
        refine bp_ret Tryz.results182 rfl ?_
        rw [if_neg (by omega)] at hR hq4
        subst hq4
        cases okP_inj hR
        exact ⟨hF, TrM_ret1.2 ⟨b10, _, _, rfl, ⟨h10, nw_new (by omega)⟩, hT5.hbdone⟩, hP4⟩
      · try simp only [decide_eq_true_eq, decide_eq_false_iff_not, Bool.not_eq_true', Bool.not_eq_false', Bool.not_eq_eq_eq_not, Bool.not_true, Bool.not_false, beq_iff_eq, bne_iff_ne, ne_eq, beq_eq_false_iff_ne, bne_eq_false_iff_eq, gt_iff_lt, ge_iff_le, Int.not_lt, Int.not_le] at hc29
        rw [if_pos (by omega)] at hR hq4
        refine c_skip (x_then (hK12 _ _ ?_))
        clear hK12 K12
        refine forget [(0, _), (1, _), (7, _)] ⟨rfl, rfl, rfl, trivial⟩ (fun e => ?_)
        refine c_seq (fun K15 hK15 => ?_)
        rcases bdP_some hR with ⟨⟨ee, pp⟩, hq, rfl⟩ | ⟨t2, s2, hq, hR⟩
        · skip
          have hpe1 := hG.pe.cm hSm1.toCm
          have hlo1 := hSm1.lo
          have hG2 := hG.hb (lv1 := lv + 1) (ρ1 := ρ - 1) hb10 hF hq4 (hpe1.cm (Cm.adv hpe1)) (by omega) (by have := hG.lo; show s1.lo ≤ lv + 1; omega) (by omega)
          refine c_reg ?_ -- region 9 parse.go:117
          refine wl (ro_move rfl) ?_
          refine wl (ro_move rfl) ?_
          refine wl (ro_move rfl) ?_
          refine wl (ro_arith rfl rfl rfl (Go.IntWalk.i64_in _ (by omega))) ?_
          refine wl_call rfl en_180 (ih.e0 (r := 1) hG2 (by decide) (by decide) hq) ?_
          rintro v u5 ⟨F9, rfl, hE⟩
          replace h10 := F9.blkO h10 (by omega)
          replace hF := hF.trans' F9 (fun _ _ h => h)
          refine wl (ro_nilCheck rfl) ?_
          refine wl (ro_fieldAddr (k := 2) rfl fo_373_2) ?_
          refine wl_put rfl rfl rfl sz_290 h10 (by simp) (rfl) (fun w4 h10 F4 => ?_)
          replace hF := hF.thenDrew.thenO F4 (by first | exact .inr (by omega) | exact .inl rfl | exact .inl (by assumption) | assumption)
          have hE4 := hE.far F4 (fun q => by have q : pb = b10 := q; omega)
          refine wl_nil (x_then (hK15 _ _ ?_))
          clear hK15 K15
          refine c_seq (fun K16 hK16 => ?_)
          refine c_seq (fun K17 hK17 => ?_)
          refine c_reg ?_ -- region 10 parse.go:118
          refine wl (ro_move rfl) ?_
          refine wl (ro_nilCheck rfl) ?_
          refine wl (ro_fieldAddr (k := 2) rfl fo_373_2) ?_
          refine wl (ro_loadB rfl sc_290 (by assumption) rfl) ?_
          refine wl (ro_eqNilN rfl ifc_290) ?_
          refine wl_nil (x_then (hK17 _ _ ?_))
          clear hK17 K17
          refine wc_condT rfl ?_
          refine c_seq (fun K18 hK18 => ?_)
          refine c_reg ?_ -- region 11 parse.go:119
          refine wl (ro_assign rfl) ?_
          refine wl_nil (x_then (hK18 _ _ ?_))
          clear hK18 K18
          refine c_ret (x_thenR ?_)
          refine bp_ret Tryz.results182 rfl ?_
          exact ⟨hF, rfl, hE4⟩
        · skip
          have hpe1 := hG.pe.cm hSm1.toCm
          have hlo1 := hSm1.lo
          have hG2 := hG.hb (lv1 := lv + 1) (ρ1 := ρ - 1) hb10 hF hq4 (hpe1.cm (Cm.adv hpe1)) (by omega) (by have := hG.lo; show s1.lo ≤ lv + 1; omega) (by omega)
          refine c_reg ?_ -- region 9 parse.go:117
          refine wl (ro_move rfl) ?_
          refine wl (ro_move rfl) ?_
          refine wl (ro_move rfl) ?_
          refine wl (ro_arith rfl rfl rfl (Go.IntWalk.i64_in _ (by omega))) ?_
          refine wl_call rfl en_180 (ih.e0 (r := 1) hG2 (by decide) (by decide) hq) ?_
          rintro v u5 ⟨F9, hT2, hP5⟩
          obtain ⟨T2, b2, rfl⟩ := hT2.ifc (.inl rfl)
          rw [HB.n63 hF.size h10.lt] at hT2
          replace hT5 := hT5.thru (hG.cx.hb hb10 hF) F9
          replace h10 := F9.blkO h10 (by omega)
          replace hF := hF.trans' F9 (fun _ _ h => h)
          refine wl (ro_nilCheck rfl) ?_
          refine wl (ro_fieldAddr (k := 2) rfl fo_373_2) ?_
          refine wl_put rfl rfl rfl sz_290 h10 (by simp) (rfl) (fun w5 h10 F5 => ?_)
          replace hF := hF.thenDrew.thenO F5 (by first | exact .inr (by omega) | exact .inl rfl | exact .inl (by assumption) | assumption)
          have hT6 := hT5.hbput F5
          have hT7 := hT2.hbput F5
          have hP6 := hP5.far F5 (fun q => by have q : pb = b10 := q; omega)
          refine wl_nil (x_then (hK15 _ _ ?_))
          clear hK15 K15
          refine c_seq (fun K19 hK19 => ?_)
          refine c_seq (fun K20 hK20 => ?_)
          refine c_reg ?_ -- region 10 parse.go:118
          refine wl (ro_move rfl) ?_
          refine wl (ro_nilCheck rfl) ?_
          refine wl (ro_fieldAddr (k := 2) rfl fo_373_2) ?_
          refine wl (ro_loadB rfl sc_290 (by assumption) rfl) ?_
          refine wl (ro_eqNilI rfl ifc_290) ?_
          refine wl_nil (x_then (hK20 _ _ ?_))
          clear hK20 K20
          refine wc_condF rfl ?_
          refine c_skip (x_then (hK19 _ _ ?_))
          clear hK19 K19
          refine forget [(7, _)] ⟨rfl, trivial⟩ (fun e => ?_)
          refine c_seq (fun K21 hK21 => ?_)
          refine c_reg ?_ -- region 12 parse.go:121
          refine wl (ro_move rfl) ?_
          refine wl (ro_mkIface rfl (by kernel_rfl)) ?_
          refine wl (ro_assign rfl) ?_
          refine wl_nil (x_then (hK21 _ _ ?_))
          clear hK21 K21
          refine c_ret ?_
          refine bp_ret Tryz.results182 rfl ?_
          cases okP_inj hR
          exact ⟨hF, TrM_ret2.2 ⟨b10, _, _, _, rfl, ⟨h10, nw_new (by omega)⟩, hT6.hbdone, hT7.hbdone⟩, hP6⟩
end Go.Proofs.Qxb6500568aGreatDoor
