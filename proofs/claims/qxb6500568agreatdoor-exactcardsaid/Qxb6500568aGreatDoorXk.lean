import Derived.Test.Qxb6500568aGreatDoorXj
/- The model's parser: bodies of loops. -/
namespace Go.Proofs.Qxb6500568aGreatDoor
open Ieee
set_option linter.unusedVariables false
set_option linter.unusedSimpArgs false

set_option maxHeartbeats 8000000 in
theorem body161 {n : Nat} {w : World} {mp : Nat} {np : Value} {src : Str} {U : Value} {G : List (Nd × Nat)} {s : PS} {lv r : Nat} {R : PO} (ih : MAll n) (hG : MG w mp np src U G s lv) (hlv : lv ≤ 12) (hal : s.al + r ≤ 12) (hr4 : r ≤ 4) (hn : 20 * s.len + 12 ≤ n + 1) (hR : Run 10 lv r 0 dumT s R) : Ret Tryz.prog 161 [ptr mp, i64c lv, i64c r] w (MR w mp np src lv U G R) := by
  have hA := hG.a
  have hM := hA.v
  have hlo := hG.lo
  have hbd := hG.bd
  have hF : Fram (arS mp U) w w := Fram.refl _ _
  have hmp : one mp mp := rfl
  have hmpa : arS mp U mp := .inl rfl
  obtain ⟨f, hR⟩ := run_step.1 hR
  replace hR : pBody (parP f) lv r s = some R := hR
  unfold pBody expP at hR
  have ea0 : s.adv.al = s.al := rfl
  have el0 : s.adv.lo = s.lo := rfl
  refine ret_of Tryz.func161 rfl Tryz.ntmps161 rfl ?_
  refine c_seq (fun K1 hK1 => ?_)
  refine c_reg ?_ -- region 0 syntaxm.go:286
  refine wl (ro_assign rfl) ?_
  refine wl_nil (x_then (hK1 _ _ ?_))
  clear hK1 K1
  refine forget [(0, _), (1, _), (2, _)] ⟨rfl, rfl, rfl, trivial⟩ (fun e => ?_)
  refine c_seq (fun K2 hK2 => ?_)
  by_cases hk6 : s.k = 6
  · skip
    rw [if_pos hk6] at hR
    refine c_reg ?_ -- region 1 syntaxm.go:287
    refine wl (ro_move rfl) ?_
    refine wl_call rfl en_211 (wantM (lv := lv) (k := 6) hM (by decide) (by decide) (by omega)) ?_
    rintro _ u1 ⟨rfl, hM1, F1⟩
    rw [if_pos hk6] at hM1
    replace hF := ar_one hF F1
    have hA1 := hA.turn hM1 F1
    have ha1 := adv_len' (s := s) (by omega)
    obtain ⟨pos, hX, hpos⟩ := hM1.ex
    unfold mpc at hX
    have hL : Fram (one mp) u1 u1 := Fram.refl _ _
    refine wl_nil (x_then (hK2 _ _ ?_))
    clear hK2 K2
    refine c_seq (fun K3 hK3 => ?_)
    refine c_seq (fun K4 hK4 => ?_)
    refine c_reg ?_ -- region 2 syntaxm.go:288
    refine wl (ro_move rfl) ?_
    refine wl (ro_nilCheck rfl) ?_
    refine wl (ro_fieldAddr (k := 9) rfl fo_146_5) ?_
    refine wl (ro_loadB rfl sc_54 (by assumption) rfl) ?_
    refine wl (ro_cmp rfl rfl rfl) ?_
    refine wl_nil (x_then (hK4 _ _ ?_))
    clear hK4 K4
    refine wc_cond rfl (fun hc14 => ?_) (fun hc14 => ?_)
    · try simp only [decide_eq_true_eq, decide_eq_false_iff_not, Bool.not_eq_true', Bool.not_eq_false', Bool.not_eq_eq_eq_not, Bool.not_true, Bool.not_false, beq_iff_eq, bne_iff_ne, ne_eq, beq_eq_false_iff_ne, bne_eq_false_iff_eq, gt_iff_lt, ge_iff_le, Int.not_lt, Int.not_le] at hc14
      exact absurd rfl hc14
    · try simp only [decide_eq_true_eq, decide_eq_false_iff_not, Bool.not_eq_true', Bool.not_eq_false', Bool.not_eq_eq_eq_not, Bool.not_true, Bool.not_false, beq_iff_eq, bne_iff_ne, ne_eq, beq_eq_false_iff_ne, bne_eq_false_iff_eq, gt_iff_lt, ge_iff_le, Int.not_lt, Int.not_le] at hc14
      refine c_skip (x_then (hK3 _ _ ?_))
      clear hK3 K3
      refine forget [(0, _), (1, _), (2, _)] ⟨rfl, rfl, rfl, trivial⟩ (fun e => ?_)
      refine c_seq (fun K5 hK5 => ?_)
      refine c_reg ?_ -- region 4 syntaxm.go:291
      refine wl (ro_move rfl) ?_
      refine wl (ro_move rfl) ?_
      refine wl (ro_nilCheck rfl) ?_
      refine wl (ro_fieldAddr (k := 11) rfl fo_146_7) ?_
      refine wl (ro_loadB rfl sc_3 (by assumption) rfl) ?_
      refine wl (ro_move rfl) ?_
      refine wl (ro_arith rfl rfl rfl (Go.IntWalk.i64_in _ (by omega))) ?_
      refine wl (ro_nilCheck rfl) ?_
      refine wl (ro_fieldAddr (k := 11) rfl fo_146_7) ?_
      refine wl_put rfl rfl rfl sz_3 hX (by simp) (rfl) (fun w1 hX F1 => ?_)
      replace hF := hF.thenDrew.thenO F1 (by first | exact .inr (by omega) | exact .inl rfl | exact .inl (by assumption) | assumption)
      replace hL := hL.thenDrew.thenO F1 (by first | exact .inr (by omega) | exact .inl rfl | exact .inl (by assumption) | assumption)
      refine wl_nil (x_then (hK5 _ _ ?_))
      clear hK5 K5
      refine forget [(0, _), (1, _), (2, _)] ⟨rfl, rfl, rfl, trivial⟩ (fun e => ?_)
      refine c_seq (fun K6 hK6 => ?_)
      refine c_reg ?_ -- region 5 syntaxm.go:292
      refine wl (ro_move rfl) ?_
      refine wl (ro_nilCheck rfl) ?_
      refine wl (ro_fieldAddr (k := 12) rfl fo_146_8) ?_
      refine wl (ro_loadB rfl sc_3 (by assumption) rfl) ?_
      refine wl (ro_arith rfl rfl rfl (Go.IntWalk.i64_in _ (by omega))) ?_
      refine wl (ro_nilCheck rfl) ?_
      refine wl (ro_fieldAddr (k := 12) rfl fo_146_8) ?_
      refine wl_put rfl rfl rfl sz_3 hX (by simp) (rfl) (fun w2 hX F2 => ?_)
      replace hF := hF.thenDrew.thenO F2 (by first | exact .inr (by omega) | exact .inl rfl | exact .inl (by assumption) | assumption)
      replace hL := hL.thenDrew.thenO F2 (by first | exact .inr (by omega) | exact .inl rfl | exact .inl (by assumption) | assumption)
      refine wl_nil (x_then (hK6 _ _ ?_))
      clear hK6 K6
      refine forget [(0, _), (1, _), (2, _)] ⟨rfl, rfl, rfl, trivial⟩ (fun e => ?_)
      refine c_seq (fun K7 hK7 => ?_)
      rcases bdP_some hR with ⟨⟨ee, pp⟩, hq, rfl⟩ | ⟨t1, s3, hq, hR⟩
      · skip
        have hM2 : MV _ mp np src U { s.adv with al := s.al + r, lo := s.lo + 1 } := ⟨⟨pos, hX, hpos⟩, hM1.sx, hM1.ne, hal, by show s.lo + 1 ≤ 100; omega, hM1.fu, hM1.sl⟩
        have hA2 := hA1.turn hM2 hL
        have hpe2 : Pe { s.adv with al := s.al + r, lo := s.lo + 1 } := ⟨(hG.pe.cm (Cm.adv hG.pe)).tk, hG.pe.fu⟩
        have hl2 : PS.len { s.adv with al := s.al + r, lo := s.lo + 1 } = s.adv.len := rfl
        have hG2 := hG.at (lv1 := lv + 1) hA2 hpe2 (by show s.lo + 1 ≤ lv + 1; omega) (by omega) (Nat.le_refl _) (by omega)
        refine c_reg ?_ -- region 6 syntaxm.go:293
        refine wl (ro_move rfl) ?_
        refine wl (ro_move rfl) ?_
        refine wl (ro_arith rfl rfl rfl (Go.IntWalk.i64_in _ (by omega))) ?_
        refine wl_call rfl en_49 (ih.bl hG2 (by omega) ⟨f, hq⟩) ?_
        rintro v u3 ⟨F3, ⟨z, rfl⟩, hE⟩
        replace hF := ar_trans hF (fun b q => .inl q) F3
        replace hE : ME u3 mp (lv + 1) ee pp := hE
        obtain ⟨np', src', pos', t', U', al', lo', fu', hXe, h1, h2, h3, h4, h5, h6, h7, h8⟩ := hE
        have h4' : 4 * (lv : Int) - 56 ≤ al' := by have : ((lv + 1 : Nat) : Int) = (lv : Int) + 1 := by omega
                                                   rw [this] at h4; omega
        have h6' : (lv : Int) - 14 ≤ lo' := by have : ((lv + 1 : Nat) : Int) = (lv : Int) + 1 := by omega
                                               rw [this] at h6; omega
        unfold mpc at hXe
        refine wl (ro_assign rfl) ?_
        refine wl_nil (x_then (hK7 _ _ ?_))
        clear hK7 K7
        refine forget [(0, _), (2, _), (7, _)] ⟨rfl, rfl, rfl, trivial⟩ (fun e => ?_)
        refine c_seq (fun K8 hK8 => ?_)
        refine c_reg ?_ -- region 7 syntaxm.go:294
        refine wl (ro_move rfl) ?_
        refine wl (ro_nilCheck rfl) ?_
        refine wl (ro_fieldAddr (k := 12) rfl fo_146_8) ?_
        refine wl (ro_loadB rfl sc_3 (by assumption) rfl) ?_
        refine wl (ro_arith rfl rfl rfl (Go.IntWalk.i64_in _ (by omega))) ?_
        refine wl (ro_nilCheck rfl) ?_
        refine wl (ro_fieldAddr (k := 12) rfl fo_146_8) ?_
        refine wl_put rfl rfl rfl sz_3 hXe (by simp) (rfl) (fun w3 hXe F3 => ?_)
        replace hF := hF.thenDrew.thenO F3 (by first | exact .inr (by omega) | exact .inl rfl | exact .inl (by assumption) | assumption)
        refine wl_nil (x_then (hK8 _ _ ?_))
        clear hK8 K8
        refine forget [(0, _), (2, _), (7, _)] ⟨rfl, rfl, rfl, trivial⟩ (fun e => ?_)
        refine c_seq (fun K9 hK9 => ?_)
        refine c_reg ?_ -- region 8 syntaxm.go:295
        refine wl (ro_move rfl) ?_
        refine wl (ro_move rfl) ?_
        refine wl (ro_nilCheck rfl) ?_
        refine wl (ro_fieldAddr (k := 11) rfl fo_146_7) ?_
        refine wl (ro_loadB rfl sc_3 (by assumption) rfl) ?_
        refine wl (ro_move rfl) ?_
        refine wl (ro_arith rfl rfl rfl (Go.IntWalk.i64_in _ (by omega))) ?_
        refine wl (ro_nilCheck rfl) ?_
        refine wl (ro_fieldAddr (k := 11) rfl fo_146_7) ?_
        refine wl_put rfl rfl rfl sz_3 hXe (by simp) (rfl) (fun w4 hXe F4 => ?_)
        replace hF := hF.thenDrew.thenO F4 (by first | exact .inr (by omega) | exact .inl rfl | exact .inl (by assumption) | assumption)
        refine wl_nil (x_then (hK9 _ _ ?_))
        clear hK9 K9
        refine forget [(0, _), (7, _)] ⟨rfl, rfl, trivial⟩ (fun e => ?_)
        refine c_seq (fun K10 hK10 => ?_)
        refine c_reg ?_ -- region 9 syntaxm.go:296
        refine wl (ro_move rfl) ?_
        refine wl_call rfl en_211 (wantE (lv := lv) ⟨np', src', pos', t', U', al' - r, lo' - 1, fu', hXe, h1, h2, h3, by omega, by omega, by omega, by omega, h8⟩) ?_
        rintro _ u4 ⟨rfl, hE4, F4⟩
        replace hF := ar_one hF F4
        refine wl_nil (x_then (hK10 _ _ ?_))
        clear hK10 K10
        refine forget [(7, _)] ⟨rfl, trivial⟩ (fun e => ?_)
        refine c_seq (fun K11 hK11 => ?_)
        refine c_reg ?_ -- region 10 syntaxm.go:297
        refine wl (ro_move rfl) ?_
        refine wl (ro_assign rfl) ?_
        refine wl_nil (x_then (hK11 _ _ ?_))
        clear hK11 K11
        refine c_ret ?_
        refine bp_ret Tryz.results161 rfl ?_
        exact ⟨hF, ⟨_, rfl⟩, hE4⟩
      · skip
        have hM2 : MV _ mp np src U { s.adv with al := s.al + r, lo := s.lo + 1 } := ⟨⟨pos, hX, hpos⟩, hM1.sx, hM1.ne, hal, by show s.lo + 1 ≤ 100; omega, hM1.fu, hM1.sl⟩
        have hA2 := hA1.turn hM2 hL
        have hpe2 : Pe { s.adv with al := s.al + r, lo := s.lo + 1 } := ⟨(hG.pe.cm (Cm.adv hG.pe)).tk, hG.pe.fu⟩
        have hl2 : PS.len { s.adv with al := s.al + r, lo := s.lo + 1 } = s.adv.len := rfl
        have hG2 := hG.at (lv1 := lv + 1) hA2 hpe2 (by show s.lo + 1 ≤ lv + 1; omega) (by omega) (Nat.le_refl _) (by omega)
        refine c_reg ?_ -- region 6 syntaxm.go:293
        refine wl (ro_move rfl) ?_
        refine wl (ro_move rfl) ?_
        refine wl (ro_arith rfl rfl rfl (Go.IntWalk.i64_in _ (by omega))) ?_
        refine wl_call rfl en_49 (ih.bl hG2 (by omega) ⟨f, hq⟩) ?_
        rintro v u3 ⟨F3, rfl, U3, G3, hA3, hn3, hm3, hl3⟩
        have hz := hF.size
        replace hF := ar_trans hF (fun b q => .inl q) F3
        have hnb := nob_trans (fun b q => .inl q) hz hn3
        obtain ⟨_, _, hSm, _⟩ := (par_q f).i6 hpe2 t1 s3 hq
        have ha3 : s3.al = s.al + r := hSm.al
        have hl3' : s3.lo = s.lo + 1 := hSm.lo
        obtain ⟨pos3, hX3, hp3⟩ := hA3.v.ex
        unfold mpc at hX3
        have hL3 : Fram (one mp) u3 u3 := Fram.refl _ _
        refine wl (ro_assign rfl) ?_
        refine wl_nil (x_then (hK7 _ _ ?_))
        clear hK7 K7
        refine forget [(0, _), (2, _), (7, _)] ⟨rfl, rfl, rfl, trivial⟩ (fun e => ?_)
        refine c_seq (fun K12 hK12 => ?_)
        refine c_reg ?_ -- region 7 syntaxm.go:294
        refine wl (ro_move rfl) ?_
        refine wl (ro_nilCheck rfl) ?_
        refine wl (ro_fieldAddr (k := 12) rfl fo_146_8) ?_
        refine wl (ro_loadB rfl sc_3 (by assumption) rfl) ?_
        refine wl (ro_arith rfl rfl rfl (Go.IntWalk.i64_in _ (by omega))) ?_
        refine wl (ro_nilCheck rfl) ?_
        refine wl (ro_fieldAddr (k := 12) rfl fo_146_8) ?_
        refine wl_put rfl rfl rfl sz_3 hX3 (by simp) (rfl) (fun w5 hX3 F5 => ?_)
        replace hF := hF.thenDrew.thenO F5 (by first | exact .inr (by omega) | exact .inl rfl | exact .inl (by assumption) | assumption)
        replace hL3 := hL3.thenDrew.thenO F5 (by first | exact .inr (by omega) | exact .inl rfl | exact .inl (by assumption) | assumption)
        refine wl_nil (x_then (hK12 _ _ ?_))
        clear hK12 K12
        refine forget [(0, _), (2, _), (7, _)] ⟨rfl, rfl, rfl, trivial⟩ (fun e => ?_)
        refine c_seq (fun K13 hK13 => ?_)
        refine c_reg ?_ -- region 8 syntaxm.go:295
        refine wl (ro_move rfl) ?_
        refine wl (ro_move rfl) ?_
        refine wl (ro_nilCheck rfl) ?_
        refine wl (ro_fieldAddr (k := 11) rfl fo_146_7) ?_
        refine wl (ro_loadB rfl sc_3 (by assumption) rfl) ?_
        refine wl (ro_move rfl) ?_
        refine wl (ro_arith rfl rfl rfl (Go.IntWalk.i64_in _ (by omega))) ?_
        refine wl (ro_nilCheck rfl) ?_
        refine wl (ro_fieldAddr (k := 11) rfl fo_146_7) ?_
        refine wl_put rfl rfl rfl sz_3 hX3 (by simp) (rfl) (fun w6 hX3 F6 => ?_)
        replace hF := hF.thenDrew.thenO F6 (by first | exact .inr (by omega) | exact .inl rfl | exact .inl (by assumption) | assumption)
        replace hL3 := hL3.thenDrew.thenO F6 (by first | exact .inr (by omega) | exact .inl rfl | exact .inl (by assumption) | assumption)
        refine wl_nil (x_then (hK13 _ _ ?_))
        clear hK13 K13
        refine forget [(0, _), (7, _)] ⟨rfl, rfl, trivial⟩ (fun e => ?_)
        refine c_seq (fun K14 hK14 => ?_)
        have e1 : ((s3.lo : Int) - 1) = ((s3.lo - 1 : Nat) : Int) := by omega
        have e2 : ((s3.al : Int) - r) = ((s3.al - r : Nat) : Int) := by omega
        rw [e1, e2] at hX3
        have hM4 : MV _ mp np src U3 { s3 with al := s3.al - r, lo := s3.lo - 1 } := ⟨⟨pos3, hX3, hp3⟩, hA3.v.sx, hA3.v.ne, by show s3.al - r ≤ 12; omega, by show s3.lo - 1 ≤ 100; omega, hA3.v.fu, hA3.v.sl⟩
        have hA4 := hA3.turn hM4 hL3
        refine c_reg ?_ -- region 9 syntaxm.go:296
        refine wl (ro_move rfl) ?_
        refine wl_call rfl en_211 (wantM (lv := lv) (k := 9) hM4 (by decide) (by decide) (by omega)) ?_
        rintro _ u4 ⟨rfl, hq4, F4⟩
        replace hF := ar_one hF F4
        refine wl_nil (x_then (hK14 _ _ ?_))
        clear hK14 K14
        refine forget [(7, _)] ⟨rfl, trivial⟩ (fun e => ?_)
        refine c_seq (fun K15 hK15 => ?_)
        refine c_reg ?_ -- region 10 syntaxm.go:297
        refine wl (ro_move rfl) ?_
        refine wl (ro_assign rfl) ?_
        refine wl_nil (x_then (hK15 _ _ ?_))
        clear hK15 K15
        refine c_ret ?_
        refine bp_ret Tryz.results161 rfl ?_
        by_cases hk9 : s3.k = 9
        · have hk9' : PS.k { s3 with al := s3.al - r, lo := s3.lo - 1 } = 9 := hk9
          rw [if_pos hk9'] at hq4
          rw [if_pos hk9] at hR
          cases okP_inj hR
          exact ⟨hF, rfl, U3, G3, hA4.turn hq4 F4, hnb, hm3, hl3⟩
        · have hk9' : ¬ PS.k { s3 with al := s3.al - r, lo := s3.lo - 1 } = 9 := hk9
          rw [if_neg hk9'] at hq4
          rw [if_neg hk9] at hR
          cases failP_inj hR
          exact ⟨hF, ⟨_, rfl⟩, hq4⟩
  · skip
    rw [if_neg hk6] at hR
    cases failP_inj hR
    refine c_reg ?_ -- region 1 syntaxm.go:287
    refine wl (ro_move rfl) ?_
    refine wl_call rfl en_211 (wantM (lv := lv) (k := 6) hM (by decide) (by decide) (by omega)) ?_
    rintro _ u1 ⟨rfl, hE, F1⟩
    rw [if_neg hk6] at hE
    replace hF := ar_one hF F1
    have hE0 := hE
    obtain ⟨np', src', pos', t', U', al', lo', fu', hXe, h1, h2, h3, h4⟩ := hE
    unfold mpc at hXe
    refine wl_nil (x_then (hK2 _ _ ?_))
    clear hK2 K2
    refine c_seq (fun K16 hK16 => ?_)
    refine c_seq (fun K17 hK17 => ?_)
    refine c_reg ?_ -- region 2 syntaxm.go:288
    refine wl (ro_move rfl) ?_
    refine wl (ro_nilCheck rfl) ?_
    refine wl (ro_fieldAddr (k := 9) rfl fo_146_5) ?_
    refine wl (ro_loadB rfl sc_54 (by assumption) rfl) ?_
    refine wl (ro_cmp rfl rfl rfl) ?_
    refine wl_nil (x_then (hK17 _ _ ?_))
    clear hK17 K17
    refine wc_cond rfl (fun hc14 => ?_) (fun hc14 => ?_)
    · try simp only [decide_eq_true_eq, decide_eq_false_iff_not, Bool.not_eq_true', Bool.not_eq_false', Bool.not_eq_eq_eq_not, Bool.not_true, Bool.not_false, beq_iff_eq, bne_iff_ne, ne_eq, beq_eq_false_iff_ne, bne_eq_false_iff_eq, gt_iff_lt, ge_iff_le, Int.not_lt, Int.not_le] at hc14
      refine c_seq (fun K18 hK18 => ?_)
      refine c_reg ?_ -- region 3 syntaxm.go:289
      refine wl (ro_assign rfl) ?_
      refine wl_nil (x_then (hK18 _ _ ?_))
      clear hK18 K18
      refine c_ret (x_thenR ?_)
      refine bp_ret Tryz.results161 rfl ?_
      exact ⟨hF, ⟨0, rfl⟩, hE0⟩
    · try simp only [decide_eq_true_eq, decide_eq_false_iff_not, Bool.not_eq_true', Bool.not_eq_false', Bool.not_eq_eq_eq_not, Bool.not_true, Bool.not_false, beq_iff_eq, bne_iff_ne, ne_eq, beq_eq_false_iff_ne, bne_eq_false_iff_eq, gt_iff_lt, ge_iff_le, Int.not_lt, Int.not_le] at hc14
      omega
end Go.Proofs.Qxb6500568aGreatDoor
