import Derived.Test.Qxb6500570aGreatCg
/- The model's reader: chains of the second level. -/
namespace Go.Proofs.Qxb6500570aGreat
set_option linter.unusedVariables false
set_option linter.unusedSimpArgs false

/-- The good outcome also says that no '+', no '-' follows; '*' and '/' cannot follow. -/
def C2C (n : Nat) : Prop := ∀ {w : World} {pb n0 : Nat} {s : List UInt8} {p : Nat} {ar : List Nd} {bad rg : Bool}, MR w pb n0 s p ar bad → s.length - p ≤ n →
  Ret Tryz.prog 173 [ptr pb, i64c 2, .bool rg] w (fun v w' => GO (C2F rg) (fun ts ar ts' ar' => C2O rg ts ar ts' ar' ∧ tkS (hdT ts') < 2) w' pb n0 s p ar bad v ∧ Fram (fre n0) w w')
def op2 (c : UInt8) : Nat := if c.toNat = 43 then 7 else if c.toNat = 45 then 8 else 0
set_option maxHeartbeats 8000000 in
theorem c2_step' {n : Nat} (hU : C3C n) : C2C n := by
  intro w pb n0 s p ar bad rg h hn
  have hF : Fram (fre n0) w w := Fram.refl _ _
  have hn0 : n0 ≤ pb := by obtain ⟨V, er, at', M, _⟩ := h; exact M.lo
  have hm : fre n0 pb := hn0
  refine ret_of Tryz.func173 rfl Tryz.ntmps173 rfl ?_
  refine c_seq (fun K1 hK1 => ?_)
  refine c_reg ?_ -- region 0 formm.go:245
  refine wl (ro_assign rfl) ?_
  refine wl_nil (x_then (hK1 _ _ ?_))
  clear hK1 K1
  refine forget [(0, _), (1, _), (2, _)] ⟨rfl, rfl, rfl, trivial⟩ (fun e => ?_)
  refine c_seq (fun K2 hK2 => ?_)
  refine c_reg ?_ -- region 1 formm.go:246
  refine wl (ro_assign rfl) ?_
  refine wl_nil (x_then (hK2 _ _ ?_))
  clear hK2 K2
  refine c_mid (fun a' w' => ∃ (p1 : Nat) (ar1 : List Nd) (b : Bool) (z : Int), CS (C2F rg) (fun ts ar ts' ar' => C2O rg ts ar ts' ar' ∧ tkS (hdT ts') < 3) s p ar bad p1 ar1 b z ∧ MR w' pb n0 s p1 ar1 b ∧ Fram (fre n0) w w' ∧ ∃ e, a' = Fr 81 (upds e [(0, ptr pb), (1, i64c 2), (7, icv z)]) []) ?_ ?_
  · skip
    refine c_seq (fun K3 hK3 => ?_)
    refine c_reg ?_ -- region 2 formm.go:247
    refine wl (ro_move rfl) ?_
    refine wl (ro_cmp (r := false) rfl rfl rfl) ?_
    refine wl_nil (x_then (hK3 _ _ ?_))
    clear hK3 K3
    refine wc_condF rfl ?_
    refine c_reg ?_ -- region 4 formm.go:250
    refine wl (ro_move rfl) ?_
    refine wl (ro_move rfl) ?_
    refine wl_call rfl en_173 (hU (rg := rg) h hn) ?_
    rintro _ u1 ⟨hG, G1⟩
    replace hF := hF.transG G1 (by intro k hk h; simp only [one, none', fre] at h ⊢ <;> omega)
    obtain ⟨p1, ar1, b, z, rfl, M1, hcs⟩ := hG.uni
    refine wl (ro_assign rfl) ?_
    refine wl_nil (x_then ?_)
    refine ⟨p1, ar1, b, z, ?_, M1, hF, kp _ ⟨rfl, rfl, rfl, trivial⟩⟩
    rcases hcs with ⟨hb, hf | hf⟩ | ⟨hb, hb2, hz, hp, hl, ho⟩
    · exact .inl ⟨hb, .inl hf⟩
    · exact .inl ⟨hb, .inr (c2_F hf)⟩
    · exact .inr ⟨hb, hb2, hz, hp, hl, c2_O ho.1, ho.2⟩
  clear hF
  rintro a' u2 ⟨p1, ar1, b, z, hcs, M1, hF, e, rfl⟩
  refine c_seq (fun K4 hK4 => ?_)
  refine c_block ?_
  -- loop@r5: live slots [0, 1, 7]
  refine c_loopG (fun m a' w' => ∃ (p1 : Nat) (ar1 : List Nd) (b : Bool) (z : Int), m = (if b = true then 0 else s.length + 1 - p1) ∧ CS (C2F rg) (fun ts ar ts' ar' => C2O rg ts ar ts' ar' ∧ tkS (hdT ts') < 3) s p ar bad p1 ar1 b z ∧ MR w' pb n0 s p1 ar1 b ∧ Fram (fre n0) w w' ∧ ∃ e, a' = Fr 81 (upds e [(0, ptr pb), (1, i64c 2), (7, icv z)]) []) _ ⟨p1, ar1, b, z, rfl, hcs, M1, hF, kp _ ⟨rfl, rfl, rfl, trivial⟩⟩ ?_
  clear hcs M1 hF
  rintro mm a' u3 ⟨p1, ar1, b, z, rfl, hcs, M1, hF, e, rfl⟩
  have Mc := M1
  obtain ⟨V, er, at', M, hbb⟩ := Mc
  have hB := M.blk
  have hpl := M.pl
  have hsl4 := M.sl40
  have hlg := lk_ge s p1
  refine c_seq (fun K5 hK5 => ?_)
  refine c_seq (fun K6 hK6 => ?_)
  refine c_reg ?_ -- region 5 formm.go:252
  refine wl (ro_move rfl) ?_
  refine wl (ro_nilCheck rfl) ?_
  refine wl (ro_fieldAddr (k := 3) rfl fo_168_3) ?_
  refine wl (ro_loadB rfl sc_26 (hB) (rfl)) ?_
  refine wl (ro_cmp (r := decide (er = 0)) rfl rfl (congrArg some (by by_cases h : er = 0 <;> simp [h]))) ?_
  refine wl_nil (x_then (hK6 _ _ ?_))
  clear hK6 K6
  refine wc_cond rfl (fun hc23 => ?_) (fun hc23 => ?_)
  · try simp only [decide_eq_true_eq, decide_eq_false_iff_not, Bool.not_eq_true', Bool.not_eq_false', Bool.not_eq_eq_eq_not, Bool.not_true, Bool.not_false, beq_iff_eq, bne_iff_ne, ne_eq, beq_eq_false_iff_ne, bne_eq_false_iff_eq, gt_iff_lt, ge_iff_le, Int.not_lt, Int.not_le] at hc23
    have hbf : b = false := by rw [← hbb]; simp [hc23]
    obtain ⟨hb2, hz, hp1, hl1, ho1, ht1⟩ : bad = false ∧ z = (rt ar1 : Int) ∧ p < p1 ∧ 1 ≤ ar1.length ∧ C2O rg (tsA s p) ar (tsA s p1) ar1 ∧ tkS (hdT (tsA s p1)) < 3 := by
      rcases hcs with ⟨h1, -⟩ | ⟨-, h2⟩
      · rw [hbf] at h1; cases h1
      · exact h2
    rw [hbf] at M1
    refine c_skip (x_then (hK5 _ _ ?_))
    clear hK5 K5
    refine c_block ?_
    refine forget [(0, _), (1, _), (7, _)] ⟨rfl, rfl, rfl, trivial⟩ (fun e => ?_)
    refine c_seq (fun K7 hK7 => ?_)
    refine c_reg ?_ -- region 6 formm.go:253
    refine wl (ro_move rfl) ?_
    refine wl_call rfl en_132 (lookM M1) ?_
    rintro _ u4 ⟨rfl, M4, G4⟩
    replace hF := hF.transG G4 (by intro k hk h; simp only [one, none', fre] at h ⊢ <;> omega)
    generalize hcc : (lkc s p1 false).1 = c
    refine wl (ro_assign rfl) ?_
    refine wl_nil (x_then (hK7 _ _ ?_))
    clear hK7 K7
    refine forget [(0, _), (1, _), (7, _), (8, _)] ⟨rfl, rfl, rfl, rfl, trivial⟩ (fun e => ?_)
    refine c_seq (fun K8 hK8 => ?_)
    refine c_reg ?_ -- region 7 formm.go:254
    refine wl (ro_assign rfl) ?_
    refine wl_nil (x_then (hK8 _ _ ?_))
    clear hK8 K8
    refine c_mid (fun a' w' => w' = u4 ∧ ∃ e, a' = Fr 81 (upds e [(0, ptr pb), (1, i64c 2), (7, icv z), (9, i64c (op2 c))]) []) ?_ ?_
    · skip
      refine c_seq (fun K9 hK9 => ?_)
      refine c_reg ?_ -- region 8 formm.go:255
      refine wl (ro_move rfl) ?_
      refine wl (ro_cmp (r := false) rfl rfl rfl) ?_
      refine wl (ro_move rfl) ?_
      refine wlg_no rfl ?_
      refine wlg_no rfl ?_
      refine wl (ro_pick rfl rfl rfl) ?_
      refine wl_nil (x_then (hK9 _ _ ?_))
      clear hK9 K9
      refine wc_condF rfl ?_
      refine c_seq (fun K10 hK10 => ?_)
      refine c_reg ?_ -- region 10 formm.go:257
      refine wl (ro_move rfl) ?_
      refine wl (ro_cmp (r := false) rfl rfl rfl) ?_
      refine wl (ro_move rfl) ?_
      refine wlg_no rfl ?_
      refine wlg_no rfl ?_
      refine wl (ro_pick rfl rfl rfl) ?_
      refine wl_nil (x_then (hK10 _ _ ?_))
      clear hK10 K10
      refine wc_condF rfl ?_
      refine c_seq (fun K11 hK11 => ?_)
      refine c_reg ?_ -- region 12 formm.go:259
      refine wl (ro_move rfl) ?_
      refine wl (ro_cmp (r := true) rfl rfl rfl) ?_
      refine wl (ro_move rfl) ?_
      refine wlg_yes rfl (ro_move rfl) ?_
      refine wlg_yes rfl (ro_cmp (r := decide (c.toNat = 43)) rfl rfl (congrArg some (beqc c.toNat 43))) ?_
      refine wl (ro_pick rfl rfl rfl) ?_
      refine wl_nil (x_then (hK11 _ _ ?_))
      clear hK11 K11
      refine wc_cond rfl (fun hc43 => ?_) (fun hc43 => ?_)
      · try simp only [decide_eq_true_eq, decide_eq_false_iff_not, Bool.not_eq_true', Bool.not_eq_false', Bool.not_eq_eq_eq_not, Bool.not_true, Bool.not_false, beq_iff_eq, bne_iff_ne, ne_eq, beq_eq_false_iff_ne, bne_eq_false_iff_eq, gt_iff_lt, ge_iff_le, Int.not_lt, Int.not_le] at hc43
        refine c_reg ?_ -- region 13 formm.go:260
        refine wl (ro_assign rfl) ?_
        refine wl_nil (x_then ?_)
        first
          | exact ⟨rfl, kp _ ⟨rfl, rfl, rfl, by unfold op2; rw [if_pos hc43]; rfl, trivial⟩⟩
          | exact ⟨rfl, kp _ ⟨rfl, rfl, rfl, by unfold op2; rw [if_neg hc43, if_pos hc49]; rfl, trivial⟩⟩
          | exact ⟨rfl, kp _ ⟨rfl, rfl, rfl, by unfold op2; rw [if_neg hc43, if_neg hc49]; rfl, trivial⟩⟩
      · try simp only [decide_eq_true_eq, decide_eq_false_iff_not, Bool.not_eq_true', Bool.not_eq_false', Bool.not_eq_eq_eq_not, Bool.not_true, Bool.not_false, beq_iff_eq, bne_iff_ne, ne_eq, beq_eq_false_iff_ne, bne_eq_false_iff_eq, gt_iff_lt, ge_iff_le, Int.not_lt, Int.not_le] at hc43
        refine c_seq (fun K12 hK12 => ?_)
        refine c_reg ?_ -- region 14 formm.go:261
        refine wl (ro_move rfl) ?_
        refine wl (ro_cmp (r := true) rfl rfl rfl) ?_
        refine wl (ro_move rfl) ?_
        refine wlg_yes rfl (ro_move rfl) ?_
        refine wlg_yes rfl (ro_cmp (r := decide (c.toNat = 45)) rfl rfl (congrArg some (beqc c.toNat 45))) ?_
        refine wl (ro_pick rfl rfl rfl) ?_
        refine wl_nil (x_then (hK12 _ _ ?_))
        clear hK12 K12
        refine wc_cond rfl (fun hc49 => ?_) (fun hc49 => ?_)
        · try simp only [decide_eq_true_eq, decide_eq_false_iff_not, Bool.not_eq_true', Bool.not_eq_false', Bool.not_eq_eq_eq_not, Bool.not_true, Bool.not_false, beq_iff_eq, bne_iff_ne, ne_eq, beq_eq_false_iff_ne, bne_eq_false_iff_eq, gt_iff_lt, ge_iff_le, Int.not_lt, Int.not_le] at hc49
          refine c_reg ?_ -- region 15 formm.go:262
          refine wl (ro_assign rfl) ?_
          refine wl_nil (x_then ?_)
          first
            | exact ⟨rfl, kp _ ⟨rfl, rfl, rfl, by unfold op2; rw [if_pos hc43]; rfl, trivial⟩⟩
            | exact ⟨rfl, kp _ ⟨rfl, rfl, rfl, by unfold op2; rw [if_neg hc43, if_pos hc49]; rfl, trivial⟩⟩
            | exact ⟨rfl, kp _ ⟨rfl, rfl, rfl, by unfold op2; rw [if_neg hc43, if_neg hc49]; rfl, trivial⟩⟩
        · try simp only [decide_eq_true_eq, decide_eq_false_iff_not, Bool.not_eq_true', Bool.not_eq_false', Bool.not_eq_eq_eq_not, Bool.not_true, Bool.not_false, beq_iff_eq, bne_iff_ne, ne_eq, beq_eq_false_iff_ne, bne_eq_false_iff_eq, gt_iff_lt, ge_iff_le, Int.not_lt, Int.not_le] at hc49
          refine c_skip (x_then ?_)
          first
            | exact ⟨rfl, kp _ ⟨rfl, rfl, rfl, by unfold op2; rw [if_pos hc43]; rfl, trivial⟩⟩
            | exact ⟨rfl, kp _ ⟨rfl, rfl, rfl, by unfold op2; rw [if_neg hc43, if_pos hc49]; rfl, trivial⟩⟩
            | exact ⟨rfl, kp _ ⟨rfl, rfl, rfl, by unfold op2; rw [if_neg hc43, if_neg hc49]; rfl, trivial⟩⟩
    rintro a' u5 ⟨rfl, e, rfl⟩
    refine c_seq (fun K13 hK13 => ?_)
    refine c_seq (fun K14 hK14 => ?_)
    refine c_reg ?_ -- region 16 formm.go:264
    refine wl (ro_move rfl) ?_
    refine wl (ro_cmp (r := decide (op2 c = 0)) rfl rfl (congrArg some (beqc (op2 c) 0))) ?_
    refine wl_nil (x_then (hK14 _ _ ?_))
    clear hK14 K14
    refine wc_cond rfl (fun hc51 => ?_) (fun hc51 => ?_)
    · try simp only [decide_eq_true_eq, decide_eq_false_iff_not, Bool.not_eq_true', Bool.not_eq_false', Bool.not_eq_eq_eq_not, Bool.not_true, Bool.not_false, beq_iff_eq, bne_iff_ne, ne_eq, beq_eq_false_iff_ne, bne_eq_false_iff_eq, gt_iff_lt, ge_iff_le, Int.not_lt, Int.not_le] at hc51
      refine c_seq (fun K15 hK15 => ?_)
      refine c_reg ?_ -- region 17 formm.go:265
      refine wl (ro_move rfl) ?_
      refine wl (ro_assign rfl) ?_
      refine wl_nil (x_then (hK15 _ _ ?_))
      clear hK15 K15
      refine c_ret (x_thenR (x_blkR (x_thenR (x_blkR (x_thenR ?_)))))
      refine bp_ret Tryz.results173 rfl ?_
      refine ⟨?_, hF⟩
      cases hb5 : (lkc s p1 false).2 with
      | true =>
        rw [hb5] at M4
        refine .inl ⟨_, _, _, rfl, M4, .inr (c2_char ho1 ?_)⟩
        rcases lk_cs s p1 with ⟨h1, h2⟩ | ⟨h1, h2, h3⟩ | ⟨c', h1, h2, -⟩
        · exact h2
        · rw [h1] at hb5; cases hb5
        · rw [h1] at hb5; cases hb5
      | false =>
        rw [hb5] at M4
        have hlow := (tk_low s p1 hb5 c hcc).2.1
        have hc2 : c ≠ 43 ∧ c ≠ 45 := by
          unfold op2 at hc51
          constructor
          · rintro rfl; simp at hc51
          · rintro rfl; simp at hc51
        refine .inr ⟨_, _, hb2, by rw [hz]; rfl, M4, by omega, hl1, ?_⟩
        rw [tsA_lk]
        have h42 : c ≠ 42 := by
          rintro rfl
          obtain ⟨-, -, hs6, -, hts⟩ := lk_sees hcc (by decide)
          rw [tkw_sgn hs6 rfl rfl] at hts
          have h3 : tkS (hdT (tsA s p1)) = 3 := by rw [hts]; rfl
          omega
        have h47 : c ≠ 47 := by
          rintro rfl
          obtain ⟨-, -, hs6, -, hts⟩ := lk_sees hcc (by decide)
          rw [tkw_sgn hs6 rfl rfl] at hts
          have h3 : tkS (hdT (tsA s p1)) = 3 := by rw [hts]; rfl
          omega
        exact ⟨ho1, hlow h42 h47 hc2.1 hc2.2⟩
    · try simp only [decide_eq_true_eq, decide_eq_false_iff_not, Bool.not_eq_true', Bool.not_eq_false', Bool.not_eq_eq_eq_not, Bool.not_true, Bool.not_false, beq_iff_eq, bne_iff_ne, ne_eq, beq_eq_false_iff_ne, bne_eq_false_iff_eq, gt_iff_lt, ge_iff_le, Int.not_lt, Int.not_le] at hc51
      have hop : (c = 43 ∧ op2 c = 7) ∨ (c = 45 ∧ op2 c = 8) := by
        by_cases h1 : c.toNat = 43
        · exact .inl ⟨(u8_eq (n := 43) (by omega)).2 h1, by unfold op2; rw [if_pos h1]⟩
        · by_cases h2 : c.toNat = 45
          · exact .inr ⟨(u8_eq (n := 45) (by omega)).2 h2, by unfold op2; rw [if_neg h1, if_pos h2]⟩
          · exact absurd (by unfold op2; rw [if_neg h1, if_neg h2]) hc51
      have hkk : (lkc s p1 false).2 = false ∧ lk s p1 < s.length ∧ tsA s p1 = ⟨6, 0, op2 c, zR⟩ :: tsA s (lk s p1 + 1) ∧ strg (op2 c) = 2 := by
        rcases hop with ⟨rfl, h9⟩ | ⟨rfl, h9⟩
        · obtain ⟨-, hb6, hs6, -, hts⟩ := lk_sees hcc (by decide)
          rw [tkw_sgn hs6 rfl rfl] at hts
          rw [h9]
          exact ⟨hb6, (List.getElem?_eq_some_iff.1 hs6).1, hts, rfl⟩
        · obtain ⟨-, hb6, hs6, -, hts⟩ := lk_sees hcc (by decide)
          rw [tkw_sgn hs6 rfl rfl] at hts
          rw [h9]
          exact ⟨hb6, (List.getElem?_eq_some_iff.1 hs6).1, hts, rfl⟩
      obtain ⟨hb6, hsl6, hts, hst⟩ := hkk
      rw [hb6] at M4
      have hhk : (hdT (tsA s p1)).k = 6 := by rw [hts]; rfl
      have hhs : strg (hdT (tsA s p1)).n = 2 := by rw [hts]; exact hst
      rw [hz]
      refine c_skip (x_then (hK13 _ _ ?_))
      clear hK13 K13
      refine c_seq (fun K16 hK16 => ?_)
      refine c_seq (fun K17 hK17 => ?_)
      refine c_reg ?_ -- region 18 formm.go:267
      refine wl (ro_move rfl) ?_
      refine wl (ro_move rfl) ?_
      refine wl_call rfl en_174 (isRange174 M4 (by show ar1.length - 1 < ar1.length; omega)) ?_
      rintro _ u6 ⟨rfl, G6⟩
      replace M4 := MR.far M4 G6
      replace hF := hF.transG G6 (by intro k hk h; simp only [one, none', fre] at h ⊢ <;> omega)
      obtain ⟨V, er, at', M, hbb⟩ := M4
      have hB := M.blk
      refine wl_nil (x_then (hK17 _ _ ?_))
      clear hK17 K17
      refine wc_cond rfl (fun hc55 => ?_) (fun hc55 => ?_)
      · try simp only [decide_eq_true_eq, decide_eq_false_iff_not, Bool.not_eq_true', Bool.not_eq_false', Bool.not_eq_eq_eq_not, Bool.not_true, Bool.not_false, beq_iff_eq, bne_iff_ne, ne_eq, beq_eq_false_iff_ne, bne_eq_false_iff_eq, gt_iff_lt, ge_iff_le, Int.not_lt, Int.not_le] at hc55
        refine c_seq (fun K18 hK18 => ?_)
        refine c_reg ?_ -- region 19 formm.go:268
        refine wl (ro_move rfl) ?_
        refine wl (ro_move rfl) ?_
        refine wl (ro_nilCheck rfl) ?_
        refine wl (ro_fieldAddr (k := 1) rfl fo_168_1) ?_
        refine wl (ro_loadB rfl sc_3 (hB) (rfl)) ?_
        refine wl_call rfl en_133 (failM (x := 3) (by decide) ⟨V, er, at', M, hbb⟩) ?_
        rintro _ u7 ⟨rfl, M7, G7⟩
        replace hF := hF.transG G7 (by intro k hk h; simp only [one, none', fre] at h ⊢ <;> omega)
        refine wl (ro_assign rfl) ?_
        refine wl_nil (x_then (hK18 _ _ ?_))
        clear hK18 K18
        refine c_ret (x_thenR (x_blkR (x_thenR (x_blkR (x_thenR ?_)))))
        refine bp_ret Tryz.results173 rfl ?_
        exact ⟨.inl ⟨_, _, _, rfl, M7, .inr (c2_rngF ho1 hhk hhs hc55)⟩, hF⟩
      · try simp only [decide_eq_true_eq, decide_eq_false_iff_not, Bool.not_eq_true', Bool.not_eq_false', Bool.not_eq_eq_eq_not, Bool.not_true, Bool.not_false, beq_iff_eq, bne_iff_ne, ne_eq, beq_eq_false_iff_ne, bne_eq_false_iff_eq, gt_iff_lt, ge_iff_le, Int.not_lt, Int.not_le] at hc55
        refine c_skip (x_then (hK16 _ _ ?_))
        clear hK16 K16
        refine forget [(0, _), (1, _), (7, _), (9, _)] ⟨rfl, rfl, rfl, rfl, trivial⟩ (fun e => ?_)
        refine c_seq (fun K19 hK19 => ?_)
        refine c_reg ?_ -- region 20 formm.go:270
        refine wl (ro_move rfl) ?_
        refine wl (ro_nilCheck rfl) ?_
        refine wl (ro_fieldAddr (k := 1) rfl fo_168_1) ?_
        refine wl (ro_loadB rfl sc_3 (hB) (rfl)) ?_
        refine wl (ro_arith (r := ((lk s p1 + 1 : Nat) : Int)) rfl rfl rfl (Go.IntWalk.i64_in _ (by omega))) ?_
        refine wl (ro_nilCheck rfl) ?_
        refine wl (ro_fieldAddr (k := 1) rfl fo_168_1) ?_
        refine wl_put rfl rfl rfl sz_3 hB ((by simp)) ((show _ = rdl s (lk s p1 + 1) V er at' from rfl)) (fun w1 hB F1 => ?_)
        replace hF := hF.thenDrew.thenO F1 (by first | exact .inr (by omega) | exact .inl rfl | exact .inl (by assumption))
        have M8 := M.look hB F1 (show lk s p1 + 1 ≤ s.length by omega)
        refine wl_nil (x_then (hK19 _ _ ?_))
        clear hK19 K19
        refine forget [(0, _), (1, _), (7, _), (9, _)] ⟨rfl, rfl, rfl, rfl, trivial⟩ (fun e => ?_)
        refine c_seq (fun K20 hK20 => ?_)
        refine c_reg ?_ -- region 21 formm.go:271
        refine wl (ro_assign rfl) ?_
        refine wl_nil (x_then (hK20 _ _ ?_))
        clear hK20 K20
        refine c_seq (fun K21 hK21 => ?_)
        refine c_seq (fun K22 hK22 => ?_)
        refine c_reg ?_ -- region 22 formm.go:272
        refine wl (ro_move rfl) ?_
        refine wl (ro_cmp (r := false) rfl rfl rfl) ?_
        refine wl_nil (x_then (hK22 _ _ ?_))
        clear hK22 K22
        refine wc_condF rfl ?_
        refine c_reg ?_ -- region 24 formm.go:275
        refine wl (ro_move rfl) ?_
        refine wl_call rfl en_173 (hU (rg := false) (bad := false) ⟨V, er, at', M8, hbb⟩ (by omega)) ?_
        rintro _ u9 ⟨hG, G9⟩
        replace hF := hF.transG G9 (by intro k hk h; simp only [one, none', fre] at h ⊢ <;> omega)
        obtain ⟨p2, ar2, b2, z2, rfl, M9, hcs2⟩ := hG.uni
        refine wl (ro_assign rfl) ?_
        refine wl_nil (x_then (hK21 _ _ ?_))
        clear hK21 K21
        refine c_reg ?_ -- region 25 formm.go:277
        refine wl (ro_move rfl) ?_
        refine wl (ro_move rfl) ?_
        refine wl (ro_move rfl) ?_
        refine wl (ro_move rfl) ?_
        refine wl (ro_build rfl bld_143_0_1_2_3) ?_
        refine wl_call rfl en_175 (add175 (x := nBinI (op2 c) (rt ar1 : Int) z2) M9) ?_
        rintro _ u10 ⟨rfl, M10, G10⟩
        replace hF := hF.transG G10 (by intro k hk h; simp only [one, none', fre] at h ⊢ <;> omega)
        refine wl (ro_assign rfl) ?_
        refine wl_nil (x_blk (x_then ?_))
        have hms : (if b = true then 0 else s.length + 1 - p1) = s.length + 1 - p1 := by rw [hbf]; rfl
        rcases hcs2 with ⟨rfl, hf | hf⟩ | ⟨rfl, -, rfl, hp2, hl2, ho2⟩
        · cases hf
        · exact ⟨0, by omega, p2, _, _, _, rfl, .inl ⟨rfl, .inr (c2_stepF ho1 hhk hhs (by rw [hts]; exact hf))⟩, M10, hF, kp _ ⟨rfl, rfl, rfl, trivial⟩⟩
        · have ho2' : C3O false (tsA s p1).tail ar1 (tsA s p2) ar2 := by rw [hts]; exact ho2.1
          by_cases h24 : ar2.length < 24
          · have hst := c2_step ho1 hhk hhs (by simpa using hc55) ho2' ho2.2 h24
            have hn2 : (hdT (tsA s p1)).n = op2 c := by rw [hts]; rfl
            rw [hn2] at hst
            rw [addX_lt h24] at M10 ⊢
            exact ⟨_, by rw [hms, if_neg (by decide)]; omega, p2, _, _, _, rfl, .inr ⟨rfl, hb2, by rw [rt_app], by omega, by simp, hst, ho2.2⟩, M10, hF, kp _ ⟨rfl, rfl, rfl, trivial⟩⟩
          · rw [addX_ge h24] at M10 ⊢
            exact ⟨0, by omega, p2, _, _, _, rfl, .inl ⟨rfl, .inr (c2_big ho1 hhk hhs ho2' ho2.2 h24)⟩, M10, hF, kp _ ⟨rfl, rfl, rfl, trivial⟩⟩
  · try simp only [decide_eq_true_eq, decide_eq_false_iff_not, Bool.not_eq_true', Bool.not_eq_false', Bool.not_eq_eq_eq_not, Bool.not_true, Bool.not_false, beq_iff_eq, bne_iff_ne, ne_eq, beq_eq_false_iff_ne, bne_eq_false_iff_eq, gt_iff_lt, ge_iff_le, Int.not_lt, Int.not_le] at hc23
    have hbt : b = true := by rw [← hbb]; simp [hc23]
    refine c_exit (x_thenX (x_thenX (x_blkX (x_then (hK4 _ _ ?_)))))
    clear hK5 K5 hK4 K4
    refine forget [] trivial (fun e => ?_)
    refine c_seq (fun K23 hK23 => ?_)
    refine c_reg ?_ -- region 26 formm.go:279
    refine wl (ro_assign rfl) ?_
    refine wl_nil (x_then (hK23 _ _ ?_))
    clear hK23 K23
    refine c_ret ?_
    refine bp_ret Tryz.results173 rfl ?_
    refine ⟨?_, hF⟩
    rcases hcs with ⟨-, hf⟩ | ⟨h1, -⟩
    · rw [hbt] at M1
      exact .inl ⟨_, _, _, rfl, M1, hf⟩
    · rw [hbt] at h1; cases h1

end Go.Proofs.Qxb6500570aGreat
