import Derived.Test.Qxb6500570aGreatEa
/- The real graph: mending. -/
namespace Go.Proofs.Qxb6500570aGreat
set_option linter.unusedVariables false
set_option linter.unusedSimpArgs false

def gset (B : GB) : Nat → Prop := fun b => b = B.g ∨ b = B.l ∨ b = B.n
theorem and24 {a b : Nat} (h : b < 2 ^ 24) : a &&& b < 2 ^ 24 := Nat.lt_of_le_of_lt Nat.and_le_right h
theorem eq0 (a : Nat) : (((a : Nat) : Int) == 0) = decide (a = 0) := beqc a 0

set_option maxHeartbeats 16000000 in
theorem mend115 {w : World} {B : GB} {RL BL : List Nat} {LL NL : List Int} {cy c : Nat} {tc : Int} (ho : GBo B) (V : GrV w B RL BL LL NL cy tc) (htr : TrG RL BL) (hc : c < 24) (hout : ∀ x, x < 24 → x ≠ c → SetL (rF RL) (lF LL) x ∨ CycL (rF RL) (lF LL) x)
    (hcy : cy < 2 ^ 24) (hcb : ∀ x, x < 24 → (cy.testBit x = true ↔ lF LL x = -1)) :
    Ret Tryz.prog 115 [ptr B.g, i64c c] w (fun _ w' => (∃ LL' NL' cy' tc', GrV w' B RL BL LL' NL' cy' tc' ∧ LvOK (rF RL) (lF LL') ∧ cy' < 2 ^ 24 ∧ ∀ x, x < 24 → (cy'.testBit x = true ↔ lF LL' x = -1)) ∧ Fram (gset B) w w') := by
  have hF : Fram (gset B) w w := Fram.refl _ _
  have hm1 : gset B B.g := .inl rfl
  have hm2 : gset B B.l := .inr (.inl rfl)
  have hm3 : gset B B.n := .inr (.inr rfl)
  unfold GBo at ho
  obtain ⟨hB, hR, hQ, hL, hN, hrl, hbl, hll, hnl, hrb, hqb⟩ := V
  refine ret_of Tryz.func115 rfl Tryz.ntmps115 rfl ?_
  refine c_seq (fun K1 hK1 => ?_)
  refine c_reg ?_ -- region 0 mend.go:19
  refine wl (ro_move rfl) ?_
  refine wl_call rfl en_113 (one113 hc) ?_
  rintro _ w9 ⟨rfl, hw⟩
  obtain rfl := hw.symm
  refine wl (ro_assign rfl) ?_
  refine wl_nil (x_then (hK1 _ _ ?_))
  clear hK1 K1
  refine forget [(0, _), (4, _)] ⟨rfl, rfl, trivial⟩ (fun e => ?_)
  refine c_seq (fun K2 hK2 => ?_)
  refine c_reg ?_ -- region 1 mend.go:20
  refine wl (ro_move rfl) ?_
  refine wl (ro_move rfl) ?_
  refine wl_call rfl en_89 (Hang89 (R := rF RL) hB hQ hbl hqb htr (bit_lt hc)) ?_
  rintro _ w9 ⟨⟨h, rfl, hh24, hh1, hh2⟩, hw⟩
  obtain rfl := hw.symm
  have hhc : h.testBit c = true := hh1 c hc (by rw [bit_pow]; simp)
  refine wl (ro_assign rfl) ?_
  refine wl_nil (x_then (hK2 _ _ ?_))
  clear hK2 K2
  refine forget [(0, _), (5, _)] ⟨rfl, rfl, trivial⟩ (fun e => ?_)
  refine c_seq (fun K3 hK3 => ?_)
  refine c_reg ?_ -- region 2 mend.go:21
  refine wl (ro_move rfl) ?_
  refine wl (ro_nilCheck rfl) ?_
  refine wl (ro_fieldAddr (k := 3) rfl fo_91_3) ?_
  refine wl (ro_loadB rfl sc_85 (by assumption) rfl) ?_
  refine wl (ro_move rfl) ?_
  refine wl (ro_dif32 rfl rfl (by omega) (by omega)) ?_
  refine wl (ro_assign rfl) ?_
  refine wl_nil (x_then (hK3 _ _ ?_))
  clear hK3 K3
  refine forget [(0, _), (5, _), (6, _)] ⟨rfl, rfl, rfl, trivial⟩ (fun e => ?_)
  refine c_seq (fun K4 hK4 => ?_)
  have hout' : OutK (rF RL) h (dif cy h) (lF LL) := by
    refine ⟨hh24, dif_lt hcy, fun x hx hxh d hd => ?_, fun x hx hxh => hout x hx (fun e => by rw [e, hhc] at hxh; cases hxh), fun x hx => ?_⟩
    · cases hdh : h.testBit d with
      | false => rfl
      | true => have := hh2 x d hx hd hdh; rw [hxh] at this; cases this
    · rw [dif_bit, Bool.and_eq_true, hcb x hx]
      constructor
      · rintro ⟨a, b⟩; exact ⟨by simpa using b, a⟩
      · rintro ⟨a, b⟩; exact ⟨b, by rw [a]; rfl⟩
  generalize hsk : dif cy h = sick at *
  have hs24 := hout'.sl
  refine c_reg ?_ -- region 3 mend.go:22
  refine wl (ro_assign rfl) ?_
  refine wl_nil (x_then (hK4 _ _ ?_))
  clear hK4 K4
  refine c_seq (fun K5 hK5 => ?_)
  refine c_seq (fun K6 hK6 => ?_)
  refine c_reg ?_ -- region 4 mend.go:23
  refine wl (ro_move rfl) ?_
  refine wl (ro_assign rfl) ?_
  refine wl_nil (x_then (hK6 _ _ ?_))
  clear hK6 K6
  refine c_block ?_
  -- loop@r5: live slots [0, 5, 6, 7, 8]
  refine c_loopG (fun q a' w' => ∃ s ripe NL tc, q = cntN s 24 ∧ s < 2 ^ 24 ∧ ripe < 2 ^ 24 ∧ NL.length = 24 ∧ (∀ j, j < 24 → s.testBit j = true → h.testBit j = true) ∧ (∀ x, x < 24 → h.testBit x = true → s.testBit x = false → lF NL x = (cntN (rF RL x &&& h) 24 : Int)) ∧ (∀ x, x < 24 → (ripe.testBit x = true ↔ (h.testBit x = true ∧ s.testBit x = false ∧ cntN (rF RL x &&& h) 24 = 0 ∧ rF RL x &&& sick = 0))) ∧ Blk w'.heap B.g (gst B cy tc) 91 ∧ Blk w'.heap B.r (rws msc RL) 85 ∧ Blk w'.heap B.b (rws msc BL) 85 ∧ Blk w'.heap B.l (rws ivc LL) 3 ∧ Blk w'.heap B.n (rws ivc NL) 3 ∧ Fram (gset B) w w' ∧ ∃ e, a' = Fr 186 (upds e [(0, ptr B.g), (5, u32c h), (6, u32c sick), (7, u32c ripe), (8, u32c s)]) []) _ ⟨h, 0, NL, tc, rfl, hh24, by decide, hnl, fun _ _ q => q, fun x hx a b => by (rw [a] at b; cases b), fun x hx => ⟨fun q => by simp at q, fun q => by (have := q.1; rw [q.2.1] at this; cases this)⟩, hB, hR, hQ, hL, hN, hF, kp _ ⟨rfl, rfl, rfl, rfl, rfl, trivial⟩⟩ ?_
  clear hB hR hQ hL hN hF
  rintro q a' u1 ⟨s, ripe, NL, tc, rfl, hs, hrp, hnl, i1, i2, i3, hB, hR, hQ, hL, hN, hF, e, rfl⟩
  refine c_seq (fun K7 hK7 => ?_)
  refine c_seq (fun K8 hK8 => ?_)
  refine c_reg ?_ -- region 5 mend.go:23
  refine wl (ro_move rfl) ?_
  refine wl (ro_cmp (r := decide (s ≠ 0)) rfl rfl (congrArg some (bnec s 0))) ?_
  refine wl_nil (x_then (hK8 _ _ ?_))
  clear hK8 K8
  refine wc_cond rfl (fun hc31 => ?_) (fun hc31 => ?_)
  · try simp only [decide_eq_true_eq, decide_eq_false_iff_not, Bool.not_eq_true', Bool.not_eq_false', Bool.not_eq_eq_eq_not, Bool.not_true, Bool.not_false, beq_iff_eq, bne_iff_ne, ne_eq, beq_eq_false_iff_ne, bne_eq_false_iff_eq, gt_iff_lt, ge_iff_le, Int.not_lt, Int.not_le] at hc31
    obtain ⟨k, hk⟩ := low_ex _ _ (Nat.le_refl _) hc31
    have hk24 := hk.lt hs
    have hla := low_and hk
    have hlt : s &&& (s - 1) < 2 ^ 24 := Nat.lt_of_le_of_lt Nat.and_le_left hs
    have hs1 : 1 ≤ s := by omega
    have e1 := cntN_off (s := s) (t := s &&& (s - 1)) hk.1 hla (n := 24) hk24
    have hoff : ∀ j, (s &&& (s - 1)).testBit j = true → s.testBit j = true ∧ j ≠ k := fun j q => by rw [hla] at q; simpa using q
    have hon : ∀ j, (s &&& (s - 1)).testBit j = false → j ≠ k → s.testBit j = false := fun j q hj => by rw [hla] at q; simpa [hj] using q
    have hhk := i1 k hk24 hk.1
    have hRk := hrb k hk24
    have hw24 : rF RL k &&& h < 2 ^ 24 := and24 hh24
    have hwl := cntN_le (rF RL k &&& h) 24
    refine c_skip (x_then (hK7 _ _ ?_))
    clear hK7 K7
    refine forget [(0, _), (5, _), (6, _), (7, _), (8, _)] ⟨rfl, rfl, rfl, rfl, rfl, trivial⟩ (fun e => ?_)
    refine c_seq (fun K9 hK9 => ?_)
    refine c_block ?_
    refine c_seq (fun K10 hK10 => ?_)
    refine c_reg ?_ -- region 7 mend.go:24
    refine wl (ro_move rfl) ?_
    refine wl_call rfl en_114 (first114 (by omega) hk) ?_
    rintro _ _ ⟨rfl, rfl⟩
    refine wl (ro_assign rfl) ?_
    refine wl_nil (x_then (hK10 _ _ ?_))
    clear hK10 K10
    refine forget [(0, _), (5, _), (6, _), (7, _), (8, _), (9, _)] ⟨rfl, rfl, rfl, rfl, rfl, rfl, trivial⟩ (fun e => ?_)
    refine c_seq (fun K11 hK11 => ?_)
    refine c_reg ?_ -- region 8 mend.go:25
    refine wl (ro_move rfl) ?_
    refine wl (ro_nilCheck rfl) ?_
    refine wl (ro_fieldAddr (k := 5) rfl fo_91_5) ?_
    refine wl (ro_loadB rfl sc_3 (by assumption) rfl) ?_
    refine wl (ro_arithW rfl rfl rfl) ?_
    refine wl (ro_nilCheck rfl) ?_
    refine wl (ro_fieldAddr (k := 5) rfl fo_91_5) ?_
    refine wl_put rfl rfl rfl sz_3 hB ((by simp)) ((show _ = gst B cy (IntKind.i64.wrap (tc + 1)) from rfl)) (fun w1 hB F1 => ?_)
    replace hF := hF.thenDrew.thenO F1 (by first | exact .inr (by omega) | exact .inl rfl | exact .inl (by assumption))
    replace hR := F1.blkO hR (by omega)
    replace hQ := F1.blkO hQ (by omega)
    replace hL := F1.blkO hL (by omega)
    replace hN := F1.blkO hN (by omega)
    refine wl_nil (x_then (hK11 _ _ ?_))
    clear hK11 K11
    refine forget [(0, _), (5, _), (6, _), (7, _), (8, _), (9, _)] ⟨rfl, rfl, rfl, rfl, rfl, rfl, trivial⟩ (fun e => ?_)
    refine c_seq (fun K12 hK12 => ?_)
    refine c_reg ?_ -- region 9 mend.go:26
    refine wl (ro_assign rfl) ?_
    refine wl_nil (x_then (hK12 _ _ ?_))
    clear hK12 K12
    refine c_seq (fun K13 hK13 => ?_)
    refine c_seq (fun K14 hK14 => ?_)
    refine c_reg ?_ -- region 10 mend.go:27
    refine wl (ro_move rfl) ?_
    refine wl (ro_nilCheck rfl) ?_
    refine wl (ro_fieldAddr (k := 0) rfl fo_91_0) ?_
    refine wl (ro_loadB rfl sc_57 (by assumption) rfl) ?_
    refine wl (ro_move rfl) ?_
    refine wl (ro_indexAddr (et := 85) (k := 1) rfl rfl se_57 rfl (by omega)) ?_
    refine wl (ro_loadB rfl sc_85 (hR) ((rw_get msc_len (rF_get (RL := RL) (c := k) (by omega)) (j := 0) (by omega) rfl))) ?_
    refine wl (ro_move rfl) ?_
    refine wl (ro_and32 rfl rfl (by omega) (by omega)) ?_
    refine wl (ro_assign rfl) ?_
    refine wl_nil (x_then (hK14 _ _ ?_))
    clear hK14 K14
    refine c_block ?_
    -- loop@r11: live slots [0, 5, 6, 7, 8, 9, 10, 11]
    refine c_loopG (fun q a' w' => ∃ m n, q = cntN m 24 ∧ m < 2 ^ 24 ∧ n + cntN m 24 = cntN (rF RL k &&& h) 24 ∧ Blk w'.heap B.g (gst B cy (IntKind.i64.wrap (tc + 1))) 91 ∧ Blk w'.heap B.r (rws msc RL) 85 ∧ Blk w'.heap B.b (rws msc BL) 85 ∧ Blk w'.heap B.l (rws ivc LL) 3 ∧ Blk w'.heap B.n (rws ivc NL) 3 ∧ Fram (gset B) w w' ∧ ∃ e, a' = Fr 186 (upds e [(0, ptr B.g), (5, u32c h), (6, u32c sick), (7, u32c ripe), (8, u32c s), (9, i64c k), (10, i64c n), (11, u32c m)]) []) _ ⟨rF RL k &&& h, 0, rfl, hw24, by omega, hB, hR, hQ, hL, hN, hF, kp _ ⟨rfl, rfl, rfl, rfl, rfl, rfl, rfl, rfl, trivial⟩⟩ ?_
    clear hB hR hQ hL hN hF
    rintro q a' u2 ⟨m, n, rfl, hm, hmn, hB, hR, hQ, hL, hN, hF, e, rfl⟩
    refine c_seq (fun K15 hK15 => ?_)
    refine c_seq (fun K16 hK16 => ?_)
    refine c_reg ?_ -- region 11 mend.go:27
    refine wl (ro_move rfl) ?_
    refine wl (ro_cmp (r := decide (m ≠ 0)) rfl rfl (congrArg some (bnec m 0))) ?_
    refine wl_nil (x_then (hK16 _ _ ?_))
    clear hK16 K16
    refine wc_cond rfl (fun hc55 => ?_) (fun hc55 => ?_)
    · try simp only [decide_eq_true_eq, decide_eq_false_iff_not, Bool.not_eq_true', Bool.not_eq_false', Bool.not_eq_eq_eq_not, Bool.not_true, Bool.not_false, beq_iff_eq, bne_iff_ne, ne_eq, beq_eq_false_iff_ne, bne_eq_false_iff_eq, gt_iff_lt, ge_iff_le, Int.not_lt, Int.not_le] at hc55
      obtain ⟨k2, hk2⟩ := low_ex _ _ (Nat.le_refl _) hc55
      have hk224 := hk2.lt hm
      have hmlt : m &&& (m - 1) < 2 ^ 24 := Nat.lt_of_le_of_lt Nat.and_le_left hm
      have hm1' : 1 ≤ m := by omega
      have e2 := cntN_off (s := m) (t := m &&& (m - 1)) hk2.1 (low_and hk2) (n := 24) hk224
      refine c_skip (x_then (hK15 _ _ ?_))
      clear hK15 K15
      refine forget [(0, _), (5, _), (6, _), (7, _), (8, _), (9, _), (10, _), (11, _)] ⟨rfl, rfl, rfl, rfl, rfl, rfl, rfl, rfl, trivial⟩ (fun e => ?_)
      refine c_seq (fun K17 hK17 => ?_)
      refine c_block ?_
      refine c_reg ?_ -- region 13 mend.go:28
      refine wl (ro_move rfl) ?_
      refine wl (ro_arith (r := ((n + 1 : Nat) : Int)) rfl rfl rfl (Go.IntWalk.i64_in _ (by omega))) ?_
      refine wl (ro_assign rfl) ?_
      refine wl_nil (x_blk (x_then (hK17 _ _ ?_)))
      clear hK17 K17
      refine c_reg ?_ -- region 12 mend.go:27
      refine wl (ro_move rfl) ?_
      refine wl (ro_move rfl) ?_
      refine wl (ro_arith (r := ((m - 1 : Nat) : Int)) rfl rfl (congrArg some (by omega)) (Go.IntWalk.u32_in _ (by omega))) ?_
      refine wl (ro_and32 rfl rfl (by omega) (by omega)) ?_
      refine wl (ro_assign rfl) ?_
      refine wl_nil (x_then ?_)
      exact ⟨_, by omega, m &&& (m - 1), n + 1, rfl, hmlt, by omega, hB, hR, hQ, hL, hN, hF, kp _ ⟨rfl, rfl, rfl, rfl, rfl, rfl, rfl, rfl, trivial⟩⟩
    · try simp only [decide_eq_true_eq, decide_eq_false_iff_not, Bool.not_eq_true', Bool.not_eq_false', Bool.not_eq_eq_eq_not, Bool.not_true, Bool.not_false, beq_iff_eq, bne_iff_ne, ne_eq, beq_eq_false_iff_ne, bne_eq_false_iff_eq, gt_iff_lt, ge_iff_le, Int.not_lt, Int.not_le] at hc55
      have hm0 : m = 0 := Decidable.not_not.1 hc55
      subst hm0
      have hn : n = cntN (rF RL k &&& h) 24 := by
        have : cntN 0 24 = 0 := cntN_zero (fun j _ => by simp)
        omega
      refine c_exit (x_thenX (x_thenX (x_blkX (x_then (hK13 _ _ ?_)))))
      clear hK15 K15 hK13 K13
      refine forget [(0, _), (5, _), (6, _), (7, _), (8, _), (9, _), (10, _)] ⟨rfl, rfl, rfl, rfl, rfl, rfl, rfl, trivial⟩ (fun e => ?_)
      refine c_seq (fun K18 hK18 => ?_)
      refine c_reg ?_ -- region 14 mend.go:30
      refine wl (ro_move rfl) ?_
      refine wl (ro_nilCheck rfl) ?_
      refine wl (ro_fieldAddr (k := 4) rfl fo_91_4) ?_
      refine wl (ro_loadB rfl sc_79 (by assumption) rfl) ?_
      refine wl (ro_move rfl) ?_
      refine wl (ro_move rfl) ?_
      refine wl (ro_indexAddr (et := 3) (k := 1) rfl rfl se_79 rfl (by omega)) ?_
      refine wl_put rfl rfl rfl sz_3 hN ((rw_fit ivc_len (i := k) (j := 0) (m := 1) (by omega) (by omega) (by omega))) ((rw_put ivc_len (i := k) (j := 0) (x := lF NL k) (x' := (n : Int)) (lF_get (by omega)) (by omega) (by omega) rfl)) (fun w2 hN F2 => ?_)
      replace hF := hF.thenDrew.thenO F2 (by first | exact .inr (by omega) | exact .inl rfl | exact .inl (by assumption))
      replace hB := F2.blkO hB (by omega)
      replace hR := F2.blkO hR (by omega)
      replace hQ := F2.blkO hQ (by omega)
      replace hL := F2.blkO hL (by omega)
      refine wl_nil (x_then (hK18 _ _ ?_))
      clear hK18 K18
      refine forget [(0, _), (5, _), (6, _), (7, _), (8, _), (9, _), (10, _)] ⟨rfl, rfl, rfl, rfl, rfl, rfl, rfl, trivial⟩ (fun e => ?_)
      refine c_seq (fun K19 hK19 => ?_)
      refine c_reg ?_ -- region 15 mend.go:31
      refine wl (ro_move rfl) ?_
      refine wl (ro_cmp rfl rfl rfl) ?_
      refine wl_fork rfl (fun hg71 => ?_) (fun hg71 => ?_)
      · try simp only [decide_eq_true_eq, decide_eq_false_iff_not, Bool.not_eq_true', Bool.not_eq_false', Bool.not_eq_eq_eq_not, Bool.not_true, Bool.not_false, beq_iff_eq, bne_iff_ne, ne_eq, beq_eq_false_iff_ne, bne_eq_false_iff_eq, gt_iff_lt, ge_iff_le, Int.not_lt, Int.not_le] at hg71
        refine wlg_yes rfl (ro_move rfl) ?_
        refine wlg_yes rfl (ro_nilCheck rfl) ?_
        refine wlg_yes rfl (ro_fieldAddr (k := 0) rfl fo_91_0) ?_
        refine wlg_yes rfl (ro_loadB rfl sc_57 (by assumption) rfl) ?_
        refine wlg_yes rfl (ro_move rfl) ?_
        refine wlg_yes rfl (ro_indexAddr (et := 85) (k := 1) rfl rfl se_57 rfl (by omega)) ?_
        refine wlg_yes rfl (ro_loadB rfl sc_85 (hR) ((rw_get msc_len (rF_get (RL := RL) (c := k) (by omega)) (j := 0) (by omega) rfl))) ?_
        refine wlg_yes rfl (ro_move rfl) ?_
        refine wlg_yes rfl (ro_and32 rfl rfl (by omega) (by omega)) ?_
        refine wlg_yes rfl (ro_cmp (r := decide (rF RL k &&& sick = 0)) rfl rfl (congrArg some (eq0 _))) ?_
        refine wl (ro_pick rfl rfl rfl) ?_
        refine wl_nil (x_then (hK19 _ _ ?_))
        clear hK19 K19
        refine wc_cond rfl (fun hc82 => ?_) (fun hc82 => ?_)
        · try simp only [decide_eq_true_eq, decide_eq_false_iff_not, Bool.not_eq_true', Bool.not_eq_false', Bool.not_eq_eq_eq_not, Bool.not_true, Bool.not_false, beq_iff_eq, bne_iff_ne, ne_eq, beq_eq_false_iff_ne, bne_eq_false_iff_eq, gt_iff_lt, ge_iff_le, Int.not_lt, Int.not_le] at hc82
          refine c_reg ?_ -- region 16 mend.go:32
          refine wl (ro_move rfl) ?_
          refine wl (ro_move rfl) ?_
          refine wl_call rfl en_113 (one113 hk24) ?_
          rintro _ _ ⟨rfl, rfl⟩
          have hb2 := bit_lt hk24
          refine wl (ro_or32 rfl rfl (by omega) (by omega)) ?_
          refine wl (ro_assign rfl) ?_
          refine wl_nil (x_blk (x_then (hK9 _ _ ?_)))
          clear hK9 K9
          refine c_reg ?_ -- region 6 mend.go:23
          refine wl (ro_move rfl) ?_
          refine wl (ro_move rfl) ?_
          refine wl (ro_arith (r := ((s - 1 : Nat) : Int)) rfl rfl (congrArg some (by omega)) (Go.IntWalk.u32_in _ (by omega))) ?_
          refine wl (ro_and32 rfl rfl (by omega) (by omega)) ?_
          refine wl (ro_assign rfl) ?_
          refine wl_nil (x_then ?_)
          have hset : ∀ x, lF (NL.set k (n : Int)) x = if x = k then (n : Int) else lF NL x := fun x => lF_set (by omega)
          have j2 : ∀ x, x < 24 → h.testBit x = true → (s &&& (s - 1)).testBit x = false → lF (NL.set k (n : Int)) x = (cntN (rF RL x &&& h) 24 : Int) := by
            intro x hx a b
            rw [hset]
            by_cases ex : x = k
            · subst ex; rw [if_pos rfl, hn]
            · rw [if_neg ex]; exact i2 x hx a (hon x b ex)
          have j3 : ∀ x, x < 24 → ((ripe.testBit x = true ∨ (x = k ∧ cntN (rF RL k &&& h) 24 = 0 ∧ rF RL k &&& sick = 0)) ↔ (h.testBit x = true ∧ (s &&& (s - 1)).testBit x = false ∧ cntN (rF RL x &&& h) 24 = 0 ∧ rF RL x &&& sick = 0)) := by
            intro x hx
            constructor
            · rintro (a | ⟨rfl, a, b⟩)
              · obtain ⟨p1, p2, p3⟩ := (i3 x hx).1 a
                exact ⟨p1, by rw [hla, p2]; rfl, p3⟩
              · exact ⟨hhk, by rw [hla]; simp, a, b⟩
            · rintro ⟨p1, p2, p3, p4⟩
              by_cases ex : x = k
              · subst ex; exact .inr ⟨rfl, p3, p4⟩
              · exact .inl ((i3 x hx).2 ⟨p1, hon x p2 ex, p3, p4⟩)
          first
            | (refine ⟨_, by omega, s &&& (s - 1), ripe ||| 2 ^ k, NL.set k (n : Int), _, rfl, hlt, or_lt hrp hb2, by rw [List.length_set]; exact hnl, fun j hj q => i1 j hj (hoff j q).1, j2, fun x hx => ?_, hB, hR, hQ, hL, hN, hF, kp _ ⟨rfl, rfl, rfl, rfl, rfl, trivial⟩⟩
               rw [← j3 x hx, Nat.testBit_or, Bool.or_eq_true, bit_pow, decide_eq_true_eq]
               have hz : cntN (rF RL k &&& h) 24 = 0 := by omega
               constructor
               · rintro (a | a)
                 · exact .inl a
                 · exact .inr ⟨a, hz, by assumption⟩
               · rintro (a | a)
                 · exact .inl a
                 · exact .inr a.1)
            | (refine ⟨_, by omega, s &&& (s - 1), ripe, NL.set k (n : Int), _, rfl, hlt, hrp, by rw [List.length_set]; exact hnl, fun j hj q => i1 j hj (hoff j q).1, j2, fun x hx => ?_, hB, hR, hQ, hL, hN, hF, kp _ ⟨rfl, rfl, rfl, rfl, rfl, trivial⟩⟩
               rw [← j3 x hx]
               constructor
               · exact .inl
               · rintro (a | ⟨-, a, b⟩)
                 · exact a
                 · first
                     | exact absurd b (by assumption)
                     | (exfalso; omega))
        · try simp only [decide_eq_true_eq, decide_eq_false_iff_not, Bool.not_eq_true', Bool.not_eq_false', Bool.not_eq_eq_eq_not, Bool.not_true, Bool.not_false, beq_iff_eq, bne_iff_ne, ne_eq, beq_eq_false_iff_ne, bne_eq_false_iff_eq, gt_iff_lt, ge_iff_le, Int.not_lt, Int.not_le] at hc82
          refine c_skip (x_blk (x_then (hK9 _ _ ?_)))
          clear hK9 K9
          refine c_reg ?_ -- region 6 mend.go:23
          refine wl (ro_move rfl) ?_
          refine wl (ro_move rfl) ?_
          refine wl (ro_arith (r := ((s - 1 : Nat) : Int)) rfl rfl (congrArg some (by omega)) (Go.IntWalk.u32_in _ (by omega))) ?_
          refine wl (ro_and32 rfl rfl (by omega) (by omega)) ?_
          refine wl (ro_assign rfl) ?_
          refine wl_nil (x_then ?_)
          have hset : ∀ x, lF (NL.set k (n : Int)) x = if x = k then (n : Int) else lF NL x := fun x => lF_set (by omega)
          have j2 : ∀ x, x < 24 → h.testBit x = true → (s &&& (s - 1)).testBit x = false → lF (NL.set k (n : Int)) x = (cntN (rF RL x &&& h) 24 : Int) := by
            intro x hx a b
            rw [hset]
            by_cases ex : x = k
            · subst ex; rw [if_pos rfl, hn]
            · rw [if_neg ex]; exact i2 x hx a (hon x b ex)
          have j3 : ∀ x, x < 24 → ((ripe.testBit x = true ∨ (x = k ∧ cntN (rF RL k &&& h) 24 = 0 ∧ rF RL k &&& sick = 0)) ↔ (h.testBit x = true ∧ (s &&& (s - 1)).testBit x = false ∧ cntN (rF RL x &&& h) 24 = 0 ∧ rF RL x &&& sick = 0)) := by
            intro x hx
            constructor
            · rintro (a | ⟨rfl, a, b⟩)
              · obtain ⟨p1, p2, p3⟩ := (i3 x hx).1 a
                exact ⟨p1, by rw [hla, p2]; rfl, p3⟩
              · exact ⟨hhk, by rw [hla]; simp, a, b⟩
            · rintro ⟨p1, p2, p3, p4⟩
              by_cases ex : x = k
              · subst ex; exact .inr ⟨rfl, p3, p4⟩
              · exact .inl ((i3 x hx).2 ⟨p1, hon x p2 ex, p3, p4⟩)
          first
            | (refine ⟨_, by omega, s &&& (s - 1), ripe ||| 2 ^ k, NL.set k (n : Int), _, rfl, hlt, or_lt hrp hb2, by rw [List.length_set]; exact hnl, fun j hj q => i1 j hj (hoff j q).1, j2, fun x hx => ?_, hB, hR, hQ, hL, hN, hF, kp _ ⟨rfl, rfl, rfl, rfl, rfl, trivial⟩⟩
               rw [← j3 x hx, Nat.testBit_or, Bool.or_eq_true, bit_pow, decide_eq_true_eq]
               have hz : cntN (rF RL k &&& h) 24 = 0 := by omega
               constructor
               · rintro (a | a)
                 · exact .inl a
                 · exact .inr ⟨a, hz, by assumption⟩
               · rintro (a | a)
                 · exact .inl a
                 · exact .inr a.1)
            | (refine ⟨_, by omega, s &&& (s - 1), ripe, NL.set k (n : Int), _, rfl, hlt, hrp, by rw [List.length_set]; exact hnl, fun j hj q => i1 j hj (hoff j q).1, j2, fun x hx => ?_, hB, hR, hQ, hL, hN, hF, kp _ ⟨rfl, rfl, rfl, rfl, rfl, trivial⟩⟩
               rw [← j3 x hx]
               constructor
               · exact .inl
               · rintro (a | ⟨-, a, b⟩)
                 · exact a
                 · first
                     | exact absurd b (by assumption)
                     | (exfalso; omega))
      · try simp only [decide_eq_true_eq, decide_eq_false_iff_not, Bool.not_eq_true', Bool.not_eq_false', Bool.not_eq_eq_eq_not, Bool.not_true, Bool.not_false, beq_iff_eq, bne_iff_ne, ne_eq, beq_eq_false_iff_ne, bne_eq_false_iff_eq, gt_iff_lt, ge_iff_le, Int.not_lt, Int.not_le] at hg71
        refine wlg_no rfl ?_
        refine wlg_no rfl ?_
        refine wlg_no rfl ?_
        refine wlg_no rfl ?_
        refine wlg_no rfl ?_
        refine wlg_no rfl ?_
        refine wlg_no rfl ?_
        refine wlg_no rfl ?_
        refine wlg_no rfl ?_
        refine wlg_no rfl ?_
        refine wl (ro_pick rfl rfl rfl) ?_
        refine wl_nil (x_then (hK19 _ _ ?_))
        clear hK19 K19
        refine wc_condF rfl ?_
        refine c_skip (x_blk (x_then (hK9 _ _ ?_)))
        clear hK9 K9
        refine c_reg ?_ -- region 6 mend.go:23
        refine wl (ro_move rfl) ?_
        refine wl (ro_move rfl) ?_
        refine wl (ro_arith (r := ((s - 1 : Nat) : Int)) rfl rfl (congrArg some (by omega)) (Go.IntWalk.u32_in _ (by omega))) ?_
        refine wl (ro_and32 rfl rfl (by omega) (by omega)) ?_
        refine wl (ro_assign rfl) ?_
        refine wl_nil (x_then ?_)
        have hset : ∀ x, lF (NL.set k (n : Int)) x = if x = k then (n : Int) else lF NL x := fun x => lF_set (by omega)
        have j2 : ∀ x, x < 24 → h.testBit x = true → (s &&& (s - 1)).testBit x = false → lF (NL.set k (n : Int)) x = (cntN (rF RL x &&& h) 24 : Int) := by
          intro x hx a b
          rw [hset]
          by_cases ex : x = k
          · subst ex; rw [if_pos rfl, hn]
          · rw [if_neg ex]; exact i2 x hx a (hon x b ex)
        have j3 : ∀ x, x < 24 → ((ripe.testBit x = true ∨ (x = k ∧ cntN (rF RL k &&& h) 24 = 0 ∧ rF RL k &&& sick = 0)) ↔ (h.testBit x = true ∧ (s &&& (s - 1)).testBit x = false ∧ cntN (rF RL x &&& h) 24 = 0 ∧ rF RL x &&& sick = 0)) := by
          intro x hx
          constructor
          · rintro (a | ⟨rfl, a, b⟩)
            · obtain ⟨p1, p2, p3⟩ := (i3 x hx).1 a
              exact ⟨p1, by rw [hla, p2]; rfl, p3⟩
            · exact ⟨hhk, by rw [hla]; simp, a, b⟩
          · rintro ⟨p1, p2, p3, p4⟩
            by_cases ex : x = k
            · subst ex; exact .inr ⟨rfl, p3, p4⟩
            · exact .inl ((i3 x hx).2 ⟨p1, hon x p2 ex, p3, p4⟩)
        first
          | (refine ⟨_, by omega, s &&& (s - 1), ripe ||| 2 ^ k, NL.set k (n : Int), _, rfl, hlt, or_lt hrp hb2, by rw [List.length_set]; exact hnl, fun j hj q => i1 j hj (hoff j q).1, j2, fun x hx => ?_, hB, hR, hQ, hL, hN, hF, kp _ ⟨rfl, rfl, rfl, rfl, rfl, trivial⟩⟩
             rw [← j3 x hx, Nat.testBit_or, Bool.or_eq_true, bit_pow, decide_eq_true_eq]
             have hz : cntN (rF RL k &&& h) 24 = 0 := by omega
             constructor
             · rintro (a | a)
               · exact .inl a
               · exact .inr ⟨a, hz, by assumption⟩
             · rintro (a | a)
               · exact .inl a
               · exact .inr a.1)
          | (refine ⟨_, by omega, s &&& (s - 1), ripe, NL.set k (n : Int), _, rfl, hlt, hrp, by rw [List.length_set]; exact hnl, fun j hj q => i1 j hj (hoff j q).1, j2, fun x hx => ?_, hB, hR, hQ, hL, hN, hF, kp _ ⟨rfl, rfl, rfl, rfl, rfl, trivial⟩⟩
             rw [← j3 x hx]
             constructor
             · exact .inl
             · rintro (a | ⟨-, a, b⟩)
               · exact a
               · first
                   | exact absurd b (by assumption)
                   | (exfalso; omega))
  · try simp only [decide_eq_true_eq, decide_eq_false_iff_not, Bool.not_eq_true', Bool.not_eq_false', Bool.not_eq_eq_eq_not, Bool.not_true, Bool.not_false, beq_iff_eq, bne_iff_ne, ne_eq, beq_eq_false_iff_ne, bne_eq_false_iff_eq, gt_iff_lt, ge_iff_le, Int.not_lt, Int.not_le] at hc31
    have hs0 : s = 0 := Decidable.not_not.1 hc31
    subst hs0
    have hKI : KI (rF RL) h sick (lF LL) h ripe (lF NL) := KI.start hh24 hrp (fun x hx a => i2 x hx a (by simp)) (fun x hx => by rw [i3 x hx]; simp)
    refine c_exit (x_thenX (x_thenX (x_blkX (x_then (hK5 _ _ ?_)))))
    clear hK7 K7 hK5 K5
    refine forget [(0, _), (5, _), (6, _), (7, _)] ⟨rfl, rfl, rfl, rfl, trivial⟩ (fun e => ?_)
    refine c_seq (fun K20 hK20 => ?_)
    refine c_reg ?_ -- region 17 mend.go:35
    refine wl (ro_move rfl) ?_
    refine wl (ro_assign rfl) ?_
    refine wl_nil (x_then (hK20 _ _ ?_))
    clear hK20 K20
    refine forget [(0, _), (5, _), (6, _), (7, _), (12, _)] ⟨rfl, rfl, rfl, rfl, rfl, trivial⟩ (fun e => ?_)
    refine c_seq (fun K21 hK21 => ?_)
    refine c_block ?_
    -- loop@r18: live slots [0, 5, 6, 7, 12]
    refine c_loopG (fun q a' w' => ∃ left ripe LL NL, q = cntN left 24 ∧ OutK (rF RL) h sick (lF LL) ∧ KI (rF RL) h sick (lF LL) left ripe (lF NL) ∧ LL.length = 24 ∧ NL.length = 24 ∧ Blk w'.heap B.g (gst B cy tc) 91 ∧ Blk w'.heap B.r (rws msc RL) 85 ∧ Blk w'.heap B.b (rws msc BL) 85 ∧ Blk w'.heap B.l (rws ivc LL) 3 ∧ Blk w'.heap B.n (rws ivc NL) 3 ∧ Fram (gset B) w w' ∧ ∃ e, a' = Fr 186 (upds e [(0, ptr B.g), (5, u32c h), (6, u32c sick), (7, u32c ripe), (12, u32c left)]) []) _ ⟨h, ripe, LL, NL, rfl, hout', hKI, hll, hnl, hB, hR, hQ, hL, hN, hF, kp _ ⟨rfl, rfl, rfl, rfl, rfl, trivial⟩⟩ ?_
    clear hB hR hQ hL hN hF hKI hout' i1 i2 i3 hout hcb
    rintro q a' u3 ⟨left, ripe, LL, NL, rfl, hO, hK, hll, hnl, hB, hR, hQ, hL, hN, hF, e, rfl⟩
    have hrp := hK.pl
    have hlf := hK.ll
    refine c_seq (fun K22 hK22 => ?_)
    refine c_seq (fun K23 hK23 => ?_)
    refine c_reg ?_ -- region 18 mend.go:36
    refine wl (ro_move rfl) ?_
    refine wl (ro_cmp (r := decide (ripe ≠ 0)) rfl rfl (congrArg some (bnec ripe 0))) ?_
    refine wl_nil (x_then (hK23 _ _ ?_))
    clear hK23 K23
    refine wc_cond rfl (fun hc89 => ?_) (fun hc89 => ?_)
    · try simp only [decide_eq_true_eq, decide_eq_false_iff_not, Bool.not_eq_true', Bool.not_eq_false', Bool.not_eq_eq_eq_not, Bool.not_true, Bool.not_false, beq_iff_eq, bne_iff_ne, ne_eq, beq_eq_false_iff_ne, bne_eq_false_iff_eq, gt_iff_lt, ge_iff_le, Int.not_lt, Int.not_le] at hc89
      obtain ⟨k, hk⟩ := low_ex _ _ (Nat.le_refl _) hc89
      have hk24 := hk.lt hrp
      have hla := low_and hk
      have hlt : ripe &&& (ripe - 1) < 2 ^ 24 := Nat.lt_of_le_of_lt Nat.and_le_left hrp
      have hs1 : 1 ≤ ripe := by omega
      have e1 := cntN_off (s := ripe) (t := ripe &&& (ripe - 1)) hk.1 hla (n := 24) hk24
      have hoff : ∀ j, (ripe &&& (ripe - 1)).testBit j = true → ripe.testBit j = true ∧ j ≠ k := fun j q => by rw [hla] at q; simpa using q
      have hon : ∀ j, (ripe &&& (ripe - 1)).testBit j = false → j ≠ k → ripe.testBit j = false := fun j q hj => by rw [hla] at q; simpa [hj] using q
      have hlk := hK.pc k hk24 hk.1
      have hhk := hK.lh k hk24 hlk
      have hc0 := ((hK.rp k hk24 hlk).1 hk.1).1
      have hRk := hrb k hk24
      have hb2 := bit_lt hk24
      have hQk := hqb k hk24
      have hrdl : ∀ x, x < 24 → (rF RL x).testBit k = true → h.testBit x = true → left.testBit x = true := by
        intro x hx a b
        cases hxl : left.testBit x with
        | true => rfl
        | false => have := (hK.st x hx b hxl).2 k ⟨hk24, a⟩; rw [hlk] at this; cases this
      refine c_skip (x_then (hK22 _ _ ?_))
      clear hK22 K22
      refine c_block ?_
      refine forget [(0, _), (5, _), (6, _), (7, _), (12, _)] ⟨rfl, rfl, rfl, rfl, rfl, trivial⟩ (fun e => ?_)
      refine c_seq (fun K24 hK24 => ?_)
      refine c_reg ?_ -- region 19 mend.go:37
      refine wl (ro_move rfl) ?_
      refine wl_call rfl en_114 (first114 (by omega) hk) ?_
      rintro _ _ ⟨rfl, rfl⟩
      refine wl (ro_assign rfl) ?_
      refine wl_nil (x_then (hK24 _ _ ?_))
      clear hK24 K24
      refine forget [(0, _), (5, _), (6, _), (7, _), (12, _), (13, _)] ⟨rfl, rfl, rfl, rfl, rfl, rfl, trivial⟩ (fun e => ?_)
      refine c_seq (fun K25 hK25 => ?_)
      refine c_reg ?_ -- region 20 mend.go:38
      refine wl (ro_move rfl) ?_
      refine wl (ro_move rfl) ?_
      refine wl (ro_arith (r := ((ripe - 1 : Nat) : Int)) rfl rfl (congrArg some (by omega)) (Go.IntWalk.u32_in _ (by omega))) ?_
      refine wl (ro_and32 rfl rfl (by omega) (by omega)) ?_
      refine wl (ro_assign rfl) ?_
      refine wl_nil (x_then (hK25 _ _ ?_))
      clear hK25 K25
      refine forget [(0, _), (5, _), (6, _), (7, _), (12, _), (13, _)] ⟨rfl, rfl, rfl, rfl, rfl, rfl, trivial⟩ (fun e => ?_)
      refine c_seq (fun K26 hK26 => ?_)
      refine c_reg ?_ -- region 21 mend.go:39
      refine wl (ro_move rfl) ?_
      refine wl (ro_move rfl) ?_
      refine wl_call rfl en_113 (one113 hk24) ?_
      rintro _ _ ⟨rfl, rfl⟩
      refine wl (ro_dif32 rfl rfl (by omega) (by omega)) ?_
      refine wl (ro_assign rfl) ?_
      refine wl_nil (x_then (hK26 _ _ ?_))
      clear hK26 K26
      refine forget [(0, _), (5, _), (6, _), (7, _), (12, _), (13, _)] ⟨rfl, rfl, rfl, rfl, rfl, rfl, trivial⟩ (fun e => ?_)
      refine c_seq (fun K27 hK27 => ?_)
      refine c_piL 15 [(0, false), (1, false), (2, false), (3, false), (4, false), (5, false), (6, false), (7, false), (8, false), (9, false), (10, false), (11, false), (12, false), (13, true), (14, false)] (fun w' => Blk w'.heap B.g (gst B cy tc) 91 ∧ Blk w'.heap B.r (rws msc RL) 85 ∧ Blk w'.heap B.l (rws ivc LL) 3) mixed (by kernel_rfl) rfl (by kernel_rfl) (po_then (po_blk (po_then (po_blk (po_then (po_bp)))))) (⟨hB, hR, hL⟩) ?_ -- region 22 mend.go:40
      refine ql_ro rfl (fun w hS => ro_move rfl) ?_
      refine ql_ro rfl (fun w hS => ro_nilCheck rfl) ?_
      refine ql_ro rfl (fun w hS => ro_fieldAddr (k := 2) rfl fo_91_2) ?_
      refine ql_ro rfl (fun w hS => ro_loadB rfl sc_79 (hS.1) (rfl)) ?_
      refine ql_ro rfl (fun w hS => ro_move rfl) ?_
      refine ql_ro rfl (fun w hS => ro_move rfl) ?_
      refine ql_ro rfl (fun w hS => ro_move rfl) ?_
      refine ql_ro rfl (fun w hS => ro_nilCheck rfl) ?_
      refine ql_ro rfl (fun w hS => ro_fieldAddr (k := 0) rfl fo_91_0) ?_
      refine ql_ro rfl (fun w hS => ro_loadB rfl sc_57 (hS.1) (rfl)) ?_
      refine ql_ro rfl (fun w hS => ro_move rfl) ?_
      refine ql_ro rfl (fun w hS => ro_indexAddr (et := 85) (k := 1) rfl rfl se_57 rfl (by omega)) ?_
      refine ql_ro rfl (fun w hS => ro_loadB rfl sc_85 (hS.2.1) ((rw_get msc_len (rF_get (RL := RL) (c := k) (by omega)) (j := 0) (by omega) rfl))) ?_
      refine ql_call rfl rfl en_141 (top141 (m := rF RL k) hB hL hll (fun e he hq ↦ (KI.bd hO hK he (and_rd hc0 ⟨he, hq⟩)).2) hRk) ?_
      rintro _ _ ⟨⟨T, rfl, hT24, hT⟩, rfl⟩
      refine ⟨⟨hB, hR, hL⟩, ?_⟩
      refine ql_ro rfl (fun w hS => ro_indexAddr (et := 3) (k := 1) rfl rfl se_79 rfl (by omega)) ?_
      refine ql_put rfl rfl rfl rfl sz_3 hL ((rw_fit ivc_len (i := k) (j := 0) (m := 1) (by omega) (by omega) (by omega))) ((rw_put ivc_len (i := k) (j := 0) (x := lF LL k) (x' := T) (lF_get (by omega)) (by omega) (by omega) rfl)) (fun w3 hL F3 => ?_)
      replace hF := hF.thenDrew.thenO F3 (by first | exact .inr (by omega) | exact .inl rfl | exact .inl (by assumption))
      replace hB := F3.blkO hB (by omega)
      replace hR := F3.blkO hR (by omega)
      replace hQ := F3.blkO hQ (by omega)
      replace hN := F3.blkO hN (by omega)
      refine x_then (hK27 _ _ ?_)
      clear hK27 K27
      refine forget [(0, _), (5, _), (6, _), (7, _), (12, _), (13, _)] ⟨rfl, rfl, rfl, rfl, rfl, rfl, trivial⟩ (fun e => ?_)
      refine c_seq (fun K28 hK28 => ?_)
      refine c_reg ?_ -- region 23 mend.go:41
      refine wl (ro_move rfl) ?_
      refine wl (ro_nilCheck rfl) ?_
      refine wl (ro_fieldAddr (k := 1) rfl fo_91_1) ?_
      refine wl (ro_loadB rfl sc_57 (by assumption) rfl) ?_
      refine wl (ro_move rfl) ?_
      refine wl (ro_indexAddr (et := 85) (k := 1) rfl rfl se_57 rfl (by omega)) ?_
      refine wl (ro_loadB rfl sc_85 (hQ) ((rw_get msc_len (rF_get (RL := BL) (c := k) (by omega)) (j := 0) (by omega) rfl))) ?_
      refine wl (ro_move rfl) ?_
      refine wl (ro_and32 rfl rfl (by omega) (by omega)) ?_
      refine wl (ro_assign rfl) ?_
      refine wl_nil (x_then (hK28 _ _ ?_))
      clear hK28 K28
      refine c_block ?_
      -- loop@r24: live slots [0, 5, 6, 7, 12, 14]
      refine c_loopG (fun q a' w' => ∃ s ripe' NL', q = cntN s 24 ∧ s < 2 ^ 24 ∧ ripe' < 2 ^ 24 ∧ NL'.length = 24 ∧ (∀ j, j < 24 → s.testBit j = true → (h.testBit j = true ∧ (rF RL j).testBit k = true)) ∧ (∀ x, x < 24 → lF NL' x = lF NL x - (if (rF RL x).testBit k = true ∧ h.testBit x = true ∧ s.testBit x = false then 1 else 0)) ∧ (∀ x, x < 24 → (ripe'.testBit x = true ↔ ((ripe.testBit x = true ∧ x ≠ k) ∨ (h.testBit x = true ∧ (rF RL x).testBit k = true ∧ s.testBit x = false ∧ lF NL' x = 0 ∧ rF RL x &&& sick = 0)))) ∧ Blk w'.heap B.g (gst B cy tc) 91 ∧ Blk w'.heap B.r (rws msc RL) 85 ∧ Blk w'.heap B.b (rws msc BL) 85 ∧ Blk w'.heap B.l (rws ivc (LL.set k T)) 3 ∧ Blk w'.heap B.n (rws ivc NL') 3 ∧ Fram (gset B) w w' ∧ ∃ e, a' = Fr 186 (upds e [(0, ptr B.g), (5, u32c h), (6, u32c sick), (7, u32c ripe'), (12, u32c (dif left (2 ^ k))), (14, u32c s)]) []) _ ⟨rF BL k &&& h, ripe &&& (ripe - 1), NL, rfl, and24 hh24, hlt, hnl, fun j hj q => ?_, fun x hx => ?_, fun x hx => ?_, hB, hR, hQ, hL, hN, hF, kp _ ⟨rfl, rfl, rfl, rfl, rfl, rfl, trivial⟩⟩ ?_
      · rw [Nat.testBit_and, Bool.and_eq_true, htr j k hj hk24] at q
        exact ⟨q.2, q.1⟩
      · rw [if_neg]
        · omega
        · rintro ⟨a, b, d⟩
          rw [Nat.testBit_and, htr x k hx hk24, a, b] at d
          cases d
      · rw [hla, Bool.and_eq_true, decide_eq_true_eq]
        constructor
        · exact .inl
        · rintro (a | ⟨a, b, d, -⟩)
          · exact a
          · rw [Nat.testBit_and, htr x k hx hk24, a, b] at d
            cases d
      clear hB hR hQ hL hN hF
      rintro q a' u4 ⟨s, ripe', NL', rfl, hs, hrp', hnl', m1, m2, m3, hB, hR, hQ, hL, hN, hF, e, rfl⟩
      refine c_seq (fun K29 hK29 => ?_)
      refine c_seq (fun K30 hK30 => ?_)
      refine c_reg ?_ -- region 24 mend.go:41
      refine wl (ro_move rfl) ?_
      refine wl (ro_cmp (r := decide (s ≠ 0)) rfl rfl (congrArg some (bnec s 0))) ?_
      refine wl_nil (x_then (hK30 _ _ ?_))
      clear hK30 K30
      refine wc_cond rfl (fun hc125 => ?_) (fun hc125 => ?_)
      · try simp only [decide_eq_true_eq, decide_eq_false_iff_not, Bool.not_eq_true', Bool.not_eq_false', Bool.not_eq_eq_eq_not, Bool.not_true, Bool.not_false, beq_iff_eq, bne_iff_ne, ne_eq, beq_eq_false_iff_ne, bne_eq_false_iff_eq, gt_iff_lt, ge_iff_le, Int.not_lt, Int.not_le] at hc125
        obtain ⟨j, hj⟩ := low_ex _ _ (Nat.le_refl _) hc125
        have hj24 := hj.lt hs
        have hja := low_and hj
        have hslt : s &&& (s - 1) < 2 ^ 24 := Nat.lt_of_le_of_lt Nat.and_le_left hs
        have hs1' : 1 ≤ s := by omega
        have e2 := cntN_off (s := s) (t := s &&& (s - 1)) hj.1 hja (n := 24) hj24
        obtain ⟨hhj, hrj⟩ := m1 j hj24 hj.1
        have hlj := hrdl j hj24 hrj hhj
        have hNj : lF NL' j = (cntN (rF RL j &&& left) 24 : Int) := by rw [m2 j hj24, if_neg (fun q => by rw [hj.1] at q; cases q.2.2), hK.nd j hj24 hlj]; omega
        have hcl := cntN_le (rF RL j &&& left) 24
        have hRj := hrb j hj24
        have hbj := bit_lt hj24
        have hset : ∀ x, lF (NL'.set j (lF NL' j - 1)) x = if x = j then lF NL' j - 1 else lF NL' x := fun x => lF_set (by omega)
        have hNj2 : (NL'.set j (lF NL' j - 1))[j]? = some (lF NL' j - 1) := List.getElem?_set_self (by omega)
        refine c_skip (x_then (hK29 _ _ ?_))
        clear hK29 K29
        refine forget [(0, _), (5, _), (6, _), (7, _), (12, _), (14, _)] ⟨rfl, rfl, rfl, rfl, rfl, rfl, trivial⟩ (fun e => ?_)
        refine c_seq (fun K31 hK31 => ?_)
        refine c_block ?_
        refine c_seq (fun K32 hK32 => ?_)
        refine c_reg ?_ -- region 26 mend.go:42
        refine wl (ro_move rfl) ?_
        refine wl_call rfl en_114 (first114 (by omega) hj) ?_
        rintro _ _ ⟨rfl, rfl⟩
        refine wl (ro_assign rfl) ?_
        refine wl_nil (x_then (hK32 _ _ ?_))
        clear hK32 K32
        refine forget [(0, _), (5, _), (6, _), (7, _), (12, _), (14, _), (15, _)] ⟨rfl, rfl, rfl, rfl, rfl, rfl, rfl, trivial⟩ (fun e => ?_)
        refine c_seq (fun K33 hK33 => ?_)
        refine c_reg ?_ -- region 27 mend.go:43
        refine wl (ro_move rfl) ?_
        refine wl (ro_nilCheck rfl) ?_
        refine wl (ro_fieldAddr (k := 4) rfl fo_91_4) ?_
        refine wl (ro_loadB rfl sc_79 (by assumption) rfl) ?_
        refine wl (ro_move rfl) ?_
        refine wl (ro_indexAddr (et := 3) (k := 1) rfl rfl se_79 rfl (by omega)) ?_
        refine wl (ro_loadB rfl sc_3 (hN) ((rw_get ivc_len (lF_get (RL := NL') (c := j) (by omega)) (j := 0) (by omega) rfl))) ?_
        refine wl (ro_arith (r := lF NL' j - 1) rfl rfl rfl (Go.IntWalk.i64_in _ (by omega))) ?_
        refine wl (ro_indexAddr (et := 3) (k := 1) rfl rfl se_79 rfl (by omega)) ?_
        refine wl_put rfl rfl rfl sz_3 hN ((rw_fit ivc_len (i := j) (j := 0) (m := 1) (by omega) (by omega) (by omega))) ((rw_put ivc_len (i := j) (j := 0) (x := lF NL' j) (x' := lF NL' j - 1) (lF_get (by omega)) (by omega) (by omega) rfl)) (fun w4 hN F4 => ?_)
        replace hF := hF.thenDrew.thenO F4 (by first | exact .inr (by omega) | exact .inl rfl | exact .inl (by assumption))
        replace hB := F4.blkO hB (by omega)
        replace hR := F4.blkO hR (by omega)
        replace hQ := F4.blkO hQ (by omega)
        replace hL := F4.blkO hL (by omega)
        refine wl_nil (x_then (hK33 _ _ ?_))
        clear hK33 K33
        refine forget [(0, _), (5, _), (6, _), (7, _), (12, _), (14, _), (15, _)] ⟨rfl, rfl, rfl, rfl, rfl, rfl, rfl, trivial⟩ (fun e => ?_)
        refine c_seq (fun K34 hK34 => ?_)
        refine c_reg ?_ -- region 28 mend.go:44
        refine wl (ro_move rfl) ?_
        refine wl (ro_nilCheck rfl) ?_
        refine wl (ro_fieldAddr (k := 4) rfl fo_91_4) ?_
        refine wl (ro_loadB rfl sc_79 (by assumption) rfl) ?_
        refine wl (ro_move rfl) ?_
        refine wl (ro_indexAddr (et := 3) (k := 1) rfl rfl se_79 rfl (by omega)) ?_
        refine wl (ro_loadB rfl sc_3 (hN) ((rw_get ivc_len hNj2 (j := 0) (by omega) rfl))) ?_
        refine wl (ro_cmp (r := decide (lF NL' j - 1 = 0)) rfl rfl (congrArg some (by by_cases e : lF NL' j - 1 = 0 <;> simp [e]))) ?_
        refine wl_fork rfl (fun hg149 => ?_) (fun hg149 => ?_)
        · try simp only [decide_eq_true_eq, decide_eq_false_iff_not, Bool.not_eq_true', Bool.not_eq_false', Bool.not_eq_eq_eq_not, Bool.not_true, Bool.not_false, beq_iff_eq, bne_iff_ne, ne_eq, beq_eq_false_iff_ne, bne_eq_false_iff_eq, gt_iff_lt, ge_iff_le, Int.not_lt, Int.not_le] at hg149
          refine wlg_yes rfl (ro_move rfl) ?_
          refine wlg_yes rfl (ro_nilCheck rfl) ?_
          refine wlg_yes rfl (ro_fieldAddr (k := 0) rfl fo_91_0) ?_
          refine wlg_yes rfl (ro_loadB rfl sc_57 (by assumption) rfl) ?_
          refine wlg_yes rfl (ro_move rfl) ?_
          refine wlg_yes rfl (ro_indexAddr (et := 85) (k := 1) rfl rfl se_57 rfl (by omega)) ?_
          refine wlg_yes rfl (ro_loadB rfl sc_85 (hR) ((rw_get msc_len (rF_get (RL := RL) (c := j) (by omega)) (j := 0) (by omega) rfl))) ?_
          refine wlg_yes rfl (ro_move rfl) ?_
          refine wlg_yes rfl (ro_and32 rfl rfl (by omega) (by omega)) ?_
          refine wlg_yes rfl (ro_cmp (r := decide (rF RL j &&& sick = 0)) rfl rfl (congrArg some (eq0 _))) ?_
          refine wl (ro_pick rfl rfl rfl) ?_
          refine wl_nil (x_then (hK34 _ _ ?_))
          clear hK34 K34
          refine wc_cond rfl (fun hc160 => ?_) (fun hc160 => ?_)
          · try simp only [decide_eq_true_eq, decide_eq_false_iff_not, Bool.not_eq_true', Bool.not_eq_false', Bool.not_eq_eq_eq_not, Bool.not_true, Bool.not_false, beq_iff_eq, bne_iff_ne, ne_eq, beq_eq_false_iff_ne, bne_eq_false_iff_eq, gt_iff_lt, ge_iff_le, Int.not_lt, Int.not_le] at hc160
            refine c_reg ?_ -- region 29 mend.go:45
            refine wl (ro_move rfl) ?_
            refine wl (ro_move rfl) ?_
            refine wl_call rfl en_113 (one113 hj24) ?_
            rintro _ _ ⟨rfl, rfl⟩
            refine wl (ro_or32 rfl rfl (by omega) (by omega)) ?_
            refine wl (ro_assign rfl) ?_
            refine wl_nil (x_blk (x_then (hK31 _ _ ?_)))
            clear hK31 K31
            refine c_reg ?_ -- region 25 mend.go:41
            refine wl (ro_move rfl) ?_
            refine wl (ro_move rfl) ?_
            refine wl (ro_arith (r := ((s - 1 : Nat) : Int)) rfl rfl (congrArg some (by omega)) (Go.IntWalk.u32_in _ (by omega))) ?_
            refine wl (ro_and32 rfl rfl (by omega) (by omega)) ?_
            refine wl (ro_assign rfl) ?_
            refine wl_nil (x_then ?_)
            have hof : ∀ x, (s &&& (s - 1)).testBit x = true → s.testBit x = true ∧ x ≠ j := fun x q => by rw [hja] at q; simpa using q
            have hnf : ∀ x, (s &&& (s - 1)).testBit x = false → x ≠ j → s.testBit x = false := fun x q hx => by rw [hja] at q; simpa [hx] using q
            have hof2 : ∀ x, s.testBit x = false → (s &&& (s - 1)).testBit x = false := fun x q => by rw [hja, q]; rfl
            have hjf : (s &&& (s - 1)).testBit j = false := by rw [hja]; simp
            have p2 : ∀ x, x < 24 → lF (NL'.set j (lF NL' j - 1)) x = lF NL x - (if (rF RL x).testBit k = true ∧ h.testBit x = true ∧ (s &&& (s - 1)).testBit x = false then 1 else 0) := by
              intro x hx
              rw [hset]
              by_cases ex : x = j
              · subst ex
                rw [if_pos rfl, if_pos ⟨hrj, hhj, hjf⟩, m2 x hx, if_neg (fun q => by rw [hj.1] at q; cases q.2.2)]
                omega
              · rw [if_neg ex, m2 x hx]
                by_cases hq : (rF RL x).testBit k = true ∧ h.testBit x = true ∧ s.testBit x = false
                · rw [if_pos hq, if_pos ⟨hq.1, hq.2.1, hof2 x hq.2.2⟩]
                · rw [if_neg hq, if_neg (fun q => hq ⟨q.1, q.2.1, hnf x q.2.2 ex⟩)]
            have p3 : ∀ x, x < 24 → ((ripe'.testBit x = true ∨ (x = j ∧ lF NL' j - 1 = 0 ∧ rF RL j &&& sick = 0)) ↔ ((ripe.testBit x = true ∧ x ≠ k) ∨ (h.testBit x = true ∧ (rF RL x).testBit k = true ∧ (s &&& (s - 1)).testBit x = false ∧ lF (NL'.set j (lF NL' j - 1)) x = 0 ∧ rF RL x &&& sick = 0))) := by
              intro x hx
              constructor
              · rintro (a | ⟨rfl, a, b⟩)
                · rcases (m3 x hx).1 a with q | ⟨q1, q2, q3, q4, q5⟩
                  · exact .inl q
                  · refine .inr ⟨q1, q2, hof2 x q3, ?_, q5⟩
                    rw [hset, if_neg (fun e => by rw [e, hj.1] at q3; cases q3)]
                    exact q4
                · exact .inr ⟨hhj, hrj, hjf, by rw [hset, if_pos rfl]; exact a, b⟩
              · rintro (a | ⟨q1, q2, q3, q4, q5⟩)
                · exact .inl ((m3 x hx).2 (.inl a))
                · by_cases ex : x = j
                  · subst ex
                    rw [hset, if_pos rfl] at q4
                    exact .inr ⟨rfl, q4, q5⟩
                  · rw [hset, if_neg ex] at q4
                    exact .inl ((m3 x hx).2 (.inr ⟨q1, q2, hnf x q3 ex, q4, q5⟩))
            first
              | (refine ⟨_, by omega, s &&& (s - 1), ripe' ||| 2 ^ j, NL'.set j (lF NL' j - 1), rfl, hslt, or_lt hrp' hbj, by rw [List.length_set]; exact hnl', fun x hx q => m1 x hx (hof x q).1, p2, fun x hx => ?_, hB, hR, hQ, hL, hN, hF, kp _ ⟨rfl, rfl, rfl, rfl, rfl, rfl, trivial⟩⟩
                 rw [← p3 x hx, Nat.testBit_or, Bool.or_eq_true, bit_pow, decide_eq_true_eq]
                 constructor
                 · rintro (a | a)
                   · exact .inl a
                   · exact .inr ⟨a, by omega, by assumption⟩
                 · rintro (a | a)
                   · exact .inl a
                   · exact .inr a.1)
              | (refine ⟨_, by omega, s &&& (s - 1), ripe', NL'.set j (lF NL' j - 1), rfl, hslt, hrp', by rw [List.length_set]; exact hnl', fun x hx q => m1 x hx (hof x q).1, p2, fun x hx => ?_, hB, hR, hQ, hL, hN, hF, kp _ ⟨rfl, rfl, rfl, rfl, rfl, rfl, trivial⟩⟩
                 rw [← p3 x hx]
                 constructor
                 · exact .inl
                 · rintro (a | ⟨-, a, b⟩)
                   · exact a
                   · first
                       | exact absurd b (by assumption)
                       | (exfalso; omega))
          · try simp only [decide_eq_true_eq, decide_eq_false_iff_not, Bool.not_eq_true', Bool.not_eq_false', Bool.not_eq_eq_eq_not, Bool.not_true, Bool.not_false, beq_iff_eq, bne_iff_ne, ne_eq, beq_eq_false_iff_ne, bne_eq_false_iff_eq, gt_iff_lt, ge_iff_le, Int.not_lt, Int.not_le] at hc160
            refine c_skip (x_blk (x_then (hK31 _ _ ?_)))
            clear hK31 K31
            refine c_reg ?_ -- region 25 mend.go:41
            refine wl (ro_move rfl) ?_
            refine wl (ro_move rfl) ?_
            refine wl (ro_arith (r := ((s - 1 : Nat) : Int)) rfl rfl (congrArg some (by omega)) (Go.IntWalk.u32_in _ (by omega))) ?_
            refine wl (ro_and32 rfl rfl (by omega) (by omega)) ?_
            refine wl (ro_assign rfl) ?_
            refine wl_nil (x_then ?_)
            have hof : ∀ x, (s &&& (s - 1)).testBit x = true → s.testBit x = true ∧ x ≠ j := fun x q => by rw [hja] at q; simpa using q
            have hnf : ∀ x, (s &&& (s - 1)).testBit x = false → x ≠ j → s.testBit x = false := fun x q hx => by rw [hja] at q; simpa [hx] using q
            have hof2 : ∀ x, s.testBit x = false → (s &&& (s - 1)).testBit x = false := fun x q => by rw [hja, q]; rfl
            have hjf : (s &&& (s - 1)).testBit j = false := by rw [hja]; simp
            have p2 : ∀ x, x < 24 → lF (NL'.set j (lF NL' j - 1)) x = lF NL x - (if (rF RL x).testBit k = true ∧ h.testBit x = true ∧ (s &&& (s - 1)).testBit x = false then 1 else 0) := by
              intro x hx
              rw [hset]
              by_cases ex : x = j
              · subst ex
                rw [if_pos rfl, if_pos ⟨hrj, hhj, hjf⟩, m2 x hx, if_neg (fun q => by rw [hj.1] at q; cases q.2.2)]
                omega
              · rw [if_neg ex, m2 x hx]
                by_cases hq : (rF RL x).testBit k = true ∧ h.testBit x = true ∧ s.testBit x = false
                · rw [if_pos hq, if_pos ⟨hq.1, hq.2.1, hof2 x hq.2.2⟩]
                · rw [if_neg hq, if_neg (fun q => hq ⟨q.1, q.2.1, hnf x q.2.2 ex⟩)]
            have p3 : ∀ x, x < 24 → ((ripe'.testBit x = true ∨ (x = j ∧ lF NL' j - 1 = 0 ∧ rF RL j &&& sick = 0)) ↔ ((ripe.testBit x = true ∧ x ≠ k) ∨ (h.testBit x = true ∧ (rF RL x).testBit k = true ∧ (s &&& (s - 1)).testBit x = false ∧ lF (NL'.set j (lF NL' j - 1)) x = 0 ∧ rF RL x &&& sick = 0))) := by
              intro x hx
              constructor
              · rintro (a | ⟨rfl, a, b⟩)
                · rcases (m3 x hx).1 a with q | ⟨q1, q2, q3, q4, q5⟩
                  · exact .inl q
                  · refine .inr ⟨q1, q2, hof2 x q3, ?_, q5⟩
                    rw [hset, if_neg (fun e => by rw [e, hj.1] at q3; cases q3)]
                    exact q4
                · exact .inr ⟨hhj, hrj, hjf, by rw [hset, if_pos rfl]; exact a, b⟩
              · rintro (a | ⟨q1, q2, q3, q4, q5⟩)
                · exact .inl ((m3 x hx).2 (.inl a))
                · by_cases ex : x = j
                  · subst ex
                    rw [hset, if_pos rfl] at q4
                    exact .inr ⟨rfl, q4, q5⟩
                  · rw [hset, if_neg ex] at q4
                    exact .inl ((m3 x hx).2 (.inr ⟨q1, q2, hnf x q3 ex, q4, q5⟩))
            first
              | (refine ⟨_, by omega, s &&& (s - 1), ripe' ||| 2 ^ j, NL'.set j (lF NL' j - 1), rfl, hslt, or_lt hrp' hbj, by rw [List.length_set]; exact hnl', fun x hx q => m1 x hx (hof x q).1, p2, fun x hx => ?_, hB, hR, hQ, hL, hN, hF, kp _ ⟨rfl, rfl, rfl, rfl, rfl, rfl, trivial⟩⟩
                 rw [← p3 x hx, Nat.testBit_or, Bool.or_eq_true, bit_pow, decide_eq_true_eq]
                 constructor
                 · rintro (a | a)
                   · exact .inl a
                   · exact .inr ⟨a, by omega, by assumption⟩
                 · rintro (a | a)
                   · exact .inl a
                   · exact .inr a.1)
              | (refine ⟨_, by omega, s &&& (s - 1), ripe', NL'.set j (lF NL' j - 1), rfl, hslt, hrp', by rw [List.length_set]; exact hnl', fun x hx q => m1 x hx (hof x q).1, p2, fun x hx => ?_, hB, hR, hQ, hL, hN, hF, kp _ ⟨rfl, rfl, rfl, rfl, rfl, rfl, trivial⟩⟩
                 rw [← p3 x hx]
                 constructor
                 · exact .inl
                 · rintro (a | ⟨-, a, b⟩)
                   · exact a
                   · first
                       | exact absurd b (by assumption)
                       | (exfalso; omega))
        · try simp only [decide_eq_true_eq, decide_eq_false_iff_not, Bool.not_eq_true', Bool.not_eq_false', Bool.not_eq_eq_eq_not, Bool.not_true, Bool.not_false, beq_iff_eq, bne_iff_ne, ne_eq, beq_eq_false_iff_ne, bne_eq_false_iff_eq, gt_iff_lt, ge_iff_le, Int.not_lt, Int.not_le] at hg149
          refine wlg_no rfl ?_
          refine wlg_no rfl ?_
          refine wlg_no rfl ?_
          refine wlg_no rfl ?_
          refine wlg_no rfl ?_
          refine wlg_no rfl ?_
          refine wlg_no rfl ?_
          refine wlg_no rfl ?_
          refine wlg_no rfl ?_
          refine wlg_no rfl ?_
          refine wl (ro_pick rfl rfl rfl) ?_
          refine wl_nil (x_then (hK34 _ _ ?_))
          clear hK34 K34
          refine wc_condF rfl ?_
          refine c_skip (x_blk (x_then (hK31 _ _ ?_)))
          clear hK31 K31
          refine c_reg ?_ -- region 25 mend.go:41
          refine wl (ro_move rfl) ?_
          refine wl (ro_move rfl) ?_
          refine wl (ro_arith (r := ((s - 1 : Nat) : Int)) rfl rfl (congrArg some (by omega)) (Go.IntWalk.u32_in _ (by omega))) ?_
          refine wl (ro_and32 rfl rfl (by omega) (by omega)) ?_
          refine wl (ro_assign rfl) ?_
          refine wl_nil (x_then ?_)
          have hof : ∀ x, (s &&& (s - 1)).testBit x = true → s.testBit x = true ∧ x ≠ j := fun x q => by rw [hja] at q; simpa using q
          have hnf : ∀ x, (s &&& (s - 1)).testBit x = false → x ≠ j → s.testBit x = false := fun x q hx => by rw [hja] at q; simpa [hx] using q
          have hof2 : ∀ x, s.testBit x = false → (s &&& (s - 1)).testBit x = false := fun x q => by rw [hja, q]; rfl
          have hjf : (s &&& (s - 1)).testBit j = false := by rw [hja]; simp
          have p2 : ∀ x, x < 24 → lF (NL'.set j (lF NL' j - 1)) x = lF NL x - (if (rF RL x).testBit k = true ∧ h.testBit x = true ∧ (s &&& (s - 1)).testBit x = false then 1 else 0) := by
            intro x hx
            rw [hset]
            by_cases ex : x = j
            · subst ex
              rw [if_pos rfl, if_pos ⟨hrj, hhj, hjf⟩, m2 x hx, if_neg (fun q => by rw [hj.1] at q; cases q.2.2)]
              omega
            · rw [if_neg ex, m2 x hx]
              by_cases hq : (rF RL x).testBit k = true ∧ h.testBit x = true ∧ s.testBit x = false
              · rw [if_pos hq, if_pos ⟨hq.1, hq.2.1, hof2 x hq.2.2⟩]
              · rw [if_neg hq, if_neg (fun q => hq ⟨q.1, q.2.1, hnf x q.2.2 ex⟩)]
          have p3 : ∀ x, x < 24 → ((ripe'.testBit x = true ∨ (x = j ∧ lF NL' j - 1 = 0 ∧ rF RL j &&& sick = 0)) ↔ ((ripe.testBit x = true ∧ x ≠ k) ∨ (h.testBit x = true ∧ (rF RL x).testBit k = true ∧ (s &&& (s - 1)).testBit x = false ∧ lF (NL'.set j (lF NL' j - 1)) x = 0 ∧ rF RL x &&& sick = 0))) := by
            intro x hx
            constructor
            · rintro (a | ⟨rfl, a, b⟩)
              · rcases (m3 x hx).1 a with q | ⟨q1, q2, q3, q4, q5⟩
                · exact .inl q
                · refine .inr ⟨q1, q2, hof2 x q3, ?_, q5⟩
                  rw [hset, if_neg (fun e => by rw [e, hj.1] at q3; cases q3)]
                  exact q4
              · exact .inr ⟨hhj, hrj, hjf, by rw [hset, if_pos rfl]; exact a, b⟩
            · rintro (a | ⟨q1, q2, q3, q4, q5⟩)
              · exact .inl ((m3 x hx).2 (.inl a))
              · by_cases ex : x = j
                · subst ex
                  rw [hset, if_pos rfl] at q4
                  exact .inr ⟨rfl, q4, q5⟩
                · rw [hset, if_neg ex] at q4
                  exact .inl ((m3 x hx).2 (.inr ⟨q1, q2, hnf x q3 ex, q4, q5⟩))
          first
            | (refine ⟨_, by omega, s &&& (s - 1), ripe' ||| 2 ^ j, NL'.set j (lF NL' j - 1), rfl, hslt, or_lt hrp' hbj, by rw [List.length_set]; exact hnl', fun x hx q => m1 x hx (hof x q).1, p2, fun x hx => ?_, hB, hR, hQ, hL, hN, hF, kp _ ⟨rfl, rfl, rfl, rfl, rfl, rfl, trivial⟩⟩
               rw [← p3 x hx, Nat.testBit_or, Bool.or_eq_true, bit_pow, decide_eq_true_eq]
               constructor
               · rintro (a | a)
                 · exact .inl a
                 · exact .inr ⟨a, by omega, by assumption⟩
               · rintro (a | a)
                 · exact .inl a
                 · exact .inr a.1)
            | (refine ⟨_, by omega, s &&& (s - 1), ripe', NL'.set j (lF NL' j - 1), rfl, hslt, hrp', by rw [List.length_set]; exact hnl', fun x hx q => m1 x hx (hof x q).1, p2, fun x hx => ?_, hB, hR, hQ, hL, hN, hF, kp _ ⟨rfl, rfl, rfl, rfl, rfl, rfl, trivial⟩⟩
               rw [← p3 x hx]
               constructor
               · exact .inl
               · rintro (a | ⟨-, a, b⟩)
                 · exact a
                 · first
                     | exact absurd b (by assumption)
                     | (exfalso; omega))
      · try simp only [decide_eq_true_eq, decide_eq_false_iff_not, Bool.not_eq_true', Bool.not_eq_false', Bool.not_eq_eq_eq_not, Bool.not_true, Bool.not_false, beq_iff_eq, bne_iff_ne, ne_eq, beq_eq_false_iff_ne, bne_eq_false_iff_eq, gt_iff_lt, ge_iff_le, Int.not_lt, Int.not_le] at hc125
        have hs0 : s = 0 := Decidable.not_not.1 hc125
        subst hs0
        have hsetL : ∀ x, lF (LL.set k T) x = if x = k then T else lF LL x := fun x => lF_set (by omega)
        obtain ⟨hO2, hK2⟩ := KI.step (L' := lF (LL.set k T)) (ripe' := ripe') (N' := lF NL') (T := T) hO hK hk24 hk.1 ⟨hT.1, fun e he => hT.2.1 e he.1 he.2, by rcases hT.2.2 with q | ⟨e, q1, q2, q3⟩; exact .inl q; exact .inr ⟨e, ⟨q1, q2⟩, q3⟩⟩ (by rw [hsetL, if_pos rfl]) (fun x hx hn => by rw [hsetL, if_neg hn]) hrp' (fun x hx hxh => by rw [m2 x hx]; congr 1; by_cases hq : (rF RL x).testBit k = true <;> simp [hq, hxh]) (fun x hx => by
          rw [m3 x hx]
          constructor
          · rintro (a | ⟨q1, q2, -, q4, q5⟩)
            · exact .inl a
            · exact .inr ⟨q1, q2, q4, q5⟩
          · rintro (a | ⟨q1, q2, q4, q5⟩)
            · exact .inl a
            · exact .inr ⟨q1, q2, by simp, q4, q5⟩)
        have e3 := cntN_off (s := left) (t := dif left (2 ^ k)) hlk (fun x => by rw [dif_bit, bit_pow]; by_cases ex : x = k <;> simp [ex]) (n := 24) hk24
        refine c_exit (x_thenX (x_thenX (x_blkX (x_blk (x_then ?_)))))
        exact ⟨_, by omega, dif left (2 ^ k), ripe', LL.set k T, NL', rfl, hO2, hK2, by rw [List.length_set]; exact hll, hnl', hB, hR, hQ, hL, hN, hF, kp _ ⟨rfl, rfl, rfl, rfl, rfl, trivial⟩⟩
    · try simp only [decide_eq_true_eq, decide_eq_false_iff_not, Bool.not_eq_true', Bool.not_eq_false', Bool.not_eq_eq_eq_not, Bool.not_true, Bool.not_false, beq_iff_eq, bne_iff_ne, ne_eq, beq_eq_false_iff_ne, bne_eq_false_iff_eq, gt_iff_lt, ge_iff_le, Int.not_lt, Int.not_le] at hc89
      have hr0 : ripe = 0 := Decidable.not_not.1 hc89
      subst hr0
      refine c_exit (x_thenX (x_thenX (x_blkX (x_then (hK21 _ _ ?_)))))
      clear hK22 K22 hK21 K21
      refine c_seq (fun K35 hK35 => ?_)
      refine c_seq (fun K36 hK36 => ?_)
      refine c_reg ?_ -- region 30 mend.go:49
      refine wl (ro_move rfl) ?_
      refine wl (ro_assign rfl) ?_
      refine wl_nil (x_then (hK36 _ _ ?_))
      clear hK36 K36
      refine c_block ?_
      -- loop@r31: live slots [0, 6, 12, 16]
      refine c_loopG (fun q a' w' => ∃ s LL', q = cntN s 24 ∧ s < 2 ^ 24 ∧ LL'.length = 24 ∧ (∀ j, j < 24 → s.testBit j = true → left.testBit j = true) ∧ (∀ x, x < 24 → left.testBit x = true → s.testBit x = false → lF LL' x = -1) ∧ (∀ x, x < 24 → left.testBit x = false → lF LL' x = lF LL x) ∧ Blk w'.heap B.g (gst B cy tc) 91 ∧ Blk w'.heap B.r (rws msc RL) 85 ∧ Blk w'.heap B.b (rws msc BL) 85 ∧ Blk w'.heap B.l (rws ivc LL') 3 ∧ Blk w'.heap B.n (rws ivc NL) 3 ∧ Fram (gset B) w w' ∧ ∃ e, a' = Fr 186 (upds e [(0, ptr B.g), (6, u32c sick), (12, u32c left), (16, u32c s)]) []) _ ⟨left, LL, rfl, hlf, hll, fun _ _ q => q, fun x hx a b => by (rw [a] at b; cases b), fun _ _ _ => rfl, hB, hR, hQ, hL, hN, hF, kp _ ⟨rfl, rfl, rfl, rfl, trivial⟩⟩ ?_
      clear hB hR hQ hL hN hF
      rintro q a' u5 ⟨s, LL', rfl, hs, hll', m1, m2, m3, hB, hR, hQ, hL, hN, hF, e, rfl⟩
      refine c_seq (fun K37 hK37 => ?_)
      refine c_seq (fun K38 hK38 => ?_)
      refine c_reg ?_ -- region 31 mend.go:49
      refine wl (ro_move rfl) ?_
      refine wl (ro_cmp (r := decide (s ≠ 0)) rfl rfl (congrArg some (bnec s 0))) ?_
      refine wl_nil (x_then (hK38 _ _ ?_))
      clear hK38 K38
      refine wc_cond rfl (fun hc167 => ?_) (fun hc167 => ?_)
      · try simp only [decide_eq_true_eq, decide_eq_false_iff_not, Bool.not_eq_true', Bool.not_eq_false', Bool.not_eq_eq_eq_not, Bool.not_true, Bool.not_false, beq_iff_eq, bne_iff_ne, ne_eq, beq_eq_false_iff_ne, bne_eq_false_iff_eq, gt_iff_lt, ge_iff_le, Int.not_lt, Int.not_le] at hc167
        obtain ⟨k, hk⟩ := low_ex _ _ (Nat.le_refl _) hc167
        have hk24 := hk.lt hs
        have hla := low_and hk
        have hlt : s &&& (s - 1) < 2 ^ 24 := Nat.lt_of_le_of_lt Nat.and_le_left hs
        have hs1 : 1 ≤ s := by omega
        have e1 := cntN_off (s := s) (t := s &&& (s - 1)) hk.1 hla (n := 24) hk24
        have hoff : ∀ j, (s &&& (s - 1)).testBit j = true → s.testBit j = true ∧ j ≠ k := fun j q => by rw [hla] at q; simpa using q
        have hon : ∀ j, (s &&& (s - 1)).testBit j = false → j ≠ k → s.testBit j = false := fun j q hj => by rw [hla] at q; simpa [hj] using q
        have hlk := m1 k hk24 hk.1
        have hset : ∀ x, lF (LL'.set k (-1)) x = if x = k then -1 else lF LL' x := fun x => lF_set (by omega)
        refine c_skip (x_then (hK37 _ _ ?_))
        clear hK37 K37
        refine forget [(0, _), (6, _), (12, _), (16, _)] ⟨rfl, rfl, rfl, rfl, trivial⟩ (fun e => ?_)
        refine c_seq (fun K39 hK39 => ?_)
        refine c_block ?_
        refine c_seq (fun K40 hK40 => ?_)
        refine c_reg ?_ -- region 33 mend.go:50
        refine wl (ro_move rfl) ?_
        refine wl_call rfl en_114 (first114 (by omega) hk) ?_
        rintro _ _ ⟨rfl, rfl⟩
        refine wl (ro_assign rfl) ?_
        refine wl_nil (x_then (hK40 _ _ ?_))
        clear hK40 K40
        refine c_reg ?_ -- region 34 mend.go:51
        refine wl (ro_move rfl) ?_
        refine wl (ro_nilCheck rfl) ?_
        refine wl (ro_fieldAddr (k := 2) rfl fo_91_2) ?_
        refine wl (ro_loadB rfl sc_79 (by assumption) rfl) ?_
        refine wl (ro_move rfl) ?_
        refine wl (ro_indexAddr (et := 3) (k := 1) rfl rfl se_79 rfl (by omega)) ?_
        refine wl_put rfl rfl rfl sz_3 hL ((rw_fit ivc_len (i := k) (j := 0) (m := 1) (by omega) (by omega) (by omega))) ((rw_put ivc_len (i := k) (j := 0) (x := lF LL' k) (x' := -1) (lF_get (by omega)) (by omega) (by omega) rfl)) (fun w5 hL F5 => ?_)
        replace hF := hF.thenDrew.thenO F5 (by first | exact .inr (by omega) | exact .inl rfl | exact .inl (by assumption))
        replace hB := F5.blkO hB (by omega)
        replace hR := F5.blkO hR (by omega)
        replace hQ := F5.blkO hQ (by omega)
        replace hN := F5.blkO hN (by omega)
        refine wl_nil (x_blk (x_then (hK39 _ _ ?_)))
        clear hK39 K39
        refine c_reg ?_ -- region 32 mend.go:49
        refine wl (ro_move rfl) ?_
        refine wl (ro_move rfl) ?_
        refine wl (ro_arith (r := ((s - 1 : Nat) : Int)) rfl rfl (congrArg some (by omega)) (Go.IntWalk.u32_in _ (by omega))) ?_
        refine wl (ro_and32 rfl rfl (by omega) (by omega)) ?_
        refine wl (ro_assign rfl) ?_
        refine wl_nil (x_then ?_)
        refine ⟨_, by omega, s &&& (s - 1), LL'.set k (-1), rfl, hlt, by rw [List.length_set]; exact hll', fun j hj q => m1 j hj (hoff j q).1, fun x hx a b => ?_, fun x hx a => ?_, hB, hR, hQ, hL, hN, hF, kp _ ⟨rfl, rfl, rfl, rfl, trivial⟩⟩
        · rw [hset]
          by_cases ex : x = k
          · rw [if_pos ex]
          · rw [if_neg ex]; exact m2 x hx a (hon x b ex)
        · rw [hset, if_neg (fun ex => by rw [ex, hlk] at a; cases a)]
          exact m3 x hx a
      · try simp only [decide_eq_true_eq, decide_eq_false_iff_not, Bool.not_eq_true', Bool.not_eq_false', Bool.not_eq_eq_eq_not, Bool.not_true, Bool.not_false, beq_iff_eq, bne_iff_ne, ne_eq, beq_eq_false_iff_ne, bne_eq_false_iff_eq, gt_iff_lt, ge_iff_le, Int.not_lt, Int.not_le] at hc167
        have hs0 : s = 0 := Decidable.not_not.1 hc167
        subst hs0
        obtain ⟨hlv, hcb2⟩ := KI.done (L' := lF LL') hO hK (fun x hx a => m2 x hx a (by simp)) m3
        refine c_exit (x_thenX (x_thenX (x_blkX (x_then (hK35 _ _ ?_)))))
        clear hK37 K37 hK35 K35
        refine c_reg ?_ -- region 35 mend.go:53
        refine wl (ro_move rfl) ?_
        refine wl (ro_move rfl) ?_
        refine wl (ro_move rfl) ?_
        refine wl (ro_or32 rfl rfl (by omega) (by omega)) ?_
        refine wl (ro_nilCheck rfl) ?_
        refine wl (ro_fieldAddr (k := 3) rfl fo_91_3) ?_
        refine wl_put rfl rfl rfl sz_85 hB ((by simp)) ((show _ = gst B (sick ||| left) tc from rfl)) (fun w6 hB F6 => ?_)
        replace hF := hF.thenDrew.thenO F6 (by first | exact .inr (by omega) | exact .inl rfl | exact .inl (by assumption))
        replace hR := F6.blkO hR (by omega)
        replace hQ := F6.blkO hQ (by omega)
        replace hL := F6.blkO hL (by omega)
        replace hN := F6.blkO hN (by omega)
        refine wl_nil ?_
        refine bp_end Tryz.results115 rfl ?_
        exact ⟨⟨LL', NL, sick ||| left, tc, ⟨hB, hR, hQ, hL, hN, hrl, hbl, hll', hnl, hrb, hqb⟩, hlv, or_lt hs24 hlf, hcb2⟩, hF⟩

end Go.Proofs.Qxb6500570aGreat
