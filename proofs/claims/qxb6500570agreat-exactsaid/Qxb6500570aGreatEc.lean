import Derived.Test.Qxb6500570aGreatEb
/- The real graph: Set. -/
namespace Go.Proofs.Qxb6500570aGreat
set_option linter.unusedVariables false
set_option linter.unusedSimpArgs false

def gall (B : GB) : Nat → Prop := fun b => b = B.g ∨ b = B.r ∨ b = B.b ∨ b = B.l ∨ b = B.n
theorem SetL.rd {r r' : Nat → Nat} {L : Nat → Int} {x : Nat} (h : SetL r L x) (e : r' x = r x) : SetL r' L x := by
  obtain ⟨a, b, c⟩ := h
  refine ⟨a, fun d hd => b d ⟨hd.1, by rw [← e]; exact hd.2⟩, ?_⟩
  rcases c with c | ⟨d, hd, c⟩
  · exact .inl c
  · exact .inr ⟨d, ⟨hd.1, by rw [e]; exact hd.2⟩, c⟩
theorem CycL.rd {r r' : Nat → Nat} {L : Nat → Int} {x : Nat} (h : CycL r L x) (e : r' x = r x) : CycL r' L x := by
  obtain ⟨a, d, hd, c⟩ := h
  exact ⟨a, d, ⟨hd.1, by rw [e]; exact hd.2⟩, c⟩
theorem LvOK.rd {r r' : Nat → Nat} {L : Nat → Int} (h : LvOK r L) (e : ∀ x, x < 24 → r' x = r x) : LvOK r' L := by
  intro x hx
  rcases h x hx with q | q
  · exact .inl (q.rd (e x hx))
  · exact .inr (q.rd (e x hx))

set_option maxHeartbeats 8000000 in
theorem SetG88 {w : World} {B : GB} {R : Nat → Nat} {c m : Nat} (ho : GBo B) (hG : GrR w B R) (hc : c < 24) (hm : m < 2 ^ 24) :
    Ret Tryz.prog 88 [ptr B.g, i64c c, u32c m] w (fun v w' => v = icv 0 ∧ GrR w' B (fun x => if x = c then m else R x) ∧ Fram (gall B) w w') := by
  have hF : Fram (gall B) w w := Fram.refl _ _
  have hm1 : gall B B.g := .inl rfl
  have hm2 : gall B B.r := .inr (.inl rfl)
  have hm3 : gall B B.b := .inr (.inr (.inl rfl))
  have ho' := ho
  unfold GBo at ho
  obtain ⟨RL, BL, LL, NL, cy, tc, V, htr, hRR, hlv, hcy, hcb⟩ := hG
  obtain ⟨hB, hR, hQ, hL, hN, hrl, hbl, hll, hnl, hrb, hqb⟩ := V
  have hRc := hrb c hc
  have hd0 : dif m 16777215 = 0 := bits_zero (n := 24) (dif_lt hm) (fun j hj => by rw [dif_bit, show (16777215 : Nat) = 2 ^ 24 - 1 from rfl, Nat.testBit_two_pow_sub_one]; simp [hj])
  have hb2 := bit_lt hc
  generalize hrem : dif (rF RL c) m = rem
  have hrem24 : rem < 2 ^ 24 := by rw [← hrem]; exact dif_lt hRc
  generalize hadd : dif m (rF RL c) = add
  have hadd24 : add < 2 ^ 24 := by rw [← hadd]; exact dif_lt hm
  refine ret_of Tryz.func88 rfl Tryz.ntmps88 rfl ?_
  refine c_seq (fun K1 hK1 => ?_)
  refine c_reg ?_ -- region 0 graph.go:62
  refine wl (ro_assign rfl) ?_
  refine wl_nil (x_then (hK1 _ _ ?_))
  clear hK1 K1
  refine forget [(0, _), (1, _), (2, _)] ⟨rfl, rfl, rfl, trivial⟩ (fun e => ?_)
  refine c_seq (fun K2 hK2 => ?_)
  refine c_reg ?_ -- region 1 graph.go:63
  refine wl (ro_move rfl) ?_
  refine wl (ro_nilCheck rfl) ?_
  refine wl (ro_fieldAddr (k := 5) rfl fo_91_5) ?_
  refine wl_put rfl rfl rfl sz_3 hB ((by simp)) ((show _ = gst B cy 0 from rfl)) (fun w1 hB F1 => ?_)
  replace hF := hF.thenDrew.thenO F1 (by first | exact .inr (by omega) | exact .inl rfl | exact .inl (by assumption))
  replace hR := F1.blkO hR (by omega)
  replace hQ := F1.blkO hQ (by omega)
  replace hL := F1.blkO hL (by omega)
  replace hN := F1.blkO hN (by omega)
  refine wl_nil (x_then (hK2 _ _ ?_))
  clear hK2 K2
  refine c_seq (fun K3 hK3 => ?_)
  refine c_seq (fun K4 hK4 => ?_)
  refine c_reg ?_ -- region 2 graph.go:64
  refine wl (ro_move rfl) ?_
  refine wl (ro_cmp (r := false) rfl rfl (congrArg some (decide_eq_false (by omega)))) ?_
  refine wl (ro_move rfl) ?_
  refine wlg_yes rfl (ro_move rfl) ?_
  refine wlg_yes rfl (ro_cmp (r := false) rfl rfl (congrArg some (decide_eq_false (by omega)))) ?_
  refine wl (ro_pick rfl rfl rfl) ?_
  refine wl (ro_move rfl) ?_
  refine wlg_yes rfl (ro_move rfl) ?_
  refine wlg_yes rfl (ro_dif32 rfl rfl (by omega) (by decide)) ?_
  refine wlg_yes rfl (ro_cmp (r := false) rfl rfl (congrArg some (by rw [hd0]; rfl))) ?_
  refine wl (ro_pick rfl rfl rfl) ?_
  refine wl_nil (x_then (hK4 _ _ ?_))
  clear hK4 K4
  refine wc_condF rfl ?_
  refine c_skip (x_then (hK3 _ _ ?_))
  clear hK3 K3
  refine forget [(0, _), (1, _), (2, _)] ⟨rfl, rfl, rfl, trivial⟩ (fun e => ?_)
  refine c_seq (fun K5 hK5 => ?_)
  refine c_reg ?_ -- region 4 graph.go:67
  refine wl (ro_move rfl) ?_
  refine wl_call rfl en_113 (one113 hc) ?_
  rintro _ _ ⟨rfl, rfl⟩
  refine wl (ro_assign rfl) ?_
  refine wl_nil (x_then (hK5 _ _ ?_))
  clear hK5 K5
  refine c_seq (fun K6 hK6 => ?_)
  refine c_seq (fun K7 hK7 => ?_)
  refine c_reg ?_ -- region 5 graph.go:68
  refine wl (ro_move rfl) ?_
  refine wl (ro_nilCheck rfl) ?_
  refine wl (ro_fieldAddr (k := 0) rfl fo_91_0) ?_
  refine wl (ro_loadB rfl sc_57 (by assumption) rfl) ?_
  refine wl (ro_move rfl) ?_
  refine wl (ro_indexAddr (et := 85) (k := 1) rfl rfl se_57 rfl (by omega)) ?_
  refine wl (ro_loadB rfl sc_85 (hR) ((rw_get msc_len (rF_get (RL := RL) (c := c) (by omega)) (j := 0) (by omega) rfl))) ?_
  refine wl (ro_move rfl) ?_
  refine wl (ro_dif32 rfl rfl (by omega) (by omega)) ?_
  refine wl (ro_assign rfl) ?_
  refine wl_nil (x_then (hK7 _ _ ?_))
  clear hK7 K7
  refine c_block ?_
  -- loop@r6: live slots [0, 1, 2, 7, 8]
  rw [hrem]
  refine c_loopG (fun q a' w' => ∃ s BL', q = cntN s 24 ∧ s < 2 ^ 24 ∧ BL'.length = 24 ∧ (∀ d, d < 24 → rF BL' d < 2 ^ 24) ∧ (∀ j, j < 24 → s.testBit j = true → rem.testBit j = true) ∧ (∀ x d, x < 24 → d < 24 → x ≠ c → (rF BL' d).testBit x = (rF RL x).testBit d) ∧ (∀ d, d < 24 → (rF BL' d).testBit c = ((rF RL c).testBit d && !(rem.testBit d && !s.testBit d))) ∧ Blk w'.heap B.g (gst B cy 0) 91 ∧ Blk w'.heap B.r (rws msc RL) 85 ∧ Blk w'.heap B.b (rws msc BL') 85 ∧ Blk w'.heap B.l (rws ivc LL) 3 ∧ Blk w'.heap B.n (rws ivc NL) 3 ∧ Fram (gall B) w w' ∧ ∃ e, a' = Fr 102 (upds e [(0, ptr B.g), (1, i64c c), (2, u32c m), (7, u32c (2 ^ c)), (8, u32c s)]) []) _ ⟨rem, BL, rfl, hrem24, hbl, hqb, fun _ _ q => q, fun x d hx hd _ => htr x d hx hd, fun d hd => by rw [htr c d hc hd]; cases rem.testBit d <;> simp, hB, hR, hQ, hL, hN, hF, kp _ ⟨rfl, rfl, rfl, rfl, rfl, trivial⟩⟩ ?_
  clear hB hR hQ hL hN hF
  rintro q a' u1 ⟨s, BL', rfl, hs, hbl', hqb', i1, i2, i3, hB, hR, hQ, hL, hN, hF, e, rfl⟩
  refine c_seq (fun K8 hK8 => ?_)
  refine c_seq (fun K9 hK9 => ?_)
  refine c_reg ?_ -- region 6 graph.go:68
  refine wl (ro_move rfl) ?_
  refine wl (ro_cmp (r := decide (s ≠ 0)) rfl rfl (congrArg some (bnec s 0))) ?_
  refine wl_nil (x_then (hK9 _ _ ?_))
  clear hK9 K9
  refine wc_cond rfl (fun hc38 => ?_) (fun hc38 => ?_)
  · try simp only [decide_eq_true_eq, decide_eq_false_iff_not, Bool.not_eq_true', Bool.not_eq_false', Bool.not_eq_eq_eq_not, Bool.not_true, Bool.not_false, beq_iff_eq, bne_iff_ne, ne_eq, beq_eq_false_iff_ne, bne_eq_false_iff_eq, gt_iff_lt, ge_iff_le, Int.not_lt, Int.not_le] at hc38
    obtain ⟨k, hk⟩ := low_ex _ _ (Nat.le_refl _) hc38
    have hk24 := hk.lt hs
    have hla := low_and hk
    have hlt : s &&& (s - 1) < 2 ^ 24 := Nat.lt_of_le_of_lt Nat.and_le_left hs
    have hs1 : 1 ≤ s := by omega
    have e1 := cntN_off (s := s) (t := s &&& (s - 1)) hk.1 hla (n := 24) hk24
    have hoff : ∀ j, (s &&& (s - 1)).testBit j = true → s.testBit j = true ∧ j ≠ k := fun j q => by rw [hla] at q; simpa using q
    have hon : ∀ j, (s &&& (s - 1)).testBit j = false → j ≠ k → s.testBit j = false := fun j q hj => by rw [hla] at q; simpa [hj] using q
    have hBk := hqb' k hk24
    have hset : ∀ x, rF (BL'.set k (dif (rF BL' k) (2 ^ c))) x = if x = k then dif (rF BL' k) (2 ^ c) else rF BL' x := fun x => rF_set (by omega)
    refine c_skip (x_then (hK8 _ _ ?_))
    clear hK8 K8
    refine forget [(0, _), (1, _), (2, _), (7, _), (8, _)] ⟨rfl, rfl, rfl, rfl, rfl, trivial⟩ (fun e => ?_)
    refine c_seq (fun K10 hK10 => ?_)
    refine c_block ?_
    refine c_seq (fun K11 hK11 => ?_)
    refine c_reg ?_ -- region 8 graph.go:69
    refine wl (ro_move rfl) ?_
    refine wl_call rfl en_114 (first114 (by omega) hk) ?_
    rintro _ _ ⟨rfl, rfl⟩
    refine wl (ro_assign rfl) ?_
    refine wl_nil (x_then (hK11 _ _ ?_))
    clear hK11 K11
    refine c_piL 15 [(0, false), (1, false), (2, false), (3, false), (4, false), (5, false), (6, false), (7, false), (8, false), (9, false), (10, false), (11, false), (12, false), (13, false), (14, false)] (SameH _) mixed (by kernel_rfl) rfl (by kernel_rfl) (po_blk (po_then (po_then (po_blk (po_then (po_bp)))))) (sameH_now _ _) ?_ -- region 9 graph.go:70
    refine ql_ro rfl (fun w hS => ro_move rfl) ?_
    refine ql_ro rfl (fun w hS => ro_nilCheck rfl) ?_
    refine ql_ro rfl (fun w hS => ro_fieldAddr (k := 1) rfl fo_91_1) ?_
    refine ql_ro rfl (fun w hS => ro_loadB rfl sc_57 (Blk.of_heap (by assumption) hS) rfl) ?_
    refine ql_ro rfl (fun w hS => ro_move rfl) ?_
    refine ql_ro rfl (fun w hS => ro_move rfl) ?_
    refine ql_ro rfl (fun w hS => ro_nilCheck rfl) ?_
    refine ql_ro rfl (fun w hS => ro_fieldAddr (k := 1) rfl fo_91_1) ?_
    refine ql_ro rfl (fun w hS => ro_loadB rfl sc_57 (Blk.of_heap (by assumption) hS) rfl) ?_
    refine ql_ro rfl (fun w hS => ro_move rfl) ?_
    refine ql_ro rfl (fun w hS => ro_indexAddr (et := 85) (k := 1) rfl rfl se_57 rfl (by omega)) ?_
    refine ql_ro rfl (fun w hS => ro_loadB rfl sc_85 (Blk.of_heap hQ hS) ((rw_get msc_len (rF_get (RL := BL') (c := k) (by omega)) (j := 0) (by omega) rfl))) ?_
    refine ql_ro rfl (fun w hS => ro_move rfl) ?_
    refine ql_ro rfl (fun w hS => ro_dif32 rfl rfl (by omega) (by omega)) ?_
    refine ql_ro rfl (fun w hS => ro_indexAddr (et := 85) (k := 1) rfl rfl se_57 rfl (by omega)) ?_
    refine ql_put rfl rfl rfl rfl sz_85 hQ ((rw_fit msc_len (i := k) (j := 0) (m := 1) (by omega) (by omega) (by omega))) ((rw_put msc_len (i := k) (j := 0) (x := rF BL' k) (x' := dif (rF BL' k) (2 ^ c)) (rF_get (by omega)) (by omega) (by omega) rfl)) (fun w2 hQ F2 => ?_)
    replace hF := hF.thenDrew.thenO F2 (by first | exact .inr (by omega) | exact .inl rfl | exact .inl (by assumption))
    replace hB := F2.blkO hB (by omega)
    replace hR := F2.blkO hR (by omega)
    replace hL := F2.blkO hL (by omega)
    replace hN := F2.blkO hN (by omega)
    refine x_blk (x_then (hK10 _ _ ?_))
    clear hK10 K10
    refine c_reg ?_ -- region 7 graph.go:68
    refine wl (ro_move rfl) ?_
    refine wl (ro_move rfl) ?_
    refine wl (ro_arith (r := ((s - 1 : Nat) : Int)) rfl rfl (congrArg some (by omega)) (Go.IntWalk.u32_in _ (by omega))) ?_
    refine wl (ro_and32 rfl rfl (by omega) (by omega)) ?_
    refine wl (ro_assign rfl) ?_
    refine wl_nil (x_then ?_)
    refine ⟨_, by omega, s &&& (s - 1), BL'.set k (dif (rF BL' k) (2 ^ c)), rfl, hlt, by rw [List.length_set]; exact hbl', fun x hx => ?_, fun j hj q => i1 j hj (hoff j q).1, fun x d' hx hd' hxc => ?_, fun d' hd' => ?_, hB, hR, hQ, hL, hN, hF, kp _ ⟨rfl, rfl, rfl, rfl, rfl, trivial⟩⟩
    · rw [hset]
      split
      · exact dif_lt hBk
      · exact hqb' x hx
    · rw [hset]
      by_cases ex : d' = k
      · subst ex
        rw [if_pos rfl, dif_bit, bit_pow, i2 x d' hx hd' hxc]
        simp [hxc]
      · rw [if_neg ex]; exact i2 x d' hx hd' hxc
    · rw [hset]
      by_cases ex : d' = k
      · subst ex
        rw [if_pos rfl, dif_bit, bit_pow, hla, i1 d' hd' hk.1]
        simp
      · rw [if_neg ex, i3 d' hd', hla]
        simp [ex]
  · try simp only [decide_eq_true_eq, decide_eq_false_iff_not, Bool.not_eq_true', Bool.not_eq_false', Bool.not_eq_eq_eq_not, Bool.not_true, Bool.not_false, beq_iff_eq, bne_iff_ne, ne_eq, beq_eq_false_iff_ne, bne_eq_false_iff_eq, gt_iff_lt, ge_iff_le, Int.not_lt, Int.not_le] at hc38
    have hs0 : s = 0 := Decidable.not_not.1 hc38
    subst hs0
    refine c_exit (x_thenX (x_thenX (x_blkX (x_then (hK6 _ _ ?_)))))
    clear hK8 K8 hK6 K6
    refine c_seq (fun K12 hK12 => ?_)
    refine c_seq (fun K13 hK13 => ?_)
    refine c_reg ?_ -- region 10 graph.go:72
    refine wl (ro_move rfl) ?_
    refine wl (ro_move rfl) ?_
    refine wl (ro_nilCheck rfl) ?_
    refine wl (ro_fieldAddr (k := 0) rfl fo_91_0) ?_
    refine wl (ro_loadB rfl sc_57 (by assumption) rfl) ?_
    refine wl (ro_move rfl) ?_
    refine wl (ro_indexAddr (et := 85) (k := 1) rfl rfl se_57 rfl (by omega)) ?_
    refine wl (ro_loadB rfl sc_85 (hR) ((rw_get msc_len (rF_get (RL := RL) (c := c) (by omega)) (j := 0) (by omega) rfl))) ?_
    refine wl (ro_dif32 rfl rfl (by omega) (by omega)) ?_
    refine wl (ro_assign rfl) ?_
    refine wl_nil (x_then (hK13 _ _ ?_))
    clear hK13 K13
    refine c_block ?_
    -- loop@r11: live slots [0, 1, 2, 7, 10]
    rw [hadd]
    have i4 : ∀ d, d < 24 → (rF BL' d).testBit c = ((rF RL c).testBit d && m.testBit d) := by
      intro d hd
      rw [i3 d hd, ← hrem, dif_bit]
      cases (rF RL c).testBit d <;> cases m.testBit d <;> simp
    clear i3 i1
    refine c_loopG (fun q a' w' => ∃ s BL', q = cntN s 24 ∧ s < 2 ^ 24 ∧ BL'.length = 24 ∧ (∀ d, d < 24 → rF BL' d < 2 ^ 24) ∧ (∀ j, j < 24 → s.testBit j = true → add.testBit j = true) ∧ (∀ x d, x < 24 → d < 24 → x ≠ c → (rF BL' d).testBit x = (rF RL x).testBit d) ∧ (∀ d, d < 24 → (rF BL' d).testBit c = (((rF RL c).testBit d && m.testBit d) || (add.testBit d && !s.testBit d))) ∧ Blk w'.heap B.g (gst B cy 0) 91 ∧ Blk w'.heap B.r (rws msc RL) 85 ∧ Blk w'.heap B.b (rws msc BL') 85 ∧ Blk w'.heap B.l (rws ivc LL) 3 ∧ Blk w'.heap B.n (rws ivc NL) 3 ∧ Fram (gall B) w w' ∧ ∃ e, a' = Fr 102 (upds e [(0, ptr B.g), (1, i64c c), (2, u32c m), (7, u32c (2 ^ c)), (10, u32c s)]) []) _ ⟨add, BL', rfl, hadd24, hbl', hqb', fun _ _ q => q, i2, fun d hd => by rw [i4 d hd]; cases add.testBit d <;> simp, hB, hR, hQ, hL, hN, hF, kp _ ⟨rfl, rfl, rfl, rfl, rfl, trivial⟩⟩ ?_
    clear hB hR hQ hL hN hF i2 i4 hbl' hqb'
    rintro q a' u2 ⟨s, BL', rfl, hs, hbl', hqb', i1, i2, i3, hB, hR, hQ, hL, hN, hF, e, rfl⟩
    refine c_seq (fun K14 hK14 => ?_)
    refine c_seq (fun K15 hK15 => ?_)
    refine c_reg ?_ -- region 11 graph.go:72
    refine wl (ro_move rfl) ?_
    refine wl (ro_cmp (r := decide (s ≠ 0)) rfl rfl (congrArg some (bnec s 0))) ?_
    refine wl_nil (x_then (hK15 _ _ ?_))
    clear hK15 K15
    refine wc_cond rfl (fun hc70 => ?_) (fun hc70 => ?_)
    · try simp only [decide_eq_true_eq, decide_eq_false_iff_not, Bool.not_eq_true', Bool.not_eq_false', Bool.not_eq_eq_eq_not, Bool.not_true, Bool.not_false, beq_iff_eq, bne_iff_ne, ne_eq, beq_eq_false_iff_ne, bne_eq_false_iff_eq, gt_iff_lt, ge_iff_le, Int.not_lt, Int.not_le] at hc70
      obtain ⟨k, hk⟩ := low_ex _ _ (Nat.le_refl _) hc70
      have hk24 := hk.lt hs
      have hla := low_and hk
      have hlt : s &&& (s - 1) < 2 ^ 24 := Nat.lt_of_le_of_lt Nat.and_le_left hs
      have hs1 : 1 ≤ s := by omega
      have e1 := cntN_off (s := s) (t := s &&& (s - 1)) hk.1 hla (n := 24) hk24
      have hoff : ∀ j, (s &&& (s - 1)).testBit j = true → s.testBit j = true ∧ j ≠ k := fun j q => by rw [hla] at q; simpa using q
      have hon : ∀ j, (s &&& (s - 1)).testBit j = false → j ≠ k → s.testBit j = false := fun j q hj => by rw [hla] at q; simpa [hj] using q
      have hBk := hqb' k hk24
      have hset : ∀ x, rF (BL'.set k (rF BL' k ||| 2 ^ c)) x = if x = k then (rF BL' k ||| 2 ^ c) else rF BL' x := fun x => rF_set (by omega)
      refine c_skip (x_then (hK14 _ _ ?_))
      clear hK14 K14
      refine forget [(0, _), (1, _), (2, _), (7, _), (10, _)] ⟨rfl, rfl, rfl, rfl, rfl, trivial⟩ (fun e => ?_)
      refine c_seq (fun K16 hK16 => ?_)
      refine c_block ?_
      refine c_seq (fun K17 hK17 => ?_)
      refine c_reg ?_ -- region 13 graph.go:73
      refine wl (ro_move rfl) ?_
      refine wl_call rfl en_114 (first114 (by omega) hk) ?_
      rintro _ _ ⟨rfl, rfl⟩
      refine wl (ro_assign rfl) ?_
      refine wl_nil (x_then (hK17 _ _ ?_))
      clear hK17 K17
      refine c_piL 15 [(0, false), (1, false), (2, false), (3, false), (4, false), (5, false), (6, false), (7, false), (8, false), (9, false), (10, false), (11, false), (12, false), (13, false), (14, false)] (SameH _) mixed (by kernel_rfl) rfl (by kernel_rfl) (po_blk (po_then (po_then (po_blk (po_then (po_bp)))))) (sameH_now _ _) ?_ -- region 14 graph.go:74
      refine ql_ro rfl (fun w hS => ro_move rfl) ?_
      refine ql_ro rfl (fun w hS => ro_nilCheck rfl) ?_
      refine ql_ro rfl (fun w hS => ro_fieldAddr (k := 1) rfl fo_91_1) ?_
      refine ql_ro rfl (fun w hS => ro_loadB rfl sc_57 (Blk.of_heap (by assumption) hS) rfl) ?_
      refine ql_ro rfl (fun w hS => ro_move rfl) ?_
      refine ql_ro rfl (fun w hS => ro_move rfl) ?_
      refine ql_ro rfl (fun w hS => ro_nilCheck rfl) ?_
      refine ql_ro rfl (fun w hS => ro_fieldAddr (k := 1) rfl fo_91_1) ?_
      refine ql_ro rfl (fun w hS => ro_loadB rfl sc_57 (Blk.of_heap (by assumption) hS) rfl) ?_
      refine ql_ro rfl (fun w hS => ro_move rfl) ?_
      refine ql_ro rfl (fun w hS => ro_indexAddr (et := 85) (k := 1) rfl rfl se_57 rfl (by omega)) ?_
      refine ql_ro rfl (fun w hS => ro_loadB rfl sc_85 (Blk.of_heap hQ hS) ((rw_get msc_len (rF_get (RL := BL') (c := k) (by omega)) (j := 0) (by omega) rfl))) ?_
      refine ql_ro rfl (fun w hS => ro_move rfl) ?_
      refine ql_ro rfl (fun w hS => ro_or32 rfl rfl (by omega) (by omega)) ?_
      refine ql_ro rfl (fun w hS => ro_indexAddr (et := 85) (k := 1) rfl rfl se_57 rfl (by omega)) ?_
      refine ql_put rfl rfl rfl rfl sz_85 hQ ((rw_fit msc_len (i := k) (j := 0) (m := 1) (by omega) (by omega) (by omega))) ((rw_put msc_len (i := k) (j := 0) (x := rF BL' k) (x' := rF BL' k ||| 2 ^ c) (rF_get (by omega)) (by omega) (by omega) rfl)) (fun w3 hQ F3 => ?_)
      replace hF := hF.thenDrew.thenO F3 (by first | exact .inr (by omega) | exact .inl rfl | exact .inl (by assumption))
      replace hB := F3.blkO hB (by omega)
      replace hR := F3.blkO hR (by omega)
      replace hL := F3.blkO hL (by omega)
      replace hN := F3.blkO hN (by omega)
      refine x_blk (x_then (hK16 _ _ ?_))
      clear hK16 K16
      refine c_reg ?_ -- region 12 graph.go:72
      refine wl (ro_move rfl) ?_
      refine wl (ro_move rfl) ?_
      refine wl (ro_arith (r := ((s - 1 : Nat) : Int)) rfl rfl (congrArg some (by omega)) (Go.IntWalk.u32_in _ (by omega))) ?_
      refine wl (ro_and32 rfl rfl (by omega) (by omega)) ?_
      refine wl (ro_assign rfl) ?_
      refine wl_nil (x_then ?_)
      refine ⟨_, by omega, s &&& (s - 1), BL'.set k (rF BL' k ||| 2 ^ c), rfl, hlt, by rw [List.length_set]; exact hbl', fun x hx => ?_, fun j hj q => i1 j hj (hoff j q).1, fun x d' hx hd' hxc => ?_, fun d' hd' => ?_, hB, hR, hQ, hL, hN, hF, kp _ ⟨rfl, rfl, rfl, rfl, rfl, trivial⟩⟩
      · rw [hset]
        split
        · exact or_lt hBk hb2
        · exact hqb' x hx
      · rw [hset]
        by_cases ex : d' = k
        · subst ex
          rw [if_pos rfl, Nat.testBit_or, bit_pow, i2 x d' hx hd' hxc]
          simp [hxc]
        · rw [if_neg ex]; exact i2 x d' hx hd' hxc
      · rw [hset]
        by_cases ex : d' = k
        · subst ex
          rw [if_pos rfl, Nat.testBit_or, bit_pow, hla, i1 d' hd' hk.1]
          simp
        · rw [if_neg ex, i3 d' hd', hla]
          simp [ex]
    · try simp only [decide_eq_true_eq, decide_eq_false_iff_not, Bool.not_eq_true', Bool.not_eq_false', Bool.not_eq_eq_eq_not, Bool.not_true, Bool.not_false, beq_iff_eq, bne_iff_ne, ne_eq, beq_eq_false_iff_ne, bne_eq_false_iff_eq, gt_iff_lt, ge_iff_le, Int.not_lt, Int.not_le] at hc70
      have hs0 : s = 0 := Decidable.not_not.1 hc70
      subst hs0
      have hset : ∀ x, rF (RL.set c m) x = if x = c then m else rF RL x := fun x => rF_set (by omega)
      have i4 : ∀ d, d < 24 → (rF BL' d).testBit c = m.testBit d := by
        intro d hd
        rw [i3 d hd, ← hadd, dif_bit]
        cases (rF RL c).testBit d <;> cases m.testBit d <;> simp
      have htr' : TrG (RL.set c m) BL' := by
        intro x d hx hd
        rw [hset]
        by_cases ex : x = c
        · rw [if_pos ex, ex]; exact i4 d hd
        · rw [if_neg ex]; exact i2 x d hx hd ex
      refine c_exit (x_thenX (x_thenX (x_blkX (x_then (hK12 _ _ ?_)))))
      clear hK14 K14 hK12 K12
      refine forget [(0, _), (1, _), (2, _)] ⟨rfl, rfl, rfl, trivial⟩ (fun e => ?_)
      refine c_seq (fun K18 hK18 => ?_)
      refine c_reg ?_ -- region 15 graph.go:76
      refine wl (ro_move rfl) ?_
      refine wl (ro_nilCheck rfl) ?_
      refine wl (ro_fieldAddr (k := 0) rfl fo_91_0) ?_
      refine wl (ro_loadB rfl sc_57 (by assumption) rfl) ?_
      refine wl (ro_move rfl) ?_
      refine wl (ro_move rfl) ?_
      refine wl (ro_indexAddr (et := 85) (k := 1) rfl rfl se_57 rfl (by omega)) ?_
      refine wl_put rfl rfl rfl sz_85 hR ((rw_fit msc_len (i := c) (j := 0) (m := 1) (by omega) (by omega) (by omega))) ((rw_put msc_len (i := c) (j := 0) (x := rF RL c) (x' := m) (rF_get (by omega)) (by omega) (by omega) rfl)) (fun w4 hR F4 => ?_)
      replace hF := hF.thenDrew.thenO F4 (by first | exact .inr (by omega) | exact .inl rfl | exact .inl (by assumption))
      replace hB := F4.blkO hB (by omega)
      replace hQ := F4.blkO hQ (by omega)
      replace hL := F4.blkO hL (by omega)
      replace hN := F4.blkO hN (by omega)
      refine wl_nil (x_then (hK18 _ _ ?_))
      clear hK18 K18
      refine forget [(0, _), (1, _)] ⟨rfl, rfl, trivial⟩ (fun e => ?_)
      refine c_seq (fun K19 hK19 => ?_)
      refine c_reg ?_ -- region 16 graph.go:77
      refine wl (ro_move rfl) ?_
      refine wl (ro_move rfl) ?_
      refine wl_call rfl en_115 (mend115 ho' ⟨hB, hR, hQ, hL, hN, by rw [List.length_set]; exact hrl, hbl', hll, hnl, fun x hx ↦ by (rw [hset]; split; exact hm; exact hrb x hx), hqb'⟩ htr' hc (fun x hx hxc ↦ by (have e : rF (RL.set c m) x = R x := by (rw [hset, if_neg hxc]; exact hRR x hx)); (rcases hlv x hx with q | q; exact .inl (q.rd e); exact .inr (q.rd e))) hcy hcb) ?_
      rintro _ u3 ⟨⟨LL', NL', cy', tc', V', hlv', hcy', hcb'⟩, G3⟩
      replace hF := hF.transG G3 (by intro k hk h; rcases h with h | h | h; exact .inl h; exact .inr (.inr (.inr (.inl h))); exact .inr (.inr (.inr (.inr h))))
      refine wl_nil (x_then (hK19 _ _ ?_))
      clear hK19 K19
      refine forget [] trivial (fun e => ?_)
      refine c_seq (fun K20 hK20 => ?_)
      refine c_reg ?_ -- region 17 graph.go:78
      refine wl (ro_assign rfl) ?_
      refine wl_nil (x_then (hK20 _ _ ?_))
      clear hK20 K20
      refine c_ret ?_
      refine bp_ret Tryz.results88 rfl ?_
      refine ⟨rfl, ⟨RL.set c m, BL', LL', NL', cy', tc', V', htr', fun x hx => ?_, ?_, hcy', hcb'⟩, hF⟩
      · show _ = (if x = c then m else R x)
        rw [hset]
        by_cases ex : x = c
        · rw [if_pos ex, if_pos ex]
        · rw [if_neg ex, if_neg ex]; exact hRR x hx
      · refine hlv'.rd (fun x hx => ?_)
        show (if x = c then m else R x) = _
        rw [hset]
        by_cases ex : x = c
        · rw [if_pos ex, if_pos ex]
        · rw [if_neg ex, if_neg ex]; exact (hRR x hx).symm

end Go.Proofs.Qxb6500570aGreat
