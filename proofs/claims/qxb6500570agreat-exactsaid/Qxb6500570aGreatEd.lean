import Derived.Test.Qxb6500570aGreatEc
/- The model's graph. -/
namespace Go.Proofs.Qxb6500570aGreat
set_option linter.unusedVariables false
set_option linter.unusedSimpArgs false

/-- The model's graph in memory. -/
def MGr (w : World) (gm rb : Nat) (R : Nat → Nat) : Prop := rb < gm ∧ (∃ a b : Int, Blk w.heap gm [sl rb 24, icv a, icv b] 185) ∧ ∃ RL, Blk w.heap rb (rws msc RL) 85 ∧ RL.length = 24 ∧ (∀ c, c < 24 → rF RL c = R c) ∧ ∀ c, c < 24 → R c < 2 ^ 24
theorem MGr.far {w w' : World} {gm rb lo hi : Nat} {R : Nat → Nat} {G : Nat → Prop} (h : MGr w gm rb R) (hb : lo ≤ rb ∧ gm < hi) (F : Fram G w w') (hn : ∀ b, lo ≤ b → b < hi → ¬ G b) : MGr w' gm rb R := by
  obtain ⟨h1, ⟨a, b, h2⟩, RL, h3, h4⟩ := h
  exact ⟨h1, ⟨a, b, F.blkF h2 (hn _ (by omega) (by omega))⟩, RL, F.blkF h3 (hn _ (by omega) (by omega)), h4⟩
theorem New145 {w : World} : Ret Tryz.prog 145 [] w (fun v w' => ∃ gm rb, v = ptr gm ∧ w.heap.size ≤ rb ∧ gm < w'.heap.size ∧ MGr w' gm rb (fun _ => 0) ∧ Fram none' w w') := by
  have hF : Fram none' w w := Fram.refl _ _
  refine ret_of Tryz.func145 rfl Tryz.ntmps145 rfl ?_
  refine c_seq (fun K1 hK1 => ?_)
  refine c_reg ?_ -- region 0 graphm.go:14
  refine wl (ro_assign rfl) ?_
  refine wl_nil (x_then (hK1 _ _ ?_))
  clear hK1 K1
  refine forget [] trivial (fun e => ?_)
  refine c_seq (fun K2 hK2 => ?_)
  refine c_reg ?_ -- region 1 graphm.go:14
  refine wl_make (len := 24) (cap := 24) rfl rfl se_57 ze_85 (by simp) (by omega) (by omega) rfl bb_85 (fun rb w1 hbrb hR F1 => ?_)
  have hbsrb := Nat.le_trans hF.size hbrb
  replace hF := hF.thenDrew.thenN F1
  refine wl (ro_build rfl bld_185_0) ?_
  refine wl_box rfl rfl (fun gm w2 hbgm hB F2 => ?_)
  have hbsgm := Nat.le_trans hF.size hbgm
  have hnerbgm : rb < gm := Nat.lt_of_lt_of_le hR.lt hbgm
  replace hF := hF.thenDrew.thenN F2
  replace hR := F2.blkN hR
  refine wl (ro_assign rfl) ?_
  refine wl_nil (x_then (hK2 _ _ ?_))
  clear hK2 K2
  refine c_ret ?_
  refine bp_ret Tryz.results145 rfl ?_
  refine ⟨gm, rb, rfl, by omega, hB.lt, ⟨by omega, ⟨_, _, hB⟩, List.replicate 24 0, ?_, List.length_replicate, fun c _ => rF_rep _ _, fun c _ => by show (0 : Nat) < 2 ^ 24; decide⟩, hF⟩
  rw [← zc_rws (enc := msc) (x0 := 0) rfl msc_len 24]; exact hR
theorem SetM147 {w : World} {gm rb c m lo hi : Nat} {R : Nat → Nat} (h : MGr w gm rb R) (hb : lo ≤ rb ∧ gm < hi) (hc : c < 24) (hm : m < 2 ^ 24) :
    Ret Tryz.prog 147 [ptr gm, i64c c, u32c m] w (fun v w' => v = icv 0 ∧ MGr w' gm rb (fun x => if x = c then m else R x) ∧ Fram (rng lo hi) w w') := by
  have hF : Fram (rng lo hi) w w := Fram.refl _ _
  obtain ⟨hlt, ⟨a, b, hB⟩, RL, hR, hrl, hRR, hRb⟩ := h
  have hd0 : dif m 16777215 = 0 := bits_zero (n := 24) (dif_lt hm) (fun j hj => by rw [dif_bit, show (16777215 : Nat) = 2 ^ 24 - 1 from rfl, Nat.testBit_two_pow_sub_one]; simp [hj])
  have hm1 : rng lo hi gm := ⟨by omega, by omega⟩
  have hm2 : rng lo hi rb := ⟨by omega, by omega⟩
  have hset : ∀ x, rF (RL.set c m) x = if x = c then m else rF RL x := fun x => rF_set (by omega)
  refine ret_of Tryz.func147 rfl Tryz.ntmps147 rfl ?_
  refine c_seq (fun K1 hK1 => ?_)
  refine c_reg ?_ -- region 0 graphm.go:16
  refine wl (ro_assign rfl) ?_
  refine wl_nil (x_then (hK1 _ _ ?_))
  clear hK1 K1
  refine forget [(0, _), (1, _), (2, _)] ⟨rfl, rfl, rfl, trivial⟩ (fun e => ?_)
  refine c_seq (fun K2 hK2 => ?_)
  refine c_reg ?_ -- region 1 graphm.go:17
  refine wl (ro_move rfl) ?_
  refine wl (ro_nilCheck rfl) ?_
  refine wl (ro_fieldAddr (k := 1) rfl fo_185_1) ?_
  refine wl (ro_loadB rfl sc_3 (by assumption) rfl) ?_
  refine wl (ro_arithW rfl rfl rfl) ?_
  refine wl (ro_nilCheck rfl) ?_
  refine wl (ro_fieldAddr (k := 1) rfl fo_185_1) ?_
  refine wl_put rfl rfl rfl sz_3 hB ((by simp)) ((show _ = [sl rb 24, icv (IntKind.i64.wrap (a + 1)), icv b] from rfl)) (fun w1 hB F1 => ?_)
  replace hF := hF.thenDrew.thenO F1 (by first | exact .inr (by omega) | exact .inl rfl | exact .inl (by assumption))
  replace hR := F1.blkO hR (by omega)
  refine wl_nil (x_then (hK2 _ _ ?_))
  clear hK2 K2
  refine c_seq (fun K3 hK3 => ?_)
  refine c_seq (fun K4 hK4 => ?_)
  refine c_reg ?_ -- region 2 graphm.go:18
  refine wl (ro_move rfl) ?_
  refine wl (ro_cmp (r := false) rfl rfl (congrArg some (decide_eq_false (by omega)))) ?_
  refine wl (ro_move rfl) ?_
  refine wlg_yes rfl (ro_move rfl) ?_
  refine wlg_yes rfl (ro_cmp (r := false) rfl rfl (congrArg some (decide_eq_false (by omega)))) ?_
  refine wl (ro_pick rfl rfl rfl) ?_
  refine wl (ro_move rfl) ?_
  refine wlg_yes rfl (ro_move rfl) ?_
  refine wlg_yes rfl (ro_dif32 rfl rfl (by omega) (by decide)) ?_
  refine wlg_yes rfl (ro_cmp (r := false) rfl rfl (congrArg some (by rw [hd0]; rfl))) ?_
  refine wl (ro_pick rfl rfl rfl) ?_
  refine wl_nil (x_then (hK4 _ _ ?_))
  clear hK4 K4
  refine wc_condF rfl ?_
  refine c_skip (x_then (hK3 _ _ ?_))
  clear hK3 K3
  refine forget [(0, _), (1, _), (2, _)] ⟨rfl, rfl, rfl, trivial⟩ (fun e => ?_)
  refine c_seq (fun K5 hK5 => ?_)
  refine c_reg ?_ -- region 4 graphm.go:21
  refine wl (ro_move rfl) ?_
  refine wl (ro_nilCheck rfl) ?_
  refine wl (ro_fieldAddr (k := 0) rfl fo_185_0) ?_
  refine wl (ro_loadB rfl sc_57 (by assumption) rfl) ?_
  refine wl (ro_move rfl) ?_
  refine wl (ro_move rfl) ?_
  refine wl (ro_indexAddr (et := 85) (k := 1) rfl rfl se_57 rfl (by omega)) ?_
  refine wl_put rfl rfl rfl sz_85 hR ((rw_fit msc_len (i := c) (j := 0) (m := 1) (by omega) (by omega) (by omega))) ((rw_put msc_len (i := c) (j := 0) (x := rF RL c) (x' := m) (rF_get (by omega)) (by omega) (by omega) rfl)) (fun w2 hR F2 => ?_)
  replace hF := hF.thenDrew.thenO F2 (by first | exact .inr (by omega) | exact .inl rfl | exact .inl (by assumption))
  replace hB := F2.blkO hB (by omega)
  refine wl_nil (x_then (hK5 _ _ ?_))
  clear hK5 K5
  refine forget [] trivial (fun e => ?_)
  refine c_seq (fun K6 hK6 => ?_)
  refine c_reg ?_ -- region 5 graphm.go:22
  refine wl (ro_assign rfl) ?_
  refine wl_nil (x_then (hK6 _ _ ?_))
  clear hK6 K6
  refine c_ret ?_
  refine bp_ret Tryz.results147 rfl ?_
  refine ⟨rfl, ⟨hlt, ⟨_, _, hB⟩, RL.set c m, hR, by rw [List.length_set]; exact hrl, fun x hx => ?_, fun x hx => ?_⟩, hF⟩
  · rw [hset]
    show _ = (if x = c then m else R x)
    by_cases ex : x = c
    · rw [if_pos ex, if_pos ex]
    · rw [if_neg ex, if_neg ex]; exact hRR x hx
  · show (if x = c then m else R x) < _
    split
    · exact hm
    · exact hRb x hx
theorem dif_zero {a b : Nat} (ha : a < 2 ^ 24) : dif a b = 0 ↔ ∀ d, d < 24 → a.testBit d = true → b.testBit d = true := by
  constructor
  · intro h d hd ht
    have := dif_bit a b d
    rw [h, ht] at this
    simpa using this.symm
  · intro h
    refine bits_zero (n := 24) (dif_lt ha) (fun j hj => ?_)
    rw [dif_bit]
    cases hj2 : a.testBit j with
    | false => rfl
    | true => rw [h j hj hj2]; rfl
set_option maxHeartbeats 4000000 in
theorem rounds148 {w : World} {gm rb : Nat} {R : Nat → Nat} (h : MGr w gm rb R) :
    Ret Tryz.prog 148 [ptr gm] w (fun v w' => ∃ lb LL, v = sl lb 24 ∧ w.heap.size ≤ lb ∧ Blk w'.heap lb (rws ivc LL) 3 ∧ LL.length = 24 ∧ LvOK R (lF LL) ∧ Fram none' w w') := by
  have hF : Fram none' w w := Fram.refl _ _
  obtain ⟨hlt, ⟨a, b, hB⟩, RL, hR, hrl, hRR, hRb⟩ := h
  refine ret_of Tryz.func148 rfl Tryz.ntmps148 rfl ?_
  refine c_seq (fun K1 hK1 => ?_)
  refine c_reg ?_ -- region 0 graphm.go:47
  refine wl (ro_assign rfl) ?_
  refine wl_nil (x_then (hK1 _ _ ?_))
  clear hK1 K1
  refine forget [(0, _)] ⟨rfl, trivial⟩ (fun e => ?_)
  refine c_seq (fun K2 hK2 => ?_)
  refine c_reg ?_ -- region 1 graphm.go:48
  refine wl_make (len := 24) (cap := 24) rfl rfl se_79 ze_3 (by simp) (by omega) (by omega) rfl bb_3 (fun lb w1 hblb hL F1 => ?_)
  have hbslb := Nat.le_trans hF.size hblb
  have hnegmlb : gm < lb := Nat.lt_of_lt_of_le hB.lt hblb
  have hnerblb : rb < lb := Nat.lt_of_lt_of_le hR.lt hblb
  replace hF := hF.thenDrew.thenN F1
  replace hB := F1.blkN hB
  replace hR := F1.blkN hR
  have hL0 : Blk _ lb (rws ivc (List.replicate 24 0)) 3 := (by rw [← zc_rws (enc := ivc) (x0 := 0) rfl ivc_len 24]; exact hL)
  refine wl (ro_assign rfl) ?_
  refine wl_nil (x_then (hK2 _ _ ?_))
  clear hK2 K2
  refine c_seq (fun K3 hK3 => ?_)
  refine c_seq (fun K4 hK4 => ?_)
  refine c_reg ?_ -- region 2 graphm.go:49
  refine wl (ro_assign rfl) ?_
  refine wl_nil (x_then (hK4 _ _ ?_))
  clear hK4 K4
  refine c_block ?_
  -- loop@r3: live slots [0, 3, 4]
  refine c_loopG (fun q a' w' => ∃ c LL, q = 24 - c ∧ c ≤ 24 ∧ LL.length = 24 ∧ (∀ x, x < c → lF LL x = -1) ∧ Blk w'.heap lb (rws ivc LL) 3 ∧ Blk w'.heap gm [sl rb 24, icv a, icv b] 185 ∧ Blk w'.heap rb (rws msc RL) 85 ∧ Fram none' w w' ∧ ∃ e, a' = Fr 53 (upds e [(0, ptr gm), (3, sl lb 24), (4, i64c c)]) []) 24 ⟨0, _, rfl, by omega, List.length_replicate, fun x hx => by omega, hL0, hB, hR, hF, kp _ ⟨rfl, rfl, rfl, trivial⟩⟩ ?_
  clear hB hR hL hF hL0
  rintro q a' u1 ⟨c, LL, rfl, hc, hll, i1, hL, hB, hR, hF, e, rfl⟩
  refine c_seq (fun K5 hK5 => ?_)
  refine c_seq (fun K6 hK6 => ?_)
  refine c_reg ?_ -- region 3 graphm.go:49
  refine wl (ro_move rfl) ?_
  refine wl (ro_cmp (r := decide (c < 24)) rfl rfl (congrArg some (decide_eq_decide.2 (by omega)))) ?_
  refine wl_nil (x_then (hK6 _ _ ?_))
  clear hK6 K6
  refine wc_cond rfl (fun hc11 => ?_) (fun hc11 => ?_)
  · try simp only [decide_eq_true_eq, decide_eq_false_iff_not, Bool.not_eq_true', Bool.not_eq_false', Bool.not_eq_eq_eq_not, Bool.not_true, Bool.not_false, beq_iff_eq, bne_iff_ne, ne_eq, beq_eq_false_iff_ne, bne_eq_false_iff_eq, gt_iff_lt, ge_iff_le, Int.not_lt, Int.not_le] at hc11
    refine c_skip (x_then (hK5 _ _ ?_))
    clear hK5 K5
    refine forget [(0, _), (3, _), (4, _)] ⟨rfl, rfl, rfl, trivial⟩ (fun e => ?_)
    refine c_seq (fun K7 hK7 => ?_)
    refine c_block ?_
    refine c_reg ?_ -- region 5 graphm.go:50
    refine wl (ro_move rfl) ?_
    refine wl (ro_move rfl) ?_
    refine wl (ro_indexAddr (et := 3) (k := 1) rfl rfl se_79 rfl (by omega)) ?_
    refine wl_put rfl rfl rfl sz_3 hL ((rw_fit ivc_len (i := c) (j := 0) (m := 1) (by omega) (by omega) (by omega))) ((rw_put ivc_len (i := c) (j := 0) (x := lF LL c) (x' := -1) (lF_get (by omega)) (by omega) (by omega) rfl)) (fun w2 hL F2 => ?_)
    replace hF := hF.thenDrew.thenO F2 (by first | exact .inr (by omega) | exact .inl rfl | exact .inl (by assumption))
    replace hB := F2.blkO hB (by omega)
    replace hR := F2.blkO hR (by omega)
    refine wl_nil (x_blk (x_then (hK7 _ _ ?_)))
    clear hK7 K7
    refine c_reg ?_ -- region 4 graphm.go:49
    refine wl (ro_move rfl) ?_
    refine wl (ro_arith (r := ((c + 1 : Nat) : Int)) rfl rfl rfl (Go.IntWalk.i64_in _ (by omega))) ?_
    refine wl (ro_assign rfl) ?_
    refine wl_nil (x_then ?_)
    refine ⟨24 - (c + 1), by omega, c + 1, LL.set c (-1), rfl, by omega, by rw [List.length_set]; exact hll, fun x hx => ?_, hL, hB, hR, hF, kp _ ⟨rfl, rfl, rfl, trivial⟩⟩
    rw [lF_set (by omega)]
    split
    · rfl
    · exact i1 x (by omega)
  · try simp only [decide_eq_true_eq, decide_eq_false_iff_not, Bool.not_eq_true', Bool.not_eq_false', Bool.not_eq_eq_eq_not, Bool.not_true, Bool.not_false, beq_iff_eq, bne_iff_ne, ne_eq, beq_eq_false_iff_ne, bne_eq_false_iff_eq, gt_iff_lt, ge_iff_le, Int.not_lt, Int.not_le] at hc11
    have hc24 : c = 24 := by omega
    subst hc24
    refine c_exit (x_thenX (x_thenX (x_blkX (x_then (hK3 _ _ ?_)))))
    clear hK5 K5 hK3 K3
    refine forget [(0, _), (3, _)] ⟨rfl, rfl, trivial⟩ (fun e => ?_)
    refine c_seq (fun K8 hK8 => ?_)
    refine c_reg ?_ -- region 6 graphm.go:52
    refine wl (ro_assign rfl) ?_
    refine wl_nil (x_then (hK8 _ _ ?_))
    clear hK8 K8
    refine c_seq (fun K9 hK9 => ?_)
    refine c_seq (fun K10 hK10 => ?_)
    refine c_reg ?_ -- region 7 graphm.go:53
    refine wl (ro_assign rfl) ?_
    refine wl_nil (x_then (hK10 _ _ ?_))
    clear hK10 K10
    refine c_block ?_
    -- loop@r8: live slots [0, 3, 5, 6]
    refine c_loopG (fun q a' w' => ∃ k LL snd, q = 24 - k ∧ k ≤ 24 ∧ LL.length = 24 ∧ RdI R (lF LL) snd k ∧ Blk w'.heap lb (rws ivc LL) 3 ∧ Blk w'.heap gm [sl rb 24, icv a, icv b] 185 ∧ Blk w'.heap rb (rws msc RL) 85 ∧ Fram none' w w' ∧ ∃ e, a' = Fr 53 (upds e [(0, ptr gm), (3, sl lb 24), (5, u32c snd), (6, i64c k)]) []) 24 ⟨0, LL, 0, rfl, by omega, hll, RdI.start R i1, hL, hB, hR, hF, kp _ ⟨rfl, rfl, rfl, rfl, trivial⟩⟩ ?_
    clear hB hR hL hF i1 hll
    rintro q a' u2 ⟨k, LL, snd, rfl, hk, hll, hI, hL, hB, hR, hF, e, rfl⟩
    have hsn := hI.lt
    refine c_seq (fun K11 hK11 => ?_)
    refine c_seq (fun K12 hK12 => ?_)
    refine c_reg ?_ -- region 8 graphm.go:53
    refine wl (ro_move rfl) ?_
    refine wl (ro_cmp (r := decide (k < 24)) rfl rfl (congrArg some (decide_eq_decide.2 (by omega)))) ?_
    refine wl_nil (x_then (hK12 _ _ ?_))
    clear hK12 K12
    refine wc_cond rfl (fun hc18 => ?_) (fun hc18 => ?_)
    · try simp only [decide_eq_true_eq, decide_eq_false_iff_not, Bool.not_eq_true', Bool.not_eq_false', Bool.not_eq_eq_eq_not, Bool.not_true, Bool.not_false, beq_iff_eq, bne_iff_ne, ne_eq, beq_eq_false_iff_ne, bne_eq_false_iff_eq, gt_iff_lt, ge_iff_le, Int.not_lt, Int.not_le] at hc18
      refine c_skip (x_then (hK11 _ _ ?_))
      clear hK11 K11
      refine forget [(0, _), (3, _), (5, _), (6, _)] ⟨rfl, rfl, rfl, rfl, trivial⟩ (fun e => ?_)
      refine c_seq (fun K13 hK13 => ?_)
      refine c_block ?_
      refine c_seq (fun K14 hK14 => ?_)
      refine c_reg ?_ -- region 10 graphm.go:54
      refine wl (ro_move rfl) ?_
      refine wl (ro_assign rfl) ?_
      refine wl_nil (x_then (hK14 _ _ ?_))
      clear hK14 K14
      refine c_seq (fun K15 hK15 => ?_)
      refine c_seq (fun K16 hK16 => ?_)
      refine c_reg ?_ -- region 11 graphm.go:55
      refine wl (ro_assign rfl) ?_
      refine wl_nil (x_then (hK16 _ _ ?_))
      clear hK16 K16
      refine c_block ?_
      -- loop@r12: live slots [0, 3, 5, 6, 7, 8]
      refine c_loopG (fun q a' w' => ∃ c LL' now, q = 24 - c ∧ c ≤ 24 ∧ LL'.length = 24 ∧ now < 2 ^ 24 ∧ (∀ x, x < c → (lF LL x < 0 ∧ (∀ d, rdB R x d → snd.testBit d = true)) → lF LL' x = (k : Int)) ∧ (∀ x, x < 24 → (c ≤ x ∨ ¬ (lF LL x < 0 ∧ (∀ d, rdB R x d → snd.testBit d = true))) → lF LL' x = lF LL x) ∧ (∀ x, x < 24 → (now.testBit x = true ↔ (snd.testBit x = true ∨ (x < c ∧ lF LL x < 0 ∧ ∀ d, rdB R x d → snd.testBit d = true)))) ∧ Blk w'.heap lb (rws ivc LL') 3 ∧ Blk w'.heap gm [sl rb 24, icv a, icv b] 185 ∧ Blk w'.heap rb (rws msc RL) 85 ∧ Fram none' w w' ∧ ∃ e, a' = Fr 53 (upds e [(0, ptr gm), (3, sl lb 24), (5, u32c snd), (6, i64c k), (7, u32c now), (8, i64c c)]) []) 24 ⟨0, LL, snd, rfl, by omega, hll, hsn, fun x hx => by omega, fun _ _ _ => rfl, fun x hx => ⟨.inl, fun q => by rcases q with q | q; exact q; omega⟩, hL, hB, hR, hF, kp _ ⟨rfl, rfl, rfl, rfl, rfl, rfl, trivial⟩⟩ ?_
      clear hB hR hL hF
      rintro q a' u3 ⟨c, LL', now, rfl, hc, hll', hnow, i1, i2, i3, hL, hB, hR, hF, e, rfl⟩
      refine c_seq (fun K17 hK17 => ?_)
      refine c_seq (fun K18 hK18 => ?_)
      refine c_reg ?_ -- region 12 graphm.go:55
      refine wl (ro_move rfl) ?_
      refine wl (ro_cmp (r := decide (c < 24)) rfl rfl (congrArg some (decide_eq_decide.2 (by omega)))) ?_
      refine wl_nil (x_then (hK18 _ _ ?_))
      clear hK18 K18
      refine wc_cond rfl (fun hc23 => ?_) (fun hc23 => ?_)
      · try simp only [decide_eq_true_eq, decide_eq_false_iff_not, Bool.not_eq_true', Bool.not_eq_false', Bool.not_eq_eq_eq_not, Bool.not_true, Bool.not_false, beq_iff_eq, bne_iff_ne, ne_eq, beq_eq_false_iff_ne, bne_eq_false_iff_eq, gt_iff_lt, ge_iff_le, Int.not_lt, Int.not_le] at hc23
        have hRc := hRb c hc23
        have hRc' : rF RL c < 2 ^ 24 := by rw [hRR c hc23]; exact hRc
        have hdz := dif_zero (b := snd) hRc'
        have hbc := bit_lt hc23
        have hcc := i2 c hc23 (.inl (Nat.le_refl _))
        have hrdy : (dif (rF RL c) snd = 0) ↔ (∀ d, rdB R c d → snd.testBit d = true) := by rw [hdz, hRR c hc23]; exact ⟨fun q d hd => q d hd.1 hd.2, fun q d hd ht => q d ⟨hd, ht⟩⟩
        have hset : ∀ x, lF (LL'.set c (k : Int)) x = if x = c then (k : Int) else lF LL' x := fun x => lF_set (by omega)
        refine c_skip (x_then (hK17 _ _ ?_))
        clear hK17 K17
        refine forget [(0, _), (3, _), (5, _), (6, _), (7, _), (8, _)] ⟨rfl, rfl, rfl, rfl, rfl, rfl, trivial⟩ (fun e => ?_)
        refine c_seq (fun K19 hK19 => ?_)
        refine c_block ?_
        refine c_seq (fun K20 hK20 => ?_)
        refine c_reg ?_ -- region 14 graphm.go:56
        refine wl (ro_move rfl) ?_
        refine wl (ro_move rfl) ?_
        refine wl (ro_indexAddr (et := 3) (k := 1) rfl rfl se_79 rfl (by omega)) ?_
        refine wl (ro_loadB rfl sc_3 (hL) ((rw_get ivc_len (lF_get (RL := LL') (c := c) (by omega)) (j := 0) (by omega) rfl))) ?_
        refine wl (ro_cmp rfl rfl rfl) ?_
        refine wl_fork rfl (fun hg31 => ?_) (fun hg31 => ?_)
        · try simp only [decide_eq_true_eq, decide_eq_false_iff_not, Bool.not_eq_true', Bool.not_eq_false', Bool.not_eq_eq_eq_not, Bool.not_true, Bool.not_false, beq_iff_eq, bne_iff_ne, ne_eq, beq_eq_false_iff_ne, bne_eq_false_iff_eq, gt_iff_lt, ge_iff_le, Int.not_lt, Int.not_le] at hg31
          refine wlg_yes rfl (ro_move rfl) ?_
          refine wlg_yes rfl (ro_nilCheck rfl) ?_
          refine wlg_yes rfl (ro_fieldAddr (k := 0) rfl fo_185_0) ?_
          refine wlg_yes rfl (ro_loadB rfl sc_57 (by assumption) rfl) ?_
          refine wlg_yes rfl (ro_move rfl) ?_
          refine wlg_yes rfl (ro_indexAddr (et := 85) (k := 1) rfl rfl se_57 rfl (by omega)) ?_
          refine wlg_yes rfl (ro_loadB rfl sc_85 (hR) ((rw_get msc_len (rF_get (RL := RL) (c := c) (by omega)) (j := 0) (by omega) rfl))) ?_
          refine wlg_yes rfl (ro_move rfl) ?_
          refine wlg_yes rfl (ro_dif32 rfl rfl (by omega) (by omega)) ?_
          refine wlg_yes rfl (ro_cmp (r := decide (dif (rF RL c) snd = 0)) rfl rfl (congrArg some (eq0 _))) ?_
          refine wl (ro_pick rfl rfl rfl) ?_
          refine wl_nil (x_then (hK20 _ _ ?_))
          clear hK20 K20
          refine wc_cond rfl (fun hc42 => ?_) (fun hc42 => ?_)
          · try simp only [decide_eq_true_eq, decide_eq_false_iff_not, Bool.not_eq_true', Bool.not_eq_false', Bool.not_eq_eq_eq_not, Bool.not_true, Bool.not_false, beq_iff_eq, bne_iff_ne, ne_eq, beq_eq_false_iff_ne, bne_eq_false_iff_eq, gt_iff_lt, ge_iff_le, Int.not_lt, Int.not_le] at hc42
            refine c_seq (fun K21 hK21 => ?_)
            refine c_reg ?_ -- region 15 graphm.go:57
            refine wl (ro_move rfl) ?_
            refine wl (ro_move rfl) ?_
            refine wl (ro_move rfl) ?_
            refine wl (ro_indexAddr (et := 3) (k := 1) rfl rfl se_79 rfl (by omega)) ?_
            refine wl_put rfl rfl rfl sz_3 hL ((rw_fit ivc_len (i := c) (j := 0) (m := 1) (by omega) (by omega) (by omega))) ((rw_put ivc_len (i := c) (j := 0) (x := lF LL' c) (x' := (k : Int)) (lF_get (by omega)) (by omega) (by omega) rfl)) (fun w3 hL F3 => ?_)
            replace hF := hF.thenDrew.thenO F3 (by first | exact .inr (by omega) | exact .inl rfl | exact .inl (by assumption))
            replace hB := F3.blkO hB (by omega)
            replace hR := F3.blkO hR (by omega)
            refine wl_nil (x_then (hK21 _ _ ?_))
            clear hK21 K21
            refine c_reg ?_ -- region 16 graphm.go:58
            refine wl (ro_move rfl) ?_
            refine wl (ro_move rfl) ?_
            refine wl_call rfl en_66 (Bit66 hc23) ?_
            rintro _ _ ⟨rfl, rfl⟩
            refine wl (ro_or32 rfl rfl (by omega) (by omega)) ?_
            refine wl (ro_assign rfl) ?_
            refine wl_nil (x_blk (x_then (hK19 _ _ ?_)))
            clear hK19 K19
            refine c_reg ?_ -- region 13 graphm.go:55
            refine wl (ro_move rfl) ?_
            refine wl (ro_arith (r := ((c + 1 : Nat) : Int)) rfl rfl rfl (Go.IntWalk.i64_in _ (by omega))) ?_
            refine wl (ro_assign rfl) ?_
            refine wl_nil (x_then ?_)
            first
              | (have hyes : lF LL c < 0 ∧ (∀ d, rdB R c d → snd.testBit d = true) := ⟨by rw [← hcc]; assumption, hrdy.1 (by assumption)⟩
                 refine ⟨24 - (c + 1), by omega, c + 1, LL'.set c (k : Int), now ||| 2 ^ c, rfl, by omega, by rw [List.length_set]; exact hll', or_lt hnow hbc, fun x hx q => ?_, fun x hx q => ?_, fun x hx => ?_, hL, hB, hR, hF, kp _ ⟨rfl, rfl, rfl, rfl, rfl, rfl, trivial⟩⟩
                 · rw [hset]
                   by_cases ex : x = c
                   · rw [if_pos ex]
                   · rw [if_neg ex]; exact i1 x (by omega) q
                 · rw [hset, if_neg (fun ex => by subst ex; rcases q with q | q; omega; exact q hyes)]
                   exact i2 x hx (by rcases q with q | q; exact .inl (by omega); exact .inr q)
                 · rw [Nat.testBit_or, Bool.or_eq_true, i3 x hx, bit_pow, decide_eq_true_eq]
                   constructor
                   · rintro ((q | ⟨q1, q2⟩) | rfl)
                     · exact .inl q
                     · exact .inr ⟨by omega, q2⟩
                     · exact .inr ⟨by omega, hyes⟩
                   · rintro (q | ⟨q1, q2⟩)
                     · exact .inl (.inl q)
                     · by_cases ex : x = c
                       · exact .inr ex
                       · exact .inl (.inr ⟨by omega, q2⟩))
              | (have hno : ¬ (lF LL c < 0 ∧ (∀ d, rdB R c d → snd.testBit d = true)) := by
                   rintro ⟨q1, q2⟩
                   first
                     | exact absurd (hrdy.2 q2) (by assumption)
                     | (rw [← hcc] at q1; omega)
                 refine ⟨24 - (c + 1), by omega, c + 1, LL', now, rfl, by omega, hll', hnow, fun x hx q => ?_, fun x hx q => ?_, fun x hx => ?_, hL, hB, hR, hF, kp _ ⟨rfl, rfl, rfl, rfl, rfl, rfl, trivial⟩⟩
                 · by_cases ex : x = c
                   · subst ex; exact absurd q hno
                   · exact i1 x (by omega) q
                 · exact i2 x hx (by rcases q with q | q; exact .inl (by omega); exact .inr q)
                 · rw [i3 x hx]
                   constructor
                   · rintro (q | ⟨q1, q2⟩)
                     · exact .inl q
                     · exact .inr ⟨by omega, q2⟩
                   · rintro (q | ⟨q1, q2⟩)
                     · exact .inl q
                     · by_cases ex : x = c
                       · subst ex; exact absurd q2 hno
                       · exact .inr ⟨by omega, q2⟩)
          · try simp only [decide_eq_true_eq, decide_eq_false_iff_not, Bool.not_eq_true', Bool.not_eq_false', Bool.not_eq_eq_eq_not, Bool.not_true, Bool.not_false, beq_iff_eq, bne_iff_ne, ne_eq, beq_eq_false_iff_ne, bne_eq_false_iff_eq, gt_iff_lt, ge_iff_le, Int.not_lt, Int.not_le] at hc42
            refine c_skip (x_blk (x_then (hK19 _ _ ?_)))
            clear hK19 K19
            refine c_reg ?_ -- region 13 graphm.go:55
            refine wl (ro_move rfl) ?_
            refine wl (ro_arith (r := ((c + 1 : Nat) : Int)) rfl rfl rfl (Go.IntWalk.i64_in _ (by omega))) ?_
            refine wl (ro_assign rfl) ?_
            refine wl_nil (x_then ?_)
            first
              | (have hyes : lF LL c < 0 ∧ (∀ d, rdB R c d → snd.testBit d = true) := ⟨by rw [← hcc]; assumption, hrdy.1 (by assumption)⟩
                 refine ⟨24 - (c + 1), by omega, c + 1, LL'.set c (k : Int), now ||| 2 ^ c, rfl, by omega, by rw [List.length_set]; exact hll', or_lt hnow hbc, fun x hx q => ?_, fun x hx q => ?_, fun x hx => ?_, hL, hB, hR, hF, kp _ ⟨rfl, rfl, rfl, rfl, rfl, rfl, trivial⟩⟩
                 · rw [hset]
                   by_cases ex : x = c
                   · rw [if_pos ex]
                   · rw [if_neg ex]; exact i1 x (by omega) q
                 · rw [hset, if_neg (fun ex => by subst ex; rcases q with q | q; omega; exact q hyes)]
                   exact i2 x hx (by rcases q with q | q; exact .inl (by omega); exact .inr q)
                 · rw [Nat.testBit_or, Bool.or_eq_true, i3 x hx, bit_pow, decide_eq_true_eq]
                   constructor
                   · rintro ((q | ⟨q1, q2⟩) | rfl)
                     · exact .inl q
                     · exact .inr ⟨by omega, q2⟩
                     · exact .inr ⟨by omega, hyes⟩
                   · rintro (q | ⟨q1, q2⟩)
                     · exact .inl (.inl q)
                     · by_cases ex : x = c
                       · exact .inr ex
                       · exact .inl (.inr ⟨by omega, q2⟩))
              | (have hno : ¬ (lF LL c < 0 ∧ (∀ d, rdB R c d → snd.testBit d = true)) := by
                   rintro ⟨q1, q2⟩
                   first
                     | exact absurd (hrdy.2 q2) (by assumption)
                     | (rw [← hcc] at q1; omega)
                 refine ⟨24 - (c + 1), by omega, c + 1, LL', now, rfl, by omega, hll', hnow, fun x hx q => ?_, fun x hx q => ?_, fun x hx => ?_, hL, hB, hR, hF, kp _ ⟨rfl, rfl, rfl, rfl, rfl, rfl, trivial⟩⟩
                 · by_cases ex : x = c
                   · subst ex; exact absurd q hno
                   · exact i1 x (by omega) q
                 · exact i2 x hx (by rcases q with q | q; exact .inl (by omega); exact .inr q)
                 · rw [i3 x hx]
                   constructor
                   · rintro (q | ⟨q1, q2⟩)
                     · exact .inl q
                     · exact .inr ⟨by omega, q2⟩
                   · rintro (q | ⟨q1, q2⟩)
                     · exact .inl q
                     · by_cases ex : x = c
                       · subst ex; exact absurd q2 hno
                       · exact .inr ⟨by omega, q2⟩)
        · try simp only [decide_eq_true_eq, decide_eq_false_iff_not, Bool.not_eq_true', Bool.not_eq_false', Bool.not_eq_eq_eq_not, Bool.not_true, Bool.not_false, beq_iff_eq, bne_iff_ne, ne_eq, beq_eq_false_iff_ne, bne_eq_false_iff_eq, gt_iff_lt, ge_iff_le, Int.not_lt, Int.not_le] at hg31
          refine wlg_no rfl ?_
          refine wlg_no rfl ?_
          refine wlg_no rfl ?_
          refine wlg_no rfl ?_
          refine wlg_no rfl ?_
          refine wlg_no rfl ?_
          refine wlg_no rfl ?_
          refine wlg_no rfl ?_
          refine wlg_no rfl ?_
          refine wlg_no rfl ?_
          refine wl (ro_pick rfl rfl rfl) ?_
          refine wl_nil (x_then (hK20 _ _ ?_))
          clear hK20 K20
          refine wc_condF rfl ?_
          refine c_skip (x_blk (x_then (hK19 _ _ ?_)))
          clear hK19 K19
          refine c_reg ?_ -- region 13 graphm.go:55
          refine wl (ro_move rfl) ?_
          refine wl (ro_arith (r := ((c + 1 : Nat) : Int)) rfl rfl rfl (Go.IntWalk.i64_in _ (by omega))) ?_
          refine wl (ro_assign rfl) ?_
          refine wl_nil (x_then ?_)
          first
            | (have hyes : lF LL c < 0 ∧ (∀ d, rdB R c d → snd.testBit d = true) := ⟨by rw [← hcc]; assumption, hrdy.1 (by assumption)⟩
               refine ⟨24 - (c + 1), by omega, c + 1, LL'.set c (k : Int), now ||| 2 ^ c, rfl, by omega, by rw [List.length_set]; exact hll', or_lt hnow hbc, fun x hx q => ?_, fun x hx q => ?_, fun x hx => ?_, hL, hB, hR, hF, kp _ ⟨rfl, rfl, rfl, rfl, rfl, rfl, trivial⟩⟩
               · rw [hset]
                 by_cases ex : x = c
                 · rw [if_pos ex]
                 · rw [if_neg ex]; exact i1 x (by omega) q
               · rw [hset, if_neg (fun ex => by subst ex; rcases q with q | q; omega; exact q hyes)]
                 exact i2 x hx (by rcases q with q | q; exact .inl (by omega); exact .inr q)
               · rw [Nat.testBit_or, Bool.or_eq_true, i3 x hx, bit_pow, decide_eq_true_eq]
                 constructor
                 · rintro ((q | ⟨q1, q2⟩) | rfl)
                   · exact .inl q
                   · exact .inr ⟨by omega, q2⟩
                   · exact .inr ⟨by omega, hyes⟩
                 · rintro (q | ⟨q1, q2⟩)
                   · exact .inl (.inl q)
                   · by_cases ex : x = c
                     · exact .inr ex
                     · exact .inl (.inr ⟨by omega, q2⟩))
            | (have hno : ¬ (lF LL c < 0 ∧ (∀ d, rdB R c d → snd.testBit d = true)) := by
                 rintro ⟨q1, q2⟩
                 first
                   | exact absurd (hrdy.2 q2) (by assumption)
                   | (rw [← hcc] at q1; omega)
               refine ⟨24 - (c + 1), by omega, c + 1, LL', now, rfl, by omega, hll', hnow, fun x hx q => ?_, fun x hx q => ?_, fun x hx => ?_, hL, hB, hR, hF, kp _ ⟨rfl, rfl, rfl, rfl, rfl, rfl, trivial⟩⟩
               · by_cases ex : x = c
                 · subst ex; exact absurd q hno
                 · exact i1 x (by omega) q
               · exact i2 x hx (by rcases q with q | q; exact .inl (by omega); exact .inr q)
               · rw [i3 x hx]
                 constructor
                 · rintro (q | ⟨q1, q2⟩)
                   · exact .inl q
                   · exact .inr ⟨by omega, q2⟩
                 · rintro (q | ⟨q1, q2⟩)
                   · exact .inl q
                   · by_cases ex : x = c
                     · subst ex; exact absurd q2 hno
                     · exact .inr ⟨by omega, q2⟩)
      · try simp only [decide_eq_true_eq, decide_eq_false_iff_not, Bool.not_eq_true', Bool.not_eq_false', Bool.not_eq_eq_eq_not, Bool.not_true, Bool.not_false, beq_iff_eq, bne_iff_ne, ne_eq, beq_eq_false_iff_ne, bne_eq_false_iff_eq, gt_iff_lt, ge_iff_le, Int.not_lt, Int.not_le] at hc23
        have hc24 : c = 24 := by omega
        subst hc24
        have hI2 : RdI R (lF LL') now (k + 1) := hI.round hRb (fun x hx q1 q2 => i1 x hx ⟨q1, q2⟩) (fun x hx q => i2 x hx (.inr q)) hnow (fun x hx => by
          rw [i3 x hx]
          constructor
          · rintro (q | ⟨-, q⟩)
            · exact .inl q
            · exact .inr q
          · rintro (q | q)
            · exact .inl q
            · exact .inr ⟨hx, q⟩)
        refine c_exit (x_thenX (x_thenX (x_blkX (x_then (hK15 _ _ ?_)))))
        clear hK17 K17 hK15 K15
        refine c_reg ?_ -- region 17 graphm.go:61
        refine wl (ro_move rfl) ?_
        refine wl (ro_assign rfl) ?_
        refine wl_nil (x_blk (x_then (hK13 _ _ ?_)))
        clear hK13 K13
        refine c_reg ?_ -- region 9 graphm.go:53
        refine wl (ro_move rfl) ?_
        refine wl (ro_arith (r := ((k + 1 : Nat) : Int)) rfl rfl rfl (Go.IntWalk.i64_in _ (by omega))) ?_
        refine wl (ro_assign rfl) ?_
        refine wl_nil (x_then ?_)
        exact ⟨24 - (k + 1), by omega, k + 1, LL', now, rfl, by omega, hll', hI2, hL, hB, hR, hF, kp _ ⟨rfl, rfl, rfl, rfl, trivial⟩⟩
    · try simp only [decide_eq_true_eq, decide_eq_false_iff_not, Bool.not_eq_true', Bool.not_eq_false', Bool.not_eq_eq_eq_not, Bool.not_true, Bool.not_false, beq_iff_eq, bne_iff_ne, ne_eq, beq_eq_false_iff_ne, bne_eq_false_iff_eq, gt_iff_lt, ge_iff_le, Int.not_lt, Int.not_le] at hc18
      refine c_exit (x_thenX (x_thenX (x_blkX (x_then (hK9 _ _ ?_)))))
      clear hK11 K11 hK9 K9
      refine forget [(3, _)] ⟨rfl, trivial⟩ (fun e => ?_)
      refine c_seq (fun K22 hK22 => ?_)
      refine c_reg ?_ -- region 18 graphm.go:63
      refine wl (ro_move rfl) ?_
      refine wl (ro_assign rfl) ?_
      refine wl_nil (x_then (hK22 _ _ ?_))
      clear hK22 K22
      refine c_ret ?_
      refine bp_ret Tryz.results148 rfl ?_
      have hk24 : k = 24 := by omega
      subst hk24
      exact ⟨lb, LL, rfl, by omega, hL, hll, hI.done, hF⟩

end Go.Proofs.Qxb6500570aGreat
