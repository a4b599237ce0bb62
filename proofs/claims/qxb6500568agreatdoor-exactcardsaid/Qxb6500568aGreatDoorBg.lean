import Derived.Test.Qxb6500568aGreatDoorBf
import Derived.Test.Qxb6500568aGreatDoorPe
/- The model's Parse of numbers. -/
namespace Go.Proofs.Qxb6500568aGreatDoor
open Ieee
set_option linter.unusedVariables false
set_option linter.unusedSimpArgs false

def PRes (o : Option Nat) (v : Value) : Prop := (∃ x, o = some x ∧ v = .tuple #[u64c x, icv 0]) ∨ (o = none ∧ ∃ e : Int, e ≠ 0 ∧ v = .tuple #[u64c 0, icv e])
theorem PRes.no {o : Option Nat} (h : o = none) : PRes o (.tuple #[u64c 0, icv 2]) := .inr ⟨h, 2, by decide, rfl⟩
theorem nearest_sg (b : Bool) (m : Nat) (p : Int) : double.nearest b m p = sgB b + double.nearest false m p := by
  by_cases h : m = 0
  · subst h; rw [nearest_zero, nearest_zero]; rfl
  · rw [nearest_rung _ _ _ h, nearest_rung _ _ _ h, word_sg, word_sg]; show _ = sgB b + (0 + _); omega
theorem nearest_pos (m : Nat) (p : Int) : double.nearest false m p < 9223372036854775808 := by
  by_cases h : m = 0
  · subst h; rw [nearest_zero]; decide
  · rw [nearest_rung _ _ _ h, word_sg]
    have := Nat.min_le_right ((lastP m p + 1074).toNat * 2 ^ 52 + cutE (m * 2 ^ (p - lastP m p).toNat) (lastP m p - p).toNat) (2047 * 2 ^ 52)
    unfold rungE sgB
    simp only [Bool.false_eq_true, if_false]
    omega
theorem nearest_fin (m : Nat) (h : m < 18446744073709551616) : rgW (double.nearest false m 0) < infB := by
  have hp := nearest_pos m 0
  unfold rgW
  rw [Nat.mod_eq_of_lt hp]
  by_cases h0 : m = 0
  · subst h0; rw [nearest_zero]; decide
  · rw [nearest_rung _ _ _ h0, word_sg]
    have hl : m.log2 < 64 := (Nat.log2_lt h0).2 h
    have hlast : lastP m 0 ≤ 11 ∧ -1074 ≤ lastP m 0 := by unfold lastP; omega
    unfold sgB rungE
    simp only [Bool.false_eq_true, if_false, Nat.zero_add]
    have hcut : cutE (m * 2 ^ (0 - lastP m 0).toNat) (lastP m 0 - 0).toNat ≤ 2 ^ 53 := by
      unfold lastP
      have hlt := lt_two_log m
      by_cases c : m.log2 ≤ 52
      · have e1 : max (0 + (m.log2 : Int) - 52) (-1074) = (m.log2 : Int) - 52 := by omega
        rw [e1]
        have e2 : ((m.log2 : Int) - 52 - 0).toNat = 0 := by omega
        rw [e2, cutE_zero]
        have e3 : (0 - ((m.log2 : Int) - 52)).toNat = 52 - m.log2 := by omega
        rw [e3]
        have := Nat.mul_le_mul_right (2 ^ (52 - m.log2)) (Nat.le_of_lt hlt)
        rw [← Nat.pow_add, show m.log2 + 1 + (52 - m.log2) = 53 by omega] at this
        exact this
      · have e1 : max (0 + (m.log2 : Int) - 52) (-1074) = (m.log2 : Int) - 52 := by omega
        rw [e1]
        have e3 : (0 - ((m.log2 : Int) - 52)).toNat = 0 := by omega
        have e2 : ((m.log2 : Int) - 52 - 0).toNat = m.log2 - 52 := by omega
        rw [e2, e3, Nat.pow_zero, Nat.mul_one]
        unfold cutE
        have hd : m / 2 ^ (m.log2 - 52) < 2 ^ 53 := by
          rw [Nat.div_lt_iff_lt_mul (Nat.two_pow_pos _), ← Nat.pow_add, show 53 + (m.log2 - 52) = m.log2 + 1 by omega]
          exact hlt
        have : (if 2 ^ (m.log2 - 52) < 2 * (m % 2 ^ (m.log2 - 52)) ∨ 2 ^ (m.log2 - 52) = 2 * (m % 2 ^ (m.log2 - 52)) ∧ m / 2 ^ (m.log2 - 52) % 2 = 1 then 1 else 0) ≤ 1 := by split <;> omega
        omega
    have h1 : (lastP m 0 + 1074).toNat ≤ 1085 := by omega
    have h2 := Nat.mul_le_mul_right (2 ^ 52) h1
    have h3 := Nat.min_le_left ((lastP m 0 + 1074).toNat * 2 ^ 52 + cutE (m * 2 ^ (0 - lastP m 0).toNat) (lastP m 0 - 0).toNat) (2047 * 2 ^ 52)
    unfold infB
    omega
/-- A quotient of numbers that are not negative. -/
theorem div_pos {a b : Nat} (ha : a < 9223372036854775808) (hb : b < 9223372036854775808) (h1 : rgW a < infB) (h2 : rgW b < infB) (h3 : rgW b ≠ 0) : fDiv a b < 9223372036854775808 := by
  have na : ngW a = false := by unfold ngW; simp; omega
  have nb : ngW b = false := by unfold ngW; simp; omega
  have wa : W64 a := by unfold W64; omega
  have wb : W64 b := by unfold W64; omega
  unfold fDiv Format.div
  rw [read_fin wa h1, read_fin wb h2, na, nb]
  have hn : pmW b ≠ 0 := fun h => h3 (pm_zero.1 h)
  simp only [Datum.quotient, hn, if_false, Option.map, Option.getD, Format.write, Bool.xor_self]
  exact nearest_pos _ _
theorem nearest_nz {m : Nat} (h0 : m ≠ 0) (h : m < 18446744073709551616) : rgW (double.nearest false m 0) ≠ 0 := by
  have hp := nearest_pos m 0
  unfold rgW
  rw [Nat.mod_eq_of_lt hp, nearest_rung _ _ _ h0, word_sg]
  have hl : m.log2 < 64 := (Nat.log2_lt h0).2 h
  have hlast : -1074 < lastP m 0 := by unfold lastP; omega
  unfold sgB rungE
  simp only [Bool.false_eq_true, if_false, Nat.zero_add]
  have h1 : 1 ≤ (lastP m 0 + 1074).toNat := by omega
  have h2 := Nat.mul_le_mul_right (2 ^ 52) h1
  omega

theorem Parse103 {w : World} {p : Value} {s : List UInt8} (hs0 : s.length < 4611686018427387904) : Ret Tryz.prog 103 [p, S s] w (fun v w' => PRes (parN s) v ∧ w' = w) := by
  refine ret_of Tryz.func103 rfl Tryz.ntmps103 rfl ?_
  refine c_seq (fun K1 hK1 => ?_)
  refine c_reg ?_ -- region 0 numm.go:416
  refine wl (ro_assign rfl) ?_
  refine wl (ro_assign rfl) ?_
  refine wl_nil (x_then (hK1 _ _ ?_))
  clear hK1 K1
  refine c_seq (fun K2 hK2 => ?_)
  refine c_seq (fun K3 hK3 => ?_)
  refine c_reg ?_ -- region 1 numm.go:417
  refine wl (ro_move rfl) ?_
  refine wl (ro_lenS rfl st_9) ?_
  refine wl (ro_cmp rfl rfl rfl) ?_
  refine wl_nil (x_then (hK3 _ _ ?_))
  clear hK3 K3
  refine wc_cond rfl (fun hc20 => ?_) (fun hc20 => ?_)
  · try simp only [decide_eq_true_eq, decide_eq_false_iff_not, Bool.not_eq_true', Bool.not_eq_false', Bool.not_eq_eq_eq_not, Bool.not_true, Bool.not_false, beq_iff_eq, bne_iff_ne, ne_eq, beq_eq_false_iff_ne, bne_eq_false_iff_eq, gt_iff_lt, ge_iff_le, Int.not_lt, Int.not_le] at hc20
    refine c_seq (fun K4 hK4 => ?_)
    refine c_reg ?_ -- region 2 numm.go:418
    refine wl (ro_assign rfl) ?_
    refine wl (ro_assign rfl) ?_
    refine wl_nil (x_then (hK4 _ _ ?_))
    clear hK4 K4
    refine c_ret (x_thenR ?_)
    refine bp_ret Tryz.results103 rfl ?_
    exact ⟨.inr ⟨by unfold parN; rw [if_pos (by omega)], 1, by decide, rfl⟩, rfl⟩
  · try simp only [decide_eq_true_eq, decide_eq_false_iff_not, Bool.not_eq_true', Bool.not_eq_false', Bool.not_eq_eq_eq_not, Bool.not_true, Bool.not_false, beq_iff_eq, bne_iff_ne, ne_eq, beq_eq_false_iff_ne, bne_eq_false_iff_eq, gt_iff_lt, ge_iff_le, Int.not_lt, Int.not_le] at hc20
    have hs24 : s.length ≤ 24 := by omega
    refine c_skip (x_then (hK2 _ _ ?_))
    clear hK2 K2
    refine forget [(1, _)] ⟨rfl, trivial⟩ (fun e => ?_)
    refine c_seq (fun K5 hK5 => ?_)
    refine c_reg ?_ -- region 3 numm.go:420
    refine wl (ro_assign rfl) ?_
    refine wl_nil (x_then (hK5 _ _ ?_))
    clear hK5 K5
    refine forget [(1, _), (6, _)] ⟨rfl, rfl, trivial⟩ (fun e => ?_)
    refine c_seq (fun K6 hK6 => ?_)
    refine c_reg ?_ -- region 4 numm.go:421
    refine wl (ro_assign rfl) ?_
    refine wl_nil (x_then (hK6 _ _ ?_))
    clear hK6 K6
    refine c_mid (fun a' w' => w' = w ∧ ∃ (b : Bool) (i : Nat), i ≤ 1 ∧ i ≤ s.length ∧ (s ≠ [110, 97, 110] → parN s = (magN (s.drop i)).map (sgB b + ·)) ∧ ∃ e, a' = Fr 161 (upds e [(1, S s), (6, i64c i), (7, u64c (sgB b))]) []) ?_ ?_
    · skip
      refine c_seq (fun K7 hK7 => ?_)
      refine c_reg ?_ -- region 5 numm.go:422
      refine wl (ro_move rfl) ?_
      refine wl (ro_move rfl) ?_
      refine wl (ro_lenS rfl st_9) ?_
      refine wl (ro_cmp rfl rfl rfl) ?_
      refine wl_fork rfl (fun hg25 => ?_) (fun hg25 => ?_)
      · try simp only [decide_eq_true_eq, decide_eq_false_iff_not, Bool.not_eq_true', Bool.not_eq_false', Bool.not_eq_eq_eq_not, Bool.not_true, Bool.not_false, beq_iff_eq, bne_iff_ne, ne_eq, beq_eq_false_iff_ne, bne_eq_false_iff_eq, gt_iff_lt, ge_iff_le, Int.not_lt, Int.not_le] at hg25
        refine wlg_yes rfl (ro_move rfl) ?_
        refine wlg_yes rfl (ro_move rfl) ?_
        refine wlg_yes rfl (ro_indexS rfl rfl st_9 rfl (List.getElem?_eq_getElem (show 0 < s.length by omega))) ?_
        refine wlg_yes rfl (ro_cmp rfl rfl rfl) ?_
        refine wl (ro_pick rfl rfl rfl) ?_
        refine wl_nil (x_then (hK7 _ _ ?_))
        clear hK7 K7
        refine wc_cond rfl (fun hc30 => ?_) (fun hc30 => ?_)
        · try simp only [decide_eq_true_eq, decide_eq_false_iff_not, Bool.not_eq_true', Bool.not_eq_false', Bool.not_eq_eq_eq_not, Bool.not_true, Bool.not_false, beq_iff_eq, bne_iff_ne, ne_eq, beq_eq_false_iff_ne, bne_eq_false_iff_eq, gt_iff_lt, ge_iff_le, Int.not_lt, Int.not_le] at hc30
          refine c_seq (fun K8 hK8 => ?_)
          refine c_reg ?_ -- region 6 numm.go:423
          refine wl (ro_assign rfl) ?_
          refine wl_nil (x_then (hK8 _ _ ?_))
          clear hK8 K8
          refine c_reg ?_ -- region 7 numm.go:424
          refine wl (ro_move rfl) ?_
          refine wl (ro_arith rfl rfl rfl (Go.IntWalk.i64_in _ (by omega))) ?_
          refine wl (ro_assign rfl) ?_
          refine wl_nil (x_then ?_)
          refine ⟨rfl, true, 1, by omega, by omega, fun hn => parN_sg hs24 hn (fun _ => ⟨rfl, ?_⟩) (fun h => by cases h), kp _ ⟨rfl, rfl, rfl, trivial⟩⟩
          rw [List.getElem?_eq_getElem (show 0 < s.length by omega)]
          congr 1
          exact UInt8.toNat_inj.1 (show s[0].toNat = 45 by omega)
        · try simp only [decide_eq_true_eq, decide_eq_false_iff_not, Bool.not_eq_true', Bool.not_eq_false', Bool.not_eq_eq_eq_not, Bool.not_true, Bool.not_false, beq_iff_eq, bne_iff_ne, ne_eq, beq_eq_false_iff_ne, bne_eq_false_iff_eq, gt_iff_lt, ge_iff_le, Int.not_lt, Int.not_le] at hc30
          refine c_skip (x_then ?_)
          refine ⟨rfl, false, 0, by omega, by omega, fun hn => parN_sg hs24 hn (fun h => by cases h) (fun _ => ⟨rfl, ?_⟩), kp _ ⟨rfl, rfl, rfl, trivial⟩⟩
          rw [List.getElem?_eq_getElem (show 0 < s.length by omega)]
          intro hh
          have := congrArg UInt8.toNat (Option.some.inj hh)
          change s[0].toNat = 45 at this
          omega
      · try simp only [decide_eq_true_eq, decide_eq_false_iff_not, Bool.not_eq_true', Bool.not_eq_false', Bool.not_eq_eq_eq_not, Bool.not_true, Bool.not_false, beq_iff_eq, bne_iff_ne, ne_eq, beq_eq_false_iff_ne, bne_eq_false_iff_eq, gt_iff_lt, ge_iff_le, Int.not_lt, Int.not_le] at hg25
        refine wlg_no rfl ?_
        refine wlg_no rfl ?_
        refine wlg_no rfl ?_
        refine wlg_no rfl ?_
        refine wl (ro_pick rfl rfl rfl) ?_
        refine wl_nil (x_then (hK7 _ _ ?_))
        clear hK7 K7
        refine wc_condF rfl ?_
        refine c_skip (x_then ?_)
        refine ⟨rfl, false, 0, by omega, by omega, fun hn => parN_sg hs24 hn (fun h => by cases h) (fun _ => ⟨rfl, ?_⟩), kp _ ⟨rfl, rfl, rfl, trivial⟩⟩
        rw [List.getElem?_eq_none (by omega)]
        simp
    rintro a' w' ⟨hw, b, i0, hi1, his, hpar, e, rfl⟩
    rw [hw]
    clear hw w'
    refine c_seq (fun K9 hK9 => ?_)
    refine c_seq (fun K10 hK10 => ?_)
    refine c_reg ?_ -- region 8 numm.go:426
    refine wl (ro_move rfl) ?_
    refine wl (ro_move rfl) ?_
    refine wl (ro_sliceSL (l := i0) rfl rfl st_9 rfl his) ?_
    refine wl (ro_eqS rfl rfl rfl) ?_
    refine wl_nil (x_then (hK10 _ _ ?_))
    clear hK10 K10
    refine wc_cond rfl (fun hc36 => ?_) (fun hc36 => ?_)
    · try simp only [decide_eq_true_eq, decide_eq_false_iff_not, Bool.not_eq_true', Bool.not_eq_false', Bool.not_eq_eq_eq_not, Bool.not_true, Bool.not_false, beq_iff_eq, bne_iff_ne, ne_eq, beq_eq_false_iff_ne, bne_eq_false_iff_eq, gt_iff_lt, ge_iff_le, Int.not_lt, Int.not_le] at hc36
      refine c_seq (fun K11 hK11 => ?_)
      refine c_reg ?_ -- region 9 numm.go:427
      refine wl (ro_move rfl) ?_
      refine wl (ro_orSg (r := infB) rfl rfl (by decide)) ?_
      refine wl (ro_assign rfl) ?_
      refine wl (ro_assign rfl) ?_
      refine wl_nil (x_then (hK11 _ _ ?_))
      clear hK11 K11
      refine c_ret (x_thenR ?_)
      refine bp_ret Tryz.results103 rfl ?_
      refine ⟨.inl ⟨sgB b + infB, ?_, rfl⟩, rfl⟩
      have hn : s ≠ [110, 97, 110] := by
        intro h
        rw [h] at hc36
        rcases (show i0 = 0 ∨ i0 = 1 by omega) with h | h <;> subst h <;> simp at hc36
      rw [hpar hn, hc36]
      rfl
    · try simp only [decide_eq_true_eq, decide_eq_false_iff_not, Bool.not_eq_true', Bool.not_eq_false', Bool.not_eq_eq_eq_not, Bool.not_true, Bool.not_false, beq_iff_eq, bne_iff_ne, ne_eq, beq_eq_false_iff_ne, bne_eq_false_iff_eq, gt_iff_lt, ge_iff_le, Int.not_lt, Int.not_le] at hc36
      refine c_skip (x_then (hK9 _ _ ?_))
      clear hK9 K9
      refine c_seq (fun K12 hK12 => ?_)
      refine c_seq (fun K13 hK13 => ?_)
      refine c_reg ?_ -- region 10 numm.go:429
      refine wl (ro_move rfl) ?_
      refine wl (ro_eqS rfl rfl rfl) ?_
      refine wl_nil (x_then (hK13 _ _ ?_))
      clear hK13 K13
      refine wc_cond rfl (fun hc40 => ?_) (fun hc40 => ?_)
      · try simp only [decide_eq_true_eq, decide_eq_false_iff_not, Bool.not_eq_true', Bool.not_eq_false', Bool.not_eq_eq_eq_not, Bool.not_true, Bool.not_false, beq_iff_eq, bne_iff_ne, ne_eq, beq_eq_false_iff_ne, bne_eq_false_iff_eq, gt_iff_lt, ge_iff_le, Int.not_lt, Int.not_le] at hc40
        refine c_seq (fun K14 hK14 => ?_)
        refine c_reg ?_ -- region 11 numm.go:430
        refine wl (ro_assign rfl) ?_
        refine wl (ro_assign rfl) ?_
        refine wl_nil (x_then (hK14 _ _ ?_))
        clear hK14 K14
        refine c_ret (x_thenR ?_)
        refine bp_ret Tryz.results103 rfl ?_
        exact ⟨.inl ⟨nanB, by unfold parN; rw [if_neg (by omega), if_pos hc40], rfl⟩, rfl⟩
      · try simp only [decide_eq_true_eq, decide_eq_false_iff_not, Bool.not_eq_true', Bool.not_eq_false', Bool.not_eq_eq_eq_not, Bool.not_true, Bool.not_false, beq_iff_eq, bne_iff_ne, ne_eq, beq_eq_false_iff_ne, bne_eq_false_iff_eq, gt_iff_lt, ge_iff_le, Int.not_lt, Int.not_le] at hc40
        replace hpar := hpar hc40
        obtain ⟨t, ht⟩ : ∃ t, t = s.drop i0 := ⟨_, rfl⟩
        rw [← ht] at hpar
        have hti : t ≠ [105, 110, 102] := by rw [ht]; exact hc36
        have hno : magN t = none → parN s = none := fun h => by rw [hpar, h]; rfl
        refine c_skip (x_then (hK12 _ _ ?_))
        clear hK12 K12
        refine forget [(1, _), (6, _), (7, _)] ⟨rfl, rfl, rfl, trivial⟩ (fun e => ?_)
        refine c_seq (fun K15 hK15 => ?_)
        refine c_reg ?_ -- region 12 numm.go:432
        refine wl (ro_assign rfl) ?_
        refine wl (ro_assign rfl) ?_
        refine wl_nil (x_then (hK15 _ _ ?_))
        clear hK15 K15
        refine forget [(1, _), (6, _), (7, _), (8, _)] ⟨rfl, rfl, rfl, rfl, trivial⟩ (fun e => ?_)
        refine c_seq (fun K16 hK16 => ?_)
        refine c_reg ?_ -- region 13 numm.go:433
        refine wl (ro_assign rfl) ?_
        refine wl_nil (x_then (hK16 _ _ ?_))
        clear hK16 K16
        refine forget [(1, _), (6, _), (7, _), (8, _), (9, _)] ⟨rfl, rfl, rfl, rfl, rfl, trivial⟩ (fun e => ?_)
        refine c_seq (fun K17 hK17 => ?_)
        refine c_reg ?_ -- region 14 numm.go:434
        refine wl (ro_assign rfl) ?_
        refine wl_nil (x_then (hK17 _ _ ?_))
        clear hK17 K17
        refine forget [(1, _), (6, _), (7, _), (8, _), (9, _), (10, _)] ⟨rfl, rfl, rfl, rfl, rfl, rfl, trivial⟩ (fun e => ?_)
        refine c_seq (fun K18 hK18 => ?_)
        refine c_reg ?_ -- region 15 numm.go:435
        refine wl (ro_assign rfl) ?_
        refine wl_nil (x_then (hK18 _ _ ?_))
        clear hK18 K18
        refine forget [(1, _), (6, _), (7, _), (8, _), (9, _), (10, _), (11, _)] ⟨rfl, rfl, rfl, rfl, rfl, rfl, rfl, trivial⟩ (fun e => ?_)
        refine c_mid (fun a' w' => w' = w ∧ ∃ (i : Nat) (D K : List UInt8) (kk : Int), i ≤ s.length ∧ AllD D ∧ AllD K ∧ D.length + K.length ≤ 16 ∧ ((kk = -1 ∧ K = [] ∧ t = D ++ s.drop i ∧ (D ≠ [] → ∀ r', s.drop i ≠ 46 :: r')) ∨ (kk = K.length ∧ D ≠ [] ∧ t = D ++ 46 :: (K ++ s.drop i))) ∧ Stop (s.drop i) ∧ ∃ e, a' = Fr 161 (upds e [(1, S s), (6, i64c i), (7, u64c (sgB b)), (8, u64c (dvl 0 (D ++ K))), (9, u64c (10 ^ K.length)), (10, i64c (D.length + K.length)), (11, icv kk)]) []) ?_ ?_
        · skip
          refine c_block ?_
          -- loop@r16: live slots [1, 6, 7, 8, 9, 10, 11]
          refine c_loopG (fun m a' w' => ∃ (i : Nat) (D K : List UInt8) (kk : Int), m = s.length - i ∧ i ≤ s.length ∧ AllD D ∧ AllD K ∧ D.length + K.length ≤ 16 ∧ ((kk = -1 ∧ K = [] ∧ t = D ++ s.drop i) ∨ (kk = K.length ∧ D ≠ [] ∧ t = D ++ 46 :: (K ++ s.drop i))) ∧ w' = w ∧ ∃ e, a' = Fr 161 (upds e [(1, S s), (6, i64c i), (7, u64c (sgB b)), (8, u64c (dvl 0 (D ++ K))), (9, u64c (10 ^ K.length)), (10, i64c (D.length + K.length)), (11, icv kk)]) []) (s.length - i0) ⟨i0, [], [], -1, rfl, his, .nil, .nil, by simp, .inl ⟨rfl, rfl, ht⟩, rfl, kp _ ⟨rfl, rfl, rfl, rfl, rfl, rfl, rfl, trivial⟩⟩ ?_
          rintro m a' w' ⟨i, D, K, kk, hm, hi, hD, hK, hDK, hph, hw, e, rfl⟩
          rw [hw]
          clear hw w'
          have hkk : -1 ≤ kk ∧ kk ≤ 16 := by rcases hph with h | h <;> omega
          refine c_seq (fun K19 hK19 => ?_)
          refine c_seq (fun K20 hK20 => ?_)
          refine c_reg ?_ -- region 16 numm.go:436
          refine wl (ro_move rfl) ?_
          refine wl (ro_move rfl) ?_
          refine wl (ro_lenS rfl st_9) ?_
          refine wl (ro_cmp (k := .i64) (a := (i : Int)) (b := (s.length : Int)) rfl rfl rfl) ?_
          refine wl_nil (x_then (hK20 _ _ ?_))
          clear hK20 K20
          refine wc_cond rfl (fun hc44 => ?_) (fun hc44 => ?_)
          · try simp only [decide_eq_true_eq, decide_eq_false_iff_not, Bool.not_eq_true', Bool.not_eq_false', Bool.not_eq_eq_eq_not, Bool.not_true, Bool.not_false, beq_iff_eq, bne_iff_ne, ne_eq, beq_eq_false_iff_ne, bne_eq_false_iff_eq, gt_iff_lt, ge_iff_le, Int.not_lt, Int.not_le] at hc44
            obtain ⟨c, hc⟩ : ∃ c, s[i]? = some c := ⟨_, List.getElem?_eq_getElem (show i < s.length by omega)⟩
            have hdr := drop_get hc
            have hDKv : dvl 0 (D ++ K) < 10 ^ (D ++ K).length := AllD.lt (by intro c hc; rcases List.mem_append.1 hc with h | h; exact hD c h; exact hK c h)
            have h16 : dvl 0 (D ++ K) < 10 ^ 16 := Nat.lt_of_lt_of_le hDKv (ge_pow (by rw [List.length_append]; exact hDK))
            have hK16 : 10 ^ K.length ≤ 10 ^ 16 := ge_pow (by omega)
            refine c_skip (x_then (hK19 _ _ ?_))
            clear hK19 K19
            refine c_block ?_
            refine forget [(1, _), (6, _), (7, _), (8, _), (9, _), (10, _), (11, _)] ⟨rfl, rfl, rfl, rfl, rfl, rfl, rfl, trivial⟩ (fun e => ?_)
            refine c_seq (fun K21 hK21 => ?_)
            refine c_reg ?_ -- region 17 numm.go:437
            refine wl (ro_move rfl) ?_
            refine wl (ro_move rfl) ?_
            refine wl (ro_indexS rfl rfl st_9 rfl (hc)) ?_
            refine wl (ro_assign rfl) ?_
            refine wl_nil (x_then (hK21 _ _ ?_))
            clear hK21 K21
            refine c_seq (fun K22 hK22 => ?_)
            refine c_seq (fun K23 hK23 => ?_)
            refine c_reg ?_ -- region 18 numm.go:438
            refine wl (ro_move rfl) ?_
            refine wl (ro_cmp rfl rfl rfl) ?_
            refine wl_fork rfl (fun hg50 => ?_) (fun hg50 => ?_)
            · try simp only [decide_eq_true_eq, decide_eq_false_iff_not, Bool.not_eq_true', Bool.not_eq_false', Bool.not_eq_eq_eq_not, Bool.not_true, Bool.not_false, beq_iff_eq, bne_iff_ne, ne_eq, beq_eq_false_iff_ne, bne_eq_false_iff_eq, gt_iff_lt, ge_iff_le, Int.not_lt, Int.not_le] at hg50
              refine wlg_yes rfl (ro_move rfl) ?_
              refine wlg_yes rfl (ro_cmp rfl rfl rfl) ?_
              refine wl (ro_pick rfl rfl rfl) ?_
              refine wl_fork rfl (fun hg54 => ?_) (fun hg54 => ?_)
              · try simp only [decide_eq_true_eq, decide_eq_false_iff_not, Bool.not_eq_true', Bool.not_eq_false', Bool.not_eq_eq_eq_not, Bool.not_true, Bool.not_false, beq_iff_eq, bne_iff_ne, ne_eq, beq_eq_false_iff_ne, bne_eq_false_iff_eq, gt_iff_lt, ge_iff_le, Int.not_lt, Int.not_le] at hg54
                refine wlg_yes rfl (ro_move rfl) ?_
                refine wlg_yes rfl (ro_cmp (k := .i64) (a := ((D.length + K.length : Nat) : Int)) rfl rfl rfl) ?_
                refine wl (ro_pick rfl rfl rfl) ?_
                refine wl_nil (x_then (hK23 _ _ ?_))
                clear hK23 K23
                refine wc_cond rfl (fun hc57 => ?_) (fun hc57 => ?_)
                · try simp only [decide_eq_true_eq, decide_eq_false_iff_not, Bool.not_eq_true', Bool.not_eq_false', Bool.not_eq_eq_eq_not, Bool.not_true, Bool.not_false, beq_iff_eq, bne_iff_ne, ne_eq, beq_eq_false_iff_ne, bne_eq_false_iff_eq, gt_iff_lt, ge_iff_le, Int.not_lt, Int.not_le] at hc57
                  refine c_seq (fun K24 hK24 => ?_)
                  refine c_reg ?_ -- region 19 numm.go:439
                  refine wl (ro_assign rfl) ?_
                  refine wl_nil (x_then (hK24 _ _ ?_))
                  clear hK24 K24
                  refine forget [(1, _), (6, _), (7, _), (8, _), (9, _), (10, _), (11, _), (51, _), (52, _), (55, _), (56, _)] ⟨rfl, rfl, rfl, rfl, rfl, rfl, rfl, rfl, rfl, rfl, rfl, trivial⟩ (fun e => ?_)
                  refine c_seq (fun K25 hK25 => ?_)
                  refine c_reg ?_ -- region 20 numm.go:440
                  refine wl (ro_move rfl) ?_
                  refine wl (ro_arith (k := .i64) (a := (i : Int)) (r := ((i + 1 : Nat) : Int)) rfl rfl (by show some ((i : Int) + 1) = _; congr 1) (Go.IntWalk.i64_in _ (by omega))) ?_
                  refine wl (ro_assign rfl) ?_
                  refine wl_nil (x_then (hK25 _ _ ?_))
                  clear hK25 K25
                  refine c_exit (x_thenX (x_blkX (x_then ?_)))
                  have hc46 : c = 46 := UInt8.toNat_inj.1 (show c.toNat = 46 by omega)
                  subst hc46
                  rcases hph with ⟨h1, h2, h3⟩ | ⟨h1, h2, h3⟩
                  · subst h2
                    refine ⟨s.length - (i + 1), by omega, i + 1, D, [], 0, rfl, by omega, hD, .nil, hDK, .inr ⟨rfl, ?_, by rw [h3, hdr]; rfl⟩, rfl, kp _ ⟨rfl, rfl, rfl, rfl, rfl, rfl, rfl, trivial⟩⟩
                    intro hh; subst hh; simp at hc57
                  · omega
                · try simp only [decide_eq_true_eq, decide_eq_false_iff_not, Bool.not_eq_true', Bool.not_eq_false', Bool.not_eq_eq_eq_not, Bool.not_true, Bool.not_false, beq_iff_eq, bne_iff_ne, ne_eq, beq_eq_false_iff_ne, bne_eq_false_iff_eq, gt_iff_lt, ge_iff_le, Int.not_lt, Int.not_le] at hc57
                  refine c_skip (x_then (hK22 _ _ ?_))
                  clear hK22 K22
                  refine c_seq (fun K26 hK26 => ?_)
                  refine c_seq (fun K27 hK27 => ?_)
                  refine c_reg ?_ -- region 21 numm.go:443
                  refine wl (ro_move rfl) ?_
                  refine wl_call rfl en_155 (digit155 (c := c)) ?_
                  rintro _ u0 ⟨rfl, hw0⟩
                  rw [hw0]
                  clear hw0 u0
                  refine wl (ro_not rfl) ?_
                  refine wl_nil (x_then (hK27 _ _ ?_))
                  clear hK27 K27
                  refine wc_cond rfl (fun hc62 => ?_) (fun hc62 => ?_)
                  · try simp only [decide_eq_true_eq, decide_eq_false_iff_not, Bool.not_eq_true', Bool.not_eq_false', Bool.not_eq_eq_eq_not, Bool.not_true, Bool.not_false, beq_iff_eq, bne_iff_ne, ne_eq, beq_eq_false_iff_ne, bne_eq_false_iff_eq, gt_iff_lt, ge_iff_le, Int.not_lt, Int.not_le] at hc62
                    have hnd : isDg c = false := by simpa using hc62
                    refine c_exit (x_thenX (x_blkY rfl (x_thenX (x_blkX (x_then ?_)))))
                    refine ⟨rfl, i, D, K, kk, hi, hD, hK, hDK, ?_, by rw [hdr]; exact .cons hnd, kp _ ⟨rfl, rfl, rfl, rfl, rfl, rfl, rfl, trivial⟩⟩
                    rcases hph with ⟨h1, h2, h3⟩ | h
                    · subst h2
                      refine .inl ⟨h1, rfl, h3, fun hD0 r' hh => ?_⟩
                      rw [hdr] at hh
                      have h46 : c = 46 := (List.cons.inj hh).1
                      have hDl : 0 < D.length := List.length_pos_iff.2 hD0
                      subst h46
                      have e46 : ((46 : UInt8).toNat : Int) = 46 := rfl
                      simp only [List.length_nil] at *
                      omega
                    · exact .inr h
                  · try simp only [decide_eq_true_eq, decide_eq_false_iff_not, Bool.not_eq_true', Bool.not_eq_false', Bool.not_eq_eq_eq_not, Bool.not_true, Bool.not_false, beq_iff_eq, bne_iff_ne, ne_eq, beq_eq_false_iff_ne, bne_eq_false_iff_eq, gt_iff_lt, ge_iff_le, Int.not_lt, Int.not_le] at hc62
                    have hdg : isDg c = true := by simpa using hc62
                    have hcr := dg_iff.1 hdg
                    refine c_skip (x_then (hK26 _ _ ?_))
                    clear hK26 K26
                    refine forget [(1, _), (6, _), (7, _), (8, _), (9, _), (10, _), (11, _), (12, _), (51, _), (52, _), (55, _), (56, _)] ⟨rfl, rfl, rfl, rfl, rfl, rfl, rfl, rfl, rfl, rfl, rfl, rfl, trivial⟩ (fun e => ?_)
                    refine c_seq (fun K28 hK28 => ?_)
                    refine c_reg ?_ -- region 22 numm.go:446
                    refine wl (ro_move rfl) ?_
                    refine wl (ro_arith (k := .i64) (a := ((D.length + K.length : Nat) : Int)) (r := ((D.length + K.length + 1 : Nat) : Int)) rfl rfl (by show some (((D.length + K.length : Nat) : Int) + 1) = _; congr 1) (Go.IntWalk.i64_in _ (by omega))) ?_
                    refine wl (ro_assign rfl) ?_
                    refine wl_nil (x_then (hK28 _ _ ?_))
                    clear hK28 K28
                    refine c_seq (fun K29 hK29 => ?_)
                    refine c_seq (fun K30 hK30 => ?_)
                    refine c_reg ?_ -- region 23 numm.go:447
                    refine wl (ro_move rfl) ?_
                    refine wl (ro_cmp rfl rfl rfl) ?_
                    refine wl_nil (x_then (hK30 _ _ ?_))
                    clear hK30 K30
                    refine wc_cond rfl (fun hc66 => ?_) (fun hc66 => ?_)
                    · try simp only [decide_eq_true_eq, decide_eq_false_iff_not, Bool.not_eq_true', Bool.not_eq_false', Bool.not_eq_eq_eq_not, Bool.not_true, Bool.not_false, beq_iff_eq, bne_iff_ne, ne_eq, beq_eq_false_iff_ne, bne_eq_false_iff_eq, gt_iff_lt, ge_iff_le, Int.not_lt, Int.not_le] at hc66
                      refine c_seq (fun K31 hK31 => ?_)
                      refine c_reg ?_ -- region 24 numm.go:448
                      refine wl (ro_assign rfl) ?_
                      refine wl (ro_assign rfl) ?_
                      refine wl_nil (x_then (hK31 _ _ ?_))
                      clear hK31 K31
                      refine c_ret (x_thenR (x_blkR (x_thenR (x_blkR (x_thenR ?_)))))
                      refine bp_ret Tryz.results103 rfl ?_
                      exact ⟨.no (hno (by rcases hph with ⟨h1, h2, h3⟩ | ⟨h1, h2, h3⟩; subst h2; rw [hdr] at h3; exact mag_long hti hD hdg h3 (by simp at *; omega); rw [hdr] at h3; exact mag_long2 hti hD hK hdg h3 (by omega))), rfl⟩
                    · try simp only [decide_eq_true_eq, decide_eq_false_iff_not, Bool.not_eq_true', Bool.not_eq_false', Bool.not_eq_eq_eq_not, Bool.not_true, Bool.not_false, beq_iff_eq, bne_iff_ne, ne_eq, beq_eq_false_iff_ne, bne_eq_false_iff_eq, gt_iff_lt, ge_iff_le, Int.not_lt, Int.not_le] at hc66
                      refine c_skip (x_then (hK29 _ _ ?_))
                      clear hK29 K29
                      refine forget [(1, _), (6, _), (7, _), (8, _), (9, _), (10, _), (11, _), (12, _), (51, _), (52, _), (55, _), (56, _)] ⟨rfl, rfl, rfl, rfl, rfl, rfl, rfl, rfl, rfl, rfl, rfl, rfl, trivial⟩ (fun e => ?_)
                      refine c_seq (fun K32 hK32 => ?_)
                      refine c_reg ?_ -- region 25 numm.go:450
                      refine wl (ro_move rfl) ?_
                      refine wl (ro_mulU (a := dvl 0 (D ++ K)) (b := 10) rfl rfl (by unfold W64; omega)) ?_
                      refine wl (ro_move rfl) ?_
                      refine wl (ro_arith (k := .u8) (a := (c.toNat : Int)) (r := ((c.toNat - 48 : Nat) : Int)) rfl rfl (by show some ((c.toNat : Int) - 48) = _; congr 1; omega) (Go.IntWalk.u8_in _ (by omega))) ?_
                      refine wl (ro_conv (a := ((c.toNat - 48 : Nat) : Int)) rfl sc_5 in_117 (Go.IntWalk.u64_in _ (by omega))) ?_
                      refine wl (ro_addU (a := dvl 0 (D ++ K) * 10) (b := c.toNat - 48) rfl rfl (by unfold W64; omega)) ?_
                      refine wl (ro_assign rfl) ?_
                      refine wl_nil (x_then (hK32 _ _ ?_))
                      clear hK32 K32
                      refine c_seq (fun K33 hK33 => ?_)
                      refine c_seq (fun K34 hK34 => ?_)
                      refine c_reg ?_ -- region 26 numm.go:451
                      refine wl (ro_move rfl) ?_
                      refine wl (ro_cmp rfl rfl rfl) ?_
                      refine wl_nil (x_then (hK34 _ _ ?_))
                      clear hK34 K34
                      refine wc_cond rfl (fun hc74 => ?_) (fun hc74 => ?_)
                      · try simp only [decide_eq_true_eq, decide_eq_false_iff_not, Bool.not_eq_true', Bool.not_eq_false', Bool.not_eq_eq_eq_not, Bool.not_true, Bool.not_false, beq_iff_eq, bne_iff_ne, ne_eq, beq_eq_false_iff_ne, bne_eq_false_iff_eq, gt_iff_lt, ge_iff_le, Int.not_lt, Int.not_le] at hc74
                        refine c_seq (fun K35 hK35 => ?_)
                        refine c_reg ?_ -- region 27 numm.go:452
                        refine wl (ro_move rfl) ?_
                        refine wl (ro_arith (k := .i64) (a := kk) rfl rfl rfl (Go.IntWalk.i64_in _ (by omega))) ?_
                        refine wl (ro_assign rfl) ?_
                        refine wl_nil (x_then (hK35 _ _ ?_))
                        clear hK35 K35
                        refine c_reg ?_ -- region 28 numm.go:453
                        refine wl (ro_move rfl) ?_
                        refine wl (ro_mulU (a := 10 ^ K.length) (b := 10) rfl rfl (by unfold W64; omega)) ?_
                        refine wl (ro_assign rfl) ?_
                        refine wl_nil (x_then (hK33 _ _ ?_))
                        clear hK33 K33
                        refine c_reg ?_ -- region 29 numm.go:455
                        refine wl (ro_move rfl) ?_
                        refine wl (ro_arith (k := .i64) (a := (i : Int)) (r := ((i + 1 : Nat) : Int)) rfl rfl (by show some ((i : Int) + 1) = _; congr 1) (Go.IntWalk.i64_in _ (by omega))) ?_
                        refine wl (ro_assign rfl) ?_
                        refine wl_nil (x_blk (x_then ?_))
                        have hDK1 : D.length + K.length + 1 ≤ 16 := by omega
                        rcases hph with ⟨h1, h2, h3⟩ | ⟨h1, h2, h3⟩
                        · first
                            | omega
                            | (subst h2
                               refine ⟨s.length - (i + 1), by omega, i + 1, D ++ [c], [], kk, rfl, by omega, hD.snoc hdg, .nil, by simp at *; omega, .inl ⟨h1, rfl, by rw [h3, hdr]; simp⟩, rfl, kp _ ⟨rfl, rfl, rfl, ?_, rfl, ?_, rfl, trivial⟩⟩
                               · rw [show dvl 0 (D ++ [c] ++ []) = dvl 0 (D ++ []) * 10 + (c.toNat - 48) by rw [List.append_nil, List.append_nil, dvl_snoc]]; rfl
                               · rw [List.length_append]; rfl)
                        · first
                            | omega
                            | (refine ⟨s.length - (i + 1), by omega, i + 1, D, K ++ [c], kk + 1, rfl, by omega, hD, hK.snoc hdg, by rw [List.length_append]; simp; omega, .inr ⟨by rw [h1, List.length_append]; simp, h2, by rw [h3, hdr]; simp⟩, rfl, kp _ ⟨rfl, rfl, rfl, ?_, ?_, ?_, rfl, trivial⟩⟩
                               · rw [← List.append_assoc, dvl_snoc]; rfl
                               · rw [List.length_append, List.length_singleton, Nat.pow_succ]; rfl
                               · rw [List.length_append, List.length_singleton, ← Nat.add_assoc]; rfl)
                      · try simp only [decide_eq_true_eq, decide_eq_false_iff_not, Bool.not_eq_true', Bool.not_eq_false', Bool.not_eq_eq_eq_not, Bool.not_true, Bool.not_false, beq_iff_eq, bne_iff_ne, ne_eq, beq_eq_false_iff_ne, bne_eq_false_iff_eq, gt_iff_lt, ge_iff_le, Int.not_lt, Int.not_le] at hc74
                        refine c_skip (x_then (hK33 _ _ ?_))
                        clear hK33 K33
                        refine c_reg ?_ -- region 29 numm.go:455
                        refine wl (ro_move rfl) ?_
                        refine wl (ro_arith (k := .i64) (a := (i : Int)) (r := ((i + 1 : Nat) : Int)) rfl rfl (by show some ((i : Int) + 1) = _; congr 1) (Go.IntWalk.i64_in _ (by omega))) ?_
                        refine wl (ro_assign rfl) ?_
                        refine wl_nil (x_blk (x_then ?_))
                        have hDK1 : D.length + K.length + 1 ≤ 16 := by omega
                        rcases hph with ⟨h1, h2, h3⟩ | ⟨h1, h2, h3⟩
                        · first
                            | omega
                            | (subst h2
                               refine ⟨s.length - (i + 1), by omega, i + 1, D ++ [c], [], kk, rfl, by omega, hD.snoc hdg, .nil, by simp at *; omega, .inl ⟨h1, rfl, by rw [h3, hdr]; simp⟩, rfl, kp _ ⟨rfl, rfl, rfl, ?_, rfl, ?_, rfl, trivial⟩⟩
                               · rw [show dvl 0 (D ++ [c] ++ []) = dvl 0 (D ++ []) * 10 + (c.toNat - 48) by rw [List.append_nil, List.append_nil, dvl_snoc]]; rfl
                               · rw [List.length_append]; rfl)
                        · first
                            | omega
                            | (refine ⟨s.length - (i + 1), by omega, i + 1, D, K ++ [c], kk + 1, rfl, by omega, hD, hK.snoc hdg, by rw [List.length_append]; simp; omega, .inr ⟨by rw [h1, List.length_append]; simp, h2, by rw [h3, hdr]; simp⟩, rfl, kp _ ⟨rfl, rfl, rfl, ?_, ?_, ?_, rfl, trivial⟩⟩
                               · rw [← List.append_assoc, dvl_snoc]; rfl
                               · rw [List.length_append, List.length_singleton, Nat.pow_succ]; rfl
                               · rw [List.length_append, List.length_singleton, ← Nat.add_assoc]; rfl)
              · try simp only [decide_eq_true_eq, decide_eq_false_iff_not, Bool.not_eq_true', Bool.not_eq_false', Bool.not_eq_eq_eq_not, Bool.not_true, Bool.not_false, beq_iff_eq, bne_iff_ne, ne_eq, beq_eq_false_iff_ne, bne_eq_false_iff_eq, gt_iff_lt, ge_iff_le, Int.not_lt, Int.not_le] at hg54
                refine wlg_no rfl ?_
                refine wlg_no rfl ?_
                refine wl (ro_pick rfl rfl rfl) ?_
                refine wl_nil (x_then (hK23 _ _ ?_))
                clear hK23 K23
                refine wc_condF rfl ?_
                refine c_skip (x_then (hK22 _ _ ?_))
                clear hK22 K22
                refine c_seq (fun K36 hK36 => ?_)
                refine c_seq (fun K37 hK37 => ?_)
                refine c_reg ?_ -- region 21 numm.go:443
                refine wl (ro_move rfl) ?_
                refine wl_call rfl en_155 (digit155 (c := c)) ?_
                rintro _ u0 ⟨rfl, hw0⟩
                rw [hw0]
                clear hw0 u0
                refine wl (ro_not rfl) ?_
                refine wl_nil (x_then (hK37 _ _ ?_))
                clear hK37 K37
                refine wc_cond rfl (fun hc62 => ?_) (fun hc62 => ?_)
                · try simp only [decide_eq_true_eq, decide_eq_false_iff_not, Bool.not_eq_true', Bool.not_eq_false', Bool.not_eq_eq_eq_not, Bool.not_true, Bool.not_false, beq_iff_eq, bne_iff_ne, ne_eq, beq_eq_false_iff_ne, bne_eq_false_iff_eq, gt_iff_lt, ge_iff_le, Int.not_lt, Int.not_le] at hc62
                  have hnd : isDg c = false := by simpa using hc62
                  refine c_exit (x_thenX (x_blkY rfl (x_thenX (x_blkX (x_then ?_)))))
                  refine ⟨rfl, i, D, K, kk, hi, hD, hK, hDK, ?_, by rw [hdr]; exact .cons hnd, kp _ ⟨rfl, rfl, rfl, rfl, rfl, rfl, rfl, trivial⟩⟩
                  rcases hph with ⟨h1, h2, h3⟩ | h
                  · subst h2
                    refine .inl ⟨h1, rfl, h3, fun hD0 r' hh => ?_⟩
                    rw [hdr] at hh
                    have h46 : c = 46 := (List.cons.inj hh).1
                    have hDl : 0 < D.length := List.length_pos_iff.2 hD0
                    subst h46
                    have e46 : ((46 : UInt8).toNat : Int) = 46 := rfl
                    simp only [List.length_nil] at *
                    omega
                  · exact .inr h
                · try simp only [decide_eq_true_eq, decide_eq_false_iff_not, Bool.not_eq_true', Bool.not_eq_false', Bool.not_eq_eq_eq_not, Bool.not_true, Bool.not_false, beq_iff_eq, bne_iff_ne, ne_eq, beq_eq_false_iff_ne, bne_eq_false_iff_eq, gt_iff_lt, ge_iff_le, Int.not_lt, Int.not_le] at hc62
                  have hdg : isDg c = true := by simpa using hc62
                  have hcr := dg_iff.1 hdg
                  refine c_skip (x_then (hK36 _ _ ?_))
                  clear hK36 K36
                  refine forget [(1, _), (6, _), (7, _), (8, _), (9, _), (10, _), (11, _), (12, _), (51, _), (52, _)] ⟨rfl, rfl, rfl, rfl, rfl, rfl, rfl, rfl, rfl, rfl, trivial⟩ (fun e => ?_)
                  refine c_seq (fun K38 hK38 => ?_)
                  refine c_reg ?_ -- region 22 numm.go:446
                  refine wl (ro_move rfl) ?_
                  refine wl (ro_arith (k := .i64) (a := ((D.length + K.length : Nat) : Int)) (r := ((D.length + K.length + 1 : Nat) : Int)) rfl rfl (by show some (((D.length + K.length : Nat) : Int) + 1) = _; congr 1) (Go.IntWalk.i64_in _ (by omega))) ?_
                  refine wl (ro_assign rfl) ?_
                  refine wl_nil (x_then (hK38 _ _ ?_))
                  clear hK38 K38
                  refine c_seq (fun K39 hK39 => ?_)
                  refine c_seq (fun K40 hK40 => ?_)
                  refine c_reg ?_ -- region 23 numm.go:447
                  refine wl (ro_move rfl) ?_
                  refine wl (ro_cmp rfl rfl rfl) ?_
                  refine wl_nil (x_then (hK40 _ _ ?_))
                  clear hK40 K40
                  refine wc_cond rfl (fun hc66 => ?_) (fun hc66 => ?_)
                  · try simp only [decide_eq_true_eq, decide_eq_false_iff_not, Bool.not_eq_true', Bool.not_eq_false', Bool.not_eq_eq_eq_not, Bool.not_true, Bool.not_false, beq_iff_eq, bne_iff_ne, ne_eq, beq_eq_false_iff_ne, bne_eq_false_iff_eq, gt_iff_lt, ge_iff_le, Int.not_lt, Int.not_le] at hc66
                    refine c_seq (fun K41 hK41 => ?_)
                    refine c_reg ?_ -- region 24 numm.go:448
                    refine wl (ro_assign rfl) ?_
                    refine wl (ro_assign rfl) ?_
                    refine wl_nil (x_then (hK41 _ _ ?_))
                    clear hK41 K41
                    refine c_ret (x_thenR (x_blkR (x_thenR (x_blkR (x_thenR ?_)))))
                    refine bp_ret Tryz.results103 rfl ?_
                    exact ⟨.no (hno (by rcases hph with ⟨h1, h2, h3⟩ | ⟨h1, h2, h3⟩; subst h2; rw [hdr] at h3; exact mag_long hti hD hdg h3 (by simp at *; omega); rw [hdr] at h3; exact mag_long2 hti hD hK hdg h3 (by omega))), rfl⟩
                  · try simp only [decide_eq_true_eq, decide_eq_false_iff_not, Bool.not_eq_true', Bool.not_eq_false', Bool.not_eq_eq_eq_not, Bool.not_true, Bool.not_false, beq_iff_eq, bne_iff_ne, ne_eq, beq_eq_false_iff_ne, bne_eq_false_iff_eq, gt_iff_lt, ge_iff_le, Int.not_lt, Int.not_le] at hc66
                    refine c_skip (x_then (hK39 _ _ ?_))
                    clear hK39 K39
                    refine forget [(1, _), (6, _), (7, _), (8, _), (9, _), (10, _), (11, _), (12, _), (51, _), (52, _)] ⟨rfl, rfl, rfl, rfl, rfl, rfl, rfl, rfl, rfl, rfl, trivial⟩ (fun e => ?_)
                    refine c_seq (fun K42 hK42 => ?_)
                    refine c_reg ?_ -- region 25 numm.go:450
                    refine wl (ro_move rfl) ?_
                    refine wl (ro_mulU (a := dvl 0 (D ++ K)) (b := 10) rfl rfl (by unfold W64; omega)) ?_
                    refine wl (ro_move rfl) ?_
                    refine wl (ro_arith (k := .u8) (a := (c.toNat : Int)) (r := ((c.toNat - 48 : Nat) : Int)) rfl rfl (by show some ((c.toNat : Int) - 48) = _; congr 1; omega) (Go.IntWalk.u8_in _ (by omega))) ?_
                    refine wl (ro_conv (a := ((c.toNat - 48 : Nat) : Int)) rfl sc_5 in_117 (Go.IntWalk.u64_in _ (by omega))) ?_
                    refine wl (ro_addU (a := dvl 0 (D ++ K) * 10) (b := c.toNat - 48) rfl rfl (by unfold W64; omega)) ?_
                    refine wl (ro_assign rfl) ?_
                    refine wl_nil (x_then (hK42 _ _ ?_))
                    clear hK42 K42
                    refine c_seq (fun K43 hK43 => ?_)
                    refine c_seq (fun K44 hK44 => ?_)
                    refine c_reg ?_ -- region 26 numm.go:451
                    refine wl (ro_move rfl) ?_
                    refine wl (ro_cmp rfl rfl rfl) ?_
                    refine wl_nil (x_then (hK44 _ _ ?_))
                    clear hK44 K44
                    refine wc_cond rfl (fun hc74 => ?_) (fun hc74 => ?_)
                    · try simp only [decide_eq_true_eq, decide_eq_false_iff_not, Bool.not_eq_true', Bool.not_eq_false', Bool.not_eq_eq_eq_not, Bool.not_true, Bool.not_false, beq_iff_eq, bne_iff_ne, ne_eq, beq_eq_false_iff_ne, bne_eq_false_iff_eq, gt_iff_lt, ge_iff_le, Int.not_lt, Int.not_le] at hc74
                      refine c_seq (fun K45 hK45 => ?_)
                      refine c_reg ?_ -- region 27 numm.go:452
                      refine wl (ro_move rfl) ?_
                      refine wl (ro_arith (k := .i64) (a := kk) rfl rfl rfl (Go.IntWalk.i64_in _ (by omega))) ?_
                      refine wl (ro_assign rfl) ?_
                      refine wl_nil (x_then (hK45 _ _ ?_))
                      clear hK45 K45
                      refine c_reg ?_ -- region 28 numm.go:453
                      refine wl (ro_move rfl) ?_
                      refine wl (ro_mulU (a := 10 ^ K.length) (b := 10) rfl rfl (by unfold W64; omega)) ?_
                      refine wl (ro_assign rfl) ?_
                      refine wl_nil (x_then (hK43 _ _ ?_))
                      clear hK43 K43
                      refine c_reg ?_ -- region 29 numm.go:455
                      refine wl (ro_move rfl) ?_
                      refine wl (ro_arith (k := .i64) (a := (i : Int)) (r := ((i + 1 : Nat) : Int)) rfl rfl (by show some ((i : Int) + 1) = _; congr 1) (Go.IntWalk.i64_in _ (by omega))) ?_
                      refine wl (ro_assign rfl) ?_
                      refine wl_nil (x_blk (x_then ?_))
                      have hDK1 : D.length + K.length + 1 ≤ 16 := by omega
                      rcases hph with ⟨h1, h2, h3⟩ | ⟨h1, h2, h3⟩
                      · first
                          | omega
                          | (subst h2
                             refine ⟨s.length - (i + 1), by omega, i + 1, D ++ [c], [], kk, rfl, by omega, hD.snoc hdg, .nil, by simp at *; omega, .inl ⟨h1, rfl, by rw [h3, hdr]; simp⟩, rfl, kp _ ⟨rfl, rfl, rfl, ?_, rfl, ?_, rfl, trivial⟩⟩
                             · rw [show dvl 0 (D ++ [c] ++ []) = dvl 0 (D ++ []) * 10 + (c.toNat - 48) by rw [List.append_nil, List.append_nil, dvl_snoc]]; rfl
                             · rw [List.length_append]; rfl)
                      · first
                          | omega
                          | (refine ⟨s.length - (i + 1), by omega, i + 1, D, K ++ [c], kk + 1, rfl, by omega, hD, hK.snoc hdg, by rw [List.length_append]; simp; omega, .inr ⟨by rw [h1, List.length_append]; simp, h2, by rw [h3, hdr]; simp⟩, rfl, kp _ ⟨rfl, rfl, rfl, ?_, ?_, ?_, rfl, trivial⟩⟩
                             · rw [← List.append_assoc, dvl_snoc]; rfl
                             · rw [List.length_append, List.length_singleton, Nat.pow_succ]; rfl
                             · rw [List.length_append, List.length_singleton, ← Nat.add_assoc]; rfl)
                    · try simp only [decide_eq_true_eq, decide_eq_false_iff_not, Bool.not_eq_true', Bool.not_eq_false', Bool.not_eq_eq_eq_not, Bool.not_true, Bool.not_false, beq_iff_eq, bne_iff_ne, ne_eq, beq_eq_false_iff_ne, bne_eq_false_iff_eq, gt_iff_lt, ge_iff_le, Int.not_lt, Int.not_le] at hc74
                      refine c_skip (x_then (hK43 _ _ ?_))
                      clear hK43 K43
                      refine c_reg ?_ -- region 29 numm.go:455
                      refine wl (ro_move rfl) ?_
                      refine wl (ro_arith (k := .i64) (a := (i : Int)) (r := ((i + 1 : Nat) : Int)) rfl rfl (by show some ((i : Int) + 1) = _; congr 1) (Go.IntWalk.i64_in _ (by omega))) ?_
                      refine wl (ro_assign rfl) ?_
                      refine wl_nil (x_blk (x_then ?_))
                      have hDK1 : D.length + K.length + 1 ≤ 16 := by omega
                      rcases hph with ⟨h1, h2, h3⟩ | ⟨h1, h2, h3⟩
                      · first
                          | omega
                          | (subst h2
                             refine ⟨s.length - (i + 1), by omega, i + 1, D ++ [c], [], kk, rfl, by omega, hD.snoc hdg, .nil, by simp at *; omega, .inl ⟨h1, rfl, by rw [h3, hdr]; simp⟩, rfl, kp _ ⟨rfl, rfl, rfl, ?_, rfl, ?_, rfl, trivial⟩⟩
                             · rw [show dvl 0 (D ++ [c] ++ []) = dvl 0 (D ++ []) * 10 + (c.toNat - 48) by rw [List.append_nil, List.append_nil, dvl_snoc]]; rfl
                             · rw [List.length_append]; rfl)
                      · first
                          | omega
                          | (refine ⟨s.length - (i + 1), by omega, i + 1, D, K ++ [c], kk + 1, rfl, by omega, hD, hK.snoc hdg, by rw [List.length_append]; simp; omega, .inr ⟨by rw [h1, List.length_append]; simp, h2, by rw [h3, hdr]; simp⟩, rfl, kp _ ⟨rfl, rfl, rfl, ?_, ?_, ?_, rfl, trivial⟩⟩
                             · rw [← List.append_assoc, dvl_snoc]; rfl
                             · rw [List.length_append, List.length_singleton, Nat.pow_succ]; rfl
                             · rw [List.length_append, List.length_singleton, ← Nat.add_assoc]; rfl)
            · try simp only [decide_eq_true_eq, decide_eq_false_iff_not, Bool.not_eq_true', Bool.not_eq_false', Bool.not_eq_eq_eq_not, Bool.not_true, Bool.not_false, beq_iff_eq, bne_iff_ne, ne_eq, beq_eq_false_iff_ne, bne_eq_false_iff_eq, gt_iff_lt, ge_iff_le, Int.not_lt, Int.not_le] at hg50
              refine wlg_no rfl ?_
              refine wlg_no rfl ?_
              refine wl (ro_pick rfl rfl rfl) ?_
              refine wl (ro_move rfl) ?_
              refine wlg_no rfl ?_
              refine wlg_no rfl ?_
              refine wl (ro_pick rfl rfl rfl) ?_
              refine wl_nil (x_then (hK23 _ _ ?_))
              clear hK23 K23
              refine wc_condF rfl ?_
              refine c_skip (x_then (hK22 _ _ ?_))
              clear hK22 K22
              refine c_seq (fun K46 hK46 => ?_)
              refine c_seq (fun K47 hK47 => ?_)
              refine c_reg ?_ -- region 21 numm.go:443
              refine wl (ro_move rfl) ?_
              refine wl_call rfl en_155 (digit155 (c := c)) ?_
              rintro _ u0 ⟨rfl, hw0⟩
              rw [hw0]
              clear hw0 u0
              refine wl (ro_not rfl) ?_
              refine wl_nil (x_then (hK47 _ _ ?_))
              clear hK47 K47
              refine wc_cond rfl (fun hc62 => ?_) (fun hc62 => ?_)
              · try simp only [decide_eq_true_eq, decide_eq_false_iff_not, Bool.not_eq_true', Bool.not_eq_false', Bool.not_eq_eq_eq_not, Bool.not_true, Bool.not_false, beq_iff_eq, bne_iff_ne, ne_eq, beq_eq_false_iff_ne, bne_eq_false_iff_eq, gt_iff_lt, ge_iff_le, Int.not_lt, Int.not_le] at hc62
                have hnd : isDg c = false := by simpa using hc62
                refine c_exit (x_thenX (x_blkY rfl (x_thenX (x_blkX (x_then ?_)))))
                refine ⟨rfl, i, D, K, kk, hi, hD, hK, hDK, ?_, by rw [hdr]; exact .cons hnd, kp _ ⟨rfl, rfl, rfl, rfl, rfl, rfl, rfl, trivial⟩⟩
                rcases hph with ⟨h1, h2, h3⟩ | h
                · subst h2
                  refine .inl ⟨h1, rfl, h3, fun hD0 r' hh => ?_⟩
                  rw [hdr] at hh
                  have h46 : c = 46 := (List.cons.inj hh).1
                  have hDl : 0 < D.length := List.length_pos_iff.2 hD0
                  subst h46
                  have e46 : ((46 : UInt8).toNat : Int) = 46 := rfl
                  simp only [List.length_nil] at *
                  omega
                · exact .inr h
              · try simp only [decide_eq_true_eq, decide_eq_false_iff_not, Bool.not_eq_true', Bool.not_eq_false', Bool.not_eq_eq_eq_not, Bool.not_true, Bool.not_false, beq_iff_eq, bne_iff_ne, ne_eq, beq_eq_false_iff_ne, bne_eq_false_iff_eq, gt_iff_lt, ge_iff_le, Int.not_lt, Int.not_le] at hc62
                have hdg : isDg c = true := by simpa using hc62
                have hcr := dg_iff.1 hdg
                refine c_skip (x_then (hK46 _ _ ?_))
                clear hK46 K46
                refine forget [(1, _), (6, _), (7, _), (8, _), (9, _), (10, _), (11, _), (12, _)] ⟨rfl, rfl, rfl, rfl, rfl, rfl, rfl, rfl, trivial⟩ (fun e => ?_)
                refine c_seq (fun K48 hK48 => ?_)
                refine c_reg ?_ -- region 22 numm.go:446
                refine wl (ro_move rfl) ?_
                refine wl (ro_arith (k := .i64) (a := ((D.length + K.length : Nat) : Int)) (r := ((D.length + K.length + 1 : Nat) : Int)) rfl rfl (by show some (((D.length + K.length : Nat) : Int) + 1) = _; congr 1) (Go.IntWalk.i64_in _ (by omega))) ?_
                refine wl (ro_assign rfl) ?_
                refine wl_nil (x_then (hK48 _ _ ?_))
                clear hK48 K48
                refine c_seq (fun K49 hK49 => ?_)
                refine c_seq (fun K50 hK50 => ?_)
                refine c_reg ?_ -- region 23 numm.go:447
                refine wl (ro_move rfl) ?_
                refine wl (ro_cmp rfl rfl rfl) ?_
                refine wl_nil (x_then (hK50 _ _ ?_))
                clear hK50 K50
                refine wc_cond rfl (fun hc66 => ?_) (fun hc66 => ?_)
                · try simp only [decide_eq_true_eq, decide_eq_false_iff_not, Bool.not_eq_true', Bool.not_eq_false', Bool.not_eq_eq_eq_not, Bool.not_true, Bool.not_false, beq_iff_eq, bne_iff_ne, ne_eq, beq_eq_false_iff_ne, bne_eq_false_iff_eq, gt_iff_lt, ge_iff_le, Int.not_lt, Int.not_le] at hc66
                  refine c_seq (fun K51 hK51 => ?_)
                  refine c_reg ?_ -- region 24 numm.go:448
                  refine wl (ro_assign rfl) ?_
                  refine wl (ro_assign rfl) ?_
                  refine wl_nil (x_then (hK51 _ _ ?_))
                  clear hK51 K51
                  refine c_ret (x_thenR (x_blkR (x_thenR (x_blkR (x_thenR ?_)))))
                  refine bp_ret Tryz.results103 rfl ?_
                  exact ⟨.no (hno (by rcases hph with ⟨h1, h2, h3⟩ | ⟨h1, h2, h3⟩; subst h2; rw [hdr] at h3; exact mag_long hti hD hdg h3 (by simp at *; omega); rw [hdr] at h3; exact mag_long2 hti hD hK hdg h3 (by omega))), rfl⟩
                · try simp only [decide_eq_true_eq, decide_eq_false_iff_not, Bool.not_eq_true', Bool.not_eq_false', Bool.not_eq_eq_eq_not, Bool.not_true, Bool.not_false, beq_iff_eq, bne_iff_ne, ne_eq, beq_eq_false_iff_ne, bne_eq_false_iff_eq, gt_iff_lt, ge_iff_le, Int.not_lt, Int.not_le] at hc66
                  refine c_skip (x_then (hK49 _ _ ?_))
                  clear hK49 K49
                  refine forget [(1, _), (6, _), (7, _), (8, _), (9, _), (10, _), (11, _), (12, _)] ⟨rfl, rfl, rfl, rfl, rfl, rfl, rfl, rfl, trivial⟩ (fun e => ?_)
                  refine c_seq (fun K52 hK52 => ?_)
                  refine c_reg ?_ -- region 25 numm.go:450
                  refine wl (ro_move rfl) ?_
                  refine wl (ro_mulU (a := dvl 0 (D ++ K)) (b := 10) rfl rfl (by unfold W64; omega)) ?_
                  refine wl (ro_move rfl) ?_
                  refine wl (ro_arith (k := .u8) (a := (c.toNat : Int)) (r := ((c.toNat - 48 : Nat) : Int)) rfl rfl (by show some ((c.toNat : Int) - 48) = _; congr 1; omega) (Go.IntWalk.u8_in _ (by omega))) ?_
                  refine wl (ro_conv (a := ((c.toNat - 48 : Nat) : Int)) rfl sc_5 in_117 (Go.IntWalk.u64_in _ (by omega))) ?_
                  refine wl (ro_addU (a := dvl 0 (D ++ K) * 10) (b := c.toNat - 48) rfl rfl (by unfold W64; omega)) ?_
                  refine wl (ro_assign rfl) ?_
                  refine wl_nil (x_then (hK52 _ _ ?_))
                  clear hK52 K52
                  refine c_seq (fun K53 hK53 => ?_)
                  refine c_seq (fun K54 hK54 => ?_)
                  refine c_reg ?_ -- region 26 numm.go:451
                  refine wl (ro_move rfl) ?_
                  refine wl (ro_cmp rfl rfl rfl) ?_
                  refine wl_nil (x_then (hK54 _ _ ?_))
                  clear hK54 K54
                  refine wc_cond rfl (fun hc74 => ?_) (fun hc74 => ?_)
                  · try simp only [decide_eq_true_eq, decide_eq_false_iff_not, Bool.not_eq_true', Bool.not_eq_false', Bool.not_eq_eq_eq_not, Bool.not_true, Bool.not_false, beq_iff_eq, bne_iff_ne, ne_eq, beq_eq_false_iff_ne, bne_eq_false_iff_eq, gt_iff_lt, ge_iff_le, Int.not_lt, Int.not_le] at hc74
                    refine c_seq (fun K55 hK55 => ?_)
                    refine c_reg ?_ -- region 27 numm.go:452
                    refine wl (ro_move rfl) ?_
                    refine wl (ro_arith (k := .i64) (a := kk) rfl rfl rfl (Go.IntWalk.i64_in _ (by omega))) ?_
                    refine wl (ro_assign rfl) ?_
                    refine wl_nil (x_then (hK55 _ _ ?_))
                    clear hK55 K55
                    refine c_reg ?_ -- region 28 numm.go:453
                    refine wl (ro_move rfl) ?_
                    refine wl (ro_mulU (a := 10 ^ K.length) (b := 10) rfl rfl (by unfold W64; omega)) ?_
                    refine wl (ro_assign rfl) ?_
                    refine wl_nil (x_then (hK53 _ _ ?_))
                    clear hK53 K53
                    refine c_reg ?_ -- region 29 numm.go:455
                    refine wl (ro_move rfl) ?_
                    refine wl (ro_arith (k := .i64) (a := (i : Int)) (r := ((i + 1 : Nat) : Int)) rfl rfl (by show some ((i : Int) + 1) = _; congr 1) (Go.IntWalk.i64_in _ (by omega))) ?_
                    refine wl (ro_assign rfl) ?_
                    refine wl_nil (x_blk (x_then ?_))
                    have hDK1 : D.length + K.length + 1 ≤ 16 := by omega
                    rcases hph with ⟨h1, h2, h3⟩ | ⟨h1, h2, h3⟩
                    · first
                        | omega
                        | (subst h2
                           refine ⟨s.length - (i + 1), by omega, i + 1, D ++ [c], [], kk, rfl, by omega, hD.snoc hdg, .nil, by simp at *; omega, .inl ⟨h1, rfl, by rw [h3, hdr]; simp⟩, rfl, kp _ ⟨rfl, rfl, rfl, ?_, rfl, ?_, rfl, trivial⟩⟩
                           · rw [show dvl 0 (D ++ [c] ++ []) = dvl 0 (D ++ []) * 10 + (c.toNat - 48) by rw [List.append_nil, List.append_nil, dvl_snoc]]; rfl
                           · rw [List.length_append]; rfl)
                    · first
                        | omega
                        | (refine ⟨s.length - (i + 1), by omega, i + 1, D, K ++ [c], kk + 1, rfl, by omega, hD, hK.snoc hdg, by rw [List.length_append]; simp; omega, .inr ⟨by rw [h1, List.length_append]; simp, h2, by rw [h3, hdr]; simp⟩, rfl, kp _ ⟨rfl, rfl, rfl, ?_, ?_, ?_, rfl, trivial⟩⟩
                           · rw [← List.append_assoc, dvl_snoc]; rfl
                           · rw [List.length_append, List.length_singleton, Nat.pow_succ]; rfl
                           · rw [List.length_append, List.length_singleton, ← Nat.add_assoc]; rfl)
                  · try simp only [decide_eq_true_eq, decide_eq_false_iff_not, Bool.not_eq_true', Bool.not_eq_false', Bool.not_eq_eq_eq_not, Bool.not_true, Bool.not_false, beq_iff_eq, bne_iff_ne, ne_eq, beq_eq_false_iff_ne, bne_eq_false_iff_eq, gt_iff_lt, ge_iff_le, Int.not_lt, Int.not_le] at hc74
                    refine c_skip (x_then (hK53 _ _ ?_))
                    clear hK53 K53
                    refine c_reg ?_ -- region 29 numm.go:455
                    refine wl (ro_move rfl) ?_
                    refine wl (ro_arith (k := .i64) (a := (i : Int)) (r := ((i + 1 : Nat) : Int)) rfl rfl (by show some ((i : Int) + 1) = _; congr 1) (Go.IntWalk.i64_in _ (by omega))) ?_
                    refine wl (ro_assign rfl) ?_
                    refine wl_nil (x_blk (x_then ?_))
                    have hDK1 : D.length + K.length + 1 ≤ 16 := by omega
                    rcases hph with ⟨h1, h2, h3⟩ | ⟨h1, h2, h3⟩
                    · first
                        | omega
                        | (subst h2
                           refine ⟨s.length - (i + 1), by omega, i + 1, D ++ [c], [], kk, rfl, by omega, hD.snoc hdg, .nil, by simp at *; omega, .inl ⟨h1, rfl, by rw [h3, hdr]; simp⟩, rfl, kp _ ⟨rfl, rfl, rfl, ?_, rfl, ?_, rfl, trivial⟩⟩
                           · rw [show dvl 0 (D ++ [c] ++ []) = dvl 0 (D ++ []) * 10 + (c.toNat - 48) by rw [List.append_nil, List.append_nil, dvl_snoc]]; rfl
                           · rw [List.length_append]; rfl)
                    · first
                        | omega
                        | (refine ⟨s.length - (i + 1), by omega, i + 1, D, K ++ [c], kk + 1, rfl, by omega, hD, hK.snoc hdg, by rw [List.length_append]; simp; omega, .inr ⟨by rw [h1, List.length_append]; simp, h2, by rw [h3, hdr]; simp⟩, rfl, kp _ ⟨rfl, rfl, rfl, ?_, ?_, ?_, rfl, trivial⟩⟩
                           · rw [← List.append_assoc, dvl_snoc]; rfl
                           · rw [List.length_append, List.length_singleton, Nat.pow_succ]; rfl
                           · rw [List.length_append, List.length_singleton, ← Nat.add_assoc]; rfl)
          · try simp only [decide_eq_true_eq, decide_eq_false_iff_not, Bool.not_eq_true', Bool.not_eq_false', Bool.not_eq_eq_eq_not, Bool.not_true, Bool.not_false, beq_iff_eq, bne_iff_ne, ne_eq, beq_eq_false_iff_ne, bne_eq_false_iff_eq, gt_iff_lt, ge_iff_le, Int.not_lt, Int.not_le] at hc44
            have hil : i = s.length := by omega
            refine c_exit (x_thenX (x_thenX (x_blkX (x_then ?_))))
            refine ⟨rfl, i, D, K, kk, hi, hD, hK, hDK, ?_, by rw [hil, List.drop_length]; exact .nil, kp _ ⟨rfl, rfl, rfl, rfl, rfl, rfl, rfl, trivial⟩⟩
            rcases hph with ⟨h1, h2, h3⟩ | h
            · exact .inl ⟨h1, h2, h3, fun _ r' => by rw [hil, List.drop_length]; simp⟩
            · exact .inr h
        rintro a' w' ⟨hw, i, D, K, kk, hi, hD, hK, hDK, hph, hst, e, rfl⟩
        rw [hw]
        clear hw w'
        have hDKv : dvl 0 (D ++ K) < 10 ^ (D ++ K).length := AllD.lt (by intro c hc; rcases List.mem_append.1 hc with h | h; exact hD c h; exact hK c h)
        have h16 : dvl 0 (D ++ K) < 10 ^ 16 := Nat.lt_of_lt_of_le hDKv (ge_pow (by rw [List.length_append]; exact hDK))
        have hK16 : 10 ^ K.length ≤ 10 ^ 16 := ge_pow (by omega)
        have hKp : 0 < 10 ^ K.length := Nat.pow_pos (by decide)
        have hkk : -1 ≤ kk ∧ kk ≤ 16 := by rcases hph with h | h <;> omega
        refine c_seq (fun K56 hK56 => ?_)
        refine c_seq (fun K57 hK57 => ?_)
        refine c_reg ?_ -- region 30 numm.go:457
        refine wl (ro_move rfl) ?_
        refine wl (ro_cmp (k := .i64) (a := ((D.length + K.length : Nat) : Int)) rfl rfl rfl) ?_
        refine wl_fork rfl (fun hg83 => ?_) (fun hg83 => ?_)
        · try simp only [decide_eq_true_eq, decide_eq_false_iff_not, Bool.not_eq_true', Bool.not_eq_false', Bool.not_eq_eq_eq_not, Bool.not_true, Bool.not_false, beq_iff_eq, bne_iff_ne, ne_eq, beq_eq_false_iff_ne, bne_eq_false_iff_eq, gt_iff_lt, ge_iff_le, Int.not_lt, Int.not_le] at hg83
          refine wlg_no rfl ?_
          refine wlg_no rfl ?_
          refine wl (ro_pick rfl rfl rfl) ?_
          refine wl (ro_move rfl) ?_
          refine wlg_no rfl ?_
          refine wlg_no rfl ?_
          refine wl (ro_pick rfl rfl rfl) ?_
          refine wl_nil (x_then (hK57 _ _ ?_))
          clear hK57 K57
          refine wc_condT rfl ?_
          refine c_seq (fun K58 hK58 => ?_)
          refine c_reg ?_ -- region 31 numm.go:458
          refine wl (ro_assign rfl) ?_
          refine wl (ro_assign rfl) ?_
          refine wl_nil (x_then (hK58 _ _ ?_))
          clear hK58 K58
          refine c_ret (x_thenR ?_)
          refine bp_ret Tryz.results103 rfl ?_
          exact ⟨.no (hno (by rcases hph with ⟨h1, h2, h3, h4⟩ | ⟨h1, h2, h3⟩; have hD0 : D = [] := List.eq_nil_of_length_eq_zero (by change ((D.length + K.length : Nat) : Int) = 0 at hg83; omega); rw [hD0, List.nil_append] at h3; exact mag_zero hti (by rw [h3]; exact hst); exact absurd (List.eq_nil_of_length_eq_zero (by change ((D.length + K.length : Nat) : Int) = 0 at hg83; omega)) h2)), rfl⟩
        · try simp only [decide_eq_true_eq, decide_eq_false_iff_not, Bool.not_eq_true', Bool.not_eq_false', Bool.not_eq_eq_eq_not, Bool.not_true, Bool.not_false, beq_iff_eq, bne_iff_ne, ne_eq, beq_eq_false_iff_ne, bne_eq_false_iff_eq, gt_iff_lt, ge_iff_le, Int.not_lt, Int.not_le] at hg83
          refine wlg_yes rfl (ro_move rfl) ?_
          refine wlg_yes rfl (ro_cmp rfl rfl rfl) ?_
          refine wl (ro_pick rfl rfl rfl) ?_
          refine wl_fork rfl (fun hg87 => ?_) (fun hg87 => ?_)
          · try simp only [decide_eq_true_eq, decide_eq_false_iff_not, Bool.not_eq_true', Bool.not_eq_false', Bool.not_eq_eq_eq_not, Bool.not_true, Bool.not_false, beq_iff_eq, bne_iff_ne, ne_eq, beq_eq_false_iff_ne, bne_eq_false_iff_eq, gt_iff_lt, ge_iff_le, Int.not_lt, Int.not_le] at hg87
            refine wlg_no rfl ?_
            refine wlg_no rfl ?_
            refine wl (ro_pick rfl rfl rfl) ?_
            refine wl_nil (x_then (hK57 _ _ ?_))
            clear hK57 K57
            refine wc_condT rfl ?_
            refine c_seq (fun K59 hK59 => ?_)
            refine c_reg ?_ -- region 31 numm.go:458
            refine wl (ro_assign rfl) ?_
            refine wl (ro_assign rfl) ?_
            refine wl_nil (x_then (hK59 _ _ ?_))
            clear hK59 K59
            refine c_ret (x_thenR ?_)
            refine bp_ret Tryz.results103 rfl ?_
            exact ⟨.no (hno (by rcases hph with ⟨h1, h2, h3, h4⟩ | ⟨h1, h2, h3⟩; change kk = 0 at hg87; omega; change kk = 0 at hg87; rw [mag_dot hti hD hK hst h3 h2 hDK, if_pos (.inl (List.eq_nil_of_length_eq_zero (by omega)))])), rfl⟩
          · try simp only [decide_eq_true_eq, decide_eq_false_iff_not, Bool.not_eq_true', Bool.not_eq_false', Bool.not_eq_eq_eq_not, Bool.not_true, Bool.not_false, beq_iff_eq, bne_iff_ne, ne_eq, beq_eq_false_iff_ne, bne_eq_false_iff_eq, gt_iff_lt, ge_iff_le, Int.not_lt, Int.not_le] at hg87
            refine wlg_yes rfl (ro_move rfl) ?_
            refine wlg_yes rfl (ro_cmpU (a := dvl 0 (D ++ K)) (b := 9007199254740992) rfl rfl rfl) ?_
            refine wl (ro_pick rfl rfl rfl) ?_
            refine wl_nil (x_then (hK57 _ _ ?_))
            clear hK57 K57
            refine wc_cond rfl (fun hc90 => ?_) (fun hc90 => ?_)
            · try simp only [decide_eq_true_eq, decide_eq_false_iff_not, Bool.not_eq_true', Bool.not_eq_false', Bool.not_eq_eq_eq_not, Bool.not_true, Bool.not_false, beq_iff_eq, bne_iff_ne, ne_eq, beq_eq_false_iff_ne, bne_eq_false_iff_eq, gt_iff_lt, ge_iff_le, Int.not_lt, Int.not_le] at hc90
              have hbig : 9007199254740992 < dvl 0 (D ++ K) := hc90
              have hD0' : D.length + K.length ≠ 0 := fun h => hg83 (by rw [h]; rfl)
              refine c_seq (fun K60 hK60 => ?_)
              refine c_reg ?_ -- region 31 numm.go:458
              refine wl (ro_assign rfl) ?_
              refine wl (ro_assign rfl) ?_
              refine wl_nil (x_then (hK60 _ _ ?_))
              clear hK60 K60
              refine c_ret (x_thenR ?_)
              refine bp_ret Tryz.results103 rfl ?_
              exact ⟨.no (hno (by rcases hph with ⟨h1, h2, h3, h4⟩ | ⟨h1, h2, h3⟩; subst h2; rw [List.append_nil] at hbig; exact mag_big hti hD hst h3 (h4 (by intro hh; subst hh; exact hD0' rfl)) hbig; rw [mag_dot hti hD hK hst h3 h2 hDK, if_pos (.inr (.inr hbig))])), rfl⟩
            · try simp only [decide_eq_true_eq, decide_eq_false_iff_not, Bool.not_eq_true', Bool.not_eq_false', Bool.not_eq_eq_eq_not, Bool.not_true, Bool.not_false, beq_iff_eq, bne_iff_ne, ne_eq, beq_eq_false_iff_ne, bne_eq_false_iff_eq, gt_iff_lt, ge_iff_le, Int.not_lt, Int.not_le] at hc90
              have hsm : dvl 0 (D ++ K) ≤ 9007199254740992 := by change ¬ 9007199254740992 < dvl 0 (D ++ K) at hc90; omega
              have hD0' : D.length + K.length ≠ 0 := fun h => hg83 (by rw [h]; rfl)
              have hk0 : kk ≠ 0 := hg87
              have hD0 : D ≠ [] := by rcases hph with ⟨h1, h2, h3, h4⟩ | ⟨h1, h2, h3⟩; subst h2; intro hh; subst hh; exact hD0' rfl; exact h2
              refine c_skip (x_then (hK56 _ _ ?_))
              clear hK56 K56
              refine c_seq (fun K61 hK61 => ?_)
              refine c_seq (fun K62 hK62 => ?_)
              refine c_reg ?_ -- region 32 numm.go:460
              refine wl (ro_move rfl) ?_
              refine wl (ro_move rfl) ?_
              refine wl (ro_lenS rfl st_9) ?_
              refine wl (ro_cmp (k := .i64) (a := (i : Int)) (b := (s.length : Int)) rfl rfl rfl) ?_
              refine wl_nil (x_then (hK62 _ _ ?_))
              clear hK62 K62
              refine wc_cond rfl (fun hc94 => ?_) (fun hc94 => ?_)
              · try simp only [decide_eq_true_eq, decide_eq_false_iff_not, Bool.not_eq_true', Bool.not_eq_false', Bool.not_eq_eq_eq_not, Bool.not_true, Bool.not_false, beq_iff_eq, bne_iff_ne, ne_eq, beq_eq_false_iff_ne, bne_eq_false_iff_eq, gt_iff_lt, ge_iff_le, Int.not_lt, Int.not_le] at hc94
                have hil : s.drop i = [] := by rw [List.drop_eq_nil_of_le (by omega)]
                rw [hil] at hph
                refine c_seq (fun K63 hK63 => ?_)
                refine c_reg ?_ -- region 33 numm.go:461
                refine wl (ro_move rfl) ?_
                refine wl_call rfl en_122 (pack122 (sg := false) (man := dvl 0 (D ++ K)) (ex := 0) (st := false) (by unfold W64; omega) (by omega) (fun h ↦ by simp at h)) ?_
                rintro _ u0 ⟨rfl, hw0⟩
                rw [hw0]
                clear hw0 u0
                refine wl (ro_assign rfl) ?_
                refine wl_nil (x_then (hK63 _ _ ?_))
                clear hK63 K63
                refine c_mid (fun a' w' => w' = w ∧ ∃ X, X < 9223372036854775808 ∧ parN s = some (sgB b + X) ∧ ∃ e, a' = Fr 161 (upds e [(7, u64c (sgB b)), (13, u64c X)]) []) ?_ ?_
                · skip
                  refine c_seq (fun K64 hK64 => ?_)
                  refine c_reg ?_ -- region 34 numm.go:462
                  refine wl (ro_move rfl) ?_
                  refine wl (ro_cmp rfl rfl rfl) ?_
                  refine wl_nil (x_then (hK64 _ _ ?_))
                  clear hK64 K64
                  refine wc_cond rfl (fun hc98 => ?_) (fun hc98 => ?_)
                  · try simp only [decide_eq_true_eq, decide_eq_false_iff_not, Bool.not_eq_true', Bool.not_eq_false', Bool.not_eq_eq_eq_not, Bool.not_true, Bool.not_false, beq_iff_eq, bne_iff_ne, ne_eq, beq_eq_false_iff_ne, bne_eq_false_iff_eq, gt_iff_lt, ge_iff_le, Int.not_lt, Int.not_le] at hc98
                    refine c_seq (fun K65 hK65 => ?_)
                    refine c_reg ?_ -- region 35 numm.go:463
                    refine wl (ro_move rfl) ?_
                    refine wl_call rfl en_122 (pack122 (sg := false) (man := 10 ^ K.length) (ex := 0) (st := false) (by unfold W64; omega) (by omega) (fun h ↦ by simp at h)) ?_
                    rintro _ u0 ⟨rfl, hw0⟩
                    rw [hw0]
                    clear hw0 u0
                    refine wl (ro_assign rfl) ?_
                    refine wl_nil (x_then (hK65 _ _ ?_))
                    clear hK65 K65
                    refine c_reg ?_ -- region 36 numm.go:464
                    refine wl (ro_move rfl) ?_
                    refine wl (ro_move rfl) ?_
                    refine wl_call rfl en_117 (div117 (pkS_lt _ _ _ _) (pkS_lt _ _ _ _)) ?_
                    rintro _ u0 ⟨rfl, hw0⟩
                    rw [hw0]
                    clear hw0 u0
                    refine wl (ro_assign rfl) ?_
                    refine wl_nil (x_then ?_)
                    rcases hph with ⟨h1, h2, h3, h4⟩ | ⟨h1, h2, h3⟩
                    · omega
                    · refine ⟨rfl, _, ?_, ?_, kp _ ⟨rfl, rfl, trivial⟩⟩
                      · rw [pkS_f, pkS_f]
                        exact div_pos (nearest_pos _ _) (nearest_pos _ _) (nearest_fin _ (by omega)) (nearest_fin _ (by omega)) (nearest_nz (by omega) (by omega))
                      · rw [hpar, mag_dot hti hD hK .nil h3 h2 hDK, if_neg (by rintro (h | h | h); subst h; simp at h1; omega; exact h rfl; omega), pkS_f, pkS_f]
                        rfl
                  · try simp only [decide_eq_true_eq, decide_eq_false_iff_not, Bool.not_eq_true', Bool.not_eq_false', Bool.not_eq_eq_eq_not, Bool.not_true, Bool.not_false, beq_iff_eq, bne_iff_ne, ne_eq, beq_eq_false_iff_ne, bne_eq_false_iff_eq, gt_iff_lt, ge_iff_le, Int.not_lt, Int.not_le] at hc98
                    refine c_skip (x_then ?_)
                    rcases hph with ⟨h1, h2, h3, h4⟩ | ⟨h1, h2, h3⟩
                    · subst h2
                      rw [List.append_nil] at h3
                      refine ⟨rfl, _, ?_, ?_, kp _ ⟨rfl, rfl, trivial⟩⟩
                      · rw [pkS_f]; exact nearest_pos _ _
                      · rw [hpar, h3, mag_end (by rw [← h3]; exact hti) hD hD0 (by simp at hDK; omega), if_pos (by rw [List.append_nil] at hsm; exact hsm), pkS_f, List.append_nil]
                        rfl
                    · omega
                rintro a' w' ⟨hw, X, hX, hpX, e, rfl⟩
                rw [hw]
                clear hw w'
                refine c_seq (fun K66 hK66 => ?_)
                refine c_reg ?_ -- region 37 numm.go:466
                refine wl (ro_move rfl) ?_
                refine wl (ro_move rfl) ?_
                refine wl (ro_orSg (r := X) rfl rfl hX) ?_
                refine wl (ro_assign rfl) ?_
                refine wl (ro_assign rfl) ?_
                refine wl_nil (x_then (hK66 _ _ ?_))
                clear hK66 K66
                refine c_ret (x_thenR ?_)
                refine bp_ret Tryz.results103 rfl ?_
                exact ⟨.inl ⟨_, hpX, rfl⟩, rfl⟩
              · try simp only [decide_eq_true_eq, decide_eq_false_iff_not, Bool.not_eq_true', Bool.not_eq_false', Bool.not_eq_eq_eq_not, Bool.not_true, Bool.not_false, beq_iff_eq, bne_iff_ne, ne_eq, beq_eq_false_iff_ne, bne_eq_false_iff_eq, gt_iff_lt, ge_iff_le, Int.not_lt, Int.not_le] at hc94
                obtain ⟨c, hc⟩ : ∃ c, s[i]? = some c := ⟨_, List.getElem?_eq_getElem (show i < s.length by omega)⟩
                have hdr := drop_get hc
                have hnd := hst c _ hdr
                refine c_skip (x_then (hK61 _ _ ?_))
                clear hK61 K61
                refine c_seq (fun K67 hK67 => ?_)
                refine c_seq (fun K68 hK68 => ?_)
                refine c_reg ?_ -- region 38 numm.go:468
                refine wl (ro_move rfl) ?_
                refine wl (ro_move rfl) ?_
                refine wl (ro_indexS rfl rfl st_9 rfl (hc)) ?_
                refine wl (ro_cmp rfl rfl rfl) ?_
                refine wl_fork rfl (fun hg111 => ?_) (fun hg111 => ?_)
                · try simp only [decide_eq_true_eq, decide_eq_false_iff_not, Bool.not_eq_true', Bool.not_eq_false', Bool.not_eq_eq_eq_not, Bool.not_true, Bool.not_false, beq_iff_eq, bne_iff_ne, ne_eq, beq_eq_false_iff_ne, bne_eq_false_iff_eq, gt_iff_lt, ge_iff_le, Int.not_lt, Int.not_le] at hg111
                  refine wlg_no rfl ?_
                  refine wlg_no rfl ?_
                  refine wl (ro_pick rfl rfl rfl) ?_
                  refine wl_nil (x_then (hK68 _ _ ?_))
                  clear hK68 K68
                  refine wc_condT rfl ?_
                  refine c_seq (fun K69 hK69 => ?_)
                  refine c_reg ?_ -- region 39 numm.go:469
                  refine wl (ro_assign rfl) ?_
                  refine wl (ro_assign rfl) ?_
                  refine wl_nil (x_then (hK69 _ _ ?_))
                  clear hK69 K69
                  refine c_ret (x_thenR ?_)
                  refine bp_ret Tryz.results103 rfl ?_
                  exact ⟨.no (hno (by rcases hph with ⟨h1, h2, h3, h4⟩ | ⟨h1, h2, h3⟩; rw [hdr] at h3 h4; exact mag_other hti hD hnd h3 (fun h ↦ h4 hD0 _ (by rw [h])) (fun h ↦ by rw [h] at hg111; exact hg111 rfl); rw [mag_dot hti hD hK hst h3 h2 hDK, if_pos (.inr (.inl (by rw [hdr]; simp)))])), rfl⟩
                · try simp only [decide_eq_true_eq, decide_eq_false_iff_not, Bool.not_eq_true', Bool.not_eq_false', Bool.not_eq_eq_eq_not, Bool.not_true, Bool.not_false, beq_iff_eq, bne_iff_ne, ne_eq, beq_eq_false_iff_ne, bne_eq_false_iff_eq, gt_iff_lt, ge_iff_le, Int.not_lt, Int.not_le] at hg111
                  refine wlg_yes rfl (ro_move rfl) ?_
                  refine wlg_yes rfl (ro_cmp rfl rfl rfl) ?_
                  refine wl (ro_pick rfl rfl rfl) ?_
                  refine wl_nil (x_then (hK68 _ _ ?_))
                  clear hK68 K68
                  refine wc_cond rfl (fun hc114 => ?_) (fun hc114 => ?_)
                  · try simp only [decide_eq_true_eq, decide_eq_false_iff_not, Bool.not_eq_true', Bool.not_eq_false', Bool.not_eq_eq_eq_not, Bool.not_true, Bool.not_false, beq_iff_eq, bne_iff_ne, ne_eq, beq_eq_false_iff_ne, bne_eq_false_iff_eq, gt_iff_lt, ge_iff_le, Int.not_lt, Int.not_le] at hc114
                    refine c_seq (fun K70 hK70 => ?_)
                    refine c_reg ?_ -- region 39 numm.go:469
                    refine wl (ro_assign rfl) ?_
                    refine wl (ro_assign rfl) ?_
                    refine wl_nil (x_then (hK70 _ _ ?_))
                    clear hK70 K70
                    refine c_ret (x_thenR ?_)
                    refine bp_ret Tryz.results103 rfl ?_
                    exact ⟨.no (hno (by rcases hph with ⟨h1, h2, h3, h4⟩ | ⟨h1, h2, h3⟩; change kk ≥ 0 at hc114; omega; rw [mag_dot hti hD hK hst h3 h2 hDK, if_pos (.inr (.inl (by rw [hdr]; simp)))])), rfl⟩
                  · try simp only [decide_eq_true_eq, decide_eq_false_iff_not, Bool.not_eq_true', Bool.not_eq_false', Bool.not_eq_eq_eq_not, Bool.not_true, Bool.not_false, beq_iff_eq, bne_iff_ne, ne_eq, beq_eq_false_iff_ne, bne_eq_false_iff_eq, gt_iff_lt, ge_iff_le, Int.not_lt, Int.not_le] at hc114
                    have hk1 : kk < 0 := hc114
                    have hcp : c = 112 := UInt8.toNat_inj.1 (show c.toNat = 112 by omega)
                    subst hcp
                    obtain ⟨hK0, htD, -⟩ : K = [] ∧ t = D ++ s.drop i ∧ True := by rcases hph with ⟨h1, h2, h3, h4⟩ | ⟨h1, h2, h3⟩; exact ⟨h2, h3, trivial⟩; omega
                    subst hK0
                    rw [hdr] at htD
                    rw [List.append_nil] at *
                    clear hph hst hnd
                    refine c_skip (x_then (hK67 _ _ ?_))
                    clear hK67 K67
                    refine forget [(1, _), (6, _), (7, _), (8, _)] ⟨rfl, rfl, rfl, rfl, trivial⟩ (fun e => ?_)
                    refine c_seq (fun K71 hK71 => ?_)
                    refine c_reg ?_ -- region 40 numm.go:471
                    refine wl (ro_move rfl) ?_
                    refine wl (ro_arith (k := .i64) (a := (i : Int)) (r := ((i + 1 : Nat) : Int)) rfl rfl (by show some ((i : Int) + 1) = _; congr 1) (Go.IntWalk.i64_in _ (by omega))) ?_
                    refine wl (ro_assign rfl) ?_
                    refine wl_nil (x_then (hK71 _ _ ?_))
                    clear hK71 K71
                    refine forget [(1, _), (6, _), (7, _), (8, _)] ⟨rfl, rfl, rfl, rfl, trivial⟩ (fun e => ?_)
                    refine c_seq (fun K72 hK72 => ?_)
                    refine c_reg ?_ -- region 41 numm.go:472
                    refine wl (ro_assign rfl) ?_
                    refine wl_nil (x_then (hK72 _ _ ?_))
                    clear hK72 K72
                    refine c_mid (fun a' w' => w' = w ∧ ∃ (dn : Bool) (j : Nat), j ≤ s.length ∧ t = D ++ 112 :: (if dn then 45 :: s.drop j else s.drop j) ∧ (dn = false → ∀ c r', s.drop j = c :: r' → c ≠ 45) ∧ ∃ e, a' = Fr 161 (upds e [(1, S s), (6, i64c j), (7, u64c (sgB b)), (8, u64c (dvl 0 D)), (15, .bool dn)]) []) ?_ ?_
                    · skip
                      refine c_seq (fun K73 hK73 => ?_)
                      refine c_reg ?_ -- region 42 numm.go:473
                      refine wl (ro_move rfl) ?_
                      refine wl (ro_move rfl) ?_
                      refine wl (ro_lenS rfl st_9) ?_
                      refine wl (ro_cmp (k := .i64) (a := ((i + 1 : Nat) : Int)) (b := (s.length : Int)) rfl rfl rfl) ?_
                      refine wl_fork rfl (fun hg121 => ?_) (fun hg121 => ?_)
                      · try simp only [decide_eq_true_eq, decide_eq_false_iff_not, Bool.not_eq_true', Bool.not_eq_false', Bool.not_eq_eq_eq_not, Bool.not_true, Bool.not_false, beq_iff_eq, bne_iff_ne, ne_eq, beq_eq_false_iff_ne, bne_eq_false_iff_eq, gt_iff_lt, ge_iff_le, Int.not_lt, Int.not_le] at hg121
                        refine wlg_yes rfl (ro_move rfl) ?_
                        refine wlg_yes rfl (ro_move rfl) ?_
                        refine wlg_yes rfl (ro_indexS rfl rfl st_9 rfl (List.getElem?_eq_getElem (show i + 1 < s.length by omega))) ?_
                        refine wlg_yes rfl (ro_cmp rfl rfl rfl) ?_
                        refine wl (ro_pick rfl rfl rfl) ?_
                        refine wl_nil (x_then (hK73 _ _ ?_))
                        clear hK73 K73
                        refine wc_cond rfl (fun hc126 => ?_) (fun hc126 => ?_)
                        · try simp only [decide_eq_true_eq, decide_eq_false_iff_not, Bool.not_eq_true', Bool.not_eq_false', Bool.not_eq_eq_eq_not, Bool.not_true, Bool.not_false, beq_iff_eq, bne_iff_ne, ne_eq, beq_eq_false_iff_ne, bne_eq_false_iff_eq, gt_iff_lt, ge_iff_le, Int.not_lt, Int.not_le] at hc126
                          refine c_seq (fun K74 hK74 => ?_)
                          refine c_reg ?_ -- region 43 numm.go:474
                          refine wl (ro_assign rfl) ?_
                          refine wl_nil (x_then (hK74 _ _ ?_))
                          clear hK74 K74
                          refine c_reg ?_ -- region 44 numm.go:475
                          refine wl (ro_move rfl) ?_
                          refine wl (ro_arith (k := .i64) (a := ((i + 1 : Nat) : Int)) (r := ((i + 1 + 1 : Nat) : Int)) rfl rfl (by show some (((i + 1 : Nat) : Int) + 1) = _; congr 1) (Go.IntWalk.i64_in _ (by omega))) ?_
                          refine wl (ro_assign rfl) ?_
                          refine wl_nil (x_then ?_)
                          have hi1 : i + 1 < s.length := by omega
                          have h45 : s[i + 1]? = some 45 := by
                            rw [List.getElem?_eq_getElem hi1]
                            congr 1
                            exact UInt8.toNat_inj.1 (show s[i + 1].toNat = 45 by omega)
                          refine ⟨rfl, true, i + 1 + 1, by omega, by rw [htD, drop_get h45]; rfl, (fun h => by cases h), kp _ ⟨rfl, rfl, rfl, rfl, rfl, trivial⟩⟩
                        · try simp only [decide_eq_true_eq, decide_eq_false_iff_not, Bool.not_eq_true', Bool.not_eq_false', Bool.not_eq_eq_eq_not, Bool.not_true, Bool.not_false, beq_iff_eq, bne_iff_ne, ne_eq, beq_eq_false_iff_ne, bne_eq_false_iff_eq, gt_iff_lt, ge_iff_le, Int.not_lt, Int.not_le] at hc126
                          refine c_skip (x_then ?_)
                          have hi1 : i + 1 < s.length := by omega
                          refine ⟨rfl, false, i + 1, by omega, by rw [htD]; rfl, (fun _ c r' hh h45 => ?_), kp _ ⟨rfl, rfl, rfl, rfl, rfl, trivial⟩⟩
                          rw [List.drop_eq_getElem_cons hi1] at hh
                          have h0 := (List.cons.inj hh).1
                          have : s[i + 1].toNat = 45 := by rw [h0, h45]; rfl
                          omega
                      · try simp only [decide_eq_true_eq, decide_eq_false_iff_not, Bool.not_eq_true', Bool.not_eq_false', Bool.not_eq_eq_eq_not, Bool.not_true, Bool.not_false, beq_iff_eq, bne_iff_ne, ne_eq, beq_eq_false_iff_ne, bne_eq_false_iff_eq, gt_iff_lt, ge_iff_le, Int.not_lt, Int.not_le] at hg121
                        refine wlg_no rfl ?_
                        refine wlg_no rfl ?_
                        refine wlg_no rfl ?_
                        refine wlg_no rfl ?_
                        refine wl (ro_pick rfl rfl rfl) ?_
                        refine wl_nil (x_then (hK73 _ _ ?_))
                        clear hK73 K73
                        refine wc_condF rfl ?_
                        refine c_skip (x_then ?_)
                        refine ⟨rfl, false, i + 1, by omega, by rw [htD]; rfl, (fun _ c r' hh h45 => ?_), kp _ ⟨rfl, rfl, rfl, rfl, rfl, trivial⟩⟩
                        rw [List.drop_eq_nil_of_le (by omega)] at hh
                        cases hh
                    rintro a' w' ⟨hw, dn, j, hj, htj, hdn, e, rfl⟩
                    rw [hw]
                    clear hw w'
                    have hmp := mag_p hti hD hD0 (by simpa using hDK) htj hdn
                    refine c_seq (fun K75 hK75 => ?_)
                    refine c_reg ?_ -- region 45 numm.go:477
                    refine wl (ro_assign rfl) ?_
                    refine wl_nil (x_then (hK75 _ _ ?_))
                    clear hK75 K75
                    refine forget [(1, _), (6, _), (7, _), (8, _), (15, _), (16, _)] ⟨rfl, rfl, rfl, rfl, rfl, rfl, trivial⟩ (fun e => ?_)
                    refine c_seq (fun K76 hK76 => ?_)
                    refine c_reg ?_ -- region 46 numm.go:478
                    refine wl (ro_assign rfl) ?_
                    refine wl_nil (x_then (hK76 _ _ ?_))
                    clear hK76 K76
                    refine forget [(1, _), (6, _), (7, _), (8, _), (15, _), (16, _), (17, _)] ⟨rfl, rfl, rfl, rfl, rfl, rfl, rfl, trivial⟩ (fun e => ?_)
                    refine c_seq (fun K77 hK77 => ?_)
                    refine c_block ?_
                    -- loop@r47: live slots [1, 6, 7, 8, 15, 16, 17]
                    refine c_loopG (fun m a' w' => ∃ (i : Nat) (E : List UInt8), m = s.length - i ∧ i ≤ s.length ∧ AllD E ∧ E.length ≤ 4 ∧ s.drop j = E ++ s.drop i ∧ w' = w ∧ ∃ e, a' = Fr 161 (upds e [(1, S s), (6, i64c i), (7, u64c (sgB b)), (8, u64c (dvl 0 D)), (15, .bool dn), (16, i64c (dvl 0 E)), (17, i64c E.length)]) []) (s.length - j) ⟨j, [], rfl, hj, .nil, by simp, rfl, rfl, kp _ ⟨rfl, rfl, rfl, rfl, rfl, rfl, rfl, trivial⟩⟩ ?_
                    clear hdr hc htD
                    rintro m a' w' ⟨i, E, hm, hi, hE, hE4, htE, hw, e, rfl⟩
                    rw [hw]
                    clear hw w'
                    have hEv : dvl 0 E < 10000 := Nat.lt_of_lt_of_le hE.lt (ge_pow (k := 4) hE4)
                    refine c_seq (fun K78 hK78 => ?_)
                    refine c_seq (fun K79 hK79 => ?_)
                    refine c_reg ?_ -- region 47 numm.go:479
                    refine wl (ro_move rfl) ?_
                    refine wl (ro_move rfl) ?_
                    refine wl (ro_lenS rfl st_9) ?_
                    refine wl (ro_cmp (k := .i64) (a := (i : Int)) (b := (s.length : Int)) rfl rfl rfl) ?_
                    refine wl_nil (x_then (hK79 _ _ ?_))
                    clear hK79 K79
                    refine wc_cond rfl (fun hc132 => ?_) (fun hc132 => ?_)
                    · try simp only [decide_eq_true_eq, decide_eq_false_iff_not, Bool.not_eq_true', Bool.not_eq_false', Bool.not_eq_eq_eq_not, Bool.not_true, Bool.not_false, beq_iff_eq, bne_iff_ne, ne_eq, beq_eq_false_iff_ne, bne_eq_false_iff_eq, gt_iff_lt, ge_iff_le, Int.not_lt, Int.not_le] at hc132
                      obtain ⟨c, hc⟩ : ∃ c, s[i]? = some c := ⟨_, List.getElem?_eq_getElem (show i < s.length by omega)⟩
                      have hdr := drop_get hc
                      rw [hdr] at htE
                      refine c_skip (x_then (hK78 _ _ ?_))
                      clear hK78 K78
                      refine c_block ?_
                      refine c_seq (fun K80 hK80 => ?_)
                      refine c_seq (fun K81 hK81 => ?_)
                      refine c_reg ?_ -- region 48 numm.go:480
                      refine wl (ro_move rfl) ?_
                      refine wl (ro_move rfl) ?_
                      refine wl (ro_indexS rfl rfl st_9 rfl (hc)) ?_
                      refine wl_call rfl en_155 (digit155 (c := c)) ?_
                      rintro _ u0 ⟨rfl, hw0⟩
                      rw [hw0]
                      clear hw0 u0
                      refine wl (ro_not rfl) ?_
                      refine wl_nil (x_then (hK81 _ _ ?_))
                      clear hK81 K81
                      refine wc_cond rfl (fun hc137 => ?_) (fun hc137 => ?_)
                      · try simp only [decide_eq_true_eq, decide_eq_false_iff_not, Bool.not_eq_true', Bool.not_eq_false', Bool.not_eq_eq_eq_not, Bool.not_true, Bool.not_false, beq_iff_eq, bne_iff_ne, ne_eq, beq_eq_false_iff_ne, bne_eq_false_iff_eq, gt_iff_lt, ge_iff_le, Int.not_lt, Int.not_le] at hc137
                        have hnd : isDg c = false := by simpa using hc137
                        refine c_seq (fun K82 hK82 => ?_)
                        refine c_reg ?_ -- region 49 numm.go:481
                        refine wl (ro_assign rfl) ?_
                        refine wl (ro_assign rfl) ?_
                        refine wl_nil (x_then (hK82 _ _ ?_))
                        clear hK82 K82
                        refine c_ret (x_thenR (x_blkR (x_thenR (x_blkR (x_thenR ?_)))))
                        refine bp_ret Tryz.results103 rfl ?_
                        refine ⟨.no (hno ?_), rfl⟩
                        rw [hmp, htE, (dgs_both hE (.cons hnd)).2, if_pos (.inr (.inr (.inl (by simp))))]
                      · try simp only [decide_eq_true_eq, decide_eq_false_iff_not, Bool.not_eq_true', Bool.not_eq_false', Bool.not_eq_eq_eq_not, Bool.not_true, Bool.not_false, beq_iff_eq, bne_iff_ne, ne_eq, beq_eq_false_iff_ne, bne_eq_false_iff_eq, gt_iff_lt, ge_iff_le, Int.not_lt, Int.not_le] at hc137
                        have hdg : isDg c = true := by simpa using hc137
                        have hcr := dg_iff.1 hdg
                        have htE2 : s.drop j = (E ++ [c]) ++ s.drop (i + 1) := by rw [htE]; simp
                        refine c_skip (x_then (hK80 _ _ ?_))
                        clear hK80 K80
                        refine forget [(1, _), (6, _), (7, _), (8, _), (15, _), (16, _), (17, _)] ⟨rfl, rfl, rfl, rfl, rfl, rfl, rfl, trivial⟩ (fun e => ?_)
                        refine c_seq (fun K83 hK83 => ?_)
                        refine c_reg ?_ -- region 50 numm.go:483
                        refine wl (ro_move rfl) ?_
                        refine wl (ro_arith (k := .i64) (a := (E.length : Int)) (r := ((E.length + 1 : Nat) : Int)) rfl rfl (by show some ((E.length : Int) + 1) = _; congr 1) (Go.IntWalk.i64_in _ (by omega))) ?_
                        refine wl (ro_assign rfl) ?_
                        refine wl_nil (x_then (hK83 _ _ ?_))
                        clear hK83 K83
                        refine c_seq (fun K84 hK84 => ?_)
                        refine c_seq (fun K85 hK85 => ?_)
                        refine c_reg ?_ -- region 51 numm.go:484
                        refine wl (ro_move rfl) ?_
                        refine wl (ro_cmp rfl rfl rfl) ?_
                        refine wl_nil (x_then (hK85 _ _ ?_))
                        clear hK85 K85
                        refine wc_cond rfl (fun hc141 => ?_) (fun hc141 => ?_)
                        · try simp only [decide_eq_true_eq, decide_eq_false_iff_not, Bool.not_eq_true', Bool.not_eq_false', Bool.not_eq_eq_eq_not, Bool.not_true, Bool.not_false, beq_iff_eq, bne_iff_ne, ne_eq, beq_eq_false_iff_ne, bne_eq_false_iff_eq, gt_iff_lt, ge_iff_le, Int.not_lt, Int.not_le] at hc141
                          refine c_seq (fun K86 hK86 => ?_)
                          refine c_reg ?_ -- region 52 numm.go:485
                          refine wl (ro_assign rfl) ?_
                          refine wl (ro_assign rfl) ?_
                          refine wl_nil (x_then (hK86 _ _ ?_))
                          clear hK86 K86
                          refine c_ret (x_thenR (x_blkR (x_thenR (x_blkR (x_thenR ?_)))))
                          refine bp_ret Tryz.results103 rfl ?_
                          refine ⟨.no (hno ?_), rfl⟩
                          rw [hmp, htE2, (dgs_pre (hE.snoc hdg)).1, if_pos (.inr (.inl (by simp; omega)))]
                        · try simp only [decide_eq_true_eq, decide_eq_false_iff_not, Bool.not_eq_true', Bool.not_eq_false', Bool.not_eq_eq_eq_not, Bool.not_true, Bool.not_false, beq_iff_eq, bne_iff_ne, ne_eq, beq_eq_false_iff_ne, bne_eq_false_iff_eq, gt_iff_lt, ge_iff_le, Int.not_lt, Int.not_le] at hc141
                          refine c_skip (x_then (hK84 _ _ ?_))
                          clear hK84 K84
                          refine forget [(1, _), (6, _), (7, _), (8, _), (15, _), (16, _), (17, _)] ⟨rfl, rfl, rfl, rfl, rfl, rfl, rfl, trivial⟩ (fun e => ?_)
                          refine c_seq (fun K87 hK87 => ?_)
                          refine c_reg ?_ -- region 53 numm.go:487
                          refine wl (ro_move rfl) ?_
                          refine wl (ro_arith (k := .i64) (a := (dvl 0 E : Int)) (r := ((dvl 0 E * 10 : Nat) : Int)) rfl rfl (by show some ((dvl 0 E : Int) * 10) = _; congr 1) (Go.IntWalk.i64_in _ (by omega))) ?_
                          refine wl (ro_move rfl) ?_
                          refine wl (ro_move rfl) ?_
                          refine wl (ro_indexS rfl rfl st_9 rfl (hc)) ?_
                          refine wl (ro_arith (k := .u8) (a := (c.toNat : Int)) (r := ((c.toNat - 48 : Nat) : Int)) rfl rfl (by show some ((c.toNat : Int) - 48) = _; congr 1; omega) (Go.IntWalk.u8_in _ (by omega))) ?_
                          refine wl (ro_conv (a := ((c.toNat - 48 : Nat) : Int)) rfl sc_5 in_3 (Go.IntWalk.i64_in _ (by omega))) ?_
                          refine wl (ro_arith (k := .i64) (a := ((dvl 0 E * 10 : Nat) : Int)) (b := ((c.toNat - 48 : Nat) : Int)) (r := ((dvl 0 E * 10 + (c.toNat - 48) : Nat) : Int)) rfl rfl (by show some (((dvl 0 E * 10 : Nat) : Int) + ((c.toNat - 48 : Nat) : Int)) = _; congr 1) (Go.IntWalk.i64_in _ (by omega))) ?_
                          refine wl (ro_assign rfl) ?_
                          refine wl_nil (x_then (hK87 _ _ ?_))
                          clear hK87 K87
                          refine c_reg ?_ -- region 54 numm.go:488
                          refine wl (ro_move rfl) ?_
                          refine wl (ro_arith (k := .i64) (a := (i : Int)) (r := ((i + 1 : Nat) : Int)) rfl rfl (by show some ((i : Int) + 1) = _; congr 1) (Go.IntWalk.i64_in _ (by omega))) ?_
                          refine wl (ro_assign rfl) ?_
                          refine wl_nil (x_blk (x_then ?_))
                          refine ⟨s.length - (i + 1), by omega, i + 1, E ++ [c], rfl, by omega, hE.snoc hdg, by simp; omega, htE2, rfl, kp _ ⟨rfl, rfl, rfl, rfl, rfl, ?_, ?_, trivial⟩⟩
                          · rw [dvl_snoc]; rfl
                          · rw [List.length_append]; rfl
                    · try simp only [decide_eq_true_eq, decide_eq_false_iff_not, Bool.not_eq_true', Bool.not_eq_false', Bool.not_eq_eq_eq_not, Bool.not_true, Bool.not_false, beq_iff_eq, bne_iff_ne, ne_eq, beq_eq_false_iff_ne, bne_eq_false_iff_eq, gt_iff_lt, ge_iff_le, Int.not_lt, Int.not_le] at hc132
                      have hil : s.drop i = [] := List.drop_eq_nil_of_le (by omega)
                      rw [hil, List.append_nil] at htE
                      have hmp2 := hmp
                      rw [htE] at hmp2
                      obtain ⟨d1, d2⟩ := dgs_both (r := []) hE .nil
                      rw [List.append_nil] at d1 d2
                      rw [d1, d2] at hmp2
                      refine c_exit (x_thenX (x_thenX (x_blkX (x_then (hK77 _ _ ?_)))))
                      clear hK78 K78 hK77 K77
                      refine c_seq (fun K88 hK88 => ?_)
                      refine c_seq (fun K89 hK89 => ?_)
                      refine c_reg ?_ -- region 55 numm.go:490
                      refine wl (ro_move rfl) ?_
                      refine wl (ro_cmp (k := .i64) (a := (E.length : Int)) rfl rfl rfl) ?_
                      refine wl_nil (x_then (hK89 _ _ ?_))
                      clear hK89 K89
                      refine wc_cond rfl (fun hc153 => ?_) (fun hc153 => ?_)
                      · try simp only [decide_eq_true_eq, decide_eq_false_iff_not, Bool.not_eq_true', Bool.not_eq_false', Bool.not_eq_eq_eq_not, Bool.not_true, Bool.not_false, beq_iff_eq, bne_iff_ne, ne_eq, beq_eq_false_iff_ne, bne_eq_false_iff_eq, gt_iff_lt, ge_iff_le, Int.not_lt, Int.not_le] at hc153
                        refine c_seq (fun K90 hK90 => ?_)
                        refine c_reg ?_ -- region 56 numm.go:491
                        refine wl (ro_assign rfl) ?_
                        refine wl (ro_assign rfl) ?_
                        refine wl_nil (x_then (hK90 _ _ ?_))
                        clear hK90 K90
                        refine c_ret (x_thenR ?_)
                        refine bp_ret Tryz.results103 rfl ?_
                        refine ⟨.no (hno ?_), rfl⟩
                        rw [hmp2, if_pos (.inl (List.eq_nil_of_length_eq_zero (by omega)))]
                      · try simp only [decide_eq_true_eq, decide_eq_false_iff_not, Bool.not_eq_true', Bool.not_eq_false', Bool.not_eq_eq_eq_not, Bool.not_true, Bool.not_false, beq_iff_eq, bne_iff_ne, ne_eq, beq_eq_false_iff_ne, bne_eq_false_iff_eq, gt_iff_lt, ge_iff_le, Int.not_lt, Int.not_le] at hc153
                        rw [if_neg (by rintro (h | h | h | h); subst h; exact hc153 rfl; omega; exact h rfl; omega)] at hmp2
                        refine c_skip (x_then (hK88 _ _ ?_))
                        clear hK88 K88
                        refine c_mid (fun a' w' => w' = w ∧ ∃ e, a' = Fr 161 (upds e [(7, u64c (sgB b)), (8, u64c (dvl 0 D)), (16, icv (if dn then -(dvl 0 E : Int) else (dvl 0 E : Int)))]) []) ?_ ?_
                        · skip
                          refine c_seq (fun K91 hK91 => ?_)
                          refine c_reg ?_ -- region 57 numm.go:493
                          refine wl (ro_move rfl) ?_
                          refine wl_nil (x_then (hK91 _ _ ?_))
                          clear hK91 K91
                          refine wc_cond rfl (fun hc154 => ?_) (fun hc154 => ?_)
                          · try simp only [decide_eq_true_eq, decide_eq_false_iff_not, Bool.not_eq_true', Bool.not_eq_false', Bool.not_eq_eq_eq_not, Bool.not_true, Bool.not_false, beq_iff_eq, bne_iff_ne, ne_eq, beq_eq_false_iff_ne, bne_eq_false_iff_eq, gt_iff_lt, ge_iff_le, Int.not_lt, Int.not_le] at hc154
                            refine c_reg ?_ -- region 58 numm.go:494
                            refine wl (ro_move rfl) ?_
                            refine wl (ro_neg rfl (by omega)) ?_
                            refine wl (ro_assign rfl) ?_
                            refine wl_nil (x_then ?_)
                            exact ⟨rfl, kp _ ⟨rfl, rfl, by rw [if_pos hc154]; rfl, trivial⟩⟩
                          · try simp only [decide_eq_true_eq, decide_eq_false_iff_not, Bool.not_eq_true', Bool.not_eq_false', Bool.not_eq_eq_eq_not, Bool.not_true, Bool.not_false, beq_iff_eq, bne_iff_ne, ne_eq, beq_eq_false_iff_ne, bne_eq_false_iff_eq, gt_iff_lt, ge_iff_le, Int.not_lt, Int.not_le] at hc154
                            refine c_skip (x_then ?_)
                            exact ⟨rfl, kp _ ⟨rfl, rfl, by rw [hc154]; rfl, trivial⟩⟩
                        rintro a' w' ⟨hw, e, rfl⟩
                        rw [hw]
                        clear hw w'
                        have hex : -20000 ≤ (if dn then -(dvl 0 E : Int) else (dvl 0 E : Int)) ∧ (if dn then -(dvl 0 E : Int) else (dvl 0 E : Int)) ≤ 20000 := by split <;> omega
                        refine c_seq (fun K92 hK92 => ?_)
                        refine c_reg ?_ -- region 59 numm.go:496
                        refine wl (ro_move rfl) ?_
                        refine wl (ro_move rfl) ?_
                        refine wl (ro_move rfl) ?_
                        refine wl_call rfl en_122 (pack122 (sg := b) (man := dvl 0 D) (st := false) (by unfold W64; omega) hex (fun h ↦ by simp at h)) ?_
                        rintro _ u0 ⟨rfl, hw0⟩
                        rw [hw0]
                        clear hw0 u0
                        refine wl (ro_assign rfl) ?_
                        refine wl (ro_assign rfl) ?_
                        refine wl_nil (x_then (hK92 _ _ ?_))
                        clear hK92 K92
                        refine c_ret ?_
                        refine bp_ret Tryz.results103 rfl ?_
                        refine ⟨.inl ⟨_, ?_, rfl⟩, rfl⟩
                        rw [hpar, hmp2, pkS_f, nearest_sg b]
                        rfl
end Go.Proofs.Qxb6500568aGreatDoor
