import Derived.Test.Qxb6500568aGreatDoorBc
/- Numbers of the model: products, quotients, floors. -/
namespace Go.Proofs.Qxb6500568aGreatDoor
open Ieee
set_option linter.unusedVariables false
set_option linter.unusedSimpArgs false

theorem ro_and32U {P : Program} {n : Nat} {e : Nat → Option Value} {w : World} {t t' : TypeId} {x : Operand} {a : Nat} (hx : evO n e x = some (u64c a)) (ha : W64 a) : RO P n e w (.binOp .and t x (.const (.int .u64 4294967295)) t') (u64c (a % 4294967296)) := ro_lowU (k := 32) hx rfl ha (by omega)
theorem or_shl {a b k : Nat} (h : b < 2 ^ k) : a * 2 ^ k ||| b = a * 2 ^ k + b := by
  have := Nat.two_pow_add_eq_or_of_lt h a
  rw [Nat.mul_comm] at this
  exact this.symm
theorem ro_orHi {P : Program} {n : Nat} {e : Nat → Option Value} {w : World} {t t' : TypeId} {x y : Operand} {a b k : Nat} (hx : evO n e x = some (u64c (a * 2 ^ k))) (hy : evO n e y = some (u64c b)) (ha : W64 (a * 2 ^ k)) (hb : W64 b) (h : b < 2 ^ k) : RO P n e w (.binOp .or t x y t') (u64c (a * 2 ^ k + b)) := by
  have := ro_orU (P := P) (w := w) (t := t) (t' := t') hx hy ha hb
  rw [or_shl h] at this
  exact this
theorem ro_orLo {P : Program} {n : Nat} {e : Nat → Option Value} {w : World} {t t' : TypeId} {x y : Operand} {a b k : Nat} (hy : evO n e y = some (u64c (a * 2 ^ k))) (hx : evO n e x = some (u64c b)) (ha : W64 (a * 2 ^ k)) (hb : W64 b) (h : b < 2 ^ k) : RO P n e w (.binOp .or t x y t') (u64c (b + a * 2 ^ k)) := by
  have := ro_orU (P := P) (w := w) (t := t) (t' := t') hx hy hb ha
  rw [Nat.or_comm, or_shl h, Nat.add_comm] at this
  exact this

theorem half_ge {m l : Nat} (h : 0 < m) : 2 ^ 63 ≤ (m * 18446744073709551616 + l) / 2 := by omega
theorem half_eq {m l : Nat} : m / 2 ^ 1 * 18446744073709551616 + (l / 2 ^ 1 + m % 2 * 2 ^ 63) = (m * 18446744073709551616 + l) / 2 := by omega
theorem hd62' {A x r : Nat} (h : A * 2 ^ 63 = 2 * x + 2 * r) : A * 2 ^ 62 = r + x := by
  apply Nat.eq_of_mul_eq_mul_left (show 0 < 2 by decide)
  rw [Nat.mul_add, Nat.add_comm, ← h, Nat.mul_left_comm]
theorem hd62 {A B q r : Nat} (h : A * 2 ^ 63 = 2 * (q * B) + 2 * r) : A * 2 ^ 62 = r + B * q := by
  exact (hd62' h).trans (congrArg _ (Nat.mul_comm q B))
theorem mul116 {w : World} {a b : Nat} (ha : W64 a) (hb : W64 b) : Ret Tryz.prog 116 [u64c a, u64c b] w (fun v w' => v = u64c (fMul a b) ∧ w' = w) := by
  have hxw : a ^^^ b < 2 ^ 64 := Nat.xor_lt_two_pow ha hb
  replace hxw : W64 (a ^^^ b) := hxw
  have hngx := ng_xor a b ha hb
  have hma := pm_lt a
  have hmb := pm_lt b
  obtain ⟨X, hX⟩ : ∃ X, X = pmW a % 4294967296 * (pmW b % 4294967296) := ⟨_, rfl⟩
  obtain ⟨Y, hY⟩ : ∃ X, X = pmW a / 4294967296 * (pmW b % 4294967296) := ⟨_, rfl⟩
  obtain ⟨Z, hZ⟩ : ∃ X, X = pmW a % 4294967296 * (pmW b / 4294967296) := ⟨_, rfl⟩
  obtain ⟨V, hV⟩ : ∃ X, X = pmW a / 4294967296 * (pmW b / 4294967296) := ⟨_, rfl⟩
  obtain ⟨hXb, hYb, hZb, hVb, hP⟩ := mulHL (pmW a) (pmW b) hma hmb X Y Z V hX hY hZ hV
  refine ret_of Tryz.func116 rfl Tryz.ntmps116 rfl ?_
  refine c_seq (fun K1 hK1 => ?_)
  refine c_reg ?_ -- region 0 numm.go:152
  refine wl (ro_assign rfl) ?_
  refine wl_nil (x_then (hK1 _ _ ?_))
  clear hK1 K1
  refine c_seq (fun K2 hK2 => ?_)
  refine c_seq (fun K3 hK3 => ?_)
  refine c_reg ?_ -- region 1 numm.go:153
  refine wl (ro_move rfl) ?_
  refine wl (ro_move rfl) ?_
  refine wl_call rfl en_112 (anyNaN112 ha hb) ?_
  rintro _ u0 ⟨rfl, hw0⟩
  rw [hw0]
  clear hw0 u0
  refine wl_nil (x_then (hK3 _ _ ?_))
  clear hK3 K3
  refine wc_cond rfl (fun hc22 => ?_) (fun hc22 => ?_)
  · try simp only [decide_eq_true_eq, decide_eq_false_iff_not, Bool.not_eq_true', Bool.not_eq_false', Bool.not_eq_eq_eq_not, Bool.not_true, Bool.not_false, beq_iff_eq, bne_iff_ne, ne_eq, beq_eq_false_iff_ne, bne_eq_false_iff_eq, gt_iff_lt, ge_iff_le, Int.not_lt, Int.not_le] at hc22
    refine c_seq (fun K4 hK4 => ?_)
    refine c_reg ?_ -- region 2 numm.go:154
    refine wl (ro_assign rfl) ?_
    refine wl_nil (x_then (hK4 _ _ ?_))
    clear hK4 K4
    refine c_ret (x_thenR ?_)
    refine bp_ret Tryz.results116 rfl ?_
    exact ⟨by rw [mul_nan ha hb hc22]; all_goals rfl, rfl⟩
  · try simp only [decide_eq_true_eq, decide_eq_false_iff_not, Bool.not_eq_true', Bool.not_eq_false', Bool.not_eq_eq_eq_not, Bool.not_true, Bool.not_false, beq_iff_eq, bne_iff_ne, ne_eq, beq_eq_false_iff_ne, bne_eq_false_iff_eq, gt_iff_lt, ge_iff_le, Int.not_lt, Int.not_le] at hc22
    have hna : rgW a ≤ infB := by omega
    have hnb : rgW b ≤ infB := by omega
    refine c_skip (x_then (hK2 _ _ ?_))
    clear hK2 K2
    refine forget [(0, _), (1, _)] ⟨rfl, rfl, trivial⟩ (fun e => ?_)
    refine c_seq (fun K5 hK5 => ?_)
    refine c_reg ?_ -- region 3 numm.go:156
    refine wl (ro_move rfl) ?_
    refine wl (ro_move rfl) ?_
    refine wl (ro_xorUU rfl rfl ha hb) ?_
    refine wl (ro_sg rfl hxw) ?_
    refine wl (ro_assign rfl) ?_
    refine wl_nil (x_then (hK5 _ _ ?_))
    clear hK5 K5
    refine c_seq (fun K6 hK6 => ?_)
    refine c_seq (fun K7 hK7 => ?_)
    refine c_reg ?_ -- region 4 numm.go:157
    refine wl (ro_move rfl) ?_
    refine wl (ro_move rfl) ?_
    refine wl_call rfl en_167 (anyInf167 ha hb) ?_
    rintro _ u0 ⟨rfl, hw0⟩
    rw [hw0]
    clear hw0 u0
    refine wl_nil (x_then (hK7 _ _ ?_))
    clear hK7 K7
    refine wc_cond rfl (fun hc29 => ?_) (fun hc29 => ?_)
    · try simp only [decide_eq_true_eq, decide_eq_false_iff_not, Bool.not_eq_true', Bool.not_eq_false', Bool.not_eq_eq_eq_not, Bool.not_true, Bool.not_false, beq_iff_eq, bne_iff_ne, ne_eq, beq_eq_false_iff_ne, bne_eq_false_iff_eq, gt_iff_lt, ge_iff_le, Int.not_lt, Int.not_le] at hc29
      refine c_seq (fun K8 hK8 => ?_)
      refine c_seq (fun K9 hK9 => ?_)
      refine c_reg ?_ -- region 5 numm.go:158
      refine wl (ro_move rfl) ?_
      refine wl (ro_move rfl) ?_
      refine wl_call rfl en_168 (anyZero168 ha hb) ?_
      rintro _ u0 ⟨rfl, hw0⟩
      rw [hw0]
      clear hw0 u0
      refine wl_nil (x_then (hK9 _ _ ?_))
      clear hK9 K9
      refine wc_cond rfl (fun hc32 => ?_) (fun hc32 => ?_)
      · try simp only [decide_eq_true_eq, decide_eq_false_iff_not, Bool.not_eq_true', Bool.not_eq_false', Bool.not_eq_eq_eq_not, Bool.not_true, Bool.not_false, beq_iff_eq, bne_iff_ne, ne_eq, beq_eq_false_iff_ne, bne_eq_false_iff_eq, gt_iff_lt, ge_iff_le, Int.not_lt, Int.not_le] at hc32
        refine c_seq (fun K10 hK10 => ?_)
        refine c_reg ?_ -- region 6 numm.go:159
        refine wl (ro_assign rfl) ?_
        refine wl_nil (x_then (hK10 _ _ ?_))
        clear hK10 K10
        refine c_ret (x_thenR (x_thenR ?_))
        refine bp_ret Tryz.results116 rfl ?_
        exact ⟨by rw [mul_inf ha hb hna hnb hc29, if_pos hc32]; all_goals rfl, rfl⟩
      · try simp only [decide_eq_true_eq, decide_eq_false_iff_not, Bool.not_eq_true', Bool.not_eq_false', Bool.not_eq_eq_eq_not, Bool.not_true, Bool.not_false, beq_iff_eq, bne_iff_ne, ne_eq, beq_eq_false_iff_ne, bne_eq_false_iff_eq, gt_iff_lt, ge_iff_le, Int.not_lt, Int.not_le] at hc32
        refine c_skip (x_then (hK8 _ _ ?_))
        clear hK8 K8
        refine forget [(5, _)] ⟨rfl, trivial⟩ (fun e => ?_)
        refine c_seq (fun K11 hK11 => ?_)
        refine c_reg ?_ -- region 7 numm.go:161
        refine wl (ro_move rfl) ?_
        refine wl (ro_orSg (r := infB) rfl rfl (by decide)) ?_
        refine wl (ro_assign rfl) ?_
        refine wl_nil (x_then (hK11 _ _ ?_))
        clear hK11 K11
        refine c_ret (x_thenR ?_)
        refine bp_ret Tryz.results116 rfl ?_
        exact ⟨by rw [mul_inf ha hb hna hnb hc29, if_neg hc32, hngx], rfl⟩
    · try simp only [decide_eq_true_eq, decide_eq_false_iff_not, Bool.not_eq_true', Bool.not_eq_false', Bool.not_eq_eq_eq_not, Bool.not_true, Bool.not_false, beq_iff_eq, bne_iff_ne, ne_eq, beq_eq_false_iff_ne, bne_eq_false_iff_eq, gt_iff_lt, ge_iff_le, Int.not_lt, Int.not_le] at hc29
      have hfa : rgW a < infB := by omega
      have hfb : rgW b < infB := by omega
      have hpa := pe_ge a
      have hpb := pe_ge b
      have hla := pe_le hfa
      have hlb := pe_le hfb
      refine c_skip (x_then (hK6 _ _ ?_))
      clear hK6 K6
      refine c_seq (fun K12 hK12 => ?_)
      refine c_seq (fun K13 hK13 => ?_)
      refine c_reg ?_ -- region 8 numm.go:163
      refine wl (ro_move rfl) ?_
      refine wl (ro_move rfl) ?_
      refine wl_call rfl en_168 (anyZero168 ha hb) ?_
      rintro _ u0 ⟨rfl, hw0⟩
      rw [hw0]
      clear hw0 u0
      refine wl_nil (x_then (hK13 _ _ ?_))
      clear hK13 K13
      refine wc_cond rfl (fun hc37 => ?_) (fun hc37 => ?_)
      · try simp only [decide_eq_true_eq, decide_eq_false_iff_not, Bool.not_eq_true', Bool.not_eq_false', Bool.not_eq_eq_eq_not, Bool.not_true, Bool.not_false, beq_iff_eq, bne_iff_ne, ne_eq, beq_eq_false_iff_ne, bne_eq_false_iff_eq, gt_iff_lt, ge_iff_le, Int.not_lt, Int.not_le] at hc37
        refine c_seq (fun K14 hK14 => ?_)
        refine c_reg ?_ -- region 9 numm.go:164
        refine wl (ro_move rfl) ?_
        refine wl (ro_assign rfl) ?_
        refine wl_nil (x_then (hK14 _ _ ?_))
        clear hK14 K14
        refine c_ret (x_thenR ?_)
        refine bp_ret Tryz.results116 rfl ?_
        refine ⟨?_, rfl⟩
        have : fMul a b = sgB (ngW a ^^ ngW b) := by
          rw [mul_fin ha hb hfa hfb]
          have : pmW a * pmW b = 0 := by rcases hc37 with h | h <;> rw [pm_zero.2 h] <;> simp
          rw [this, nearest_zero]
        rw [this, ← hngx]
      · try simp only [decide_eq_true_eq, decide_eq_false_iff_not, Bool.not_eq_true', Bool.not_eq_false', Bool.not_eq_eq_eq_not, Bool.not_true, Bool.not_false, beq_iff_eq, bne_iff_ne, ne_eq, beq_eq_false_iff_ne, bne_eq_false_iff_eq, gt_iff_lt, ge_iff_le, Int.not_lt, Int.not_le] at hc37
        refine c_skip (x_then (hK12 _ _ ?_))
        clear hK12 K12
        refine forget [(0, _), (1, _), (5, _)] ⟨rfl, rfl, rfl, trivial⟩ (fun e => ?_)
        refine c_seq (fun K15 hK15 => ?_)
        refine c_reg ?_ -- region 10 numm.go:166
        refine wl (ro_move rfl) ?_
        refine wl_call rfl en_166 (parts166 ha) ?_
        rintro _ u0 ⟨rfl, hw0⟩
        rw [hw0]
        clear hw0 u0
        refine wl (ro_move rfl) ?_
        refine wl (ro_extract rfl rfl) ?_
        refine wl (ro_extract rfl rfl) ?_
        refine wl (ro_assign rfl) ?_
        refine wl (ro_assign rfl) ?_
        refine wl_nil (x_then (hK15 _ _ ?_))
        clear hK15 K15
        refine forget [(1, _), (5, _), (6, _), (7, _)] ⟨rfl, rfl, rfl, rfl, trivial⟩ (fun e => ?_)
        refine c_seq (fun K16 hK16 => ?_)
        refine c_reg ?_ -- region 11 numm.go:167
        refine wl (ro_move rfl) ?_
        refine wl_call rfl en_166 (parts166 hb) ?_
        rintro _ u0 ⟨rfl, hw0⟩
        rw [hw0]
        clear hw0 u0
        refine wl (ro_move rfl) ?_
        refine wl (ro_extract rfl rfl) ?_
        refine wl (ro_extract rfl rfl) ?_
        refine wl (ro_assign rfl) ?_
        refine wl (ro_assign rfl) ?_
        refine wl_nil (x_then (hK16 _ _ ?_))
        clear hK16 K16
        refine forget [(5, _), (6, _), (7, _), (8, _), (9, _)] ⟨rfl, rfl, rfl, rfl, rfl, trivial⟩ (fun e => ?_)
        refine c_seq (fun K17 hK17 => ?_)
        refine c_reg ?_ -- region 12 numm.go:169
        refine wl (ro_move rfl) ?_
        refine wl (ro_and32U rfl (by unfold W64; omega)) ?_
        refine wl (ro_assign rfl) ?_
        refine wl_nil (x_then (hK17 _ _ ?_))
        clear hK17 K17
        refine forget [(5, _), (6, _), (7, _), (8, _), (9, _), (10, _)] ⟨rfl, rfl, rfl, rfl, rfl, rfl, trivial⟩ (fun e => ?_)
        refine c_seq (fun K18 hK18 => ?_)
        refine c_reg ?_ -- region 13 numm.go:170
        refine wl (ro_move rfl) ?_
        refine wl (ro_shrU (a := pmW a) (b := 32) rfl rfl (by decide)) ?_
        refine wl (ro_assign rfl) ?_
        refine wl_nil (x_then (hK18 _ _ ?_))
        clear hK18 K18
        refine forget [(5, _), (7, _), (8, _), (9, _), (10, _), (11, _)] ⟨rfl, rfl, rfl, rfl, rfl, rfl, trivial⟩ (fun e => ?_)
        refine c_seq (fun K19 hK19 => ?_)
        refine c_reg ?_ -- region 14 numm.go:171
        refine wl (ro_move rfl) ?_
        refine wl (ro_and32U rfl (by unfold W64; omega)) ?_
        refine wl (ro_assign rfl) ?_
        refine wl_nil (x_then (hK19 _ _ ?_))
        clear hK19 K19
        refine forget [(5, _), (7, _), (8, _), (9, _), (10, _), (11, _), (12, _)] ⟨rfl, rfl, rfl, rfl, rfl, rfl, rfl, trivial⟩ (fun e => ?_)
        refine c_seq (fun K20 hK20 => ?_)
        refine c_reg ?_ -- region 15 numm.go:172
        refine wl (ro_move rfl) ?_
        refine wl (ro_shrU (a := pmW b) (b := 32) rfl rfl (by decide)) ?_
        refine wl (ro_assign rfl) ?_
        refine wl_nil (x_then (hK20 _ _ ?_))
        clear hK20 K20
        refine forget [(5, _), (7, _), (9, _), (10, _), (11, _), (12, _), (13, _)] ⟨rfl, rfl, rfl, rfl, rfl, rfl, rfl, trivial⟩ (fun e => ?_)
        refine c_seq (fun K21 hK21 => ?_)
        refine c_reg ?_ -- region 16 numm.go:173
        refine wl (ro_move rfl) ?_
        refine wl (ro_move rfl) ?_
        refine wl ((show RO _ _ _ _ _ (u64c Y) from hY ▸ ro_mulU (a := pmW a / 2 ^ 32) (b := pmW b % 4294967296) rfl rfl (by unfold W64; rw [show (2 ^ 32 : Nat) = 4294967296 from rfl, ← hY]; omega))) ?_
        refine wl (ro_move rfl) ?_
        refine wl (ro_move rfl) ?_
        refine wl ((show RO _ _ _ _ _ (u64c X) from hX ▸ ro_mulU (a := pmW a % 4294967296) (b := pmW b % 4294967296) rfl rfl (by unfold W64; rw [← hX]; omega))) ?_
        refine wl (ro_shrU (a := X) (b := 32) rfl rfl (by decide)) ?_
        refine wl (ro_addU (a := Y) (b := X / 2 ^ 32) rfl rfl (by unfold W64; omega)) ?_
        refine wl (ro_assign rfl) ?_
        refine wl_nil (x_then (hK21 _ _ ?_))
        clear hK21 K21
        refine forget [(5, _), (7, _), (9, _), (10, _), (11, _), (12, _), (13, _), (14, _)] ⟨rfl, rfl, rfl, rfl, rfl, rfl, rfl, rfl, trivial⟩ (fun e => ?_)
        refine c_seq (fun K22 hK22 => ?_)
        refine c_reg ?_ -- region 17 numm.go:174
        refine wl (ro_move rfl) ?_
        refine wl (ro_move rfl) ?_
        refine wl ((show RO _ _ _ _ _ (u64c Z) from hZ ▸ ro_mulU (a := pmW a % 4294967296) (b := pmW b / 2 ^ 32) rfl rfl (by unfold W64; rw [show (2 ^ 32 : Nat) = 4294967296 from rfl, ← hZ]; omega))) ?_
        refine wl (ro_move rfl) ?_
        refine wl (ro_and32U (a := Y + X / 2 ^ 32) rfl (by unfold W64; omega)) ?_
        refine wl (ro_addU (a := Z) (b := (Y + X / 2 ^ 32) % 4294967296) rfl rfl (by unfold W64; omega)) ?_
        refine wl (ro_assign rfl) ?_
        refine wl_nil (x_then (hK22 _ _ ?_))
        clear hK22 K22
        refine forget [(5, _), (7, _), (9, _), (10, _), (11, _), (12, _), (13, _), (14, _), (15, _)] ⟨rfl, rfl, rfl, rfl, rfl, rfl, rfl, rfl, rfl, trivial⟩ (fun e => ?_)
        refine c_seq (fun K23 hK23 => ?_)
        refine c_reg ?_ -- region 18 numm.go:175
        refine wl (ro_move rfl) ?_
        refine wl (ro_move rfl) ?_
        refine wl ((show RO _ _ _ _ _ (u64c V) from hV ▸ ro_mulU (a := pmW a / 2 ^ 32) (b := pmW b / 2 ^ 32) rfl rfl (by unfold W64; rw [show (2 ^ 32 : Nat) = 4294967296 from rfl, ← hV]; omega))) ?_
        refine wl (ro_move rfl) ?_
        refine wl (ro_shrU (a := Y + X / 2 ^ 32) (b := 32) rfl rfl (by decide)) ?_
        refine wl (ro_addU (a := V) (b := (Y + X / 2 ^ 32) / 2 ^ 32) rfl rfl (by unfold W64; omega)) ?_
        refine wl (ro_move rfl) ?_
        refine wl (ro_shrU (a := Z + (Y + X / 2 ^ 32) % 4294967296) (b := 32) rfl rfl (by decide)) ?_
        refine wl (ro_addU (a := V + (Y + X / 2 ^ 32) / 2 ^ 32) (b := (Z + (Y + X / 2 ^ 32) % 4294967296) / 2 ^ 32) rfl rfl (by unfold W64; omega)) ?_
        refine wl (ro_assign rfl) ?_
        refine wl_nil (x_then (hK23 _ _ ?_))
        clear hK23 K23
        refine forget [(5, _), (7, _), (9, _), (10, _), (12, _), (15, _), (16, _)] ⟨rfl, rfl, rfl, rfl, rfl, rfl, rfl, trivial⟩ (fun e => ?_)
        refine c_seq (fun K24 hK24 => ?_)
        refine c_reg ?_ -- region 19 numm.go:176
        refine wl (ro_move rfl) ?_
        refine wl ((show RO _ _ _ _ _ (u64c ((Z + (Y + X / 2 ^ 32) % 4294967296) % 4294967296 * 2 ^ 32)) from (show (Z + (Y + X / 2 ^ 32) % 4294967296) * 2 ^ 32 % 2 ^ 64 = (Z + (Y + X / 2 ^ 32) % 4294967296) % 4294967296 * 2 ^ 32 by omega) ▸ ro_shlU (a := Z + (Y + X / 2 ^ 32) % 4294967296) (b := 32) rfl rfl (by decide))) ?_
        refine wl (ro_move rfl) ?_
        refine wl (ro_move rfl) ?_
        refine wl ((show RO _ _ _ _ _ (u64c X) from hX ▸ ro_mulU (a := pmW a % 4294967296) (b := pmW b % 4294967296) rfl rfl (by unfold W64; rw [← hX]; omega))) ?_
        refine wl (ro_and32U (a := X) rfl (by unfold W64; omega)) ?_
        refine wl (ro_orHi (a := (Z + (Y + X / 2 ^ 32) % 4294967296) % 4294967296) (k := 32) (b := X % 4294967296) rfl rfl (by unfold W64; omega) (by unfold W64; omega) (by omega)) ?_
        refine wl (ro_assign rfl) ?_
        refine wl_nil (x_then (hK24 _ _ ?_))
        clear hK24 K24
        refine forget [(5, _), (7, _), (9, _), (16, _), (17, _)] ⟨rfl, rfl, rfl, rfl, rfl, trivial⟩ (fun e => ?_)
        refine c_seq (fun K25 hK25 => ?_)
        obtain ⟨H, hH⟩ : ∃ H, H = V + (Y + X / 2 ^ 32) / 2 ^ 32 + (Z + (Y + X / 2 ^ 32) % 4294967296) / 2 ^ 32 := ⟨_, rfl⟩
        obtain ⟨L, hL⟩ : ∃ L, L = (Z + (Y + X / 2 ^ 32) % 4294967296) % 4294967296 * 2 ^ 32 + X % 4294967296 := ⟨_, rfl⟩
        rw [← hH, ← hL]
        have hHL : H * 18446744073709551616 + L = pmW a * pmW b := by omega
        have hLlt : L < 18446744073709551616 := by omega
        have hHlt : H < 9223372036854775808 := by omega
        clear hH hL hX hY hZ hV hP hXb hYb hZb hVb X Y Z V
        refine c_reg ?_ -- region 20 numm.go:177
        refine wl (ro_move rfl) ?_
        refine wl (ro_move rfl) ?_
        refine wl (ro_arith (k := .i64) (a := peW a) (b := peW b) rfl rfl rfl (Go.IntWalk.i64_in _ (by omega))) ?_
        refine wl (ro_assign rfl) ?_
        refine wl_nil (x_then (hK25 _ _ ?_))
        clear hK25 K25
        refine forget [(5, _), (16, _), (17, _), (18, _)] ⟨rfl, rfl, rfl, rfl, trivial⟩ (fun e => ?_)
        refine c_seq (fun K26 hK26 => ?_)
        refine c_reg ?_ -- region 21 numm.go:178
        refine wl (ro_assign rfl) ?_
        refine wl_nil (x_then (hK26 _ _ ?_))
        clear hK26 K26
        refine forget [(5, _), (16, _), (17, _), (18, _), (19, _)] ⟨rfl, rfl, rfl, rfl, rfl, trivial⟩ (fun e => ?_)
        refine c_seq (fun K27 hK27 => ?_)
        refine c_block ?_
        -- loop@r22: live slots [5, 16, 17, 18, 19]
        refine c_loopG (fun m a' w' => ∃ (k L : Nat), k ≤ 63 ∧ m * 2 ^ k < 9223372036854775808 ∧ L < 18446744073709551616 ∧ m * 18446744073709551616 + L = pmW a * pmW b / 2 ^ k ∧ (k = 0 ∨ 2 ^ 63 ≤ pmW a * pmW b / 2 ^ k) ∧ w' = w ∧ ∃ e, a' = Fr 109 (upds e [(5, u64c (sgB (ngW (a ^^^ b)))), (16, u64c m), (17, u64c L), (18, icv (peW a + peW b + k)), (19, .bool (decide (pmW a * pmW b % 2 ^ k ≠ 0)))]) []) H ⟨0, L, by omega, by omega, hLlt, by rw [Nat.pow_zero, Nat.div_one]; exact hHL, .inl rfl, rfl, kp _ ⟨rfl, rfl, rfl, by rw [show peW a + peW b + ((0 : Nat) : Int) = peW a + peW b by omega]; rfl, by rw [Nat.pow_zero, Nat.mod_one]; rfl, trivial⟩⟩ ?_
        rintro m a' w' ⟨k, l, hk, hmk, hl, hml, hks, hw, e, rfl⟩
        rw [hw]
        clear hw w' hHL hLlt hHlt
        have hkp := Nat.two_pow_pos k
        have hmw : m < 9223372036854775808 := by
          have := Nat.mul_le_mul_left m hkp
          omega
        generalize hXX : pmW a * pmW b = X at *
        refine c_seq (fun K28 hK28 => ?_)
        refine c_seq (fun K29 hK29 => ?_)
        refine c_reg ?_ -- region 22 numm.go:179
        refine wl (ro_move rfl) ?_
        refine wl (ro_cmpU rfl rfl rfl) ?_
        refine wl_nil (x_then (hK29 _ _ ?_))
        clear hK29 K29
        refine wc_cond rfl (fun hc91 => ?_) (fun hc91 => ?_)
        · try simp only [decide_eq_true_eq, decide_eq_false_iff_not, Bool.not_eq_true', Bool.not_eq_false', Bool.not_eq_eq_eq_not, Bool.not_true, Bool.not_false, beq_iff_eq, bne_iff_ne, ne_eq, beq_eq_false_iff_ne, bne_eq_false_iff_eq, gt_iff_lt, ge_iff_le, Int.not_lt, Int.not_le] at hc91
          have hm0 : 0 < m := by omega
          have hk63 : k < 63 := by
            rcases Nat.lt_or_ge k 63 with h | h
            · exact h
            · exfalso
              have e63 : k = 63 := by omega
              subst e63
              have := Nat.mul_le_mul_right (2 ^ 63) hm0
              omega
          have hdd : X / 2 ^ (k + 1) = (m * 18446744073709551616 + l) / 2 := by rw [Nat.pow_succ, ← Nat.div_div_eq_div_mul, hml]
          have hmm : X % 2 ^ (k + 1) = (m * 18446744073709551616 + l) % 2 * 2 ^ k + X % 2 ^ k := by
            have e1 := Nat.div_add_mod X (2 ^ (k + 1))
            have e2 := Nat.div_add_mod X (2 ^ k)
            rw [← hml] at e2
            rw [hdd, Nat.pow_succ, Nat.mul_assoc] at e1
            have e3 : 2 ^ k * (m * 18446744073709551616 + l) = 2 ^ k * (2 * ((m * 18446744073709551616 + l) / 2)) + (m * 18446744073709551616 + l) % 2 * 2 ^ k := by
              rw [Nat.mul_comm _ (2 ^ k), ← Nat.mul_add]; congr 1; omega
            rw [Nat.pow_succ]
            omega
          refine c_skip (x_then (hK28 _ _ ?_))
          clear hK28 K28
          refine c_block ?_
          refine c_mid (fun a' w' => w' = w ∧ ∃ e, a' = Fr 109 (upds e [(5, u64c (sgB (ngW (a ^^^ b)))), (16, u64c m), (17, u64c l), (18, icv (peW a + peW b + k)), (19, .bool (decide (X % 2 ^ (k + 1) ≠ 0)))]) []) ?_ ?_
          · skip
            refine c_seq (fun K30 hK30 => ?_)
            refine c_reg ?_ -- region 23 numm.go:180
            refine wl (ro_move rfl) ?_
            refine wl (ro_bit0 (a := l) rfl (by unfold W64; omega)) ?_
            refine wl (ro_cmpU rfl rfl rfl) ?_
            refine wl_nil (x_then (hK30 _ _ ?_))
            clear hK30 K30
            refine wc_cond rfl (fun hc94 => ?_) (fun hc94 => ?_)
            · try simp only [decide_eq_true_eq, decide_eq_false_iff_not, Bool.not_eq_true', Bool.not_eq_false', Bool.not_eq_eq_eq_not, Bool.not_true, Bool.not_false, beq_iff_eq, bne_iff_ne, ne_eq, beq_eq_false_iff_ne, bne_eq_false_iff_eq, gt_iff_lt, ge_iff_le, Int.not_lt, Int.not_le] at hc94
              refine c_reg ?_ -- region 24 numm.go:181
              refine wl (ro_assign rfl) ?_
              refine wl_nil (x_then ?_)
              refine ⟨rfl, kp _ ⟨rfl, rfl, rfl, rfl, ?_, trivial⟩⟩
              have : X % 2 ^ (k + 1) ≠ 0 := by rw [hmm, show (m * 18446744073709551616 + l) % 2 = 1 by omega]; omega
              rw [show decide (X % 2 ^ (k + 1) ≠ 0) = true by simp [this]]; rfl
            · try simp only [decide_eq_true_eq, decide_eq_false_iff_not, Bool.not_eq_true', Bool.not_eq_false', Bool.not_eq_eq_eq_not, Bool.not_true, Bool.not_false, beq_iff_eq, bne_iff_ne, ne_eq, beq_eq_false_iff_ne, bne_eq_false_iff_eq, gt_iff_lt, ge_iff_le, Int.not_lt, Int.not_le] at hc94
              refine c_skip (x_then ?_)
              refine ⟨rfl, kp _ ⟨rfl, rfl, rfl, rfl, ?_, trivial⟩⟩
              have : X % 2 ^ (k + 1) = X % 2 ^ k := by rw [hmm, show (m * 18446744073709551616 + l) % 2 = 0 by omega]; omega
              rw [this]; rfl
          rintro a' w' ⟨hw, e, rfl⟩
          rw [hw]
          clear hw w'
          refine c_seq (fun K31 hK31 => ?_)
          refine c_reg ?_ -- region 25 numm.go:183
          refine wl (ro_move rfl) ?_
          refine wl (ro_shrU (a := l) (b := 1) rfl rfl (by decide)) ?_
          refine wl (ro_move rfl) ?_
          refine wl ((show RO _ _ _ _ _ (u64c (m % 2 * 2 ^ 63)) from (show m * 2 ^ 63 % 2 ^ 64 = m % 2 * 2 ^ 63 by omega) ▸ ro_shlU (a := m) (b := 63) rfl rfl (by decide))) ?_
          refine wl (ro_orLo (a := m % 2) (k := 63) (b := l / 2 ^ 1) rfl rfl (by unfold W64; omega) (by unfold W64; omega) (by omega)) ?_
          refine wl (ro_assign rfl) ?_
          refine wl_nil (x_then (hK31 _ _ ?_))
          clear hK31 K31
          refine forget [(5, _), (16, _), (17, _), (18, _), (19, _)] ⟨rfl, rfl, rfl, rfl, rfl, trivial⟩ (fun e => ?_)
          refine c_seq (fun K32 hK32 => ?_)
          refine c_reg ?_ -- region 26 numm.go:184
          refine wl (ro_move rfl) ?_
          refine wl (ro_shrU (a := m) (b := 1) rfl rfl (by decide)) ?_
          refine wl (ro_assign rfl) ?_
          refine wl_nil (x_then (hK32 _ _ ?_))
          clear hK32 K32
          refine c_reg ?_ -- region 27 numm.go:185
          refine wl (ro_move rfl) ?_
          refine wl (ro_arith (k := .i64) (a := peW a + peW b + k) rfl rfl rfl (Go.IntWalk.i64_in _ (by omega))) ?_
          refine wl (ro_assign rfl) ?_
          refine wl_nil (x_blk (x_then ?_))
          refine ⟨m / 2 ^ 1, by omega, k + 1, l / 2 ^ 1 + m % 2 * 2 ^ 63, by omega, ?_, by omega, half_eq.trans hdd.symm, .inr (Nat.le_trans (half_ge hm0) (Nat.le_of_eq hdd.symm)), rfl, kp _ ⟨rfl, rfl, rfl, by rw [show peW a + peW b + ((k + 1 : Nat) : Int) = peW a + peW b + k + 1 by omega]; rfl, rfl, trivial⟩⟩
          have h1 : m / 2 ^ 1 * 2 ^ (k + 1) ≤ m * 2 ^ k := by
            have e : 2 ^ (k + 1) = 2 * 2 ^ k := by rw [Nat.pow_succ, Nat.mul_comm]
            rw [e, ← Nat.mul_assoc]
            exact Nat.mul_le_mul_right _ (by omega)
          omega
        · try simp only [decide_eq_true_eq, decide_eq_false_iff_not, Bool.not_eq_true', Bool.not_eq_false', Bool.not_eq_eq_eq_not, Bool.not_true, Bool.not_false, beq_iff_eq, bne_iff_ne, ne_eq, beq_eq_false_iff_ne, bne_eq_false_iff_eq, gt_iff_lt, ge_iff_le, Int.not_lt, Int.not_le] at hc91
          have hm0 : m = 0 := by omega
          subst hm0
          have hle : l = X / 2 ^ k := by omega
          rw [hngx]
          have hfin := mul_pk (k := k) ha hb hfa hfb (fun h => hc37 (.inl h)) (fun h => hc37 (.inr h)) (by rw [hXX]; exact hks)
          rw [hXX, ← hle] at hfin
          refine c_exit (x_thenX (x_thenX (x_blkX (x_then (hK27 _ _ ?_)))))
          clear hK28 K28 hK27 K27
          refine forget [(5, _), (17, _), (18, _), (19, _)] ⟨rfl, rfl, rfl, rfl, trivial⟩ (fun e => ?_)
          refine c_seq (fun K33 hK33 => ?_)
          refine c_reg ?_ -- region 28 numm.go:187
          refine wl (ro_move rfl) ?_
          refine wl (ro_move rfl) ?_
          refine wl (ro_move rfl) ?_
          refine wl (ro_move rfl) ?_
          refine wl_call rfl en_122 (pack122 (man := l) (by unfold W64; omega) (by omega) (fun h ↦ by rcases hks with h0 | h0; subst h0; simp [Nat.mod_one] at h; omega)) ?_
          rintro _ u0 ⟨rfl, hw0⟩
          rw [hw0]
          clear hw0 u0
          refine wl (ro_assign rfl) ?_
          refine wl_nil (x_then (hK33 _ _ ?_))
          clear hK33 K33
          refine c_ret ?_
          refine bp_ret Tryz.results116 rfl ?_
          exact ⟨by rw [hfin], rfl⟩

theorem div117 {w : World} {a b : Nat} (ha : W64 a) (hb : W64 b) : Ret Tryz.prog 117 [u64c a, u64c b] w (fun v w' => v = u64c (fDiv a b) ∧ w' = w) := by
  have hxw : a ^^^ b < 2 ^ 64 := Nat.xor_lt_two_pow ha hb
  replace hxw : W64 (a ^^^ b) := hxw
  have hngx := ng_xor a b ha hb
  have hma := pm_lt a
  have hmb := pm_lt b
  refine ret_of Tryz.func117 rfl Tryz.ntmps117 rfl ?_
  refine c_seq (fun K1 hK1 => ?_)
  refine c_reg ?_ -- region 0 numm.go:190
  refine wl (ro_assign rfl) ?_
  refine wl_nil (x_then (hK1 _ _ ?_))
  clear hK1 K1
  refine c_seq (fun K2 hK2 => ?_)
  refine c_seq (fun K3 hK3 => ?_)
  refine c_reg ?_ -- region 1 numm.go:191
  refine wl (ro_move rfl) ?_
  refine wl (ro_move rfl) ?_
  refine wl_call rfl en_112 (anyNaN112 ha hb) ?_
  rintro _ u0 ⟨rfl, hw0⟩
  rw [hw0]
  clear hw0 u0
  refine wl_nil (x_then (hK3 _ _ ?_))
  clear hK3 K3
  refine wc_cond rfl (fun hc15 => ?_) (fun hc15 => ?_)
  · try simp only [decide_eq_true_eq, decide_eq_false_iff_not, Bool.not_eq_true', Bool.not_eq_false', Bool.not_eq_eq_eq_not, Bool.not_true, Bool.not_false, beq_iff_eq, bne_iff_ne, ne_eq, beq_eq_false_iff_ne, bne_eq_false_iff_eq, gt_iff_lt, ge_iff_le, Int.not_lt, Int.not_le] at hc15
    refine c_seq (fun K4 hK4 => ?_)
    refine c_reg ?_ -- region 2 numm.go:192
    refine wl (ro_assign rfl) ?_
    refine wl_nil (x_then (hK4 _ _ ?_))
    clear hK4 K4
    refine c_ret (x_thenR ?_)
    refine bp_ret Tryz.results117 rfl ?_
    exact ⟨by rw [div_nan ha hb hc15]; all_goals rfl, rfl⟩
  · try simp only [decide_eq_true_eq, decide_eq_false_iff_not, Bool.not_eq_true', Bool.not_eq_false', Bool.not_eq_eq_eq_not, Bool.not_true, Bool.not_false, beq_iff_eq, bne_iff_ne, ne_eq, beq_eq_false_iff_ne, bne_eq_false_iff_eq, gt_iff_lt, ge_iff_le, Int.not_lt, Int.not_le] at hc15
    have hna : rgW a ≤ infB := by omega
    have hnb : rgW b ≤ infB := by omega
    refine c_skip (x_then (hK2 _ _ ?_))
    clear hK2 K2
    refine forget [(0, _), (1, _)] ⟨rfl, rfl, trivial⟩ (fun e => ?_)
    refine c_seq (fun K5 hK5 => ?_)
    refine c_reg ?_ -- region 3 numm.go:194
    refine wl (ro_move rfl) ?_
    refine wl (ro_move rfl) ?_
    refine wl (ro_xorUU rfl rfl ha hb) ?_
    refine wl (ro_sg rfl hxw) ?_
    refine wl (ro_assign rfl) ?_
    refine wl_nil (x_then (hK5 _ _ ?_))
    clear hK5 K5
    refine c_seq (fun K6 hK6 => ?_)
    refine c_seq (fun K7 hK7 => ?_)
    refine c_reg ?_ -- region 4 numm.go:195
    refine wl (ro_move rfl) ?_
    refine wl_call rfl en_164 (isInf164 ha) ?_
    rintro _ u0 ⟨rfl, hw0⟩
    rw [hw0]
    clear hw0 u0
    refine wl_nil (x_then (hK7 _ _ ?_))
    clear hK7 K7
    refine wc_cond rfl (fun hc21 => ?_) (fun hc21 => ?_)
    · try simp only [decide_eq_true_eq, decide_eq_false_iff_not, Bool.not_eq_true', Bool.not_eq_false', Bool.not_eq_eq_eq_not, Bool.not_true, Bool.not_false, beq_iff_eq, bne_iff_ne, ne_eq, beq_eq_false_iff_ne, bne_eq_false_iff_eq, gt_iff_lt, ge_iff_le, Int.not_lt, Int.not_le] at hc21
      refine c_seq (fun K8 hK8 => ?_)
      refine c_seq (fun K9 hK9 => ?_)
      refine c_reg ?_ -- region 5 numm.go:196
      refine wl (ro_move rfl) ?_
      refine wl_call rfl en_164 (isInf164 hb) ?_
      rintro _ u0 ⟨rfl, hw0⟩
      rw [hw0]
      clear hw0 u0
      refine wl_nil (x_then (hK9 _ _ ?_))
      clear hK9 K9
      refine wc_cond rfl (fun hc23 => ?_) (fun hc23 => ?_)
      · try simp only [decide_eq_true_eq, decide_eq_false_iff_not, Bool.not_eq_true', Bool.not_eq_false', Bool.not_eq_eq_eq_not, Bool.not_true, Bool.not_false, beq_iff_eq, bne_iff_ne, ne_eq, beq_eq_false_iff_ne, bne_eq_false_iff_eq, gt_iff_lt, ge_iff_le, Int.not_lt, Int.not_le] at hc23
        refine c_seq (fun K10 hK10 => ?_)
        refine c_reg ?_ -- region 6 numm.go:197
        refine wl (ro_assign rfl) ?_
        refine wl_nil (x_then (hK10 _ _ ?_))
        clear hK10 K10
        refine c_ret (x_thenR (x_thenR ?_))
        refine bp_ret Tryz.results117 rfl ?_
        exact ⟨by rw [div_inf_lr ha hb hc21 hc23]; all_goals rfl, rfl⟩
      · try simp only [decide_eq_true_eq, decide_eq_false_iff_not, Bool.not_eq_true', Bool.not_eq_false', Bool.not_eq_eq_eq_not, Bool.not_true, Bool.not_false, beq_iff_eq, bne_iff_ne, ne_eq, beq_eq_false_iff_ne, bne_eq_false_iff_eq, gt_iff_lt, ge_iff_le, Int.not_lt, Int.not_le] at hc23
        refine c_skip (x_then (hK8 _ _ ?_))
        clear hK8 K8
        refine forget [(5, _)] ⟨rfl, trivial⟩ (fun e => ?_)
        refine c_seq (fun K11 hK11 => ?_)
        refine c_reg ?_ -- region 7 numm.go:199
        refine wl (ro_move rfl) ?_
        refine wl (ro_orSg (r := infB) rfl rfl (by decide)) ?_
        refine wl (ro_assign rfl) ?_
        refine wl_nil (x_then (hK11 _ _ ?_))
        clear hK11 K11
        refine c_ret (x_thenR ?_)
        refine bp_ret Tryz.results117 rfl ?_
        exact ⟨by rw [div_inf_l ha hb hc21 (by omega), hngx], rfl⟩
    · try simp only [decide_eq_true_eq, decide_eq_false_iff_not, Bool.not_eq_true', Bool.not_eq_false', Bool.not_eq_eq_eq_not, Bool.not_true, Bool.not_false, beq_iff_eq, bne_iff_ne, ne_eq, beq_eq_false_iff_ne, bne_eq_false_iff_eq, gt_iff_lt, ge_iff_le, Int.not_lt, Int.not_le] at hc21
      have hfa : rgW a < infB := by omega
      refine c_skip (x_then (hK6 _ _ ?_))
      clear hK6 K6
      refine c_seq (fun K12 hK12 => ?_)
      refine c_seq (fun K13 hK13 => ?_)
      refine c_reg ?_ -- region 8 numm.go:201
      refine wl (ro_move rfl) ?_
      refine wl_call rfl en_164 (isInf164 hb) ?_
      rintro _ u0 ⟨rfl, hw0⟩
      rw [hw0]
      clear hw0 u0
      refine wl_nil (x_then (hK13 _ _ ?_))
      clear hK13 K13
      refine wc_cond rfl (fun hc27 => ?_) (fun hc27 => ?_)
      · try simp only [decide_eq_true_eq, decide_eq_false_iff_not, Bool.not_eq_true', Bool.not_eq_false', Bool.not_eq_eq_eq_not, Bool.not_true, Bool.not_false, beq_iff_eq, bne_iff_ne, ne_eq, beq_eq_false_iff_ne, bne_eq_false_iff_eq, gt_iff_lt, ge_iff_le, Int.not_lt, Int.not_le] at hc27
        refine c_seq (fun K14 hK14 => ?_)
        refine c_reg ?_ -- region 9 numm.go:202
        refine wl (ro_move rfl) ?_
        refine wl (ro_assign rfl) ?_
        refine wl_nil (x_then (hK14 _ _ ?_))
        clear hK14 K14
        refine c_ret (x_thenR ?_)
        refine bp_ret Tryz.results117 rfl ?_
        exact ⟨by rw [div_inf_r ha hb hfa hc27, ← hngx], rfl⟩
      · try simp only [decide_eq_true_eq, decide_eq_false_iff_not, Bool.not_eq_true', Bool.not_eq_false', Bool.not_eq_eq_eq_not, Bool.not_true, Bool.not_false, beq_iff_eq, bne_iff_ne, ne_eq, beq_eq_false_iff_ne, bne_eq_false_iff_eq, gt_iff_lt, ge_iff_le, Int.not_lt, Int.not_le] at hc27
        have hfb : rgW b < infB := by omega
        refine c_skip (x_then (hK12 _ _ ?_))
        clear hK12 K12
        refine c_seq (fun K15 hK15 => ?_)
        refine c_seq (fun K16 hK16 => ?_)
        refine c_reg ?_ -- region 10 numm.go:204
        refine wl (ro_move rfl) ?_
        refine wl_call rfl en_165 (isZero165 hb) ?_
        rintro _ u0 ⟨rfl, hw0⟩
        rw [hw0]
        clear hw0 u0
        refine wl_nil (x_then (hK16 _ _ ?_))
        clear hK16 K16
        refine wc_cond rfl (fun hc30 => ?_) (fun hc30 => ?_)
        · try simp only [decide_eq_true_eq, decide_eq_false_iff_not, Bool.not_eq_true', Bool.not_eq_false', Bool.not_eq_eq_eq_not, Bool.not_true, Bool.not_false, beq_iff_eq, bne_iff_ne, ne_eq, beq_eq_false_iff_ne, bne_eq_false_iff_eq, gt_iff_lt, ge_iff_le, Int.not_lt, Int.not_le] at hc30
          refine c_seq (fun K17 hK17 => ?_)
          refine c_seq (fun K18 hK18 => ?_)
          refine c_reg ?_ -- region 11 numm.go:205
          refine wl (ro_move rfl) ?_
          refine wl_call rfl en_165 (isZero165 ha) ?_
          rintro _ u0 ⟨rfl, hw0⟩
          rw [hw0]
          clear hw0 u0
          refine wl_nil (x_then (hK18 _ _ ?_))
          clear hK18 K18
          refine wc_cond rfl (fun hc32 => ?_) (fun hc32 => ?_)
          · try simp only [decide_eq_true_eq, decide_eq_false_iff_not, Bool.not_eq_true', Bool.not_eq_false', Bool.not_eq_eq_eq_not, Bool.not_true, Bool.not_false, beq_iff_eq, bne_iff_ne, ne_eq, beq_eq_false_iff_ne, bne_eq_false_iff_eq, gt_iff_lt, ge_iff_le, Int.not_lt, Int.not_le] at hc32
            refine c_seq (fun K19 hK19 => ?_)
            refine c_reg ?_ -- region 12 numm.go:206
            refine wl (ro_assign rfl) ?_
            refine wl_nil (x_then (hK19 _ _ ?_))
            clear hK19 K19
            refine c_ret (x_thenR (x_thenR ?_))
            refine bp_ret Tryz.results117 rfl ?_
            exact ⟨by rw [div_zero_r ha hb hfa hc30, if_pos hc32]; all_goals rfl, rfl⟩
          · try simp only [decide_eq_true_eq, decide_eq_false_iff_not, Bool.not_eq_true', Bool.not_eq_false', Bool.not_eq_eq_eq_not, Bool.not_true, Bool.not_false, beq_iff_eq, bne_iff_ne, ne_eq, beq_eq_false_iff_ne, bne_eq_false_iff_eq, gt_iff_lt, ge_iff_le, Int.not_lt, Int.not_le] at hc32
            refine c_skip (x_then (hK17 _ _ ?_))
            clear hK17 K17
            refine forget [(5, _)] ⟨rfl, trivial⟩ (fun e => ?_)
            refine c_seq (fun K20 hK20 => ?_)
            refine c_reg ?_ -- region 13 numm.go:208
            refine wl (ro_move rfl) ?_
            refine wl (ro_orSg (r := infB) rfl rfl (by decide)) ?_
            refine wl (ro_assign rfl) ?_
            refine wl_nil (x_then (hK20 _ _ ?_))
            clear hK20 K20
            refine c_ret (x_thenR ?_)
            refine bp_ret Tryz.results117 rfl ?_
            exact ⟨by rw [div_zero_r ha hb hfa hc30, if_neg hc32, hngx], rfl⟩
        · try simp only [decide_eq_true_eq, decide_eq_false_iff_not, Bool.not_eq_true', Bool.not_eq_false', Bool.not_eq_eq_eq_not, Bool.not_true, Bool.not_false, beq_iff_eq, bne_iff_ne, ne_eq, beq_eq_false_iff_ne, bne_eq_false_iff_eq, gt_iff_lt, ge_iff_le, Int.not_lt, Int.not_le] at hc30
          refine c_skip (x_then (hK15 _ _ ?_))
          clear hK15 K15
          refine c_seq (fun K21 hK21 => ?_)
          refine c_seq (fun K22 hK22 => ?_)
          refine c_reg ?_ -- region 14 numm.go:210
          refine wl (ro_move rfl) ?_
          refine wl_call rfl en_165 (isZero165 ha) ?_
          rintro _ u0 ⟨rfl, hw0⟩
          rw [hw0]
          clear hw0 u0
          refine wl_nil (x_then (hK22 _ _ ?_))
          clear hK22 K22
          refine wc_cond rfl (fun hc36 => ?_) (fun hc36 => ?_)
          · try simp only [decide_eq_true_eq, decide_eq_false_iff_not, Bool.not_eq_true', Bool.not_eq_false', Bool.not_eq_eq_eq_not, Bool.not_true, Bool.not_false, beq_iff_eq, bne_iff_ne, ne_eq, beq_eq_false_iff_ne, bne_eq_false_iff_eq, gt_iff_lt, ge_iff_le, Int.not_lt, Int.not_le] at hc36
            refine c_seq (fun K23 hK23 => ?_)
            refine c_reg ?_ -- region 15 numm.go:211
            refine wl (ro_move rfl) ?_
            refine wl (ro_assign rfl) ?_
            refine wl_nil (x_then (hK23 _ _ ?_))
            clear hK23 K23
            refine c_ret (x_thenR ?_)
            refine bp_ret Tryz.results117 rfl ?_
            exact ⟨by rw [div_zero_l ha hb hc36 hfb hc30, ← hngx], rfl⟩
          · try simp only [decide_eq_true_eq, decide_eq_false_iff_not, Bool.not_eq_true', Bool.not_eq_false', Bool.not_eq_eq_eq_not, Bool.not_true, Bool.not_false, beq_iff_eq, bne_iff_ne, ne_eq, beq_eq_false_iff_ne, bne_eq_false_iff_eq, gt_iff_lt, ge_iff_le, Int.not_lt, Int.not_le] at hc36
            have hpa := pe_ge a
            have hpb := pe_ge b
            have hla := pe_le hfa
            have hlb := pe_le hfb
            have hza : pmW a ≠ 0 := fun c => hc36 (pm_zero.1 c)
            have hzb : pmW b ≠ 0 := fun c => hc30 (pm_zero.1 c)
            refine c_skip (x_then (hK21 _ _ ?_))
            clear hK21 K21
            refine forget [(0, _), (1, _), (5, _)] ⟨rfl, rfl, rfl, trivial⟩ (fun e => ?_)
            refine c_seq (fun K24 hK24 => ?_)
            refine c_reg ?_ -- region 16 numm.go:213
            refine wl (ro_move rfl) ?_
            refine wl_call rfl en_166 (parts166 ha) ?_
            rintro _ u0 ⟨rfl, hw0⟩
            rw [hw0]
            clear hw0 u0
            refine wl (ro_move rfl) ?_
            refine wl (ro_extract rfl rfl) ?_
            refine wl (ro_extract rfl rfl) ?_
            refine wl (ro_assign rfl) ?_
            refine wl (ro_assign rfl) ?_
            refine wl_nil (x_then (hK24 _ _ ?_))
            clear hK24 K24
            refine forget [(1, _), (5, _), (6, _), (7, _)] ⟨rfl, rfl, rfl, rfl, trivial⟩ (fun e => ?_)
            refine c_seq (fun K25 hK25 => ?_)
            refine c_reg ?_ -- region 17 numm.go:214
            refine wl (ro_move rfl) ?_
            refine wl_call rfl en_166 (parts166 hb) ?_
            rintro _ u0 ⟨rfl, hw0⟩
            rw [hw0]
            clear hw0 u0
            refine wl (ro_move rfl) ?_
            refine wl (ro_extract rfl rfl) ?_
            refine wl (ro_extract rfl rfl) ?_
            refine wl (ro_assign rfl) ?_
            refine wl (ro_assign rfl) ?_
            refine wl_nil (x_then (hK25 _ _ ?_))
            clear hK25 K25
            refine forget [(5, _), (6, _), (7, _), (8, _), (9, _)] ⟨rfl, rfl, rfl, rfl, rfl, trivial⟩ (fun e => ?_)
            refine c_seq (fun K26 hK26 => ?_)
            refine c_block ?_
            -- loop@r18: live slots [5, 6, 7, 8, 9]
            refine c_loopG (fun m a' w' => ∃ k A, A = pmW a * 2 ^ k ∧ k ≤ 52 ∧ A < 9007199254740992 ∧ m = 52 - k ∧ w' = w ∧ ∃ e, a' = Fr 86 (upds e [(5, u64c (sgB (ngW (a ^^^ b)))), (6, u64c A), (7, icv (peW a - k)), (8, u64c (pmW b)), (9, icv (peW b))]) []) 52 ⟨0, pmW a, by simp, by omega, hma, by omega, rfl, kp _ ⟨rfl, rfl, by rw [show peW a - ((0 : Nat) : Int) = peW a by omega]; rfl, rfl, rfl, trivial⟩⟩ ?_
            rintro m a' w' ⟨j, A, hA, hj, hAlt, hmj, hw, e, rfl⟩
            rw [hw]
            clear hw w'
            refine c_seq (fun K27 hK27 => ?_)
            refine c_seq (fun K28 hK28 => ?_)
            refine c_reg ?_ -- region 18 numm.go:215
            refine wl (ro_move rfl) ?_
            refine wl (ro_cmpU rfl rfl rfl) ?_
            refine wl_nil (x_then (hK28 _ _ ?_))
            clear hK28 K28
            refine wc_cond rfl (fun hc49 => ?_) (fun hc49 => ?_)
            · try simp only [decide_eq_true_eq, decide_eq_false_iff_not, Bool.not_eq_true', Bool.not_eq_false', Bool.not_eq_eq_eq_not, Bool.not_true, Bool.not_false, beq_iff_eq, bne_iff_ne, ne_eq, beq_eq_false_iff_ne, bne_eq_false_iff_eq, gt_iff_lt, ge_iff_le, Int.not_lt, Int.not_le] at hc49
              have hj52 : j < 52 := by
                rcases Nat.lt_or_ge j 52 with h | h
                · exact h
                · exfalso
                  have e52 : j = 52 := by omega
                  subst e52
                  have := Nat.mul_le_mul_right (2 ^ 52) (show 1 ≤ pmW a by omega)
                  omega
              have hp : A * 2 ^ 1 = pmW a * 2 ^ (j + 1) := by rw [hA, Nat.mul_assoc, ← Nat.pow_add]
              refine c_skip (x_then (hK27 _ _ ?_))
              clear hK27 K27
              refine c_block ?_
              refine forget [(5, _), (6, _), (7, _), (8, _), (9, _)] ⟨rfl, rfl, rfl, rfl, rfl, trivial⟩ (fun e => ?_)
              refine c_seq (fun K29 hK29 => ?_)
              refine c_reg ?_ -- region 19 numm.go:216
              refine wl (ro_move rfl) ?_
              refine wl (ro_shlX (a := A) (b := 1) rfl rfl (by decide) (by unfold W64; omega)) ?_
              refine wl (ro_assign rfl) ?_
              refine wl_nil (x_then (hK29 _ _ ?_))
              clear hK29 K29
              refine c_reg ?_ -- region 20 numm.go:217
              refine wl (ro_move rfl) ?_
              refine wl (ro_arith (k := .i64) (a := peW a - j) rfl rfl rfl (Go.IntWalk.i64_in _ (by omega))) ?_
              refine wl (ro_assign rfl) ?_
              refine wl_nil (x_blk (x_then ?_))
              exact ⟨52 - (j + 1), by omega, j + 1, A * 2 ^ 1, hp, by omega, by omega, rfl, rfl, kp _ ⟨rfl, rfl, by rw [show peW a - ((j + 1 : Nat) : Int) = peW a - j - 1 by omega]; rfl, rfl, rfl, trivial⟩⟩
            · try simp only [decide_eq_true_eq, decide_eq_false_iff_not, Bool.not_eq_true', Bool.not_eq_false', Bool.not_eq_eq_eq_not, Bool.not_true, Bool.not_false, beq_iff_eq, bne_iff_ne, ne_eq, beq_eq_false_iff_ne, bne_eq_false_iff_eq, gt_iff_lt, ge_iff_le, Int.not_lt, Int.not_le] at hc49
              have hAge : 4503599627370496 ≤ A := by omega
              refine c_exit (x_thenX (x_thenX (x_blkX (x_then (hK26 _ _ ?_)))))
              clear hK27 K27 hK26 K26
              refine forget [(5, _), (6, _), (7, _), (8, _), (9, _)] ⟨rfl, rfl, rfl, rfl, rfl, trivial⟩ (fun e => ?_)
              refine c_seq (fun K30 hK30 => ?_)
              refine c_block ?_
              -- loop@r21: live slots [5, 6, 7, 8, 9]
              refine c_loopG (fun m a' w' => ∃ k B, B = pmW b * 2 ^ k ∧ k ≤ 52 ∧ B < 9007199254740992 ∧ m = 52 - k ∧ w' = w ∧ ∃ e, a' = Fr 86 (upds e [(5, u64c (sgB (ngW (a ^^^ b)))), (6, u64c A), (7, icv (peW a - j)), (8, u64c B), (9, icv (peW b - k))]) []) 52 ⟨0, pmW b, by simp, by omega, hmb, by omega, rfl, kp _ ⟨rfl, rfl, rfl, rfl, by rw [show peW b - ((0 : Nat) : Int) = peW b by omega]; rfl, trivial⟩⟩ ?_
              clear hmj m
              rintro m a' w' ⟨k, B, hB, hk, hBlt, hmk, hw, e, rfl⟩
              rw [hw]
              clear hw w'
              refine c_seq (fun K31 hK31 => ?_)
              refine c_seq (fun K32 hK32 => ?_)
              refine c_reg ?_ -- region 21 numm.go:219
              refine wl (ro_move rfl) ?_
              refine wl (ro_cmpU rfl rfl rfl) ?_
              refine wl_nil (x_then (hK32 _ _ ?_))
              clear hK32 K32
              refine wc_cond rfl (fun hc55 => ?_) (fun hc55 => ?_)
              · try simp only [decide_eq_true_eq, decide_eq_false_iff_not, Bool.not_eq_true', Bool.not_eq_false', Bool.not_eq_eq_eq_not, Bool.not_true, Bool.not_false, beq_iff_eq, bne_iff_ne, ne_eq, beq_eq_false_iff_ne, bne_eq_false_iff_eq, gt_iff_lt, ge_iff_le, Int.not_lt, Int.not_le] at hc55
                have hk52 : k < 52 := by
                  rcases Nat.lt_or_ge k 52 with h | h
                  · exact h
                  · exfalso
                    have e52 : k = 52 := by omega
                    subst e52
                    have := Nat.mul_le_mul_right (2 ^ 52) (show 1 ≤ pmW b by omega)
                    omega
                have hp : B * 2 ^ 1 = pmW b * 2 ^ (k + 1) := by rw [hB, Nat.mul_assoc, ← Nat.pow_add]
                refine c_skip (x_then (hK31 _ _ ?_))
                clear hK31 K31
                refine c_block ?_
                refine forget [(5, _), (6, _), (7, _), (8, _), (9, _)] ⟨rfl, rfl, rfl, rfl, rfl, trivial⟩ (fun e => ?_)
                refine c_seq (fun K33 hK33 => ?_)
                refine c_reg ?_ -- region 22 numm.go:220
                refine wl (ro_move rfl) ?_
                refine wl (ro_shlX (a := B) (b := 1) rfl rfl (by decide) (by unfold W64; omega)) ?_
                refine wl (ro_assign rfl) ?_
                refine wl_nil (x_then (hK33 _ _ ?_))
                clear hK33 K33
                refine c_reg ?_ -- region 23 numm.go:221
                refine wl (ro_move rfl) ?_
                refine wl (ro_arith (k := .i64) (a := peW b - k) rfl rfl rfl (Go.IntWalk.i64_in _ (by omega))) ?_
                refine wl (ro_assign rfl) ?_
                refine wl_nil (x_blk (x_then ?_))
                exact ⟨52 - (k + 1), by omega, k + 1, B * 2 ^ 1, hp, by omega, by omega, rfl, rfl, kp _ ⟨rfl, rfl, rfl, rfl, by rw [show peW b - ((k + 1 : Nat) : Int) = peW b - k - 1 by omega]; rfl, trivial⟩⟩
              · try simp only [decide_eq_true_eq, decide_eq_false_iff_not, Bool.not_eq_true', Bool.not_eq_false', Bool.not_eq_eq_eq_not, Bool.not_true, Bool.not_false, beq_iff_eq, bne_iff_ne, ne_eq, beq_eq_false_iff_ne, bne_eq_false_iff_eq, gt_iff_lt, ge_iff_le, Int.not_lt, Int.not_le] at hc55
                have hBge : 4503599627370496 ≤ B := by omega
                refine c_exit (x_thenX (x_thenX (x_blkX (x_then (hK30 _ _ ?_)))))
                clear hK31 K31 hK30 K30
                refine forget [(5, _), (6, _), (7, _), (8, _), (9, _)] ⟨rfl, rfl, rfl, rfl, rfl, trivial⟩ (fun e => ?_)
                refine c_seq (fun K34 hK34 => ?_)
                refine c_reg ?_ -- region 24 numm.go:223
                refine wl (ro_assign rfl) ?_
                refine wl_nil (x_then (hK34 _ _ ?_))
                clear hK34 K34
                refine forget [(5, _), (6, _), (7, _), (8, _), (9, _), (10, _)] ⟨rfl, rfl, rfl, rfl, rfl, rfl, trivial⟩ (fun e => ?_)
                refine c_seq (fun K35 hK35 => ?_)
                refine c_reg ?_ -- region 25 numm.go:224
                refine wl (ro_move rfl) ?_
                refine wl (ro_assign rfl) ?_
                refine wl_nil (x_then (hK35 _ _ ?_))
                clear hK35 K35
                refine c_seq (fun K36 hK36 => ?_)
                refine c_seq (fun K37 hK37 => ?_)
                refine c_reg ?_ -- region 26 numm.go:225
                refine wl (ro_assign rfl) ?_
                refine wl_nil (x_then (hK37 _ _ ?_))
                clear hK37 K37
                refine c_block ?_
                -- loop@r27: live slots [5, 7, 8, 9, 10, 11, 12]
                refine c_loopG (fun m a' w' => ∃ i q r, m = 63 - i ∧ i ≤ 63 ∧ q < 2 ^ i ∧ r < 2 * B ∧ A * 2 ^ i = 2 * (q * B) + r ∧ w' = w ∧ ∃ e, a' = Fr 86 (upds e [(5, u64c (sgB (ngW (a ^^^ b)))), (7, icv (peW a - j)), (8, u64c B), (9, icv (peW b - k)), (10, u64c q), (11, u64c r), (12, i64c i)]) []) 63 ⟨0, 0, A, by omega, by omega, by decide, by omega, by simp, rfl, kp _ ⟨rfl, rfl, rfl, rfl, rfl, rfl, rfl, trivial⟩⟩ ?_
                clear hmk m
                rintro m a' w' ⟨i, q, r, hmi, hi, hq, hr, hinv, hw, e, rfl⟩
                rw [hw]
                clear hw w'
                refine c_seq (fun K38 hK38 => ?_)
                refine c_seq (fun K39 hK39 => ?_)
                refine c_reg ?_ -- region 27 numm.go:225
                refine wl (ro_move rfl) ?_
                refine wl (ro_cmp (k := .i64) (a := (i : Int)) rfl rfl rfl) ?_
                refine wl_nil (x_then (hK39 _ _ ?_))
                clear hK39 K39
                refine wc_cond rfl (fun hc62 => ?_) (fun hc62 => ?_)
                · try simp only [decide_eq_true_eq, decide_eq_false_iff_not, Bool.not_eq_true', Bool.not_eq_false', Bool.not_eq_eq_eq_not, Bool.not_true, Bool.not_false, beq_iff_eq, bne_iff_ne, ne_eq, beq_eq_false_iff_ne, bne_eq_false_iff_eq, gt_iff_lt, ge_iff_le, Int.not_lt, Int.not_le] at hc62
                  have hi63 : i < 63 := by omega
                  have hq62 : q < 4611686018427387904 := Nat.lt_of_lt_of_le hq (Nat.pow_le_pow_right (n := 2) (j := 62) (by omega) (by omega))
                  have hpi : A * 2 ^ (i + 1) = 2 * (A * 2 ^ i) := by rw [Nat.pow_succ, Nat.mul_comm 2, Nat.mul_assoc]
                  have hqi : 2 ^ (i + 1) = 2 * 2 ^ i := by rw [Nat.pow_succ, Nat.mul_comm]
                  refine c_skip (x_then (hK38 _ _ ?_))
                  clear hK38 K38
                  refine forget [(5, _), (7, _), (8, _), (9, _), (10, _), (11, _), (12, _)] ⟨rfl, rfl, rfl, rfl, rfl, rfl, rfl, trivial⟩ (fun e => ?_)
                  refine c_seq (fun K40 hK40 => ?_)
                  refine c_block ?_
                  refine c_seq (fun K41 hK41 => ?_)
                  refine c_reg ?_ -- region 29 numm.go:226
                  refine wl (ro_move rfl) ?_
                  refine wl (ro_shlX (a := q) (b := 1) rfl rfl (by decide) (by unfold W64; omega)) ?_
                  refine wl (ro_assign rfl) ?_
                  refine wl_nil (x_then (hK41 _ _ ?_))
                  clear hK41 K41
                  refine c_mid (fun a' w' => w' = w ∧ ∃ q' r1, q' < 2 ^ (i + 1) ∧ r1 < B ∧ A * 2 ^ (i + 1) = 2 * (q' * B) + 2 * r1 ∧ ∃ e, a' = Fr 86 (upds e [(5, u64c (sgB (ngW (a ^^^ b)))), (7, icv (peW a - j)), (8, u64c B), (9, icv (peW b - k)), (10, u64c q'), (11, u64c r1), (12, i64c i)]) []) ?_ ?_
                  · skip
                    refine c_seq (fun K42 hK42 => ?_)
                    refine c_reg ?_ -- region 30 numm.go:227
                    refine wl (ro_move rfl) ?_
                    refine wl (ro_move rfl) ?_
                    refine wl (ro_cmpU rfl rfl rfl) ?_
                    refine wl_nil (x_then (hK42 _ _ ?_))
                    clear hK42 K42
                    refine wc_cond rfl (fun hc69 => ?_) (fun hc69 => ?_)
                    · try simp only [decide_eq_true_eq, decide_eq_false_iff_not, Bool.not_eq_true', Bool.not_eq_false', Bool.not_eq_eq_eq_not, Bool.not_true, Bool.not_false, beq_iff_eq, bne_iff_ne, ne_eq, beq_eq_false_iff_ne, bne_eq_false_iff_eq, gt_iff_lt, ge_iff_le, Int.not_lt, Int.not_le] at hc69
                      refine c_seq (fun K43 hK43 => ?_)
                      refine c_reg ?_ -- region 31 numm.go:228
                      refine wl (ro_move rfl) ?_
                      refine wl (ro_move rfl) ?_
                      refine wl (ro_subU (a := r) (b := B) rfl rfl (by omega) (by unfold W64; omega)) ?_
                      refine wl (ro_assign rfl) ?_
                      refine wl_nil (x_then (hK43 _ _ ?_))
                      clear hK43 K43
                      refine c_reg ?_ -- region 32 numm.go:229
                      refine wl (ro_move rfl) ?_
                      refine wl (ro_orHi (a := q) (k := 1) (b := 1) rfl rfl (by unfold W64; omega) (by decide) (by decide)) ?_
                      refine wl (ro_assign rfl) ?_
                      refine wl_nil (x_then ?_)
                      refine ⟨rfl, q * 2 ^ 1 + 1, r - B, by omega, by omega, ?_, kp _ ⟨rfl, rfl, rfl, rfl, rfl, rfl, rfl, trivial⟩⟩
                      rw [hpi, hinv, Nat.add_mul, Nat.mul_assoc, Nat.mul_left_comm q (2 ^ 1) B]
                      omega
                    · try simp only [decide_eq_true_eq, decide_eq_false_iff_not, Bool.not_eq_true', Bool.not_eq_false', Bool.not_eq_eq_eq_not, Bool.not_true, Bool.not_false, beq_iff_eq, bne_iff_ne, ne_eq, beq_eq_false_iff_ne, bne_eq_false_iff_eq, gt_iff_lt, ge_iff_le, Int.not_lt, Int.not_le] at hc69
                      refine c_skip (x_then ?_)
                      refine ⟨rfl, q * 2 ^ 1, r, by omega, by omega, ?_, kp _ ⟨rfl, rfl, rfl, rfl, rfl, rfl, rfl, trivial⟩⟩
                      rw [hpi, hinv, Nat.mul_assoc, Nat.mul_left_comm q (2 ^ 1) B]
                      omega
                  rintro a' w' ⟨hw, q', r1, hq', hr1, hinv', e, rfl⟩
                  rw [hw]
                  clear hw w'
                  refine c_reg ?_ -- region 33 numm.go:231
                  refine wl (ro_move rfl) ?_
                  refine wl (ro_shlX (a := r1) (b := 1) rfl rfl (by decide) (by unfold W64; omega)) ?_
                  refine wl (ro_assign rfl) ?_
                  refine wl_nil (x_blk (x_then (hK40 _ _ ?_)))
                  clear hK40 K40
                  refine c_reg ?_ -- region 28 numm.go:225
                  refine wl (ro_move rfl) ?_
                  refine wl (ro_arith (k := .i64) (a := (i : Int)) (r := ((i + 1 : Nat) : Int)) rfl rfl (by show some ((i : Int) + 1) = _; congr 1) (Go.IntWalk.i64_in _ (by omega))) ?_
                  refine wl (ro_assign rfl) ?_
                  refine wl_nil (x_then ?_)
                  exact ⟨63 - (i + 1), by omega, i + 1, q', r1 * 2 ^ 1, rfl, by omega, hq', by omega, by omega, rfl, kp _ ⟨rfl, rfl, rfl, rfl, rfl, rfl, rfl, trivial⟩⟩
                · try simp only [decide_eq_true_eq, decide_eq_false_iff_not, Bool.not_eq_true', Bool.not_eq_false', Bool.not_eq_eq_eq_not, Bool.not_true, Bool.not_false, beq_iff_eq, bne_iff_ne, ne_eq, beq_eq_false_iff_ne, bne_eq_false_iff_eq, gt_iff_lt, ge_iff_le, Int.not_lt, Int.not_le] at hc62
                  have hi63 : i = 63 := by omega
                  subst hi63
                  obtain ⟨r1, hr1⟩ : ∃ r1, r = 2 * r1 := ⟨r / 2, by omega⟩
                  subst hr1
                  have hdm : A * 2 ^ 62 = r1 + B * q := hd62 hinv
                  have hBp : 0 < B := by omega
                  have hqe : A * 2 ^ 62 / B = q := by rw [hdm, Nat.add_mul_div_left _ _ hBp, Nat.div_eq_of_lt (by omega), Nat.zero_add]
                  have hre : A * 2 ^ 62 % B = r1 := by rw [hdm, Nat.add_mul_mod_self_left, Nat.mod_eq_of_lt (by omega)]
                  have hq61 : 2305843009213693952 ≤ q := by
                    rw [← hqe, Nat.le_div_iff_mul_le hBp]
                    omega
                  have hfin := div_fin ha hb hfa hfb hc36 hc30 A B j k hA hB hAge hAlt hBge hBlt (peW a - j - (peW b - k) - 62) rfl
                  rw [hqe, hre] at hfin
                  rw [hngx]
                  refine c_exit (x_thenX (x_thenX (x_blkX (x_then (hK36 _ _ ?_)))))
                  clear hK38 K38 hK36 K36
                  refine forget [(5, _), (7, _), (9, _), (10, _), (11, _)] ⟨rfl, rfl, rfl, rfl, rfl, trivial⟩ (fun e => ?_)
                  refine c_seq (fun K44 hK44 => ?_)
                  refine c_reg ?_ -- region 34 numm.go:233
                  refine wl (ro_move rfl) ?_
                  refine wl (ro_move rfl) ?_
                  refine wl (ro_move rfl) ?_
                  refine wl (ro_move rfl) ?_
                  refine wl (ro_arith (k := .i64) (a := peW a - j) (b := peW b - k) rfl rfl rfl (Go.IntWalk.i64_in _ (by omega))) ?_
                  refine wl (ro_arith (k := .i64) (a := peW a - j - (peW b - k)) rfl rfl rfl (Go.IntWalk.i64_in _ (by omega))) ?_
                  refine wl (ro_move rfl) ?_
                  refine wl (ro_cmpU rfl rfl rfl) ?_
                  refine wl_call rfl en_122 (pack122 (man := q) (by unfold W64; omega) (by omega) (fun h ↦ by omega)) ?_
                  rintro _ u0 ⟨rfl, hw0⟩
                  rw [hw0]
                  clear hw0 u0
                  refine wl (ro_assign rfl) ?_
                  refine wl_nil (x_then (hK44 _ _ ?_))
                  clear hK44 K44
                  refine c_ret ?_
                  refine bp_ret Tryz.results117 rfl ?_
                  refine ⟨?_, rfl⟩
                  rw [hfin]
                  by_cases c : r1 = 0
                  · subst c; rw [if_pos rfl, ← pkS_f]; rfl
                  · rw [if_neg c, ← pkS_t _ _ _ (by omega)]
                    have : decide (2 * r1 ≠ 0) = true := by simp; omega
                    rw [this]

theorem floor118 {w : World} {x : Nat} (hx : W64 x) : Ret Tryz.prog 118 [u64c x] w (fun v w' => v = u64c (fFlr x) ∧ w' = w) := by
  have hmx := pm_lt x
  refine ret_of Tryz.func118 rfl Tryz.ntmps118 rfl ?_
  refine c_seq (fun K1 hK1 => ?_)
  refine c_reg ?_ -- region 0 numm.go:236
  refine wl (ro_assign rfl) ?_
  refine wl_nil (x_then (hK1 _ _ ?_))
  clear hK1 K1
  refine c_seq (fun K2 hK2 => ?_)
  refine c_seq (fun K3 hK3 => ?_)
  refine c_reg ?_ -- region 1 numm.go:237
  refine wl (ro_move rfl) ?_
  refine wl_call rfl en_169 (isNaN169 hx) ?_
  rintro _ u0 ⟨rfl, hw0⟩
  rw [hw0]
  clear hw0 u0
  refine wl_nil (x_then (hK3 _ _ ?_))
  clear hK3 K3
  refine wc_cond rfl (fun hc8 => ?_) (fun hc8 => ?_)
  · try simp only [decide_eq_true_eq, decide_eq_false_iff_not, Bool.not_eq_true', Bool.not_eq_false', Bool.not_eq_eq_eq_not, Bool.not_true, Bool.not_false, beq_iff_eq, bne_iff_ne, ne_eq, beq_eq_false_iff_ne, bne_eq_false_iff_eq, gt_iff_lt, ge_iff_le, Int.not_lt, Int.not_le] at hc8
    refine c_seq (fun K4 hK4 => ?_)
    refine c_reg ?_ -- region 2 numm.go:238
    refine wl (ro_assign rfl) ?_
    refine wl_nil (x_then (hK4 _ _ ?_))
    clear hK4 K4
    refine c_ret (x_thenR ?_)
    refine bp_ret Tryz.results118 rfl ?_
    exact ⟨by rw [flr_nan hc8]; all_goals rfl, rfl⟩
  · try simp only [decide_eq_true_eq, decide_eq_false_iff_not, Bool.not_eq_true', Bool.not_eq_false', Bool.not_eq_eq_eq_not, Bool.not_true, Bool.not_false, beq_iff_eq, bne_iff_ne, ne_eq, beq_eq_false_iff_ne, bne_eq_false_iff_eq, gt_iff_lt, ge_iff_le, Int.not_lt, Int.not_le] at hc8
    have hna : rgW x ≤ infB := by unfold isNaNW at hc8; simp at hc8; omega
    refine c_skip (x_then (hK2 _ _ ?_))
    clear hK2 K2
    refine c_seq (fun K5 hK5 => ?_)
    refine c_seq (fun K6 hK6 => ?_)
    refine c_reg ?_ -- region 3 numm.go:240
    refine wl (ro_move rfl) ?_
    refine wl (ro_hi rfl (by assumption)) ?_
    refine wl (ro_cmpU rfl rfl rfl) ?_
    refine wl_fork rfl (fun hg12 => ?_) (fun hg12 => ?_)
    · try simp only [decide_eq_true_eq, decide_eq_false_iff_not, Bool.not_eq_true', Bool.not_eq_false', Bool.not_eq_eq_eq_not, Bool.not_true, Bool.not_false, beq_iff_eq, bne_iff_ne, ne_eq, beq_eq_false_iff_ne, bne_eq_false_iff_eq, gt_iff_lt, ge_iff_le, Int.not_lt, Int.not_le] at hg12
      refine wlg_no rfl ?_
      refine wlg_no rfl ?_
      refine wlg_no rfl ?_
      refine wl (ro_pick rfl rfl rfl) ?_
      refine wl_nil (x_then (hK6 _ _ ?_))
      clear hK6 K6
      refine wc_condT rfl ?_
      refine c_seq (fun K7 hK7 => ?_)
      refine c_reg ?_ -- region 4 numm.go:241
      refine wl (ro_move rfl) ?_
      refine wl (ro_assign rfl) ?_
      refine wl_nil (x_then (hK7 _ _ ?_))
      clear hK7 K7
      refine c_ret (x_thenR ?_)
      refine bp_ret Tryz.results118 rfl ?_
      exact ⟨by rw [flr_inf hx hg12]; all_goals rfl, rfl⟩
    · try simp only [decide_eq_true_eq, decide_eq_false_iff_not, Bool.not_eq_true', Bool.not_eq_false', Bool.not_eq_eq_eq_not, Bool.not_true, Bool.not_false, beq_iff_eq, bne_iff_ne, ne_eq, beq_eq_false_iff_ne, bne_eq_false_iff_eq, gt_iff_lt, ge_iff_le, Int.not_lt, Int.not_le] at hg12
      refine wlg_yes rfl (ro_move rfl) ?_
      refine wlg_yes rfl (ro_hi rfl (by assumption)) ?_
      refine wlg_yes rfl (ro_cmpU rfl rfl rfl) ?_
      refine wl (ro_pick rfl rfl rfl) ?_
      refine wl_nil (x_then (hK6 _ _ ?_))
      clear hK6 K6
      refine wc_cond rfl (fun hc16 => ?_) (fun hc16 => ?_)
      · try simp only [decide_eq_true_eq, decide_eq_false_iff_not, Bool.not_eq_true', Bool.not_eq_false', Bool.not_eq_eq_eq_not, Bool.not_true, Bool.not_false, beq_iff_eq, bne_iff_ne, ne_eq, beq_eq_false_iff_ne, bne_eq_false_iff_eq, gt_iff_lt, ge_iff_le, Int.not_lt, Int.not_le] at hc16
        have hz0 : rgW x = 0 := hc16
        refine c_seq (fun K8 hK8 => ?_)
        refine c_reg ?_ -- region 4 numm.go:241
        refine wl (ro_move rfl) ?_
        refine wl (ro_assign rfl) ?_
        refine wl_nil (x_then (hK8 _ _ ?_))
        clear hK8 K8
        refine c_ret (x_thenR ?_)
        refine bp_ret Tryz.results118 rfl ?_
        refine ⟨?_, rfl⟩
        have : pmW x = 0 := pm_zero.2 hz0
        rw [flr_whole hx (by rw [hz0]; decide) (.inr (by rw [this]; simp))]; all_goals rfl
      · try simp only [decide_eq_true_eq, decide_eq_false_iff_not, Bool.not_eq_true', Bool.not_eq_false', Bool.not_eq_eq_eq_not, Bool.not_true, Bool.not_false, beq_iff_eq, bne_iff_ne, ne_eq, beq_eq_false_iff_ne, bne_eq_false_iff_eq, gt_iff_lt, ge_iff_le, Int.not_lt, Int.not_le] at hc16
        have hz0 : rgW x ≠ 0 := hc16
        have hfx : rgW x < infB := by change ¬ rgW x = infB at hg12; omega
        have hpx := pe_ge x
        have hlx := pe_le hfx
        refine c_skip (x_then (hK5 _ _ ?_))
        clear hK5 K5
        refine forget [(0, _)] ⟨rfl, trivial⟩ (fun e => ?_)
        refine c_seq (fun K9 hK9 => ?_)
        refine c_reg ?_ -- region 5 numm.go:243
        refine wl (ro_move rfl) ?_
        refine wl_call rfl en_166 (parts166 hx) ?_
        rintro _ u0 ⟨rfl, hw0⟩
        rw [hw0]
        clear hw0 u0
        refine wl (ro_move rfl) ?_
        refine wl (ro_extract rfl rfl) ?_
        refine wl (ro_extract rfl rfl) ?_
        refine wl (ro_assign rfl) ?_
        refine wl (ro_assign rfl) ?_
        refine wl_nil (x_then (hK9 _ _ ?_))
        clear hK9 K9
        refine forget [(0, _), (3, _), (4, _)] ⟨rfl, rfl, rfl, trivial⟩ (fun e => ?_)
        refine c_seq (fun K10 hK10 => ?_)
        refine c_reg ?_ -- region 6 numm.go:244
        refine wl (ro_move rfl) ?_
        refine wl (ro_sg rfl (by assumption)) ?_
        refine wl (ro_assign rfl) ?_
        refine wl_nil (x_then (hK10 _ _ ?_))
        clear hK10 K10
        refine c_seq (fun K11 hK11 => ?_)
        refine c_seq (fun K12 hK12 => ?_)
        refine c_reg ?_ -- region 7 numm.go:245
        refine wl (ro_move rfl) ?_
        refine wl (ro_cmp rfl rfl rfl) ?_
        refine wl_nil (x_then (hK12 _ _ ?_))
        clear hK12 K12
        refine wc_cond rfl (fun hc26 => ?_) (fun hc26 => ?_)
        · try simp only [decide_eq_true_eq, decide_eq_false_iff_not, Bool.not_eq_true', Bool.not_eq_false', Bool.not_eq_eq_eq_not, Bool.not_true, Bool.not_false, beq_iff_eq, bne_iff_ne, ne_eq, beq_eq_false_iff_ne, bne_eq_false_iff_eq, gt_iff_lt, ge_iff_le, Int.not_lt, Int.not_le] at hc26
          refine c_seq (fun K13 hK13 => ?_)
          refine c_reg ?_ -- region 8 numm.go:246
          refine wl (ro_move rfl) ?_
          refine wl (ro_assign rfl) ?_
          refine wl_nil (x_then (hK13 _ _ ?_))
          clear hK13 K13
          refine c_ret (x_thenR ?_)
          refine bp_ret Tryz.results118 rfl ?_
          exact ⟨by rw [flr_whole hx hfx (.inl hc26)]; all_goals rfl, rfl⟩
        · try simp only [decide_eq_true_eq, decide_eq_false_iff_not, Bool.not_eq_true', Bool.not_eq_false', Bool.not_eq_eq_eq_not, Bool.not_true, Bool.not_false, beq_iff_eq, bne_iff_ne, ne_eq, beq_eq_false_iff_ne, bne_eq_false_iff_eq, gt_iff_lt, ge_iff_le, Int.not_lt, Int.not_le] at hc26
          refine c_skip (x_then (hK11 _ _ ?_))
          clear hK11 K11
          refine c_seq (fun K14 hK14 => ?_)
          refine c_seq (fun K15 hK15 => ?_)
          refine c_reg ?_ -- region 9 numm.go:248
          refine wl (ro_move rfl) ?_
          refine wl (ro_cmp rfl rfl rfl) ?_
          refine wl_nil (x_then (hK15 _ _ ?_))
          clear hK15 K15
          refine wc_cond rfl (fun hc29 => ?_) (fun hc29 => ?_)
          · try simp only [decide_eq_true_eq, decide_eq_false_iff_not, Bool.not_eq_true', Bool.not_eq_false', Bool.not_eq_eq_eq_not, Bool.not_true, Bool.not_false, beq_iff_eq, bne_iff_ne, ne_eq, beq_eq_false_iff_ne, bne_eq_false_iff_eq, gt_iff_lt, ge_iff_le, Int.not_lt, Int.not_le] at hc29
            refine c_seq (fun K16 hK16 => ?_)
            refine c_seq (fun K17 hK17 => ?_)
            refine c_reg ?_ -- region 10 numm.go:249
            refine wl (ro_move rfl) ?_
            refine wl (ro_cmpU rfl rfl rfl) ?_
            refine wl_nil (x_then (hK17 _ _ ?_))
            clear hK17 K17
            refine wc_cond rfl (fun hc31 => ?_) (fun hc31 => ?_)
            · try simp only [decide_eq_true_eq, decide_eq_false_iff_not, Bool.not_eq_true', Bool.not_eq_false', Bool.not_eq_eq_eq_not, Bool.not_true, Bool.not_false, beq_iff_eq, bne_iff_ne, ne_eq, beq_eq_false_iff_ne, bne_eq_false_iff_eq, gt_iff_lt, ge_iff_le, Int.not_lt, Int.not_le] at hc31
              refine c_seq (fun K18 hK18 => ?_)
              refine c_reg ?_ -- region 11 numm.go:250
              refine wl (ro_assign rfl) ?_
              refine wl_nil (x_then (hK18 _ _ ?_))
              clear hK18 K18
              refine c_ret (x_thenR (x_thenR ?_))
              refine bp_ret Tryz.results118 rfl ?_
              exact ⟨by rw [flr_small hx hfx hz0 hc29, if_pos (sgB_ne.1 hc31)]; all_goals rfl, rfl⟩
            · try simp only [decide_eq_true_eq, decide_eq_false_iff_not, Bool.not_eq_true', Bool.not_eq_false', Bool.not_eq_eq_eq_not, Bool.not_true, Bool.not_false, beq_iff_eq, bne_iff_ne, ne_eq, beq_eq_false_iff_ne, bne_eq_false_iff_eq, gt_iff_lt, ge_iff_le, Int.not_lt, Int.not_le] at hc31
              refine c_skip (x_then (hK16 _ _ ?_))
              clear hK16 K16
              refine forget [] trivial (fun e => ?_)
              refine c_seq (fun K19 hK19 => ?_)
              refine c_reg ?_ -- region 12 numm.go:252
              refine wl (ro_assign rfl) ?_
              refine wl_nil (x_then (hK19 _ _ ?_))
              clear hK19 K19
              refine c_ret (x_thenR ?_)
              refine bp_ret Tryz.results118 rfl ?_
              exact ⟨by rw [flr_small hx hfx hz0 hc29, if_neg (fun h => hc31 (sgB_ne.2 h))]; all_goals rfl, rfl⟩
          · try simp only [decide_eq_true_eq, decide_eq_false_iff_not, Bool.not_eq_true', Bool.not_eq_false', Bool.not_eq_eq_eq_not, Bool.not_true, Bool.not_false, beq_iff_eq, bne_iff_ne, ne_eq, beq_eq_false_iff_ne, bne_eq_false_iff_eq, gt_iff_lt, ge_iff_le, Int.not_lt, Int.not_le] at hc29
            obtain ⟨k, hk⟩ : ∃ k : Nat, peW x = -(k : Int) := ⟨(-peW x).toNat, by omega⟩
            have hk52 : k ≤ 52 := by omega
            have hkp := Nat.two_pow_pos k
            have h2k : 2 ^ k ≤ 4503599627370496 := Nat.pow_le_pow_right (n := 2) (j := 52) (by omega) hk52
            refine c_skip (x_then (hK14 _ _ ?_))
            clear hK14 K14
            refine forget [(0, _), (3, _), (4, _), (5, _)] ⟨rfl, rfl, rfl, rfl, trivial⟩ (fun e => ?_)
            refine c_seq (fun K20 hK20 => ?_)
            refine c_reg ?_ -- region 13 numm.go:254
            refine wl (ro_move rfl) ?_
            refine wl (ro_neg rfl (by omega)) ?_
            refine wl (ro_conv (a := -peW x) rfl sc_3 in_206 (Go.IntWalk.u64_in _ (by omega))) ?_
            refine wl (ro_shl1 (b := k) (by rw [show (k : Int) = -peW x by omega]; rfl) (by omega)) ?_
            refine wl (ro_subU (a := 2 ^ k) (b := 1) rfl rfl hkp (Nat.lt_of_lt_of_le (Nat.pow_lt_pow_right (a := 2) (by omega) (show k < 64 by omega)) (by decide))) ?_
            refine wl (ro_assign rfl) ?_
            refine wl_nil (x_then (hK20 _ _ ?_))
            clear hK20 K20
            refine c_seq (fun K21 hK21 => ?_)
            refine c_seq (fun K22 hK22 => ?_)
            refine c_reg ?_ -- region 14 numm.go:255
            refine wl (ro_move rfl) ?_
            refine wl (ro_move rfl) ?_
            refine wl (ro_lowU (a := pmW x) (k := k) rfl rfl (by unfold W64; omega) (by omega)) ?_
            refine wl (ro_cmpU rfl rfl rfl) ?_
            refine wl_nil (x_then (hK22 _ _ ?_))
            clear hK22 K22
            refine wc_cond rfl (fun hc40 => ?_) (fun hc40 => ?_)
            · try simp only [decide_eq_true_eq, decide_eq_false_iff_not, Bool.not_eq_true', Bool.not_eq_false', Bool.not_eq_eq_eq_not, Bool.not_true, Bool.not_false, beq_iff_eq, bne_iff_ne, ne_eq, beq_eq_false_iff_ne, bne_eq_false_iff_eq, gt_iff_lt, ge_iff_le, Int.not_lt, Int.not_le] at hc40
              refine c_seq (fun K23 hK23 => ?_)
              refine c_reg ?_ -- region 15 numm.go:256
              refine wl (ro_move rfl) ?_
              refine wl (ro_assign rfl) ?_
              refine wl_nil (x_then (hK23 _ _ ?_))
              clear hK23 K23
              refine c_ret (x_thenR ?_)
              refine bp_ret Tryz.results118 rfl ?_
              exact ⟨by rw [flr_whole hx hfx (.inr (by rw [show (-peW x).toNat = k by omega]; exact hc40))]; all_goals rfl, rfl⟩
            · try simp only [decide_eq_true_eq, decide_eq_false_iff_not, Bool.not_eq_true', Bool.not_eq_false', Bool.not_eq_eq_eq_not, Bool.not_true, Bool.not_false, beq_iff_eq, bne_iff_ne, ne_eq, beq_eq_false_iff_ne, bne_eq_false_iff_eq, gt_iff_lt, ge_iff_le, Int.not_lt, Int.not_le] at hc40
              refine c_skip (x_then (hK21 _ _ ?_))
              clear hK21 K21
              refine forget [(3, _), (4, _), (5, _), (6, _)] ⟨rfl, rfl, rfl, rfl, trivial⟩ (fun e => ?_)
              refine c_seq (fun K24 hK24 => ?_)
              refine c_reg ?_ -- region 16 numm.go:258
              refine wl (ro_move rfl) ?_
              refine wl (ro_move rfl) ?_
              refine wl ((show RO _ _ _ _ _ (u64c (pmW x / 2 ^ k * 2 ^ k)) from andNot_lo (m := pmW x) (k := k) (by unfold W64; omega) (by omega) ▸ ro_andNotU (a := pmW x) (b := 2 ^ k - 1) rfl rfl (by unfold W64; omega) (Nat.lt_of_le_of_lt (Nat.sub_le _ _) (Nat.lt_of_lt_of_le (Nat.pow_lt_pow_right (a := 2) (by omega) (show k < 64 by omega)) (by decide))))) ?_
              refine wl (ro_assign rfl) ?_
              refine wl_nil (x_then (hK24 _ _ ?_))
              clear hK24 K24
              refine c_mid (fun a' w' => w' = w ∧ ∃ e, a' = Fr 55 (upds e [(3, u64c ((pmW x / 2 ^ k + (ngW x).toNat) * 2 ^ k)), (4, icv (peW x)), (5, u64c (sgB (ngW x)))]) []) ?_ ?_
              · skip
                refine c_seq (fun K25 hK25 => ?_)
                have hqk := Nat.div_mul_le_self (pmW x) (2 ^ k)
                refine c_reg ?_ -- region 17 numm.go:259
                refine wl (ro_move rfl) ?_
                refine wl (ro_cmpU rfl rfl rfl) ?_
                refine wl_nil (x_then (hK25 _ _ ?_))
                clear hK25 K25
                refine wc_cond rfl (fun hc46 => ?_) (fun hc46 => ?_)
                · try simp only [decide_eq_true_eq, decide_eq_false_iff_not, Bool.not_eq_true', Bool.not_eq_false', Bool.not_eq_eq_eq_not, Bool.not_true, Bool.not_false, beq_iff_eq, bne_iff_ne, ne_eq, beq_eq_false_iff_ne, bne_eq_false_iff_eq, gt_iff_lt, ge_iff_le, Int.not_lt, Int.not_le] at hc46
                  refine c_reg ?_ -- region 18 numm.go:260
                  refine wl (ro_move rfl) ?_
                  refine wl (ro_move rfl) ?_
                  refine wl (ro_addU (a := pmW x / 2 ^ k * 2 ^ k) (b := 2 ^ k - 1) rfl rfl (by unfold W64; omega)) ?_
                  refine wl (ro_addU (a := pmW x / 2 ^ k * 2 ^ k + (2 ^ k - 1)) (b := 1) rfl rfl (by unfold W64; omega)) ?_
                  refine wl (ro_assign rfl) ?_
                  refine wl_nil (x_then ?_)
                  refine ⟨rfl, kp _ ⟨?_, rfl, rfl, trivial⟩⟩
                  rw [sgB_ne.1 hc46, Nat.add_mul]
                  show some (u64c _) = some (u64c _)
                  congr 2
                  rw [Bool.toNat_true, Nat.one_mul]
                  omega
                · try simp only [decide_eq_true_eq, decide_eq_false_iff_not, Bool.not_eq_true', Bool.not_eq_false', Bool.not_eq_eq_eq_not, Bool.not_true, Bool.not_false, beq_iff_eq, bne_iff_ne, ne_eq, beq_eq_false_iff_ne, bne_eq_false_iff_eq, gt_iff_lt, ge_iff_le, Int.not_lt, Int.not_le] at hc46
                  refine c_skip (x_then ?_)
                  refine ⟨rfl, kp _ ⟨?_, rfl, rfl, trivial⟩⟩
                  have : ngW x = false := by cases h : ngW x; rfl; exact absurd (sgB_ne.2 h) hc46
                  rw [this, Bool.toNat_false, Nat.add_zero]; rfl
              rintro a' w' ⟨hw, e, rfl⟩
              rw [hw]
              clear hw w'
              have hqk2 : (pmW x / 2 ^ k + (ngW x).toNat) * 2 ^ k < 18014398509481984 := by
                have : (ngW x).toNat ≤ 1 := by cases ngW x <;> decide
                have := Nat.mul_le_mul_right (2 ^ k) (show pmW x / 2 ^ k + (ngW x).toNat ≤ pmW x / 2 ^ k + 1 by omega)
                rw [Nat.add_mul _ 1, Nat.one_mul] at this
                have := Nat.div_mul_le_self (pmW x) (2 ^ k)
                omega
              refine c_seq (fun K26 hK26 => ?_)
              refine c_reg ?_ -- region 19 numm.go:262
              refine wl (ro_move rfl) ?_
              refine wl (ro_move rfl) ?_
              refine wl (ro_move rfl) ?_
              refine wl_call rfl en_122 (pack122 (man := (pmW x / 2 ^ k + (ngW x).toNat) * 2 ^ k) (st := false) (by unfold W64; omega) (by omega) (fun h ↦ by simp at h)) ?_
              rintro _ u0 ⟨rfl, hw0⟩
              rw [hw0]
              clear hw0 u0
              refine wl (ro_assign rfl) ?_
              refine wl_nil (x_then (hK26 _ _ ?_))
              clear hK26 K26
              refine c_ret ?_
              refine bp_ret Tryz.results118 rfl ?_
              exact ⟨by rw [flr_part hx hfx hk hc40], rfl⟩
end Go.Proofs.Qxb6500568aGreatDoor
