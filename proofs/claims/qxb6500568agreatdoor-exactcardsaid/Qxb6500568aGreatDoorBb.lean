import Derived.Test.Qxb6500568aGreatDoorBa
import Derived.Test.Qxb6500568aGreatDoorPc
/- Numbers of the model: the small functions, pack. -/
namespace Go.Proofs.Qxb6500568aGreatDoor
open Ieee
set_option linter.unusedVariables false
set_option linter.unusedSimpArgs false

theorem isNaN169 {w : World} {x : Nat} (h : W64 x) : Ret Tryz.prog 169 [u64c x] w (fun v w' => v = .bool (isNaNW x) ∧ w' = w) := by
  refine ret_of Tryz.func169 rfl Tryz.ntmps169 rfl ?_
  refine c_seq (fun K1 hK1 => ?_)
  refine c_reg ?_ -- region 0 numm.go:20
  refine wl (ro_assign rfl) ?_
  refine wl_nil (x_then (hK1 _ _ ?_))
  clear hK1 K1
  refine forget [(0, _)] ⟨rfl, trivial⟩ (fun e => ?_)
  refine c_seq (fun K2 hK2 => ?_)
  refine c_reg ?_ -- region 1 numm.go:20
  refine wl (ro_move rfl) ?_
  refine wl (ro_hi rfl (by assumption)) ?_
  refine wl (ro_cmpU rfl rfl rfl) ?_
  refine wl (ro_assign rfl) ?_
  refine wl_nil (x_then (hK2 _ _ ?_))
  clear hK2 K2
  refine c_ret ?_
  refine bp_ret Tryz.results169 rfl ?_
  exact ⟨rfl, rfl⟩
theorem isInf164 {w : World} {x : Nat} (h : W64 x) : Ret Tryz.prog 164 [u64c x] w (fun v w' => v = .bool (decide (rgW x = infB)) ∧ w' = w) := by
  refine ret_of Tryz.func164 rfl Tryz.ntmps164 rfl ?_
  refine c_seq (fun K1 hK1 => ?_)
  refine c_reg ?_ -- region 0 numm.go:21
  refine wl (ro_assign rfl) ?_
  refine wl_nil (x_then (hK1 _ _ ?_))
  clear hK1 K1
  refine forget [(0, _)] ⟨rfl, trivial⟩ (fun e => ?_)
  refine c_seq (fun K2 hK2 => ?_)
  refine c_reg ?_ -- region 1 numm.go:21
  refine wl (ro_move rfl) ?_
  refine wl (ro_hi rfl (by assumption)) ?_
  refine wl (ro_cmpU rfl rfl rfl) ?_
  refine wl (ro_assign rfl) ?_
  refine wl_nil (x_then (hK2 _ _ ?_))
  clear hK2 K2
  refine c_ret ?_
  refine bp_ret Tryz.results164 rfl ?_
  exact ⟨rfl, rfl⟩
theorem isZero165 {w : World} {x : Nat} (h : W64 x) : Ret Tryz.prog 165 [u64c x] w (fun v w' => v = .bool (decide (rgW x = 0)) ∧ w' = w) := by
  refine ret_of Tryz.func165 rfl Tryz.ntmps165 rfl ?_
  refine c_seq (fun K1 hK1 => ?_)
  refine c_reg ?_ -- region 0 numm.go:22
  refine wl (ro_assign rfl) ?_
  refine wl_nil (x_then (hK1 _ _ ?_))
  clear hK1 K1
  refine forget [(0, _)] ⟨rfl, trivial⟩ (fun e => ?_)
  refine c_seq (fun K2 hK2 => ?_)
  refine c_reg ?_ -- region 1 numm.go:22
  refine wl (ro_move rfl) ?_
  refine wl (ro_hi rfl (by assumption)) ?_
  refine wl (ro_cmpU rfl rfl rfl) ?_
  refine wl (ro_assign rfl) ?_
  refine wl_nil (x_then (hK2 _ _ ?_))
  clear hK2 K2
  refine c_ret ?_
  refine bp_ret Tryz.results165 rfl ?_
  exact ⟨rfl, rfl⟩
theorem anyNaN112 {w : World} {a b : Nat} (h : W64 a) (h2 : W64 b) : Ret Tryz.prog 112 [u64c a, u64c b] w (fun v w' => v = .bool (decide (infB < rgW a ∨ infB < rgW b)) ∧ w' = w) := by
  refine ret_of Tryz.func112 rfl Tryz.ntmps112 rfl ?_
  refine c_seq (fun K1 hK1 => ?_)
  refine c_reg ?_ -- region 0 numm.go:24
  refine wl (ro_assign rfl) ?_
  refine wl_nil (x_then (hK1 _ _ ?_))
  clear hK1 K1
  refine forget [(0, _), (1, _)] ⟨rfl, rfl, trivial⟩ (fun e => ?_)
  refine c_seq (fun K2 hK2 => ?_)
  refine c_reg ?_ -- region 1 numm.go:24
  refine wl (ro_move rfl) ?_
  refine wl (ro_hi rfl (by assumption)) ?_
  refine wl (ro_cmpU rfl rfl rfl) ?_
  refine wl_fork rfl (fun hg8 => ?_) (fun hg8 => ?_)
  · try simp only [decide_eq_true_eq, decide_eq_false_iff_not, Bool.not_eq_true', Bool.not_eq_false', Bool.not_eq_eq_eq_not, Bool.not_true, Bool.not_false, beq_iff_eq, bne_iff_ne, ne_eq, beq_eq_false_iff_ne, bne_eq_false_iff_eq, gt_iff_lt, ge_iff_le, Int.not_lt, Int.not_le] at hg8
    refine wlg_no rfl ?_
    refine wlg_no rfl ?_
    refine wlg_no rfl ?_
    refine wl (ro_pick rfl rfl rfl) ?_
    refine wl (ro_assign rfl) ?_
    refine wl_nil (x_then (hK2 _ _ ?_))
    clear hK2 K2
    refine c_ret ?_
    refine bp_ret Tryz.results112 rfl ?_
    refine ⟨congrArg Value.bool ?_, rfl⟩
    change infB < rgW a at hg8
    first
      | (simp [hg8]; done)
  · try simp only [decide_eq_true_eq, decide_eq_false_iff_not, Bool.not_eq_true', Bool.not_eq_false', Bool.not_eq_eq_eq_not, Bool.not_true, Bool.not_false, beq_iff_eq, bne_iff_ne, ne_eq, beq_eq_false_iff_ne, bne_eq_false_iff_eq, gt_iff_lt, ge_iff_le, Int.not_lt, Int.not_le] at hg8
    refine wlg_yes rfl (ro_move rfl) ?_
    refine wlg_yes rfl (ro_hi rfl (by assumption)) ?_
    refine wlg_yes rfl (ro_cmpU rfl rfl rfl) ?_
    refine wl (ro_pick rfl rfl rfl) ?_
    refine wl (ro_assign rfl) ?_
    refine wl_nil (x_then (hK2 _ _ ?_))
    clear hK2 K2
    refine c_ret ?_
    refine bp_ret Tryz.results112 rfl ?_
    refine ⟨congrArg Value.bool ?_, rfl⟩
    change ¬ infB < rgW a at hg8
    show decide (infB < rgW b) = _
    simp [hg8]
theorem anyInf167 {w : World} {a b : Nat} (h : W64 a) (h2 : W64 b) : Ret Tryz.prog 167 [u64c a, u64c b] w (fun v w' => v = .bool (decide (rgW a = infB ∨ rgW b = infB)) ∧ w' = w) := by
  refine ret_of Tryz.func167 rfl Tryz.ntmps167 rfl ?_
  refine c_seq (fun K1 hK1 => ?_)
  refine c_reg ?_ -- region 0 numm.go:25
  refine wl (ro_assign rfl) ?_
  refine wl_nil (x_then (hK1 _ _ ?_))
  clear hK1 K1
  refine forget [(0, _), (1, _)] ⟨rfl, rfl, trivial⟩ (fun e => ?_)
  refine c_seq (fun K2 hK2 => ?_)
  refine c_reg ?_ -- region 1 numm.go:25
  refine wl (ro_move rfl) ?_
  refine wl (ro_hi rfl (by assumption)) ?_
  refine wl (ro_cmpU rfl rfl rfl) ?_
  refine wl_fork rfl (fun hg8 => ?_) (fun hg8 => ?_)
  · try simp only [decide_eq_true_eq, decide_eq_false_iff_not, Bool.not_eq_true', Bool.not_eq_false', Bool.not_eq_eq_eq_not, Bool.not_true, Bool.not_false, beq_iff_eq, bne_iff_ne, ne_eq, beq_eq_false_iff_ne, bne_eq_false_iff_eq, gt_iff_lt, ge_iff_le, Int.not_lt, Int.not_le] at hg8
    refine wlg_no rfl ?_
    refine wlg_no rfl ?_
    refine wlg_no rfl ?_
    refine wl (ro_pick rfl rfl rfl) ?_
    refine wl (ro_assign rfl) ?_
    refine wl_nil (x_then (hK2 _ _ ?_))
    clear hK2 K2
    refine c_ret ?_
    refine bp_ret Tryz.results167 rfl ?_
    refine ⟨congrArg Value.bool ?_, rfl⟩
    change rgW a = infB at hg8
    simp [hg8]
  · try simp only [decide_eq_true_eq, decide_eq_false_iff_not, Bool.not_eq_true', Bool.not_eq_false', Bool.not_eq_eq_eq_not, Bool.not_true, Bool.not_false, beq_iff_eq, bne_iff_ne, ne_eq, beq_eq_false_iff_ne, bne_eq_false_iff_eq, gt_iff_lt, ge_iff_le, Int.not_lt, Int.not_le] at hg8
    refine wlg_yes rfl (ro_move rfl) ?_
    refine wlg_yes rfl (ro_hi rfl (by assumption)) ?_
    refine wlg_yes rfl (ro_cmpU rfl rfl rfl) ?_
    refine wl (ro_pick rfl rfl rfl) ?_
    refine wl (ro_assign rfl) ?_
    refine wl_nil (x_then (hK2 _ _ ?_))
    clear hK2 K2
    refine c_ret ?_
    refine bp_ret Tryz.results167 rfl ?_
    refine ⟨congrArg Value.bool ?_, rfl⟩
    change ¬ rgW a = infB at hg8
    show decide (rgW b = infB) = _
    simp [hg8]
theorem anyZero168 {w : World} {a b : Nat} (h : W64 a) (h2 : W64 b) : Ret Tryz.prog 168 [u64c a, u64c b] w (fun v w' => v = .bool (decide (rgW a = 0 ∨ rgW b = 0)) ∧ w' = w) := by
  refine ret_of Tryz.func168 rfl Tryz.ntmps168 rfl ?_
  refine c_seq (fun K1 hK1 => ?_)
  refine c_reg ?_ -- region 0 numm.go:26
  refine wl (ro_assign rfl) ?_
  refine wl_nil (x_then (hK1 _ _ ?_))
  clear hK1 K1
  refine forget [(0, _), (1, _)] ⟨rfl, rfl, trivial⟩ (fun e => ?_)
  refine c_seq (fun K2 hK2 => ?_)
  refine c_reg ?_ -- region 1 numm.go:26
  refine wl (ro_move rfl) ?_
  refine wl (ro_hi rfl (by assumption)) ?_
  refine wl (ro_cmpU rfl rfl rfl) ?_
  refine wl_fork rfl (fun hg8 => ?_) (fun hg8 => ?_)
  · try simp only [decide_eq_true_eq, decide_eq_false_iff_not, Bool.not_eq_true', Bool.not_eq_false', Bool.not_eq_eq_eq_not, Bool.not_true, Bool.not_false, beq_iff_eq, bne_iff_ne, ne_eq, beq_eq_false_iff_ne, bne_eq_false_iff_eq, gt_iff_lt, ge_iff_le, Int.not_lt, Int.not_le] at hg8
    refine wlg_no rfl ?_
    refine wlg_no rfl ?_
    refine wlg_no rfl ?_
    refine wl (ro_pick rfl rfl rfl) ?_
    refine wl (ro_assign rfl) ?_
    refine wl_nil (x_then (hK2 _ _ ?_))
    clear hK2 K2
    refine c_ret ?_
    refine bp_ret Tryz.results168 rfl ?_
    refine ⟨congrArg Value.bool ?_, rfl⟩
    simp [hg8]
  · try simp only [decide_eq_true_eq, decide_eq_false_iff_not, Bool.not_eq_true', Bool.not_eq_false', Bool.not_eq_eq_eq_not, Bool.not_true, Bool.not_false, beq_iff_eq, bne_iff_ne, ne_eq, beq_eq_false_iff_ne, bne_eq_false_iff_eq, gt_iff_lt, ge_iff_le, Int.not_lt, Int.not_le] at hg8
    refine wlg_yes rfl (ro_move rfl) ?_
    refine wlg_yes rfl (ro_hi rfl (by assumption)) ?_
    refine wlg_yes rfl (ro_cmpU rfl rfl rfl) ?_
    refine wl (ro_pick rfl rfl rfl) ?_
    refine wl (ro_assign rfl) ?_
    refine wl_nil (x_then (hK2 _ _ ?_))
    clear hK2 K2
    refine c_ret ?_
    refine bp_ret Tryz.results168 rfl ?_
    refine ⟨congrArg Value.bool ?_, rfl⟩
    show decide (rgW b = 0) = _
    simp [hg8]
theorem bothZero113 {w : World} {a b : Nat} (h : W64 a) (h2 : W64 b) : Ret Tryz.prog 113 [u64c a, u64c b] w (fun v w' => v = .bool (decide (rgW a = 0 ∧ rgW b = 0)) ∧ w' = w) := by
  refine ret_of Tryz.func113 rfl Tryz.ntmps113 rfl ?_
  refine c_seq (fun K1 hK1 => ?_)
  refine c_reg ?_ -- region 0 numm.go:27
  refine wl (ro_assign rfl) ?_
  refine wl_nil (x_then (hK1 _ _ ?_))
  clear hK1 K1
  refine forget [(0, _), (1, _)] ⟨rfl, rfl, trivial⟩ (fun e => ?_)
  refine c_seq (fun K2 hK2 => ?_)
  refine c_reg ?_ -- region 1 numm.go:27
  refine wl (ro_move rfl) ?_
  refine wl (ro_hi rfl (by assumption)) ?_
  refine wl (ro_cmpU rfl rfl rfl) ?_
  refine wl_fork rfl (fun hg8 => ?_) (fun hg8 => ?_)
  · try simp only [decide_eq_true_eq, decide_eq_false_iff_not, Bool.not_eq_true', Bool.not_eq_false', Bool.not_eq_eq_eq_not, Bool.not_true, Bool.not_false, beq_iff_eq, bne_iff_ne, ne_eq, beq_eq_false_iff_ne, bne_eq_false_iff_eq, gt_iff_lt, ge_iff_le, Int.not_lt, Int.not_le] at hg8
    refine wlg_yes rfl (ro_move rfl) ?_
    refine wlg_yes rfl (ro_hi rfl (by assumption)) ?_
    refine wlg_yes rfl (ro_cmpU rfl rfl rfl) ?_
    refine wl (ro_pick rfl rfl rfl) ?_
    refine wl (ro_assign rfl) ?_
    refine wl_nil (x_then (hK2 _ _ ?_))
    clear hK2 K2
    refine c_ret ?_
    refine bp_ret Tryz.results113 rfl ?_
    refine ⟨congrArg Value.bool ?_, rfl⟩
    show decide (rgW b = 0) = _
    simp [hg8]
  · try simp only [decide_eq_true_eq, decide_eq_false_iff_not, Bool.not_eq_true', Bool.not_eq_false', Bool.not_eq_eq_eq_not, Bool.not_true, Bool.not_false, beq_iff_eq, bne_iff_ne, ne_eq, beq_eq_false_iff_ne, bne_eq_false_iff_eq, gt_iff_lt, ge_iff_le, Int.not_lt, Int.not_le] at hg8
    refine wlg_no rfl ?_
    refine wlg_no rfl ?_
    refine wlg_no rfl ?_
    refine wl (ro_pick rfl rfl rfl) ?_
    refine wl (ro_assign rfl) ?_
    refine wl_nil (x_then (hK2 _ _ ?_))
    clear hK2 K2
    refine c_ret ?_
    refine bp_ret Tryz.results113 rfl ?_
    refine ⟨congrArg Value.bool ?_, rfl⟩
    simp [hg8]

theorem parts166 {w : World} {x : Nat} (h : W64 x) : Ret Tryz.prog 166 [u64c x] w (fun v w' => v = .tuple #[u64c (pmW x), icv (peW x)] ∧ w' = w) := by
  have hx := h
  unfold W64 at hx
  have he : rgW x / 4503599627370496 = x / 4503599627370496 % 2048 := by unfold rgW; omega
  have hm : rgW x % 4503599627370496 = x % 4503599627370496 := by unfold rgW; omega
  refine ret_of Tryz.func166 rfl Tryz.ntmps166 rfl ?_
  refine c_seq (fun K1 hK1 => ?_)
  refine c_reg ?_ -- region 0 numm.go:30
  refine wl (ro_assign rfl) ?_
  refine wl (ro_assign rfl) ?_
  refine wl_nil (x_then (hK1 _ _ ?_))
  clear hK1 K1
  refine forget [(0, _)] ⟨rfl, trivial⟩ (fun e => ?_)
  refine c_seq (fun K2 hK2 => ?_)
  refine c_reg ?_ -- region 1 numm.go:31
  refine wl (ro_move rfl) ?_
  refine wl (ro_shrU rfl rfl (by decide)) ?_
  refine wl (ro_conv (a := ((x / 2 ^ 52 : Nat) : Int)) rfl sc_117 in_3 (Go.IntWalk.i64_in _ (by omega))) ?_
  refine wl (ro_andLoI (a := x / 2 ^ 52) (k := 11) rfl rfl (by omega) (by omega)) ?_
  refine wl (ro_assign rfl) ?_
  refine wl_nil (x_then (hK2 _ _ ?_))
  clear hK2 K2
  refine forget [(0, _), (4, _)] ⟨rfl, rfl, trivial⟩ (fun e => ?_)
  refine c_seq (fun K3 hK3 => ?_)
  refine c_reg ?_ -- region 2 numm.go:32
  refine wl (ro_move rfl) ?_
  refine wl (ro_man rfl (by assumption)) ?_
  refine wl (ro_assign rfl) ?_
  refine wl_nil (x_then (hK3 _ _ ?_))
  clear hK3 K3
  refine c_seq (fun K4 hK4 => ?_)
  refine c_seq (fun K5 hK5 => ?_)
  refine c_reg ?_ -- region 3 numm.go:33
  refine wl (ro_move rfl) ?_
  refine wl (ro_cmp (k := .i64) (a := ((x / 2 ^ 52 % 2 ^ 11 : Nat) : Int)) rfl rfl rfl) ?_
  refine wl_nil (x_then (hK5 _ _ ?_))
  clear hK5 K5
  refine wc_cond rfl (fun hc13 => ?_) (fun hc13 => ?_)
  · try simp only [decide_eq_true_eq, decide_eq_false_iff_not, Bool.not_eq_true', Bool.not_eq_false', Bool.not_eq_eq_eq_not, Bool.not_true, Bool.not_false, beq_iff_eq, bne_iff_ne, ne_eq, beq_eq_false_iff_ne, bne_eq_false_iff_eq, gt_iff_lt, ge_iff_le, Int.not_lt, Int.not_le] at hc13
    refine c_seq (fun K6 hK6 => ?_)
    refine c_reg ?_ -- region 4 numm.go:34
    refine wl (ro_move rfl) ?_
    refine wl (ro_assign rfl) ?_
    refine wl (ro_assign rfl) ?_
    refine wl_nil (x_then (hK6 _ _ ?_))
    clear hK6 K6
    refine c_ret (x_thenR ?_)
    refine bp_ret Tryz.results166 rfl ?_
    refine ⟨?_, rfl⟩
    have c : rgW x < 4503599627370496 := by omega
    have e1 : pmW x = x % 4503599627370496 := by unfold pmW; rw [if_pos c]; omega
    have e2 : peW x = -1074 := by unfold peW; rw [if_pos c]
    rw [e1, e2]
  · try simp only [decide_eq_true_eq, decide_eq_false_iff_not, Bool.not_eq_true', Bool.not_eq_false', Bool.not_eq_eq_eq_not, Bool.not_true, Bool.not_false, beq_iff_eq, bne_iff_ne, ne_eq, beq_eq_false_iff_ne, bne_eq_false_iff_eq, gt_iff_lt, ge_iff_le, Int.not_lt, Int.not_le] at hc13
    refine c_skip (x_then (hK4 _ _ ?_))
    clear hK4 K4
    refine forget [(4, _), (5, _)] ⟨rfl, rfl, trivial⟩ (fun e => ?_)
    refine c_seq (fun K7 hK7 => ?_)
    refine c_reg ?_ -- region 5 numm.go:36
    refine wl (ro_move rfl) ?_
    refine wl (ro_or52 rfl (by omega)) ?_
    refine wl (ro_move rfl) ?_
    refine wl (ro_arith (k := .i64) (a := ((x / 2 ^ 52 % 2 ^ 11 : Nat) : Int)) rfl rfl rfl (Go.IntWalk.i64_in _ (by omega))) ?_
    refine wl (ro_assign rfl) ?_
    refine wl (ro_assign rfl) ?_
    refine wl_nil (x_then (hK7 _ _ ?_))
    clear hK7 K7
    refine c_ret ?_
    refine bp_ret Tryz.results166 rfl ?_
    refine ⟨?_, rfl⟩
    have c : ¬ rgW x < 4503599627370496 := by omega
    have e1 : pmW x = x % 4503599627370496 + 4503599627370496 := by unfold pmW; rw [if_neg c]; omega
    have e2 : peW x = ((x / 2 ^ 52 % 2 ^ 11 : Nat) : Int) - 1075 := by unfold peW; rw [if_neg c]; omega
    rw [e1, e2]

theorem pkS_norm {sg : Bool} {man k : Nat} {ex : Int} {st : Bool} (h0 : 0 < man) (hs : st = true → 9007199254740992 ≤ man) (h1 : 2 ^ 63 ≤ man * 2 ^ k) (h2 : man * 2 ^ k < 2 ^ 64) : pkS sg man ex st = sgB sg + packR (man * 2 ^ k) (ex - k) st.toNat := by
  unfold pkS
  rw [if_neg (by omega)]
  have hk := Nat.two_pow_pos k
  rw [← packR_law _ _ st.toNat h1 h2 (by cases st <;> decide), ← word_sg, ← nearest_rung _ _ _ (by omega)]
  cases st
  · simp only [Bool.false_eq_true, if_false, Bool.toNat_false, Nat.add_zero]
    have : 2 * (man * 2 ^ k) = man * 2 ^ (k + 1) := by rw [Nat.pow_succ, Nat.mul_left_comm, Nat.mul_comm 2]
    rw [this]
    exact (nearest_scale sg man (k + 1) ex _ (by omega) (by omega)).symm
  · simp only [if_true, Bool.toNat_true]
    have : 2 * (man * 2 ^ k) + 1 = man * 2 ^ (k + 1) + 1 := by rw [Nat.pow_succ, Nat.mul_left_comm, Nat.mul_comm 2]
    rw [this]
    have hk1 : 1 < 2 ^ (k + 1) := by rw [Nat.pow_succ]; omega
    exact (nearest_below sg man (k + 1) 1 _ _ (hs rfl) (by omega) hk1 (by omega)).symm

theorem pkS_lt (sg : Bool) (man : Nat) (ex : Int) (st : Bool) : W64 (pkS sg man ex st) := by
  have h : ∀ b m p, W64 (double.nearest b m p) := by
    intro b m p
    by_cases h : m = 0
    · subst h; rw [nearest_zero]; exact sg_lt _
    · rw [nearest_rung _ _ _ h, word_sg]
      refine sg_add (Nat.lt_of_le_of_lt (Nat.min_le_right _ _) (by decide))
  unfold pkS
  split
  · exact sg_lt _
  · split <;> exact h _ _ _

theorem pack122 {w : World} {sg : Bool} {man : Nat} {ex : Int} {st : Bool} (hm : W64 man) (he : -20000 ≤ ex ∧ ex ≤ 20000) (hs : st = true → 9007199254740992 ≤ man) :
    Ret Tryz.prog 122 [u64c (sgB sg), u64c man, icv ex, .bool st] w (fun v w' => v = u64c (pkS sg man ex st) ∧ w' = w) := by
  refine ret_of Tryz.func122 rfl Tryz.ntmps122 rfl ?_
  refine c_seq (fun K1 hK1 => ?_)
  refine c_reg ?_ -- region 0 numm.go:42
  refine wl (ro_assign rfl) ?_
  refine wl_nil (x_then (hK1 _ _ ?_))
  clear hK1 K1
  refine c_seq (fun K2 hK2 => ?_)
  refine c_seq (fun K3 hK3 => ?_)
  refine c_reg ?_ -- region 1 numm.go:43
  refine wl (ro_move rfl) ?_
  refine wl (ro_cmpU rfl rfl rfl) ?_
  refine wl_nil (x_then (hK3 _ _ ?_))
  clear hK3 K3
  refine wc_cond rfl (fun hc17 => ?_) (fun hc17 => ?_)
  · try simp only [decide_eq_true_eq, decide_eq_false_iff_not, Bool.not_eq_true', Bool.not_eq_false', Bool.not_eq_eq_eq_not, Bool.not_true, Bool.not_false, beq_iff_eq, bne_iff_ne, ne_eq, beq_eq_false_iff_ne, bne_eq_false_iff_eq, gt_iff_lt, ge_iff_le, Int.not_lt, Int.not_le] at hc17
    refine c_seq (fun K4 hK4 => ?_)
    refine c_reg ?_ -- region 2 numm.go:44
    refine wl (ro_move rfl) ?_
    refine wl (ro_assign rfl) ?_
    refine wl_nil (x_then (hK4 _ _ ?_))
    clear hK4 K4
    refine c_ret (x_thenR ?_)
    refine bp_ret Tryz.results122 rfl ?_
    exact ⟨by unfold pkS; rw [if_pos hc17], rfl⟩
  · try simp only [decide_eq_true_eq, decide_eq_false_iff_not, Bool.not_eq_true', Bool.not_eq_false', Bool.not_eq_eq_eq_not, Bool.not_true, Bool.not_false, beq_iff_eq, bne_iff_ne, ne_eq, beq_eq_false_iff_ne, bne_eq_false_iff_eq, gt_iff_lt, ge_iff_le, Int.not_lt, Int.not_le] at hc17
    refine c_skip (x_then (hK2 _ _ ?_))
    clear hK2 K2
    refine forget [(0, _), (1, _), (2, _), (3, _)] ⟨rfl, rfl, rfl, rfl, trivial⟩ (fun e => ?_)
    refine c_seq (fun K5 hK5 => ?_)
    refine c_block ?_
    -- loop@r3: live slots [0, 1, 2, 3]
    refine c_loopG (fun m a' w' => ∃ k, k ≤ 63 ∧ W64 (man * 2 ^ k) ∧ m = 63 - k ∧ w' = w ∧ ∃ e, a' = Fr 88 (upds e [(0, u64c (sgB sg)), (1, u64c (man * 2 ^ k)), (2, icv (ex - k)), (3, .bool st)]) []) 63 ⟨0, by omega, by simpa using hm, by omega, rfl, kp _ ⟨rfl, by rw [Nat.pow_zero, Nat.mul_one]; rfl, by rw [show ex - ((0 : Nat) : Int) = ex by omega]; rfl, rfl, trivial⟩⟩ ?_
    rintro m a' w' ⟨k, hk, hW, hmk, hw, e, rfl⟩
    rw [hw]
    clear hw w'
    refine c_seq (fun K6 hK6 => ?_)
    refine c_seq (fun K7 hK7 => ?_)
    refine c_reg ?_ -- region 3 numm.go:46
    refine wl (ro_move rfl) ?_
    refine wl (ro_sg rfl (by assumption)) ?_
    refine wl (ro_cmpU rfl rfl rfl) ?_
    refine wl_nil (x_then (hK7 _ _ ?_))
    clear hK7 K7
    refine wc_cond rfl (fun hc21 => ?_) (fun hc21 => ?_)
    · try simp only [decide_eq_true_eq, decide_eq_false_iff_not, Bool.not_eq_true', Bool.not_eq_false', Bool.not_eq_eq_eq_not, Bool.not_true, Bool.not_false, beq_iff_eq, bne_iff_ne, ne_eq, beq_eq_false_iff_ne, bne_eq_false_iff_eq, gt_iff_lt, ge_iff_le, Int.not_lt, Int.not_le] at hc21
      have hng : ¬ 9223372036854775808 ≤ man * 2 ^ k := by
        intro c
        have : sgB (ngW (man * 2 ^ k)) = 9223372036854775808 := by unfold sgB ngW; simp [c]
        omega
      have hk63 : k < 63 := by
        rcases Nat.lt_or_ge k 63 with h | h
        · exact h
        · exfalso
          have e63 : k = 63 := by omega
          subst e63
          have := Nat.mul_le_mul_right (2 ^ 63) (show 1 ≤ man by omega)
          omega
      have hp : man * 2 ^ k * 2 ^ 1 = man * 2 ^ (k + 1) := by rw [Nat.mul_assoc, ← Nat.pow_add]
      refine c_skip (x_then (hK6 _ _ ?_))
      clear hK6 K6
      refine c_block ?_
      refine forget [(0, _), (1, _), (2, _), (3, _)] ⟨rfl, rfl, rfl, rfl, trivial⟩ (fun e => ?_)
      refine c_seq (fun K8 hK8 => ?_)
      refine c_reg ?_ -- region 4 numm.go:47
      refine wl (ro_move rfl) ?_
      refine wl (ro_shlX (a := man * 2 ^ k) (b := 1) rfl rfl (by omega) (by omega)) ?_
      refine wl (ro_assign rfl) ?_
      refine wl_nil (x_then (hK8 _ _ ?_))
      clear hK8 K8
      refine c_reg ?_ -- region 5 numm.go:48
      refine wl (ro_move rfl) ?_
      refine wl (ro_arith rfl rfl rfl (Go.IntWalk.i64_in _ (by omega))) ?_
      refine wl (ro_assign rfl) ?_
      refine wl_nil (x_blk (x_then ?_))
      refine ⟨63 - (k + 1), by omega, k + 1, by omega, by unfold W64; omega, rfl, rfl, kp _ ⟨rfl, by rw [← hp]; rfl, ?_, rfl, trivial⟩⟩
      show some (icv _) = some (icv _)
      congr 2
      omega
    · try simp only [decide_eq_true_eq, decide_eq_false_iff_not, Bool.not_eq_true', Bool.not_eq_false', Bool.not_eq_eq_eq_not, Bool.not_true, Bool.not_false, beq_iff_eq, bne_iff_ne, ne_eq, beq_eq_false_iff_ne, bne_eq_false_iff_eq, gt_iff_lt, ge_iff_le, Int.not_lt, Int.not_le] at hc21
      have hng : 9223372036854775808 ≤ man * 2 ^ k := by
        rcases Nat.lt_or_ge (man * 2 ^ k) 9223372036854775808 with c | c
        · exfalso
          have : sgB (ngW (man * 2 ^ k)) = 0 := by unfold sgB ngW; simp; omega
          omega
        · exact c
      have hpk := pkS_norm (sg := sg) (ex := ex) (st := st) (by omega) hs (show 2 ^ 63 ≤ man * 2 ^ k by omega) hW
      unfold W64 at hW
      obtain ⟨E, hE⟩ : ∃ E, E = ex - k := ⟨_, rfl⟩
      rw [← hE] at hpk
      generalize man * 2 ^ k = M at *
      refine c_exit (x_thenX (x_thenX (x_blkX (x_then (hK5 _ _ ?_)))))
      clear hK6 K6 hK5 K5
      refine forget [(0, _), (1, _), (2, _), (3, _)] ⟨rfl, rfl, rfl, rfl, trivial⟩ (fun e => ?_)
      refine c_seq (fun K9 hK9 => ?_)
      refine c_reg ?_ -- region 6 numm.go:50
      refine wl (ro_move rfl) ?_
      refine wl (ro_arith (k := .i64) (a := E) (by rw [hE]; rfl) rfl rfl (Go.IntWalk.i64_in _ (by omega))) ?_
      refine wl (ro_assign rfl) ?_
      refine wl_nil (x_then (hK9 _ _ ?_))
      clear hK9 K9
      refine c_seq (fun K10 hK10 => ?_)
      refine c_seq (fun K11 hK11 => ?_)
      refine c_reg ?_ -- region 7 numm.go:51
      refine wl (ro_move rfl) ?_
      refine wl (ro_cmp rfl rfl rfl) ?_
      refine wl_nil (x_then (hK11 _ _ ?_))
      clear hK11 K11
      refine wc_cond rfl (fun hc29 => ?_) (fun hc29 => ?_)
      · try simp only [decide_eq_true_eq, decide_eq_false_iff_not, Bool.not_eq_true', Bool.not_eq_false', Bool.not_eq_eq_eq_not, Bool.not_true, Bool.not_false, beq_iff_eq, bne_iff_ne, ne_eq, beq_eq_false_iff_ne, bne_eq_false_iff_eq, gt_iff_lt, ge_iff_le, Int.not_lt, Int.not_le] at hc29
        refine c_seq (fun K12 hK12 => ?_)
        refine c_reg ?_ -- region 8 numm.go:52
        refine wl (ro_move rfl) ?_
        refine wl (ro_orSg (r := infB) rfl rfl (by decide)) ?_
        refine wl (ro_assign rfl) ?_
        refine wl_nil (x_then (hK12 _ _ ?_))
        clear hK12 K12
        refine c_ret (x_thenR ?_)
        refine bp_ret Tryz.results122 rfl ?_
        exact ⟨by rw [hpk]; unfold packR; dsimp only; rw [if_pos hc29]; rfl, rfl⟩
      · try simp only [decide_eq_true_eq, decide_eq_false_iff_not, Bool.not_eq_true', Bool.not_eq_false', Bool.not_eq_eq_eq_not, Bool.not_true, Bool.not_false, beq_iff_eq, bne_iff_ne, ne_eq, beq_eq_false_iff_ne, bne_eq_false_iff_eq, gt_iff_lt, ge_iff_le, Int.not_lt, Int.not_le] at hc29
        refine c_skip (x_then (hK10 _ _ ?_))
        clear hK10 K10
        refine forget [(0, _), (1, _), (3, _), (9, _)] ⟨rfl, rfl, rfl, rfl, trivial⟩ (fun e => ?_)
        refine c_seq (fun K13 hK13 => ?_)
        refine c_reg ?_ -- region 9 numm.go:54
        refine wl (ro_assign rfl) ?_
        refine wl_nil (x_then (hK13 _ _ ?_))
        clear hK13 K13
        refine c_mid (fun a' w' => w' = w ∧ ∃ D : Nat, 11 ≤ D ∧ D < 30000 ∧ (D : Int) = (if E + 63 < -1022 then 11 + (-1022 - (E + 63)) else 11 : Int) ∧ ∃ e, a' = Fr 88 (upds e [(0, u64c (sgB sg)), (1, u64c M), (3, .bool st), (9, icv (E + 63)), (10, i64c D)]) []) ?_ ?_
        · skip
          refine c_seq (fun K14 hK14 => ?_)
          refine c_reg ?_ -- region 10 numm.go:55
          refine wl (ro_move rfl) ?_
          refine wl (ro_cmp rfl rfl rfl) ?_
          refine wl_nil (x_then (hK14 _ _ ?_))
          clear hK14 K14
          refine wc_cond rfl (fun hc33 => ?_) (fun hc33 => ?_)
          · try simp only [decide_eq_true_eq, decide_eq_false_iff_not, Bool.not_eq_true', Bool.not_eq_false', Bool.not_eq_eq_eq_not, Bool.not_true, Bool.not_false, beq_iff_eq, bne_iff_ne, ne_eq, beq_eq_false_iff_ne, bne_eq_false_iff_eq, gt_iff_lt, ge_iff_le, Int.not_lt, Int.not_le] at hc33
            refine c_reg ?_ -- region 11 numm.go:56
            refine wl (ro_move rfl) ?_
            refine wl (ro_arith rfl rfl rfl (Go.IntWalk.i64_in _ (by omega))) ?_
            refine wl (ro_arith rfl rfl rfl (Go.IntWalk.i64_in _ (by omega))) ?_
            refine wl (ro_assign rfl) ?_
            refine wl_nil (x_then ?_)
            refine ⟨rfl, (-1074 - E).toNat, by omega, by omega, by rw [if_pos hc33]; omega, kp _ ⟨rfl, rfl, rfl, rfl, ?_, trivial⟩⟩
            show some (Value.int .i64 _) = some (.int .i64 _)
            congr 2
            omega
          · try simp only [decide_eq_true_eq, decide_eq_false_iff_not, Bool.not_eq_true', Bool.not_eq_false', Bool.not_eq_eq_eq_not, Bool.not_true, Bool.not_false, beq_iff_eq, bne_iff_ne, ne_eq, beq_eq_false_iff_ne, bne_eq_false_iff_eq, gt_iff_lt, ge_iff_le, Int.not_lt, Int.not_le] at hc33
            refine c_skip (x_then ?_)
            refine ⟨rfl, 11, by omega, by omega, by rw [if_neg (by omega)]; rfl, kp _ ⟨rfl, rfl, rfl, rfl, rfl, trivial⟩⟩
        rintro a' w' ⟨hw, D, hD11, hD3, hD, e, rfl⟩
        rw [hw]
        clear hw w'
        refine c_seq (fun K15 hK15 => ?_)
        refine c_seq (fun K16 hK16 => ?_)
        refine c_reg ?_ -- region 12 numm.go:58
        refine wl (ro_move rfl) ?_
        refine wl (ro_cmp rfl rfl rfl) ?_
        refine wl_nil (x_then (hK16 _ _ ?_))
        clear hK16 K16
        refine wc_cond rfl (fun hc38 => ?_) (fun hc38 => ?_)
        · try simp only [decide_eq_true_eq, decide_eq_false_iff_not, Bool.not_eq_true', Bool.not_eq_false', Bool.not_eq_eq_eq_not, Bool.not_true, Bool.not_false, beq_iff_eq, bne_iff_ne, ne_eq, beq_eq_false_iff_ne, bne_eq_false_iff_eq, gt_iff_lt, ge_iff_le, Int.not_lt, Int.not_le] at hc38
          refine c_seq (fun K17 hK17 => ?_)
          refine c_reg ?_ -- region 13 numm.go:59
          refine wl (ro_move rfl) ?_
          refine wl (ro_assign rfl) ?_
          refine wl_nil (x_then (hK17 _ _ ?_))
          clear hK17 K17
          refine c_ret (x_thenR ?_)
          refine bp_ret Tryz.results122 rfl ?_
          exact ⟨by rw [hpk]; unfold packR; dsimp only; rw [if_neg (by omega), ← hD, if_pos hc38]; rfl, rfl⟩
        · try simp only [decide_eq_true_eq, decide_eq_false_iff_not, Bool.not_eq_true', Bool.not_eq_false', Bool.not_eq_eq_eq_not, Bool.not_true, Bool.not_false, beq_iff_eq, bne_iff_ne, ne_eq, beq_eq_false_iff_ne, bne_eq_false_iff_eq, gt_iff_lt, ge_iff_le, Int.not_lt, Int.not_le] at hc38
          have hD64 : D ≤ 64 := by omega
          have hpD := Nat.two_pow_pos D
          have hMD := Nat.mod_lt M hpD
          refine c_skip (x_then (hK15 _ _ ?_))
          clear hK15 K15
          refine forget [(0, _), (1, _), (3, _), (9, _), (10, _)] ⟨rfl, rfl, rfl, rfl, rfl, trivial⟩ (fun e => ?_)
          refine c_seq (fun K18 hK18 => ?_)
          refine c_reg ?_ -- region 14 numm.go:61
          refine wl (ro_assign rfl) ?_
          refine wl (ro_assign rfl) ?_
          refine wl (ro_assign rfl) ?_
          refine wl_nil (x_then (hK18 _ _ ?_))
          clear hK18 K18
          refine c_mid (fun a' w' => w' = w ∧ ∃ e, a' = Fr 88 (upds e [(0, u64c (sgB sg)), (3, .bool st), (9, icv (E + 63)), (11, u64c (M / 2 ^ D)), (12, u64c (M % 2 ^ D)), (13, u64c (2 ^ (D - 1)))]) []) ?_ ?_
          · skip
            refine c_seq (fun K19 hK19 => ?_)
            refine c_reg ?_ -- region 15 numm.go:62
            refine wl (ro_move rfl) ?_
            refine wl (ro_cmp rfl rfl rfl) ?_
            refine wl_nil (x_then (hK19 _ _ ?_))
            clear hK19 K19
            refine wc_cond rfl (fun hc41 => ?_) (fun hc41 => ?_)
            · try simp only [decide_eq_true_eq, decide_eq_false_iff_not, Bool.not_eq_true', Bool.not_eq_false', Bool.not_eq_eq_eq_not, Bool.not_true, Bool.not_false, beq_iff_eq, bne_iff_ne, ne_eq, beq_eq_false_iff_ne, bne_eq_false_iff_eq, gt_iff_lt, ge_iff_le, Int.not_lt, Int.not_le] at hc41
              refine c_seq (fun K20 hK20 => ?_)
              refine c_reg ?_ -- region 16 numm.go:63
              refine wl (ro_assign rfl) ?_
              refine wl_nil (x_then (hK20 _ _ ?_))
              clear hK20 K20
              refine forget [(0, _), (1, _), (3, _), (9, _), (11, _)] ⟨rfl, rfl, rfl, rfl, rfl, trivial⟩ (fun e => ?_)
              refine c_seq (fun K21 hK21 => ?_)
              refine c_reg ?_ -- region 17 numm.go:64
              refine wl (ro_move rfl) ?_
              refine wl (ro_assign rfl) ?_
              refine wl_nil (x_then (hK21 _ _ ?_))
              clear hK21 K21
              refine c_reg ?_ -- region 18 numm.go:65
              refine wl (ro_assign rfl) ?_
              refine wl_nil (x_then ?_)
              have e64 : D = 64 := by omega
              subst e64
              refine ⟨rfl, kp _ ⟨rfl, rfl, rfl, ?_, ?_, rfl, trivial⟩⟩
              · rw [Nat.div_eq_of_lt (by omega)]; rfl
              · rw [Nat.mod_eq_of_lt (by omega)]; rfl
            · try simp only [decide_eq_true_eq, decide_eq_false_iff_not, Bool.not_eq_true', Bool.not_eq_false', Bool.not_eq_eq_eq_not, Bool.not_true, Bool.not_false, beq_iff_eq, bne_iff_ne, ne_eq, beq_eq_false_iff_ne, bne_eq_false_iff_eq, gt_iff_lt, ge_iff_le, Int.not_lt, Int.not_le] at hc41
              have hDlt : D < 64 := by omega
              refine c_seq (fun K22 hK22 => ?_)
              refine c_reg ?_ -- region 19 numm.go:67
              refine wl (ro_move rfl) ?_
              refine wl (ro_move rfl) ?_
              refine wl (ro_conv (a := (D : Int)) rfl sc_3 in_206 (Go.IntWalk.u64_in _ (by omega))) ?_
              refine wl (ro_shrU (a := M) (b := D) rfl rfl (by omega)) ?_
              refine wl (ro_assign rfl) ?_
              refine wl_nil (x_then (hK22 _ _ ?_))
              clear hK22 K22
              refine forget [(0, _), (1, _), (3, _), (9, _), (10, _), (11, _)] ⟨rfl, rfl, rfl, rfl, rfl, rfl, trivial⟩ (fun e => ?_)
              refine c_seq (fun K23 hK23 => ?_)
              refine c_reg ?_ -- region 20 numm.go:68
              refine wl (ro_move rfl) ?_
              refine wl (ro_move rfl) ?_
              refine wl (ro_conv (a := (D : Int)) rfl sc_3 in_206 (Go.IntWalk.u64_in _ (by omega))) ?_
              refine wl (ro_shl1 (b := D) rfl (by omega)) ?_
              refine wl (ro_subU (a := 2 ^ D) (b := 1) rfl rfl (by omega) (Nat.lt_of_lt_of_le (Nat.pow_lt_pow_right (a := 2) (by omega) hDlt) (by decide))) ?_
              refine wl (ro_lowU (a := M) (k := D) rfl rfl hW (by omega)) ?_
              refine wl (ro_assign rfl) ?_
              refine wl_nil (x_then (hK23 _ _ ?_))
              clear hK23 K23
              refine c_reg ?_ -- region 21 numm.go:69
              refine wl (ro_move rfl) ?_
              refine wl (ro_arith (k := .i64) (a := (D : Int)) (r := ((D - 1 : Nat) : Int)) rfl rfl (by show some ((D : Int) - 1) = _; congr 1; omega) (Go.IntWalk.i64_in _ (by omega))) ?_
              refine wl (ro_conv (a := ((D - 1 : Nat) : Int)) rfl sc_3 in_206 (Go.IntWalk.u64_in _ (by omega))) ?_
              refine wl (ro_shl1 (b := D - 1) rfl (by omega)) ?_
              refine wl (ro_assign rfl) ?_
              refine wl_nil (x_then ?_)
              exact ⟨rfl, kp _ ⟨rfl, rfl, rfl, rfl, rfl, rfl, trivial⟩⟩
          rintro a' w' ⟨hw, e, rfl⟩
          rw [hw]
          clear hw w'
          have hq : M / 2 ^ D < 9007199254740992 := by
            rw [Nat.div_lt_iff_lt_mul hpD]
            have := Nat.pow_le_pow_right (n := 2) (by omega) hD11
            have := Nat.mul_le_mul_left 9007199254740992 this
            omega
          refine c_seq (fun K24 hK24 => ?_)
          refine c_reg ?_ -- region 22 numm.go:71
          refine wl (ro_move rfl) ?_
          refine wl (ro_move rfl) ?_
          refine wl (ro_cmpU rfl rfl rfl) ?_
          refine wl (ro_assign rfl) ?_
          refine wl_nil (x_then (hK24 _ _ ?_))
          clear hK24 K24
          refine c_mid (fun a' w' => w' = w ∧ ∃ e, a' = Fr 88 (upds e [(0, u64c (sgB sg)), (9, icv (E + 63)), (11, u64c (M / 2 ^ D)), (14, .bool (if M % 2 ^ D = 2 ^ (D - 1) then (st.toNat == 1) || (M / 2 ^ D % 2 == 1) else decide (2 ^ (D - 1) < M % 2 ^ D)))]) []) ?_ ?_
          · skip
            refine c_seq (fun K25 hK25 => ?_)
            refine c_reg ?_ -- region 23 numm.go:72
            refine wl (ro_move rfl) ?_
            refine wl (ro_move rfl) ?_
            refine wl (ro_cmpU rfl rfl rfl) ?_
            refine wl_nil (x_then (hK25 _ _ ?_))
            clear hK25 K25
            refine wc_cond rfl (fun hc62 => ?_) (fun hc62 => ?_)
            · try simp only [decide_eq_true_eq, decide_eq_false_iff_not, Bool.not_eq_true', Bool.not_eq_false', Bool.not_eq_eq_eq_not, Bool.not_true, Bool.not_false, beq_iff_eq, bne_iff_ne, ne_eq, beq_eq_false_iff_ne, bne_eq_false_iff_eq, gt_iff_lt, ge_iff_le, Int.not_lt, Int.not_le] at hc62
              refine c_reg ?_ -- region 24 numm.go:73
              refine wl (ro_move rfl) ?_
              refine wl_fork rfl (fun hg64 => ?_) (fun hg64 => ?_)
              · try simp only [decide_eq_true_eq, decide_eq_false_iff_not, Bool.not_eq_true', Bool.not_eq_false', Bool.not_eq_eq_eq_not, Bool.not_true, Bool.not_false, beq_iff_eq, bne_iff_ne, ne_eq, beq_eq_false_iff_ne, bne_eq_false_iff_eq, gt_iff_lt, ge_iff_le, Int.not_lt, Int.not_le] at hg64
                refine wlg_no rfl ?_
                refine wlg_no rfl ?_
                refine wlg_no rfl ?_
                refine wl (ro_pick rfl rfl rfl) ?_
                refine wl (ro_assign rfl) ?_
                refine wl_nil (x_then ?_)
                refine ⟨rfl, kp _ ⟨rfl, rfl, rfl, ?_, trivial⟩⟩
                rw [if_pos hc62, hg64]; rfl
              · try simp only [decide_eq_true_eq, decide_eq_false_iff_not, Bool.not_eq_true', Bool.not_eq_false', Bool.not_eq_eq_eq_not, Bool.not_true, Bool.not_false, beq_iff_eq, bne_iff_ne, ne_eq, beq_eq_false_iff_ne, bne_eq_false_iff_eq, gt_iff_lt, ge_iff_le, Int.not_lt, Int.not_le] at hg64
                refine wlg_yes rfl (ro_move rfl) ?_
                refine wlg_yes rfl (ro_bit0 (a := M / 2 ^ D) rfl (by unfold W64; omega)) ?_
                refine wlg_yes rfl (ro_cmpU rfl rfl rfl) ?_
                refine wl (ro_pick rfl rfl rfl) ?_
                refine wl (ro_assign rfl) ?_
                refine wl_nil (x_then ?_)
                refine ⟨rfl, kp _ ⟨rfl, rfl, rfl, ?_, trivial⟩⟩
                rw [if_pos hc62, hg64]
                show some (Value.bool (decide (M / 2 ^ D % 2 = 1))) = some (.bool (_ || (M / 2 ^ D % 2 == 1)))
                rfl
            · try simp only [decide_eq_true_eq, decide_eq_false_iff_not, Bool.not_eq_true', Bool.not_eq_false', Bool.not_eq_eq_eq_not, Bool.not_true, Bool.not_false, beq_iff_eq, bne_iff_ne, ne_eq, beq_eq_false_iff_ne, bne_eq_false_iff_eq, gt_iff_lt, ge_iff_le, Int.not_lt, Int.not_le] at hc62
              refine c_skip (x_then ?_)
              refine ⟨rfl, kp _ ⟨rfl, rfl, rfl, ?_, trivial⟩⟩
              rw [if_neg hc62]
              all_goals rfl
          rintro a' w' ⟨hw, e, rfl⟩
          rw [hw]
          clear hw w'
          generalize hup : (if M % 2 ^ D = 2 ^ (D - 1) then (st.toNat == 1) || (M / 2 ^ D % 2 == 1) else decide (2 ^ (D - 1) < M % 2 ^ D)) = up
          refine c_mid (fun a' w' => w' = w ∧ ∃ e, a' = Fr 88 (upds e [(0, u64c (sgB sg)), (9, icv (E + 63)), (11, u64c (if up then M / 2 ^ D + 1 else M / 2 ^ D))]) []) ?_ ?_
          · skip
            refine c_seq (fun K26 hK26 => ?_)
            refine c_reg ?_ -- region 25 numm.go:75
            refine wl (ro_move rfl) ?_
            refine wl_nil (x_then (hK26 _ _ ?_))
            clear hK26 K26
            refine wc_cond rfl (fun hc69 => ?_) (fun hc69 => ?_)
            · try simp only [decide_eq_true_eq, decide_eq_false_iff_not, Bool.not_eq_true', Bool.not_eq_false', Bool.not_eq_eq_eq_not, Bool.not_true, Bool.not_false, beq_iff_eq, bne_iff_ne, ne_eq, beq_eq_false_iff_ne, bne_eq_false_iff_eq, gt_iff_lt, ge_iff_le, Int.not_lt, Int.not_le] at hc69
              refine c_reg ?_ -- region 26 numm.go:76
              refine wl (ro_move rfl) ?_
              refine wl (ro_addU (a := M / 2 ^ D) (b := 1) rfl rfl (by unfold W64; omega)) ?_
              refine wl (ro_assign rfl) ?_
              refine wl_nil (x_then ?_)
              exact ⟨rfl, kp _ ⟨rfl, rfl, by rw [hc69]; rfl, trivial⟩⟩
            · try simp only [decide_eq_true_eq, decide_eq_false_iff_not, Bool.not_eq_true', Bool.not_eq_false', Bool.not_eq_eq_eq_not, Bool.not_true, Bool.not_false, beq_iff_eq, bne_iff_ne, ne_eq, beq_eq_false_iff_ne, bne_eq_false_iff_eq, gt_iff_lt, ge_iff_le, Int.not_lt, Int.not_le] at hc69
              refine c_skip (x_then ?_)
              exact ⟨rfl, kp _ ⟨rfl, rfl, by rw [hc69]; rfl, trivial⟩⟩
          rintro a' w' ⟨hw, e, rfl⟩
          rw [hw]
          clear hw w'
          have hq' : (if up then M / 2 ^ D + 1 else M / 2 ^ D) ≤ 9007199254740992 := by split <;> omega
          generalize hQ : (if up then M / 2 ^ D + 1 else M / 2 ^ D) = Q at *
          refine c_seq (fun K27 hK27 => ?_)
          refine c_reg ?_ -- region 27 numm.go:78
          refine wl (ro_assign rfl) ?_
          refine wl_nil (x_then (hK27 _ _ ?_))
          clear hK27 K27
          refine c_mid (fun a' w' => w' = w ∧ ∃ R, R = (if E + 63 < -1022 then Q else (E + 63 + 1022).toNat * 2 ^ 52 + Q) ∧ ∃ e, a' = Fr 88 (upds e [(0, u64c (sgB sg)), (15, u64c R)]) []) ?_ ?_
          · skip
            refine c_seq (fun K28 hK28 => ?_)
            refine c_reg ?_ -- region 28 numm.go:79
            refine wl (ro_move rfl) ?_
            refine wl (ro_cmp rfl rfl rfl) ?_
            refine wl_nil (x_then (hK28 _ _ ?_))
            clear hK28 K28
            refine wc_cond rfl (fun hc73 => ?_) (fun hc73 => ?_)
            · try simp only [decide_eq_true_eq, decide_eq_false_iff_not, Bool.not_eq_true', Bool.not_eq_false', Bool.not_eq_eq_eq_not, Bool.not_true, Bool.not_false, beq_iff_eq, bne_iff_ne, ne_eq, beq_eq_false_iff_ne, bne_eq_false_iff_eq, gt_iff_lt, ge_iff_le, Int.not_lt, Int.not_le] at hc73
              refine c_reg ?_ -- region 29 numm.go:80
              refine wl (ro_move rfl) ?_
              refine wl (ro_assign rfl) ?_
              refine wl_nil (x_then ?_)
              exact ⟨rfl, _, by rw [if_pos hc73], kp _ ⟨rfl, rfl, trivial⟩⟩
            · try simp only [decide_eq_true_eq, decide_eq_false_iff_not, Bool.not_eq_true', Bool.not_eq_false', Bool.not_eq_eq_eq_not, Bool.not_true, Bool.not_false, beq_iff_eq, bne_iff_ne, ne_eq, beq_eq_false_iff_ne, bne_eq_false_iff_eq, gt_iff_lt, ge_iff_le, Int.not_lt, Int.not_le] at hc73
              obtain ⟨T, hT⟩ : ∃ T : Nat, E + 63 + 1022 = (T : Int) := ⟨(E + 63 + 1022).toNat, by omega⟩
              refine c_reg ?_ -- region 30 numm.go:82
              refine wl (ro_move rfl) ?_
              refine wl (ro_arith (k := .i64) (r := (T : Int)) rfl rfl (by show some (E + 63 + 1022) = _; rw [hT]) (Go.IntWalk.i64_in _ (by omega))) ?_
              refine wl (ro_conv (a := (T : Int)) rfl sc_3 in_117 (Go.IntWalk.u64_in _ (by omega))) ?_
              refine wl (ro_shlX (a := T) (b := 52) rfl rfl (by omega) (by unfold W64; omega)) ?_
              refine wl (ro_move rfl) ?_
              refine wl (ro_addU (a := T * 2 ^ 52) (b := Q) rfl rfl (by unfold W64; omega)) ?_
              refine wl (ro_assign rfl) ?_
              refine wl_nil (x_then ?_)
              exact ⟨rfl, _, by rw [if_neg (by omega), hT, Int.toNat_natCast], kp _ ⟨rfl, rfl, trivial⟩⟩
          rintro a' w' ⟨hw, R, hR, e, rfl⟩
          rw [hw]
          clear hw w'
          have hfin : packR M E st.toNat = if 2047 * 2 ^ 52 ≤ R then 2047 * 2 ^ 52 else R := by
            unfold packR
            dsimp only
            rw [if_neg (by omega), ← hD, if_neg (by omega)]
            have : ((D : Int)).toNat = D := by omega
            rw [this, hup, hQ, ← hR]
          rw [hfin] at hpk
          clear hfin
          refine c_seq (fun K29 hK29 => ?_)
          refine c_seq (fun K30 hK30 => ?_)
          refine c_reg ?_ -- region 31 numm.go:84
          refine wl (ro_move rfl) ?_
          refine wl (ro_cmpU (a := R) (b := infB) rfl rfl rfl) ?_
          refine wl_nil (x_then (hK30 _ _ ?_))
          clear hK30 K30
          refine wc_cond rfl (fun hc82 => ?_) (fun hc82 => ?_)
          · try simp only [decide_eq_true_eq, decide_eq_false_iff_not, Bool.not_eq_true', Bool.not_eq_false', Bool.not_eq_eq_eq_not, Bool.not_true, Bool.not_false, beq_iff_eq, bne_iff_ne, ne_eq, beq_eq_false_iff_ne, bne_eq_false_iff_eq, gt_iff_lt, ge_iff_le, Int.not_lt, Int.not_le] at hc82
            refine c_seq (fun K31 hK31 => ?_)
            refine c_reg ?_ -- region 32 numm.go:85
            refine wl (ro_move rfl) ?_
            refine wl (ro_orSg (r := infB) rfl rfl (by decide)) ?_
            refine wl (ro_assign rfl) ?_
            refine wl_nil (x_then (hK31 _ _ ?_))
            clear hK31 K31
            refine c_ret (x_thenR ?_)
            refine bp_ret Tryz.results122 rfl ?_
            exact ⟨by rw [hpk, if_pos (by unfold infB at hc82; omega)]; rfl, rfl⟩
          · try simp only [decide_eq_true_eq, decide_eq_false_iff_not, Bool.not_eq_true', Bool.not_eq_false', Bool.not_eq_eq_eq_not, Bool.not_true, Bool.not_false, beq_iff_eq, bne_iff_ne, ne_eq, beq_eq_false_iff_ne, bne_eq_false_iff_eq, gt_iff_lt, ge_iff_le, Int.not_lt, Int.not_le] at hc82
            refine c_skip (x_then (hK29 _ _ ?_))
            clear hK29 K29
            refine forget [(0, _), (15, _)] ⟨rfl, rfl, trivial⟩ (fun e => ?_)
            refine c_seq (fun K32 hK32 => ?_)
            refine c_reg ?_ -- region 33 numm.go:87
            refine wl (ro_move rfl) ?_
            refine wl (ro_move rfl) ?_
            refine wl (ro_orSg (r := R) rfl rfl (by unfold infB at hc82; omega)) ?_
            refine wl (ro_assign rfl) ?_
            refine wl_nil (x_then (hK32 _ _ ?_))
            clear hK32 K32
            refine c_ret ?_
            refine bp_ret Tryz.results122 rfl ?_
            exact ⟨by rw [hpk, if_neg (by unfold infB at hc82; omega)], rfl⟩
end Go.Proofs.Qxb6500568aGreatDoor
