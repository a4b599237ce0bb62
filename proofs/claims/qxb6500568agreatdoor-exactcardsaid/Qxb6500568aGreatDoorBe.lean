import Derived.Test.Qxb6500568aGreatDoorBd
import Derived.Laws.FloatBits
/- Numbers of the model: Arith, Neg, Cmp, FromInt. -/
namespace Go.Proofs.Qxb6500568aGreatDoor
open Ieee
set_option linter.unusedVariables false
set_option linter.unusedSimpArgs false

theorem getD_lt {o : Option Nat} (h : ∀ r, o = some r → r < 2 ^ double.width) : W64 (o.getD nanB) := by
  have e : 2 ^ double.width = 18446744073709551616 := by decide
  cases o with
  | none => decide
  | some r => have := h r rfl; rw [e] at this; exact this
theorem fAdd_lt (a b : Nat) : W64 (fAdd a b) := getD_lt fun _ h => double.add_lt h
theorem fSub_lt (a b : Nat) : W64 (fSub a b) := getD_lt fun _ h => double.sub_lt h
theorem fMul_lt (a b : Nat) : W64 (fMul a b) := getD_lt fun _ h => double.mul_lt h
theorem fDiv_lt (a b : Nat) : W64 (fDiv a b) := getD_lt fun _ h => double.div_lt h
theorem fFlr_lt (a : Nat) : W64 (fFlr a) := by
  unfold fFlr
  split
  · decide
  · have := double.write_lt ((double.read a).integral .down)
    rw [show 2 ^ double.width = 18446744073709551616 by decide] at this
    exact this
theorem fNeg_lt {a : Nat} (h : W64 a) : W64 (fNeg a) := by
  unfold fNeg
  split
  · decide
  · exact negW_lt h

def fAri (op : Int) (a b : Nat) : Nat :=
  if op = 1 then fAdd a b else if op = 2 then fSub a b else if op = 3 then fMul a b else if op = 4 then fDiv a b
  else if op = 5 then fFlr (fDiv a b) else if op = 6 then fSub a (fMul (fFlr (fDiv a b)) b) else nanB
theorem fAri_lt (op : Int) (a b : Nat) : W64 (fAri op a b) := by
  unfold fAri
  repeat' split
  · exact fAdd_lt _ _
  · exact fSub_lt _ _
  · exact fMul_lt _ _
  · exact fDiv_lt _ _
  · exact fFlr_lt _
  · exact fSub_lt _ _
  · decide

theorem Arith66 {w : World} {p : Value} {op : Int} {a b : Nat} (ha : W64 a) (hb : W64 b) : Ret Tryz.prog 66 [p, icv op, u64c a, u64c b] w (fun v w' => v = u64c (fAri op a b) ∧ w' = w) := by
  refine ret_of Tryz.func66 rfl Tryz.ntmps66 rfl ?_
  refine c_seq (fun K1 hK1 => ?_)
  refine c_reg ?_ -- region 0 numm.go:266
  refine wl (ro_assign rfl) ?_
  refine wl_nil (x_then (hK1 _ _ ?_))
  clear hK1 K1
  refine c_seq (fun K2 hK2 => ?_)
  refine c_seq (fun K3 hK3 => ?_)
  refine c_reg ?_ -- region 1 numm.go:267
  refine wl (ro_move rfl) ?_
  refine wl_nil (x_then (hK3 _ _ ?_))
  clear hK3 K3
  refine c_block ?_
  refine forget [(2, _), (3, _), (13, _)] ⟨rfl, rfl, rfl, trivial⟩ (fun e => ?_)
  refine c_seq (fun K4 hK4 => ?_)
  refine c_reg ?_ -- region 2 numm.go:268
  refine wl (ro_cmp rfl rfl rfl) ?_
  refine wl (ro_assign rfl) ?_
  refine wl_nil (x_then (hK4 _ _ ?_))
  clear hK4 K4
  refine wc_cond rfl (fun hc14 => ?_) (fun hc14 => ?_)
  · try simp only [decide_eq_true_eq, decide_eq_false_iff_not, Bool.not_eq_true', Bool.not_eq_false', Bool.not_eq_eq_eq_not, Bool.not_true, Bool.not_false, beq_iff_eq, bne_iff_ne, ne_eq, beq_eq_false_iff_ne, bne_eq_false_iff_eq, gt_iff_lt, ge_iff_le, Int.not_lt, Int.not_le] at hc14
    refine c_seq (fun K5 hK5 => ?_)
    refine c_reg ?_ -- region 3 numm.go:269
    refine wl (ro_move rfl) ?_
    refine wl (ro_move rfl) ?_
    refine wl_call rfl en_115 (add115 ha hb) ?_
    rintro _ u0 ⟨rfl, hw0⟩
    rw [hw0]
    clear hw0 u0
    refine wl (ro_assign rfl) ?_
    refine wl_nil (x_then (hK5 _ _ ?_))
    clear hK5 K5
    refine c_ret (x_blkR (x_thenR ?_))
    refine bp_ret Tryz.results66 rfl ?_
    exact ⟨by unfold fAri; rw [if_pos hc14], rfl⟩
  · try simp only [decide_eq_true_eq, decide_eq_false_iff_not, Bool.not_eq_true', Bool.not_eq_false', Bool.not_eq_eq_eq_not, Bool.not_true, Bool.not_false, beq_iff_eq, bne_iff_ne, ne_eq, beq_eq_false_iff_ne, bne_eq_false_iff_eq, gt_iff_lt, ge_iff_le, Int.not_lt, Int.not_le] at hc14
    refine c_seq (fun K6 hK6 => ?_)
    refine c_reg ?_ -- region 4 numm.go:270
    refine wl (ro_cmp rfl rfl rfl) ?_
    refine wl (ro_assign rfl) ?_
    refine wl_nil (x_then (hK6 _ _ ?_))
    clear hK6 K6
    refine wc_cond rfl (fun hc19 => ?_) (fun hc19 => ?_)
    · try simp only [decide_eq_true_eq, decide_eq_false_iff_not, Bool.not_eq_true', Bool.not_eq_false', Bool.not_eq_eq_eq_not, Bool.not_true, Bool.not_false, beq_iff_eq, bne_iff_ne, ne_eq, beq_eq_false_iff_ne, bne_eq_false_iff_eq, gt_iff_lt, ge_iff_le, Int.not_lt, Int.not_le] at hc19
      refine c_seq (fun K7 hK7 => ?_)
      refine c_reg ?_ -- region 5 numm.go:271
      refine wl (ro_move rfl) ?_
      refine wl (ro_move rfl) ?_
      refine wl (ro_flip rfl (by assumption)) ?_
      refine wl_call rfl en_115 (add115 ha (negW_lt hb)) ?_
      rintro _ u0 ⟨rfl, hw0⟩
      rw [hw0]
      clear hw0 u0
      refine wl (ro_assign rfl) ?_
      refine wl_nil (x_then (hK7 _ _ ?_))
      clear hK7 K7
      refine c_ret (x_blkR (x_thenR ?_))
      refine bp_ret Tryz.results66 rfl ?_
      exact ⟨by unfold fAri; rw [if_neg hc14, if_pos hc19, sub_add ha hb], rfl⟩
    · try simp only [decide_eq_true_eq, decide_eq_false_iff_not, Bool.not_eq_true', Bool.not_eq_false', Bool.not_eq_eq_eq_not, Bool.not_true, Bool.not_false, beq_iff_eq, bne_iff_ne, ne_eq, beq_eq_false_iff_ne, bne_eq_false_iff_eq, gt_iff_lt, ge_iff_le, Int.not_lt, Int.not_le] at hc19
      refine c_seq (fun K8 hK8 => ?_)
      refine c_reg ?_ -- region 6 numm.go:272
      refine wl (ro_cmp rfl rfl rfl) ?_
      refine wl (ro_assign rfl) ?_
      refine wl_nil (x_then (hK8 _ _ ?_))
      clear hK8 K8
      refine wc_cond rfl (fun hc25 => ?_) (fun hc25 => ?_)
      · try simp only [decide_eq_true_eq, decide_eq_false_iff_not, Bool.not_eq_true', Bool.not_eq_false', Bool.not_eq_eq_eq_not, Bool.not_true, Bool.not_false, beq_iff_eq, bne_iff_ne, ne_eq, beq_eq_false_iff_ne, bne_eq_false_iff_eq, gt_iff_lt, ge_iff_le, Int.not_lt, Int.not_le] at hc25
        refine c_seq (fun K9 hK9 => ?_)
        refine c_reg ?_ -- region 7 numm.go:273
        refine wl (ro_move rfl) ?_
        refine wl (ro_move rfl) ?_
        refine wl_call rfl en_116 (mul116 ha hb) ?_
        rintro _ u0 ⟨rfl, hw0⟩
        rw [hw0]
        clear hw0 u0
        refine wl (ro_assign rfl) ?_
        refine wl_nil (x_then (hK9 _ _ ?_))
        clear hK9 K9
        refine c_ret (x_blkR (x_thenR ?_))
        refine bp_ret Tryz.results66 rfl ?_
        exact ⟨by unfold fAri; rw [if_neg hc14, if_neg hc19, if_pos hc25], rfl⟩
      · try simp only [decide_eq_true_eq, decide_eq_false_iff_not, Bool.not_eq_true', Bool.not_eq_false', Bool.not_eq_eq_eq_not, Bool.not_true, Bool.not_false, beq_iff_eq, bne_iff_ne, ne_eq, beq_eq_false_iff_ne, bne_eq_false_iff_eq, gt_iff_lt, ge_iff_le, Int.not_lt, Int.not_le] at hc25
        refine c_seq (fun K10 hK10 => ?_)
        refine c_reg ?_ -- region 8 numm.go:274
        refine wl (ro_cmp rfl rfl rfl) ?_
        refine wl (ro_assign rfl) ?_
        refine wl_nil (x_then (hK10 _ _ ?_))
        clear hK10 K10
        refine wc_cond rfl (fun hc30 => ?_) (fun hc30 => ?_)
        · try simp only [decide_eq_true_eq, decide_eq_false_iff_not, Bool.not_eq_true', Bool.not_eq_false', Bool.not_eq_eq_eq_not, Bool.not_true, Bool.not_false, beq_iff_eq, bne_iff_ne, ne_eq, beq_eq_false_iff_ne, bne_eq_false_iff_eq, gt_iff_lt, ge_iff_le, Int.not_lt, Int.not_le] at hc30
          refine c_seq (fun K11 hK11 => ?_)
          refine c_reg ?_ -- region 9 numm.go:275
          refine wl (ro_move rfl) ?_
          refine wl (ro_move rfl) ?_
          refine wl_call rfl en_117 (div117 ha hb) ?_
          rintro _ u0 ⟨rfl, hw0⟩
          rw [hw0]
          clear hw0 u0
          refine wl (ro_assign rfl) ?_
          refine wl_nil (x_then (hK11 _ _ ?_))
          clear hK11 K11
          refine c_ret (x_blkR (x_thenR ?_))
          refine bp_ret Tryz.results66 rfl ?_
          exact ⟨by unfold fAri; rw [if_neg hc14, if_neg hc19, if_neg hc25, if_pos hc30], rfl⟩
        · try simp only [decide_eq_true_eq, decide_eq_false_iff_not, Bool.not_eq_true', Bool.not_eq_false', Bool.not_eq_eq_eq_not, Bool.not_true, Bool.not_false, beq_iff_eq, bne_iff_ne, ne_eq, beq_eq_false_iff_ne, bne_eq_false_iff_eq, gt_iff_lt, ge_iff_le, Int.not_lt, Int.not_le] at hc30
          refine c_seq (fun K12 hK12 => ?_)
          refine c_reg ?_ -- region 10 numm.go:276
          refine wl (ro_cmp rfl rfl rfl) ?_
          refine wl (ro_assign rfl) ?_
          refine wl_nil (x_then (hK12 _ _ ?_))
          clear hK12 K12
          refine wc_cond rfl (fun hc35 => ?_) (fun hc35 => ?_)
          · try simp only [decide_eq_true_eq, decide_eq_false_iff_not, Bool.not_eq_true', Bool.not_eq_false', Bool.not_eq_eq_eq_not, Bool.not_true, Bool.not_false, beq_iff_eq, bne_iff_ne, ne_eq, beq_eq_false_iff_ne, bne_eq_false_iff_eq, gt_iff_lt, ge_iff_le, Int.not_lt, Int.not_le] at hc35
            refine c_seq (fun K13 hK13 => ?_)
            refine c_reg ?_ -- region 11 numm.go:277
            refine wl (ro_move rfl) ?_
            refine wl (ro_move rfl) ?_
            refine wl_call rfl en_117 (div117 ha hb) ?_
            rintro _ u0 ⟨rfl, hw0⟩
            rw [hw0]
            clear hw0 u0
            refine wl (ro_assign rfl) ?_
            refine wl_nil (x_then (hK13 _ _ ?_))
            clear hK13 K13
            refine forget [(9, _)] ⟨rfl, trivial⟩ (fun e => ?_)
            refine c_seq (fun K14 hK14 => ?_)
            refine c_reg ?_ -- region 12 numm.go:278
            refine wl (ro_move rfl) ?_
            refine wl_call rfl en_118 (floor118 (fDiv_lt a b)) ?_
            rintro _ u0 ⟨rfl, hw0⟩
            rw [hw0]
            clear hw0 u0
            refine wl (ro_assign rfl) ?_
            refine wl_nil (x_then (hK14 _ _ ?_))
            clear hK14 K14
            refine c_ret (x_blkR (x_thenR ?_))
            refine bp_ret Tryz.results66 rfl ?_
            exact ⟨by unfold fAri; rw [if_neg hc14, if_neg hc19, if_neg hc25, if_neg hc30, if_pos hc35], rfl⟩
          · try simp only [decide_eq_true_eq, decide_eq_false_iff_not, Bool.not_eq_true', Bool.not_eq_false', Bool.not_eq_eq_eq_not, Bool.not_true, Bool.not_false, beq_iff_eq, bne_iff_ne, ne_eq, beq_eq_false_iff_ne, bne_eq_false_iff_eq, gt_iff_lt, ge_iff_le, Int.not_lt, Int.not_le] at hc35
            refine c_seq (fun K15 hK15 => ?_)
            refine c_reg ?_ -- region 13 numm.go:279
            refine wl (ro_cmp rfl rfl rfl) ?_
            refine wl (ro_assign rfl) ?_
            refine wl_nil (x_then (hK15 _ _ ?_))
            clear hK15 K15
            refine wc_cond rfl (fun hc42 => ?_) (fun hc42 => ?_)
            · try simp only [decide_eq_true_eq, decide_eq_false_iff_not, Bool.not_eq_true', Bool.not_eq_false', Bool.not_eq_eq_eq_not, Bool.not_true, Bool.not_false, beq_iff_eq, bne_iff_ne, ne_eq, beq_eq_false_iff_ne, bne_eq_false_iff_eq, gt_iff_lt, ge_iff_le, Int.not_lt, Int.not_le] at hc42
              refine c_seq (fun K16 hK16 => ?_)
              refine c_reg ?_ -- region 14 numm.go:280
              refine wl (ro_move rfl) ?_
              refine wl (ro_move rfl) ?_
              refine wl_call rfl en_117 (div117 ha hb) ?_
              rintro _ u0 ⟨rfl, hw0⟩
              rw [hw0]
              clear hw0 u0
              refine wl (ro_assign rfl) ?_
              refine wl_nil (x_then (hK16 _ _ ?_))
              clear hK16 K16
              refine forget [(2, _), (3, _), (10, _)] ⟨rfl, rfl, rfl, trivial⟩ (fun e => ?_)
              refine c_seq (fun K17 hK17 => ?_)
              refine c_reg ?_ -- region 15 numm.go:281
              refine wl (ro_move rfl) ?_
              refine wl_call rfl en_118 (floor118 (fDiv_lt a b)) ?_
              rintro _ u0 ⟨rfl, hw0⟩
              rw [hw0]
              clear hw0 u0
              refine wl (ro_assign rfl) ?_
              refine wl_nil (x_then (hK17 _ _ ?_))
              clear hK17 K17
              refine forget [(2, _), (3, _), (11, _)] ⟨rfl, rfl, rfl, trivial⟩ (fun e => ?_)
              refine c_seq (fun K18 hK18 => ?_)
              refine c_reg ?_ -- region 16 numm.go:282
              refine wl (ro_move rfl) ?_
              refine wl (ro_move rfl) ?_
              refine wl_call rfl en_116 (mul116 (fFlr_lt _) hb) ?_
              rintro _ u0 ⟨rfl, hw0⟩
              rw [hw0]
              clear hw0 u0
              refine wl (ro_assign rfl) ?_
              refine wl_nil (x_then (hK18 _ _ ?_))
              clear hK18 K18
              refine forget [(2, _), (12, _)] ⟨rfl, rfl, trivial⟩ (fun e => ?_)
              refine c_seq (fun K19 hK19 => ?_)
              refine c_reg ?_ -- region 17 numm.go:283
              refine wl (ro_move rfl) ?_
              refine wl (ro_move rfl) ?_
              refine wl (ro_flip rfl (fMul_lt _ _)) ?_
              refine wl_call rfl en_115 (add115 ha (negW_lt (fMul_lt _ _))) ?_
              rintro _ u0 ⟨rfl, hw0⟩
              rw [hw0]
              clear hw0 u0
              refine wl (ro_assign rfl) ?_
              refine wl_nil (x_then (hK19 _ _ ?_))
              clear hK19 K19
              refine c_ret (x_blkR (x_thenR ?_))
              refine bp_ret Tryz.results66 rfl ?_
              exact ⟨by unfold fAri; rw [if_neg hc14, if_neg hc19, if_neg hc25, if_neg hc30, if_neg hc35, if_pos hc42, sub_add ha (fMul_lt _ _)], rfl⟩
            · try simp only [decide_eq_true_eq, decide_eq_false_iff_not, Bool.not_eq_true', Bool.not_eq_false', Bool.not_eq_eq_eq_not, Bool.not_true, Bool.not_false, beq_iff_eq, bne_iff_ne, ne_eq, beq_eq_false_iff_ne, bne_eq_false_iff_eq, gt_iff_lt, ge_iff_le, Int.not_lt, Int.not_le] at hc42
              refine c_skip (x_blk (x_then (hK2 _ _ ?_)))
              clear hK2 K2
              refine forget [] trivial (fun e => ?_)
              refine c_seq (fun K20 hK20 => ?_)
              refine c_reg ?_ -- region 18 numm.go:285
              refine wl (ro_assign rfl) ?_
              refine wl_nil (x_then (hK20 _ _ ?_))
              clear hK20 K20
              refine c_ret ?_
              refine bp_ret Tryz.results66 rfl ?_
              exact ⟨by unfold fAri; rw [if_neg hc14, if_neg hc19, if_neg hc25, if_neg hc30, if_neg hc35, if_neg hc42]; all_goals rfl, rfl⟩
theorem Neg125 {w : World} {p : Value} {a : Nat} (ha : W64 a) : Ret Tryz.prog 125 [p, u64c a] w (fun v w' => v = u64c (fNeg a) ∧ w' = w) := by
  refine ret_of Tryz.func125 rfl Tryz.ntmps125 rfl ?_
  refine c_seq (fun K1 hK1 => ?_)
  refine c_reg ?_ -- region 0 numm.go:289
  refine wl (ro_assign rfl) ?_
  refine wl_nil (x_then (hK1 _ _ ?_))
  clear hK1 K1
  refine c_seq (fun K2 hK2 => ?_)
  refine c_seq (fun K3 hK3 => ?_)
  refine c_reg ?_ -- region 1 numm.go:290
  refine wl (ro_move rfl) ?_
  refine wl_call rfl en_169 (isNaN169 ha) ?_
  rintro _ u0 ⟨rfl, hw0⟩
  rw [hw0]
  clear hw0 u0
  refine wl_nil (x_then (hK3 _ _ ?_))
  clear hK3 K3
  refine wc_cond rfl (fun hc6 => ?_) (fun hc6 => ?_)
  · try simp only [decide_eq_true_eq, decide_eq_false_iff_not, Bool.not_eq_true', Bool.not_eq_false', Bool.not_eq_eq_eq_not, Bool.not_true, Bool.not_false, beq_iff_eq, bne_iff_ne, ne_eq, beq_eq_false_iff_ne, bne_eq_false_iff_eq, gt_iff_lt, ge_iff_le, Int.not_lt, Int.not_le] at hc6
    refine c_seq (fun K4 hK4 => ?_)
    refine c_reg ?_ -- region 2 numm.go:291
    refine wl (ro_assign rfl) ?_
    refine wl_nil (x_then (hK4 _ _ ?_))
    clear hK4 K4
    refine c_ret (x_thenR ?_)
    refine bp_ret Tryz.results125 rfl ?_
    exact ⟨by unfold fNeg; rw [if_pos hc6]; all_goals rfl, rfl⟩
  · try simp only [decide_eq_true_eq, decide_eq_false_iff_not, Bool.not_eq_true', Bool.not_eq_false', Bool.not_eq_eq_eq_not, Bool.not_true, Bool.not_false, beq_iff_eq, bne_iff_ne, ne_eq, beq_eq_false_iff_ne, bne_eq_false_iff_eq, gt_iff_lt, ge_iff_le, Int.not_lt, Int.not_le] at hc6
    refine c_skip (x_then (hK2 _ _ ?_))
    clear hK2 K2
    refine forget [(1, _)] ⟨rfl, trivial⟩ (fun e => ?_)
    refine c_seq (fun K5 hK5 => ?_)
    refine c_reg ?_ -- region 3 numm.go:293
    refine wl (ro_move rfl) ?_
    refine wl (ro_flip rfl (by assumption)) ?_
    refine wl (ro_assign rfl) ?_
    refine wl_nil (x_then (hK5 _ _ ?_))
    clear hK5 K5
    refine c_ret ?_
    refine bp_ret Tryz.results125 rfl ?_
    exact ⟨by unfold fNeg; rw [if_neg (by rw [hc6]; simp)]; all_goals rfl, rfl⟩
theorem or_sgX {a : Nat} (ha : W64 a) (h : ¬ 9223372036854775808 ≤ a) : a ||| 9223372036854775808 = a + 9223372036854775808 := by
  have := or_sg true a (by omega)
  unfold sgB at this
  rw [if_pos rfl, Nat.or_comm, Nat.add_comm] at this
  exact this
theorem not_w {a : Nat} (ha : W64 a) : a ^^^ (2 ^ 64 - 1) = 18446744073709551615 - a := by
  have : (BitVec.ofNat 64 a ^^^ BitVec.allOnes 64).toNat = (~~~ BitVec.ofNat 64 a).toNat := by
    congr 1
    rw [BitVec.xor_allOnes]
  rw [BitVec.toNat_xor, BitVec.toNat_not, BitVec.toNat_ofNat, BitVec.toNat_allOnes, Nat.mod_eq_of_lt ha] at this
  exact this
theorem less114 {w : World} {a b : Nat} (ha : W64 a) (hb : W64 b) : Ret Tryz.prog 114 [u64c a, u64c b] w (fun v w' => v = .bool (decide (okey a < okey b)) ∧ w' = w) := by
  refine ret_of Tryz.func114 rfl Tryz.ntmps114 rfl ?_
  refine c_seq (fun K1 hK1 => ?_)
  refine c_reg ?_ -- region 0 numm.go:296
  refine wl (ro_assign rfl) ?_
  refine wl_nil (x_then (hK1 _ _ ?_))
  clear hK1 K1
  refine c_seq (fun K2 hK2 => ?_)
  refine c_seq (fun K3 hK3 => ?_)
  refine c_reg ?_ -- region 1 numm.go:297
  refine wl (ro_move rfl) ?_
  refine wl (ro_move rfl) ?_
  refine wl_call rfl en_113 (bothZero113 ha hb) ?_
  rintro _ u0 ⟨rfl, hw0⟩
  rw [hw0]
  clear hw0 u0
  refine wl_nil (x_then (hK3 _ _ ?_))
  clear hK3 K3
  refine wc_cond rfl (fun hc9 => ?_) (fun hc9 => ?_)
  · try simp only [decide_eq_true_eq, decide_eq_false_iff_not, Bool.not_eq_true', Bool.not_eq_false', Bool.not_eq_eq_eq_not, Bool.not_true, Bool.not_false, beq_iff_eq, bne_iff_ne, ne_eq, beq_eq_false_iff_ne, bne_eq_false_iff_eq, gt_iff_lt, ge_iff_le, Int.not_lt, Int.not_le] at hc9
    refine c_seq (fun K4 hK4 => ?_)
    refine c_reg ?_ -- region 2 numm.go:298
    refine wl (ro_assign rfl) ?_
    refine wl_nil (x_then (hK4 _ _ ?_))
    clear hK4 K4
    refine c_ret (x_thenR ?_)
    refine bp_ret Tryz.results114 rfl ?_
    refine ⟨congrArg Value.bool ?_, rfl⟩
    have : okey a = okey b := (okey_eq ha hb).2 (.inr hc9)
    symm; rw [decide_eq_false_iff_not]; omega
  · try simp only [decide_eq_true_eq, decide_eq_false_iff_not, Bool.not_eq_true', Bool.not_eq_false', Bool.not_eq_eq_eq_not, Bool.not_true, Bool.not_false, beq_iff_eq, bne_iff_ne, ne_eq, beq_eq_false_iff_ne, bne_eq_false_iff_eq, gt_iff_lt, ge_iff_le, Int.not_lt, Int.not_le] at hc9
    refine c_skip (x_then (hK2 _ _ ?_))
    clear hK2 K2
    refine forget [(0, _), (1, _)] ⟨rfl, rfl, trivial⟩ (fun e => ?_)
    refine c_seq (fun K5 hK5 => ?_)
    refine c_reg ?_ -- region 3 numm.go:300
    refine wl (ro_move rfl) ?_
    refine wl (ro_orU rfl rfl ha (by decide)) ?_
    refine wl (ro_assign rfl) ?_
    refine wl_nil (x_then (hK5 _ _ ?_))
    clear hK5 K5
    refine c_mid (fun a' w' => w' = w ∧ ∃ e, a' = Fr 27 (upds e [(1, u64c b), (5, u64c (kW a))]) []) ?_ ?_
    · skip
      refine c_seq (fun K6 hK6 => ?_)
      refine c_reg ?_ -- region 4 numm.go:301
      refine wl (ro_move rfl) ?_
      refine wl (ro_sg rfl (by assumption)) ?_
      refine wl (ro_cmpU rfl rfl rfl) ?_
      refine wl_nil (x_then (hK6 _ _ ?_))
      clear hK6 K6
      refine wc_cond rfl (fun hc14 => ?_) (fun hc14 => ?_)
      · try simp only [decide_eq_true_eq, decide_eq_false_iff_not, Bool.not_eq_true', Bool.not_eq_false', Bool.not_eq_eq_eq_not, Bool.not_true, Bool.not_false, beq_iff_eq, bne_iff_ne, ne_eq, beq_eq_false_iff_ne, bne_eq_false_iff_eq, gt_iff_lt, ge_iff_le, Int.not_lt, Int.not_le] at hc14
        refine c_reg ?_ -- region 5 numm.go:302
        refine wl (ro_move rfl) ?_
        refine wl (ro_xorU rfl (ha)) ?_
        refine wl (ro_assign rfl) ?_
        refine wl_nil (x_then ?_)
        refine ⟨rfl, kp _ ⟨rfl, ?_, trivial⟩⟩
        have := sgB_ne.1 hc14
        have e1 : kW a = a ^^^ (2 ^ 64 - 1) := by unfold kW; rw [if_pos this, not_w ha]
        rw [e1]; rfl
      · try simp only [decide_eq_true_eq, decide_eq_false_iff_not, Bool.not_eq_true', Bool.not_eq_false', Bool.not_eq_eq_eq_not, Bool.not_true, Bool.not_false, beq_iff_eq, bne_iff_ne, ne_eq, beq_eq_false_iff_ne, bne_eq_false_iff_eq, gt_iff_lt, ge_iff_le, Int.not_lt, Int.not_le] at hc14
        refine c_skip (x_then ?_)
        refine ⟨rfl, kp _ ⟨rfl, ?_, trivial⟩⟩
        have h0 : ¬ ngW a = true := fun h => hc14 (sgB_ne.2 h)
        have e1 : kW a = a ||| 9223372036854775808 := by unfold kW; rw [if_neg h0, or_sgX ha (by unfold ngW at h0; simpa using h0)]
        rw [e1]; rfl
    rintro a' w' ⟨hw, e, rfl⟩
    rw [hw]
    clear hw w'
    refine c_seq (fun K7 hK7 => ?_)
    refine c_reg ?_ -- region 6 numm.go:304
    refine wl (ro_move rfl) ?_
    refine wl (ro_orU rfl rfl hb (by decide)) ?_
    refine wl (ro_assign rfl) ?_
    refine wl_nil (x_then (hK7 _ _ ?_))
    clear hK7 K7
    refine c_mid (fun a' w' => w' = w ∧ ∃ e, a' = Fr 27 (upds e [(5, u64c (kW a)), (6, u64c (kW b))]) []) ?_ ?_
    · skip
      refine c_seq (fun K8 hK8 => ?_)
      refine c_reg ?_ -- region 7 numm.go:305
      refine wl (ro_move rfl) ?_
      refine wl (ro_sg rfl (by assumption)) ?_
      refine wl (ro_cmpU rfl rfl rfl) ?_
      refine wl_nil (x_then (hK8 _ _ ?_))
      clear hK8 K8
      refine wc_cond rfl (fun hc21 => ?_) (fun hc21 => ?_)
      · try simp only [decide_eq_true_eq, decide_eq_false_iff_not, Bool.not_eq_true', Bool.not_eq_false', Bool.not_eq_eq_eq_not, Bool.not_true, Bool.not_false, beq_iff_eq, bne_iff_ne, ne_eq, beq_eq_false_iff_ne, bne_eq_false_iff_eq, gt_iff_lt, ge_iff_le, Int.not_lt, Int.not_le] at hc21
        refine c_reg ?_ -- region 8 numm.go:306
        refine wl (ro_move rfl) ?_
        refine wl (ro_xorU rfl (hb)) ?_
        refine wl (ro_assign rfl) ?_
        refine wl_nil (x_then ?_)
        refine ⟨rfl, kp _ ⟨rfl, ?_, trivial⟩⟩
        have := sgB_ne.1 hc21
        have e1 : kW b = b ^^^ (2 ^ 64 - 1) := by unfold kW; rw [if_pos this, not_w hb]
        rw [e1]; rfl
      · try simp only [decide_eq_true_eq, decide_eq_false_iff_not, Bool.not_eq_true', Bool.not_eq_false', Bool.not_eq_eq_eq_not, Bool.not_true, Bool.not_false, beq_iff_eq, bne_iff_ne, ne_eq, beq_eq_false_iff_ne, bne_eq_false_iff_eq, gt_iff_lt, ge_iff_le, Int.not_lt, Int.not_le] at hc21
        refine c_skip (x_then ?_)
        refine ⟨rfl, kp _ ⟨rfl, ?_, trivial⟩⟩
        have h0 : ¬ ngW b = true := fun h => hc21 (sgB_ne.2 h)
        have e1 : kW b = b ||| 9223372036854775808 := by unfold kW; rw [if_neg h0, or_sgX hb (by unfold ngW at h0; simpa using h0)]
        rw [e1]; rfl
    rintro a' w' ⟨hw, e, rfl⟩
    rw [hw]
    clear hw w'
    refine c_seq (fun K9 hK9 => ?_)
    refine c_reg ?_ -- region 9 numm.go:308
    refine wl (ro_move rfl) ?_
    refine wl (ro_move rfl) ?_
    refine wl (ro_cmpU rfl rfl rfl) ?_
    refine wl (ro_assign rfl) ?_
    refine wl_nil (x_then (hK9 _ _ ?_))
    clear hK9 K9
    refine c_ret ?_
    refine bp_ret Tryz.results114 rfl ?_
    refine ⟨congrArg Value.bool ?_, rfl⟩
    exact decide_eq_decide.2 (kW_lt ha hb hc9)
theorem Cmp65 {w : World} {p : Value} {op : Int} {a b : Nat} (ha : W64 a) (hb : W64 b) : Ret Tryz.prog 65 [p, icv op, u64c a, u64c b] w (fun v w' => v = .bool (fCmp op a b) ∧ w' = w) := by
  refine ret_of Tryz.func65 rfl Tryz.ntmps65 rfl ?_
  refine c_seq (fun K1 hK1 => ?_)
  refine c_reg ?_ -- region 0 numm.go:312
  refine wl (ro_assign rfl) ?_
  refine wl_nil (x_then (hK1 _ _ ?_))
  clear hK1 K1
  refine c_seq (fun K2 hK2 => ?_)
  refine c_seq (fun K3 hK3 => ?_)
  refine c_reg ?_ -- region 1 numm.go:313
  refine wl (ro_move rfl) ?_
  refine wl (ro_move rfl) ?_
  refine wl_call rfl en_112 (anyNaN112 ha hb) ?_
  rintro _ u0 ⟨rfl, hw0⟩
  rw [hw0]
  clear hw0 u0
  refine wl_nil (x_then (hK3 _ _ ?_))
  clear hK3 K3
  refine wc_cond rfl (fun hc12 => ?_) (fun hc12 => ?_)
  · try simp only [decide_eq_true_eq, decide_eq_false_iff_not, Bool.not_eq_true', Bool.not_eq_false', Bool.not_eq_eq_eq_not, Bool.not_true, Bool.not_false, beq_iff_eq, bne_iff_ne, ne_eq, beq_eq_false_iff_ne, bne_eq_false_iff_eq, gt_iff_lt, ge_iff_le, Int.not_lt, Int.not_le] at hc12
    refine c_seq (fun K4 hK4 => ?_)
    refine c_reg ?_ -- region 2 numm.go:314
    refine wl (ro_move rfl) ?_
    refine wl (ro_cmp rfl rfl rfl) ?_
    refine wl (ro_assign rfl) ?_
    refine wl_nil (x_then (hK4 _ _ ?_))
    clear hK4 K4
    refine c_ret (x_thenR ?_)
    refine bp_ret Tryz.results65 rfl ?_
    refine ⟨congrArg Value.bool ?_, rfl⟩
    unfold fCmp; rw [if_pos hc12]
  · try simp only [decide_eq_true_eq, decide_eq_false_iff_not, Bool.not_eq_true', Bool.not_eq_false', Bool.not_eq_eq_eq_not, Bool.not_true, Bool.not_false, beq_iff_eq, bne_iff_ne, ne_eq, beq_eq_false_iff_ne, bne_eq_false_iff_eq, gt_iff_lt, ge_iff_le, Int.not_lt, Int.not_le] at hc12
    refine c_skip (x_then (hK2 _ _ ?_))
    clear hK2 K2
    refine forget [(1, _), (2, _), (3, _)] ⟨rfl, rfl, rfl, trivial⟩ (fun e => ?_)
    refine c_seq (fun K5 hK5 => ?_)
    refine c_reg ?_ -- region 3 numm.go:316
    refine wl (ro_move rfl) ?_
    refine wl (ro_move rfl) ?_
    refine wl_call rfl en_113 (bothZero113 ha hb) ?_
    rintro _ u0 ⟨rfl, hw0⟩
    rw [hw0]
    clear hw0 u0
    refine wl (ro_assign rfl) ?_
    refine wl_nil (x_then (hK5 _ _ ?_))
    clear hK5 K5
    refine c_mid (fun a' w' => w' = w ∧ ∃ e, a' = Fr 51 (upds e [(1, icv op), (2, u64c a), (3, u64c b), (9, .bool (decide (okey a = okey b)))]) []) ?_ ?_
    · skip
      refine c_seq (fun K6 hK6 => ?_)
      refine c_reg ?_ -- region 4 numm.go:317
      refine wl (ro_move rfl) ?_
      refine wl (ro_move rfl) ?_
      refine wl (ro_cmpU rfl rfl rfl) ?_
      refine wl_nil (x_then (hK6 _ _ ?_))
      clear hK6 K6
      refine wc_cond rfl (fun hc20 => ?_) (fun hc20 => ?_)
      · try simp only [decide_eq_true_eq, decide_eq_false_iff_not, Bool.not_eq_true', Bool.not_eq_false', Bool.not_eq_eq_eq_not, Bool.not_true, Bool.not_false, beq_iff_eq, bne_iff_ne, ne_eq, beq_eq_false_iff_ne, bne_eq_false_iff_eq, gt_iff_lt, ge_iff_le, Int.not_lt, Int.not_le] at hc20
        refine c_reg ?_ -- region 5 numm.go:318
        refine wl (ro_assign rfl) ?_
        refine wl_nil (x_then ?_)
        refine ⟨rfl, kp _ ⟨rfl, rfl, rfl, ?_, trivial⟩⟩
        have : okey a = okey b := (okey_eq ha hb).2 (.inl hc20)
        rw [show decide (okey a = okey b) = true by simp [this]]; rfl
      · try simp only [decide_eq_true_eq, decide_eq_false_iff_not, Bool.not_eq_true', Bool.not_eq_false', Bool.not_eq_eq_eq_not, Bool.not_true, Bool.not_false, beq_iff_eq, bne_iff_ne, ne_eq, beq_eq_false_iff_ne, bne_eq_false_iff_eq, gt_iff_lt, ge_iff_le, Int.not_lt, Int.not_le] at hc20
        refine c_skip (x_then ?_)
        refine ⟨rfl, kp _ ⟨rfl, rfl, rfl, ?_, trivial⟩⟩
        have : decide (okey a = okey b) = decide (rgW a = 0 ∧ rgW b = 0) := by
          apply decide_eq_decide.2
          rw [okey_eq ha hb]
          constructor
          · rintro (h | h)
            · exact absurd h hc20
            · exact h
          · exact .inr
        rw [this]; rfl
    rintro a' w' ⟨hw, e, rfl⟩
    rw [hw]
    clear hw w'
    refine c_seq (fun K7 hK7 => ?_)
    refine c_seq (fun K8 hK8 => ?_)
    refine c_reg ?_ -- region 6 numm.go:320
    refine wl (ro_move rfl) ?_
    refine wl_nil (x_then (hK8 _ _ ?_))
    clear hK8 K8
    refine c_block ?_
    refine forget [(2, _), (3, _), (9, _), (21, _)] ⟨rfl, rfl, rfl, rfl, trivial⟩ (fun e => ?_)
    refine c_seq (fun K9 hK9 => ?_)
    refine c_reg ?_ -- region 7 numm.go:321
    refine wl (ro_cmp rfl rfl rfl) ?_
    refine wl (ro_assign rfl) ?_
    refine wl_nil (x_then (hK9 _ _ ?_))
    clear hK9 K9
    refine wc_cond rfl (fun hc22 => ?_) (fun hc22 => ?_)
    · try simp only [decide_eq_true_eq, decide_eq_false_iff_not, Bool.not_eq_true', Bool.not_eq_false', Bool.not_eq_eq_eq_not, Bool.not_true, Bool.not_false, beq_iff_eq, bne_iff_ne, ne_eq, beq_eq_false_iff_ne, bne_eq_false_iff_eq, gt_iff_lt, ge_iff_le, Int.not_lt, Int.not_le] at hc22
      refine c_seq (fun K10 hK10 => ?_)
      refine c_reg ?_ -- region 8 numm.go:322
      refine wl (ro_move rfl) ?_
      refine wl (ro_assign rfl) ?_
      refine wl_nil (x_then (hK10 _ _ ?_))
      clear hK10 K10
      refine c_ret (x_blkR (x_thenR ?_))
      refine bp_ret Tryz.results65 rfl ?_
      refine ⟨congrArg Value.bool ?_, rfl⟩
      unfold fCmp
      rw [if_neg hc12]
      first
        | (rw [if_pos hc22]; done)
        | (rw [if_neg hc22, if_pos hc25]; simp; done)
        | (rw [if_neg hc22, if_neg hc25, if_pos hc29]; done)
        | (rw [if_neg hc22, if_neg hc25, if_neg hc29, if_pos hc34]; symm; simp only [decide_eq_true_eq]; omega)
        | (rw [if_neg hc22, if_neg hc25, if_neg hc29, if_pos hc34]; apply decide_eq_decide.2; omega)
        | (rw [if_neg hc22, if_neg hc25, if_neg hc29, if_neg hc34, if_pos hc40]; done)
        | (rw [if_neg hc22, if_neg hc25, if_neg hc29, if_neg hc34, if_neg hc40, if_pos hc45]; symm; simp only [decide_eq_true_eq]; omega)
        | (rw [if_neg hc22, if_neg hc25, if_neg hc29, if_neg hc34, if_neg hc40, if_pos hc45]; apply decide_eq_decide.2; omega)
        | (rw [if_neg hc22, if_neg hc25, if_neg hc29, if_neg hc34, if_neg hc40, if_neg hc45]; done)
    · try simp only [decide_eq_true_eq, decide_eq_false_iff_not, Bool.not_eq_true', Bool.not_eq_false', Bool.not_eq_eq_eq_not, Bool.not_true, Bool.not_false, beq_iff_eq, bne_iff_ne, ne_eq, beq_eq_false_iff_ne, bne_eq_false_iff_eq, gt_iff_lt, ge_iff_le, Int.not_lt, Int.not_le] at hc22
      refine c_seq (fun K11 hK11 => ?_)
      refine c_reg ?_ -- region 9 numm.go:323
      refine wl (ro_cmp rfl rfl rfl) ?_
      refine wl (ro_assign rfl) ?_
      refine wl_nil (x_then (hK11 _ _ ?_))
      clear hK11 K11
      refine wc_cond rfl (fun hc25 => ?_) (fun hc25 => ?_)
      · try simp only [decide_eq_true_eq, decide_eq_false_iff_not, Bool.not_eq_true', Bool.not_eq_false', Bool.not_eq_eq_eq_not, Bool.not_true, Bool.not_false, beq_iff_eq, bne_iff_ne, ne_eq, beq_eq_false_iff_ne, bne_eq_false_iff_eq, gt_iff_lt, ge_iff_le, Int.not_lt, Int.not_le] at hc25
        refine c_seq (fun K12 hK12 => ?_)
        refine c_reg ?_ -- region 10 numm.go:324
        refine wl (ro_move rfl) ?_
        refine wl (ro_not rfl) ?_
        refine wl (ro_assign rfl) ?_
        refine wl_nil (x_then (hK12 _ _ ?_))
        clear hK12 K12
        refine c_ret (x_blkR (x_thenR ?_))
        refine bp_ret Tryz.results65 rfl ?_
        refine ⟨congrArg Value.bool ?_, rfl⟩
        unfold fCmp
        rw [if_neg hc12]
        first
          | (rw [if_pos hc22]; done)
          | (rw [if_neg hc22, if_pos hc25]; simp; done)
          | (rw [if_neg hc22, if_neg hc25, if_pos hc29]; done)
          | (rw [if_neg hc22, if_neg hc25, if_neg hc29, if_pos hc34]; symm; simp only [decide_eq_true_eq]; omega)
          | (rw [if_neg hc22, if_neg hc25, if_neg hc29, if_pos hc34]; apply decide_eq_decide.2; omega)
          | (rw [if_neg hc22, if_neg hc25, if_neg hc29, if_neg hc34, if_pos hc40]; done)
          | (rw [if_neg hc22, if_neg hc25, if_neg hc29, if_neg hc34, if_neg hc40, if_pos hc45]; symm; simp only [decide_eq_true_eq]; omega)
          | (rw [if_neg hc22, if_neg hc25, if_neg hc29, if_neg hc34, if_neg hc40, if_pos hc45]; apply decide_eq_decide.2; omega)
          | (rw [if_neg hc22, if_neg hc25, if_neg hc29, if_neg hc34, if_neg hc40, if_neg hc45]; done)
      · try simp only [decide_eq_true_eq, decide_eq_false_iff_not, Bool.not_eq_true', Bool.not_eq_false', Bool.not_eq_eq_eq_not, Bool.not_true, Bool.not_false, beq_iff_eq, bne_iff_ne, ne_eq, beq_eq_false_iff_ne, bne_eq_false_iff_eq, gt_iff_lt, ge_iff_le, Int.not_lt, Int.not_le] at hc25
        refine c_seq (fun K13 hK13 => ?_)
        refine c_reg ?_ -- region 11 numm.go:325
        refine wl (ro_cmp rfl rfl rfl) ?_
        refine wl (ro_assign rfl) ?_
        refine wl_nil (x_then (hK13 _ _ ?_))
        clear hK13 K13
        refine wc_cond rfl (fun hc29 => ?_) (fun hc29 => ?_)
        · try simp only [decide_eq_true_eq, decide_eq_false_iff_not, Bool.not_eq_true', Bool.not_eq_false', Bool.not_eq_eq_eq_not, Bool.not_true, Bool.not_false, beq_iff_eq, bne_iff_ne, ne_eq, beq_eq_false_iff_ne, bne_eq_false_iff_eq, gt_iff_lt, ge_iff_le, Int.not_lt, Int.not_le] at hc29
          refine c_seq (fun K14 hK14 => ?_)
          refine c_reg ?_ -- region 12 numm.go:326
          refine wl (ro_move rfl) ?_
          refine wl (ro_move rfl) ?_
          refine wl_call rfl en_114 (less114 ha hb) ?_
          rintro _ u0 ⟨rfl, hw0⟩
          rw [hw0]
          clear hw0 u0
          refine wl (ro_assign rfl) ?_
          refine wl_nil (x_then (hK14 _ _ ?_))
          clear hK14 K14
          refine c_ret (x_blkR (x_thenR ?_))
          refine bp_ret Tryz.results65 rfl ?_
          refine ⟨congrArg Value.bool ?_, rfl⟩
          unfold fCmp
          rw [if_neg hc12]
          first
            | (rw [if_pos hc22]; done)
            | (rw [if_neg hc22, if_pos hc25]; simp; done)
            | (rw [if_neg hc22, if_neg hc25, if_pos hc29]; done)
            | (rw [if_neg hc22, if_neg hc25, if_neg hc29, if_pos hc34]; symm; simp only [decide_eq_true_eq]; omega)
            | (rw [if_neg hc22, if_neg hc25, if_neg hc29, if_pos hc34]; apply decide_eq_decide.2; omega)
            | (rw [if_neg hc22, if_neg hc25, if_neg hc29, if_neg hc34, if_pos hc40]; done)
            | (rw [if_neg hc22, if_neg hc25, if_neg hc29, if_neg hc34, if_neg hc40, if_pos hc45]; symm; simp only [decide_eq_true_eq]; omega)
            | (rw [if_neg hc22, if_neg hc25, if_neg hc29, if_neg hc34, if_neg hc40, if_pos hc45]; apply decide_eq_decide.2; omega)
            | (rw [if_neg hc22, if_neg hc25, if_neg hc29, if_neg hc34, if_neg hc40, if_neg hc45]; done)
        · try simp only [decide_eq_true_eq, decide_eq_false_iff_not, Bool.not_eq_true', Bool.not_eq_false', Bool.not_eq_eq_eq_not, Bool.not_true, Bool.not_false, beq_iff_eq, bne_iff_ne, ne_eq, beq_eq_false_iff_ne, bne_eq_false_iff_eq, gt_iff_lt, ge_iff_le, Int.not_lt, Int.not_le] at hc29
          refine c_seq (fun K15 hK15 => ?_)
          refine c_reg ?_ -- region 13 numm.go:327
          refine wl (ro_cmp rfl rfl rfl) ?_
          refine wl (ro_assign rfl) ?_
          refine wl_nil (x_then (hK15 _ _ ?_))
          clear hK15 K15
          refine wc_cond rfl (fun hc34 => ?_) (fun hc34 => ?_)
          · try simp only [decide_eq_true_eq, decide_eq_false_iff_not, Bool.not_eq_true', Bool.not_eq_false', Bool.not_eq_eq_eq_not, Bool.not_true, Bool.not_false, beq_iff_eq, bne_iff_ne, ne_eq, beq_eq_false_iff_ne, bne_eq_false_iff_eq, gt_iff_lt, ge_iff_le, Int.not_lt, Int.not_le] at hc34
            refine c_seq (fun K16 hK16 => ?_)
            refine c_seq (fun K17 hK17 => ?_)
            refine c_reg ?_ -- region 14 numm.go:328
            refine wl (ro_move rfl) ?_
            refine wl_nil (x_then (hK17 _ _ ?_))
            clear hK17 K17
            refine wc_cond rfl (fun hc36 => ?_) (fun hc36 => ?_)
            · try simp only [decide_eq_true_eq, decide_eq_false_iff_not, Bool.not_eq_true', Bool.not_eq_false', Bool.not_eq_eq_eq_not, Bool.not_true, Bool.not_false, beq_iff_eq, bne_iff_ne, ne_eq, beq_eq_false_iff_ne, bne_eq_false_iff_eq, gt_iff_lt, ge_iff_le, Int.not_lt, Int.not_le] at hc36
              refine c_seq (fun K18 hK18 => ?_)
              refine c_reg ?_ -- region 15 numm.go:329
              refine wl (ro_assign rfl) ?_
              refine wl_nil (x_then (hK18 _ _ ?_))
              clear hK18 K18
              refine c_ret (x_thenR (x_blkR (x_thenR ?_)))
              refine bp_ret Tryz.results65 rfl ?_
              refine ⟨congrArg Value.bool ?_, rfl⟩
              unfold fCmp
              rw [if_neg hc12]
              first
                | (rw [if_pos hc22]; done)
                | (rw [if_neg hc22, if_pos hc25]; simp; done)
                | (rw [if_neg hc22, if_neg hc25, if_pos hc29]; done)
                | (rw [if_neg hc22, if_neg hc25, if_neg hc29, if_pos hc34]; symm; simp only [decide_eq_true_eq]; omega)
                | (rw [if_neg hc22, if_neg hc25, if_neg hc29, if_pos hc34]; apply decide_eq_decide.2; omega)
                | (rw [if_neg hc22, if_neg hc25, if_neg hc29, if_neg hc34, if_pos hc40]; done)
                | (rw [if_neg hc22, if_neg hc25, if_neg hc29, if_neg hc34, if_neg hc40, if_pos hc45]; symm; simp only [decide_eq_true_eq]; omega)
                | (rw [if_neg hc22, if_neg hc25, if_neg hc29, if_neg hc34, if_neg hc40, if_pos hc45]; apply decide_eq_decide.2; omega)
                | (rw [if_neg hc22, if_neg hc25, if_neg hc29, if_neg hc34, if_neg hc40, if_neg hc45]; done)
            · try simp only [decide_eq_true_eq, decide_eq_false_iff_not, Bool.not_eq_true', Bool.not_eq_false', Bool.not_eq_eq_eq_not, Bool.not_true, Bool.not_false, beq_iff_eq, bne_iff_ne, ne_eq, beq_eq_false_iff_ne, bne_eq_false_iff_eq, gt_iff_lt, ge_iff_le, Int.not_lt, Int.not_le] at hc36
              refine c_skip (x_then (hK16 _ _ ?_))
              clear hK16 K16
              refine forget [(2, _), (3, _)] ⟨rfl, rfl, trivial⟩ (fun e => ?_)
              refine c_seq (fun K19 hK19 => ?_)
              refine c_reg ?_ -- region 16 numm.go:331
              refine wl (ro_move rfl) ?_
              refine wl (ro_move rfl) ?_
              refine wl_call rfl en_114 (less114 ha hb) ?_
              rintro _ u0 ⟨rfl, hw0⟩
              rw [hw0]
              clear hw0 u0
              refine wl (ro_assign rfl) ?_
              refine wl_nil (x_then (hK19 _ _ ?_))
              clear hK19 K19
              refine c_ret (x_blkR (x_thenR ?_))
              refine bp_ret Tryz.results65 rfl ?_
              refine ⟨congrArg Value.bool ?_, rfl⟩
              unfold fCmp
              rw [if_neg hc12]
              first
                | (rw [if_pos hc22]; done)
                | (rw [if_neg hc22, if_pos hc25]; simp; done)
                | (rw [if_neg hc22, if_neg hc25, if_pos hc29]; done)
                | (rw [if_neg hc22, if_neg hc25, if_neg hc29, if_pos hc34]; symm; simp only [decide_eq_true_eq]; omega)
                | (rw [if_neg hc22, if_neg hc25, if_neg hc29, if_pos hc34]; apply decide_eq_decide.2; omega)
                | (rw [if_neg hc22, if_neg hc25, if_neg hc29, if_neg hc34, if_pos hc40]; done)
                | (rw [if_neg hc22, if_neg hc25, if_neg hc29, if_neg hc34, if_neg hc40, if_pos hc45]; symm; simp only [decide_eq_true_eq]; omega)
                | (rw [if_neg hc22, if_neg hc25, if_neg hc29, if_neg hc34, if_neg hc40, if_pos hc45]; apply decide_eq_decide.2; omega)
                | (rw [if_neg hc22, if_neg hc25, if_neg hc29, if_neg hc34, if_neg hc40, if_neg hc45]; done)
          · try simp only [decide_eq_true_eq, decide_eq_false_iff_not, Bool.not_eq_true', Bool.not_eq_false', Bool.not_eq_eq_eq_not, Bool.not_true, Bool.not_false, beq_iff_eq, bne_iff_ne, ne_eq, beq_eq_false_iff_ne, bne_eq_false_iff_eq, gt_iff_lt, ge_iff_le, Int.not_lt, Int.not_le] at hc34
            refine c_seq (fun K20 hK20 => ?_)
            refine c_reg ?_ -- region 17 numm.go:332
            refine wl (ro_cmp rfl rfl rfl) ?_
            refine wl (ro_assign rfl) ?_
            refine wl_nil (x_then (hK20 _ _ ?_))
            clear hK20 K20
            refine wc_cond rfl (fun hc40 => ?_) (fun hc40 => ?_)
            · try simp only [decide_eq_true_eq, decide_eq_false_iff_not, Bool.not_eq_true', Bool.not_eq_false', Bool.not_eq_eq_eq_not, Bool.not_true, Bool.not_false, beq_iff_eq, bne_iff_ne, ne_eq, beq_eq_false_iff_ne, bne_eq_false_iff_eq, gt_iff_lt, ge_iff_le, Int.not_lt, Int.not_le] at hc40
              refine c_seq (fun K21 hK21 => ?_)
              refine c_reg ?_ -- region 18 numm.go:333
              refine wl (ro_move rfl) ?_
              refine wl (ro_move rfl) ?_
              refine wl_call rfl en_114 (less114 hb ha) ?_
              rintro _ u0 ⟨rfl, hw0⟩
              rw [hw0]
              clear hw0 u0
              refine wl (ro_assign rfl) ?_
              refine wl_nil (x_then (hK21 _ _ ?_))
              clear hK21 K21
              refine c_ret (x_blkR (x_thenR ?_))
              refine bp_ret Tryz.results65 rfl ?_
              refine ⟨congrArg Value.bool ?_, rfl⟩
              unfold fCmp
              rw [if_neg hc12]
              first
                | (rw [if_pos hc22]; done)
                | (rw [if_neg hc22, if_pos hc25]; simp; done)
                | (rw [if_neg hc22, if_neg hc25, if_pos hc29]; done)
                | (rw [if_neg hc22, if_neg hc25, if_neg hc29, if_pos hc34]; symm; simp only [decide_eq_true_eq]; omega)
                | (rw [if_neg hc22, if_neg hc25, if_neg hc29, if_pos hc34]; apply decide_eq_decide.2; omega)
                | (rw [if_neg hc22, if_neg hc25, if_neg hc29, if_neg hc34, if_pos hc40]; done)
                | (rw [if_neg hc22, if_neg hc25, if_neg hc29, if_neg hc34, if_neg hc40, if_pos hc45]; symm; simp only [decide_eq_true_eq]; omega)
                | (rw [if_neg hc22, if_neg hc25, if_neg hc29, if_neg hc34, if_neg hc40, if_pos hc45]; apply decide_eq_decide.2; omega)
                | (rw [if_neg hc22, if_neg hc25, if_neg hc29, if_neg hc34, if_neg hc40, if_neg hc45]; done)
            · try simp only [decide_eq_true_eq, decide_eq_false_iff_not, Bool.not_eq_true', Bool.not_eq_false', Bool.not_eq_eq_eq_not, Bool.not_true, Bool.not_false, beq_iff_eq, bne_iff_ne, ne_eq, beq_eq_false_iff_ne, bne_eq_false_iff_eq, gt_iff_lt, ge_iff_le, Int.not_lt, Int.not_le] at hc40
              refine c_seq (fun K22 hK22 => ?_)
              refine c_reg ?_ -- region 19 numm.go:334
              refine wl (ro_cmp rfl rfl rfl) ?_
              refine wl (ro_assign rfl) ?_
              refine wl_nil (x_then (hK22 _ _ ?_))
              clear hK22 K22
              refine wc_cond rfl (fun hc45 => ?_) (fun hc45 => ?_)
              · try simp only [decide_eq_true_eq, decide_eq_false_iff_not, Bool.not_eq_true', Bool.not_eq_false', Bool.not_eq_eq_eq_not, Bool.not_true, Bool.not_false, beq_iff_eq, bne_iff_ne, ne_eq, beq_eq_false_iff_ne, bne_eq_false_iff_eq, gt_iff_lt, ge_iff_le, Int.not_lt, Int.not_le] at hc45
                refine c_seq (fun K23 hK23 => ?_)
                refine c_seq (fun K24 hK24 => ?_)
                refine c_reg ?_ -- region 20 numm.go:335
                refine wl (ro_move rfl) ?_
                refine wl_nil (x_then (hK24 _ _ ?_))
                clear hK24 K24
                refine wc_cond rfl (fun hc47 => ?_) (fun hc47 => ?_)
                · try simp only [decide_eq_true_eq, decide_eq_false_iff_not, Bool.not_eq_true', Bool.not_eq_false', Bool.not_eq_eq_eq_not, Bool.not_true, Bool.not_false, beq_iff_eq, bne_iff_ne, ne_eq, beq_eq_false_iff_ne, bne_eq_false_iff_eq, gt_iff_lt, ge_iff_le, Int.not_lt, Int.not_le] at hc47
                  refine c_seq (fun K25 hK25 => ?_)
                  refine c_reg ?_ -- region 21 numm.go:336
                  refine wl (ro_assign rfl) ?_
                  refine wl_nil (x_then (hK25 _ _ ?_))
                  clear hK25 K25
                  refine c_ret (x_thenR (x_blkR (x_thenR ?_)))
                  refine bp_ret Tryz.results65 rfl ?_
                  refine ⟨congrArg Value.bool ?_, rfl⟩
                  unfold fCmp
                  rw [if_neg hc12]
                  first
                    | (rw [if_pos hc22]; done)
                    | (rw [if_neg hc22, if_pos hc25]; simp; done)
                    | (rw [if_neg hc22, if_neg hc25, if_pos hc29]; done)
                    | (rw [if_neg hc22, if_neg hc25, if_neg hc29, if_pos hc34]; symm; simp only [decide_eq_true_eq]; omega)
                    | (rw [if_neg hc22, if_neg hc25, if_neg hc29, if_pos hc34]; apply decide_eq_decide.2; omega)
                    | (rw [if_neg hc22, if_neg hc25, if_neg hc29, if_neg hc34, if_pos hc40]; done)
                    | (rw [if_neg hc22, if_neg hc25, if_neg hc29, if_neg hc34, if_neg hc40, if_pos hc45]; symm; simp only [decide_eq_true_eq]; omega)
                    | (rw [if_neg hc22, if_neg hc25, if_neg hc29, if_neg hc34, if_neg hc40, if_pos hc45]; apply decide_eq_decide.2; omega)
                    | (rw [if_neg hc22, if_neg hc25, if_neg hc29, if_neg hc34, if_neg hc40, if_neg hc45]; done)
                · try simp only [decide_eq_true_eq, decide_eq_false_iff_not, Bool.not_eq_true', Bool.not_eq_false', Bool.not_eq_eq_eq_not, Bool.not_true, Bool.not_false, beq_iff_eq, bne_iff_ne, ne_eq, beq_eq_false_iff_ne, bne_eq_false_iff_eq, gt_iff_lt, ge_iff_le, Int.not_lt, Int.not_le] at hc47
                  refine c_skip (x_then (hK23 _ _ ?_))
                  clear hK23 K23
                  refine forget [(2, _), (3, _)] ⟨rfl, rfl, trivial⟩ (fun e => ?_)
                  refine c_seq (fun K26 hK26 => ?_)
                  refine c_reg ?_ -- region 22 numm.go:338
                  refine wl (ro_move rfl) ?_
                  refine wl (ro_move rfl) ?_
                  refine wl_call rfl en_114 (less114 hb ha) ?_
                  rintro _ u0 ⟨rfl, hw0⟩
                  rw [hw0]
                  clear hw0 u0
                  refine wl (ro_assign rfl) ?_
                  refine wl_nil (x_then (hK26 _ _ ?_))
                  clear hK26 K26
                  refine c_ret (x_blkR (x_thenR ?_))
                  refine bp_ret Tryz.results65 rfl ?_
                  refine ⟨congrArg Value.bool ?_, rfl⟩
                  unfold fCmp
                  rw [if_neg hc12]
                  first
                    | (rw [if_pos hc22]; done)
                    | (rw [if_neg hc22, if_pos hc25]; simp; done)
                    | (rw [if_neg hc22, if_neg hc25, if_pos hc29]; done)
                    | (rw [if_neg hc22, if_neg hc25, if_neg hc29, if_pos hc34]; symm; simp only [decide_eq_true_eq]; omega)
                    | (rw [if_neg hc22, if_neg hc25, if_neg hc29, if_pos hc34]; apply decide_eq_decide.2; omega)
                    | (rw [if_neg hc22, if_neg hc25, if_neg hc29, if_neg hc34, if_pos hc40]; done)
                    | (rw [if_neg hc22, if_neg hc25, if_neg hc29, if_neg hc34, if_neg hc40, if_pos hc45]; symm; simp only [decide_eq_true_eq]; omega)
                    | (rw [if_neg hc22, if_neg hc25, if_neg hc29, if_neg hc34, if_neg hc40, if_pos hc45]; apply decide_eq_decide.2; omega)
                    | (rw [if_neg hc22, if_neg hc25, if_neg hc29, if_neg hc34, if_neg hc40, if_neg hc45]; done)
              · try simp only [decide_eq_true_eq, decide_eq_false_iff_not, Bool.not_eq_true', Bool.not_eq_false', Bool.not_eq_eq_eq_not, Bool.not_true, Bool.not_false, beq_iff_eq, bne_iff_ne, ne_eq, beq_eq_false_iff_ne, bne_eq_false_iff_eq, gt_iff_lt, ge_iff_le, Int.not_lt, Int.not_le] at hc45
                refine c_skip (x_blk (x_then (hK7 _ _ ?_)))
                clear hK7 K7
                refine forget [] trivial (fun e => ?_)
                refine c_seq (fun K27 hK27 => ?_)
                refine c_reg ?_ -- region 23 numm.go:340
                refine wl (ro_assign rfl) ?_
                refine wl_nil (x_then (hK27 _ _ ?_))
                clear hK27 K27
                refine c_ret ?_
                refine bp_ret Tryz.results65 rfl ?_
                refine ⟨congrArg Value.bool ?_, rfl⟩
                unfold fCmp
                rw [if_neg hc12]
                first
                  | (rw [if_pos hc22]; done)
                  | (rw [if_neg hc22, if_pos hc25]; simp; done)
                  | (rw [if_neg hc22, if_neg hc25, if_pos hc29]; done)
                  | (rw [if_neg hc22, if_neg hc25, if_neg hc29, if_pos hc34]; symm; simp only [decide_eq_true_eq]; omega)
                  | (rw [if_neg hc22, if_neg hc25, if_neg hc29, if_pos hc34]; apply decide_eq_decide.2; omega)
                  | (rw [if_neg hc22, if_neg hc25, if_neg hc29, if_neg hc34, if_pos hc40]; done)
                  | (rw [if_neg hc22, if_neg hc25, if_neg hc29, if_neg hc34, if_neg hc40, if_pos hc45]; symm; simp only [decide_eq_true_eq]; omega)
                  | (rw [if_neg hc22, if_neg hc25, if_neg hc29, if_neg hc34, if_neg hc40, if_pos hc45]; apply decide_eq_decide.2; omega)
                  | (rw [if_neg hc22, if_neg hc25, if_neg hc29, if_neg hc34, if_neg hc40, if_neg hc45]; done)
/-- A small whole number's word. -/
def fInt (i : Nat) : Nat := double.nearest false i 0
theorem fInt_lt (i : Nat) : W64 (fInt i) := by
  have h : W64 (pkS false i 0 false) := pkS_lt _ _ _ _
  rw [pkS_f] at h; exact h
theorem FromInt70 {w : World} {p : Value} {i : Nat} (hi : i < 9223372036854775808) : Ret Tryz.prog 70 [p, i64c i] w (fun v w' => v = u64c (fInt i) ∧ w' = w) := by
  refine ret_of Tryz.func70 rfl Tryz.ntmps70 rfl ?_
  refine c_seq (fun K1 hK1 => ?_)
  refine c_reg ?_ -- region 0 numm.go:344
  refine wl (ro_assign rfl) ?_
  refine wl_nil (x_then (hK1 _ _ ?_))
  clear hK1 K1
  refine c_seq (fun K2 hK2 => ?_)
  refine c_seq (fun K3 hK3 => ?_)
  refine c_reg ?_ -- region 1 numm.go:345
  refine wl (ro_move rfl) ?_
  refine wl (ro_cmp (r := false) rfl rfl (by show some (decide ((i : Int) < 0)) = _; exact congrArg some (decide_eq_false (by omega)))) ?_
  refine wl_nil (x_then (hK3 _ _ ?_))
  clear hK3 K3
  refine wc_condF rfl ?_
  refine c_skip (x_then (hK2 _ _ ?_))
  clear hK2 K2
  refine forget [(1, _)] ⟨rfl, trivial⟩ (fun e => ?_)
  refine c_seq (fun K4 hK4 => ?_)
  refine c_reg ?_ -- region 3 numm.go:348
  refine wl (ro_move rfl) ?_
  refine wl (ro_conv (a := (i : Int)) rfl sc_3 in_117 (Go.IntWalk.u64_in _ (by omega))) ?_
  refine wl_call rfl en_122 (pack122 (sg := false) (man := i) (ex := 0) (st := false) (by unfold W64; omega) (by omega) (fun h ↦ by simp at h)) ?_
  rintro _ u0 ⟨rfl, hw0⟩
  rw [hw0]
  clear hw0 u0
  refine wl (ro_assign rfl) ?_
  refine wl_nil (x_then (hK4 _ _ ?_))
  clear hK4 K4
  refine c_ret ?_
  refine bp_ret Tryz.results70 rfl ?_
  exact ⟨by rw [pkS_f]; rfl, rfl⟩
end Go.Proofs.Qxb6500568aGreatDoor
