import Derived.Test.Qxb6500568aGreatDoorEa
/- The real scanner: runs of bytes; numbers. -/
namespace Go.Proofs.Qxb6500568aGreatDoor
open Ieee
set_option linter.unusedVariables false
set_option linter.unusedSimpArgs false

theorem words129 {w : World} {s : Str} {i : Nat} (hs : s.length < 4611686018427387904) (hi : i ≤ s.length) : Ret Tryz.prog 129 [S s, i64c i] w (fun v w' => v = i64c (twk isWrd s i) ∧ w' = w) := by
  refine ret_of Tryz.func129 rfl Tryz.ntmps129 rfl ?_
  refine c_seq (fun K1 hK1 => ?_)
  refine c_reg ?_ -- region 0 lex.go:13
  refine wl (ro_assign rfl) ?_
  refine wl_nil (x_then (hK1 _ _ ?_))
  clear hK1 K1
  refine forget [(0, _), (1, _)] ⟨rfl, rfl, trivial⟩ (fun e => ?_)
  refine c_seq (fun K2 hK2 => ?_)
  refine c_block ?_
  -- loop@r1: live slots [0, 1]
  refine c_loopG (fun n a' w' => ∃ j, n = s.length - j ∧ j ≤ s.length ∧ twk isWrd s j = twk isWrd s i ∧ w' = w ∧ ∃ e, a' = Fr 18 (upds e [(0, S s), (1, i64c j)]) []) (s.length - i) ⟨i, rfl, hi, rfl, rfl, kp _ ⟨rfl, rfl, trivial⟩⟩ ?_
  rintro n a' u1 ⟨j, rfl, hj, hjt, rfl, e, rfl⟩
  refine c_seq (fun K3 hK3 => ?_)
  refine c_seq (fun K4 hK4 => ?_)
  refine c_reg ?_ -- region 1 lex.go:14
  refine wl (ro_move rfl) ?_
  refine wl (ro_move rfl) ?_
  refine wl (ro_lenS rfl st_9) ?_
  refine wl (ro_cmp rfl rfl rfl) ?_
  refine wl_fork rfl (fun hg9 => ?_) (fun hg9 => ?_)
  · try simp only [decide_eq_true_eq, decide_eq_false_iff_not, Bool.not_eq_true', Bool.not_eq_false', Bool.not_eq_eq_eq_not, Bool.not_true, Bool.not_false, beq_iff_eq, bne_iff_ne, ne_eq, beq_eq_false_iff_ne, bne_eq_false_iff_eq, gt_iff_lt, ge_iff_le, Int.not_lt, Int.not_le] at hg9
    obtain ⟨c, hc⟩ : ∃ c, s[j]? = some c := ⟨_, List.getElem?_eq_getElem (by omega)⟩
    refine wlg_yes rfl (ro_move rfl) ?_
    refine wlg_yes rfl (ro_move rfl) ?_
    refine wlg_yes rfl (ro_indexS rfl rfl st_9 rfl (hc)) ?_
    refine wlg_call rfl rfl en_171 (word171) ?_
    rintro _ _ ⟨rfl, rfl⟩
    refine wl (ro_pick rfl rfl rfl) ?_
    refine wl_nil (x_then (hK4 _ _ ?_))
    clear hK4 K4
    refine wc_cond rfl (fun hc14 => ?_) (fun hc14 => ?_)
    · try simp only [decide_eq_true_eq, decide_eq_false_iff_not, Bool.not_eq_true', Bool.not_eq_false', Bool.not_eq_eq_eq_not, Bool.not_true, Bool.not_false, beq_iff_eq, bne_iff_ne, ne_eq, beq_eq_false_iff_ne, bne_eq_false_iff_eq, gt_iff_lt, ge_iff_le, Int.not_lt, Int.not_le] at hc14
      refine c_skip (x_then (hK3 _ _ ?_))
      clear hK3 K3
      refine c_block ?_
      refine c_reg ?_ -- region 2 lex.go:15
      refine wl (ro_move rfl) ?_
      refine wl (ro_arith rfl rfl rfl (Go.IntWalk.i64_in _ (by omega))) ?_
      refine wl (ro_assign rfl) ?_
      refine wl_nil (x_blk (x_then ?_))
      exact ⟨s.length - (j + 1), by omega, j + 1, rfl, by omega, by rw [twk_step hc hc14]; exact hjt, rfl, kp _ ⟨rfl, rfl, trivial⟩⟩
    · try simp only [decide_eq_true_eq, decide_eq_false_iff_not, Bool.not_eq_true', Bool.not_eq_false', Bool.not_eq_eq_eq_not, Bool.not_true, Bool.not_false, beq_iff_eq, bne_iff_ne, ne_eq, beq_eq_false_iff_ne, bne_eq_false_iff_eq, gt_iff_lt, ge_iff_le, Int.not_lt, Int.not_le] at hc14
      refine c_exit (x_thenX (x_thenX (x_blkX (x_then (hK2 _ _ ?_)))))
      clear hK3 K3 hK2 K2
      refine forget [(1, _)] ⟨rfl, trivial⟩ (fun e => ?_)
      refine c_seq (fun K5 hK5 => ?_)
      refine c_reg ?_ -- region 3 lex.go:17
      refine wl (ro_move rfl) ?_
      refine wl (ro_assign rfl) ?_
      refine wl_nil (x_then (hK5 _ _ ?_))
      clear hK5 K5
      refine c_ret ?_
      refine bp_ret Tryz.results129 rfl ?_
      exact ⟨by rw [← hjt, twk_stop hc hc14], rfl⟩
  · try simp only [decide_eq_true_eq, decide_eq_false_iff_not, Bool.not_eq_true', Bool.not_eq_false', Bool.not_eq_eq_eq_not, Bool.not_true, Bool.not_false, beq_iff_eq, bne_iff_ne, ne_eq, beq_eq_false_iff_ne, bne_eq_false_iff_eq, gt_iff_lt, ge_iff_le, Int.not_lt, Int.not_le] at hg9
    refine wlg_no rfl ?_
    refine wlg_no rfl ?_
    refine wlg_no rfl ?_
    refine wlg_no rfl ?_
    refine wl (ro_pick rfl rfl rfl) ?_
    refine wl_nil (x_then (hK4 _ _ ?_))
    clear hK4 K4
    refine wc_condF rfl ?_
    refine c_exit (x_thenX (x_thenX (x_blkX (x_then (hK2 _ _ ?_)))))
    clear hK3 K3 hK2 K2
    refine forget [(1, _)] ⟨rfl, trivial⟩ (fun e => ?_)
    refine c_seq (fun K6 hK6 => ?_)
    refine c_reg ?_ -- region 3 lex.go:17
    refine wl (ro_move rfl) ?_
    refine wl (ro_assign rfl) ?_
    refine wl_nil (x_then (hK6 _ _ ?_))
    clear hK6 K6
    refine c_ret ?_
    refine bp_ret Tryz.results129 rfl ?_
    exact ⟨by rw [← hjt, twk_end (by omega)], rfl⟩
theorem digits172 {w : World} {s : Str} {i : Nat} (hs : s.length < 4611686018427387904) (hi : i ≤ s.length) : Ret Tryz.prog 172 [S s, i64c i] w (fun v w' => v = i64c (twk isDig s i) ∧ w' = w) := by
  refine ret_of Tryz.func172 rfl Tryz.ntmps172 rfl ?_
  refine c_seq (fun K1 hK1 => ?_)
  refine c_reg ?_ -- region 0 lex.go:20
  refine wl (ro_assign rfl) ?_
  refine wl_nil (x_then (hK1 _ _ ?_))
  clear hK1 K1
  refine forget [(0, _), (1, _)] ⟨rfl, rfl, trivial⟩ (fun e => ?_)
  refine c_seq (fun K2 hK2 => ?_)
  refine c_block ?_
  -- loop@r1: live slots [0, 1]
  refine c_loopG (fun n a' w' => ∃ j, n = s.length - j ∧ j ≤ s.length ∧ twk isDig s j = twk isDig s i ∧ w' = w ∧ ∃ e, a' = Fr 18 (upds e [(0, S s), (1, i64c j)]) []) (s.length - i) ⟨i, rfl, hi, rfl, rfl, kp _ ⟨rfl, rfl, trivial⟩⟩ ?_
  rintro n a' u1 ⟨j, rfl, hj, hjt, rfl, e, rfl⟩
  refine c_seq (fun K3 hK3 => ?_)
  refine c_seq (fun K4 hK4 => ?_)
  refine c_reg ?_ -- region 1 lex.go:21
  refine wl (ro_move rfl) ?_
  refine wl (ro_move rfl) ?_
  refine wl (ro_lenS rfl st_9) ?_
  refine wl (ro_cmp rfl rfl rfl) ?_
  refine wl_fork rfl (fun hg9 => ?_) (fun hg9 => ?_)
  · try simp only [decide_eq_true_eq, decide_eq_false_iff_not, Bool.not_eq_true', Bool.not_eq_false', Bool.not_eq_eq_eq_not, Bool.not_true, Bool.not_false, beq_iff_eq, bne_iff_ne, ne_eq, beq_eq_false_iff_ne, bne_eq_false_iff_eq, gt_iff_lt, ge_iff_le, Int.not_lt, Int.not_le] at hg9
    obtain ⟨c, hc⟩ : ∃ c, s[j]? = some c := ⟨_, List.getElem?_eq_getElem (by omega)⟩
    refine wlg_yes rfl (ro_move rfl) ?_
    refine wlg_yes rfl (ro_move rfl) ?_
    refine wlg_yes rfl (ro_indexS rfl rfl st_9 rfl (hc)) ?_
    refine wlg_call rfl rfl en_215 (digit215) ?_
    rintro _ _ ⟨rfl, rfl⟩
    refine wl (ro_pick rfl rfl rfl) ?_
    refine wl_nil (x_then (hK4 _ _ ?_))
    clear hK4 K4
    refine wc_cond rfl (fun hc14 => ?_) (fun hc14 => ?_)
    · try simp only [decide_eq_true_eq, decide_eq_false_iff_not, Bool.not_eq_true', Bool.not_eq_false', Bool.not_eq_eq_eq_not, Bool.not_true, Bool.not_false, beq_iff_eq, bne_iff_ne, ne_eq, beq_eq_false_iff_ne, bne_eq_false_iff_eq, gt_iff_lt, ge_iff_le, Int.not_lt, Int.not_le] at hc14
      refine c_skip (x_then (hK3 _ _ ?_))
      clear hK3 K3
      refine c_block ?_
      refine c_reg ?_ -- region 2 lex.go:22
      refine wl (ro_move rfl) ?_
      refine wl (ro_arith rfl rfl rfl (Go.IntWalk.i64_in _ (by omega))) ?_
      refine wl (ro_assign rfl) ?_
      refine wl_nil (x_blk (x_then ?_))
      exact ⟨s.length - (j + 1), by omega, j + 1, rfl, by omega, by rw [twk_step hc hc14]; exact hjt, rfl, kp _ ⟨rfl, rfl, trivial⟩⟩
    · try simp only [decide_eq_true_eq, decide_eq_false_iff_not, Bool.not_eq_true', Bool.not_eq_false', Bool.not_eq_eq_eq_not, Bool.not_true, Bool.not_false, beq_iff_eq, bne_iff_ne, ne_eq, beq_eq_false_iff_ne, bne_eq_false_iff_eq, gt_iff_lt, ge_iff_le, Int.not_lt, Int.not_le] at hc14
      refine c_exit (x_thenX (x_thenX (x_blkX (x_then (hK2 _ _ ?_)))))
      clear hK3 K3 hK2 K2
      refine forget [(1, _)] ⟨rfl, trivial⟩ (fun e => ?_)
      refine c_seq (fun K5 hK5 => ?_)
      refine c_reg ?_ -- region 3 lex.go:24
      refine wl (ro_move rfl) ?_
      refine wl (ro_assign rfl) ?_
      refine wl_nil (x_then (hK5 _ _ ?_))
      clear hK5 K5
      refine c_ret ?_
      refine bp_ret Tryz.results172 rfl ?_
      exact ⟨by rw [← hjt, twk_stop hc hc14], rfl⟩
  · try simp only [decide_eq_true_eq, decide_eq_false_iff_not, Bool.not_eq_true', Bool.not_eq_false', Bool.not_eq_eq_eq_not, Bool.not_true, Bool.not_false, beq_iff_eq, bne_iff_ne, ne_eq, beq_eq_false_iff_ne, bne_eq_false_iff_eq, gt_iff_lt, ge_iff_le, Int.not_lt, Int.not_le] at hg9
    refine wlg_no rfl ?_
    refine wlg_no rfl ?_
    refine wlg_no rfl ?_
    refine wlg_no rfl ?_
    refine wl (ro_pick rfl rfl rfl) ?_
    refine wl_nil (x_then (hK4 _ _ ?_))
    clear hK4 K4
    refine wc_condF rfl ?_
    refine c_exit (x_thenX (x_thenX (x_blkX (x_then (hK2 _ _ ?_)))))
    clear hK3 K3 hK2 K2
    refine forget [(1, _)] ⟨rfl, trivial⟩ (fun e => ?_)
    refine c_seq (fun K6 hK6 => ?_)
    refine c_reg ?_ -- region 3 lex.go:24
    refine wl (ro_move rfl) ?_
    refine wl (ro_assign rfl) ?_
    refine wl_nil (x_then (hK6 _ _ ?_))
    clear hK6 K6
    refine c_ret ?_
    refine bp_ret Tryz.results172 rfl ?_
    exact ⟨by rw [← hjt, twk_end (by omega)], rfl⟩
def notQ (q c : UInt8) : Bool := decide (c ≠ q) && decide (c ≠ 10)
theorem u8_ne {a b : UInt8} : ((a.toNat : Int) ≠ (b.toNat : Int)) ↔ a ≠ b := by
  rw [ne_eq, ne_eq, Int.natCast_inj, UInt8.toNat_inj]
theorem until127 {w : World} {s : Str} {i : Nat} {q : UInt8} (hs : s.length < 4611686018427387904) (hi : i ≤ s.length) : Ret Tryz.prog 127 [S s, i64c i, u8c q] w (fun v w' => v = i64c (twk (notQ q) s i) ∧ w' = w) := by
  refine ret_of Tryz.func127 rfl Tryz.ntmps127 rfl ?_
  refine c_seq (fun K1 hK1 => ?_)
  refine c_reg ?_ -- region 0 lex.go:28
  refine wl (ro_assign rfl) ?_
  refine wl_nil (x_then (hK1 _ _ ?_))
  clear hK1 K1
  refine forget [(0, _), (1, _), (2, _)] ⟨rfl, rfl, rfl, trivial⟩ (fun e => ?_)
  refine c_seq (fun K2 hK2 => ?_)
  refine c_block ?_
  -- loop@r1: live slots [0, 1, 2]
  refine c_loopG (fun n a' w' => ∃ j, n = s.length - j ∧ j ≤ s.length ∧ twk (notQ q) s j = twk (notQ q) s i ∧ w' = w ∧ ∃ e, a' = Fr 27 (upds e [(0, S s), (1, i64c j), (2, u8c q)]) []) (s.length - i) ⟨i, rfl, hi, rfl, rfl, kp _ ⟨rfl, rfl, rfl, trivial⟩⟩ ?_
  rintro n a' u1 ⟨j, rfl, hj, hjt, rfl, e, rfl⟩
  refine c_seq (fun K3 hK3 => ?_)
  refine c_seq (fun K4 hK4 => ?_)
  refine c_reg ?_ -- region 1 lex.go:29
  refine wl (ro_move rfl) ?_
  refine wl (ro_move rfl) ?_
  refine wl (ro_lenS rfl st_9) ?_
  refine wl (ro_cmp rfl rfl rfl) ?_
  refine wl_fork rfl (fun hg11 => ?_) (fun hg11 => ?_)
  · try simp only [decide_eq_true_eq, decide_eq_false_iff_not, Bool.not_eq_true', Bool.not_eq_false', Bool.not_eq_eq_eq_not, Bool.not_true, Bool.not_false, beq_iff_eq, bne_iff_ne, ne_eq, beq_eq_false_iff_ne, bne_eq_false_iff_eq, gt_iff_lt, ge_iff_le, Int.not_lt, Int.not_le] at hg11
    obtain ⟨c, hc⟩ : ∃ c, s[j]? = some c := ⟨_, List.getElem?_eq_getElem (by omega)⟩
    refine wlg_yes rfl (ro_move rfl) ?_
    refine wlg_yes rfl (ro_move rfl) ?_
    refine wlg_yes rfl (ro_indexS rfl rfl st_9 rfl (hc)) ?_
    refine wlg_yes rfl (ro_move rfl) ?_
    refine wlg_yes rfl (ro_cmp rfl rfl rfl) ?_
    refine wl (ro_pick rfl rfl rfl) ?_
    refine wl_fork rfl (fun hg18 => ?_) (fun hg18 => ?_)
    · try simp only [decide_eq_true_eq, decide_eq_false_iff_not, Bool.not_eq_true', Bool.not_eq_false', Bool.not_eq_eq_eq_not, Bool.not_true, Bool.not_false, beq_iff_eq, bne_iff_ne, ne_eq, beq_eq_false_iff_ne, bne_eq_false_iff_eq, gt_iff_lt, ge_iff_le, Int.not_lt, Int.not_le] at hg18
      refine wlg_yes rfl (ro_move rfl) ?_
      refine wlg_yes rfl (ro_move rfl) ?_
      refine wlg_yes rfl (ro_indexS rfl rfl st_9 rfl (hc)) ?_
      refine wlg_yes rfl (ro_cmp rfl rfl rfl) ?_
      refine wl (ro_pick rfl rfl rfl) ?_
      refine wl_nil (x_then (hK4 _ _ ?_))
      clear hK4 K4
      refine wc_cond rfl (fun hc23 => ?_) (fun hc23 => ?_)
      · try simp only [decide_eq_true_eq, decide_eq_false_iff_not, Bool.not_eq_true', Bool.not_eq_false', Bool.not_eq_eq_eq_not, Bool.not_true, Bool.not_false, beq_iff_eq, bne_iff_ne, ne_eq, beq_eq_false_iff_ne, bne_eq_false_iff_eq, gt_iff_lt, ge_iff_le, Int.not_lt, Int.not_le] at hc23
        refine c_skip (x_then (hK3 _ _ ?_))
        clear hK3 K3
        refine c_block ?_
        refine c_reg ?_ -- region 2 lex.go:30
        refine wl (ro_move rfl) ?_
        refine wl (ro_arith rfl rfl rfl (Go.IntWalk.i64_in _ (by omega))) ?_
        refine wl (ro_assign rfl) ?_
        refine wl_nil (x_blk (x_then ?_))
        refine ⟨s.length - (j + 1), by omega, j + 1, rfl, by omega, ?_, rfl, kp _ ⟨rfl, rfl, rfl, trivial⟩⟩
        rw [twk_step hc ?_]
        · exact hjt
        · unfold notQ
          have h1 : c ≠ q := u8_ne.1 hg18
          have h2 : c ≠ 10 := fun h => hc23 (by rw [h]; rfl)
          simp [h1, h2]
      · try simp only [decide_eq_true_eq, decide_eq_false_iff_not, Bool.not_eq_true', Bool.not_eq_false', Bool.not_eq_eq_eq_not, Bool.not_true, Bool.not_false, beq_iff_eq, bne_iff_ne, ne_eq, beq_eq_false_iff_ne, bne_eq_false_iff_eq, gt_iff_lt, ge_iff_le, Int.not_lt, Int.not_le] at hc23
        refine c_exit (x_thenX (x_thenX (x_blkX (x_then (hK2 _ _ ?_)))))
        clear hK3 K3 hK2 K2
        refine forget [(1, _)] ⟨rfl, trivial⟩ (fun e => ?_)
        refine c_seq (fun K5 hK5 => ?_)
        refine c_reg ?_ -- region 3 lex.go:32
        refine wl (ro_move rfl) ?_
        refine wl (ro_assign rfl) ?_
        refine wl_nil (x_then (hK5 _ _ ?_))
        clear hK5 K5
        refine c_ret ?_
        refine bp_ret Tryz.results127 rfl ?_
        refine ⟨?_, rfl⟩
        rw [← hjt, twk_stop hc ?_]
        · unfold notQ
          have h2 : c = 10 := by
            have := (u8_beq c 10 (by decide)).2 hc23
            exact this
          simp [h2]
    · try simp only [decide_eq_true_eq, decide_eq_false_iff_not, Bool.not_eq_true', Bool.not_eq_false', Bool.not_eq_eq_eq_not, Bool.not_true, Bool.not_false, beq_iff_eq, bne_iff_ne, ne_eq, beq_eq_false_iff_ne, bne_eq_false_iff_eq, gt_iff_lt, ge_iff_le, Int.not_lt, Int.not_le] at hg18
      refine wlg_no rfl ?_
      refine wlg_no rfl ?_
      refine wlg_no rfl ?_
      refine wlg_no rfl ?_
      refine wl (ro_pick rfl rfl rfl) ?_
      refine wl_nil (x_then (hK4 _ _ ?_))
      clear hK4 K4
      refine wc_condF rfl ?_
      refine c_exit (x_thenX (x_thenX (x_blkX (x_then (hK2 _ _ ?_)))))
      clear hK3 K3 hK2 K2
      refine forget [(1, _)] ⟨rfl, trivial⟩ (fun e => ?_)
      refine c_seq (fun K6 hK6 => ?_)
      refine c_reg ?_ -- region 3 lex.go:32
      refine wl (ro_move rfl) ?_
      refine wl (ro_assign rfl) ?_
      refine wl_nil (x_then (hK6 _ _ ?_))
      clear hK6 K6
      refine c_ret ?_
      refine bp_ret Tryz.results127 rfl ?_
      refine ⟨?_, rfl⟩
      rw [← hjt, twk_stop hc ?_]
      · unfold notQ
        have h2 : c = q := Decidable.byContradiction (fun h => u8_ne.2 h hg18)
        simp [h2]
  · try simp only [decide_eq_true_eq, decide_eq_false_iff_not, Bool.not_eq_true', Bool.not_eq_false', Bool.not_eq_eq_eq_not, Bool.not_true, Bool.not_false, beq_iff_eq, bne_iff_ne, ne_eq, beq_eq_false_iff_ne, bne_eq_false_iff_eq, gt_iff_lt, ge_iff_le, Int.not_lt, Int.not_le] at hg11
    refine wlg_no rfl ?_
    refine wlg_no rfl ?_
    refine wlg_no rfl ?_
    refine wlg_no rfl ?_
    refine wlg_no rfl ?_
    refine wl (ro_pick rfl rfl rfl) ?_
    refine wl (ro_move rfl) ?_
    refine wlg_no rfl ?_
    refine wlg_no rfl ?_
    refine wlg_no rfl ?_
    refine wlg_no rfl ?_
    refine wl (ro_pick rfl rfl rfl) ?_
    refine wl_nil (x_then (hK4 _ _ ?_))
    clear hK4 K4
    refine wc_condF rfl ?_
    refine c_exit (x_thenX (x_thenX (x_blkX (x_then (hK2 _ _ ?_)))))
    clear hK3 K3 hK2 K2
    refine forget [(1, _)] ⟨rfl, trivial⟩ (fun e => ?_)
    refine c_seq (fun K7 hK7 => ?_)
    refine c_reg ?_ -- region 3 lex.go:32
    refine wl (ro_move rfl) ?_
    refine wl (ro_assign rfl) ?_
    refine wl_nil (x_then (hK7 _ _ ?_))
    clear hK7 K7
    refine c_ret ?_
    refine bp_ret Tryz.results127 rfl ?_
    exact ⟨by rw [← hjt, twk_end (by omega)], rfl⟩
theorem has173 {w : World} {s : Str} {i : Nat} (hs : s.length < 4611686018427387904) : Ret Tryz.prog 173 [S s, i64c i] w (fun v w' => v = .bool ((s[i]?.map isDig).getD false) ∧ w' = w) := by
  refine ret_of Tryz.func173 rfl Tryz.ntmps173 rfl ?_
  refine c_seq (fun K1 hK1 => ?_)
  refine c_reg ?_ -- region 0 lex.go:36
  refine wl (ro_assign rfl) ?_
  refine wl_nil (x_then (hK1 _ _ ?_))
  clear hK1 K1
  refine forget [(0, _), (1, _)] ⟨rfl, rfl, trivial⟩ (fun e => ?_)
  refine c_seq (fun K2 hK2 => ?_)
  refine c_reg ?_ -- region 1 lex.go:36
  refine wl (ro_move rfl) ?_
  refine wl (ro_move rfl) ?_
  refine wl (ro_lenS rfl st_9) ?_
  refine wl (ro_cmp rfl rfl rfl) ?_
  refine wl_fork rfl (fun hg9 => ?_) (fun hg9 => ?_)
  · try simp only [decide_eq_true_eq, decide_eq_false_iff_not, Bool.not_eq_true', Bool.not_eq_false', Bool.not_eq_eq_eq_not, Bool.not_true, Bool.not_false, beq_iff_eq, bne_iff_ne, ne_eq, beq_eq_false_iff_ne, bne_eq_false_iff_eq, gt_iff_lt, ge_iff_le, Int.not_lt, Int.not_le] at hg9
    obtain ⟨c, hc⟩ : ∃ c, s[i]? = some c := ⟨_, List.getElem?_eq_getElem (by omega)⟩
    refine wlg_yes rfl (ro_move rfl) ?_
    refine wlg_yes rfl (ro_move rfl) ?_
    refine wlg_yes rfl (ro_indexS rfl rfl st_9 rfl (hc)) ?_
    refine wlg_call rfl rfl en_215 (digit215) ?_
    rintro _ _ ⟨rfl, rfl⟩
    refine wl (ro_pick rfl rfl rfl) ?_
    refine wl (ro_assign rfl) ?_
    refine wl_nil (x_then (hK2 _ _ ?_))
    clear hK2 K2
    refine c_ret ?_
    refine bp_ret Tryz.results173 rfl ?_
    exact ⟨by rw [hc]; rfl, rfl⟩
  · try simp only [decide_eq_true_eq, decide_eq_false_iff_not, Bool.not_eq_true', Bool.not_eq_false', Bool.not_eq_eq_eq_not, Bool.not_true, Bool.not_false, beq_iff_eq, bne_iff_ne, ne_eq, beq_eq_false_iff_ne, bne_eq_false_iff_eq, gt_iff_lt, ge_iff_le, Int.not_lt, Int.not_le] at hg9
    refine wlg_no rfl ?_
    refine wlg_no rfl ?_
    refine wlg_no rfl ?_
    refine wlg_no rfl ?_
    refine wl (ro_pick rfl rfl rfl) ?_
    refine wl (ro_assign rfl) ?_
    refine wl_nil (x_then (hK2 _ _ ?_))
    clear hK2 K2
    refine c_ret ?_
    refine bp_ret Tryz.results173 rfl ?_
    exact ⟨by rw [List.getElem?_eq_none (by omega)]; rfl, rfl⟩

def dgA (s : Str) (j : Nat) : Bool := (s[j]?.map isDig).getD false
/-- Where the number that opens at i ends. -/
def numE (s : Str) (i : Nat) : Nat :=
  match s[twk isDig s i]? with
  | none => twk isDig s i
  | some c => if (c = 46 ∨ c = 112) ∧ dgA s (twk isDig s i + 1) = true then twk isDig s (twk isDig s i + 1)
    else if c = 112 ∧ s[twk isDig s i + 1]? = some 45 ∧ dgA s (twk isDig s i + 2) = true then twk isDig s (twk isDig s i + 2) else twk isDig s i
theorem numE_eq (s : Str) (i : Nat) : i + numLen (s.drop i) = numE s i := by
  have hE : i + ((s.drop i).takeWhile isDig).length = twk isDig s i := rfl
  have hr : (s.drop i).drop ((s.drop i).takeWhile isDig).length = s.drop (twk isDig s i) := by rw [List.drop_drop, hE]
  unfold numLen numE
  dsimp only
  rw [hr]
  cases hc : s[twk isDig s i]? with
  | none =>
    have : s.drop (twk isDig s i) = [] := List.drop_eq_nil_of_le (by rw [List.getElem?_eq_none_iff] at hc; exact hc)
    rw [this]
    exact hE
  | some c =>
    have hl := (List.getElem?_eq_some_iff.1 hc).1
    rw [List.drop_eq_getElem_cons hl, (List.getElem?_eq_some_iff.1 hc).2]
    dsimp only
    have h1 : (s.drop (twk isDig s i + 1)).head? = s[twk isDig s i + 1]? := by rw [List.head?_drop]
    have h2 : (s.drop (twk isDig s i + 1)).tail = s.drop (twk isDig s i + 2) := by rw [List.tail_drop]
    have h3 : (s.drop (twk isDig s i + 2)).head? = s[twk isDig s i + 2]? := by rw [List.head?_drop]
    rw [h1, h2, h3]
    have t1 : i + (((s.drop i).takeWhile isDig).length + 1 + ((s.drop (twk isDig s i + 1)).takeWhile isDig).length) = twk isDig s (twk isDig s i + 1) := by
      show _ = twk isDig s i + 1 + _
      omega
    have t2 : i + (((s.drop i).takeWhile isDig).length + 2 + ((s.drop (twk isDig s i + 2)).takeWhile isDig).length) = twk isDig s (twk isDig s i + 2) := by
      show _ = twk isDig s i + 2 + _
      omega
    show i + (if c = 46 ∧ dgA s (twk isDig s i + 1) = true then _ else if c = 112 ∧ dgA s (twk isDig s i + 1) = true then _ else if c = 112 ∧ s[twk isDig s i + 1]? = some 45 ∧ dgA s (twk isDig s i + 2) = true then _ else _) = _
    by_cases q1 : c = 46 ∧ dgA s (twk isDig s i + 1) = true
    · rw [if_pos q1, if_pos ⟨.inl q1.1, q1.2⟩, t1]
    · by_cases q2 : c = 112 ∧ dgA s (twk isDig s i + 1) = true
      · rw [if_neg q1, if_pos q2, if_pos ⟨.inr q2.1, q2.2⟩, t1]
      · have q3 : ¬ ((c = 46 ∨ c = 112) ∧ dgA s (twk isDig s i + 1) = true) := fun h => by
          rcases h with ⟨h | h, h'⟩
          · exact q1 ⟨h, h'⟩
          · exact q2 ⟨h, h'⟩
        rw [if_neg q1, if_neg q2, if_neg q3]
        by_cases q4 : c = 112 ∧ s[twk isDig s i + 1]? = some 45 ∧ dgA s (twk isDig s i + 2) = true
        · rw [if_pos q4, if_pos q4]; exact t2
        · rw [if_neg q4, if_neg q4]; exact hE
theorem num_k1 {s : Str} {i : Nat} {c : UInt8} (hc : s[twk isDig s i]? = some c) (h : (c.toNat : Int) = 46 ∨ (c.toNat : Int) = 112) (hd : dgA s (twk isDig s i + 1) = true) : numE s i = twk isDig s (twk isDig s i + 1) := by
  unfold numE
  rw [hc]
  dsimp only
  have hq : c = 46 ∨ c = 112 := by
    rcases h with h | h
    · exact .inl ((u8_beq c 46 (by decide)).2 h)
    · exact .inr ((u8_beq c 112 (by decide)).2 h)
  rw [if_pos ⟨hq, hd⟩]
theorem num_k2 {s : Str} {i : Nat} {c d : UInt8} (hc : s[twk isDig s i]? = some c) (h : (c.toNat : Int) = 112) (h1 : dgA s (twk isDig s i + 1) = false) (hd : s[twk isDig s i + 1]? = some d) (hdd : (d.toNat : Int) = 45) (h2 : dgA s (twk isDig s i + 2) = true) : numE s i = twk isDig s (twk isDig s i + 2) := by
  unfold numE
  rw [hc]
  dsimp only
  rw [if_neg (fun q => by rw [h1] at q; cases q.2), if_pos ⟨(u8_beq c 112 (by decide)).2 h, by rw [hd]; exact congrArg some ((u8_beq d 45 (by decide)).2 hdd), h2⟩]
theorem num_k0 {s : Str} {i : Nat} {c : UInt8} (hc : s[twk isDig s i]? = some c) (h1 : dgA s (twk isDig s i + 1) = true → (c.toNat : Int) ≠ 46 ∧ (c.toNat : Int) ≠ 112) (h2 : dgA s (twk isDig s i + 2) = true → (c.toNat : Int) = 112 → ∀ d : UInt8, s[twk isDig s i + 1]? = some d → (d.toNat : Int) ≠ 45) : numE s i = twk isDig s i := by
  unfold numE
  rw [hc]
  dsimp only
  have a1 : ¬ ((c = 46 ∨ c = 112) ∧ dgA s (twk isDig s i + 1) = true) := by
    rintro ⟨q1, q2⟩
    rcases q1 with q1 | q1
    · subst q1; exact (h1 q2).1 rfl
    · subst q1; exact (h1 q2).2 rfl
  have a2 : ¬ (c = 112 ∧ s[twk isDig s i + 1]? = some 45 ∧ dgA s (twk isDig s i + 2) = true) := by
    rintro ⟨q1, q2, q3⟩
    subst q1
    exact h2 q3 rfl 45 q2 rfl
  rw [if_neg a1, if_neg a2]
theorem number131 {w : World} {s : Str} {i : Nat} (hs : s.length < 4611686018427387904) (hi : i ≤ s.length) : Ret Tryz.prog 131 [S s, i64c i] w (fun v w' => v = i64c (numE s i) ∧ w' = w) := by
  have hle := twk_le (p := isDig) hi
  refine ret_of Tryz.func131 rfl Tryz.ntmps131 rfl ?_
  refine c_seq (fun K1 hK1 => ?_)
  refine c_reg ?_ -- region 0 lex.go:39
  refine wl (ro_assign rfl) ?_
  refine wl_nil (x_then (hK1 _ _ ?_))
  clear hK1 K1
  refine forget [(0, _), (1, _)] ⟨rfl, rfl, trivial⟩ (fun e => ?_)
  refine c_seq (fun K2 hK2 => ?_)
  refine c_reg ?_ -- region 1 lex.go:40
  refine wl (ro_move rfl) ?_
  refine wl (ro_move rfl) ?_
  refine wl_call rfl en_172 (digits172 hs hi) ?_
  rintro _ u0 ⟨rfl, hw0⟩
  rw [hw0]
  clear hw0 u0
  refine wl (ro_assign rfl) ?_
  refine wl_nil (x_then (hK2 _ _ ?_))
  clear hK2 K2
  refine c_seq (fun K3 hK3 => ?_)
  refine c_seq (fun K4 hK4 => ?_)
  refine c_reg ?_ -- region 2 lex.go:41
  refine wl (ro_move rfl) ?_
  refine wl (ro_move rfl) ?_
  refine wl (ro_lenS rfl st_9) ?_
  refine wl (ro_cmp rfl rfl rfl) ?_
  refine wl_nil (x_then (hK4 _ _ ?_))
  clear hK4 K4
  refine wc_cond rfl (fun hc12 => ?_) (fun hc12 => ?_)
  · try simp only [decide_eq_true_eq, decide_eq_false_iff_not, Bool.not_eq_true', Bool.not_eq_false', Bool.not_eq_eq_eq_not, Bool.not_true, Bool.not_false, beq_iff_eq, bne_iff_ne, ne_eq, beq_eq_false_iff_ne, bne_eq_false_iff_eq, gt_iff_lt, ge_iff_le, Int.not_lt, Int.not_le] at hc12
    refine c_seq (fun K5 hK5 => ?_)
    refine c_reg ?_ -- region 3 lex.go:42
    refine wl (ro_move rfl) ?_
    refine wl (ro_assign rfl) ?_
    refine wl_nil (x_then (hK5 _ _ ?_))
    clear hK5 K5
    refine c_ret (x_thenR ?_)
    refine bp_ret Tryz.results131 rfl ?_
    exact ⟨by unfold numE; rw [List.getElem?_eq_none (by omega)], rfl⟩
  · try simp only [decide_eq_true_eq, decide_eq_false_iff_not, Bool.not_eq_true', Bool.not_eq_false', Bool.not_eq_eq_eq_not, Bool.not_true, Bool.not_false, beq_iff_eq, bne_iff_ne, ne_eq, beq_eq_false_iff_ne, bne_eq_false_iff_eq, gt_iff_lt, ge_iff_le, Int.not_lt, Int.not_le] at hc12
    obtain ⟨c, hc⟩ : ∃ c, s[twk isDig s i]? = some c := ⟨_, List.getElem?_eq_getElem (by omega)⟩
    refine c_skip (x_then (hK3 _ _ ?_))
    clear hK3 K3
    refine forget [(0, _), (1, _)] ⟨rfl, rfl, trivial⟩ (fun e => ?_)
    refine c_seq (fun K6 hK6 => ?_)
    refine c_reg ?_ -- region 4 lex.go:44
    refine wl (ro_assign rfl) ?_
    refine wl_nil (x_then (hK6 _ _ ?_))
    clear hK6 K6
    refine forget [(0, _), (1, _), (5, _)] ⟨rfl, rfl, rfl, trivial⟩ (fun e => ?_)
    refine c_mid (fun a' w' => w' = w ∧ ∃ k, twk isDig s i + k ≤ s.length ∧ k ≤ 2 ∧ numE s i = (if k = 0 then twk isDig s i else twk isDig s (twk isDig s i + k)) ∧ ∃ e, a' = Fr 56 (upds e [(0, S s), (1, i64c (twk isDig s i)), (5, i64c k)]) []) ?_ ?_
    · skip
      refine c_block ?_
      refine c_seq (fun K7 hK7 => ?_)
      refine c_reg ?_ -- region 5 lex.go:46
      refine wl (ro_move rfl) ?_
      refine wl (ro_move rfl) ?_
      refine wl (ro_indexS rfl rfl st_9 rfl (hc)) ?_
      refine wl (ro_cmp rfl rfl rfl) ?_
      refine wl_fork rfl (fun hg19 => ?_) (fun hg19 => ?_)
      · try simp only [decide_eq_true_eq, decide_eq_false_iff_not, Bool.not_eq_true', Bool.not_eq_false', Bool.not_eq_eq_eq_not, Bool.not_true, Bool.not_false, beq_iff_eq, bne_iff_ne, ne_eq, beq_eq_false_iff_ne, bne_eq_false_iff_eq, gt_iff_lt, ge_iff_le, Int.not_lt, Int.not_le] at hg19
        refine wlg_yes rfl (ro_move rfl) ?_
        refine wlg_yes rfl (ro_move rfl) ?_
        refine wlg_yes rfl (ro_indexS rfl rfl st_9 rfl (hc)) ?_
        refine wlg_yes rfl (ro_cmp rfl rfl rfl) ?_
        refine wl (ro_pick rfl rfl rfl) ?_
        refine wl (ro_assign rfl) ?_
        refine wl_nil (x_then (hK7 _ _ ?_))
        clear hK7 K7
        refine wc_cond rfl (fun hc14 => ?_) (fun hc14 => ?_)
        · try simp only [decide_eq_true_eq, decide_eq_false_iff_not, Bool.not_eq_true', Bool.not_eq_false', Bool.not_eq_eq_eq_not, Bool.not_true, Bool.not_false, beq_iff_eq, bne_iff_ne, ne_eq, beq_eq_false_iff_ne, bne_eq_false_iff_eq, gt_iff_lt, ge_iff_le, Int.not_lt, Int.not_le] at hc14
          refine c_skip (x_blk (x_then ?_))
          have hk : numE s i = twk isDig s i := num_k0 hc (fun q => by exact ⟨by omega, by omega⟩) (fun q1 q2 d hd => by omega)
          exact ⟨rfl, 0, by omega, by omega, by rw [if_pos rfl]; exact hk, kp _ ⟨rfl, rfl, rfl, trivial⟩⟩
        · try simp only [decide_eq_true_eq, decide_eq_false_iff_not, Bool.not_eq_true', Bool.not_eq_false', Bool.not_eq_eq_eq_not, Bool.not_true, Bool.not_false, beq_iff_eq, bne_iff_ne, ne_eq, beq_eq_false_iff_ne, bne_eq_false_iff_eq, gt_iff_lt, ge_iff_le, Int.not_lt, Int.not_le] at hc14
          refine c_seq (fun K8 hK8 => ?_)
          refine c_reg ?_ -- region 6 lex.go:47
          refine wl (ro_move rfl) ?_
          refine wl (ro_move rfl) ?_
          refine wl (ro_arith rfl rfl rfl (Go.IntWalk.i64_in _ (by omega))) ?_
          refine wl_call rfl en_173 (has173 hs) ?_
          rintro _ u0 ⟨rfl, hw0⟩
          rw [hw0]
          clear hw0 u0
          refine wl (ro_assign rfl) ?_
          refine wl_nil (x_then (hK8 _ _ ?_))
          clear hK8 K8
          refine wc_cond rfl (fun hc25 => ?_) (fun hc25 => ?_)
          · try simp only [decide_eq_true_eq, decide_eq_false_iff_not, Bool.not_eq_true', Bool.not_eq_false', Bool.not_eq_eq_eq_not, Bool.not_true, Bool.not_false, beq_iff_eq, bne_iff_ne, ne_eq, beq_eq_false_iff_ne, bne_eq_false_iff_eq, gt_iff_lt, ge_iff_le, Int.not_lt, Int.not_le] at hc25
            refine c_reg ?_ -- region 7 lex.go:48
            refine wl (ro_assign rfl) ?_
            refine wl_nil (x_blk (x_then ?_))
            exact ⟨rfl, 1, by omega, by omega, by rw [if_neg (by omega)]; exact num_k1 hc (.inr hc14) hc25, kp _ ⟨rfl, rfl, rfl, trivial⟩⟩
          · try simp only [decide_eq_true_eq, decide_eq_false_iff_not, Bool.not_eq_true', Bool.not_eq_false', Bool.not_eq_eq_eq_not, Bool.not_true, Bool.not_false, beq_iff_eq, bne_iff_ne, ne_eq, beq_eq_false_iff_ne, bne_eq_false_iff_eq, gt_iff_lt, ge_iff_le, Int.not_lt, Int.not_le] at hc25
            refine c_seq (fun K9 hK9 => ?_)
            refine c_reg ?_ -- region 8 lex.go:49
            refine wl (ro_move rfl) ?_
            refine wl (ro_move rfl) ?_
            refine wl (ro_arith rfl rfl rfl (Go.IntWalk.i64_in _ (by omega))) ?_
            refine wl_call rfl en_173 (has173 hs) ?_
            rintro _ u0 ⟨rfl, hw0⟩
            rw [hw0]
            clear hw0 u0
            refine wl_fork rfl (fun hg35 => ?_) (fun hg35 => ?_)
            · try simp only [decide_eq_true_eq, decide_eq_false_iff_not, Bool.not_eq_true', Bool.not_eq_false', Bool.not_eq_eq_eq_not, Bool.not_true, Bool.not_false, beq_iff_eq, bne_iff_ne, ne_eq, beq_eq_false_iff_ne, bne_eq_false_iff_eq, gt_iff_lt, ge_iff_le, Int.not_lt, Int.not_le] at hg35
              refine wlg_yes rfl (ro_move rfl) ?_
              refine wlg_yes rfl (ro_move rfl) ?_
              refine wlg_yes rfl (ro_indexS rfl rfl st_9 rfl (hc)) ?_
              refine wlg_yes rfl (ro_cmp rfl rfl rfl) ?_
              refine wl (ro_pick rfl rfl rfl) ?_
              refine wl_fork rfl (fun hg41 => ?_) (fun hg41 => ?_)
              · try simp only [decide_eq_true_eq, decide_eq_false_iff_not, Bool.not_eq_true', Bool.not_eq_false', Bool.not_eq_eq_eq_not, Bool.not_true, Bool.not_false, beq_iff_eq, bne_iff_ne, ne_eq, beq_eq_false_iff_ne, bne_eq_false_iff_eq, gt_iff_lt, ge_iff_le, Int.not_lt, Int.not_le] at hg41
                obtain ⟨d, hd0⟩ : ∃ d, s[twk isDig s i + 1]? = some d := ⟨_, List.getElem?_eq_getElem (by
                  rcases Nat.lt_or_ge (twk isDig s i + 2) s.length with q | q
                  · omega
                  · have h' : dgA s (twk isDig s i + 2) = true := hg35
                    unfold dgA at h'; rw [List.getElem?_eq_none q] at h'; cases h')⟩
                refine wlg_yes rfl (ro_move rfl) ?_
                refine wlg_yes rfl (ro_move rfl) ?_
                refine wlg_yes rfl (ro_arith rfl rfl rfl (Go.IntWalk.i64_in _ (by omega))) ?_
                refine wlg_yes rfl (ro_indexS rfl rfl st_9 rfl (hd0)) ?_
                refine wlg_yes rfl (ro_cmp rfl rfl rfl) ?_
                refine wl (ro_pick rfl rfl rfl) ?_
                refine wl (ro_assign rfl) ?_
                refine wl_nil (x_then (hK9 _ _ ?_))
                clear hK9 K9
                refine wc_cond rfl (fun hc30 => ?_) (fun hc30 => ?_)
                · try simp only [decide_eq_true_eq, decide_eq_false_iff_not, Bool.not_eq_true', Bool.not_eq_false', Bool.not_eq_eq_eq_not, Bool.not_true, Bool.not_false, beq_iff_eq, bne_iff_ne, ne_eq, beq_eq_false_iff_ne, bne_eq_false_iff_eq, gt_iff_lt, ge_iff_le, Int.not_lt, Int.not_le] at hc30
                  refine c_reg ?_ -- region 9 lex.go:50
                  refine wl (ro_assign rfl) ?_
                  refine wl_nil (x_blk (x_then ?_))
                  have h2l : twk isDig s i + 2 < s.length := by
                    rcases Nat.lt_or_ge (twk isDig s i + 2) s.length with q | q
                    · exact q
                    · have h' : dgA s (twk isDig s i + 2) = true := hg35
                      unfold dgA at h'; rw [List.getElem?_eq_none q] at h'; cases h'
                  exact ⟨rfl, 2, by omega, by omega, by rw [if_neg (by omega)]; exact num_k2 hc hg41 hc25 hd0 hc30 hg35, kp _ ⟨rfl, rfl, rfl, trivial⟩⟩
                · try simp only [decide_eq_true_eq, decide_eq_false_iff_not, Bool.not_eq_true', Bool.not_eq_false', Bool.not_eq_eq_eq_not, Bool.not_true, Bool.not_false, beq_iff_eq, bne_iff_ne, ne_eq, beq_eq_false_iff_ne, bne_eq_false_iff_eq, gt_iff_lt, ge_iff_le, Int.not_lt, Int.not_le] at hc30
                  refine c_skip (x_blk (x_then ?_))
                  have hk : numE s i = twk isDig s i := num_k0 hc (fun q => by exact absurd q (by rw [show dgA s (twk isDig s i + 1) = false from hc25]; simp)) (fun q1 q2 d hd => by rw [hd0] at hd; cases hd; exact hc30)
                  exact ⟨rfl, 0, by omega, by omega, by rw [if_pos rfl]; exact hk, kp _ ⟨rfl, rfl, rfl, trivial⟩⟩
              · try simp only [decide_eq_true_eq, decide_eq_false_iff_not, Bool.not_eq_true', Bool.not_eq_false', Bool.not_eq_eq_eq_not, Bool.not_true, Bool.not_false, beq_iff_eq, bne_iff_ne, ne_eq, beq_eq_false_iff_ne, bne_eq_false_iff_eq, gt_iff_lt, ge_iff_le, Int.not_lt, Int.not_le] at hg41
                refine wlg_no rfl ?_
                refine wlg_no rfl ?_
                refine wlg_no rfl ?_
                refine wlg_no rfl ?_
                refine wlg_no rfl ?_
                refine wl (ro_pick rfl rfl rfl) ?_
                refine wl (ro_assign rfl) ?_
                refine wl_nil (x_then (hK9 _ _ ?_))
                clear hK9 K9
                refine wc_condF rfl ?_
                refine c_skip (x_blk (x_then ?_))
                have hk : numE s i = twk isDig s i := num_k0 hc (fun q => by exact absurd q (by rw [show dgA s (twk isDig s i + 1) = false from hc25]; simp)) (fun q1 q2 d hd => by omega)
                exact ⟨rfl, 0, by omega, by omega, by rw [if_pos rfl]; exact hk, kp _ ⟨rfl, rfl, rfl, trivial⟩⟩
            · try simp only [decide_eq_true_eq, decide_eq_false_iff_not, Bool.not_eq_true', Bool.not_eq_false', Bool.not_eq_eq_eq_not, Bool.not_true, Bool.not_false, beq_iff_eq, bne_iff_ne, ne_eq, beq_eq_false_iff_ne, bne_eq_false_iff_eq, gt_iff_lt, ge_iff_le, Int.not_lt, Int.not_le] at hg35
              refine wlg_no rfl ?_
              refine wlg_no rfl ?_
              refine wlg_no rfl ?_
              refine wlg_no rfl ?_
              refine wl (ro_pick rfl rfl rfl) ?_
              refine wl (ro_move rfl) ?_
              refine wlg_no rfl ?_
              refine wlg_no rfl ?_
              refine wlg_no rfl ?_
              refine wlg_no rfl ?_
              refine wlg_no rfl ?_
              refine wl (ro_pick rfl rfl rfl) ?_
              refine wl (ro_assign rfl) ?_
              refine wl_nil (x_then (hK9 _ _ ?_))
              clear hK9 K9
              refine wc_condF rfl ?_
              refine c_skip (x_blk (x_then ?_))
              have hk : numE s i = twk isDig s i := num_k0 hc (fun q => by exact absurd q (by rw [show dgA s (twk isDig s i + 1) = false from hc25]; simp)) (fun q1 q2 d hd => by exact absurd q1 (by rw [show dgA s (twk isDig s i + 2) = false from hg35]; simp))
              exact ⟨rfl, 0, by omega, by omega, by rw [if_pos rfl]; exact hk, kp _ ⟨rfl, rfl, rfl, trivial⟩⟩
      · try simp only [decide_eq_true_eq, decide_eq_false_iff_not, Bool.not_eq_true', Bool.not_eq_false', Bool.not_eq_eq_eq_not, Bool.not_true, Bool.not_false, beq_iff_eq, bne_iff_ne, ne_eq, beq_eq_false_iff_ne, bne_eq_false_iff_eq, gt_iff_lt, ge_iff_le, Int.not_lt, Int.not_le] at hg19
        refine wlg_no rfl ?_
        refine wlg_no rfl ?_
        refine wlg_no rfl ?_
        refine wlg_no rfl ?_
        refine wl (ro_pick rfl rfl rfl) ?_
        refine wl (ro_assign rfl) ?_
        refine wl_nil (x_then (hK7 _ _ ?_))
        clear hK7 K7
        refine wc_condF rfl ?_
        refine c_seq (fun K10 hK10 => ?_)
        refine c_reg ?_ -- region 6 lex.go:47
        refine wl (ro_move rfl) ?_
        refine wl (ro_move rfl) ?_
        refine wl (ro_arith rfl rfl rfl (Go.IntWalk.i64_in _ (by omega))) ?_
        refine wl_call rfl en_173 (has173 hs) ?_
        rintro _ u0 ⟨rfl, hw0⟩
        rw [hw0]
        clear hw0 u0
        refine wl (ro_assign rfl) ?_
        refine wl_nil (x_then (hK10 _ _ ?_))
        clear hK10 K10
        refine wc_cond rfl (fun hc25 => ?_) (fun hc25 => ?_)
        · try simp only [decide_eq_true_eq, decide_eq_false_iff_not, Bool.not_eq_true', Bool.not_eq_false', Bool.not_eq_eq_eq_not, Bool.not_true, Bool.not_false, beq_iff_eq, bne_iff_ne, ne_eq, beq_eq_false_iff_ne, bne_eq_false_iff_eq, gt_iff_lt, ge_iff_le, Int.not_lt, Int.not_le] at hc25
          refine c_reg ?_ -- region 7 lex.go:48
          refine wl (ro_assign rfl) ?_
          refine wl_nil (x_blk (x_then ?_))
          exact ⟨rfl, 1, by omega, by omega, by rw [if_neg (by omega)]; exact num_k1 hc (.inl hg19) hc25, kp _ ⟨rfl, rfl, rfl, trivial⟩⟩
        · try simp only [decide_eq_true_eq, decide_eq_false_iff_not, Bool.not_eq_true', Bool.not_eq_false', Bool.not_eq_eq_eq_not, Bool.not_true, Bool.not_false, beq_iff_eq, bne_iff_ne, ne_eq, beq_eq_false_iff_ne, bne_eq_false_iff_eq, gt_iff_lt, ge_iff_le, Int.not_lt, Int.not_le] at hc25
          refine c_seq (fun K11 hK11 => ?_)
          refine c_reg ?_ -- region 8 lex.go:49
          refine wl (ro_move rfl) ?_
          refine wl (ro_move rfl) ?_
          refine wl (ro_arith rfl rfl rfl (Go.IntWalk.i64_in _ (by omega))) ?_
          refine wl_call rfl en_173 (has173 hs) ?_
          rintro _ u0 ⟨rfl, hw0⟩
          rw [hw0]
          clear hw0 u0
          refine wl_fork rfl (fun hg35 => ?_) (fun hg35 => ?_)
          · try simp only [decide_eq_true_eq, decide_eq_false_iff_not, Bool.not_eq_true', Bool.not_eq_false', Bool.not_eq_eq_eq_not, Bool.not_true, Bool.not_false, beq_iff_eq, bne_iff_ne, ne_eq, beq_eq_false_iff_ne, bne_eq_false_iff_eq, gt_iff_lt, ge_iff_le, Int.not_lt, Int.not_le] at hg35
            refine wlg_yes rfl (ro_move rfl) ?_
            refine wlg_yes rfl (ro_move rfl) ?_
            refine wlg_yes rfl (ro_indexS rfl rfl st_9 rfl (hc)) ?_
            refine wlg_yes rfl (ro_cmp rfl rfl rfl) ?_
            refine wl (ro_pick rfl rfl rfl) ?_
            refine wl_fork rfl (fun hg41 => ?_) (fun hg41 => ?_)
            · try simp only [decide_eq_true_eq, decide_eq_false_iff_not, Bool.not_eq_true', Bool.not_eq_false', Bool.not_eq_eq_eq_not, Bool.not_true, Bool.not_false, beq_iff_eq, bne_iff_ne, ne_eq, beq_eq_false_iff_ne, bne_eq_false_iff_eq, gt_iff_lt, ge_iff_le, Int.not_lt, Int.not_le] at hg41
              obtain ⟨d, hd0⟩ : ∃ d, s[twk isDig s i + 1]? = some d := ⟨_, List.getElem?_eq_getElem (by
                rcases Nat.lt_or_ge (twk isDig s i + 2) s.length with q | q
                · omega
                · have h' : dgA s (twk isDig s i + 2) = true := hg35
                  unfold dgA at h'; rw [List.getElem?_eq_none q] at h'; cases h')⟩
              refine wlg_yes rfl (ro_move rfl) ?_
              refine wlg_yes rfl (ro_move rfl) ?_
              refine wlg_yes rfl (ro_arith rfl rfl rfl (Go.IntWalk.i64_in _ (by omega))) ?_
              refine wlg_yes rfl (ro_indexS rfl rfl st_9 rfl (hd0)) ?_
              refine wlg_yes rfl (ro_cmp rfl rfl rfl) ?_
              refine wl (ro_pick rfl rfl rfl) ?_
              refine wl (ro_assign rfl) ?_
              refine wl_nil (x_then (hK11 _ _ ?_))
              clear hK11 K11
              refine wc_cond rfl (fun hc30 => ?_) (fun hc30 => ?_)
              · try simp only [decide_eq_true_eq, decide_eq_false_iff_not, Bool.not_eq_true', Bool.not_eq_false', Bool.not_eq_eq_eq_not, Bool.not_true, Bool.not_false, beq_iff_eq, bne_iff_ne, ne_eq, beq_eq_false_iff_ne, bne_eq_false_iff_eq, gt_iff_lt, ge_iff_le, Int.not_lt, Int.not_le] at hc30
                refine c_reg ?_ -- region 9 lex.go:50
                refine wl (ro_assign rfl) ?_
                refine wl_nil (x_blk (x_then ?_))
                exfalso; omega
              · try simp only [decide_eq_true_eq, decide_eq_false_iff_not, Bool.not_eq_true', Bool.not_eq_false', Bool.not_eq_eq_eq_not, Bool.not_true, Bool.not_false, beq_iff_eq, bne_iff_ne, ne_eq, beq_eq_false_iff_ne, bne_eq_false_iff_eq, gt_iff_lt, ge_iff_le, Int.not_lt, Int.not_le] at hc30
                refine c_skip (x_blk (x_then ?_))
                exfalso; omega
            · try simp only [decide_eq_true_eq, decide_eq_false_iff_not, Bool.not_eq_true', Bool.not_eq_false', Bool.not_eq_eq_eq_not, Bool.not_true, Bool.not_false, beq_iff_eq, bne_iff_ne, ne_eq, beq_eq_false_iff_ne, bne_eq_false_iff_eq, gt_iff_lt, ge_iff_le, Int.not_lt, Int.not_le] at hg41
              refine wlg_no rfl ?_
              refine wlg_no rfl ?_
              refine wlg_no rfl ?_
              refine wlg_no rfl ?_
              refine wlg_no rfl ?_
              refine wl (ro_pick rfl rfl rfl) ?_
              refine wl (ro_assign rfl) ?_
              refine wl_nil (x_then (hK11 _ _ ?_))
              clear hK11 K11
              refine wc_condF rfl ?_
              refine c_skip (x_blk (x_then ?_))
              have hk : numE s i = twk isDig s i := num_k0 hc (fun q => by exact absurd q (by rw [show dgA s (twk isDig s i + 1) = false from hc25]; simp)) (fun q1 q2 d hd => by omega)
              exact ⟨rfl, 0, by omega, by omega, by rw [if_pos rfl]; exact hk, kp _ ⟨rfl, rfl, rfl, trivial⟩⟩
          · try simp only [decide_eq_true_eq, decide_eq_false_iff_not, Bool.not_eq_true', Bool.not_eq_false', Bool.not_eq_eq_eq_not, Bool.not_true, Bool.not_false, beq_iff_eq, bne_iff_ne, ne_eq, beq_eq_false_iff_ne, bne_eq_false_iff_eq, gt_iff_lt, ge_iff_le, Int.not_lt, Int.not_le] at hg35
            refine wlg_no rfl ?_
            refine wlg_no rfl ?_
            refine wlg_no rfl ?_
            refine wlg_no rfl ?_
            refine wl (ro_pick rfl rfl rfl) ?_
            refine wl (ro_move rfl) ?_
            refine wlg_no rfl ?_
            refine wlg_no rfl ?_
            refine wlg_no rfl ?_
            refine wlg_no rfl ?_
            refine wlg_no rfl ?_
            refine wl (ro_pick rfl rfl rfl) ?_
            refine wl (ro_assign rfl) ?_
            refine wl_nil (x_then (hK11 _ _ ?_))
            clear hK11 K11
            refine wc_condF rfl ?_
            refine c_skip (x_blk (x_then ?_))
            have hk : numE s i = twk isDig s i := num_k0 hc (fun q => by exact absurd q (by rw [show dgA s (twk isDig s i + 1) = false from hc25]; simp)) (fun q1 q2 d hd => by omega)
            exact ⟨rfl, 0, by omega, by omega, by rw [if_pos rfl]; exact hk, kp _ ⟨rfl, rfl, rfl, trivial⟩⟩
    rintro a' u0 ⟨rfl, k, hk1, hk2, hk3, e, rfl⟩
    refine c_seq (fun K12 hK12 => ?_)
    refine c_seq (fun K13 hK13 => ?_)
    refine c_reg ?_ -- region 10 lex.go:52
    refine wl (ro_move rfl) ?_
    refine wl (ro_cmp rfl rfl rfl) ?_
    refine wl_nil (x_then (hK13 _ _ ?_))
    clear hK13 K13
    refine wc_cond rfl (fun hc49 => ?_) (fun hc49 => ?_)
    · try simp only [decide_eq_true_eq, decide_eq_false_iff_not, Bool.not_eq_true', Bool.not_eq_false', Bool.not_eq_eq_eq_not, Bool.not_true, Bool.not_false, beq_iff_eq, bne_iff_ne, ne_eq, beq_eq_false_iff_ne, bne_eq_false_iff_eq, gt_iff_lt, ge_iff_le, Int.not_lt, Int.not_le] at hc49
      refine c_seq (fun K14 hK14 => ?_)
      refine c_reg ?_ -- region 11 lex.go:53
      refine wl (ro_move rfl) ?_
      refine wl (ro_assign rfl) ?_
      refine wl_nil (x_then (hK14 _ _ ?_))
      clear hK14 K14
      refine c_ret (x_thenR ?_)
      refine bp_ret Tryz.results131 rfl ?_
      exact ⟨by rw [hk3, if_pos (by omega)], rfl⟩
    · try simp only [decide_eq_true_eq, decide_eq_false_iff_not, Bool.not_eq_true', Bool.not_eq_false', Bool.not_eq_eq_eq_not, Bool.not_true, Bool.not_false, beq_iff_eq, bne_iff_ne, ne_eq, beq_eq_false_iff_ne, bne_eq_false_iff_eq, gt_iff_lt, ge_iff_le, Int.not_lt, Int.not_le] at hc49
      refine c_skip (x_then (hK12 _ _ ?_))
      clear hK12 K12
      refine forget [(0, _), (1, _), (5, _)] ⟨rfl, rfl, rfl, trivial⟩ (fun e => ?_)
      refine c_seq (fun K15 hK15 => ?_)
      refine c_reg ?_ -- region 12 lex.go:55
      refine wl (ro_move rfl) ?_
      refine wl (ro_move rfl) ?_
      refine wl (ro_move rfl) ?_
      refine wl (ro_arith (r := ((twk isDig s i + k : Nat) : Int)) rfl rfl (congrArg some (by omega)) (Go.IntWalk.i64_in _ (by omega))) ?_
      refine wl_call rfl en_172 (digits172 hs hk1) ?_
      rintro _ u0 ⟨rfl, hw0⟩
      rw [hw0]
      clear hw0 u0
      refine wl (ro_assign rfl) ?_
      refine wl_nil (x_then (hK15 _ _ ?_))
      clear hK15 K15
      refine c_ret ?_
      refine bp_ret Tryz.results131 rfl ?_
      exact ⟨by rw [hk3, if_neg (by omega)], rfl⟩

end Go.Proofs.Qxb6500568aGreatDoor
