import Derived.Test.Qxb6500567aGreatHb
/- The model's finder: templates. -/
namespace Go.Proofs.Qxb6500567aGreat
set_option linter.unusedVariables false
set_option linter.unusedSimpArgs false

theorem drop_one {t : List UInt8} {i : Nat} {b : UInt8} (h : t[i]? = some b) : t.drop i = b :: t.drop (i + 1) := by
  obtain ⟨h1, h2⟩ := List.getElem?_eq_some_iff.1 h
  rw [List.drop_eq_getElem_cons h1, h2]

theorem bad_skip {t : List UInt8} {i : Nat} {b : UInt8} (h : t[i]? = some b) (hb : b.toNat ≠ 36) : badF (t.drop i) i = badF (t.drop (i + 1)) (i + 1) := by
  rw [drop_one h]
  cases hu : t.drop (i + 1) with
  | nil => simp [badF, hb]
  | cons d u => simp only [badF]; rw [if_neg hb]
theorem bad_end {t : List UInt8} {i : Nat} {b : UInt8} (h : t[i]? = some b) (hb : b.toNat = 36) (he : t.length ≤ i + 1) : badF (t.drop i) i = some i := by
  rw [drop_one h, List.drop_of_length_le he]
  simp [badF, hb]
theorem bad_two {t : List UInt8} {i : Nat} {b d : UInt8} (h : t[i]? = some b) (hb : b.toNat = 36) (hd : t[i + 1]? = some d) : badF (t.drop i) i = if d.toNat = 36 ∨ isD d then badF (t.drop (i + 2)) (i + 2) else some i := by
  rw [drop_one h, drop_one hd]
  simp only [badF]
  rw [if_pos hb]

theorem ex_skip {s t : List UInt8} {c : List Int} {i : Nat} {b : UInt8} (h : t[i]? = some b) (hb : b.toNat ≠ 36) : exF s c (t.drop i) = b :: exF s c (t.drop (i + 1)) := by
  rw [drop_one h]
  cases hu : t.drop (i + 1) with
  | nil => simp [exF]
  | cons d u => simp only [exF]; rw [if_neg hb]
theorem ex_two {s t : List UInt8} {c : List Int} {i : Nat} {b d : UInt8} (h : t[i]? = some b) (hb : b.toNat = 36) (hd : t[i + 1]? = some d) : exF s c (t.drop i) = if d.toNat = 36 then d :: exF s c (t.drop (i + 2)) else grpT s c (d.toNat - 48) ++ exF s c (t.drop (i + 2)) := by
  rw [drop_one h, drop_one hd]
  simp only [exF]
  rw [if_pos hb]

theorem grpT_len {s : List UInt8} {c : List Int} (h : s.length ≤ 256) (g : Nat) : (grpT s c g).length ≤ 256 := by
  unfold grpT
  split
  · simp; omega
  · simp

theorem exF_len {s : List UInt8} {c : List Int} (h : s.length ≤ 256) : ∀ (m : Nat) (u : List UInt8), u.length ≤ m → (exF s c u).length ≤ u.length * 257
  | 0, u, hu => by
    have : u = [] := List.length_eq_zero_iff.1 (by omega)
    subst this
    simp [exF]
  | m + 1, [], hu => by simp [exF]
  | m + 1, [b], hu => by simp [exF]
  | m + 1, b :: d :: t, hu => by
    simp only [List.length_cons] at hu ⊢
    simp only [exF]
    have i1 := exF_len (c := c) h m t (by omega)
    have i2 := exF_len (c := c) h m (d :: t) (by simp only [List.length_cons]; omega)
    have hg := grpT_len (c := c) h (d.toNat - 48)
    simp only [List.length_cons] at i2
    split
    · split
      · simp only [List.length_cons]; omega
      · rw [List.length_append]; omega
    · simp only [List.length_cons]; omega

def badV : Option Nat → Value
  | none => icv (-1)
  | some i => i64c i

theorem byte_get {t : List UInt8} {i : Nat} (h : i < t.length) : ∃ b, t[i]? = some b := ⟨_, List.getElem?_eq_getElem h⟩

set_option maxHeartbeats 4000000 in
theorem badAt43 {w : World} {t : List UInt8} (ht : t.length ≤ 1000000) : Ret Tryz.prog 43 [S t] w (fun v w' => v = badV (badF t 0) ∧ w = w') := by
  refine ret_of Tryz.func43 rfl Tryz.ntmps43 rfl ?_
  refine c_seq (fun K1 hK1 => ?_)
  refine c_reg ?_ -- region 0 findm.go:47
  refine wl (ro_assign rfl) ?_
  refine wl_nil (x_then (hK1 _ _ ?_))
  clear hK1 K1
  refine c_seq (fun K2 hK2 => ?_)
  refine c_seq (fun K3 hK3 => ?_)
  refine c_reg ?_ -- region 1 findm.go:48
  refine wl (ro_assign rfl) ?_
  refine wl_nil (x_then (hK3 _ _ ?_))
  clear hK3 K3
  refine c_block ?_
  -- loop@r2: live slots [0, 3]
  refine c_loopG (fun m a' w' => w = w' ∧ ∃ i : Nat, m = t.length - i ∧ i ≤ t.length ∧ badF (t.drop i) i = badF t 0 ∧ ∃ e, a' = Fr 43 (upds e [(0, S t), (3, i64c i)]) []) t.length ⟨rfl, 0, rfl, by omega, rfl, kp _ ⟨rfl, rfl, trivial⟩⟩ ?_
  rintro m a' w1 ⟨rfl, i, rfl, hi, hbd, e, rfl⟩
  refine c_seq (fun K4 hK4 => ?_)
  refine c_seq (fun K5 hK5 => ?_)
  refine c_reg ?_ -- region 2 findm.go:48
  refine wl (ro_move rfl) ?_
  refine wl (ro_move rfl) ?_
  refine wl (ro_lenS rfl st_9) ?_
  refine wl (ro_cmp (r := decide (i < t.length)) rfl rfl (congrArg some (decide_eq_decide.2 (by omega)))) ?_
  refine wl_nil (x_then (hK5 _ _ ?_))
  clear hK5 K5
  refine wc_cond rfl (fun hc7 => ?_) (fun hc7 => ?_)
  · try simp only [decide_eq_true_eq, decide_eq_false_iff_not, Bool.not_eq_true', Bool.not_eq_false', Bool.not_eq_eq_eq_not, Bool.not_true, Bool.not_false, beq_iff_eq, bne_iff_ne, ne_eq, beq_eq_false_iff_ne, bne_eq_false_iff_eq, gt_iff_lt, ge_iff_le, Int.not_lt, Int.not_le] at hc7
    obtain ⟨b, hb⟩ := byte_get hc7
    refine c_skip (x_then (hK4 _ _ ?_))
    clear hK4 K4
    refine forget [(0, _), (3, _)] ⟨rfl, rfl, trivial⟩ (fun e => ?_)
    refine c_seq (fun K6 hK6 => ?_)
    refine c_block ?_
    refine c_seq (fun K7 hK7 => ?_)
    refine c_reg ?_ -- region 4 findm.go:49
    refine wl (ro_move rfl) ?_
    refine wl (ro_move rfl) ?_
    refine wl (ro_indexS rfl rfl st_9 rfl (hb)) ?_
    refine wl (ro_cmp (r := decide (b.toNat = 36)) rfl rfl (congrArg some (beqc b.toNat 36))) ?_
    refine wl_nil (x_then (hK7 _ _ ?_))
    clear hK7 K7
    refine wc_cond rfl (fun hc13 => ?_) (fun hc13 => ?_)
    · try simp only [decide_eq_true_eq, decide_eq_false_iff_not, Bool.not_eq_true', Bool.not_eq_false', Bool.not_eq_eq_eq_not, Bool.not_true, Bool.not_false, beq_iff_eq, bne_iff_ne, ne_eq, beq_eq_false_iff_ne, bne_eq_false_iff_eq, gt_iff_lt, ge_iff_le, Int.not_lt, Int.not_le] at hc13
      refine c_seq (fun K8 hK8 => ?_)
      refine c_seq (fun K9 hK9 => ?_)
      have hqs : t.length ≤ i + 1 ∨ ∃ d, t[i + 1]? = some d ∧ (d.toNat = 36 ∨ (d.toNat ≠ 36 ∧ d.toNat < 48) ∨ (d.toNat ≠ 36 ∧ 51 < d.toNat) ∨ (d.toNat ≠ 36 ∧ 48 ≤ d.toNat ∧ d.toNat ≤ 51)) := by
        by_cases h : t.length ≤ i + 1
        · exact .inl h
        · obtain ⟨d, hd⟩ := byte_get (t := t) (i := i + 1) (by omega)
          exact .inr ⟨d, hd, by omega⟩
      rcases hqs with q | ⟨d, hd, q | q | q | q⟩
      · skip
        rw [bad_end hb hc13 q] at hbd
        refine c_reg ?_ -- region 5 findm.go:50
        refine wl (ro_move rfl) ?_
        refine wl (ro_arith rfl rfl rfl (Go.IntWalk.i64_in _ (by omega))) ?_
        refine wl (ro_move rfl) ?_
        refine wl (ro_lenS rfl st_9) ?_
        refine wl (ro_cmp (r := true) rfl rfl (congrArg some (decide_eq_true (by omega)))) ?_
        refine wl (ro_move rfl) ?_
        refine wlg_no rfl ?_
        refine wlg_no rfl ?_
        refine wlg_no rfl ?_
        refine wlg_no rfl ?_
        refine wlg_no rfl ?_
        refine wlg_no rfl ?_
        refine wlg_no rfl ?_
        refine wlg_no rfl ?_
        refine wlg_no rfl ?_
        refine wlg_no rfl ?_
        refine wlg_no rfl ?_
        refine wlg_no rfl ?_
        refine wlg_no rfl ?_
        refine wlg_no rfl ?_
        refine wlg_no rfl ?_
        refine wlg_no rfl ?_
        refine wlg_no rfl ?_
        refine wlg_no rfl ?_
        refine wlg_no rfl ?_
        refine wl (ro_pick rfl rfl rfl) ?_
        refine wl_nil (x_then (hK9 _ _ ?_))
        clear hK9 K9
        refine wc_condT rfl ?_
        refine c_seq (fun K10 hK10 => ?_)
        refine c_reg ?_ -- region 6 findm.go:51
        refine wl (ro_move rfl) ?_
        refine wl (ro_assign rfl) ?_
        refine wl_nil (x_then (hK10 _ _ ?_))
        clear hK10 K10
        refine c_ret (x_thenR (x_blkR (x_thenR (x_thenR (x_blkR (x_thenR ?_))))))
        refine bp_ret Tryz.results43 rfl ?_
        rw [← hbd]; exact ⟨rfl, rfl⟩
      · skip
        have hil := (List.getElem?_eq_some_iff.1 hd).1
        rw [bad_two hb hc13 hd, if_pos (.inl q)] at hbd
        refine c_reg ?_ -- region 5 findm.go:50
        refine wl (ro_move rfl) ?_
        refine wl (ro_arith rfl rfl rfl (Go.IntWalk.i64_in _ (by omega))) ?_
        refine wl (ro_move rfl) ?_
        refine wl (ro_lenS rfl st_9) ?_
        refine wl (ro_cmp (r := false) rfl rfl (congrArg some (decide_eq_false (by omega)))) ?_
        refine wl (ro_move rfl) ?_
        refine wlg_yes rfl (ro_move rfl) ?_
        refine wlg_yes rfl (ro_move rfl) ?_
        refine wlg_yes rfl (ro_arith rfl rfl rfl (Go.IntWalk.i64_in _ (by omega))) ?_
        refine wlg_yes rfl (ro_indexS rfl rfl st_9 rfl (hd)) ?_
        refine wlg_yes rfl (ro_cmp (r := false) rfl rfl (congrArg some ((bnec d.toNat 36).trans (decide_eq_false (by omega))))) ?_
        refine wlg_yes rfl (ro_move rfl) ?_
        refine wlg_no rfl ?_
        refine wlg_no rfl ?_
        refine wlg_no rfl ?_
        refine wlg_no rfl ?_
        refine wlg_no rfl ?_
        refine wlg_no rfl ?_
        refine wlg_no rfl ?_
        refine wlg_no rfl ?_
        refine wlg_no rfl ?_
        refine wlg_no rfl ?_
        refine wlg_no rfl ?_
        refine wlg_no rfl ?_
        refine wlg_yes rfl (ro_pick rfl rfl rfl) ?_
        refine wl (ro_pick rfl rfl rfl) ?_
        refine wl_nil (x_then (hK9 _ _ ?_))
        clear hK9 K9
        refine wc_condF rfl ?_
        refine c_skip (x_then (hK8 _ _ ?_))
        clear hK8 K8
        refine c_reg ?_ -- region 7 findm.go:53
        refine wl (ro_move rfl) ?_
        refine wl (ro_arith rfl rfl rfl (Go.IntWalk.i64_in _ (by omega))) ?_
        refine wl (ro_assign rfl) ?_
        refine wl_nil (x_blk (x_then (hK6 _ _ ?_)))
        clear hK6 K6
        refine c_reg ?_ -- region 3 findm.go:48
        refine wl (ro_move rfl) ?_
        refine wl (ro_arith rfl rfl rfl (Go.IntWalk.i64_in _ (by omega))) ?_
        refine wl (ro_assign rfl) ?_
        refine wl_nil (x_then ?_)
        exact ⟨t.length - (i + 2), by omega, rfl, i + 2, rfl, by omega, hbd, kp _ ⟨rfl, rfl, trivial⟩⟩
      · skip
        have hil := (List.getElem?_eq_some_iff.1 hd).1
        rw [bad_two hb hc13 hd, if_neg (by unfold isD; omega)] at hbd
        refine c_reg ?_ -- region 5 findm.go:50
        refine wl (ro_move rfl) ?_
        refine wl (ro_arith rfl rfl rfl (Go.IntWalk.i64_in _ (by omega))) ?_
        refine wl (ro_move rfl) ?_
        refine wl (ro_lenS rfl st_9) ?_
        refine wl (ro_cmp (r := false) rfl rfl (congrArg some (decide_eq_false (by omega)))) ?_
        refine wl (ro_move rfl) ?_
        refine wlg_yes rfl (ro_move rfl) ?_
        refine wlg_yes rfl (ro_move rfl) ?_
        refine wlg_yes rfl (ro_arith rfl rfl rfl (Go.IntWalk.i64_in _ (by omega))) ?_
        refine wlg_yes rfl (ro_indexS rfl rfl st_9 rfl (hd)) ?_
        refine wlg_yes rfl (ro_cmp (r := true) rfl rfl (congrArg some ((bnec d.toNat 36).trans (decide_eq_true (by omega))))) ?_
        refine wlg_yes rfl (ro_move rfl) ?_
        refine wlg_yes rfl (ro_move rfl) ?_
        refine wlg_yes rfl (ro_move rfl) ?_
        refine wlg_yes rfl (ro_arith rfl rfl rfl (Go.IntWalk.i64_in _ (by omega))) ?_
        refine wlg_yes rfl (ro_indexS rfl rfl st_9 rfl (hd)) ?_
        refine wlg_yes rfl (ro_cmp (r := true) rfl rfl (congrArg some (decide_eq_true (by omega)))) ?_
        refine wlg_yes rfl (ro_move rfl) ?_
        refine wlg_no rfl ?_
        refine wlg_no rfl ?_
        refine wlg_no rfl ?_
        refine wlg_no rfl ?_
        refine wlg_no rfl ?_
        refine wlg_yes rfl (ro_pick rfl rfl rfl) ?_
        refine wlg_yes rfl (ro_pick rfl rfl rfl) ?_
        refine wl (ro_pick rfl rfl rfl) ?_
        refine wl_nil (x_then (hK9 _ _ ?_))
        clear hK9 K9
        refine wc_condT rfl ?_
        refine c_seq (fun K11 hK11 => ?_)
        refine c_reg ?_ -- region 6 findm.go:51
        refine wl (ro_move rfl) ?_
        refine wl (ro_assign rfl) ?_
        refine wl_nil (x_then (hK11 _ _ ?_))
        clear hK11 K11
        refine c_ret (x_thenR (x_blkR (x_thenR (x_thenR (x_blkR (x_thenR ?_))))))
        refine bp_ret Tryz.results43 rfl ?_
        rw [← hbd]; exact ⟨rfl, rfl⟩
      · skip
        have hil := (List.getElem?_eq_some_iff.1 hd).1
        rw [bad_two hb hc13 hd, if_neg (by unfold isD; omega)] at hbd
        refine c_reg ?_ -- region 5 findm.go:50
        refine wl (ro_move rfl) ?_
        refine wl (ro_arith rfl rfl rfl (Go.IntWalk.i64_in _ (by omega))) ?_
        refine wl (ro_move rfl) ?_
        refine wl (ro_lenS rfl st_9) ?_
        refine wl (ro_cmp (r := false) rfl rfl (congrArg some (decide_eq_false (by omega)))) ?_
        refine wl (ro_move rfl) ?_
        refine wlg_yes rfl (ro_move rfl) ?_
        refine wlg_yes rfl (ro_move rfl) ?_
        refine wlg_yes rfl (ro_arith rfl rfl rfl (Go.IntWalk.i64_in _ (by omega))) ?_
        refine wlg_yes rfl (ro_indexS rfl rfl st_9 rfl (hd)) ?_
        refine wlg_yes rfl (ro_cmp (r := true) rfl rfl (congrArg some ((bnec d.toNat 36).trans (decide_eq_true (by omega))))) ?_
        refine wlg_yes rfl (ro_move rfl) ?_
        refine wlg_yes rfl (ro_move rfl) ?_
        refine wlg_yes rfl (ro_move rfl) ?_
        refine wlg_yes rfl (ro_arith rfl rfl rfl (Go.IntWalk.i64_in _ (by omega))) ?_
        refine wlg_yes rfl (ro_indexS rfl rfl st_9 rfl (hd)) ?_
        refine wlg_yes rfl (ro_cmp (r := false) rfl rfl (congrArg some (decide_eq_false (by omega)))) ?_
        refine wlg_yes rfl (ro_move rfl) ?_
        refine wlg_yes rfl (ro_move rfl) ?_
        refine wlg_yes rfl (ro_move rfl) ?_
        refine wlg_yes rfl (ro_arith rfl rfl rfl (Go.IntWalk.i64_in _ (by omega))) ?_
        refine wlg_yes rfl (ro_indexS rfl rfl st_9 rfl (hd)) ?_
        refine wlg_yes rfl (ro_cmp (r := true) rfl rfl (congrArg some (decide_eq_true (by omega)))) ?_
        refine wlg_yes rfl (ro_pick rfl rfl rfl) ?_
        refine wlg_yes rfl (ro_pick rfl rfl rfl) ?_
        refine wl (ro_pick rfl rfl rfl) ?_
        refine wl_nil (x_then (hK9 _ _ ?_))
        clear hK9 K9
        refine wc_condT rfl ?_
        refine c_seq (fun K12 hK12 => ?_)
        refine c_reg ?_ -- region 6 findm.go:51
        refine wl (ro_move rfl) ?_
        refine wl (ro_assign rfl) ?_
        refine wl_nil (x_then (hK12 _ _ ?_))
        clear hK12 K12
        refine c_ret (x_thenR (x_blkR (x_thenR (x_thenR (x_blkR (x_thenR ?_))))))
        refine bp_ret Tryz.results43 rfl ?_
        rw [← hbd]; exact ⟨rfl, rfl⟩
      · skip
        have hil := (List.getElem?_eq_some_iff.1 hd).1
        rw [bad_two hb hc13 hd, if_pos (.inr (by unfold isD; omega))] at hbd
        refine c_reg ?_ -- region 5 findm.go:50
        refine wl (ro_move rfl) ?_
        refine wl (ro_arith rfl rfl rfl (Go.IntWalk.i64_in _ (by omega))) ?_
        refine wl (ro_move rfl) ?_
        refine wl (ro_lenS rfl st_9) ?_
        refine wl (ro_cmp (r := false) rfl rfl (congrArg some (decide_eq_false (by omega)))) ?_
        refine wl (ro_move rfl) ?_
        refine wlg_yes rfl (ro_move rfl) ?_
        refine wlg_yes rfl (ro_move rfl) ?_
        refine wlg_yes rfl (ro_arith rfl rfl rfl (Go.IntWalk.i64_in _ (by omega))) ?_
        refine wlg_yes rfl (ro_indexS rfl rfl st_9 rfl (hd)) ?_
        refine wlg_yes rfl (ro_cmp (r := true) rfl rfl (congrArg some ((bnec d.toNat 36).trans (decide_eq_true (by omega))))) ?_
        refine wlg_yes rfl (ro_move rfl) ?_
        refine wlg_yes rfl (ro_move rfl) ?_
        refine wlg_yes rfl (ro_move rfl) ?_
        refine wlg_yes rfl (ro_arith rfl rfl rfl (Go.IntWalk.i64_in _ (by omega))) ?_
        refine wlg_yes rfl (ro_indexS rfl rfl st_9 rfl (hd)) ?_
        refine wlg_yes rfl (ro_cmp (r := false) rfl rfl (congrArg some (decide_eq_false (by omega)))) ?_
        refine wlg_yes rfl (ro_move rfl) ?_
        refine wlg_yes rfl (ro_move rfl) ?_
        refine wlg_yes rfl (ro_move rfl) ?_
        refine wlg_yes rfl (ro_arith rfl rfl rfl (Go.IntWalk.i64_in _ (by omega))) ?_
        refine wlg_yes rfl (ro_indexS rfl rfl st_9 rfl (hd)) ?_
        refine wlg_yes rfl (ro_cmp (r := false) rfl rfl (congrArg some (decide_eq_false (by omega)))) ?_
        refine wlg_yes rfl (ro_pick rfl rfl rfl) ?_
        refine wlg_yes rfl (ro_pick rfl rfl rfl) ?_
        refine wl (ro_pick rfl rfl rfl) ?_
        refine wl_nil (x_then (hK9 _ _ ?_))
        clear hK9 K9
        refine wc_condF rfl ?_
        refine c_skip (x_then (hK8 _ _ ?_))
        clear hK8 K8
        refine c_reg ?_ -- region 7 findm.go:53
        refine wl (ro_move rfl) ?_
        refine wl (ro_arith rfl rfl rfl (Go.IntWalk.i64_in _ (by omega))) ?_
        refine wl (ro_assign rfl) ?_
        refine wl_nil (x_blk (x_then (hK6 _ _ ?_)))
        clear hK6 K6
        refine c_reg ?_ -- region 3 findm.go:48
        refine wl (ro_move rfl) ?_
        refine wl (ro_arith rfl rfl rfl (Go.IntWalk.i64_in _ (by omega))) ?_
        refine wl (ro_assign rfl) ?_
        refine wl_nil (x_then ?_)
        exact ⟨t.length - (i + 2), by omega, rfl, i + 2, rfl, by omega, hbd, kp _ ⟨rfl, rfl, trivial⟩⟩
    · try simp only [decide_eq_true_eq, decide_eq_false_iff_not, Bool.not_eq_true', Bool.not_eq_false', Bool.not_eq_eq_eq_not, Bool.not_true, Bool.not_false, beq_iff_eq, bne_iff_ne, ne_eq, beq_eq_false_iff_ne, bne_eq_false_iff_eq, gt_iff_lt, ge_iff_le, Int.not_lt, Int.not_le] at hc13
      rw [bad_skip hb hc13] at hbd
      refine c_skip (x_blk (x_then (hK6 _ _ ?_)))
      clear hK6 K6
      refine c_reg ?_ -- region 3 findm.go:48
      refine wl (ro_move rfl) ?_
      refine wl (ro_arith rfl rfl rfl (Go.IntWalk.i64_in _ (by omega))) ?_
      refine wl (ro_assign rfl) ?_
      refine wl_nil (x_then ?_)
      exact ⟨t.length - (i + 1), by omega, rfl, i + 1, rfl, by omega, hbd, kp _ ⟨rfl, rfl, trivial⟩⟩
  · try simp only [decide_eq_true_eq, decide_eq_false_iff_not, Bool.not_eq_true', Bool.not_eq_false', Bool.not_eq_eq_eq_not, Bool.not_true, Bool.not_false, beq_iff_eq, bne_iff_ne, ne_eq, beq_eq_false_iff_ne, bne_eq_false_iff_eq, gt_iff_lt, ge_iff_le, Int.not_lt, Int.not_le] at hc7
    refine c_exit (x_thenX (x_thenX (x_blkX (x_then (hK2 _ _ ?_)))))
    clear hK4 K4 hK2 K2
    refine forget [] trivial (fun e => ?_)
    refine c_seq (fun K13 hK13 => ?_)
    refine c_reg ?_ -- region 8 findm.go:56
    refine wl (ro_assign rfl) ?_
    refine wl_nil (x_then (hK13 _ _ ?_))
    clear hK13 K13
    refine c_ret ?_
    refine bp_ret Tryz.results43 rfl ?_
    rw [List.drop_of_length_le (by omega)] at hbd
    rw [← hbd]
    exact ⟨rfl, rfl⟩

set_option maxHeartbeats 4000000 in
theorem expand44 {w : World} {t s : List UInt8} {c : List Int} {i0 : Nat} (ht : t.length ≤ 32) (hs : s.length ≤ 256) (hm : MatOK s.length i0 c) (hbad : badF t 0 = none) : Ret Tryz.prog 44 [S t, S s, .agg (capc c).toArray] w (fun v w' => v = S (exF s c t) ∧ Fram none' w w') := by
  have hF : Fram none' w w := Fram.refl _ _
  have hel := exF_len (c := c) hs t.length t (Nat.le_refl _)
  refine ret_of Tryz.func44 rfl Tryz.ntmps44 rfl ?_
  refine c_seq (fun K1 hK1 => ?_)
  refine c_reg ?_ -- region 0 findm.go:60
  refine wl_box (cs := (capc c)) rfl rfl (fun cb w1 hbcb hC F1 => ?_)
  have hbscb := Nat.le_trans hF.size hbcb
  replace hF := hF.thenDrew.thenN F1
  refine wl (ro_assign rfl) ?_
  refine wl_nil (x_then (hK1 _ _ ?_))
  clear hK1 K1
  refine forget [(0, _), (1, _), (5, _)] ⟨rfl, rfl, rfl, trivial⟩ (fun e => ?_)
  refine c_seq (fun K2 hK2 => ?_)
  refine c_reg ?_ -- region 1 findm.go:61
  refine wl (ro_assign rfl) ?_
  refine wl_nil (x_then (hK2 _ _ ?_))
  clear hK2 K2
  refine c_seq (fun K3 hK3 => ?_)
  refine c_seq (fun K4 hK4 => ?_)
  refine c_reg ?_ -- region 2 findm.go:62
  refine wl (ro_assign rfl) ?_
  refine wl_nil (x_then (hK4 _ _ ?_))
  clear hK4 K4
  refine c_block ?_
  -- loop@r3: live slots [0, 1, 5, 7, 8]
  refine c_loopG (fun m a' w' => ∃ (i : Nat) (O : List UInt8), m = t.length - i ∧ i ≤ t.length ∧ badF (t.drop i) i = none ∧ O ++ exF s c (t.drop i) = exF s c t ∧ Blk w'.heap cb (capc c) 55 ∧ Fram none' w w' ∧ ∃ e, a' = Fr 67 (upds e [(0, S t), (1, S s), (5, ptr cb), (7, S O), (8, i64c i)]) []) t.length ⟨0, [], rfl, by omega, hbad, rfl, hC, hF, kp _ ⟨rfl, rfl, rfl, rfl, rfl, trivial⟩⟩ ?_
  clear hC hF
  rintro m a' w1 ⟨i, O, rfl, hi, hbd, hO, hC, hF, e, rfl⟩
  refine c_seq (fun K5 hK5 => ?_)
  refine c_seq (fun K6 hK6 => ?_)
  refine c_reg ?_ -- region 3 findm.go:62
  refine wl (ro_move rfl) ?_
  refine wl (ro_move rfl) ?_
  refine wl (ro_lenS rfl st_9) ?_
  refine wl (ro_cmp (r := decide (i < t.length)) rfl rfl (congrArg some (decide_eq_decide.2 (by omega)))) ?_
  refine wl_nil (x_then (hK6 _ _ ?_))
  clear hK6 K6
  refine wc_cond rfl (fun hc13 => ?_) (fun hc13 => ?_)
  · try simp only [decide_eq_true_eq, decide_eq_false_iff_not, Bool.not_eq_true', Bool.not_eq_false', Bool.not_eq_eq_eq_not, Bool.not_true, Bool.not_false, beq_iff_eq, bne_iff_ne, ne_eq, beq_eq_false_iff_ne, bne_eq_false_iff_eq, gt_iff_lt, ge_iff_le, Int.not_lt, Int.not_le] at hc13
    obtain ⟨b, hb⟩ := byte_get hc13
    refine c_skip (x_then (hK5 _ _ ?_))
    clear hK5 K5
    refine forget [(0, _), (1, _), (5, _), (7, _), (8, _)] ⟨rfl, rfl, rfl, rfl, rfl, trivial⟩ (fun e => ?_)
    refine c_seq (fun K7 hK7 => ?_)
    refine c_block ?_
    refine c_seq (fun K8 hK8 => ?_)
    refine c_seq (fun K9 hK9 => ?_)
    refine c_reg ?_ -- region 5 findm.go:63
    refine wl (ro_move rfl) ?_
    refine wl (ro_move rfl) ?_
    refine wl (ro_indexS rfl rfl st_9 rfl (hb)) ?_
    refine wl (ro_cmp (r := decide (b.toNat ≠ 36)) rfl rfl (congrArg some (bnec b.toNat 36))) ?_
    refine wl_nil (x_then (hK9 _ _ ?_))
    clear hK9 K9
    refine wc_cond rfl (fun hc19 => ?_) (fun hc19 => ?_)
    · try simp only [decide_eq_true_eq, decide_eq_false_iff_not, Bool.not_eq_true', Bool.not_eq_false', Bool.not_eq_eq_eq_not, Bool.not_true, Bool.not_false, beq_iff_eq, bne_iff_ne, ne_eq, beq_eq_false_iff_ne, bne_eq_false_iff_eq, gt_iff_lt, ge_iff_le, Int.not_lt, Int.not_le] at hc19
      rw [bad_skip hb hc19] at hbd
      rw [ex_skip hb hc19] at hO
      have hOl := congrArg List.length hO
      rw [List.length_append, List.length_cons] at hOl
      refine c_seq (fun K10 hK10 => ?_)
      refine c_reg ?_ -- region 6 findm.go:64
      refine wl (ro_move rfl) ?_
      refine wl (ro_move rfl) ?_
      refine wl (ro_move rfl) ?_
      refine wl (ro_move rfl) ?_
      refine wl (ro_arith rfl rfl rfl (Go.IntWalk.i64_in _ (by omega))) ?_
      refine wl ((show RO _ _ _ _ _ (S [b]) from cut_one hb ▸ ro_sliceSLH (l := i) (h := i + 1) rfl rfl rfl st_9 rfl rfl (by omega) (by omega))) ?_
      refine wl (ro_catS rfl rfl (by rw [List.length_singleton]; omega)) ?_
      refine wl (ro_assign rfl) ?_
      refine wl_nil (x_then (hK10 _ _ ?_))
      clear hK10 K10
      refine c_exit (x_thenX (x_blkX (x_then (hK7 _ _ ?_))))
      clear hK8 K8 hK7 K7
      refine c_reg ?_ -- region 4 findm.go:62
      refine wl (ro_move rfl) ?_
      refine wl (ro_arith rfl rfl rfl (Go.IntWalk.i64_in _ (by omega))) ?_
      refine wl (ro_assign rfl) ?_
      refine wl_nil (x_then ?_)
      exact ⟨t.length - (i + 1), by omega, i + 1, O ++ [b], rfl, by omega, hbd, by rw [List.append_assoc]; exact hO, hC, hF, kp _ ⟨rfl, rfl, rfl, rfl, rfl, trivial⟩⟩
    · try simp only [decide_eq_true_eq, decide_eq_false_iff_not, Bool.not_eq_true', Bool.not_eq_false', Bool.not_eq_eq_eq_not, Bool.not_true, Bool.not_false, beq_iff_eq, bne_iff_ne, ne_eq, beq_eq_false_iff_ne, bne_eq_false_iff_eq, gt_iff_lt, ge_iff_le, Int.not_lt, Int.not_le] at hc19
      have hb36 : b.toNat = 36 := by omega
      have hlt : i + 1 < t.length := by
        rcases Nat.lt_or_ge (i + 1) t.length with h | h
        · exact h
        · rw [bad_end hb hb36 h] at hbd; cases hbd
      obtain ⟨d, hd⟩ := byte_get hlt
      rw [bad_two hb hb36 hd] at hbd
      rw [ex_two hb hb36 hd] at hO
      have hdd : d.toNat = 36 ∨ isD d := by
        by_cases h : d.toNat = 36 ∨ isD d
        · exact h
        · rw [if_neg h] at hbd; cases hbd
      rw [if_pos hdd] at hbd
      refine c_skip (x_then (hK8 _ _ ?_))
      clear hK8 K8
      refine forget [(0, _), (1, _), (5, _), (7, _), (8, _)] ⟨rfl, rfl, rfl, rfl, rfl, trivial⟩ (fun e => ?_)
      refine c_seq (fun K11 hK11 => ?_)
      refine c_reg ?_ -- region 7 findm.go:67
      refine wl (ro_move rfl) ?_
      refine wl (ro_arith rfl rfl rfl (Go.IntWalk.i64_in _ (by omega))) ?_
      refine wl (ro_assign rfl) ?_
      refine wl_nil (x_then (hK11 _ _ ?_))
      clear hK11 K11
      refine c_seq (fun K12 hK12 => ?_)
      refine c_seq (fun K13 hK13 => ?_)
      refine c_reg ?_ -- region 8 findm.go:68
      refine wl (ro_move rfl) ?_
      refine wl (ro_move rfl) ?_
      refine wl (ro_indexS rfl rfl st_9 rfl (hd)) ?_
      refine wl (ro_cmp (r := decide (d.toNat = 36)) rfl rfl (congrArg some (beqc d.toNat 36))) ?_
      refine wl_nil (x_then (hK13 _ _ ?_))
      clear hK13 K13
      refine wc_cond rfl (fun hc32 => ?_) (fun hc32 => ?_)
      · try simp only [decide_eq_true_eq, decide_eq_false_iff_not, Bool.not_eq_true', Bool.not_eq_false', Bool.not_eq_eq_eq_not, Bool.not_true, Bool.not_false, beq_iff_eq, bne_iff_ne, ne_eq, beq_eq_false_iff_ne, bne_eq_false_iff_eq, gt_iff_lt, ge_iff_le, Int.not_lt, Int.not_le] at hc32
        rw [if_pos hc32] at hO
        have hOl := congrArg List.length hO
        rw [List.length_append, List.length_cons] at hOl
        have hd36 : d = 36 := by
          have : d.toNat = (36 : UInt8).toNat := hc32
          exact UInt8.toNat_inj.1 this
        refine c_seq (fun K14 hK14 => ?_)
        refine c_reg ?_ -- region 9 findm.go:69
        refine wl (ro_move rfl) ?_
        refine wl (ro_catS (m := [36]) rfl rfl (by rw [List.length_singleton]; omega)) ?_
        refine wl (ro_assign rfl) ?_
        refine wl_nil (x_then (hK14 _ _ ?_))
        clear hK14 K14
        refine c_exit (x_thenX (x_blkX (x_then (hK7 _ _ ?_))))
        clear hK12 K12 hK7 K7
        refine c_reg ?_ -- region 4 findm.go:62
        refine wl (ro_move rfl) ?_
        refine wl (ro_arith rfl rfl rfl (Go.IntWalk.i64_in _ (by omega))) ?_
        refine wl (ro_assign rfl) ?_
        refine wl_nil (x_then ?_)
        exact ⟨t.length - (i + 2), by omega, i + 2, O ++ [36], rfl, by omega, hbd, by rw [List.append_assoc, ← hd36]; exact hO, hC, hF, kp _ ⟨rfl, rfl, rfl, rfl, rfl, trivial⟩⟩
      · try simp only [decide_eq_true_eq, decide_eq_false_iff_not, Bool.not_eq_true', Bool.not_eq_false', Bool.not_eq_eq_eq_not, Bool.not_true, Bool.not_false, beq_iff_eq, bne_iff_ne, ne_eq, beq_eq_false_iff_ne, bne_eq_false_iff_eq, gt_iff_lt, ge_iff_le, Int.not_lt, Int.not_le] at hc32
        rw [if_neg hc32] at hO
        have hD : isD d := hdd.resolve_left hc32
        unfold isD at hD
        have hOl := congrArg List.length hO
        rw [List.length_append, List.length_append] at hOl
        refine c_skip (x_then (hK12 _ _ ?_))
        clear hK12 K12
        refine forget [(0, _), (1, _), (5, _), (7, _), (8, _)] ⟨rfl, rfl, rfl, rfl, rfl, trivial⟩ (fun e => ?_)
        refine c_seq (fun K15 hK15 => ?_)
        refine c_reg ?_ -- region 10 findm.go:72
        refine wl (ro_move rfl) ?_
        refine wl (ro_move rfl) ?_
        refine wl (ro_indexS rfl rfl st_9 rfl (hd)) ?_
        refine wl (ro_arith (r := ((d.toNat - 48 : Nat) : Int)) rfl rfl (congrArg some (by omega)) (Go.IntWalk.u8_in _ (by omega))) ?_
        refine wl (ro_conv rfl sc_5 in_3 (Go.IntWalk.i64_in _ (by omega))) ?_
        refine wl (ro_assign rfl) ?_
        refine wl_nil (x_then (hK15 _ _ ?_))
        clear hK15 K15
        refine forget [(0, _), (1, _), (5, _), (7, _), (8, _), (9, _)] ⟨rfl, rfl, rfl, rfl, rfl, rfl, trivial⟩ (fun e => ?_)
        refine c_seq (fun K16 hK16 => ?_)
        have hgo := grpT_ok (s := s) rfl hm (g := d.toNat - 48) (by omega)
        rcases hgo with ⟨h1, h2, h3⟩ | ⟨ga, gb, h0, h1, h2, h3, h4⟩
        · skip
          have hv1 : c.getD (2 * (d.toNat - 48)) 0 = -1 := by rw [List.getD, h1]; rfl
          have hv2 : c.getD (2 * (d.toNat - 48) + 1) 0 = -1 := by rw [List.getD, h2]; rfl
          rw [h3] at hO
          refine c_reg ?_ -- region 11 findm.go:73
          refine wl (ro_move rfl) ?_
          refine wl (ro_arith (r := ((2 * (d.toNat - 48) : Nat) : Int)) rfl rfl (congrArg some (by simp)) (Go.IntWalk.i64_in _ (by omega))) ?_
          refine wl (ro_indexAddrA (et := 3) (k := 1) rfl rfl ar_55 (rfl) ((by omega : 2 * (d.toNat - 48) < 8))) ?_
          refine wl (ro_loadB rfl sc_3 (hC) (cel_at (by omega) (by omega) (congrArg icv hv1))) ?_
          refine wl (ro_cmp (r := false) rfl rfl rfl) ?_
          refine wl (ro_move rfl) ?_
          refine wlg_no rfl ?_
          refine wlg_no rfl ?_
          refine wlg_no rfl ?_
          refine wlg_no rfl ?_
          refine wlg_no rfl ?_
          refine wlg_no rfl ?_
          refine wl (ro_pick rfl rfl rfl) ?_
          refine wl_nil (x_then (hK16 _ _ ?_))
          clear hK16 K16
          refine wc_condF rfl ?_
          refine c_skip (x_blk (x_then (hK7 _ _ ?_)))
          clear hK7 K7
          refine c_reg ?_ -- region 4 findm.go:62
          refine wl (ro_move rfl) ?_
          refine wl (ro_arith rfl rfl rfl (Go.IntWalk.i64_in _ (by omega))) ?_
          refine wl (ro_assign rfl) ?_
          refine wl_nil (x_then ?_)
          exact ⟨t.length - (i + 2), by omega, i + 2, O, rfl, by omega, hbd, hO, hC, hF, kp _ ⟨rfl, rfl, rfl, rfl, rfl, trivial⟩⟩
        · skip
          have hv1 : c.getD (2 * (d.toNat - 48)) 0 = (ga : Int) := by rw [List.getD, h2]; rfl
          have hv2 : c.getD (2 * (d.toNat - 48) + 1) 0 = (gb : Int) := by rw [List.getD, h3]; rfl
          rw [h4] at hO hOl
          refine c_reg ?_ -- region 11 findm.go:73
          refine wl (ro_move rfl) ?_
          refine wl (ro_arith (r := ((2 * (d.toNat - 48) : Nat) : Int)) rfl rfl (congrArg some (by simp)) (Go.IntWalk.i64_in _ (by omega))) ?_
          refine wl (ro_indexAddrA (et := 3) (k := 1) rfl rfl ar_55 (rfl) ((by omega : 2 * (d.toNat - 48) < 8))) ?_
          refine wl (ro_loadB rfl sc_3 (hC) (cel_at (by omega) (by omega) (congrArg icv hv1))) ?_
          refine wl (ro_cmp (r := true) rfl rfl (congrArg some (decide_eq_true (by omega)))) ?_
          refine wl (ro_move rfl) ?_
          refine wlg_yes rfl (ro_move rfl) ?_
          refine wlg_yes rfl (ro_arith (r := ((2 * (d.toNat - 48) : Nat) : Int)) rfl rfl (congrArg some (by simp)) (Go.IntWalk.i64_in _ (by omega))) ?_
          refine wlg_yes rfl (ro_arith (r := ((2 * (d.toNat - 48) + 1 : Nat) : Int)) rfl rfl (congrArg some (by simp)) (Go.IntWalk.i64_in _ (by omega))) ?_
          refine wlg_yes rfl (ro_indexAddrA (et := 3) (k := 1) rfl rfl ar_55 (rfl) ((by omega : 2 * (d.toNat - 48) + 1 < 8))) ?_
          refine wlg_yes rfl (ro_loadB rfl sc_3 (hC) (cel_at (by omega) (by omega) (congrArg icv hv2))) ?_
          refine wlg_yes rfl (ro_cmp (r := true) rfl rfl (congrArg some (decide_eq_true (by omega)))) ?_
          refine wl (ro_pick rfl rfl rfl) ?_
          refine wl_nil (x_then (hK16 _ _ ?_))
          clear hK16 K16
          refine wc_condT rfl ?_
          refine c_pi [(0, false), (1, false), (2, false), (3, false), (4, false), (5, false), (6, false), (7, false), (8, false), (9, false), (10, false), (11, false), (12, false), (13, false)] (SameH _) mixed (by kernel_rfl) rfl (by kernel_rfl) (po_blk (po_then (po_then (po_blk (po_then (po_bp)))))) (sameH_now _ _) ?_ -- region 12 findm.go:74
          refine pi_ro rfl (fun w hS => ro_move rfl) ?_
          refine pi_ro rfl (fun w hS => ro_move rfl) ?_
          refine pi_ro rfl (fun w hS => ro_move rfl) ?_
          refine pi_ro rfl (fun w hS => ro_arith (r := ((2 * (d.toNat - 48) : Nat) : Int)) rfl rfl (congrArg some (by simp)) (Go.IntWalk.i64_in _ (by omega))) ?_
          refine pi_ro rfl (fun w hS => ro_indexAddrA (et := 3) (k := 1) rfl rfl ar_55 (rfl) ((by omega : 2 * (d.toNat - 48) < 8))) ?_
          refine pi_ro rfl (fun w hS => ro_loadB rfl sc_3 (Blk.of_heap hC hS) (cel_at (by omega) (by omega) (congrArg icv hv1))) ?_
          refine pi_ro rfl (fun w hS => ro_move rfl) ?_
          refine pi_ro rfl (fun w hS => ro_arith (r := ((2 * (d.toNat - 48) : Nat) : Int)) rfl rfl (congrArg some (by simp)) (Go.IntWalk.i64_in _ (by omega))) ?_
          refine pi_ro rfl (fun w hS => ro_arith (r := ((2 * (d.toNat - 48) + 1 : Nat) : Int)) rfl rfl (congrArg some (by simp)) (Go.IntWalk.i64_in _ (by omega))) ?_
          refine pi_ro rfl (fun w hS => ro_indexAddrA (et := 3) (k := 1) rfl rfl ar_55 (rfl) ((by omega : 2 * (d.toNat - 48) + 1 < 8))) ?_
          refine pi_ro rfl (fun w hS => ro_loadB rfl sc_3 (Blk.of_heap hC hS) (cel_at (by omega) (by omega) (congrArg icv hv2))) ?_
          refine pi_ro rfl (fun w hS => ro_sliceSLH (l := ga) (h := gb) rfl rfl rfl st_9 rfl rfl h0 h1) ?_
          refine pi_ro rfl (fun w hS => ro_catS rfl rfl (by have := List.length_take_le (gb - ga) (s.drop ga); omega)) ?_
          refine pi_ro rfl (fun w hS => ro_assign rfl) ?_
          refine pi_nil (x_blk (x_then (hK7 _ _ ?_)))
          clear hK7 K7
          refine c_reg ?_ -- region 4 findm.go:62
          refine wl (ro_move rfl) ?_
          refine wl (ro_arith rfl rfl rfl (Go.IntWalk.i64_in _ (by omega))) ?_
          refine wl (ro_assign rfl) ?_
          refine wl_nil (x_then ?_)
          exact ⟨t.length - (i + 2), by omega, i + 2, O ++ cut s ga gb, rfl, by omega, hbd, by rw [List.append_assoc]; exact hO, hC, hF.thenDrew, kp _ ⟨rfl, rfl, rfl, rfl, rfl, trivial⟩⟩
  · try simp only [decide_eq_true_eq, decide_eq_false_iff_not, Bool.not_eq_true', Bool.not_eq_false', Bool.not_eq_eq_eq_not, Bool.not_true, Bool.not_false, beq_iff_eq, bne_iff_ne, ne_eq, beq_eq_false_iff_ne, bne_eq_false_iff_eq, gt_iff_lt, ge_iff_le, Int.not_lt, Int.not_le] at hc13
    refine c_exit (x_thenX (x_thenX (x_blkX (x_then (hK3 _ _ ?_)))))
    clear hK5 K5 hK3 K3
    refine forget [(7, _)] ⟨rfl, trivial⟩ (fun e => ?_)
    refine c_seq (fun K17 hK17 => ?_)
    refine c_reg ?_ -- region 13 findm.go:77
    refine wl (ro_move rfl) ?_
    refine wl (ro_assign rfl) ?_
    refine wl_nil (x_then (hK17 _ _ ?_))
    clear hK17 K17
    refine c_ret ?_
    refine bp_ret Tryz.results44 rfl ?_
    rw [List.drop_of_length_le (by omega)] at hO
    simp only [exF, List.append_nil] at hO
    rw [hO]
    exact ⟨rfl, hF⟩

end Go.Proofs.Qxb6500567aGreat
