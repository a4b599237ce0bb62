import Derived.Test.Qxb6500567aGreatJc
/- The automaton's cache: seek, take, flush, cellOf. -/
namespace Go.Proofs.Qxb6500567aGreat
set_option linter.unusedVariables false
set_option linter.unusedSimpArgs false

/-- The successor by a byte. -/
def Suc (p : List Ins) (Q b Q' : Nat) : Prop := ∃ M, Mov p Q (UInt8.ofNat b) M ∧ Clo p false false M Q'

/-- The table of successors. -/
def CTI (p : List Ins) (N : DN) (g : Nat → Value) : Prop := ∀ c b, c < 6 → b < 256 → g (c * 256 + b) = icv (-1) ∨ (c < N.u ∧ ∃ t, t < N.u ∧ g (c * 256 + b) = i64c t ∧ Suc p (N.K c) b (N.K t))
def KL (N : DN) : Prop := ∀ i, i < 6 → N.K i < 2 ^ 64

theorem seek82 {w : World} {D : DF} {kv : Value} {N : DN} {Z : Nat} (hB : Blk w.heap D.db (dcl D kv N) 112) (hu : N.u ≤ 6) :
    Ret Tryz.prog 82 [ptr D.db, u64c Z] w (fun v w' => w = w' ∧ ((∃ c, c < N.u ∧ v = i64c c ∧ N.K c = Z) ∨ v = icv (-1))) := by
  refine ret_of Tryz.func82 rfl Tryz.ntmps82 rfl ?_
  refine c_seq (fun K1 hK1 => ?_)
  refine c_reg ?_ -- region 0 cache.go:48
  refine wl (ro_assign rfl) ?_
  refine wl_nil (x_then (hK1 _ _ ?_))
  clear hK1 K1
  refine c_seq (fun K2 hK2 => ?_)
  refine c_seq (fun K3 hK3 => ?_)
  refine c_reg ?_ -- region 1 cache.go:49
  refine wl (ro_assign rfl) ?_
  refine wl_nil (x_then (hK3 _ _ ?_))
  clear hK3 K3
  refine c_block ?_
  -- loop@r2: live slots [0, 1, 5]
  refine c_loopG (fun m a' w' => w = w' ∧ ∃ c : Nat, m = N.u - c ∧ c ≤ N.u ∧ ∃ e, a' = Fr 23 (upds e [(0, ptr D.db), (1, u64c Z), (5, i64c c)]) []) N.u ⟨rfl, 0, rfl, by omega, kp _ ⟨rfl, rfl, rfl, trivial⟩⟩ ?_
  rintro m a' w1 ⟨rfl, c, rfl, hc, e, rfl⟩
  refine c_seq (fun K4 hK4 => ?_)
  refine c_seq (fun K5 hK5 => ?_)
  refine c_reg ?_ -- region 2 cache.go:49
  refine wl (ro_move rfl) ?_
  refine wl (ro_move rfl) ?_
  refine wl (ro_nilCheck rfl) ?_
  refine wl (ro_fieldAddr (k := 10) rfl fo_112_5) ?_
  refine wl (ro_loadB rfl sc_3 (hB) (rfl)) ?_
  refine wl (ro_cmp (r := decide (c < N.u)) rfl rfl (congrArg some (decide_eq_decide.2 (by omega)))) ?_
  refine wl_nil (x_then (hK5 _ _ ?_))
  clear hK5 K5
  refine wc_cond rfl (fun hc11 => ?_) (fun hc11 => ?_)
  · try simp only [decide_eq_true_eq, decide_eq_false_iff_not, Bool.not_eq_true', Bool.not_eq_false', Bool.not_eq_eq_eq_not, Bool.not_true, Bool.not_false, beq_iff_eq, bne_iff_ne, ne_eq, beq_eq_false_iff_ne, bne_eq_false_iff_eq, gt_iff_lt, ge_iff_le, Int.not_lt, Int.not_le] at hc11
    refine c_skip (x_then (hK4 _ _ ?_))
    clear hK4 K4
    refine forget [(0, _), (1, _), (5, _)] ⟨rfl, rfl, rfl, trivial⟩ (fun e => ?_)
    refine c_seq (fun K6 hK6 => ?_)
    refine c_block ?_
    refine c_seq (fun K7 hK7 => ?_)
    refine c_reg ?_ -- region 4 cache.go:50
    refine wl (ro_move rfl) ?_
    refine wl (ro_move rfl) ?_
    refine wl (ro_nilCheck rfl) ?_
    refine wl (ro_fieldAddr (k := 4) rfl fo_112_4) ?_
    refine wl (ro_indexAddrA (et := 85) (k := 1) rfl rfl ar_110 (rfl) ((by omega : c < 6))) ?_
    refine wl (ro_loadB rfl sc_85 (hB) (key_get (by omega))) ?_
    refine wl (ro_move rfl) ?_
    refine wl (ro_cmp (r := decide (N.K c = Z)) rfl rfl (congrArg some (beqc (N.K c) Z))) ?_
    refine wl_nil (x_then (hK7 _ _ ?_))
    clear hK7 K7
    refine wc_cond rfl (fun hc21 => ?_) (fun hc21 => ?_)
    · try simp only [decide_eq_true_eq, decide_eq_false_iff_not, Bool.not_eq_true', Bool.not_eq_false', Bool.not_eq_eq_eq_not, Bool.not_true, Bool.not_false, beq_iff_eq, bne_iff_ne, ne_eq, beq_eq_false_iff_ne, bne_eq_false_iff_eq, gt_iff_lt, ge_iff_le, Int.not_lt, Int.not_le] at hc21
      refine c_seq (fun K8 hK8 => ?_)
      refine c_reg ?_ -- region 5 cache.go:51
      refine wl (ro_move rfl) ?_
      refine wl (ro_assign rfl) ?_
      refine wl_nil (x_then (hK8 _ _ ?_))
      clear hK8 K8
      refine c_ret (x_blkR (x_thenR (x_thenR (x_blkR (x_thenR ?_)))))
      refine bp_ret Tryz.results82 rfl ?_
      exact ⟨rfl, .inl ⟨c, hc11, rfl, hc21⟩⟩
    · try simp only [decide_eq_true_eq, decide_eq_false_iff_not, Bool.not_eq_true', Bool.not_eq_false', Bool.not_eq_eq_eq_not, Bool.not_true, Bool.not_false, beq_iff_eq, bne_iff_ne, ne_eq, beq_eq_false_iff_ne, bne_eq_false_iff_eq, gt_iff_lt, ge_iff_le, Int.not_lt, Int.not_le] at hc21
      refine c_skip (x_blk (x_then (hK6 _ _ ?_)))
      clear hK6 K6
      refine c_reg ?_ -- region 3 cache.go:49
      refine wl (ro_move rfl) ?_
      refine wl (ro_arith rfl rfl rfl (Go.IntWalk.i64_in _ (by omega))) ?_
      refine wl (ro_assign rfl) ?_
      refine wl_nil (x_then ?_)
      exact ⟨N.u - (c + 1), by omega, rfl, c + 1, rfl, by omega, kp _ ⟨rfl, rfl, rfl, trivial⟩⟩
  · try simp only [decide_eq_true_eq, decide_eq_false_iff_not, Bool.not_eq_true', Bool.not_eq_false', Bool.not_eq_eq_eq_not, Bool.not_true, Bool.not_false, beq_iff_eq, bne_iff_ne, ne_eq, beq_eq_false_iff_ne, bne_eq_false_iff_eq, gt_iff_lt, ge_iff_le, Int.not_lt, Int.not_le] at hc11
    refine c_exit (x_thenX (x_thenX (x_blkX (x_then (hK2 _ _ ?_)))))
    clear hK4 K4 hK2 K2
    refine forget [] trivial (fun e => ?_)
    refine c_seq (fun K9 hK9 => ?_)
    refine c_reg ?_ -- region 6 cache.go:54
    refine wl (ro_assign rfl) ?_
    refine wl_nil (x_then (hK9 _ _ ?_))
    clear hK9 K9
    refine c_ret ?_
    refine bp_ret Tryz.results82 rfl ?_
    exact ⟨rfl, .inr rfl⟩

theorem take83 {w : World} {D : DF} {kv : Value} {N : DN} {Z : Nat} (hB : Blk w.heap D.db (dcl D kv N) 112) (hu : N.u < 6) (hbu : N.bu ≤ 1000000000000000000) :
    Ret Tryz.prog 83 [ptr D.db, u64c Z] w (fun v w' => v = i64c N.u ∧ Blk w'.heap D.db (dcl D kv { N with K := updK N.K N.u Z, u := N.u + 1, bu := N.bu + 1 }) 112 ∧ Fram (one D.db) w w') := by
  have hF : Fram (one D.db) w w := Fram.refl _ _
  have hm : one D.db D.db := rfl
  refine ret_of Tryz.func83 rfl Tryz.ntmps83 rfl ?_
  refine c_seq (fun K1 hK1 => ?_)
  refine c_reg ?_ -- region 0 cache.go:58
  refine wl (ro_assign rfl) ?_
  refine wl_nil (x_then (hK1 _ _ ?_))
  clear hK1 K1
  refine forget [(0, _), (1, _)] ⟨rfl, rfl, trivial⟩ (fun e => ?_)
  refine c_seq (fun K2 hK2 => ?_)
  refine c_reg ?_ -- region 1 cache.go:59
  refine wl (ro_move rfl) ?_
  refine wl (ro_nilCheck rfl) ?_
  refine wl (ro_fieldAddr (k := 10) rfl fo_112_5) ?_
  refine wl (ro_loadB rfl sc_3 (hB) (rfl)) ?_
  refine wl (ro_assign rfl) ?_
  refine wl_nil (x_then (hK2 _ _ ?_))
  clear hK2 K2
  refine forget [(0, _), (1, _), (5, _)] ⟨rfl, rfl, rfl, trivial⟩ (fun e => ?_)
  refine c_seq (fun K3 hK3 => ?_)
  refine c_reg ?_ -- region 2 cache.go:60
  refine wl (ro_move rfl) ?_
  refine wl (ro_move rfl) ?_
  refine wl (ro_move rfl) ?_
  refine wl (ro_nilCheck rfl) ?_
  refine wl (ro_fieldAddr (k := 4) rfl fo_112_4) ?_
  refine wl (ro_indexAddrA (et := 85) (k := 1) rfl rfl ar_110 (rfl) (hu)) ?_
  refine wl_put rfl rfl rfl sz_85 hB ((by simp; omega)) ((key_set hu)) (fun w1 hB F1 => ?_)
  replace hF := hF.thenDrew.thenO F1 (by first | exact .inr (by omega) | exact .inl rfl | exact .inl (by assumption))
  refine wl_nil (x_then (hK3 _ _ ?_))
  clear hK3 K3
  refine forget [(0, _), (5, _)] ⟨rfl, rfl, trivial⟩ (fun e => ?_)
  refine c_seq (fun K4 hK4 => ?_)
  refine c_reg ?_ -- region 3 cache.go:61
  refine wl (ro_move rfl) ?_
  refine wl (ro_nilCheck rfl) ?_
  refine wl (ro_fieldAddr (k := 10) rfl fo_112_5) ?_
  refine wl (ro_loadB rfl sc_3 (hB) (rfl)) ?_
  refine wl (ro_arith (r := ((N.u + 1 : Nat) : Int)) rfl rfl rfl (Go.IntWalk.i64_in _ (by omega))) ?_
  refine wl (ro_nilCheck rfl) ?_
  refine wl (ro_fieldAddr (k := 10) rfl fo_112_5) ?_
  refine wl_put rfl rfl rfl sz_3 hB ((by simp)) (rfl) (fun w2 hB F2 => ?_)
  replace hF := hF.thenDrew.thenO F2 (by first | exact .inr (by omega) | exact .inl rfl | exact .inl (by assumption))
  refine wl_nil (x_then (hK4 _ _ ?_))
  clear hK4 K4
  refine forget [(0, _), (5, _)] ⟨rfl, rfl, trivial⟩ (fun e => ?_)
  refine c_seq (fun K5 hK5 => ?_)
  refine c_reg ?_ -- region 4 cache.go:62
  refine wl (ro_move rfl) ?_
  refine wl (ro_nilCheck rfl) ?_
  refine wl (ro_fieldAddr (k := 13) rfl fo_112_8) ?_
  refine wl (ro_loadB rfl sc_3 (hB) (rfl)) ?_
  refine wl (ro_arith (r := ((N.bu + 1 : Nat) : Int)) rfl rfl rfl (Go.IntWalk.i64_in _ (by omega))) ?_
  refine wl (ro_nilCheck rfl) ?_
  refine wl (ro_fieldAddr (k := 13) rfl fo_112_8) ?_
  refine wl_put rfl rfl rfl sz_3 hB ((by simp)) (rfl) (fun w3 hB F3 => ?_)
  replace hF := hF.thenDrew.thenO F3 (by first | exact .inr (by omega) | exact .inl rfl | exact .inl (by assumption))
  refine wl_nil (x_then (hK5 _ _ ?_))
  clear hK5 K5
  refine forget [(5, _)] ⟨rfl, trivial⟩ (fun e => ?_)
  refine c_seq (fun K6 hK6 => ?_)
  refine c_reg ?_ -- region 5 cache.go:63
  refine wl (ro_move rfl) ?_
  refine wl (ro_assign rfl) ?_
  refine wl_nil (x_then (hK6 _ _ ?_))
  clear hK6 K6
  refine c_ret ?_
  refine bp_ret Tryz.results83 rfl ?_
  exact ⟨rfl, hB, hF⟩

set_option maxHeartbeats 4000000 in
theorem flush78 {w : World} {D : DF} {kv : Value} {N : DN} {g : Nat → Value} {p : List Ins} (hB : Blk w.heap D.db (dcl D kv N) 112) (hN : FB w.heap D.nx 1536 g 3) (hd : D.db < D.nx) (hu : N.u ≤ 6) (hfl : N.fl ≤ 1000000000000000000) (hC : ∀ c b, c < 6 → b < 256 → N.u ≤ c → g (c * 256 + b) = icv (-1)) (hKL : KL N) :
    Ret Tryz.prog 78 [ptr D.db] w (fun v w' => v = .tuple #[] ∧ (∃ K' g', Blk w'.heap D.db (dcl D kv { N with K := K', u := 0, fl := N.fl + 1 }) 112 ∧ KL { N with K := K', u := 0, fl := N.fl + 1 } ∧ FB w'.heap D.nx 1536 g' 3 ∧ ∀ j, j < 1536 → g' j = icv (-1)) ∧ Fram (two D.db D.nx) w w') := by
  have hF : Fram (two D.db D.nx) w w := Fram.refl _ _
  have hm1 : two D.db D.nx D.db := .inl rfl
  have hm2 : two D.db D.nx D.nx := .inr rfl
  refine ret_of Tryz.func78 rfl Tryz.ntmps78 rfl ?_
  refine c_seq (fun K1 hK1 => ?_)
  refine c_seq (fun K2 hK2 => ?_)
  refine c_reg ?_ -- region 0 cache.go:37
  refine wl (ro_assign rfl) ?_
  refine wl_nil (x_then (hK2 _ _ ?_))
  clear hK2 K2
  refine c_block ?_
  -- loop@r1: live slots [0, 2]
  refine c_loopG (fun m a' w' => ∃ (c : Nat) (K' : Nat → Nat) (g' : Nat → Value), m = N.u - c ∧ c ≤ N.u ∧ KL { N with K := K' } ∧ (∀ j, j < 1536 → (j < c * 256 ∨ N.u * 256 ≤ j) → g' j = icv (-1)) ∧ Blk w'.heap D.db (dcl D kv { N with K := K' }) 112 ∧ FB w'.heap D.nx 1536 g' 3 ∧ Fram (two D.db D.nx) w w' ∧ ∃ e, a' = Fr 40 (upds e [(0, ptr D.db), (2, i64c c)]) []) N.u ⟨0, N.K, g, rfl, by omega, hKL, ?_, hB, hN, hF, kp _ ⟨rfl, rfl, trivial⟩⟩ ?_
  · intro j hj hjc
    have h9 := hC (j / 256) (j % 256) (by omega) (by omega) (by omega)
    rw [show j / 256 * 256 + j % 256 = j by omega] at h9
    exact h9
  clear hB hN hF hC hKL
  rintro m a' w1 ⟨c, K', g', rfl, hc, hKL, hg, hB, hN, hF, e, rfl⟩
  refine c_seq (fun K3 hK3 => ?_)
  refine c_seq (fun K4 hK4 => ?_)
  refine c_reg ?_ -- region 1 cache.go:37
  refine wl (ro_move rfl) ?_
  refine wl (ro_move rfl) ?_
  refine wl (ro_nilCheck rfl) ?_
  refine wl (ro_fieldAddr (k := 10) rfl fo_112_5) ?_
  refine wl (ro_loadB rfl sc_3 (hB) (rfl)) ?_
  refine wl (ro_cmp (r := decide (c < N.u)) rfl rfl (congrArg some (decide_eq_decide.2 (by show ((c : Nat) : Int) < (N.u : Int) ↔ _; omega)))) ?_
  refine wl_nil (x_then (hK4 _ _ ?_))
  clear hK4 K4
  refine wc_cond rfl (fun hc9 => ?_) (fun hc9 => ?_)
  · try simp only [decide_eq_true_eq, decide_eq_false_iff_not, Bool.not_eq_true', Bool.not_eq_false', Bool.not_eq_eq_eq_not, Bool.not_true, Bool.not_false, beq_iff_eq, bne_iff_ne, ne_eq, beq_eq_false_iff_ne, bne_eq_false_iff_eq, gt_iff_lt, ge_iff_le, Int.not_lt, Int.not_le] at hc9
    refine c_skip (x_then (hK3 _ _ ?_))
    clear hK3 K3
    refine forget [(0, _), (2, _)] ⟨rfl, rfl, trivial⟩ (fun e => ?_)
    refine c_seq (fun K5 hK5 => ?_)
    refine c_block ?_
    refine c_seq (fun K6 hK6 => ?_)
    refine c_reg ?_ -- region 3 cache.go:38
    refine wl (ro_move rfl) ?_
    refine wl (ro_move rfl) ?_
    refine wl (ro_nilCheck rfl) ?_
    refine wl (ro_fieldAddr (k := 4) rfl fo_112_4) ?_
    refine wl (ro_indexAddrA (et := 85) (k := 1) rfl rfl ar_110 (rfl) ((by omega : c < 6))) ?_
    refine wl_put rfl rfl rfl sz_85 hB ((by simp; omega)) ((key_set (v := 0) (by omega))) (fun w1 hB F1 => ?_)
    replace hF := hF.thenDrew.thenO F1 (by first | exact .inr (by omega) | exact .inl rfl | exact .inl (by assumption))
    replace hN := F1.blkO hN (by omega)
    refine wl_nil (x_then (hK6 _ _ ?_))
    clear hK6 K6
    refine forget [(0, _), (2, _)] ⟨rfl, rfl, trivial⟩ (fun e => ?_)
    refine c_seq (fun K7 hK7 => ?_)
    refine c_reg ?_ -- region 4 cache.go:39
    refine wl (ro_assign rfl) ?_
    refine wl_nil (x_then (hK7 _ _ ?_))
    clear hK7 K7
    refine c_block ?_
    -- loop@r5: live slots [0, 2, 3]
    have hKL2 : KL { N with K := updK K' c 0 } := fun i hi => by
      show updK K' c 0 i < 2 ^ 64
      unfold updK
      split
      · decide
      · exact hKL i hi
    refine c_loopG (fun m a' w' => ∃ (b : Nat) (g' : Nat → Value), m = 256 - b ∧ b ≤ 256 ∧ (∀ j, j < 1536 → (j < c * 256 + b ∨ N.u * 256 ≤ j) → g' j = icv (-1)) ∧ Blk w'.heap D.db (dcl D kv { N with K := updK K' c 0 }) 112 ∧ FB w'.heap D.nx 1536 g' 3 ∧ Fram (two D.db D.nx) w w' ∧ ∃ e, a' = Fr 40 (upds e [(0, ptr D.db), (2, i64c c), (3, i64c b)]) []) 256 ⟨0, g', (Nat.sub_zero 256).symm, Nat.zero_le _, ?_, hB, hN, hF, kp _ ⟨rfl, rfl, rfl, trivial⟩⟩ ?_
    · intro j hj h
      rw [Nat.add_zero] at h
      exact hg j hj h
    clear hB hN hF hg
    rintro m a' w1 ⟨b, g', rfl, hb, hg, hB, hN, hF, e, rfl⟩
    refine c_seq (fun K8 hK8 => ?_)
    refine c_seq (fun K9 hK9 => ?_)
    refine c_reg ?_ -- region 5 cache.go:39
    refine wl (ro_move rfl) ?_
    refine wl (ro_cmp (r := decide (b < 256)) rfl rfl (congrArg some (decide_eq_decide.2 (by omega)))) ?_
    refine wl_nil (x_then (hK9 _ _ ?_))
    clear hK9 K9
    refine wc_cond rfl (fun hc18 => ?_) (fun hc18 => ?_)
    · try simp only [decide_eq_true_eq, decide_eq_false_iff_not, Bool.not_eq_true', Bool.not_eq_false', Bool.not_eq_eq_eq_not, Bool.not_true, Bool.not_false, beq_iff_eq, bne_iff_ne, ne_eq, beq_eq_false_iff_ne, bne_eq_false_iff_eq, gt_iff_lt, ge_iff_le, Int.not_lt, Int.not_le] at hc18
      refine c_skip (x_then (hK8 _ _ ?_))
      clear hK8 K8
      refine forget [(0, _), (2, _), (3, _)] ⟨rfl, rfl, rfl, trivial⟩ (fun e => ?_)
      refine c_seq (fun K10 hK10 => ?_)
      refine c_block ?_
      refine c_reg ?_ -- region 7 cache.go:40
      refine wl (ro_move rfl) ?_
      refine wl (ro_nilCheck rfl) ?_
      refine wl (ro_fieldAddr (k := 11) rfl fo_112_6) ?_
      refine wl (ro_loadB rfl sc_97 (hB) (rfl)) ?_
      refine wl (ro_move rfl) ?_
      refine wl (ro_arith (r := ((c * 256 : Nat) : Int)) rfl rfl (congrArg some (by simp)) (Go.IntWalk.i64_in _ (by omega))) ?_
      refine wl (ro_move rfl) ?_
      refine wl (ro_arith (r := ((c * 256 + b : Nat) : Int)) rfl rfl (congrArg some (by simp)) (Go.IntWalk.i64_in _ (by omega))) ?_
      refine wl (ro_indexAddr (et := 3) (k := 1) rfl rfl se_97 (rfl) ((by omega : c * 256 + b < 1536))) ?_
      refine wl_put rfl rfl rfl sz_3 hN ((cel_lt (by omega))) ((cel_put (c * 256 + b) (by omega))) (fun w2 hN F2 => ?_)
      replace hF := hF.thenDrew.thenO F2 (by first | exact .inr (by omega) | exact .inl rfl | exact .inl (by assumption))
      replace hB := F2.blkO hB (by omega)
      refine wl_nil (x_blk (x_then (hK10 _ _ ?_)))
      clear hK10 K10
      refine c_reg ?_ -- region 6 cache.go:39
      refine wl (ro_move rfl) ?_
      refine wl (ro_arith rfl rfl rfl (Go.IntWalk.i64_in _ (by omega))) ?_
      refine wl (ro_assign rfl) ?_
      refine wl_nil (x_then ?_)
      refine ⟨256 - (b + 1), by omega, b + 1, _, rfl, by omega, ?_, hB, hN, hF, kp _ ⟨rfl, rfl, rfl, trivial⟩⟩
      intro j hj hjc
      by_cases h : j = c * 256 + b
      · subst h; exact pt_same
      · rw [pt_ne h]; exact hg j hj (by omega)
    · try simp only [decide_eq_true_eq, decide_eq_false_iff_not, Bool.not_eq_true', Bool.not_eq_false', Bool.not_eq_eq_eq_not, Bool.not_true, Bool.not_false, beq_iff_eq, bne_iff_ne, ne_eq, beq_eq_false_iff_ne, bne_eq_false_iff_eq, gt_iff_lt, ge_iff_le, Int.not_lt, Int.not_le] at hc18
      refine c_exit (x_thenX (x_thenX (x_blkX (x_blk (x_then (hK5 _ _ ?_))))))
      clear hK8 K8 hK5 K5
      refine c_reg ?_ -- region 2 cache.go:37
      refine wl (ro_move rfl) ?_
      refine wl (ro_arith rfl rfl rfl (Go.IntWalk.i64_in _ (by omega))) ?_
      refine wl (ro_assign rfl) ?_
      refine wl_nil (x_then ?_)
      have hbe : b = 256 := by omega
      subst hbe
      exact ⟨N.u - (c + 1), by omega, c + 1, _, g', rfl, by omega, hKL2, fun j hj hjc => hg j hj (by omega), hB, hN, hF, kp _ ⟨rfl, rfl, trivial⟩⟩
  · try simp only [decide_eq_true_eq, decide_eq_false_iff_not, Bool.not_eq_true', Bool.not_eq_false', Bool.not_eq_eq_eq_not, Bool.not_true, Bool.not_false, beq_iff_eq, bne_iff_ne, ne_eq, beq_eq_false_iff_ne, bne_eq_false_iff_eq, gt_iff_lt, ge_iff_le, Int.not_lt, Int.not_le] at hc9
    refine c_exit (x_thenX (x_thenX (x_blkX (x_then (hK1 _ _ ?_)))))
    clear hK3 K3 hK1 K1
    refine forget [(0, _)] ⟨rfl, trivial⟩ (fun e => ?_)
    refine c_seq (fun K11 hK11 => ?_)
    refine c_reg ?_ -- region 8 cache.go:43
    refine wl (ro_move rfl) ?_
    refine wl (ro_nilCheck rfl) ?_
    refine wl (ro_fieldAddr (k := 10) rfl fo_112_5) ?_
    refine wl_put rfl rfl rfl sz_3 hB ((by simp)) (rfl) (fun w3 hB F3 => ?_)
    replace hF := hF.thenDrew.thenO F3 (by first | exact .inr (by omega) | exact .inl rfl | exact .inl (by assumption))
    replace hN := F3.blkO hN (by omega)
    refine wl_nil (x_then (hK11 _ _ ?_))
    clear hK11 K11
    refine c_reg ?_ -- region 9 cache.go:44
    refine wl (ro_move rfl) ?_
    refine wl (ro_nilCheck rfl) ?_
    refine wl (ro_fieldAddr (k := 14) rfl fo_112_9) ?_
    refine wl (ro_loadB rfl sc_3 (hB) (rfl)) ?_
    refine wl (ro_arith (r := ((N.fl + 1 : Nat) : Int)) rfl rfl rfl (Go.IntWalk.i64_in _ (by omega))) ?_
    refine wl (ro_nilCheck rfl) ?_
    refine wl (ro_fieldAddr (k := 14) rfl fo_112_9) ?_
    refine wl_put rfl rfl rfl sz_3 hB ((by simp)) (rfl) (fun w4 hB F4 => ?_)
    replace hF := hF.thenDrew.thenO F4 (by first | exact .inr (by omega) | exact .inl rfl | exact .inl (by assumption))
    replace hN := F4.blkO hN (by omega)
    refine wl_nil ?_
    refine bp_end Tryz.results78 rfl ?_
    exact ⟨rfl, ⟨K', g', hB, hKL, hN, fun j hj => hg j hj (by omega)⟩, hF⟩

/-- What cellOf leaves. -/
structure CO (p : List Ins) (N N' : DN) (g' : Nat → Value) (c Z : Nat) : Prop where
  ci : CTI p N' g'
  kl : KL N'
  u6 : N'.u ≤ 6
  cu : c < N'.u
  key : N'.K c = Z
  ch : N'.ch = N.ch
  en : N'.en = N.en
  hi : N'.hi = N.hi
  bu : N'.bu ≤ N.bu + 1
  fl : N'.fl ≤ N.fl + 1
  wo : N'.wo = N.wo
  old : N'.fl = N.fl → N.u ≤ N'.u ∧ ∀ i, i < N.u → N'.K i = N.K i

theorem CTI.none {p : List Ins} {N : DN} {g : Nat → Value} (h : ∀ j, j < 1536 → g j = icv (-1)) : CTI p N g := fun c b hc hb => .inl (h _ (by omega))
theorem CTI.hi {p : List Ins} {N : DN} {g : Nat → Value} (h : CTI p N g) : ∀ c b, c < 6 → b < 256 → N.u ≤ c → g (c * 256 + b) = icv (-1) := by
  intro c b hc hb hu
  rcases h c b hc hb with h | h
  · exact h
  · omega

set_option maxHeartbeats 4000000 in
theorem cellOf62 {w : World} {D : DF} {kv : Value} {N : DN} {g : Nat → Value} {p : List Ins} {Z : Nat} (hB : Blk w.heap D.db (dcl D kv N) 112) (hN : FB w.heap D.nx 1536 g 3) (hd : D.db < D.nx) (hu : N.u ≤ 6) (hfl : N.fl ≤ 1000000000000000000) (hbu : N.bu ≤ 1000000000000000000) (hC : CTI p N g) (hKL : KL N) (hZ : Z < 2 ^ 64) :
    Ret Tryz.prog 62 [ptr D.db, u64c Z] w (fun v w' => ∃ (N' : DN) (g' : Nat → Value) (c : Nat), v = i64c c ∧ CO p N N' g' c Z ∧ Blk w'.heap D.db (dcl D kv N') 112 ∧ FB w'.heap D.nx 1536 g' 3 ∧ Fram (two D.db D.nx) w w') := by
  have hF : Fram (two D.db D.nx) w w := Fram.refl _ _
  have hseek := seek82 (w := w) (Z := Z) hB hu
  refine ret_of Tryz.func62 rfl Tryz.ntmps62 rfl ?_
  refine c_seq (fun K1 hK1 => ?_)
  refine c_reg ?_ -- region 0 cache.go:67
  refine wl (ro_assign rfl) ?_
  refine wl_nil (x_then (hK1 _ _ ?_))
  clear hK1 K1
  refine forget [(0, _), (1, _)] ⟨rfl, rfl, trivial⟩ (fun e => ?_)
  refine c_seq (fun K2 hK2 => ?_)
  refine c_reg ?_ -- region 1 cache.go:68
  refine wl (ro_move rfl) ?_
  refine wl (ro_move rfl) ?_
  refine wl_call rfl en_82 (hseek) ?_
  rintro v w1 ⟨rfl, hv⟩
  refine wl (ro_assign rfl) ?_
  refine wl_nil (x_then (hK2 _ _ ?_))
  clear hK2 K2
  refine c_seq (fun K3 hK3 => ?_)
  refine c_seq (fun K4 hK4 => ?_)
  rcases hv with ⟨c, hc, rfl, hk⟩ | rfl
  · skip
    refine c_reg ?_ -- region 2 cache.go:69
    refine wl (ro_move rfl) ?_
    refine wl (ro_cmp (r := true) rfl rfl (congrArg some (decide_eq_true (by omega)))) ?_
    refine wl_nil (x_then (hK4 _ _ ?_))
    clear hK4 K4
    refine wc_condT rfl ?_
    refine c_seq (fun K5 hK5 => ?_)
    refine c_reg ?_ -- region 3 cache.go:70
    refine wl (ro_move rfl) ?_
    refine wl (ro_assign rfl) ?_
    refine wl_nil (x_then (hK5 _ _ ?_))
    clear hK5 K5
    refine c_ret (x_thenR ?_)
    refine bp_ret Tryz.results62 rfl ?_
    exact ⟨N, g, c, rfl, ⟨hC, hKL, hu, hc, hk, rfl, rfl, rfl, by omega, by omega, rfl, fun _ => ⟨Nat.le_refl _, fun _ _ => rfl⟩⟩, hB, hN, hF⟩
  · skip
    refine c_reg ?_ -- region 2 cache.go:69
    refine wl (ro_move rfl) ?_
    refine wl (ro_cmp (r := false) rfl rfl rfl) ?_
    refine wl_nil (x_then (hK4 _ _ ?_))
    clear hK4 K4
    refine wc_condF rfl ?_
    refine c_skip (x_then (hK3 _ _ ?_))
    clear hK3 K3
    refine c_seq (fun K6 hK6 => ?_)
    refine c_seq (fun K7 hK7 => ?_)
    refine c_reg ?_ -- region 4 cache.go:72
    refine wl (ro_move rfl) ?_
    refine wl (ro_nilCheck rfl) ?_
    refine wl (ro_fieldAddr (k := 10) rfl fo_112_5) ?_
    refine wl (ro_loadB rfl sc_3 (hB) (rfl)) ?_
    refine wl (ro_cmp (r := decide (6 ≤ N.u)) rfl rfl (congrArg some (decide_eq_decide.2 (by show ((N.u : Nat) : Int) ≥ 6 ↔ _; omega)))) ?_
    refine wl_nil (x_then (hK7 _ _ ?_))
    clear hK7 K7
    refine wc_cond rfl (fun hc16 => ?_) (fun hc16 => ?_)
    · try simp only [decide_eq_true_eq, decide_eq_false_iff_not, Bool.not_eq_true', Bool.not_eq_false', Bool.not_eq_eq_eq_not, Bool.not_true, Bool.not_false, beq_iff_eq, bne_iff_ne, ne_eq, beq_eq_false_iff_ne, bne_eq_false_iff_eq, gt_iff_lt, ge_iff_le, Int.not_lt, Int.not_le] at hc16
      refine c_reg ?_ -- region 5 cache.go:73
      refine wl (ro_move rfl) ?_
      refine wl_call rfl en_78 (flush78 (p := p) hB hN hd hu hfl hC.hi hKL) ?_
      rintro _ w3 ⟨rfl, ⟨K', g', hB, hKL, hN, hg⟩, F3⟩
      replace hF := hF.trans F3
      refine wl_nil (x_then (hK6 _ _ ?_))
      clear hK6 K6
      refine forget [(0, _), (1, _)] ⟨rfl, rfl, trivial⟩ (fun e => ?_)
      refine c_seq (fun K8 hK8 => ?_)
      refine c_reg ?_ -- region 6 cache.go:75
      refine wl (ro_move rfl) ?_
      refine wl (ro_move rfl) ?_
      refine wl_call rfl en_83 (take83 hB (by show 0 < 6; omega) (by show N.bu ≤ _; omega)) ?_
      rintro _ w4 ⟨rfl, hB, F4⟩
      replace hN := F4.blkO hN (by omega)
      replace hF := hF.thenO F4 (.inl (.inl rfl))
      refine wl (ro_assign rfl) ?_
      refine wl_nil (x_then (hK8 _ _ ?_))
      clear hK8 K8
      refine c_ret ?_
      refine bp_ret Tryz.results62 rfl ?_
      refine ⟨{ N with K := updK K' 0 Z, u := 0 + 1, bu := N.bu + 1, fl := N.fl + 1 }, g', 0, rfl, ⟨CTI.none hg, ?_, by show 0 + 1 ≤ 6; omega, by show 0 < 0 + 1; omega, by simp [updK], rfl, rfl, rfl, by show N.bu + 1 ≤ _; omega, by show N.fl + 1 ≤ _; omega, rfl, fun h => by have : N.fl + 1 = N.fl := h; omega⟩, hB, hN, hF⟩
      intro i hi
      show updK K' 0 Z i < 2 ^ 64
      unfold updK
      split
      · exact hZ
      · exact hKL i hi
    · try simp only [decide_eq_true_eq, decide_eq_false_iff_not, Bool.not_eq_true', Bool.not_eq_false', Bool.not_eq_eq_eq_not, Bool.not_true, Bool.not_false, beq_iff_eq, bne_iff_ne, ne_eq, beq_eq_false_iff_ne, bne_eq_false_iff_eq, gt_iff_lt, ge_iff_le, Int.not_lt, Int.not_le] at hc16
      refine c_skip (x_then (hK6 _ _ ?_))
      clear hK6 K6
      refine forget [(0, _), (1, _)] ⟨rfl, rfl, trivial⟩ (fun e => ?_)
      refine c_seq (fun K9 hK9 => ?_)
      refine c_reg ?_ -- region 6 cache.go:75
      refine wl (ro_move rfl) ?_
      refine wl (ro_move rfl) ?_
      refine wl_call rfl en_83 (take83 hB (by omega) hbu) ?_
      rintro _ w4 ⟨rfl, hB, F4⟩
      replace hN := F4.blkO hN (by omega)
      replace hF := hF.thenO F4 (.inl (.inl rfl))
      refine wl (ro_assign rfl) ?_
      refine wl_nil (x_then (hK9 _ _ ?_))
      clear hK9 K9
      refine c_ret ?_
      refine bp_ret Tryz.results62 rfl ?_
      refine ⟨{ N with K := updK N.K N.u Z, u := N.u + 1, bu := N.bu + 1 }, g, N.u, rfl, ⟨?_, ?_, by show N.u + 1 ≤ 6; omega, by show N.u < N.u + 1; omega, by simp [updK], rfl, rfl, rfl, by show N.bu + 1 ≤ _; omega, by show N.fl ≤ _; omega, rfl, fun _ => ⟨by show N.u ≤ N.u + 1; omega, fun i hi => by show updK N.K N.u Z i = N.K i; unfold updK; rw [if_neg (by omega)]⟩⟩, hB, hN, hF⟩
      · intro c b hc hb
        rcases hC c b hc hb with h | ⟨h1, t, h2, h3, h4⟩
        · exact .inl h
        · refine .inr ⟨by show c < N.u + 1; omega, t, by show t < N.u + 1; omega, h3, ?_⟩
          show Suc p (updK N.K N.u Z c) b (updK N.K N.u Z t)
          unfold updK
          rw [if_neg (by omega), if_neg (by omega)]
          exact h4
      · intro i hi
        show updK N.K N.u Z i < 2 ^ 64
        unfold updK
        split
        · exact hZ
        · exact hKL i hi

end Go.Proofs.Qxb6500567aGreat
