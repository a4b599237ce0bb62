import Derived.Test.Qxb6500570aGreatMe
import Derived.Test.Qxb6500570aGreatQe
import Derived.Test.Qxb6500570aGreatFn
/- The real book: Load and Save. -/
namespace Go.Proofs.Qxb6500570aGreat
set_option linter.unusedVariables false
set_option linter.unusedSimpArgs false

theorem bat_get {s : Tx} {i : Nat} (h : i < s.length) : s[i]? = some (s.getD i 0) := by
  rw [List.getD_eq_getElem?_getD, List.getElem?_eq_getElem h]; rfl
theorem pair31 {w : World} {s : Tx} {i : Nat} (hi : i + 1 < s.length) (hs : s.length ≤ 1056) : Ret Tryz.prog 31 [S s, i64c i] w (fun v w' => v = icv (pr2 s i) ∧ w' = w) := by
  have h1 := bat_get (s := s) (i := i) (by omega)
  have h2 := bat_get (s := s) (i := i + 1) (by omega)
  have hp : pr2 s i = if bAt s i < 48 ∨ 57 < bAt s i ∨ bAt s (i + 1) < 48 ∨ 57 < bAt s (i + 1) then -1 else ((bAt s i : Int) - 48) * 10 + ((bAt s (i + 1) : Int) - 48) := rfl
  have e1 : (s.getD i 0).toNat = bAt s i := rfl
  have e2 : (s.getD (i + 1) 0).toNat = bAt s (i + 1) := rfl
  have b1 : bAt s i < 256 := UInt8.toNat_lt _
  have b2 : bAt s (i + 1) < 256 := UInt8.toNat_lt _
  rw [hp]
  clear hp
  generalize s.getD i 0 = c1 at *
  generalize s.getD (i + 1) 0 = c2 at *
  generalize bAt s i = x at *
  generalize bAt s (i + 1) = y at *
  refine ret_of Tryz.func31 rfl Tryz.ntmps31 rfl ?_
  refine c_seq (fun K1 hK1 => ?_)
  refine c_reg ?_ -- region 0 file.go:25
  refine wl (ro_assign rfl) ?_
  refine wl_nil (x_then (hK1 _ _ ?_))
  clear hK1 K1
  refine forget [(0, _), (1, _)] ⟨rfl, rfl, trivial⟩ (fun e => ?_)
  refine c_seq (fun K2 hK2 => ?_)
  refine c_reg ?_ -- region 1 file.go:26
  refine wl (ro_move rfl) ?_
  refine wl (ro_move rfl) ?_
  refine wl (ro_indexS rfl rfl st_9 rfl (h1)) ?_
  refine wl (ro_assign rfl) ?_
  refine wl_nil (x_then (hK2 _ _ ?_))
  clear hK2 K2
  refine forget [(0, _), (1, _), (5, _)] ⟨rfl, rfl, rfl, trivial⟩ (fun e => ?_)
  refine c_seq (fun K3 hK3 => ?_)
  refine c_reg ?_ -- region 2 file.go:27
  refine wl (ro_move rfl) ?_
  refine wl (ro_move rfl) ?_
  refine wl (ro_arith (r := ((i + 1 : Nat) : Int)) rfl rfl rfl (Go.IntWalk.i64_in _ (by omega))) ?_
  refine wl (ro_indexS rfl rfl st_9 rfl (h2)) ?_
  refine wl (ro_assign rfl) ?_
  refine wl_nil (x_then (hK3 _ _ ?_))
  clear hK3 K3
  refine c_seq (fun K4 hK4 => ?_)
  refine c_seq (fun K5 hK5 => ?_)
  refine c_reg ?_ -- region 3 file.go:28
  refine wl (ro_move rfl) ?_
  refine wl (ro_cmp rfl rfl rfl) ?_
  refine wl_fork rfl (fun hg16 => ?_) (fun hg16 => ?_)
  · try simp only [decide_eq_true_eq, decide_eq_false_iff_not, Bool.not_eq_true', Bool.not_eq_false', Bool.not_eq_eq_eq_not, Bool.not_true, Bool.not_false, beq_iff_eq, bne_iff_ne, ne_eq, beq_eq_false_iff_ne, bne_eq_false_iff_eq, gt_iff_lt, ge_iff_le, Int.not_lt, Int.not_le] at hg16
    refine wlg_no rfl ?_
    refine wlg_no rfl ?_
    refine wl (ro_pick rfl rfl rfl) ?_
    refine wl (ro_move rfl) ?_
    refine wlg_no rfl ?_
    refine wlg_no rfl ?_
    refine wl (ro_pick rfl rfl rfl) ?_
    refine wl (ro_move rfl) ?_
    refine wlg_no rfl ?_
    refine wlg_no rfl ?_
    refine wl (ro_pick rfl rfl rfl) ?_
    refine wl_nil (x_then (hK5 _ _ ?_))
    clear hK5 K5
    refine wc_condT rfl ?_
    refine c_seq (fun K6 hK6 => ?_)
    refine c_reg ?_ -- region 4 file.go:29
    refine wl (ro_assign rfl) ?_
    refine wl_nil (x_then (hK6 _ _ ?_))
    clear hK6 K6
    refine c_ret (x_thenR ?_)
    refine bp_ret Tryz.results31 rfl ?_
    refine ⟨congrArg icv ?_, rfl⟩
    split <;> omega
  · try simp only [decide_eq_true_eq, decide_eq_false_iff_not, Bool.not_eq_true', Bool.not_eq_false', Bool.not_eq_eq_eq_not, Bool.not_true, Bool.not_false, beq_iff_eq, bne_iff_ne, ne_eq, beq_eq_false_iff_ne, bne_eq_false_iff_eq, gt_iff_lt, ge_iff_le, Int.not_lt, Int.not_le] at hg16
    refine wlg_yes rfl (ro_move rfl) ?_
    refine wlg_yes rfl (ro_cmp rfl rfl rfl) ?_
    refine wl (ro_pick rfl rfl rfl) ?_
    refine wl_fork rfl (fun hg20 => ?_) (fun hg20 => ?_)
    · try simp only [decide_eq_true_eq, decide_eq_false_iff_not, Bool.not_eq_true', Bool.not_eq_false', Bool.not_eq_eq_eq_not, Bool.not_true, Bool.not_false, beq_iff_eq, bne_iff_ne, ne_eq, beq_eq_false_iff_ne, bne_eq_false_iff_eq, gt_iff_lt, ge_iff_le, Int.not_lt, Int.not_le] at hg20
      refine wlg_no rfl ?_
      refine wlg_no rfl ?_
      refine wl (ro_pick rfl rfl rfl) ?_
      refine wl (ro_move rfl) ?_
      refine wlg_no rfl ?_
      refine wlg_no rfl ?_
      refine wl (ro_pick rfl rfl rfl) ?_
      refine wl_nil (x_then (hK5 _ _ ?_))
      clear hK5 K5
      refine wc_condT rfl ?_
      refine c_seq (fun K7 hK7 => ?_)
      refine c_reg ?_ -- region 4 file.go:29
      refine wl (ro_assign rfl) ?_
      refine wl_nil (x_then (hK7 _ _ ?_))
      clear hK7 K7
      refine c_ret (x_thenR ?_)
      refine bp_ret Tryz.results31 rfl ?_
      refine ⟨congrArg icv ?_, rfl⟩
      split <;> omega
    · try simp only [decide_eq_true_eq, decide_eq_false_iff_not, Bool.not_eq_true', Bool.not_eq_false', Bool.not_eq_eq_eq_not, Bool.not_true, Bool.not_false, beq_iff_eq, bne_iff_ne, ne_eq, beq_eq_false_iff_ne, bne_eq_false_iff_eq, gt_iff_lt, ge_iff_le, Int.not_lt, Int.not_le] at hg20
      refine wlg_yes rfl (ro_move rfl) ?_
      refine wlg_yes rfl (ro_cmp rfl rfl rfl) ?_
      refine wl (ro_pick rfl rfl rfl) ?_
      refine wl_fork rfl (fun hg24 => ?_) (fun hg24 => ?_)
      · try simp only [decide_eq_true_eq, decide_eq_false_iff_not, Bool.not_eq_true', Bool.not_eq_false', Bool.not_eq_eq_eq_not, Bool.not_true, Bool.not_false, beq_iff_eq, bne_iff_ne, ne_eq, beq_eq_false_iff_ne, bne_eq_false_iff_eq, gt_iff_lt, ge_iff_le, Int.not_lt, Int.not_le] at hg24
        refine wlg_no rfl ?_
        refine wlg_no rfl ?_
        refine wl (ro_pick rfl rfl rfl) ?_
        refine wl_nil (x_then (hK5 _ _ ?_))
        clear hK5 K5
        refine wc_condT rfl ?_
        refine c_seq (fun K8 hK8 => ?_)
        refine c_reg ?_ -- region 4 file.go:29
        refine wl (ro_assign rfl) ?_
        refine wl_nil (x_then (hK8 _ _ ?_))
        clear hK8 K8
        refine c_ret (x_thenR ?_)
        refine bp_ret Tryz.results31 rfl ?_
        refine ⟨congrArg icv ?_, rfl⟩
        split <;> omega
      · try simp only [decide_eq_true_eq, decide_eq_false_iff_not, Bool.not_eq_true', Bool.not_eq_false', Bool.not_eq_eq_eq_not, Bool.not_true, Bool.not_false, beq_iff_eq, bne_iff_ne, ne_eq, beq_eq_false_iff_ne, bne_eq_false_iff_eq, gt_iff_lt, ge_iff_le, Int.not_lt, Int.not_le] at hg24
        refine wlg_yes rfl (ro_move rfl) ?_
        refine wlg_yes rfl (ro_cmp rfl rfl rfl) ?_
        refine wl (ro_pick rfl rfl rfl) ?_
        refine wl_nil (x_then (hK5 _ _ ?_))
        clear hK5 K5
        refine wc_cond rfl (fun hc27 => ?_) (fun hc27 => ?_)
        · try simp only [decide_eq_true_eq, decide_eq_false_iff_not, Bool.not_eq_true', Bool.not_eq_false', Bool.not_eq_eq_eq_not, Bool.not_true, Bool.not_false, beq_iff_eq, bne_iff_ne, ne_eq, beq_eq_false_iff_ne, bne_eq_false_iff_eq, gt_iff_lt, ge_iff_le, Int.not_lt, Int.not_le] at hc27
          refine c_seq (fun K9 hK9 => ?_)
          refine c_reg ?_ -- region 4 file.go:29
          refine wl (ro_assign rfl) ?_
          refine wl_nil (x_then (hK9 _ _ ?_))
          clear hK9 K9
          refine c_ret (x_thenR ?_)
          refine bp_ret Tryz.results31 rfl ?_
          refine ⟨congrArg icv ?_, rfl⟩
          split <;> omega
        · try simp only [decide_eq_true_eq, decide_eq_false_iff_not, Bool.not_eq_true', Bool.not_eq_false', Bool.not_eq_eq_eq_not, Bool.not_true, Bool.not_false, beq_iff_eq, bne_iff_ne, ne_eq, beq_eq_false_iff_ne, bne_eq_false_iff_eq, gt_iff_lt, ge_iff_le, Int.not_lt, Int.not_le] at hc27
          refine c_skip (x_then (hK4 _ _ ?_))
          clear hK4 K4
          refine forget [(5, _), (6, _)] ⟨rfl, rfl, trivial⟩ (fun e => ?_)
          refine c_seq (fun K10 hK10 => ?_)
          refine c_reg ?_ -- region 5 file.go:31
          refine wl (ro_move rfl) ?_
          refine wl (ro_arith (r := (x : Int) - 48) rfl rfl (congrArg some (by omega)) (Go.IntWalk.u8_in _ (by omega))) ?_
          refine wl (ro_conv rfl sc_5 in_3 (Go.IntWalk.i64_in _ (by omega))) ?_
          refine wl (ro_arith (r := ((x : Int) - 48) * 10) rfl rfl rfl (Go.IntWalk.i64_in _ (by omega))) ?_
          refine wl (ro_move rfl) ?_
          refine wl (ro_arith (r := (y : Int) - 48) rfl rfl (congrArg some (by omega)) (Go.IntWalk.u8_in _ (by omega))) ?_
          refine wl (ro_conv rfl sc_5 in_3 (Go.IntWalk.i64_in _ (by omega))) ?_
          refine wl (ro_arith (r := ((x : Int) - 48) * 10 + ((y : Int) - 48)) rfl rfl rfl (Go.IntWalk.i64_in _ (by omega))) ?_
          refine wl (ro_assign rfl) ?_
          refine wl_nil (x_then (hK10 _ _ ?_))
          clear hK10 K10
          refine c_ret ?_
          refine bp_ret Tryz.results31 rfl ?_
          refine ⟨congrArg icv ?_, rfl⟩
          split <;> omega
/-- The judge at work. -/
def JdI (s : Tx) (r : Bool) (last : Int) (i : Nat) : Prop := ∃ (f : Nat) (S' : List Tx), s.length - i < f + 1 ∧ (ldF (f + 1) s last i S').isSome = r
theorem JdI.fin {s : Tx} {r : Bool} {last : Int} {i : Nat} (h : JdI s r last i) (hi : s.length ≤ i) : r = true := by
  obtain ⟨f, S', h1, h2⟩ := h
  rw [ld_end hi] at h2
  exact h2.symm
theorem JdI.bad {s : Tx} {r : Bool} {last : Int} {i : Nat} (h : JdI s r last i) (hi : i < s.length) (hb : s.length - i < 4 ∨ (pr2 s i ≤ last ∨ 24 ≤ pr2 s i) ∨ (pr2 s (i + 2) < 1 ∨ 40 < pr2 s (i + 2) ∨ ((s.length : Int) - i - 4 < pr2 s (i + 2)))) : r = false := by
  obtain ⟨f, S', h1, h2⟩ := h
  rw [ld_none hi hb] at h2
  exact h2.symm
theorem JdI.go {s : Tx} {r : Bool} {last : Int} {i c n : Nat} (h : JdI s r last i) (hp : PcOK s last i c n) : JdI s r c (i + 4 + n) := by
  obtain ⟨f, S', h1, h2⟩ := h
  rw [ld_step hp] at h2
  have h4 := hp.h4
  obtain ⟨f, rfl⟩ : ∃ g, f = g + 1 := ⟨f - 1, by omega⟩
  exact ⟨f, _, by omega, h2⟩
set_option maxHeartbeats 4000000 in
theorem judge30 {w : World} {s : Tx} (hs : s.length ≤ 1056) : Ret Tryz.prog 30 [S s] w (fun v w' => v = .bool (ldR s).isSome ∧ w' = w) := by
  have h0 : JdI s (ldR s).isSome (-1) 0 := ⟨s.length, _, by omega, rfl⟩
  generalize (ldR s).isSome = r at h0 ⊢
  refine ret_of Tryz.func30 rfl Tryz.ntmps30 rfl ?_
  refine c_seq (fun K1 hK1 => ?_)
  refine c_reg ?_ -- region 0 file.go:35
  refine wl (ro_assign rfl) ?_
  refine wl_nil (x_then (hK1 _ _ ?_))
  clear hK1 K1
  refine forget [(0, _)] ⟨rfl, trivial⟩ (fun e => ?_)
  refine c_seq (fun K2 hK2 => ?_)
  refine c_reg ?_ -- region 1 file.go:36
  refine wl (ro_assign rfl) ?_
  refine wl_nil (x_then (hK2 _ _ ?_))
  clear hK2 K2
  refine forget [(0, _), (3, _)] ⟨rfl, rfl, trivial⟩ (fun e => ?_)
  refine c_seq (fun K3 hK3 => ?_)
  refine c_reg ?_ -- region 2 file.go:37
  refine wl (ro_assign rfl) ?_
  refine wl_nil (x_then (hK3 _ _ ?_))
  clear hK3 K3
  refine forget [(0, _), (3, _), (4, _)] ⟨rfl, rfl, rfl, trivial⟩ (fun e => ?_)
  refine c_seq (fun K4 hK4 => ?_)
  refine c_block ?_
  -- loop@r3: live slots [0, 3, 4]
  refine c_loopG (fun m a' w' => ∃ (last : Int) (i : Nat), m = s.length - i ∧ i ≤ s.length ∧ -1 ≤ last ∧ last ≤ 99 ∧ JdI s r last i ∧ w' = w ∧ ∃ e, a' = Fr 50 (upds e [(0, S s), (3, icv last), (4, i64c i)]) []) s.length ⟨-1, 0, rfl, by omega, by omega, by omega, h0, rfl, kp _ ⟨rfl, rfl, rfl, trivial⟩⟩ ?_
  clear h0
  rintro m a' u1 ⟨last, i, rfl, hi, hl1, hl2, hJ, hw, e, rfl⟩
  have p1 := pr2_bd s i
  have p2 := pr2_bd s (i + 2)
  refine c_seq (fun K5 hK5 => ?_)
  refine c_seq (fun K6 hK6 => ?_)
  refine c_reg ?_ -- region 3 file.go:38
  refine wl (ro_move rfl) ?_
  refine wl (ro_move rfl) ?_
  refine wl (ro_lenS rfl st_9) ?_
  refine wl (ro_cmp (r := decide (i < s.length)) rfl rfl (congrArg some (decide_eq_decide.2 (by omega)))) ?_
  refine wl_nil (x_then (hK6 _ _ ?_))
  clear hK6 K6
  refine wc_cond rfl (fun hc10 => ?_) (fun hc10 => ?_)
  · try simp only [decide_eq_true_eq, decide_eq_false_iff_not, Bool.not_eq_true', Bool.not_eq_false', Bool.not_eq_eq_eq_not, Bool.not_true, Bool.not_false, beq_iff_eq, bne_iff_ne, ne_eq, beq_eq_false_iff_ne, bne_eq_false_iff_eq, gt_iff_lt, ge_iff_le, Int.not_lt, Int.not_le] at hc10
    refine c_skip (x_then (hK5 _ _ ?_))
    clear hK5 K5
    refine c_block ?_
    refine c_seq (fun K7 hK7 => ?_)
    refine c_seq (fun K8 hK8 => ?_)
    refine c_reg ?_ -- region 4 file.go:39
    refine wl (ro_move rfl) ?_
    refine wl (ro_lenS rfl st_9) ?_
    refine wl (ro_move rfl) ?_
    refine wl (ro_arith (r := ((s.length - i : Nat) : Int)) rfl rfl (congrArg some (by omega)) (Go.IntWalk.i64_in _ (by omega))) ?_
    refine wl (ro_cmp (r := decide (s.length - i < 4)) rfl rfl (congrArg some (decide_eq_decide.2 (by omega)))) ?_
    refine wl_nil (x_then (hK8 _ _ ?_))
    clear hK8 K8
    refine wc_cond rfl (fun hc15 => ?_) (fun hc15 => ?_)
    · try simp only [decide_eq_true_eq, decide_eq_false_iff_not, Bool.not_eq_true', Bool.not_eq_false', Bool.not_eq_eq_eq_not, Bool.not_true, Bool.not_false, beq_iff_eq, bne_iff_ne, ne_eq, beq_eq_false_iff_ne, bne_eq_false_iff_eq, gt_iff_lt, ge_iff_le, Int.not_lt, Int.not_le] at hc15
      refine c_seq (fun K9 hK9 => ?_)
      refine c_reg ?_ -- region 5 file.go:40
      refine wl (ro_assign rfl) ?_
      refine wl_nil (x_then (hK9 _ _ ?_))
      clear hK9 K9
      refine c_ret (x_thenR (x_blkR (x_thenR (x_blkR (x_thenR ?_)))))
      refine bp_ret Tryz.results30 rfl ?_
      first
        | (rw [hJ.bad hc10 (by omega)]; exact ⟨rfl, hw⟩)
        | (rw [hJ.fin (by omega)]; exact ⟨rfl, hw⟩)
    · try simp only [decide_eq_true_eq, decide_eq_false_iff_not, Bool.not_eq_true', Bool.not_eq_false', Bool.not_eq_eq_eq_not, Bool.not_true, Bool.not_false, beq_iff_eq, bne_iff_ne, ne_eq, beq_eq_false_iff_ne, bne_eq_false_iff_eq, gt_iff_lt, ge_iff_le, Int.not_lt, Int.not_le] at hc15
      refine c_skip (x_then (hK7 _ _ ?_))
      clear hK7 K7
      refine forget [(0, _), (3, _), (4, _)] ⟨rfl, rfl, rfl, trivial⟩ (fun e => ?_)
      refine c_seq (fun K10 hK10 => ?_)
      refine c_reg ?_ -- region 6 file.go:42
      refine wl (ro_move rfl) ?_
      refine wl (ro_move rfl) ?_
      refine wl_call rfl en_31 (pair31 (by omega) hs) ?_
      rintro _ u0 ⟨rfl, hw0⟩
      rw [hw0]
      clear hw0 u0
      refine wl (ro_assign rfl) ?_
      refine wl_nil (x_then (hK10 _ _ ?_))
      clear hK10 K10
      refine forget [(0, _), (3, _), (4, _), (5, _)] ⟨rfl, rfl, rfl, rfl, trivial⟩ (fun e => ?_)
      refine c_seq (fun K11 hK11 => ?_)
      refine c_reg ?_ -- region 7 file.go:43
      refine wl (ro_move rfl) ?_
      refine wl (ro_move rfl) ?_
      refine wl (ro_arith (r := ((i + 2 : Nat) : Int)) rfl rfl rfl (Go.IntWalk.i64_in _ (by omega))) ?_
      refine wl_call rfl en_31 (pair31 (by omega) hs) ?_
      rintro _ u0 ⟨rfl, hw0⟩
      rw [hw0]
      clear hw0 u0
      refine wl (ro_assign rfl) ?_
      refine wl_nil (x_then (hK11 _ _ ?_))
      clear hK11 K11
      refine c_seq (fun K12 hK12 => ?_)
      refine c_seq (fun K13 hK13 => ?_)
      refine c_reg ?_ -- region 8 file.go:44
      refine wl (ro_move rfl) ?_
      refine wl (ro_move rfl) ?_
      refine wl (ro_cmp (r := decide (pr2 s i ≤ last)) rfl rfl rfl) ?_
      refine wl_fork rfl (fun hg26 => ?_) (fun hg26 => ?_)
      · try simp only [decide_eq_true_eq, decide_eq_false_iff_not, Bool.not_eq_true', Bool.not_eq_false', Bool.not_eq_eq_eq_not, Bool.not_true, Bool.not_false, beq_iff_eq, bne_iff_ne, ne_eq, beq_eq_false_iff_ne, bne_eq_false_iff_eq, gt_iff_lt, ge_iff_le, Int.not_lt, Int.not_le] at hg26
        refine wlg_no rfl ?_
        refine wlg_no rfl ?_
        refine wl (ro_pick rfl rfl rfl) ?_
        refine wl_nil (x_then (hK13 _ _ ?_))
        clear hK13 K13
        refine wc_condT rfl ?_
        refine c_seq (fun K14 hK14 => ?_)
        refine c_reg ?_ -- region 9 file.go:45
        refine wl (ro_assign rfl) ?_
        refine wl_nil (x_then (hK14 _ _ ?_))
        clear hK14 K14
        refine c_ret (x_thenR (x_blkR (x_thenR (x_blkR (x_thenR ?_)))))
        refine bp_ret Tryz.results30 rfl ?_
        first
          | (rw [hJ.bad hc10 (by omega)]; exact ⟨rfl, hw⟩)
          | (rw [hJ.fin (by omega)]; exact ⟨rfl, hw⟩)
      · try simp only [decide_eq_true_eq, decide_eq_false_iff_not, Bool.not_eq_true', Bool.not_eq_false', Bool.not_eq_eq_eq_not, Bool.not_true, Bool.not_false, beq_iff_eq, bne_iff_ne, ne_eq, beq_eq_false_iff_ne, bne_eq_false_iff_eq, gt_iff_lt, ge_iff_le, Int.not_lt, Int.not_le] at hg26
        refine wlg_yes rfl (ro_move rfl) ?_
        refine wlg_yes rfl (ro_cmp (r := decide (24 ≤ pr2 s i)) rfl rfl rfl) ?_
        refine wl (ro_pick rfl rfl rfl) ?_
        refine wl_nil (x_then (hK13 _ _ ?_))
        clear hK13 K13
        refine wc_cond rfl (fun hc29 => ?_) (fun hc29 => ?_)
        · try simp only [decide_eq_true_eq, decide_eq_false_iff_not, Bool.not_eq_true', Bool.not_eq_false', Bool.not_eq_eq_eq_not, Bool.not_true, Bool.not_false, beq_iff_eq, bne_iff_ne, ne_eq, beq_eq_false_iff_ne, bne_eq_false_iff_eq, gt_iff_lt, ge_iff_le, Int.not_lt, Int.not_le] at hc29
          refine c_seq (fun K15 hK15 => ?_)
          refine c_reg ?_ -- region 9 file.go:45
          refine wl (ro_assign rfl) ?_
          refine wl_nil (x_then (hK15 _ _ ?_))
          clear hK15 K15
          refine c_ret (x_thenR (x_blkR (x_thenR (x_blkR (x_thenR ?_)))))
          refine bp_ret Tryz.results30 rfl ?_
          first
            | (rw [hJ.bad hc10 (by omega)]; exact ⟨rfl, hw⟩)
            | (rw [hJ.fin (by omega)]; exact ⟨rfl, hw⟩)
        · try simp only [decide_eq_true_eq, decide_eq_false_iff_not, Bool.not_eq_true', Bool.not_eq_false', Bool.not_eq_eq_eq_not, Bool.not_true, Bool.not_false, beq_iff_eq, bne_iff_ne, ne_eq, beq_eq_false_iff_ne, bne_eq_false_iff_eq, gt_iff_lt, ge_iff_le, Int.not_lt, Int.not_le] at hc29
          refine c_skip (x_then (hK12 _ _ ?_))
          clear hK12 K12
          refine c_seq (fun K16 hK16 => ?_)
          refine c_seq (fun K17 hK17 => ?_)
          refine c_reg ?_ -- region 10 file.go:47
          refine wl (ro_move rfl) ?_
          refine wl (ro_cmp (r := decide (pr2 s (i + 2) < 1)) rfl rfl rfl) ?_
          refine wl_fork rfl (fun hg32 => ?_) (fun hg32 => ?_)
          · try simp only [decide_eq_true_eq, decide_eq_false_iff_not, Bool.not_eq_true', Bool.not_eq_false', Bool.not_eq_eq_eq_not, Bool.not_true, Bool.not_false, beq_iff_eq, bne_iff_ne, ne_eq, beq_eq_false_iff_ne, bne_eq_false_iff_eq, gt_iff_lt, ge_iff_le, Int.not_lt, Int.not_le] at hg32
            refine wlg_no rfl ?_
            refine wlg_no rfl ?_
            refine wl (ro_pick rfl rfl rfl) ?_
            refine wl (ro_move rfl) ?_
            refine wlg_no rfl ?_
            refine wlg_no rfl ?_
            refine wlg_no rfl ?_
            refine wlg_no rfl ?_
            refine wlg_no rfl ?_
            refine wlg_no rfl ?_
            refine wlg_no rfl ?_
            refine wl (ro_pick rfl rfl rfl) ?_
            refine wl_nil (x_then (hK17 _ _ ?_))
            clear hK17 K17
            refine wc_condT rfl ?_
            refine c_seq (fun K18 hK18 => ?_)
            refine c_reg ?_ -- region 11 file.go:48
            refine wl (ro_assign rfl) ?_
            refine wl_nil (x_then (hK18 _ _ ?_))
            clear hK18 K18
            refine c_ret (x_thenR (x_blkR (x_thenR (x_blkR (x_thenR ?_)))))
            refine bp_ret Tryz.results30 rfl ?_
            first
              | (rw [hJ.bad hc10 (by omega)]; exact ⟨rfl, hw⟩)
              | (rw [hJ.fin (by omega)]; exact ⟨rfl, hw⟩)
          · try simp only [decide_eq_true_eq, decide_eq_false_iff_not, Bool.not_eq_true', Bool.not_eq_false', Bool.not_eq_eq_eq_not, Bool.not_true, Bool.not_false, beq_iff_eq, bne_iff_ne, ne_eq, beq_eq_false_iff_ne, bne_eq_false_iff_eq, gt_iff_lt, ge_iff_le, Int.not_lt, Int.not_le] at hg32
            refine wlg_yes rfl (ro_move rfl) ?_
            refine wlg_yes rfl (ro_cmp (r := decide (40 < pr2 s (i + 2))) rfl rfl rfl) ?_
            refine wl (ro_pick rfl rfl rfl) ?_
            refine wl_fork rfl (fun hg36 => ?_) (fun hg36 => ?_)
            · try simp only [decide_eq_true_eq, decide_eq_false_iff_not, Bool.not_eq_true', Bool.not_eq_false', Bool.not_eq_eq_eq_not, Bool.not_true, Bool.not_false, beq_iff_eq, bne_iff_ne, ne_eq, beq_eq_false_iff_ne, bne_eq_false_iff_eq, gt_iff_lt, ge_iff_le, Int.not_lt, Int.not_le] at hg36
              refine wlg_no rfl ?_
              refine wlg_no rfl ?_
              refine wlg_no rfl ?_
              refine wlg_no rfl ?_
              refine wlg_no rfl ?_
              refine wlg_no rfl ?_
              refine wlg_no rfl ?_
              refine wl (ro_pick rfl rfl rfl) ?_
              refine wl_nil (x_then (hK17 _ _ ?_))
              clear hK17 K17
              refine wc_condT rfl ?_
              refine c_seq (fun K19 hK19 => ?_)
              refine c_reg ?_ -- region 11 file.go:48
              refine wl (ro_assign rfl) ?_
              refine wl_nil (x_then (hK19 _ _ ?_))
              clear hK19 K19
              refine c_ret (x_thenR (x_blkR (x_thenR (x_blkR (x_thenR ?_)))))
              refine bp_ret Tryz.results30 rfl ?_
              first
                | (rw [hJ.bad hc10 (by omega)]; exact ⟨rfl, hw⟩)
                | (rw [hJ.fin (by omega)]; exact ⟨rfl, hw⟩)
            · try simp only [decide_eq_true_eq, decide_eq_false_iff_not, Bool.not_eq_true', Bool.not_eq_false', Bool.not_eq_eq_eq_not, Bool.not_true, Bool.not_false, beq_iff_eq, bne_iff_ne, ne_eq, beq_eq_false_iff_ne, bne_eq_false_iff_eq, gt_iff_lt, ge_iff_le, Int.not_lt, Int.not_le] at hg36
              refine wlg_yes rfl (ro_move rfl) ?_
              refine wlg_yes rfl (ro_move rfl) ?_
              refine wlg_yes rfl (ro_lenS rfl st_9) ?_
              refine wlg_yes rfl (ro_move rfl) ?_
              refine wlg_yes rfl (ro_arith (r := ((s.length - i : Nat) : Int)) rfl rfl (congrArg some (by omega)) (Go.IntWalk.i64_in _ (by omega))) ?_
              refine wlg_yes rfl (ro_arith (r := ((s.length - i : Nat) : Int) - 4) rfl rfl rfl (Go.IntWalk.i64_in _ (by omega))) ?_
              refine wlg_yes rfl (ro_cmp (r := decide ((s.length : Int) - i - 4 < pr2 s (i + 2))) rfl rfl (congrArg some (decide_eq_decide.2 (by omega)))) ?_
              refine wl (ro_pick rfl rfl rfl) ?_
              refine wl_nil (x_then (hK17 _ _ ?_))
              clear hK17 K17
              refine wc_cond rfl (fun hc44 => ?_) (fun hc44 => ?_)
              · try simp only [decide_eq_true_eq, decide_eq_false_iff_not, Bool.not_eq_true', Bool.not_eq_false', Bool.not_eq_eq_eq_not, Bool.not_true, Bool.not_false, beq_iff_eq, bne_iff_ne, ne_eq, beq_eq_false_iff_ne, bne_eq_false_iff_eq, gt_iff_lt, ge_iff_le, Int.not_lt, Int.not_le] at hc44
                refine c_seq (fun K20 hK20 => ?_)
                refine c_reg ?_ -- region 11 file.go:48
                refine wl (ro_assign rfl) ?_
                refine wl_nil (x_then (hK20 _ _ ?_))
                clear hK20 K20
                refine c_ret (x_thenR (x_blkR (x_thenR (x_blkR (x_thenR ?_)))))
                refine bp_ret Tryz.results30 rfl ?_
                first
                  | (rw [hJ.bad hc10 (by omega)]; exact ⟨rfl, hw⟩)
                  | (rw [hJ.fin (by omega)]; exact ⟨rfl, hw⟩)
              · try simp only [decide_eq_true_eq, decide_eq_false_iff_not, Bool.not_eq_true', Bool.not_eq_false', Bool.not_eq_eq_eq_not, Bool.not_true, Bool.not_false, beq_iff_eq, bne_iff_ne, ne_eq, beq_eq_false_iff_ne, bne_eq_false_iff_eq, gt_iff_lt, ge_iff_le, Int.not_lt, Int.not_le] at hc44
                refine c_skip (x_then (hK16 _ _ ?_))
                clear hK16 K16
                refine forget [(0, _), (4, _), (5, _), (6, _), (27, _), (28, _), (33, _), (34, _), (37, _), (38, _), (39, _), (40, _), (41, _), (42, _), (43, _)] ⟨rfl, rfl, rfl, rfl, rfl, rfl, rfl, rfl, rfl, rfl, rfl, rfl, rfl, rfl, rfl, trivial⟩ (fun e => ?_)
                refine c_seq (fun K21 hK21 => ?_)
                refine c_reg ?_ -- region 12 file.go:50
                refine wl (ro_move rfl) ?_
                refine wl (ro_assign rfl) ?_
                refine wl_nil (x_then (hK21 _ _ ?_))
                clear hK21 K21
                refine c_reg ?_ -- region 13 file.go:51
                refine wl (ro_move rfl) ?_
                refine wl (ro_arith (r := ((i + 4 : Nat) : Int)) rfl rfl rfl (Go.IntWalk.i64_in _ (by omega))) ?_
                refine wl (ro_move rfl) ?_
                refine wl (ro_arith (r := ((i + 4 + (pr2 s (i + 2)).toNat : Nat) : Int)) rfl rfl (congrArg some (by omega)) (Go.IntWalk.i64_in _ (by omega))) ?_
                refine wl (ro_assign rfl) ?_
                refine wl_nil (x_blk (x_then ?_))
                have hP : PcOK s last i (pr2 s i).toNat (pr2 s (i + 2)).toNat := ⟨by omega, by omega, by omega, by omega, by omega, by omega, by omega⟩
                have hJ2 := hJ.go hP
                rw [show (((pr2 s i).toNat : Nat) : Int) = pr2 s i by omega] at hJ2
                exact ⟨s.length - (i + 4 + (pr2 s (i + 2)).toNat), by omega, pr2 s i, i + 4 + (pr2 s (i + 2)).toNat, rfl, hP.h4, by omega, by omega, hJ2, hw, kp _ ⟨rfl, rfl, rfl, trivial⟩⟩
  · try simp only [decide_eq_true_eq, decide_eq_false_iff_not, Bool.not_eq_true', Bool.not_eq_false', Bool.not_eq_eq_eq_not, Bool.not_true, Bool.not_false, beq_iff_eq, bne_iff_ne, ne_eq, beq_eq_false_iff_ne, bne_eq_false_iff_eq, gt_iff_lt, ge_iff_le, Int.not_lt, Int.not_le] at hc10
    refine c_exit (x_thenX (x_thenX (x_blkX (x_then (hK4 _ _ ?_)))))
    clear hK5 K5 hK4 K4
    refine forget [] trivial (fun e => ?_)
    refine c_seq (fun K22 hK22 => ?_)
    refine c_reg ?_ -- region 14 file.go:53
    refine wl (ro_assign rfl) ?_
    refine wl_nil (x_then (hK22 _ _ ?_))
    clear hK22 K22
    refine c_ret ?_
    refine bp_ret Tryz.results30 rfl ?_
    first
      | (rw [hJ.bad hc10 (by omega)]; exact ⟨rfl, hw⟩)
      | (rw [hJ.fin (by omega)]; exact ⟨rfl, hw⟩)

end Go.Proofs.Qxb6500570aGreat
