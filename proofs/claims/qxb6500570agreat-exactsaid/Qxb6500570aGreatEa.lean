import Derived.Test.Qxb6500570aGreatDn
import Derived.Test.Qxb6500570aGreatPv
/- The real graph: the lowest bit; what is kept; what hangs. -/
namespace Go.Proofs.Qxb6500570aGreat
set_option linter.unusedVariables false
set_option linter.unusedSimpArgs false

theorem one113 {w : World} {c : Nat} (hc : c < 24) : Ret Tryz.prog 113 [i64c c] w (fun v w' => v = u32c (2 ^ c) ∧ w' = w) := by
  refine ret_of Tryz.func113 rfl Tryz.ntmps113 rfl ?_
  refine c_seq (fun K1 hK1 => ?_)
  refine c_reg ?_ -- region 0 graph.go:59
  refine wl (ro_assign rfl) ?_
  refine wl_nil (x_then (hK1 _ _ ?_))
  clear hK1 K1
  refine forget [(0, _)] ⟨rfl, trivial⟩ (fun e => ?_)
  refine c_seq (fun K2 hK2 => ?_)
  refine c_reg ?_ -- region 1 graph.go:59
  refine wl (ro_move rfl) ?_
  refine wl (ro_conv rfl sc_3 in_122 (Go.IntWalk.u64_in _ (by omega))) ?_
  refine wl (ro_shl32 rfl rfl (by omega)) ?_
  refine wl (ro_assign rfl) ?_
  refine wl_nil (x_then (hK2 _ _ ?_))
  clear hK2 K2
  refine c_ret ?_
  refine bp_ret Tryz.results113 rfl ?_
  exact ⟨rfl, rfl⟩
theorem and_mod {s : Nat} (i : Nat) : s &&& (2 ^ i - 1) = s % 2 ^ i := Nat.and_two_pow_sub_one_eq_mod s i
theorem and0 (s i : Nat) : (((s &&& (2 ^ i - 1) : Nat) : Int) == 0) = decide (s % 2 ^ i = 0) := by rw [and_mod]; exact beqc _ 0
theorem shr_lt {s i : Nat} (h : s < 2 ^ 32) : s / 2 ^ i < 2 ^ 32 := Nat.lt_of_le_of_lt (Nat.div_le_self _ _) h
set_option maxHeartbeats 2000000 in
theorem first114 {w : World} {s k : Nat} (hs : s < 2 ^ 32) (h : IsLow s k) : Ret Tryz.prog 114 [u32c s] w (fun v w' => v = i64c k ∧ w' = w) := by
  have hk32 := h.lt hs
  refine ret_of Tryz.func114 rfl Tryz.ntmps114 rfl ?_
  refine c_seq (fun K1 hK1 => ?_)
  refine c_reg ?_ -- region 0 graph.go:34
  refine wl (ro_assign rfl) ?_
  refine wl_nil (x_then (hK1 _ _ ?_))
  clear hK1 K1
  refine forget [(0, _)] ⟨rfl, trivial⟩ (fun e => ?_)
  refine c_seq (fun K2 hK2 => ?_)
  refine c_reg ?_ -- region 1 graph.go:35
  refine wl (ro_assign rfl) ?_
  refine wl_nil (x_then (hK2 _ _ ?_))
  clear hK2 K2
  refine c_mid (fun a' w' => w = w' ∧ ∃ s' n, s' < 2 ^ 32 ∧ n ≤ k ∧ IsLow s' (k - n) ∧ k - n < 16 ∧ ∃ e, a' = Fr 36 (upds e [(0, u32c s'), (3, i64c n)]) []) ?_ ?_
  · skip
    refine c_seq (fun K3 hK3 => ?_)
    refine c_reg ?_ -- region 2 graph.go:36
    refine wl (ro_move rfl) ?_
    refine wl (ro_and32 rfl rfl hs (by decide)) ?_
    refine wl (ro_cmp (r := decide (s % 2 ^ 16 = 0)) rfl rfl (congrArg some (and0 s 16))) ?_
    refine wl_nil (x_then (hK3 _ _ ?_))
    clear hK3 K3
    refine wc_cond rfl (fun hc6 => ?_) (fun hc6 => ?_)
    · try simp only [decide_eq_true_eq, decide_eq_false_iff_not, Bool.not_eq_true', Bool.not_eq_false', Bool.not_eq_eq_eq_not, Bool.not_true, Bool.not_false, beq_iff_eq, bne_iff_ne, ne_eq, beq_eq_false_iff_ne, bne_eq_false_iff_eq, gt_iff_lt, ge_iff_le, Int.not_lt, Int.not_le] at hc6
      refine c_seq (fun K4 hK4 => ?_)
      refine c_reg ?_ -- region 3 graph.go:37
      refine wl (ro_assign rfl) ?_
      refine wl_nil (x_then (hK4 _ _ ?_))
      clear hK4 K4
      refine c_reg ?_ -- region 4 graph.go:38
      refine wl (ro_move rfl) ?_
      refine wl (ro_shrN (b := 16) rfl rfl (by decide)) ?_
      refine wl (ro_assign rfl) ?_
      refine wl_nil (x_then ?_)
      first
        | exact ⟨rfl, s / 2 ^ 16, 16, shr_lt hs, (h.shr hc6).1, (h.shr hc6).2, by have := (h.shr hc6).1; omega, kp _ ⟨rfl, rfl, trivial⟩⟩
        | exact ⟨rfl, s, 0, hs, by omega, h, h.small hc6, kp _ ⟨rfl, rfl, trivial⟩⟩
    · try simp only [decide_eq_true_eq, decide_eq_false_iff_not, Bool.not_eq_true', Bool.not_eq_false', Bool.not_eq_eq_eq_not, Bool.not_true, Bool.not_false, beq_iff_eq, bne_iff_ne, ne_eq, beq_eq_false_iff_ne, bne_eq_false_iff_eq, gt_iff_lt, ge_iff_le, Int.not_lt, Int.not_le] at hc6
      refine c_skip (x_then ?_)
      first
        | exact ⟨rfl, s / 2 ^ 16, 16, shr_lt hs, (h.shr hc6).1, (h.shr hc6).2, by have := (h.shr hc6).1; omega, kp _ ⟨rfl, rfl, trivial⟩⟩
        | exact ⟨rfl, s, 0, hs, by omega, h, h.small hc6, kp _ ⟨rfl, rfl, trivial⟩⟩
  clear hs h
  rintro a' _ ⟨rfl, s, n, hs, hn, h, hk, e, rfl⟩
  refine c_mid (fun a' w' => w = w' ∧ ∃ s' n, s' < 2 ^ 32 ∧ n ≤ k ∧ IsLow s' (k - n) ∧ k - n < 8 ∧ ∃ e, a' = Fr 36 (upds e [(0, u32c s'), (3, i64c n)]) []) ?_ ?_
  · skip
    refine c_seq (fun K5 hK5 => ?_)
    refine c_reg ?_ -- region 5 graph.go:40
    refine wl (ro_move rfl) ?_
    refine wl (ro_and32 rfl rfl hs (by decide)) ?_
    refine wl (ro_cmp (r := decide (s % 2 ^ 8 = 0)) rfl rfl (congrArg some (and0 s 8))) ?_
    refine wl_nil (x_then (hK5 _ _ ?_))
    clear hK5 K5
    refine wc_cond rfl (fun hc11 => ?_) (fun hc11 => ?_)
    · try simp only [decide_eq_true_eq, decide_eq_false_iff_not, Bool.not_eq_true', Bool.not_eq_false', Bool.not_eq_eq_eq_not, Bool.not_true, Bool.not_false, beq_iff_eq, bne_iff_ne, ne_eq, beq_eq_false_iff_ne, bne_eq_false_iff_eq, gt_iff_lt, ge_iff_le, Int.not_lt, Int.not_le] at hc11
      refine c_seq (fun K6 hK6 => ?_)
      refine c_reg ?_ -- region 6 graph.go:41
      refine wl (ro_move rfl) ?_
      refine wl (ro_arith (r := ((n + 8 : Nat) : Int)) rfl rfl rfl (Go.IntWalk.i64_in _ (by omega))) ?_
      refine wl (ro_assign rfl) ?_
      refine wl_nil (x_then (hK6 _ _ ?_))
      clear hK6 K6
      refine c_reg ?_ -- region 7 graph.go:42
      refine wl (ro_move rfl) ?_
      refine wl (ro_shrN (b := 8) rfl rfl (by decide)) ?_
      refine wl (ro_assign rfl) ?_
      refine wl_nil (x_then ?_)
      first
        | exact ⟨rfl, s / 2 ^ 8, n + 8, shr_lt hs, by have := (h.shr hc11).1; omega, by have := (h.shr hc11).2; rw [show k - (n + 8) = k - n - 8 by omega]; exact this, by have := (h.shr hc11).1; omega, kp _ ⟨rfl, rfl, trivial⟩⟩
        | exact ⟨rfl, s, n, hs, hn, h, h.small hc11, kp _ ⟨rfl, rfl, trivial⟩⟩
    · try simp only [decide_eq_true_eq, decide_eq_false_iff_not, Bool.not_eq_true', Bool.not_eq_false', Bool.not_eq_eq_eq_not, Bool.not_true, Bool.not_false, beq_iff_eq, bne_iff_ne, ne_eq, beq_eq_false_iff_ne, bne_eq_false_iff_eq, gt_iff_lt, ge_iff_le, Int.not_lt, Int.not_le] at hc11
      refine c_skip (x_then ?_)
      first
        | exact ⟨rfl, s / 2 ^ 8, n + 8, shr_lt hs, by have := (h.shr hc11).1; omega, by have := (h.shr hc11).2; rw [show k - (n + 8) = k - n - 8 by omega]; exact this, by have := (h.shr hc11).1; omega, kp _ ⟨rfl, rfl, trivial⟩⟩
        | exact ⟨rfl, s, n, hs, hn, h, h.small hc11, kp _ ⟨rfl, rfl, trivial⟩⟩
  clear hs h hn hk
  rintro a' _ ⟨rfl, s, n, hs, hn, h, hk, e, rfl⟩
  refine c_mid (fun a' w' => w = w' ∧ ∃ s' n, s' < 2 ^ 32 ∧ n ≤ k ∧ IsLow s' (k - n) ∧ k - n < 4 ∧ ∃ e, a' = Fr 36 (upds e [(0, u32c s'), (3, i64c n)]) []) ?_ ?_
  · skip
    refine c_seq (fun K7 hK7 => ?_)
    refine c_reg ?_ -- region 8 graph.go:44
    refine wl (ro_move rfl) ?_
    refine wl (ro_and32 rfl rfl hs (by decide)) ?_
    refine wl (ro_cmp (r := decide (s % 2 ^ 4 = 0)) rfl rfl (congrArg some (and0 s 4))) ?_
    refine wl_nil (x_then (hK7 _ _ ?_))
    clear hK7 K7
    refine wc_cond rfl (fun hc18 => ?_) (fun hc18 => ?_)
    · try simp only [decide_eq_true_eq, decide_eq_false_iff_not, Bool.not_eq_true', Bool.not_eq_false', Bool.not_eq_eq_eq_not, Bool.not_true, Bool.not_false, beq_iff_eq, bne_iff_ne, ne_eq, beq_eq_false_iff_ne, bne_eq_false_iff_eq, gt_iff_lt, ge_iff_le, Int.not_lt, Int.not_le] at hc18
      refine c_seq (fun K8 hK8 => ?_)
      refine c_reg ?_ -- region 9 graph.go:45
      refine wl (ro_move rfl) ?_
      refine wl (ro_arith (r := ((n + 4 : Nat) : Int)) rfl rfl rfl (Go.IntWalk.i64_in _ (by omega))) ?_
      refine wl (ro_assign rfl) ?_
      refine wl_nil (x_then (hK8 _ _ ?_))
      clear hK8 K8
      refine c_reg ?_ -- region 10 graph.go:46
      refine wl (ro_move rfl) ?_
      refine wl (ro_shrN (b := 4) rfl rfl (by decide)) ?_
      refine wl (ro_assign rfl) ?_
      refine wl_nil (x_then ?_)
      first
        | exact ⟨rfl, s / 2 ^ 4, n + 4, shr_lt hs, by have := (h.shr hc18).1; omega, by have := (h.shr hc18).2; rw [show k - (n + 4) = k - n - 4 by omega]; exact this, by have := (h.shr hc18).1; omega, kp _ ⟨rfl, rfl, trivial⟩⟩
        | exact ⟨rfl, s, n, hs, hn, h, h.small hc18, kp _ ⟨rfl, rfl, trivial⟩⟩
    · try simp only [decide_eq_true_eq, decide_eq_false_iff_not, Bool.not_eq_true', Bool.not_eq_false', Bool.not_eq_eq_eq_not, Bool.not_true, Bool.not_false, beq_iff_eq, bne_iff_ne, ne_eq, beq_eq_false_iff_ne, bne_eq_false_iff_eq, gt_iff_lt, ge_iff_le, Int.not_lt, Int.not_le] at hc18
      refine c_skip (x_then ?_)
      first
        | exact ⟨rfl, s / 2 ^ 4, n + 4, shr_lt hs, by have := (h.shr hc18).1; omega, by have := (h.shr hc18).2; rw [show k - (n + 4) = k - n - 4 by omega]; exact this, by have := (h.shr hc18).1; omega, kp _ ⟨rfl, rfl, trivial⟩⟩
        | exact ⟨rfl, s, n, hs, hn, h, h.small hc18, kp _ ⟨rfl, rfl, trivial⟩⟩
  clear hs h hn hk
  rintro a' _ ⟨rfl, s, n, hs, hn, h, hk, e, rfl⟩
  refine c_mid (fun a' w' => w = w' ∧ ∃ s' n, s' < 2 ^ 32 ∧ n ≤ k ∧ IsLow s' (k - n) ∧ k - n < 2 ∧ ∃ e, a' = Fr 36 (upds e [(0, u32c s'), (3, i64c n)]) []) ?_ ?_
  · skip
    refine c_seq (fun K9 hK9 => ?_)
    refine c_reg ?_ -- region 11 graph.go:48
    refine wl (ro_move rfl) ?_
    refine wl (ro_and32 rfl rfl hs (by decide)) ?_
    refine wl (ro_cmp (r := decide (s % 2 ^ 2 = 0)) rfl rfl (congrArg some (and0 s 2))) ?_
    refine wl_nil (x_then (hK9 _ _ ?_))
    clear hK9 K9
    refine wc_cond rfl (fun hc25 => ?_) (fun hc25 => ?_)
    · try simp only [decide_eq_true_eq, decide_eq_false_iff_not, Bool.not_eq_true', Bool.not_eq_false', Bool.not_eq_eq_eq_not, Bool.not_true, Bool.not_false, beq_iff_eq, bne_iff_ne, ne_eq, beq_eq_false_iff_ne, bne_eq_false_iff_eq, gt_iff_lt, ge_iff_le, Int.not_lt, Int.not_le] at hc25
      refine c_seq (fun K10 hK10 => ?_)
      refine c_reg ?_ -- region 12 graph.go:49
      refine wl (ro_move rfl) ?_
      refine wl (ro_arith (r := ((n + 2 : Nat) : Int)) rfl rfl rfl (Go.IntWalk.i64_in _ (by omega))) ?_
      refine wl (ro_assign rfl) ?_
      refine wl_nil (x_then (hK10 _ _ ?_))
      clear hK10 K10
      refine c_reg ?_ -- region 13 graph.go:50
      refine wl (ro_move rfl) ?_
      refine wl (ro_shrN (b := 2) rfl rfl (by decide)) ?_
      refine wl (ro_assign rfl) ?_
      refine wl_nil (x_then ?_)
      first
        | exact ⟨rfl, s / 2 ^ 2, n + 2, shr_lt hs, by have := (h.shr hc25).1; omega, by have := (h.shr hc25).2; rw [show k - (n + 2) = k - n - 2 by omega]; exact this, by have := (h.shr hc25).1; omega, kp _ ⟨rfl, rfl, trivial⟩⟩
        | exact ⟨rfl, s, n, hs, hn, h, h.small hc25, kp _ ⟨rfl, rfl, trivial⟩⟩
    · try simp only [decide_eq_true_eq, decide_eq_false_iff_not, Bool.not_eq_true', Bool.not_eq_false', Bool.not_eq_eq_eq_not, Bool.not_true, Bool.not_false, beq_iff_eq, bne_iff_ne, ne_eq, beq_eq_false_iff_ne, bne_eq_false_iff_eq, gt_iff_lt, ge_iff_le, Int.not_lt, Int.not_le] at hc25
      refine c_skip (x_then ?_)
      first
        | exact ⟨rfl, s / 2 ^ 2, n + 2, shr_lt hs, by have := (h.shr hc25).1; omega, by have := (h.shr hc25).2; rw [show k - (n + 2) = k - n - 2 by omega]; exact this, by have := (h.shr hc25).1; omega, kp _ ⟨rfl, rfl, trivial⟩⟩
        | exact ⟨rfl, s, n, hs, hn, h, h.small hc25, kp _ ⟨rfl, rfl, trivial⟩⟩
  clear hs h hn hk
  rintro a' _ ⟨rfl, s, n, hs, hn, h, hk, e, rfl⟩
  refine c_seq (fun K11 hK11 => ?_)
  refine c_seq (fun K12 hK12 => ?_)
  refine c_reg ?_ -- region 14 graph.go:52
  refine wl (ro_move rfl) ?_
  refine wl (ro_and32 rfl rfl hs (by decide)) ?_
  refine wl (ro_cmp (r := decide (s % 2 ^ 1 = 0)) rfl rfl (congrArg some (and0 s 1))) ?_
  refine wl_nil (x_then (hK12 _ _ ?_))
  clear hK12 K12
  refine wc_cond rfl (fun hc32 => ?_) (fun hc32 => ?_)
  · try simp only [decide_eq_true_eq, decide_eq_false_iff_not, Bool.not_eq_true', Bool.not_eq_false', Bool.not_eq_eq_eq_not, Bool.not_true, Bool.not_false, beq_iff_eq, bne_iff_ne, ne_eq, beq_eq_false_iff_ne, bne_eq_false_iff_eq, gt_iff_lt, ge_iff_le, Int.not_lt, Int.not_le] at hc32
    refine c_reg ?_ -- region 15 graph.go:53
    refine wl (ro_move rfl) ?_
    refine wl (ro_arith (r := ((n + 1 : Nat) : Int)) rfl rfl rfl (Go.IntWalk.i64_in _ (by omega))) ?_
    refine wl (ro_assign rfl) ?_
    refine wl_nil (x_then (hK11 _ _ ?_))
    clear hK11 K11
    refine forget [(3, _)] ⟨rfl, trivial⟩ (fun e => ?_)
    refine c_seq (fun K13 hK13 => ?_)
    refine c_reg ?_ -- region 16 graph.go:55
    refine wl (ro_move rfl) ?_
    refine wl (ro_assign rfl) ?_
    refine wl_nil (x_then (hK13 _ _ ?_))
    clear hK13 K13
    refine c_ret ?_
    refine bp_ret Tryz.results114 rfl ?_
    exact ⟨by rw [show k = n + 1 by have := (h.shr hc32).1; omega]; rfl, rfl⟩
  · try simp only [decide_eq_true_eq, decide_eq_false_iff_not, Bool.not_eq_true', Bool.not_eq_false', Bool.not_eq_eq_eq_not, Bool.not_true, Bool.not_false, beq_iff_eq, bne_iff_ne, ne_eq, beq_eq_false_iff_ne, bne_eq_false_iff_eq, gt_iff_lt, ge_iff_le, Int.not_lt, Int.not_le] at hc32
    refine c_skip (x_then (hK11 _ _ ?_))
    clear hK11 K11
    refine forget [(3, _)] ⟨rfl, trivial⟩ (fun e => ?_)
    refine c_seq (fun K14 hK14 => ?_)
    refine c_reg ?_ -- region 16 graph.go:55
    refine wl (ro_move rfl) ?_
    refine wl (ro_assign rfl) ?_
    refine wl_nil (x_then (hK14 _ _ ?_))
    clear hK14 K14
    refine c_ret ?_
    refine bp_ret Tryz.results114 rfl ?_
    exact ⟨by rw [show k = n by have := h.small hc32; omega], rfl⟩

/-- The graph's blocks. -/
structure GB where
  g : Nat
  r : Nat
  b : Nat
  l : Nat
  n : Nat
def GBo (B : GB) : Prop := B.g < B.r ∧ B.r < B.b ∧ B.b < B.l ∧ B.l < B.n
abbrev msc (m : Nat) : List Value := [u32c m]
abbrev ivc (x : Int) : List Value := [icv x]
theorem msc_len (m : Nat) : (msc m).length = 1 := rfl
theorem ivc_len (m : Int) : (ivc m).length = 1 := rfl
abbrev gst (B : GB) (cy : Nat) (tc : Int) : List Value := [sl B.r 24, sl B.b 24, sl B.l 24, u32c cy, sl B.n 24, icv tc]
def rF (RL : List Nat) : Nat → Nat := fun c => RL.getD c 0
def lF (LL : List Int) : Nat → Int := fun c => LL.getD c 0
theorem rF_get {RL : List Nat} {c : Nat} (h : c < RL.length) : RL[c]? = some (rF RL c) := by
  unfold rF
  rw [List.getD_eq_getElem?_getD, List.getElem?_eq_getElem h]
  rfl
theorem lF_get {RL : List Int} {c : Nat} (h : c < RL.length) : RL[c]? = some (lF RL c) := by
  unfold lF
  rw [List.getD_eq_getElem?_getD, List.getElem?_eq_getElem h]
  rfl
theorem rF_set {RL : List Nat} {i v j : Nat} (h : i < RL.length) : rF (RL.set i v) j = if j = i then v else rF RL j := by
  unfold rF
  rw [List.getD_eq_getElem?_getD, List.getD_eq_getElem?_getD]
  by_cases e : j = i
  · subst e
    rw [List.getElem?_set_self h, if_pos rfl]
    rfl
  · rw [List.getElem?_set_ne (fun h => e h.symm), if_neg e]
theorem lF_set {RL : List Int} {i j : Nat} {v : Int} (h : i < RL.length) : lF (RL.set i v) j = if j = i then v else lF RL j := by
  unfold lF
  rw [List.getD_eq_getElem?_getD, List.getD_eq_getElem?_getD]
  by_cases e : j = i
  · subst e
    rw [List.getElem?_set_self h, if_pos rfl]
    rfl
  · rw [List.getElem?_set_ne (fun h => e h.symm), if_neg e]

theorem ReadsG117 {w : World} {B : GB} {RL : List Nat} {cy c : Nat} {tc : Int} (hB : Blk w.heap B.g (gst B cy tc) 91) (hR : Blk w.heap B.r (rws msc RL) 85) (hl : RL.length = 24) (hc : c < 24) :
    Ret Tryz.prog 117 [ptr B.g, i64c c] w (fun v w' => v = u32c (rF RL c) ∧ w' = w) := by
  refine ret_of Tryz.func117 rfl Tryz.ntmps117 rfl ?_
  refine c_seq (fun K1 hK1 => ?_)
  refine c_reg ?_ -- region 0 graph.go:82
  refine wl (ro_assign rfl) ?_
  refine wl_nil (x_then (hK1 _ _ ?_))
  clear hK1 K1
  refine c_seq (fun K2 hK2 => ?_)
  refine c_seq (fun K3 hK3 => ?_)
  refine c_reg ?_ -- region 1 graph.go:83
  refine wl (ro_move rfl) ?_
  refine wl (ro_cmp rfl rfl rfl) ?_
  refine wl_fork rfl (fun hg7 => ?_) (fun hg7 => ?_)
  · try simp only [decide_eq_true_eq, decide_eq_false_iff_not, Bool.not_eq_true', Bool.not_eq_false', Bool.not_eq_eq_eq_not, Bool.not_true, Bool.not_false, beq_iff_eq, bne_iff_ne, ne_eq, beq_eq_false_iff_ne, bne_eq_false_iff_eq, gt_iff_lt, ge_iff_le, Int.not_lt, Int.not_le] at hg7
    refine wlg_no rfl ?_
    refine wlg_no rfl ?_
    refine wl (ro_pick rfl rfl rfl) ?_
    refine wl_nil (x_then (hK3 _ _ ?_))
    clear hK3 K3
    refine wc_condT rfl ?_
    refine c_seq (fun K4 hK4 => ?_)
    refine c_reg ?_ -- region 2 graph.go:84
    refine wl (ro_assign rfl) ?_
    refine wl_nil (x_then (hK4 _ _ ?_))
    clear hK4 K4
    refine c_ret (x_thenR ?_)
    refine bp_ret Tryz.results117 rfl ?_
    first
      | exact ⟨rfl, rfl⟩
      | omega
  · try simp only [decide_eq_true_eq, decide_eq_false_iff_not, Bool.not_eq_true', Bool.not_eq_false', Bool.not_eq_eq_eq_not, Bool.not_true, Bool.not_false, beq_iff_eq, bne_iff_ne, ne_eq, beq_eq_false_iff_ne, bne_eq_false_iff_eq, gt_iff_lt, ge_iff_le, Int.not_lt, Int.not_le] at hg7
    refine wlg_yes rfl (ro_move rfl) ?_
    refine wlg_yes rfl (ro_cmp rfl rfl rfl) ?_
    refine wl (ro_pick rfl rfl rfl) ?_
    refine wl_nil (x_then (hK3 _ _ ?_))
    clear hK3 K3
    refine wc_cond rfl (fun hc10 => ?_) (fun hc10 => ?_)
    · try simp only [decide_eq_true_eq, decide_eq_false_iff_not, Bool.not_eq_true', Bool.not_eq_false', Bool.not_eq_eq_eq_not, Bool.not_true, Bool.not_false, beq_iff_eq, bne_iff_ne, ne_eq, beq_eq_false_iff_ne, bne_eq_false_iff_eq, gt_iff_lt, ge_iff_le, Int.not_lt, Int.not_le] at hc10
      refine c_seq (fun K5 hK5 => ?_)
      refine c_reg ?_ -- region 2 graph.go:84
      refine wl (ro_assign rfl) ?_
      refine wl_nil (x_then (hK5 _ _ ?_))
      clear hK5 K5
      refine c_ret (x_thenR ?_)
      refine bp_ret Tryz.results117 rfl ?_
      first
        | exact ⟨rfl, rfl⟩
        | omega
    · try simp only [decide_eq_true_eq, decide_eq_false_iff_not, Bool.not_eq_true', Bool.not_eq_false', Bool.not_eq_eq_eq_not, Bool.not_true, Bool.not_false, beq_iff_eq, bne_iff_ne, ne_eq, beq_eq_false_iff_ne, bne_eq_false_iff_eq, gt_iff_lt, ge_iff_le, Int.not_lt, Int.not_le] at hc10
      refine c_skip (x_then (hK2 _ _ ?_))
      clear hK2 K2
      refine forget [(0, _), (1, _)] ⟨rfl, rfl, trivial⟩ (fun e => ?_)
      refine c_seq (fun K6 hK6 => ?_)
      refine c_reg ?_ -- region 3 graph.go:86
      refine wl (ro_move rfl) ?_
      refine wl (ro_nilCheck rfl) ?_
      refine wl (ro_fieldAddr (k := 0) rfl fo_91_0) ?_
      refine wl (ro_loadB rfl sc_57 (by assumption) rfl) ?_
      refine wl (ro_move rfl) ?_
      refine wl (ro_indexAddr (et := 85) (k := 1) rfl rfl se_57 rfl (by omega)) ?_
      refine wl (ro_loadB rfl sc_85 (hR) ((rw_get msc_len (rF_get (RL := RL) (c := c) (by omega)) (j := 0) (by omega) rfl))) ?_
      refine wl (ro_assign rfl) ?_
      refine wl_nil (x_then (hK6 _ _ ?_))
      clear hK6 K6
      refine c_ret ?_
      refine bp_ret Tryz.results117 rfl ?_
      first
        | exact ⟨rfl, rfl⟩
        | omega
theorem Cyclic90 {w : World} {B : GB} {cy : Nat} {tc : Int} (hB : Blk w.heap B.g (gst B cy tc) 91) :
    Ret Tryz.prog 90 [ptr B.g] w (fun v w' => v = u32c cy ∧ w' = w) := by
  refine ret_of Tryz.func90 rfl Tryz.ntmps90 rfl ?_
  refine c_seq (fun K1 hK1 => ?_)
  refine c_reg ?_ -- region 0 graph.go:104
  refine wl (ro_assign rfl) ?_
  refine wl_nil (x_then (hK1 _ _ ?_))
  clear hK1 K1
  refine forget [(0, _)] ⟨rfl, trivial⟩ (fun e => ?_)
  refine c_seq (fun K2 hK2 => ?_)
  refine c_reg ?_ -- region 1 graph.go:104
  refine wl (ro_move rfl) ?_
  refine wl (ro_nilCheck rfl) ?_
  refine wl (ro_fieldAddr (k := 3) rfl fo_91_3) ?_
  refine wl (ro_loadB rfl sc_85 (by assumption) rfl) ?_
  refine wl (ro_assign rfl) ?_
  refine wl_nil (x_then (hK2 _ _ ?_))
  clear hK2 K2
  refine c_ret ?_
  refine bp_ret Tryz.results90 rfl ?_
  exact ⟨rfl, rfl⟩

/-- What hangs on a set. -/
def HangP (R : Nat → Nat) (s h : Nat) : Prop := h < 2 ^ 24 ∧ (∀ c, c < 24 → s.testBit c = true → h.testBit c = true) ∧ ∀ c d, c < 24 → rdB R c d → h.testBit d = true → h.testBit c = true
set_option maxHeartbeats 2000000 in
theorem Hang89 {w : World} {B : GB} {R : Nat → Nat} {BL : List Nat} {cy s : Nat} {tc : Int} (hB : Blk w.heap B.g (gst B cy tc) 91) (hR : Blk w.heap B.b (rws msc BL) 85) (hl : BL.length = 24) (hbl : ∀ d, d < 24 → rF BL d < 2 ^ 24) (htr : ∀ c d, c < 24 → d < 24 → (rF BL d).testBit c = (R c).testBit d) (hs : s < 2 ^ 24) :
    Ret Tryz.prog 89 [ptr B.g, u32c s] w (fun v w' => (∃ h, v = u32c h ∧ HangP R s h) ∧ w' = w) := by
  have hsa : s &&& 16777215 = s := by rw [show (16777215 : Nat) = 2 ^ 24 - 1 from rfl, and_mod, Nat.mod_eq_of_lt hs]
  refine ret_of Tryz.func89 rfl Tryz.ntmps89 rfl ?_
  refine c_seq (fun K1 hK1 => ?_)
  refine c_reg ?_ -- region 0 graph.go:90
  refine wl (ro_assign rfl) ?_
  refine wl_nil (x_then (hK1 _ _ ?_))
  clear hK1 K1
  refine forget [(0, _), (1, _)] ⟨rfl, rfl, trivial⟩ (fun e => ?_)
  refine c_seq (fun K2 hK2 => ?_)
  refine c_reg ?_ -- region 1 graph.go:91
  refine wl (ro_move rfl) ?_
  refine wl (ro_and32 rfl rfl (by omega) (by decide)) ?_
  refine wl (ro_assign rfl) ?_
  refine wl_nil (x_then (hK2 _ _ ?_))
  clear hK2 K2
  refine forget [(0, _), (1, _)] ⟨rfl, rfl, trivial⟩ (fun e => ?_)
  refine c_seq (fun K3 hK3 => ?_)
  rw [hsa]
  refine c_reg ?_ -- region 2 graph.go:92
  refine wl (ro_move rfl) ?_
  refine wl (ro_assign rfl) ?_
  refine wl_nil (x_then (hK3 _ _ ?_))
  clear hK3 K3
  refine forget [(0, _), (1, _), (5, _)] ⟨rfl, rfl, rfl, trivial⟩ (fun e => ?_)
  refine c_seq (fun K4 hK4 => ?_)
  refine c_block ?_
  -- loop@r3: live slots [0, 1, 5]
  refine c_loopG (fun m a' w' => w = w' ∧ ∃ S T, m = cntN T 24 + 2 * (24 - cntN S 24) ∧ S < 2 ^ 24 ∧ T < 2 ^ 24 ∧ (∀ c, c < 24 → s.testBit c = true → S.testBit c = true) ∧ (∀ c, c < 24 → T.testBit c = true → S.testBit c = true) ∧ (∀ c d, c < 24 → rdB R c d → S.testBit d = true → T.testBit d = false → S.testBit c = true) ∧ ∃ e, a' = Fr 35 (upds e [(0, ptr B.g), (1, u32c S), (5, u32c T)]) []) _ ⟨rfl, s, s, rfl, hs, hs, fun _ _ q => q, fun _ _ q => q, fun c d hc hd q1 q2 => by (rw [q1] at q2; cases q2), kp _ ⟨rfl, rfl, rfl, trivial⟩⟩ ?_
  rintro m a' _ ⟨rfl, S, T, rfl, hS, hT, h1, h2, h3, e, rfl⟩
  refine c_seq (fun K5 hK5 => ?_)
  refine c_seq (fun K6 hK6 => ?_)
  refine c_reg ?_ -- region 3 graph.go:93
  refine wl (ro_move rfl) ?_
  refine wl (ro_cmp (r := decide (T ≠ 0)) rfl rfl (congrArg some (bnec T 0))) ?_
  refine wl_nil (x_then (hK6 _ _ ?_))
  clear hK6 K6
  refine wc_cond rfl (fun hc12 => ?_) (fun hc12 => ?_)
  · try simp only [decide_eq_true_eq, decide_eq_false_iff_not, Bool.not_eq_true', Bool.not_eq_false', Bool.not_eq_eq_eq_not, Bool.not_true, Bool.not_false, beq_iff_eq, bne_iff_ne, ne_eq, beq_eq_false_iff_ne, bne_eq_false_iff_eq, gt_iff_lt, ge_iff_le, Int.not_lt, Int.not_le] at hc12
    obtain ⟨k, hk⟩ := low_ex _ _ (Nat.le_refl _) hc12
    have hk24 := hk.lt hT
    have hla := low_and hk
    have hlt : T &&& (T - 1) < 2 ^ 24 := Nat.lt_of_le_of_lt Nat.and_le_left hT
    have hb1 := hbl k hk24
    have hdl : dif (rF BL k) S < 2 ^ 24 := dif_lt hb1
    have hT1 : 1 ≤ T := by omega
    refine c_skip (x_then (hK5 _ _ ?_))
    clear hK5 K5
    refine c_block ?_
    refine forget [(0, _), (1, _), (5, _)] ⟨rfl, rfl, rfl, trivial⟩ (fun e => ?_)
    refine c_seq (fun K7 hK7 => ?_)
    refine c_reg ?_ -- region 4 graph.go:94
    refine wl (ro_move rfl) ?_
    refine wl_call rfl en_114 (first114 (by omega) hk) ?_
    rintro _ _ ⟨rfl, rfl⟩
    refine wl (ro_assign rfl) ?_
    refine wl_nil (x_then (hK7 _ _ ?_))
    clear hK7 K7
    refine forget [(0, _), (1, _), (5, _), (6, _)] ⟨rfl, rfl, rfl, rfl, trivial⟩ (fun e => ?_)
    refine c_seq (fun K8 hK8 => ?_)
    refine c_reg ?_ -- region 5 graph.go:95
    refine wl (ro_move rfl) ?_
    refine wl (ro_move rfl) ?_
    refine wl (ro_arith (r := ((T - 1 : Nat) : Int)) rfl rfl (congrArg some (by omega)) (Go.IntWalk.u32_in _ (by omega))) ?_
    refine wl (ro_and32 rfl rfl (by omega) (by omega)) ?_
    refine wl (ro_assign rfl) ?_
    refine wl_nil (x_then (hK8 _ _ ?_))
    clear hK8 K8
    refine forget [(0, _), (1, _), (5, _), (6, _)] ⟨rfl, rfl, rfl, rfl, trivial⟩ (fun e => ?_)
    refine c_seq (fun K9 hK9 => ?_)
    refine c_reg ?_ -- region 6 graph.go:96
    refine wl (ro_move rfl) ?_
    refine wl (ro_nilCheck rfl) ?_
    refine wl (ro_fieldAddr (k := 1) rfl fo_91_1) ?_
    refine wl (ro_loadB rfl sc_57 (by assumption) rfl) ?_
    refine wl (ro_move rfl) ?_
    refine wl (ro_indexAddr (et := 85) (k := 1) rfl rfl se_57 rfl (by omega)) ?_
    refine wl (ro_loadB rfl sc_85 (hR) ((rw_get msc_len (rF_get (RL := BL) (c := k) (by omega)) (j := 0) (by omega) rfl))) ?_
    refine wl (ro_move rfl) ?_
    refine wl (ro_dif32 rfl rfl (by omega) (by omega)) ?_
    refine wl (ro_assign rfl) ?_
    refine wl_nil (x_then (hK9 _ _ ?_))
    clear hK9 K9
    refine forget [(0, _), (1, _), (5, _), (7, _)] ⟨rfl, rfl, rfl, rfl, trivial⟩ (fun e => ?_)
    refine c_seq (fun K10 hK10 => ?_)
    refine c_reg ?_ -- region 7 graph.go:97
    refine wl (ro_move rfl) ?_
    refine wl (ro_move rfl) ?_
    refine wl (ro_or32 rfl rfl (by omega) (by omega)) ?_
    refine wl (ro_assign rfl) ?_
    refine wl_nil (x_then (hK10 _ _ ?_))
    clear hK10 K10
    refine c_reg ?_ -- region 8 graph.go:98
    refine wl (ro_move rfl) ?_
    refine wl (ro_move rfl) ?_
    refine wl (ro_or32 rfl rfl (by omega) (by omega)) ?_
    refine wl (ro_assign rfl) ?_
    refine wl_nil (x_blk (x_then ?_))
    have e1 := cntN_off (s := T) (t := T &&& (T - 1)) hk.1 hla (n := 24) hk24
    have e2 : cntN ((T &&& (T - 1)) ||| dif (rF BL k) S) 24 = cntN (T &&& (T - 1)) 24 + cntN (dif (rF BL k) S) 24 := cnt_or (fun j hj q => by
      rw [hla] at q
      simp only [Bool.and_eq_true] at q
      rw [dif_bit, h2 j hj q.1]; simp)
    have e3 : cntN (S ||| dif (rF BL k) S) 24 = cntN S 24 + cntN (dif (rF BL k) S) 24 := cnt_or (fun j hj q => by rw [dif_bit, q]; simp)
    have e4 := cntN_le (S ||| dif (rF BL k) S) 24
    refine ⟨_, ?_, rfl, S ||| dif (rF BL k) S, (T &&& (T - 1)) ||| dif (rF BL k) S, rfl, or_lt hS hdl, or_lt hlt hdl, fun c hc q => ?_, fun c hc q => ?_, fun c d hc hd q1 q2 => ?_, kp _ ⟨rfl, rfl, rfl, trivial⟩⟩
    · omega
    · rw [Nat.testBit_or, h1 c hc q]; rfl
    · rw [Nat.testBit_or, Bool.or_eq_true] at q ⊢
      rcases q with q | q
      · rw [hla] at q
        simp only [Bool.and_eq_true] at q
        exact .inl (h2 c hc q.1)
      · exact .inr q
    · rw [Nat.testBit_or, Bool.or_eq_false_iff] at q2
      rw [Nat.testBit_or, Bool.or_eq_true] at q1 ⊢
      by_cases ed : d = k
      · subst ed
        cases hSc : S.testBit c with
        | true => exact .inl rfl
        | false =>
          right
          rw [dif_bit, hSc, htr c d hc hd.1, hd.2]; rfl
      · rcases q1 with q1 | q1
        · left
          refine h3 c d hc hd q1 ?_
          have := q2.1
          rw [hla] at this
          simpa [ed] using this
        · rw [q2.2] at q1; cases q1
  · try simp only [decide_eq_true_eq, decide_eq_false_iff_not, Bool.not_eq_true', Bool.not_eq_false', Bool.not_eq_eq_eq_not, Bool.not_true, Bool.not_false, beq_iff_eq, bne_iff_ne, ne_eq, beq_eq_false_iff_ne, bne_eq_false_iff_eq, gt_iff_lt, ge_iff_le, Int.not_lt, Int.not_le] at hc12
    refine c_exit (x_thenX (x_thenX (x_blkX (x_then (hK4 _ _ ?_)))))
    clear hK5 K5 hK4 K4
    refine forget [(1, _)] ⟨rfl, trivial⟩ (fun e => ?_)
    refine c_seq (fun K11 hK11 => ?_)
    refine c_reg ?_ -- region 9 graph.go:100
    refine wl (ro_move rfl) ?_
    refine wl (ro_assign rfl) ?_
    refine wl_nil (x_then (hK11 _ _ ?_))
    clear hK11 K11
    refine c_ret ?_
    refine bp_ret Tryz.results89 rfl ?_
    have hT0 : T = 0 := Decidable.not_not.1 hc12
    subst hT0
    exact ⟨⟨S, rfl, hS, h1, fun c d hc hd q => h3 c d hc hd q (by simp)⟩, rfl⟩

/-- One more than the highest level in a set. -/
def TopP (L : Nat → Int) (m : Nat) (T : Int) : Prop := 0 ≤ T ∧ (∀ e, e < 24 → m.testBit e = true → L e < T) ∧ (T = 0 ∨ ∃ e, e < 24 ∧ m.testBit e = true ∧ L e + 1 = T)
set_option maxHeartbeats 2000000 in
theorem top141 {w : World} {B : GB} {LL : List Int} {cy m : Nat} {tc : Int} (hB : Blk w.heap B.g (gst B cy tc) 91) (hR : Blk w.heap B.l (rws ivc LL) 3) (hl : LL.length = 24) (hbd : ∀ e, e < 24 → m.testBit e = true → lF LL e ≤ 23) (hm : m < 2 ^ 24) :
    Ret Tryz.prog 141 [ptr B.g, u32c m] w (fun v w' => (∃ T, v = icv T ∧ T ≤ 24 ∧ TopP (lF LL) m T) ∧ w' = w) := by
  refine ret_of Tryz.func141 rfl Tryz.ntmps141 rfl ?_
  refine c_seq (fun K1 hK1 => ?_)
  refine c_reg ?_ -- region 0 mend.go:4
  refine wl (ro_assign rfl) ?_
  refine wl_nil (x_then (hK1 _ _ ?_))
  clear hK1 K1
  refine forget [(0, _), (1, _)] ⟨rfl, rfl, trivial⟩ (fun e => ?_)
  refine c_seq (fun K2 hK2 => ?_)
  refine c_reg ?_ -- region 1 mend.go:5
  refine wl (ro_assign rfl) ?_
  refine wl_nil (x_then (hK2 _ _ ?_))
  clear hK2 K2
  refine c_seq (fun K3 hK3 => ?_)
  refine c_seq (fun K4 hK4 => ?_)
  refine c_reg ?_ -- region 2 mend.go:6
  refine wl (ro_move rfl) ?_
  refine wl (ro_assign rfl) ?_
  refine wl_nil (x_then (hK4 _ _ ?_))
  clear hK4 K4
  refine c_block ?_
  -- loop@r3: live slots [0, 5, 6]
  refine c_loopG (fun q a' w' => w = w' ∧ ∃ s T, q = cntN s 24 ∧ s < 2 ^ 24 ∧ T ≤ 24 ∧ (∀ j, j < 24 → s.testBit j = true → m.testBit j = true) ∧ 0 ≤ T ∧ (∀ e, e < 24 → m.testBit e = true → s.testBit e = false → lF LL e < T) ∧ (T = 0 ∨ ∃ e, e < 24 ∧ m.testBit e = true ∧ lF LL e + 1 = T) ∧ ∃ e, a' = Fr 35 (upds e [(0, ptr B.g), (5, icv T), (6, u32c s)]) []) _ ⟨rfl, m, 0, rfl, hm, by omega, fun _ _ q => q, by omega, fun e he q1 q2 => by (rw [q1] at q2; cases q2), .inl rfl, kp _ ⟨rfl, rfl, rfl, trivial⟩⟩ ?_
  rintro q a' _ ⟨rfl, s, T, rfl, hs, hT, h1, h2, h3, h4, e, rfl⟩
  refine c_seq (fun K5 hK5 => ?_)
  refine c_seq (fun K6 hK6 => ?_)
  refine c_reg ?_ -- region 3 mend.go:6
  refine wl (ro_move rfl) ?_
  refine wl (ro_cmp (r := decide (s ≠ 0)) rfl rfl (congrArg some (bnec s 0))) ?_
  refine wl_nil (x_then (hK6 _ _ ?_))
  clear hK6 K6
  refine wc_cond rfl (fun hc10 => ?_) (fun hc10 => ?_)
  · try simp only [decide_eq_true_eq, decide_eq_false_iff_not, Bool.not_eq_true', Bool.not_eq_false', Bool.not_eq_eq_eq_not, Bool.not_true, Bool.not_false, beq_iff_eq, bne_iff_ne, ne_eq, beq_eq_false_iff_ne, bne_eq_false_iff_eq, gt_iff_lt, ge_iff_le, Int.not_lt, Int.not_le] at hc10
    obtain ⟨k, hk⟩ := low_ex _ _ (Nat.le_refl _) hc10
    have hk24 := hk.lt hs
    have hla := low_and hk
    have hlt : s &&& (s - 1) < 2 ^ 24 := Nat.lt_of_le_of_lt Nat.and_le_left hs
    have hs1 : 1 ≤ s := by omega
    have hmk := h1 k hk24 hk.1
    have hbk := hbd k hk24 hmk
    have e1 := cntN_off (s := s) (t := s &&& (s - 1)) hk.1 hla (n := 24) hk24
    have hoff : ∀ j, (s &&& (s - 1)).testBit j = true → s.testBit j = true := fun j q => by rw [hla] at q; simp only [Bool.and_eq_true] at q; exact q.1
    have hon : ∀ j, (s &&& (s - 1)).testBit j = false → j ≠ k → s.testBit j = false := fun j q hj => by rw [hla] at q; simpa [hj] using q
    refine c_skip (x_then (hK5 _ _ ?_))
    clear hK5 K5
    refine forget [(0, _), (5, _), (6, _)] ⟨rfl, rfl, rfl, trivial⟩ (fun e => ?_)
    refine c_seq (fun K7 hK7 => ?_)
    refine c_block ?_
    refine c_seq (fun K8 hK8 => ?_)
    refine c_reg ?_ -- region 5 mend.go:7
    refine wl (ro_move rfl) ?_
    refine wl_call rfl en_114 (first114 (by omega) hk) ?_
    rintro _ _ ⟨rfl, rfl⟩
    refine wl (ro_assign rfl) ?_
    refine wl_nil (x_then (hK8 _ _ ?_))
    clear hK8 K8
    refine forget [(0, _), (5, _), (6, _), (7, _)] ⟨rfl, rfl, rfl, rfl, trivial⟩ (fun e => ?_)
    refine c_seq (fun K9 hK9 => ?_)
    refine c_reg ?_ -- region 6 mend.go:8
    refine wl (ro_move rfl) ?_
    refine wl (ro_nilCheck rfl) ?_
    refine wl (ro_fieldAddr (k := 2) rfl fo_91_2) ?_
    refine wl (ro_loadB rfl sc_79 (by assumption) rfl) ?_
    refine wl (ro_move rfl) ?_
    refine wl (ro_indexAddr (et := 3) (k := 1) rfl rfl se_79 rfl (by omega)) ?_
    refine wl (ro_loadB rfl sc_3 (hR) ((rw_get ivc_len (lF_get (RL := LL) (c := k) (by omega)) (j := 0) (by omega) rfl))) ?_
    refine wl (ro_move rfl) ?_
    refine wl (ro_cmp rfl rfl rfl) ?_
    refine wl_nil (x_then (hK9 _ _ ?_))
    clear hK9 K9
    refine wc_cond rfl (fun hc25 => ?_) (fun hc25 => ?_)
    · try simp only [decide_eq_true_eq, decide_eq_false_iff_not, Bool.not_eq_true', Bool.not_eq_false', Bool.not_eq_eq_eq_not, Bool.not_true, Bool.not_false, beq_iff_eq, bne_iff_ne, ne_eq, beq_eq_false_iff_ne, bne_eq_false_iff_eq, gt_iff_lt, ge_iff_le, Int.not_lt, Int.not_le] at hc25
      refine c_reg ?_ -- region 7 mend.go:9
      refine wl (ro_move rfl) ?_
      refine wl (ro_nilCheck rfl) ?_
      refine wl (ro_fieldAddr (k := 2) rfl fo_91_2) ?_
      refine wl (ro_loadB rfl sc_79 (by assumption) rfl) ?_
      refine wl (ro_move rfl) ?_
      refine wl (ro_indexAddr (et := 3) (k := 1) rfl rfl se_79 rfl (by omega)) ?_
      refine wl (ro_loadB rfl sc_3 (hR) ((rw_get ivc_len (lF_get (RL := LL) (c := k) (by omega)) (j := 0) (by omega) rfl))) ?_
      refine wl (ro_arith rfl rfl rfl (Go.IntWalk.i64_in _ (by omega))) ?_
      refine wl (ro_assign rfl) ?_
      refine wl_nil (x_blk (x_then (hK7 _ _ ?_)))
      clear hK7 K7
      refine c_reg ?_ -- region 4 mend.go:6
      refine wl (ro_move rfl) ?_
      refine wl (ro_move rfl) ?_
      refine wl (ro_arith (r := ((s - 1 : Nat) : Int)) rfl rfl (congrArg some (by omega)) (Go.IntWalk.u32_in _ (by omega))) ?_
      refine wl (ro_and32 rfl rfl (by omega) (by omega)) ?_
      refine wl (ro_assign rfl) ?_
      refine wl_nil (x_then ?_)
      first
        | (refine ⟨_, by omega, rfl, s &&& (s - 1), lF LL k + 1, rfl, hlt, by omega, fun j hj q => h1 j hj (hoff j q), by omega, fun e he q1 q2 => ?_, .inr ⟨k, hk24, hmk, rfl⟩, kp _ ⟨rfl, rfl, rfl, trivial⟩⟩
           by_cases ek : e = k
           · subst ek; omega
           · have := h3 e he q1 (hon e q2 ek); omega)
        | (refine ⟨_, by omega, rfl, s &&& (s - 1), T, rfl, hlt, hT, fun j hj q => h1 j hj (hoff j q), h2, fun e he q1 q2 => ?_, h4, kp _ ⟨rfl, rfl, rfl, trivial⟩⟩
           by_cases ek : e = k
           · subst ek; omega
           · exact h3 e he q1 (hon e q2 ek))
    · try simp only [decide_eq_true_eq, decide_eq_false_iff_not, Bool.not_eq_true', Bool.not_eq_false', Bool.not_eq_eq_eq_not, Bool.not_true, Bool.not_false, beq_iff_eq, bne_iff_ne, ne_eq, beq_eq_false_iff_ne, bne_eq_false_iff_eq, gt_iff_lt, ge_iff_le, Int.not_lt, Int.not_le] at hc25
      refine c_skip (x_blk (x_then (hK7 _ _ ?_)))
      clear hK7 K7
      refine c_reg ?_ -- region 4 mend.go:6
      refine wl (ro_move rfl) ?_
      refine wl (ro_move rfl) ?_
      refine wl (ro_arith (r := ((s - 1 : Nat) : Int)) rfl rfl (congrArg some (by omega)) (Go.IntWalk.u32_in _ (by omega))) ?_
      refine wl (ro_and32 rfl rfl (by omega) (by omega)) ?_
      refine wl (ro_assign rfl) ?_
      refine wl_nil (x_then ?_)
      first
        | (refine ⟨_, by omega, rfl, s &&& (s - 1), lF LL k + 1, rfl, hlt, by omega, fun j hj q => h1 j hj (hoff j q), by omega, fun e he q1 q2 => ?_, .inr ⟨k, hk24, hmk, rfl⟩, kp _ ⟨rfl, rfl, rfl, trivial⟩⟩
           by_cases ek : e = k
           · subst ek; omega
           · have := h3 e he q1 (hon e q2 ek); omega)
        | (refine ⟨_, by omega, rfl, s &&& (s - 1), T, rfl, hlt, hT, fun j hj q => h1 j hj (hoff j q), h2, fun e he q1 q2 => ?_, h4, kp _ ⟨rfl, rfl, rfl, trivial⟩⟩
           by_cases ek : e = k
           · subst ek; omega
           · exact h3 e he q1 (hon e q2 ek))
  · try simp only [decide_eq_true_eq, decide_eq_false_iff_not, Bool.not_eq_true', Bool.not_eq_false', Bool.not_eq_eq_eq_not, Bool.not_true, Bool.not_false, beq_iff_eq, bne_iff_ne, ne_eq, beq_eq_false_iff_ne, bne_eq_false_iff_eq, gt_iff_lt, ge_iff_le, Int.not_lt, Int.not_le] at hc10
    refine c_exit (x_thenX (x_thenX (x_blkX (x_then (hK3 _ _ ?_)))))
    clear hK5 K5 hK3 K3
    refine forget [(5, _)] ⟨rfl, trivial⟩ (fun e => ?_)
    refine c_seq (fun K10 hK10 => ?_)
    refine c_reg ?_ -- region 8 mend.go:12
    refine wl (ro_move rfl) ?_
    refine wl (ro_assign rfl) ?_
    refine wl_nil (x_then (hK10 _ _ ?_))
    clear hK10 K10
    refine c_ret ?_
    refine bp_ret Tryz.results141 rfl ?_
    have hs0 : s = 0 := Decidable.not_not.1 hc10
    subst hs0
    exact ⟨⟨T, rfl, hT, h2, fun e he q => h3 e he q (by simp), h4⟩, rfl⟩
/-- The graph in memory. -/
structure GrV (w : World) (B : GB) (RL BL : List Nat) (LL NL : List Int) (cy : Nat) (tc : Int) : Prop where
  hB : Blk w.heap B.g (gst B cy tc) 91
  hR : Blk w.heap B.r (rws msc RL) 85
  hQ : Blk w.heap B.b (rws msc BL) 85
  hL : Blk w.heap B.l (rws ivc LL) 3
  hN : Blk w.heap B.n (rws ivc NL) 3
  rl : RL.length = 24
  bl : BL.length = 24
  ll : LL.length = 24
  nl : NL.length = 24
  rb : ∀ c, c < 24 → rF RL c < 2 ^ 24
  qb : ∀ c, c < 24 → rF BL c < 2 ^ 24
/-- Both directions tell the same. -/
def TrG (RL BL : List Nat) : Prop := ∀ c d, c < 24 → d < 24 → (rF BL d).testBit c = (rF RL c).testBit d
/-- The graph at rest. -/
def GrR (w : World) (B : GB) (R : Nat → Nat) : Prop := ∃ RL BL LL NL cy tc, GrV w B RL BL LL NL cy tc ∧ TrG RL BL ∧ (∀ c, c < 24 → rF RL c = R c) ∧ LvOK R (lF LL) ∧ cy < 2 ^ 24 ∧ ∀ c, c < 24 → (cy.testBit c = true ↔ lF LL c = -1)
theorem rF_rep (n c : Nat) : rF (List.replicate n 0) c = 0 := by
  unfold rF
  rw [List.getD_eq_getElem?_getD, List.getElem?_replicate]
  split <;> rfl
theorem lF_rep (n c : Nat) : lF (List.replicate n 0) c = 0 := by
  unfold lF
  rw [List.getD_eq_getElem?_getD, List.getElem?_replicate]
  split <;> rfl
theorem New25 {w : World} : Ret Tryz.prog 25 [] w (fun v w' => ∃ B : GB, v = ptr B.g ∧ GBo B ∧ w.heap.size ≤ B.g ∧ B.n < w'.heap.size ∧ GrR w' B (fun _ => 0) ∧ Fram none' w w') := by
  have hF : Fram none' w w := Fram.refl _ _
  refine ret_of Tryz.func25 rfl Tryz.ntmps25 rfl ?_
  refine c_seq (fun K1 hK1 => ?_)
  refine c_reg ?_ -- region 0 graph.go:24
  refine wl (ro_assign rfl) ?_
  refine wl_nil (x_then (hK1 _ _ ?_))
  clear hK1 K1
  refine forget [] trivial (fun e => ?_)
  refine c_seq (fun K2 hK2 => ?_)
  refine c_reg ?_ -- region 1 graph.go:25
  refine wl (ro_build rfl bld_91) ?_
  refine wl_box rfl rfl (fun gb w1 hbgb hB F1 => ?_)
  have hbsgb := Nat.le_trans hF.size hbgb
  replace hF := hF.thenDrew.thenN F1
  refine wl (ro_assign rfl) ?_
  refine wl_nil (x_then (hK2 _ _ ?_))
  clear hK2 K2
  refine forget [(1, _)] ⟨rfl, trivial⟩ (fun e => ?_)
  refine c_seq (fun K3 hK3 => ?_)
  refine c_reg ?_ -- region 2 graph.go:26
  refine wl (ro_move rfl) ?_
  refine wl_make (len := 24) (cap := 24) rfl rfl se_57 ze_85 (by simp) (by omega) (by omega) rfl bb_85 (fun rb w2 hbrb hR F2 => ?_)
  have hbsrb := Nat.le_trans hF.size hbrb
  have hnegbrb : gb < rb := Nat.lt_of_lt_of_le hB.lt hbrb
  replace hF := hF.thenDrew.thenN F2
  replace hB := F2.blkN hB
  refine wl (ro_nilCheck rfl) ?_
  refine wl (ro_fieldAddr (k := 0) rfl fo_91_0) ?_
  refine wl_put rfl rfl rfl sz_57 hB ((by simp)) ((show _ = [sl rb 24, .slice none 0 0, .slice none 0 0, u32c 0, .slice none 0 0, icv 0] from rfl)) (fun w3 hB F3 => ?_)
  replace hF := hF.thenDrew.thenO F3 (by first | exact .inr (by omega) | exact .inl rfl | exact .inl (by assumption))
  replace hR := F3.blkO hR (by omega)
  refine wl_nil (x_then (hK3 _ _ ?_))
  clear hK3 K3
  refine forget [(1, _)] ⟨rfl, trivial⟩ (fun e => ?_)
  refine c_seq (fun K4 hK4 => ?_)
  refine c_reg ?_ -- region 3 graph.go:27
  refine wl (ro_move rfl) ?_
  refine wl_make (len := 24) (cap := 24) rfl rfl se_57 ze_85 (by simp) (by omega) (by omega) rfl bb_85 (fun qb w4 hbqb hQ F4 => ?_)
  have hbsqb := Nat.le_trans hF.size hbqb
  have hnegbqb : gb < qb := Nat.lt_of_lt_of_le hB.lt hbqb
  have hnerbqb : rb < qb := Nat.lt_of_lt_of_le hR.lt hbqb
  replace hF := hF.thenDrew.thenN F4
  replace hB := F4.blkN hB
  replace hR := F4.blkN hR
  refine wl (ro_nilCheck rfl) ?_
  refine wl (ro_fieldAddr (k := 1) rfl fo_91_1) ?_
  refine wl_put rfl rfl rfl sz_57 hB ((by simp)) ((show _ = [sl rb 24, sl qb 24, .slice none 0 0, u32c 0, .slice none 0 0, icv 0] from rfl)) (fun w5 hB F5 => ?_)
  replace hF := hF.thenDrew.thenO F5 (by first | exact .inr (by omega) | exact .inl rfl | exact .inl (by assumption))
  replace hR := F5.blkO hR (by omega)
  replace hQ := F5.blkO hQ (by omega)
  refine wl_nil (x_then (hK4 _ _ ?_))
  clear hK4 K4
  refine forget [(1, _)] ⟨rfl, trivial⟩ (fun e => ?_)
  refine c_seq (fun K5 hK5 => ?_)
  refine c_reg ?_ -- region 4 graph.go:28
  refine wl (ro_move rfl) ?_
  refine wl_make (len := 24) (cap := 24) rfl rfl se_79 ze_3 (by simp) (by omega) (by omega) rfl bb_3 (fun lb w6 hblb hL F6 => ?_)
  have hbslb := Nat.le_trans hF.size hblb
  have hnegblb : gb < lb := Nat.lt_of_lt_of_le hB.lt hblb
  have hnerblb : rb < lb := Nat.lt_of_lt_of_le hR.lt hblb
  have hneqblb : qb < lb := Nat.lt_of_lt_of_le hQ.lt hblb
  replace hF := hF.thenDrew.thenN F6
  replace hB := F6.blkN hB
  replace hR := F6.blkN hR
  replace hQ := F6.blkN hQ
  refine wl (ro_nilCheck rfl) ?_
  refine wl (ro_fieldAddr (k := 2) rfl fo_91_2) ?_
  refine wl_put rfl rfl rfl sz_79 hB ((by simp)) ((show _ = [sl rb 24, sl qb 24, sl lb 24, u32c 0, .slice none 0 0, icv 0] from rfl)) (fun w7 hB F7 => ?_)
  replace hF := hF.thenDrew.thenO F7 (by first | exact .inr (by omega) | exact .inl rfl | exact .inl (by assumption))
  replace hR := F7.blkO hR (by omega)
  replace hQ := F7.blkO hQ (by omega)
  replace hL := F7.blkO hL (by omega)
  refine wl_nil (x_then (hK5 _ _ ?_))
  clear hK5 K5
  refine forget [(1, _)] ⟨rfl, trivial⟩ (fun e => ?_)
  refine c_seq (fun K6 hK6 => ?_)
  refine c_reg ?_ -- region 5 graph.go:29
  refine wl (ro_move rfl) ?_
  refine wl_make (len := 24) (cap := 24) rfl rfl se_79 ze_3 (by simp) (by omega) (by omega) rfl bb_3 (fun nb w8 hbnb hN F8 => ?_)
  have hbsnb := Nat.le_trans hF.size hbnb
  have hnegbnb : gb < nb := Nat.lt_of_lt_of_le hB.lt hbnb
  have hnerbnb : rb < nb := Nat.lt_of_lt_of_le hR.lt hbnb
  have hneqbnb : qb < nb := Nat.lt_of_lt_of_le hQ.lt hbnb
  have hnelbnb : lb < nb := Nat.lt_of_lt_of_le hL.lt hbnb
  replace hF := hF.thenDrew.thenN F8
  replace hB := F8.blkN hB
  replace hR := F8.blkN hR
  replace hQ := F8.blkN hQ
  replace hL := F8.blkN hL
  refine wl (ro_nilCheck rfl) ?_
  refine wl (ro_fieldAddr (k := 4) rfl fo_91_4) ?_
  refine wl_put rfl rfl rfl sz_79 hB ((by simp)) ((show _ = [sl rb 24, sl qb 24, sl lb 24, u32c 0, sl nb 24, icv 0] from rfl)) (fun w9 hB F9 => ?_)
  replace hF := hF.thenDrew.thenO F9 (by first | exact .inr (by omega) | exact .inl rfl | exact .inl (by assumption))
  replace hR := F9.blkO hR (by omega)
  replace hQ := F9.blkO hQ (by omega)
  replace hL := F9.blkO hL (by omega)
  replace hN := F9.blkO hN (by omega)
  refine wl_nil (x_then (hK6 _ _ ?_))
  clear hK6 K6
  refine forget [(1, _)] ⟨rfl, trivial⟩ (fun e => ?_)
  refine c_seq (fun K7 hK7 => ?_)
  refine c_reg ?_ -- region 6 graph.go:30
  refine wl (ro_move rfl) ?_
  refine wl (ro_assign rfl) ?_
  refine wl_nil (x_then (hK7 _ _ ?_))
  clear hK7 K7
  refine c_ret ?_
  refine bp_ret Tryz.results25 rfl ?_
  refine ⟨⟨gb, rb, qb, lb, nb⟩, rfl, ⟨by omega, by omega, by omega, by omega⟩, by omega, hN.lt, ⟨List.replicate 24 0, List.replicate 24 0, List.replicate 24 0, List.replicate 24 0, 0, 0, ⟨hB, ?_, ?_, ?_, ?_, List.length_replicate, List.length_replicate, List.length_replicate, List.length_replicate, fun c _ => ?_, fun c _ => ?_⟩, fun c d _ _ => ?_, fun c _ => rF_rep _ _, fun c hc => ?_, by decide, fun c hc => ?_⟩, hF⟩
  · rw [← zc_rws (enc := msc) (x0 := 0) rfl msc_len 24]; exact hR
  · rw [← zc_rws (enc := msc) (x0 := 0) rfl msc_len 24]; exact hQ
  · rw [← zc_rws (enc := ivc) (x0 := 0) rfl ivc_len 24]; exact hL
  · rw [← zc_rws (enc := ivc) (x0 := 0) rfl ivc_len 24]; exact hN
  · rw [rF_rep]; decide
  · rw [rF_rep]; decide
  · rw [rF_rep, rF_rep]; simp
  · left
    refine ⟨by rw [lF_rep]; omega, fun d hd => ?_, .inl (by rw [lF_rep])⟩
    have := hd.2
    simp at this
  · rw [lF_rep]; simp

end Go.Proofs.Qxb6500570aGreat
