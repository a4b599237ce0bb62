import Derived.Test.Qxb6500569aGreatFs
import Derived.Test.Qxb6500569aGreatHf
/- Numbers as texts. -/
namespace Go.Proofs.Qxb6500569aGreat
set_option linter.unusedVariables false
set_option linter.unusedSimpArgs false

theorem ro_sliceA {P : Program} {n : Nat} {e : Nat → Option Value} {w : World} {t len et k b o l : Nat} {q : IntKind} {lo : Int} {x y : Operand} (hx : evO n e x = some (.pointer (some ⟨b, o, none⟩))) (hy : evO n e y = some (.int q lo)) (ht : arrB P t len et k = true)
    (hl : lo = (l : Int)) (h1 : l ≤ len) : RO P n e w (.slice t x (some y) none none) (.slice (some (if len = l then ⟨b, o, none⟩ else ⟨b, o + l * k, none⟩)) (len - l) (len - l)) := by
  intro ds dst ty ps af g
  obtain ⟨t1, t2⟩ := arrB_spec ht
  subst hl
  simp [execOp, evO_eval hx, evO_eval hy, Instr.sliceAt, run_underlying t1, Instr.sureAddr, Instr.sliceBounds, Instr.sliceBound, asIntOf, h1, run_sizeOf t2, addr_add]

def digs : Nat → Nat → List UInt8
  | 0, _ => []
  | _ + 1, 0 => []
  | f + 1, n + 1 => digs f ((n + 1) / 10) ++ [UInt8.ofNat (48 + (n + 1) % 10)]

def itoa (n : Nat) : List UInt8 := if n = 0 then [48] else digs 20 n

theorem digs_pos {f k : Nat} (h : 0 < k) : digs (f + 1) k = digs f (k / 10) ++ [UInt8.ofNat (48 + k % 10)] := by
  obtain ⟨k, rfl⟩ : ∃ j, k = j + 1 := ⟨k - 1, by omega⟩
  rfl

theorem digs_zero (f : Nat) : digs f 0 = [] := by cases f <;> rfl

theorem digs_len : ∀ (f k : Nat), (digs f k).length ≤ f
  | 0, k => by simp [digs]
  | f + 1, 0 => by simp [digs]
  | f + 1, k + 1 => by simp only [digs, List.length_append, List.length_singleton]; have := digs_len f ((k + 1) / 10); omega

theorem itoa_len (n : Nat) : (itoa n).length ≤ 20 := by
  unfold itoa
  split
  · simp
  · exact digs_len 20 n

theorem drop_set_self {α : Type} (l : List α) (i : Nat) (v : α) (h : i < l.length) : (l.set i v).drop i = v :: l.drop (i + 1) := by
  rw [List.drop_eq_getElem_cons (by simpa using h), List.drop_set_of_lt (by omega)]
  simp

theorem Itoa39 {w : World} {n : Nat} (hn : n ≤ 1000000) : Ret Tryz.prog 39 [i64c n] w (fun r w' => r = S (itoa n) ∧ Fram none' w w') := by
  refine ret_of Tryz.func39 rfl Tryz.ntmps39 rfl ?_
  refine c_seq (fun K1 hK1 => ?_)
  refine c_reg ?_ -- region 0 api.go:52
  refine wl (ro_assign rfl) ?_
  refine wl_nil (x_then (hK1 _ _ ?_))
  clear hK1 K1
  refine c_seq (fun K2 hK2 => ?_)
  refine c_seq (fun K3 hK3 => ?_)
  refine c_reg ?_ -- region 1 api.go:53
  refine wl (ro_move rfl) ?_
  refine wl (ro_cmp (r := decide (n = 0)) rfl rfl (congrArg some (beqc n 0))) ?_
  refine wl_nil (x_then (hK3 _ _ ?_))
  clear hK3 K3
  refine wc_cond rfl (fun hc8 => ?_) (fun hc8 => ?_)
  · try simp only [decide_eq_true_eq, decide_eq_false_iff_not, Bool.not_eq_true', Bool.not_eq_false', Bool.not_eq_eq_eq_not, Bool.not_true, Bool.not_false, beq_iff_eq, bne_iff_ne, ne_eq, beq_eq_false_iff_ne, bne_eq_false_iff_eq, gt_iff_lt, ge_iff_le, Int.not_lt, Int.not_le] at hc8
    have hn0 : n = 0 := by simpa using hc8
    refine c_seq (fun K4 hK4 => ?_)
    refine c_reg ?_ -- region 2 api.go:54
    refine wl (ro_assign rfl) ?_
    refine wl_nil (x_then (hK4 _ _ ?_))
    clear hK4 K4
    refine c_ret (x_thenR ?_)
    refine bp_ret Tryz.results39 rfl ?_
    exact ⟨by rw [hn0]; rfl, Fram.refl _ _⟩
  · try simp only [decide_eq_true_eq, decide_eq_false_iff_not, Bool.not_eq_true', Bool.not_eq_false', Bool.not_eq_eq_eq_not, Bool.not_true, Bool.not_false, beq_iff_eq, bne_iff_ne, ne_eq, beq_eq_false_iff_ne, bne_eq_false_iff_eq, gt_iff_lt, ge_iff_le, Int.not_lt, Int.not_le] at hc8
    have hn0 : ¬ n = 0 := by simpa using hc8
    refine c_skip (x_then (hK2 _ _ ?_))
    clear hK2 K2
    refine forget [(0, _)] ⟨rfl, trivial⟩ (fun e => ?_)
    refine c_seq (fun K5 hK5 => ?_)
    refine c_reg ?_ -- region 3 api.go:56
    refine wle (eo_alloc ze_130) ?_
    refine wl_nil (x_then (hK5 _ _ ?_))
    clear hK5 K5
    refine forget [(0, _), (3, _)] ⟨rfl, rfl, trivial⟩ (fun e => ?_)
    refine c_seq (fun K6 hK6 => ?_)
    refine c_reg ?_ -- region 4 api.go:57
    refine wl (ro_assign rfl) ?_
    refine wl_nil (x_then (hK6 _ _ ?_))
    clear hK6 K6
    refine forget [(0, _), (3, _), (4, _)] ⟨rfl, rfl, rfl, trivial⟩ (fun e => ?_)
    refine c_seq (fun K7 hK7 => ?_)
    refine c_reg ?_ -- region 5 api.go:58
    refine wl (ro_move rfl) ?_
    refine wl (ro_cmp (r := false) rfl rfl (by simp)) ?_
    refine wl (ro_assign rfl) ?_
    refine wl_nil (x_then (hK7 _ _ ?_))
    clear hK7 K7
    refine c_seq (fun K8 hK8 => ?_)
    refine c_seq (fun K9 hK9 => ?_)
    refine c_reg ?_ -- region 6 api.go:59
    refine wl (ro_move rfl) ?_
    refine wl (ro_not rfl) ?_
    refine wl_nil (x_then (hK9 _ _ ?_))
    clear hK9 K9
    refine wc_condT rfl ?_
    refine c_reg ?_ -- region 7 api.go:60
    refine wl (ro_move rfl) ?_
    refine wl (ro_neg rfl (by omega)) ?_
    refine wl (ro_assign rfl) ?_
    refine wl_nil (x_then (hK8 _ _ ?_))
    clear hK8 K8
    refine forget [(0, _), (3, _), (4, _), (5, _)] ⟨rfl, rfl, rfl, rfl, trivial⟩ (fun e => ?_)
    refine c_seq (fun K10 hK10 => ?_)
    refine c_block ?_
    -- loop@r8: live slots [0, 3, 4, 5]
    refine c_loopG (fun m a' w' => ∃ k i l suf, m = k ∧ k < 10 ^ i ∧ i ≤ 20 ∧ k ≤ 1000000 ∧ digs i k ++ suf = digs 20 n ∧ l.length = 20 ∧ l.drop i = suf.map u8c ∧ Blk w'.heap w.heap.size l 130 ∧ Fram none' w w' ∧ ∃ e, a' = Fr 34 (upds e [(0, .int .i64 (-(k : Int))), (3, ptr w.heap.size), (4, i64c i), (5, .bool false)]) []) n ⟨n, 20, _, [], rfl, by omega, by omega, by omega, by simp, rfl, rfl, Blk.new w _ _, Fram.alloc _ _ _, kp _ ⟨rfl, rfl, rfl, rfl, trivial⟩⟩ ?_
    rintro m a' w' ⟨k, i, l, suf, rfl, hk, hi, hkm, hd, hl, hs, hB, hF, e, rfl⟩
    refine c_seq (fun K11 hK11 => ?_)
    refine c_seq (fun K12 hK12 => ?_)
    refine c_reg ?_ -- region 8 api.go:62
    refine wl (ro_move rfl) ?_
    refine wl (ro_cmp (r := decide (m ≠ 0)) rfl rfl (congrArg some (by by_cases h : m = 0; subst h; rfl; have : ¬ (-(m : Int)) = 0 := by { omega }; simp [h, this]))) ?_
    refine wl_nil (x_then (hK12 _ _ ?_))
    clear hK12 K12
    refine wc_cond rfl (fun hc16 => ?_) (fun hc16 => ?_)
    · try simp only [decide_eq_true_eq, decide_eq_false_iff_not, Bool.not_eq_true', Bool.not_eq_false', Bool.not_eq_eq_eq_not, Bool.not_true, Bool.not_false, beq_iff_eq, bne_iff_ne, ne_eq, beq_eq_false_iff_ne, bne_eq_false_iff_eq, gt_iff_lt, ge_iff_le, Int.not_lt, Int.not_le] at hc16
      have hm0 : 0 < m := by have : m ≠ 0 := by { simpa using hc16 }; omega
      obtain ⟨i, rfl⟩ : ∃ j, i = j + 1 := by { cases i with | zero => simp at hk; omega | succ j => exact ⟨j, rfl⟩ }
      have hr : (-(m : Int)).tmod 10 = -((m % 10 : Nat) : Int) := by rw [Int.neg_tmod]; congr 1
      have hq : (-(m : Int)).tdiv 10 = -((m / 10 : Nat) : Int) := by rw [Int.neg_tdiv]; congr 1
      have hu : (Value.int .u8 (48 - (-((m % 10 : Nat) : Int)))) = u8c (UInt8.ofNat (48 + m % 10)) := by
        unfold u8c
        congr 1
        have : (UInt8.ofNat (48 + m % 10)).toNat = 48 + m % 10 := by simp; omega
        rw [this]; omega
      refine c_skip (x_then (hK11 _ _ ?_))
      clear hK11 K11
      refine c_block ?_
      refine forget [(0, _), (3, _), (4, _), (5, _)] ⟨rfl, rfl, rfl, rfl, trivial⟩ (fun e => ?_)
      refine c_seq (fun K13 hK13 => ?_)
      refine c_reg ?_ -- region 9 api.go:63
      refine wl (ro_move rfl) ?_
      refine wl (ro_arith rfl rfl rfl (Go.IntWalk.i64_in _ (by omega))) ?_
      refine wl (ro_assign rfl) ?_
      refine wl_nil (x_then (hK13 _ _ ?_))
      clear hK13 K13
      refine forget [(0, _), (3, _), (4, _), (5, _)] ⟨rfl, rfl, rfl, rfl, trivial⟩ (fun e => ?_)
      refine c_seq (fun K14 hK14 => ?_)
      refine c_reg ?_ -- region 10 api.go:64
      refine wl (ro_move rfl) ?_
      refine wl (ro_move rfl) ?_
      refine wl ((show RO _ _ _ _ _ (.int .i64 (-((m % 10 : Nat) : Int))) from hr ▸ ro_rem rfl rfl (by omega))) ?_
      refine wl (ro_arith rfl rfl rfl (Go.IntWalk.i64_in _ (by omega))) ?_
      refine wl ((show RO _ _ _ _ _ (u8c (UInt8.ofNat (48 + m % 10))) from hu ▸ ro_conv rfl sc_3 in_5 (Go.IntWalk.u8_in _ (by omega)))) ?_
      refine wl (ro_indexAddrA (et := 5) (k := 1) rfl rfl ar_130 ((by show (_ : Int) = ((i : Nat) : Int); omega)) ((by omega))) ?_
      refine wls (so_storeB rfl rfl rfl sz_5 (hB) (by rw [hl]; omega)) ?_
      refine wl_nil (x_then (hK14 _ _ ?_))
      clear hK14 K14
      refine c_reg ?_ -- region 11 api.go:65
      refine wl (ro_move rfl) ?_
      refine wl ((show RO _ _ _ _ _ (.int .i64 (-((m / 10 : Nat) : Int))) from hq ▸ ro_quo rfl rfl (by omega) (by rw [hq]; exact Go.IntWalk.i64_in _ (by omega)))) ?_
      refine wl (ro_assign rfl) ?_
      refine wl_nil (x_blk (x_then ?_))
      refine ⟨m / 10, by omega, m / 10, i, _, UInt8.ofNat (48 + m % 10) :: suf, rfl, ?_, by omega, by omega, ?_, ?_, ?_, hB.set _, hF.thenSet (.inr (Nat.le_refl _)), kp _ ⟨rfl, rfl, ?_, rfl, trivial⟩⟩
      · rw [Nat.pow_succ] at hk; omega
      · rw [← hd, digs_pos hm0, List.append_assoc]; rfl
      · simpa using hl
      · rw [Nat.zero_add, Nat.mul_one, drop_set_self _ _ _ (by omega), hs]; rfl
      · show some (Value.int .i64 (((i + 1 : Nat) : Int) - 1)) = some (.int .i64 (i : Int))
        congr 2; omega
    · try simp only [decide_eq_true_eq, decide_eq_false_iff_not, Bool.not_eq_true', Bool.not_eq_false', Bool.not_eq_eq_eq_not, Bool.not_true, Bool.not_false, beq_iff_eq, bne_iff_ne, ne_eq, beq_eq_false_iff_ne, bne_eq_false_iff_eq, gt_iff_lt, ge_iff_le, Int.not_lt, Int.not_le] at hc16
      have hm0 : m = 0 := by simpa using hc16
      subst hm0
      rw [digs_zero] at hd
      simp at hd
      have hsl : suf.length = 20 - i := by have := congrArg List.length hs; simp at this; omega
      have hpos : 0 < suf.length := by
        rw [hd, digs_pos (by omega)]; simp
      have hi20 : ¬ (20 = i) := by omega
      refine c_exit (x_thenX (x_thenX (x_blkX (x_then (hK10 _ _ ?_)))))
      clear hK11 K11 hK10 K10
      refine forget [(3, _), (4, _), (5, _)] ⟨rfl, rfl, rfl, trivial⟩ (fun e => ?_)
      refine c_seq (fun K15 hK15 => ?_)
      refine c_reg ?_ -- region 12 api.go:67
      refine wl (ro_move rfl) ?_
      refine wl (ro_sliceA (l := i) rfl rfl ar_130 rfl (by omega)) ?_
      refine wl (ro_b2s (bs := suf) (by rw [if_neg hi20]; rfl) se_66 in_5 st_9 hB (by rw [Nat.zero_add, Nat.mul_one, hs, List.take_of_length_le (by simp; omega)]) (by omega)) ?_
      refine wl (ro_assign rfl) ?_
      refine wl_nil (x_then (hK15 _ _ ?_))
      clear hK15 K15
      refine c_seq (fun K16 hK16 => ?_)
      refine c_seq (fun K17 hK17 => ?_)
      refine c_reg ?_ -- region 13 api.go:68
      refine wl (ro_move rfl) ?_
      refine wl_nil (x_then (hK17 _ _ ?_))
      clear hK17 K17
      refine wc_condF rfl ?_
      refine c_skip (x_then (hK16 _ _ ?_))
      clear hK16 K16
      refine forget [(6, _)] ⟨rfl, trivial⟩ (fun e => ?_)
      refine c_seq (fun K18 hK18 => ?_)
      refine c_reg ?_ -- region 15 api.go:71
      refine wl (ro_move rfl) ?_
      refine wl (ro_assign rfl) ?_
      refine wl_nil (x_then (hK18 _ _ ?_))
      clear hK18 K18
      refine c_ret ?_
      refine bp_ret Tryz.results39 rfl ?_
      refine ⟨?_, hF⟩
      have : itoa n = digs 20 n := by unfold itoa; rw [if_neg hn0]
      rw [this, ← hd]
      rfl

end Go.Proofs.Qxb6500569aGreat
