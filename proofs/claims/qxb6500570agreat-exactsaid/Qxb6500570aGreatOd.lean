import Derived.Test.Qxb6500570aGreatOc
import Derived.Test.Qxb6500570aGreatMg
/- The model's book: Load, Save, New. -/
namespace Go.Proofs.Qxb6500570aGreat
set_option linter.unusedVariables false
set_option linter.unusedSimpArgs false

theorem num35 {w : World} {s : Tx} {i : Nat} (hi : i + 1 < s.length) (hs : s.length ≤ 1056) : Ret Tryz.prog 35 [S s, i64c i] w (fun v w' => v = icv (pr2 s i) ∧ Fram none' w w') := by
  have hF : Fram none' w w := Fram.refl _ _
  have h1 := bat_get (s := s) (i := i) (by omega)
  have h2 := bat_get (s := s) (i := i + 1) (by omega)
  have hp : pr2 s i = if bAt s i < 48 ∨ 57 < bAt s i ∨ bAt s (i + 1) < 48 ∨ 57 < bAt s (i + 1) then -1 else ((bAt s i : Int) - 48) * 10 + ((bAt s (i + 1) : Int) - 48) := rfl
  have e1 : (s.getD i 0).toNat = bAt s i := rfl
  have e2 : (s.getD (i + 1) 0).toNat = bAt s (i + 1) := rfl
  have b1 : bAt s i < 256 := UInt8.toNat_lt _
  have b2 : bAt s (i + 1) < 256 := UInt8.toNat_lt _
  rw [hp]
  clear hp
  generalize s.getD i 0 = c1 at *
  generalize s.getD (i + 1) 0 = c2 at *
  generalize bAt s i = x at *
  generalize bAt s (i + 1) = y at *
  refine ret_of Tryz.func35 rfl Tryz.ntmps35 rfl ?_
  refine c_seq (fun K1 hK1 => ?_)
  refine c_reg ?_ -- region 0 bookm.go:110
  refine wl (ro_assign rfl) ?_
  refine wl_nil (x_then (hK1 _ _ ?_))
  clear hK1 K1
  refine c_seq (fun K2 hK2 => ?_)
  refine c_seq (fun K3 hK3 => ?_)
  refine c_reg ?_ -- region 1 bookm.go:111
  refine wl (ro_move rfl) ?_
  refine wl (ro_move rfl) ?_
  refine wl (ro_indexS rfl rfl st_9 rfl (h1)) ?_
  refine wl (ro_cmp rfl rfl rfl) ?_
  refine wl_fork rfl (fun hg9 => ?_) (fun hg9 => ?_)
  · try simp only [decide_eq_true_eq, decide_eq_false_iff_not, Bool.not_eq_true', Bool.not_eq_false', Bool.not_eq_eq_eq_not, Bool.not_true, Bool.not_false, beq_iff_eq, bne_iff_ne, ne_eq, beq_eq_false_iff_ne, bne_eq_false_iff_eq, gt_iff_lt, ge_iff_le, Int.not_lt, Int.not_le] at hg9
    refine wlg_no rfl ?_
    refine wlg_no rfl ?_
    refine wlg_no rfl ?_
    refine wlg_no rfl ?_
    refine wl (ro_pick rfl rfl rfl) ?_
    refine wl (ro_move rfl) ?_
    refine wlg_no rfl ?_
    refine wlg_no rfl ?_
    refine wlg_no rfl ?_
    refine wlg_no rfl ?_
    refine wlg_no rfl ?_
    refine wl (ro_pick rfl rfl rfl) ?_
    refine wl (ro_move rfl) ?_
    refine wlg_no rfl ?_
    refine wlg_no rfl ?_
    refine wlg_no rfl ?_
    refine wlg_no rfl ?_
    refine wlg_no rfl ?_
    refine wl (ro_pick rfl rfl rfl) ?_
    refine wl_nil (x_then (hK3 _ _ ?_))
    clear hK3 K3
    refine wc_condT rfl ?_
    refine c_seq (fun K4 hK4 => ?_)
    refine c_reg ?_ -- region 2 bookm.go:112
    refine wl (ro_assign rfl) ?_
    refine wl_nil (x_then (hK4 _ _ ?_))
    clear hK4 K4
    refine c_ret (x_thenR ?_)
    refine bp_ret Tryz.results35 rfl ?_
    refine ⟨congrArg icv ?_, by first | exact hF | exact hF.thenDrew⟩
    split <;> omega
  · try simp only [decide_eq_true_eq, decide_eq_false_iff_not, Bool.not_eq_true', Bool.not_eq_false', Bool.not_eq_eq_eq_not, Bool.not_true, Bool.not_false, beq_iff_eq, bne_iff_ne, ne_eq, beq_eq_false_iff_ne, bne_eq_false_iff_eq, gt_iff_lt, ge_iff_le, Int.not_lt, Int.not_le] at hg9
    refine wlg_yes rfl (ro_move rfl) ?_
    refine wlg_yes rfl (ro_move rfl) ?_
    refine wlg_yes rfl (ro_indexS rfl rfl st_9 rfl (h1)) ?_
    refine wlg_yes rfl (ro_cmp rfl rfl rfl) ?_
    refine wl (ro_pick rfl rfl rfl) ?_
    refine wl_fork rfl (fun hg15 => ?_) (fun hg15 => ?_)
    · try simp only [decide_eq_true_eq, decide_eq_false_iff_not, Bool.not_eq_true', Bool.not_eq_false', Bool.not_eq_eq_eq_not, Bool.not_true, Bool.not_false, beq_iff_eq, bne_iff_ne, ne_eq, beq_eq_false_iff_ne, bne_eq_false_iff_eq, gt_iff_lt, ge_iff_le, Int.not_lt, Int.not_le] at hg15
      refine wlg_no rfl ?_
      refine wlg_no rfl ?_
      refine wlg_no rfl ?_
      refine wlg_no rfl ?_
      refine wlg_no rfl ?_
      refine wl (ro_pick rfl rfl rfl) ?_
      refine wl (ro_move rfl) ?_
      refine wlg_no rfl ?_
      refine wlg_no rfl ?_
      refine wlg_no rfl ?_
      refine wlg_no rfl ?_
      refine wlg_no rfl ?_
      refine wl (ro_pick rfl rfl rfl) ?_
      refine wl_nil (x_then (hK3 _ _ ?_))
      clear hK3 K3
      refine wc_condT rfl ?_
      refine c_seq (fun K5 hK5 => ?_)
      refine c_reg ?_ -- region 2 bookm.go:112
      refine wl (ro_assign rfl) ?_
      refine wl_nil (x_then (hK5 _ _ ?_))
      clear hK5 K5
      refine c_ret (x_thenR ?_)
      refine bp_ret Tryz.results35 rfl ?_
      refine ⟨congrArg icv ?_, by first | exact hF | exact hF.thenDrew⟩
      split <;> omega
    · try simp only [decide_eq_true_eq, decide_eq_false_iff_not, Bool.not_eq_true', Bool.not_eq_false', Bool.not_eq_eq_eq_not, Bool.not_true, Bool.not_false, beq_iff_eq, bne_iff_ne, ne_eq, beq_eq_false_iff_ne, bne_eq_false_iff_eq, gt_iff_lt, ge_iff_le, Int.not_lt, Int.not_le] at hg15
      refine wlg_yes rfl (ro_move rfl) ?_
      refine wlg_yes rfl (ro_move rfl) ?_
      refine wlg_yes rfl (ro_arith (r := ((i + 1 : Nat) : Int)) rfl rfl rfl (Go.IntWalk.i64_in _ (by omega))) ?_
      refine wlg_yes rfl (ro_indexS rfl rfl st_9 rfl (h2)) ?_
      refine wlg_yes rfl (ro_cmp rfl rfl rfl) ?_
      refine wl (ro_pick rfl rfl rfl) ?_
      refine wl_fork rfl (fun hg22 => ?_) (fun hg22 => ?_)
      · try simp only [decide_eq_true_eq, decide_eq_false_iff_not, Bool.not_eq_true', Bool.not_eq_false', Bool.not_eq_eq_eq_not, Bool.not_true, Bool.not_false, beq_iff_eq, bne_iff_ne, ne_eq, beq_eq_false_iff_ne, bne_eq_false_iff_eq, gt_iff_lt, ge_iff_le, Int.not_lt, Int.not_le] at hg22
        refine wlg_no rfl ?_
        refine wlg_no rfl ?_
        refine wlg_no rfl ?_
        refine wlg_no rfl ?_
        refine wlg_no rfl ?_
        refine wl (ro_pick rfl rfl rfl) ?_
        refine wl_nil (x_then (hK3 _ _ ?_))
        clear hK3 K3
        refine wc_condT rfl ?_
        refine c_seq (fun K6 hK6 => ?_)
        refine c_reg ?_ -- region 2 bookm.go:112
        refine wl (ro_assign rfl) ?_
        refine wl_nil (x_then (hK6 _ _ ?_))
        clear hK6 K6
        refine c_ret (x_thenR ?_)
        refine bp_ret Tryz.results35 rfl ?_
        refine ⟨congrArg icv ?_, by first | exact hF | exact hF.thenDrew⟩
        split <;> omega
      · try simp only [decide_eq_true_eq, decide_eq_false_iff_not, Bool.not_eq_true', Bool.not_eq_false', Bool.not_eq_eq_eq_not, Bool.not_true, Bool.not_false, beq_iff_eq, bne_iff_ne, ne_eq, beq_eq_false_iff_ne, bne_eq_false_iff_eq, gt_iff_lt, ge_iff_le, Int.not_lt, Int.not_le] at hg22
        refine wlg_yes rfl (ro_move rfl) ?_
        refine wlg_yes rfl (ro_move rfl) ?_
        refine wlg_yes rfl (ro_arith (r := ((i + 1 : Nat) : Int)) rfl rfl rfl (Go.IntWalk.i64_in _ (by omega))) ?_
        refine wlg_yes rfl (ro_indexS rfl rfl st_9 rfl (h2)) ?_
        refine wlg_yes rfl (ro_cmp rfl rfl rfl) ?_
        refine wl (ro_pick rfl rfl rfl) ?_
        refine wl_nil (x_then (hK3 _ _ ?_))
        clear hK3 K3
        refine wc_cond rfl (fun hc28 => ?_) (fun hc28 => ?_)
        · try simp only [decide_eq_true_eq, decide_eq_false_iff_not, Bool.not_eq_true', Bool.not_eq_false', Bool.not_eq_eq_eq_not, Bool.not_true, Bool.not_false, beq_iff_eq, bne_iff_ne, ne_eq, beq_eq_false_iff_ne, bne_eq_false_iff_eq, gt_iff_lt, ge_iff_le, Int.not_lt, Int.not_le] at hc28
          refine c_seq (fun K7 hK7 => ?_)
          refine c_reg ?_ -- region 2 bookm.go:112
          refine wl (ro_assign rfl) ?_
          refine wl_nil (x_then (hK7 _ _ ?_))
          clear hK7 K7
          refine c_ret (x_thenR ?_)
          refine bp_ret Tryz.results35 rfl ?_
          refine ⟨congrArg icv ?_, by first | exact hF | exact hF.thenDrew⟩
          split <;> omega
        · try simp only [decide_eq_true_eq, decide_eq_false_iff_not, Bool.not_eq_true', Bool.not_eq_false', Bool.not_eq_eq_eq_not, Bool.not_true, Bool.not_false, beq_iff_eq, bne_iff_ne, ne_eq, beq_eq_false_iff_ne, bne_eq_false_iff_eq, gt_iff_lt, ge_iff_le, Int.not_lt, Int.not_le] at hc28
          refine c_skip (x_then (hK2 _ _ ?_))
          clear hK2 K2
          refine forget [(0, _), (1, _)] ⟨rfl, rfl, trivial⟩ (fun e => ?_)
          refine c_seq (fun K8 hK8 => ?_)
          refine c_pi [(0, false), (1, false), (2, false), (3, false), (4, false), (5, false), (6, false), (7, false), (8, false), (9, false), (10, false), (11, false), (12, false), (13, false)] (fun w' => w'.heap = w.heap) mixed (by kernel_rfl) rfl (by kernel_rfl) (po_then (po_bp)) (rfl) ?_ -- region 3 bookm.go:114
          refine pi_ro rfl (fun w hS => ro_move rfl) ?_
          refine pi_ro rfl (fun w hS => ro_move rfl) ?_
          refine pi_ro rfl (fun w hS => ro_indexS rfl rfl st_9 rfl (h1)) ?_
          refine pi_ro rfl (fun w hS => ro_arith (r := (x : Int) - 48) rfl rfl (congrArg some (by omega)) (Go.IntWalk.u8_in _ (by omega))) ?_
          refine pi_ro rfl (fun w hS => ro_conv rfl sc_5 in_3 (Go.IntWalk.i64_in _ (by omega))) ?_
          refine pi_ro rfl (fun w hS => ro_arith (r := ((x : Int) - 48) * 10) rfl rfl rfl (Go.IntWalk.i64_in _ (by omega))) ?_
          refine pi_ro rfl (fun w hS => ro_move rfl) ?_
          refine pi_ro rfl (fun w hS => ro_move rfl) ?_
          refine pi_ro rfl (fun w hS => ro_arith (r := ((i + 1 : Nat) : Int)) rfl rfl rfl (Go.IntWalk.i64_in _ (by omega))) ?_
          refine pi_ro rfl (fun w hS => ro_indexS rfl rfl st_9 rfl (h2)) ?_
          refine pi_ro rfl (fun w hS => ro_arith (r := (y : Int) - 48) rfl rfl (congrArg some (by omega)) (Go.IntWalk.u8_in _ (by omega))) ?_
          refine pi_ro rfl (fun w hS => ro_conv rfl sc_5 in_3 (Go.IntWalk.i64_in _ (by omega))) ?_
          refine pi_ro rfl (fun w hS => ro_arith (r := ((x : Int) - 48) * 10 + ((y : Int) - 48)) rfl rfl rfl (Go.IntWalk.i64_in _ (by omega))) ?_
          refine pi_ro rfl (fun w hS => ro_assign rfl) ?_
          refine pi_nil (x_then (hK8 _ _ ?_))
          clear hK8 K8
          refine c_ret ?_
          refine bp_ret Tryz.results35 rfl ?_
          refine ⟨congrArg icv ?_, by first | exact hF | exact hF.thenDrew⟩
          split <;> omega
theorem two83 {w : World} {n : Nat} (hn : n < 100) : Ret Tryz.prog 83 [i64c n] w (fun v w' => v = S (d2 n) ∧ Fram none' w w') := by
  refine ret_of Tryz.func83 rfl Tryz.ntmps83 rfl ?_
  refine c_seq (fun K1 hK1 => ?_)
  refine c_reg ?_ -- region 0 bookm.go:95
  refine wl (ro_assign rfl) ?_
  refine wl_nil (x_then (hK1 _ _ ?_))
  clear hK1 K1
  refine forget [(0, _)] ⟨rfl, trivial⟩ (fun e => ?_)
  refine c_seq (fun K2 hK2 => ?_)
  refine c_reg ?_ -- region 1 bookm.go:95
  refine wl (ro_move rfl) ?_
  refine wl (ro_quoN (b := 10) rfl rfl (by omega) (by omega)) ?_
  refine wl (ro_arith (r := ((48 + n / 10 : Nat) : Int)) rfl rfl (congrArg some (by omega)) (Go.IntWalk.i64_in _ (by omega))) ?_
  refine wl (ro_toU8 rfl sc_3 in_5 (by omega)) ?_
  refine wl (ro_move rfl) ?_
  refine wl (ro_remN (b := 10) rfl rfl (by omega)) ?_
  refine wl (ro_arith (r := ((48 + n % 10 : Nat) : Int)) rfl rfl (congrArg some (by omega)) (Go.IntWalk.i64_in _ (by omega))) ?_
  refine wl (ro_toU8 rfl sc_3 in_5 (by omega)) ?_
  refine wle (eo_bs2 (u := u8c (UInt8.ofNat (48 + n / 10))) (v := u8c (UInt8.ofNat (48 + n % 10))) rfl rfl rfl rfl se_58 zx_5) ?_
  refine wl (ro_toS (o := d2 n) (b := w.heap.size) (N := 2) (c := 2) rfl se_58 (by kernel_rfl) st_9 (Blk.new w [u8c (UInt8.ofNat (48 + n / 10)), u8c (UInt8.ofNat (48 + n % 10))] 5) rfl (fun k y hk ↦ by (unfold d2 at hk; match k, hk with | 0, h => cases h; rfl | 1, h => cases h; rfl))) ?_
  refine wl (ro_assign rfl) ?_
  refine wl_nil (x_then (hK2 _ _ ?_))
  clear hK2 K2
  refine c_ret ?_
  refine bp_ret Tryz.results83 rfl ?_
  exact ⟨rfl, Fram.alloc _ _ _⟩
set_option maxHeartbeats 4000000 in
theorem Save54 {w : World} {Y : MK} {O : Nat → Prop} {lo hi : Nat} {T : List Tx} {past next : List (List Tx)} {V1 V2 : Value} {sb : Nat} (hb : MkB lo hi Y) (h : BkV w Y O lo hi T past next V1 V2 sb) :
    Ret Tryz.prog 54 [ptr Y.k] w (fun v w' => v = S (svT T 24) ∧ Fram none' w w') := by
  have hF : Fram none' w w := Fram.refl _ _
  obtain ⟨SL, xs, ys, h⟩ := h
  have hT := h.ok
  have hK := h.hK
  have hv := h.hv
  refine ret_of Tryz.func54 rfl Tryz.ntmps54 rfl ?_
  refine c_seq (fun K1 hK1 => ?_)
  refine c_reg ?_ -- region 0 bookm.go:98
  refine wl (ro_assign rfl) ?_
  refine wl_nil (x_then (hK1 _ _ ?_))
  clear hK1 K1
  refine forget [(0, _)] ⟨rfl, trivial⟩ (fun e => ?_)
  refine c_seq (fun K2 hK2 => ?_)
  refine c_reg ?_ -- region 1 bookm.go:99
  refine wl (ro_assign rfl) ?_
  refine wl_nil (x_then (hK2 _ _ ?_))
  clear hK2 K2
  refine c_seq (fun K3 hK3 => ?_)
  refine c_seq (fun K4 hK4 => ?_)
  refine c_reg ?_ -- region 2 bookm.go:100
  refine wl (ro_assign rfl) ?_
  refine wl_nil (x_then (hK4 _ _ ?_))
  clear hK4 K4
  refine c_block ?_
  -- loop@r3: live slots [0, 3, 4]
  refine c_loopG (fun m a' w' => ∃ i, m = 24 - i ∧ i ≤ 24 ∧ Blk w'.heap Y.k [ptr Y.N.e, V1, V2] 53 ∧ NaV w' Y.N Y.h sb T SL ∧ Fram none' w w' ∧ ∃ e, a' = Fr 31 (upds e [(0, ptr Y.k), (3, S (svT T i)), (4, i64c i)]) []) 24 ⟨0, rfl, by omega, hK, hv, hF, kp _ ⟨rfl, rfl, rfl, trivial⟩⟩ ?_
  clear hF hK hv
  rintro m a' u1 ⟨i, rfl, hi24, hK, hv, hF, e, rfl⟩
  have hsl := svT_len hT i
  have hle := hT.le i
  have hsv1 : svT T (i + 1) = svT T i ++ svP T i := rfl
  refine c_seq (fun K5 hK5 => ?_)
  refine c_seq (fun K6 hK6 => ?_)
  refine c_reg ?_ -- region 3 bookm.go:100
  refine wl (ro_move rfl) ?_
  refine wl (ro_cmp (r := decide (i < 24)) rfl rfl (congrArg some (decide_eq_decide.2 (by omega)))) ?_
  refine wl_nil (x_then (hK6 _ _ ?_))
  clear hK6 K6
  refine wc_cond rfl (fun hc8 => ?_) (fun hc8 => ?_)
  · try simp only [decide_eq_true_eq, decide_eq_false_iff_not, Bool.not_eq_true', Bool.not_eq_false', Bool.not_eq_eq_eq_not, Bool.not_true, Bool.not_false, beq_iff_eq, bne_iff_ne, ne_eq, beq_eq_false_iff_ne, bne_eq_false_iff_eq, gt_iff_lt, ge_iff_le, Int.not_lt, Int.not_le] at hc8
    refine c_skip (x_then (hK5 _ _ ?_))
    clear hK5 K5
    refine forget [(0, _), (3, _), (4, _)] ⟨rfl, rfl, rfl, trivial⟩ (fun e => ?_)
    refine c_seq (fun K7 hK7 => ?_)
    refine c_block ?_
    refine c_seq (fun K8 hK8 => ?_)
    refine c_reg ?_ -- region 5 bookm.go:101
    refine wl (ro_move rfl) ?_
    refine wl (ro_nilCheck rfl) ?_
    refine wl (ro_fieldAddr (k := 0) rfl fo_53_0) ?_
    refine wl (ro_loadB rfl sc_49 (by assumption) rfl) ?_
    refine wl (ro_move rfl) ?_
    refine wl_call rfl en_67 (Raw67 hv) ?_
    rintro _ u0 ⟨rfl, hw0⟩
    rw [getS_nat hc8, hw0]
    clear hw0 u0
    generalize hraw : tF T i = raw at *
    refine wl (ro_assign rfl) ?_
    refine wl_nil (x_then (hK8 _ _ ?_))
    clear hK8 K8
    refine forget [(0, _), (3, _), (4, _), (5, _)] ⟨rfl, rfl, rfl, rfl, trivial⟩ (fun e => ?_)
    refine c_seq (fun K9 hK9 => ?_)
    refine c_reg ?_ -- region 6 bookm.go:102
    refine wl (ro_move rfl) ?_
    refine wl (ro_eqS (l := raw) (m := []) (r := decide (raw ≠ [])) rfl rfl (congrArg some (by by_cases h : raw = [] <;> simp [h]))) ?_
    refine wl_nil (x_then (hK9 _ _ ?_))
    clear hK9 K9
    refine wc_cond rfl (fun hc18 => ?_) (fun hc18 => ?_)
    · try simp only [decide_eq_true_eq, decide_eq_false_iff_not, Bool.not_eq_true', Bool.not_eq_false', Bool.not_eq_eq_eq_not, Bool.not_true, Bool.not_false, beq_iff_eq, bne_iff_ne, ne_eq, beq_eq_false_iff_ne, bne_eq_false_iff_eq, gt_iff_lt, ge_iff_le, Int.not_lt, Int.not_le] at hc18
      refine c_seq (fun K10 hK10 => ?_)
      refine c_reg ?_ -- region 7 bookm.go:103
      refine wl (ro_move rfl) ?_
      refine wl_call rfl en_83 (two83 (by omega)) ?_
      rintro _ u2 ⟨rfl, G2⟩
      replace hF := hF.transG G2 (by intro k hk h; simp only [none'] at h ⊢ <;> omega)
      replace hK := G2.blkF hK (by intro h; simp only [none'] at h <;> omega)
      replace hv := hv.farN hb.nb G2
      refine wl (ro_assign rfl) ?_
      refine wl_nil (x_then (hK10 _ _ ?_))
      clear hK10 K10
      refine c_reg ?_ -- region 8 bookm.go:104
      refine wl (ro_move rfl) ?_
      refine wl (ro_move rfl) ?_
      refine wl (ro_catS (l := svT T i) (m := d2 i) rfl rfl (by rw [d2_len]; omega)) ?_
      refine wl (ro_move rfl) ?_
      refine wl (ro_lenS rfl st_9) ?_
      refine wl_call rfl en_83 (two83 (n := raw.length) (by omega)) ?_
      rintro _ u3 ⟨rfl, G3⟩
      replace hF := hF.transG G3 (by intro k hk h; simp only [none'] at h ⊢ <;> omega)
      replace hK := G3.blkF hK (by intro h; simp only [none'] at h <;> omega)
      replace hv := hv.farN hb.nb G3
      refine wl (ro_catS (l := svT T i ++ d2 i) (m := d2 raw.length) rfl rfl (by rw [List.length_append, d2_len, d2_len]; omega)) ?_
      refine wl (ro_move rfl) ?_
      refine wl (ro_catS (l := svT T i ++ d2 i ++ d2 raw.length) (m := raw) rfl rfl (by rw [List.length_append, List.length_append, d2_len, d2_len]; omega)) ?_
      refine wl (ro_assign rfl) ?_
      refine wl_nil (x_blk (x_then (hK7 _ _ ?_)))
      clear hK7 K7
      refine c_reg ?_ -- region 4 bookm.go:100
      refine wl (ro_move rfl) ?_
      refine wl (ro_arith (r := ((i + 1 : Nat) : Int)) rfl rfl rfl (Go.IntWalk.i64_in _ (by omega))) ?_
      refine wl (ro_assign rfl) ?_
      refine wl_nil (x_then ?_)
      have e1 : svT T (i + 1) = svT T i ++ d2 i ++ d2 raw.length ++ raw := by
        rw [hsv1]
        unfold svP
        rw [hraw, if_neg hc18]
        simp
      exact ⟨24 - (i + 1), by omega, i + 1, rfl, by omega, hK, hv, hF, kp _ ⟨rfl, by rw [e1]; rfl, rfl, trivial⟩⟩
    · try simp only [decide_eq_true_eq, decide_eq_false_iff_not, Bool.not_eq_true', Bool.not_eq_false', Bool.not_eq_eq_eq_not, Bool.not_true, Bool.not_false, beq_iff_eq, bne_iff_ne, ne_eq, beq_eq_false_iff_ne, bne_eq_false_iff_eq, gt_iff_lt, ge_iff_le, Int.not_lt, Int.not_le] at hc18
      refine c_skip (x_blk (x_then (hK7 _ _ ?_)))
      clear hK7 K7
      refine c_reg ?_ -- region 4 bookm.go:100
      refine wl (ro_move rfl) ?_
      refine wl (ro_arith (r := ((i + 1 : Nat) : Int)) rfl rfl rfl (Go.IntWalk.i64_in _ (by omega))) ?_
      refine wl (ro_assign rfl) ?_
      refine wl_nil (x_then ?_)
      have e1 : svT T (i + 1) = svT T i := by
        rw [hsv1]
        unfold svP
        rw [hraw, if_pos (Classical.not_not.1 hc18), List.append_nil]
      exact ⟨24 - (i + 1), by omega, i + 1, rfl, by omega, hK, hv, hF, kp _ ⟨rfl, by rw [e1]; rfl, rfl, trivial⟩⟩
  · try simp only [decide_eq_true_eq, decide_eq_false_iff_not, Bool.not_eq_true', Bool.not_eq_false', Bool.not_eq_eq_eq_not, Bool.not_true, Bool.not_false, beq_iff_eq, bne_iff_ne, ne_eq, beq_eq_false_iff_ne, bne_eq_false_iff_eq, gt_iff_lt, ge_iff_le, Int.not_lt, Int.not_le] at hc8
    refine c_exit (x_thenX (x_thenX (x_blkX (x_then (hK3 _ _ ?_)))))
    clear hK5 K5 hK3 K3
    refine forget [(3, _)] ⟨rfl, trivial⟩ (fun e => ?_)
    refine c_seq (fun K11 hK11 => ?_)
    refine c_reg ?_ -- region 9 bookm.go:107
    refine wl (ro_move rfl) ?_
    refine wl (ro_assign rfl) ?_
    refine wl_nil (x_then (hK11 _ _ ?_))
    clear hK11 K11
    refine c_ret ?_
    refine bp_ret Tryz.results54 rfl ?_
    have : i = 24 := by omega
    subst this
    exact ⟨rfl, hF⟩
theorem New6 {w : World} {O : Nat → Prop} : Ret Tryz.prog 6 [] w (fun v w' => (∃ (Y : MK) (sb : Nat), v = ptr Y.k ∧ MkB w.heap.size w'.heap.size Y ∧ w.heap.size ≤ sb ∧ BkV w' Y O w.heap.size w'.heap.size zL [] [] (.slice none 0 0) (.slice none 0 0) sb) ∧ Fram none' w w') := by
  refine ret_of Tryz.func6 rfl Tryz.ntmps6 rfl ?_
  refine c_seq (fun K1 hK1 => ?_)
  refine c_reg ?_ -- region 0 bookm.go:15
  refine wl (ro_assign rfl) ?_
  refine wl_nil (x_then (hK1 _ _ ?_))
  clear hK1 K1
  refine forget [] trivial (fun e => ?_)
  refine c_seq (fun K2 hK2 => ?_)
  refine c_reg ?_ -- region 1 bookm.go:16
  refine wl_call rfl en_29 (New29) ?_
  rintro _ u1 ⟨⟨N, rfl, hN, sb, hv⟩, G1⟩
  refine wl (ro_assign rfl) ?_
  refine wl_nil (x_then (hK2 _ _ ?_))
  clear hK2 K2
  refine forget [(1, _)] ⟨rfl, trivial⟩ (fun e => ?_)
  refine c_seq (fun K3 hK3 => ?_)
  refine c_reg ?_ -- region 2 bookm.go:17
  refine wl (ro_move rfl) ?_
  refine wl (ro_build rfl bld_53_0) ?_
  refine wl_box rfl rfl (fun kb w1 hbkb hK F1 => ?_)
  replace hv := hv.farN hN F1
  refine wl (ro_assign rfl) ?_
  refine wl_nil (x_then (hK3 _ _ ?_))
  clear hK3 K3
  refine c_ret ?_
  refine bp_ret Tryz.results6 rfl ?_
  have hKl := hK.lt
  have hz := G1.size
  have hz2 := F1.size
  refine ⟨⟨⟨kb, u1.heap.size, N⟩, sb, rfl, ⟨hN, by assumption, hKl⟩, ?_, List.replicate 24 vZ, [], [], hK, hv, OwO.nil _ _, OwO.nil _ _, (fun b q => (by cases q)), (fun b q => (by cases q)), (fun b q z => (by cases q)), SnV.nil _ _ _, SnV.nil _ _ _, Nat.le_refl _⟩, G1.trans F1⟩
  have hs := hv.hs
  have hm := hN.mb
  have h1 := hN.lf
  have h2 := hN.fm
  unfold MaB at hm
  omega

end Go.Proofs.Qxb6500570aGreat
