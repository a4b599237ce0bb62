import Derived.Test.Qxb6500568aGreatDoorBi
import Derived.Test.Qxb6500568aGreatDoorPg
/- The real numbers: ToInt, lay, Format. -/
namespace Go.Proofs.Qxb6500568aGreatDoor
open Ieee
set_option linter.unusedVariables false
set_option linter.unusedSimpArgs false

theorem cmpN {op : Int} {a b : Nat} (ha : rgW a ≤ infB) (hb : rgW b ≤ infB) : fCmp op a b = (if op = 1 then decide (okey a = okey b) else if op = 2 then decide (okey a ≠ okey b) else if op = 3 then decide (okey a < okey b) else if op = 4 then decide (okey a ≤ okey b)
  else if op = 5 then decide (okey b < okey a) else if op = 6 then decide (okey b ≤ okey a) else false) := by
  unfold fCmp; rw [if_neg (by omega)]
theorem cmpT {op : Int} {a b : Nat} (h : infB < rgW a) : fCmp op a b = (op == 2) := by unfold fCmp; rw [if_pos (.inl h)]

theorem f2i {x : Nat} {k : IntKind} (h : W64 x) (h1 : rgW x ≤ 4845873199050653696) (hk : k.min ≤ sgI (ngW x) (truW x) ∧ sgI (ngW x) (truW x) ≤ k.max) : floatToIntVal .f64 x k = some (sgI (ngW x) (truW x)) := by
  unfold floatToIntVal
  rw [show (FloatKind.f64.decode x) = double.read x from rfl, toInt_fin h (rg53f h1)]
  dsimp only
  rw [if_pos hk]

theorem nearest_W (b : Bool) (m : Nat) (p : Int) : W64 (double.nearest b m p) := by rw [← pkS_f]; exact pkS_lt _ _ _ _
theorem nearest_le (b : Bool) (m : Nat) (p : Int) : rgW (double.nearest b m p) ≤ infB := by
  have := nearest_noNaN b m p
  unfold isNaNW at this
  rw [decide_eq_false_iff_not] at this
  omega

theorem ToInt200 {w : World} {p : Value} {x : Nat} (hx : W64 x) : Ret Tryz.prog 200 [p, u64c x] w (fun v w' => v = .tuple #[icv ((toI x).getD 0), .bool (toI x).isSome] ∧ w' = w) := by
  have c1 : okey 14069245235905429504 = -4845873199050653696 := by decide
  have c2 : okey 4845873199050653696 = 4845873199050653696 := by decide
  have hbig : ¬ rgW x ≤ 4845873199050653696 → toI x = none := by
    intro h; unfold toI; rw [if_neg (by rintro ⟨h1, h2⟩; exact h h1)]
  refine ret_of Tryz.func200 rfl Tryz.ntmps200 rfl ?_
  refine c_seq (fun K1 hK1 => ?_)
  refine c_reg ?_ -- region 0 num.go:116
  refine wl (ro_assign rfl) ?_
  refine wl (ro_assign rfl) ?_
  refine wl_nil (x_then (hK1 _ _ ?_))
  clear hK1 K1
  refine forget [(1, _)] ⟨rfl, trivial⟩ (fun e => ?_)
  refine c_seq (fun K2 hK2 => ?_)
  refine c_reg ?_ -- region 1 num.go:117
  refine wl (ro_move rfl) ?_
  refine wl (ro_from rfl) ?_
  refine wl (ro_assign rfl) ?_
  refine wl_nil (x_then (hK2 _ _ ?_))
  clear hK2 K2
  refine c_seq (fun K3 hK3 => ?_)
  refine c_seq (fun K4 hK4 => ?_)
  refine c_reg ?_ -- region 2 num.go:118
  refine wl (ro_move rfl) ?_
  refine wl (ro_fcmp (b := 14069245235905429504) rfl rfl hx (by decide) rfl) ?_
  refine wl_fork rfl (fun hg12 => ?_) (fun hg12 => ?_)
  · try simp only [decide_eq_true_eq, decide_eq_false_iff_not, Bool.not_eq_true', Bool.not_eq_false', Bool.not_eq_eq_eq_not, Bool.not_true, Bool.not_false, beq_iff_eq, bne_iff_ne, ne_eq, beq_eq_false_iff_ne, bne_eq_false_iff_eq, gt_iff_lt, ge_iff_le, Int.not_lt, Int.not_le] at hg12
    refine wlg_yes rfl (ro_move rfl) ?_
    refine wlg_yes rfl (ro_fcmp (b := 4845873199050653696) rfl rfl hx (by decide) rfl) ?_
    refine wl (ro_pick rfl rfl rfl) ?_
    refine wl (ro_not rfl) ?_
    refine wl_nil (x_then (hK4 _ _ ?_))
    clear hK4 K4
    refine wc_cond rfl (fun hc16 => ?_) (fun hc16 => ?_)
    · try simp only [decide_eq_true_eq, decide_eq_false_iff_not, Bool.not_eq_true', Bool.not_eq_false', Bool.not_eq_eq_eq_not, Bool.not_true, Bool.not_false, beq_iff_eq, bne_iff_ne, ne_eq, beq_eq_false_iff_ne, bne_eq_false_iff_eq, gt_iff_lt, ge_iff_le, Int.not_lt, Int.not_le] at hc16
      have hgt : ¬ rgW x ≤ 4845873199050653696 := by
        intro hle
        have hli : rgW x ≤ infB := by unfold infB; omega
        have hok : -4845873199050653696 ≤ okey x ∧ okey x ≤ 4845873199050653696 := by unfold okey; split <;> omega
        rw [cmpN hli (by decide), c2] at hc16
        simp only [show ((4 : Int) = 1) = False by decide, show ((4 : Int) = 2) = False by decide, show ((4 : Int) = 3) = False by decide, if_false, if_true, decide_eq_false_iff_not] at hc16
        omega
      refine c_seq (fun K5 hK5 => ?_)
      refine c_reg ?_ -- region 3 num.go:119
      refine wl (ro_assign rfl) ?_
      refine wl (ro_assign rfl) ?_
      refine wl_nil (x_then (hK5 _ _ ?_))
      clear hK5 K5
      refine c_ret (x_thenR ?_)
      refine bp_ret Tryz.results200 rfl ?_
      exact ⟨by rw [hbig hgt]; rfl, rfl⟩
    · try simp only [decide_eq_true_eq, decide_eq_false_iff_not, Bool.not_eq_true', Bool.not_eq_false', Bool.not_eq_eq_eq_not, Bool.not_true, Bool.not_false, beq_iff_eq, bne_iff_ne, ne_eq, beq_eq_false_iff_ne, bne_eq_false_iff_eq, gt_iff_lt, ge_iff_le, Int.not_lt, Int.not_le] at hc16
      have hli : rgW x ≤ infB := by
        rcases Nat.lt_or_ge infB (rgW x) with h | h
        · rw [cmpT h] at hg12; simp at hg12
        · exact h
      have hle : rgW x ≤ 4845873199050653696 := by
        rw [cmpN hli (by decide), c2] at hc16
        rw [cmpN hli (by decide), c1] at hg12
        simp only [show ((4 : Int) = 1) = False by decide, show ((4 : Int) = 2) = False by decide, show ((4 : Int) = 3) = False by decide, show ((6 : Int) = 1) = False by decide, show ((6 : Int) = 2) = False by decide, show ((6 : Int) = 3) = False by decide, show ((6 : Int) = 4) = False by decide, show ((6 : Int) = 5) = False by decide, if_false, if_true, decide_eq_true_eq] at hc16 hg12
        have hok : -4845873199050653696 ≤ okey x ∧ okey x ≤ 4845873199050653696 := ⟨hg12, hc16⟩
        unfold okey at hok
        split at hok <;> omega
      have htr := rg53 hle
      obtain ⟨I, hI⟩ : ∃ I, I = sgI (ngW x) (truW x) := ⟨_, rfl⟩
      have hIb : -9007199254740992 ≤ I ∧ I ≤ 9007199254740992 := by rw [hI]; unfold sgI; split <;> omega
      have hbk := back_eq hx hle
      have hfv := f2i (k := .i64) hx hle (by rw [← hI]; show -9223372036854775808 ≤ I ∧ I ≤ 9223372036854775807; omega)
      rw [← hI] at hbk hfv
      have htoI : toI x = if whoW x = true then some I else none := by unfold toI; rw [hI]; by_cases c : whoW x = true; rw [if_pos ⟨hle, c⟩, if_pos c]; rw [if_neg (fun h => c h.2), if_neg c]
      refine c_skip (x_then (hK3 _ _ ?_))
      clear hK3 K3
      refine forget [(6, _)] ⟨rfl, trivial⟩ (fun e => ?_)
      refine c_seq (fun K6 hK6 => ?_)
      refine c_reg ?_ -- region 4 num.go:121
      refine wl (ro_move rfl) ?_
      refine wl (ro_f2i (a := x) (m := I) rfl (by kernel_rfl) in_3 hfv) ?_
      refine wl (ro_assign rfl) ?_
      refine wl_nil (x_then (hK6 _ _ ?_))
      clear hK6 K6
      refine c_seq (fun K7 hK7 => ?_)
      refine c_seq (fun K8 hK8 => ?_)
      refine c_reg ?_ -- region 5 num.go:122
      refine wl (ro_move rfl) ?_
      refine wl (ro_i2f (m := I) rfl sc_3 (by kernel_rfl)) ?_
      refine wl (ro_move rfl) ?_
      refine wl (ro_fcmp rfl rfl (nearest_W _ _ _) hx rfl) ?_
      refine wl_nil (x_then (hK8 _ _ ?_))
      clear hK8 K8
      rw [cmpN (nearest_le _ _ _) hli]
      refine wc_cond rfl (fun hc22 => ?_) (fun hc22 => ?_)
      · try simp only [decide_eq_true_eq, decide_eq_false_iff_not, Bool.not_eq_true', Bool.not_eq_false', Bool.not_eq_eq_eq_not, Bool.not_true, Bool.not_false, beq_iff_eq, bne_iff_ne, ne_eq, beq_eq_false_iff_ne, bne_eq_false_iff_eq, gt_iff_lt, ge_iff_le, Int.not_lt, Int.not_le] at hc22
        have hnw : ¬ whoW x = true := by
          simp only [show ((2 : Int) = 1) = False by decide, if_false, if_true, decide_eq_true_eq] at hc22
          exact fun h => hc22 (hbk.2 h)
        refine c_seq (fun K9 hK9 => ?_)
        refine c_reg ?_ -- region 6 num.go:123
        refine wl (ro_assign rfl) ?_
        refine wl (ro_assign rfl) ?_
        refine wl_nil (x_then (hK9 _ _ ?_))
        clear hK9 K9
        refine c_ret (x_thenR ?_)
        refine bp_ret Tryz.results200 rfl ?_
        exact ⟨by rw [htoI, if_neg hnw]; rfl, rfl⟩
      · try simp only [decide_eq_true_eq, decide_eq_false_iff_not, Bool.not_eq_true', Bool.not_eq_false', Bool.not_eq_eq_eq_not, Bool.not_true, Bool.not_false, beq_iff_eq, bne_iff_ne, ne_eq, beq_eq_false_iff_ne, bne_eq_false_iff_eq, gt_iff_lt, ge_iff_le, Int.not_lt, Int.not_le] at hc22
        have hnw : whoW x = true := by
          simp only [show ((2 : Int) = 1) = False by decide, if_false, if_true, decide_eq_false_iff_not, Decidable.not_not] at hc22
          exact hbk.1 hc22
        refine c_skip (x_then (hK7 _ _ ?_))
        clear hK7 K7
        refine forget [(7, _)] ⟨rfl, trivial⟩ (fun e => ?_)
        refine c_seq (fun K10 hK10 => ?_)
        refine c_reg ?_ -- region 7 num.go:125
        refine wl (ro_move rfl) ?_
        refine wl (ro_assign rfl) ?_
        refine wl (ro_assign rfl) ?_
        refine wl_nil (x_then (hK10 _ _ ?_))
        clear hK10 K10
        refine c_ret ?_
        refine bp_ret Tryz.results200 rfl ?_
        exact ⟨by rw [htoI, if_pos hnw]; rfl, rfl⟩
  · try simp only [decide_eq_true_eq, decide_eq_false_iff_not, Bool.not_eq_true', Bool.not_eq_false', Bool.not_eq_eq_eq_not, Bool.not_true, Bool.not_false, beq_iff_eq, bne_iff_ne, ne_eq, beq_eq_false_iff_ne, bne_eq_false_iff_eq, gt_iff_lt, ge_iff_le, Int.not_lt, Int.not_le] at hg12
    refine wlg_no rfl ?_
    refine wlg_no rfl ?_
    refine wl (ro_pick rfl rfl rfl) ?_
    refine wl (ro_not rfl) ?_
    refine wl_nil (x_then (hK4 _ _ ?_))
    clear hK4 K4
    refine wc_condT rfl ?_
    refine c_seq (fun K11 hK11 => ?_)
    refine c_reg ?_ -- region 3 num.go:119
    refine wl (ro_assign rfl) ?_
    refine wl (ro_assign rfl) ?_
    refine wl_nil (x_then (hK11 _ _ ?_))
    clear hK11 K11
    refine c_ret (x_thenR ?_)
    refine bp_ret Tryz.results200 rfl ?_
    refine ⟨?_, rfl⟩
    have hgt : ¬ rgW x ≤ 4845873199050653696 := by
      intro hle
      have hli : rgW x ≤ infB := by unfold infB; omega
      have hok : -4845873199050653696 ≤ okey x ∧ okey x ≤ 4845873199050653696 := by unfold okey; split <;> omega
      rw [cmpN hli (by decide), c1] at hg12
      simp only [show ((6 : Int) = 1) = False by decide, show ((6 : Int) = 2) = False by decide, show ((6 : Int) = 3) = False by decide, show ((6 : Int) = 4) = False by decide, show ((6 : Int) = 5) = False by decide, if_false, if_true, decide_eq_false_iff_not] at hg12
      omega
    rw [hbig hgt]; rfl

theorem lay301 {w : World} {bb u : Nat} {l : List Value} {T : List UInt8} (hB : Blk w.heap bb l 5) (hl : l.length = 24) (hT : l.take T.length = T.map u8c) (hu : W64 u) (hn : T.length + (dgT u).length ≤ 24) :
    Ret Tryz.prog 301 [.slice (some ⟨bb, 0, none⟩) 24 24, i64c T.length, u64c u] w (fun v w' => v = i64c (T ++ dgT u).length ∧ (∃ l', Blk w'.heap bb l' 5 ∧ l'.length = 24 ∧ l'.take (T ++ dgT u).length = (T ++ dgT u).map u8c) ∧ Fram (one bb) w w') := by
  have hu' := hu
  unfold W64 at hu'
  refine ret_of Tryz.func301 rfl Tryz.ntmps301 rfl ?_
  refine c_seq (fun K1 hK1 => ?_)
  refine c_reg ?_ -- region 0 text.go:10
  refine wl (ro_assign rfl) ?_
  refine wl_nil (x_then (hK1 _ _ ?_))
  clear hK1 K1
  refine forget [(0, _), (1, _), (2, _)] ⟨rfl, rfl, rfl, trivial⟩ (fun e => ?_)
  refine c_seq (fun K2 hK2 => ?_)
  refine c_reg ?_ -- region 1 text.go:11
  refine wl (ro_assign rfl) ?_
  refine wl_nil (x_then (hK2 _ _ ?_))
  clear hK2 K2
  refine forget [(0, _), (1, _), (2, _), (7, _)] ⟨rfl, rfl, rfl, rfl, trivial⟩ (fun e => ?_)
  refine c_seq (fun K3 hK3 => ?_)
  refine c_block ?_
  -- loop@r2: live slots [0, 1, 2, 7]
  refine c_loopG (fun m a' w' => ∃ k : Nat, k ≤ 19 ∧ m = 19 - k ∧ (k = 0 ∨ 10 ^ k ≤ u) ∧ w' = w ∧ ∃ e, a' = Fr 32 (upds e [(0, .slice (some ⟨bb, 0, none⟩) 24 24), (1, i64c T.length), (2, u64c u), (7, u64c (10 ^ k))]) []) 19 ⟨0, by omega, by omega, .inl rfl, rfl, kp _ ⟨rfl, rfl, rfl, rfl, trivial⟩⟩ ?_
  rintro m a' w' ⟨k, hk, hm, hku, hw, e, rfl⟩
  rw [hw]
  clear hw w'
  have hkp : 0 < 10 ^ k := Nat.pow_pos (by decide)
  refine c_seq (fun K4 hK4 => ?_)
  refine c_seq (fun K5 hK5 => ?_)
  refine c_reg ?_ -- region 2 text.go:12
  refine wl (ro_move rfl) ?_
  refine wl (ro_move rfl) ?_
  refine wl (ro_quoU (a := u) (b := 10 ^ k) rfl rfl hkp hu) ?_
  refine wl (ro_cmpU rfl rfl rfl) ?_
  refine wl_nil (x_then (hK5 _ _ ?_))
  clear hK5 K5
  refine wc_cond rfl (fun hc11 => ?_) (fun hc11 => ?_)
  · try simp only [decide_eq_true_eq, decide_eq_false_iff_not, Bool.not_eq_true', Bool.not_eq_false', Bool.not_eq_eq_eq_not, Bool.not_true, Bool.not_false, beq_iff_eq, bne_iff_ne, ne_eq, beq_eq_false_iff_ne, bne_eq_false_iff_eq, gt_iff_lt, ge_iff_le, Int.not_lt, Int.not_le] at hc11
    have h10 : 10 ^ (k + 1) ≤ u := by
      rw [Nat.le_div_iff_mul_le hkp] at hc11
      rw [Nat.pow_succ, Nat.mul_comm]; exact hc11
    have hk19 : k < 19 := by
      rcases Nat.lt_or_ge k 19 with h | h
      · exact h
      · exfalso
        have := ge_pow (n := 20) (k := k + 1) (by omega)
        omega
    have hps : 10 ^ k * 10 = 10 ^ (k + 1) := (Nat.pow_succ 10 k).symm
    refine c_skip (x_then (hK4 _ _ ?_))
    clear hK4 K4
    refine c_block ?_
    refine c_reg ?_ -- region 3 text.go:13
    refine wl (ro_move rfl) ?_
    refine wl (ro_mulU (a := 10 ^ k) (b := 10) rfl rfl (by unfold W64; omega)) ?_
    refine wl (ro_assign rfl) ?_
    refine wl_nil (x_blk (x_then ?_))
    exact ⟨19 - (k + 1), by omega, k + 1, by omega, rfl, .inr h10, rfl, kp _ ⟨rfl, rfl, rfl, by rw [← hps]; rfl, trivial⟩⟩
  · try simp only [decide_eq_true_eq, decide_eq_false_iff_not, Bool.not_eq_true', Bool.not_eq_false', Bool.not_eq_eq_eq_not, Bool.not_true, Bool.not_false, beq_iff_eq, bne_iff_ne, ne_eq, beq_eq_false_iff_ne, bne_eq_false_iff_eq, gt_iff_lt, ge_iff_le, Int.not_lt, Int.not_le] at hc11
    have hlt : u < 10 ^ (k + 1) := by
      rw [Nat.pow_succ, Nat.mul_comm, ← Nat.div_lt_iff_lt_mul hkp]; omega
    have hdg := dgT_lay (show k < 20 by omega) hlt hku
    have hdl : (dgT u).length = k + 1 := by rw [hdg, layT_len]
    refine c_exit (x_thenX (x_thenX (x_blkX (x_then (hK3 _ _ ?_)))))
    clear hK4 K4 hK3 K3
    refine forget [(0, _), (1, _), (2, _), (7, _)] ⟨rfl, rfl, rfl, rfl, trivial⟩ (fun e => ?_)
    refine c_seq (fun K6 hK6 => ?_)
    refine c_block ?_
    -- loop@r4: live slots [0, 1, 2, 7]
    refine c_loopG (fun m a' w' => ∃ (r v : Nat) (W : List UInt8) (l' : List Value), m = r ∧ r ≤ k + 1 ∧ W.length + r = k + 1 ∧ v ≤ u ∧ v < 10 ^ r ∧ W ++ (if r = 0 then [] else layT (r - 1) v) = dgT u ∧ l'.length = 24 ∧ l'.take (T ++ W).length = (T ++ W).map u8c ∧ Blk w'.heap bb l' 5 ∧ Fram (one bb) w w' ∧ ∃ e, a' = Fr 32 (upds e [(0, .slice (some ⟨bb, 0, none⟩) 24 24), (1, i64c (T ++ W).length), (2, u64c v), (7, u64c (if r = 0 then 0 else 10 ^ (r - 1)))]) []) (k + 1) ⟨k + 1, u, [], l, rfl, Nat.le_refl _, by simp, Nat.le_refl _, hlt, by rw [if_neg (by omega), hdg]; rfl, hl, by rw [List.append_nil]; exact hT, hB, Fram.refl _ _, kp _ ⟨rfl, by rw [List.append_nil]; rfl, rfl, by rw [if_neg (by omega)]; rfl, trivial⟩⟩ ?_
    clear hm m
    rintro m a' w1 ⟨r, v, W, l1, hmr, hrk, hWr, hvu, hv, hWd, hl1, hT1, hB1, hF1, e, rfl⟩
    clear hB hT
    refine c_seq (fun K7 hK7 => ?_)
    refine c_seq (fun K8 hK8 => ?_)
    refine c_reg ?_ -- region 4 text.go:15
    refine wl (ro_move rfl) ?_
    refine wl (ro_cmpU (a := if r = 0 then 0 else 10 ^ (r - 1)) (b := 0) rfl rfl rfl) ?_
    refine wl_nil (x_then (hK8 _ _ ?_))
    clear hK8 K8
    refine wc_cond rfl (fun hc15 => ?_) (fun hc15 => ?_)
    · try simp only [decide_eq_true_eq, decide_eq_false_iff_not, Bool.not_eq_true', Bool.not_eq_false', Bool.not_eq_eq_eq_not, Bool.not_true, Bool.not_false, beq_iff_eq, bne_iff_ne, ne_eq, beq_eq_false_iff_ne, bne_eq_false_iff_eq, gt_iff_lt, ge_iff_le, Int.not_lt, Int.not_le] at hc15
      obtain ⟨j, rfl⟩ : ∃ j, r = j + 1 := by
        cases r with
        | zero => simp at hc15
        | succ j => exact ⟨j, rfl⟩
      have hjp : 0 < 10 ^ j := Nat.pow_pos (by decide)
      have hjs : (if j + 1 = 0 then 0 else 10 ^ (j + 1 - 1)) = 10 ^ j := by rw [if_neg (by omega)]; rfl
      rw [hjs]
      rw [if_neg (by omega), show j + 1 - 1 = j by omega] at hWd
      have hvj : v / 10 ^ j < 10 := by rw [Nat.div_lt_iff_lt_mul hjp, Nat.mul_comm, ← Nat.pow_succ]; exact hv
      have hv64 : W64 v := by unfold W64; omega
      have hTW : T.length + W.length + 1 ≤ 24 := by omega
      have hlay : layT j v = UInt8.ofNat (48 + v / 10 ^ j) :: (if j = 0 then [] else layT (j - 1) (v % 10 ^ j)) := by
        cases j with
        | zero => simp [layT]; rw [Nat.mod_eq_of_lt (by simpa using hv)]
        | succ i =>
          rw [if_neg (by omega)]
          show UInt8.ofNat (48 + v / 10 ^ (i + 1) % 10) :: layT i v = _
          rw [Nat.mod_eq_of_lt hvj, show i + 1 - 1 = i by omega, layT_mod i v (i + 1) (by omega)]
      refine c_skip (x_then (hK7 _ _ ?_))
      clear hK7 K7
      refine c_block ?_
      refine forget [(0, _), (1, _), (2, _), (7, _)] ⟨rfl, rfl, rfl, rfl, trivial⟩ (fun e => ?_)
      refine c_seq (fun K9 hK9 => ?_)
      refine c_reg ?_ -- region 5 text.go:16
      refine wl (ro_move rfl) ?_
      refine wl (ro_move rfl) ?_
      refine wl (ro_move rfl) ?_
      refine wl (ro_move rfl) ?_
      refine wl (ro_quoU (a := v) (b := 10 ^ j) rfl rfl hjp hv64) ?_
      refine wl (ro_addU (a := 48) (b := v / 10 ^ j) rfl rfl (by unfold W64; omega)) ?_
      refine wl (ro_toU8 (m := 48 + v / 10 ^ j) rfl sc_117 in_5 (by omega)) ?_
      refine wl (ro_indexAddr (et := 5) (k := 1) rfl rfl se_70 (rfl) ((by rw [List.length_append]; omega))) ?_
      refine wl_put rfl rfl rfl sz_5 hB1 ((by rw [List.length_append]; omega)) (rfl) (fun w1 hB1 F1 => ?_)
      skip
      refine wl_nil (x_then (hK9 _ _ ?_))
      clear hK9 K9
      refine forget [(0, _), (1, _), (2, _), (7, _)] ⟨rfl, rfl, rfl, rfl, trivial⟩ (fun e => ?_)
      refine c_seq (fun K10 hK10 => ?_)
      refine c_reg ?_ -- region 6 text.go:17
      refine wl (ro_move rfl) ?_
      refine wl (ro_arith (k := .i64) (a := ((T ++ W).length : Int)) (r := (((T ++ W).length + 1 : Nat) : Int)) rfl rfl (by show some (((T ++ W).length : Int) + 1) = _; congr 1) (Go.IntWalk.i64_in _ (by rw [List.length_append]; omega))) ?_
      refine wl (ro_assign rfl) ?_
      refine wl_nil (x_then (hK10 _ _ ?_))
      clear hK10 K10
      refine forget [(0, _), (1, _), (2, _), (7, _)] ⟨rfl, rfl, rfl, rfl, trivial⟩ (fun e => ?_)
      refine c_seq (fun K11 hK11 => ?_)
      refine c_reg ?_ -- region 7 text.go:18
      refine wl (ro_move rfl) ?_
      refine wl (ro_move rfl) ?_
      refine wl (ro_remU (a := v) (b := 10 ^ j) rfl rfl hjp) ?_
      refine wl (ro_assign rfl) ?_
      refine wl_nil (x_then (hK11 _ _ ?_))
      clear hK11 K11
      refine c_reg ?_ -- region 8 text.go:19
      refine wl (ro_move rfl) ?_
      refine wl (ro_quoU (a := 10 ^ j) (b := 10) rfl rfl (by omega) (by unfold W64; have := ge_pow (n := j) (k := 19) (by omega); omega)) ?_
      refine wl (ro_assign rfl) ?_
      refine wl_nil (x_blk (x_then ?_))
      refine ⟨j, by omega, j, v % 10 ^ j, W ++ [UInt8.ofNat (48 + v / 10 ^ j)], _, rfl, by omega, by simp; omega, Nat.le_trans (Nat.mod_le _ _) hvu, Nat.mod_lt _ hjp, ?_, ?_, ?_, hB1, hF1.thenO F1 (.inl rfl), kp _ ⟨rfl, ?_, rfl, ?_, trivial⟩⟩
      · rw [← hWd, hlay]; simp
      · rw [List.length_set]; exact hl1
      · rw [← List.append_assoc, show (T ++ W ++ [UInt8.ofNat (48 + v / 10 ^ j)]).length = 0 + (T ++ W).length * 1 + 1 by simp [Nat.add_assoc], take_set_succ _ _ _ (by rw [hl1, List.length_append]; omega), show 0 + (T ++ W).length * 1 = (T ++ W).length by omega, hT1, List.map_append (l₁ := T ++ W)]
        rfl
      · show some (Value.int .i64 (((T ++ W).length + 1 : Nat) : Int)) = some (i64c (T ++ (W ++ [UInt8.ofNat (48 + v / 10 ^ j)])).length)
        rw [show (T ++ (W ++ [UInt8.ofNat (48 + v / 10 ^ j)])).length = (T ++ W).length + 1 by simp [Nat.add_assoc]]
        rfl
      · cases j with
        | zero => rfl
        | succ i =>
          rw [if_neg (by omega), show i + 1 - 1 = i by omega]
          have : 10 ^ (i + 1) / 10 = 10 ^ i := by rw [Nat.pow_succ]; exact Nat.mul_div_cancel _ (by decide)
          rw [← this]; rfl
    · try simp only [decide_eq_true_eq, decide_eq_false_iff_not, Bool.not_eq_true', Bool.not_eq_false', Bool.not_eq_eq_eq_not, Bool.not_true, Bool.not_false, beq_iff_eq, bne_iff_ne, ne_eq, beq_eq_false_iff_ne, bne_eq_false_iff_eq, gt_iff_lt, ge_iff_le, Int.not_lt, Int.not_le] at hc15
      have hr0 : r = 0 := by
        cases r with
        | zero => rfl
        | succ j =>
          rw [if_neg (by omega)] at hc15
          have : 0 < 10 ^ (j + 1 - 1) := Nat.pow_pos (by decide)
          omega
      subst hr0
      rw [if_pos rfl, List.append_nil] at hWd
      subst hWd
      refine c_exit (x_thenX (x_thenX (x_blkX (x_then (hK6 _ _ ?_)))))
      clear hK7 K7 hK6 K6
      refine forget [(1, _)] ⟨rfl, trivial⟩ (fun e => ?_)
      refine c_seq (fun K12 hK12 => ?_)
      refine c_reg ?_ -- region 9 text.go:21
      refine wl (ro_move rfl) ?_
      refine wl (ro_assign rfl) ?_
      refine wl_nil (x_then (hK12 _ _ ?_))
      clear hK12 K12
      refine c_ret ?_
      refine bp_ret Tryz.results301 rfl ?_
      exact ⟨rfl, ⟨l1, hB1, hl1, hT1⟩, hF1⟩
end Go.Proofs.Qxb6500568aGreatDoor
