import Derived.Test.Qxb6500567aGreatFb
import Derived.Test.Qxb6500567aGreatPj
/- Sets of bytes: the walks. -/
namespace Go.Proofs.Qxb6500567aGreat
set_option linter.unusedVariables false
set_option linter.unusedSimpArgs false

abbrev w4 (g : Nat → Nat) : List Value := [u64c (g 0), u64c (g 1), u64c (g 2), u64c (g 3)]
abbrev setC (S : Nat) : List Value := w4 (wd S)
abbrev setV (S : Nat) : Value := .agg (setC S).toArray

theorem w4_get {g : Nat → Nat} {i : Nat} (hi : i < 4) : (w4 g)[i]? = some (u64c (g i)) := by
  have : i = 0 ∨ i = 1 ∨ i = 2 ∨ i = 3 := by omega
  rcases this with rfl | rfl | rfl | rfl <;> rfl
theorem w4_set {g h : Nat → Nat} {i x : Nat} (hi : i < 4) (hh : ∀ j, j < 4 → h j = if j = i then x else g j) : (w4 g).set i (u64c x) = w4 h := by
  have e0 := hh 0 (by omega)
  have e1 := hh 1 (by omega)
  have e2 := hh 2 (by omega)
  have e3 := hh 3 (by omega)
  have : i = 0 ∨ i = 1 ∨ i = 2 ∨ i = 3 := by omega
  rcases this with rfl | rfl | rfl | rfl <;> simp [w4, e0, e1, e2, e3]
theorem w4_congr {g h : Nat → Nat} (hh : ∀ j, j < 4 → h j = g j) : w4 h = w4 g := by
  simp [w4, hh 0 (by omega), hh 1 (by omega), hh 2 (by omega), hh 3 (by omega)]
theorem w4_zero : w4 (fun _ => 0) = [.int .u64 0, .int .u64 0, .int .u64 0, .int .u64 0] := rfl
theorem setC_zero : setC 0 = [.int .u64 0, .int .u64 0, .int .u64 0, .int .u64 0] := by simp [setC, w4, wd_zero, u64c]

theorem Has88 {w : World} {S : Nat} {c : UInt8} : Ret Tryz.prog 88 [setV S, u8c c] w (fun r w' => r = .bool (S.testBit c.toNat) ∧ Fram none' w w') := by
  have hc : c.toNat < 256 := c.toBitVec.isLt
  have hF : Fram none' w w := Fram.refl _ _
  refine ret_of Tryz.func88 rfl Tryz.ntmps88 rfl ?_
  refine c_seq (fun K1 hK1 => ?_)
  refine c_reg ?_ -- region 0 const.go:96
  refine wl_box (cs := (setC S)) rfl rfl (fun nb w1 hbnb hN F1 => ?_)
  have hbsnb := Nat.le_trans hF.size hbnb
  replace hF := hF.thenDrew.thenN F1
  refine wl (ro_assign rfl) ?_
  refine wl_nil (x_then (hK1 _ _ ?_))
  clear hK1 K1
  refine forget [(1, _), (2, _)] ⟨rfl, rfl, trivial⟩ (fun e => ?_)
  refine c_seq (fun K2 hK2 => ?_)
  refine c_reg ?_ -- region 1 const.go:96
  refine wl (ro_move rfl) ?_
  refine wl (ro_shrN (a := c.toNat) (b := 6) rfl rfl (by decide)) ?_
  refine wl (ro_indexAddrA (et := 85) (k := 1) rfl rfl ar_87 (rfl) ((by omega : c.toNat / 2 ^ 6 < 4))) ?_
  refine wl (ro_loadB rfl sc_85 (hN) ((by simpa using w4_get (g := wd S) (show c.toNat / 64 < 4 by omega)))) ?_
  refine wl (ro_move rfl) ?_
  refine wl (ro_and63b rfl rfl) ?_
  refine wl (ro_shrU (a := wd S (c.toNat / 64)) (b := c.toNat % 64) rfl rfl (by omega)) ?_
  refine wl (ro_andU (a := wd S (c.toNat / 64) / 2 ^ (c.toNat % 64)) (b := 1) rfl rfl (Nat.lt_of_le_of_lt (Nat.div_le_self _ _) (wd_lt _ _)) (by omega)) ?_
  refine wl (ro_cmp (r := S.testBit c.toNat) rfl rfl (by rw [← has_bit hc]; exact congrArg some (beqc _ 1))) ?_
  refine wl (ro_assign rfl) ?_
  refine wl_nil (x_then (hK2 _ _ ?_))
  clear hK2 K2
  refine c_ret ?_
  refine bp_ret Tryz.results88 rfl ?_
  exact ⟨rfl, hF⟩

theorem lt_succ_if {i j : Nat} {f g : Nat → Nat} : (if j < i + 1 then f j else g j) = if j = i then f i else if j < i then f j else g j := by
  by_cases h1 : j = i
  · subst h1; simp
  · rw [if_neg h1]
    by_cases h2 : j < i
    · rw [if_pos h2, if_pos (by omega)]
    · rw [if_neg h2, if_neg (by omega)]

theorem Not129 {w : World} {S : Nat} : Ret Tryz.prog 129 [setV S] w (fun r w' => r = setV (cpl S) ∧ Fram none' w w') := by
  have hF : Fram none' w w := Fram.refl _ _
  refine ret_of Tryz.func129 rfl Tryz.ntmps129 rfl ?_
  refine c_seq (fun K1 hK1 => ?_)
  refine c_reg ?_ -- region 0 const.go:114
  refine wl_box (cs := (setC S)) rfl rfl (fun nb w1 hbnb hB F1 => ?_)
  have hbsnb := Nat.le_trans hF.size hbnb
  replace hF := hF.thenDrew.thenN F1
  refine wl_new (ze_87) (fun mb w2 hbmb hM F2 => ?_)
  have hbsmb := Nat.le_trans hF.size hbmb
  have hnenbmb : nb < mb := Nat.lt_of_lt_of_le hB.lt hbmb
  replace hF := hF.thenDrew.thenN F2
  replace hB := F2.blkN hB
  refine wl_nil (x_then (hK1 _ _ ?_))
  clear hK1 K1
  refine c_seq (fun K2 hK2 => ?_)
  refine c_seq (fun K3 hK3 => ?_)
  refine c_reg ?_ -- region 1 const.go:115
  refine wl (ro_assign rfl) ?_
  refine wl_nil (x_then (hK3 _ _ ?_))
  clear hK3 K3
  refine c_block ?_
  -- loop@r2: live slots [1, 2, 3]
  refine c_loopG (fun m a' w' => ∃ (i : Nat), m = 4 - i ∧ i ≤ 4 ∧ Blk w'.heap nb (w4 (fun j => if j < i then wd (cpl S) j else wd S j)) 87 ∧ Blk w'.heap mb (w4 (fun _ => 0)) 87 ∧ Fram none' w w' ∧ ∃ e, a' = Fr 15 (upds e [(1, ptr nb), (2, ptr mb), (3, i64c i)]) []) 4 ⟨0, by omega, by omega, by simpa using hB, hM, hF, kp _ ⟨rfl, rfl, rfl, trivial⟩⟩ ?_
  clear hB hM hF
  rintro m a' w1 ⟨i, rfl, hi, hB, hM, hF, e, rfl⟩
  refine c_seq (fun K4 hK4 => ?_)
  refine c_seq (fun K5 hK5 => ?_)
  refine c_reg ?_ -- region 2 const.go:115
  refine wl (ro_move rfl) ?_
  refine wl (ro_cmp rfl rfl rfl) ?_
  refine wl_nil (x_then (hK5 _ _ ?_))
  clear hK5 K5
  refine wc_cond rfl (fun hc5 => ?_) (fun hc5 => ?_)
  · try simp only [decide_eq_true_eq, decide_eq_false_iff_not, Bool.not_eq_true', Bool.not_eq_false', Bool.not_eq_eq_eq_not, Bool.not_true, Bool.not_false, beq_iff_eq, bne_iff_ne, ne_eq, beq_eq_false_iff_ne, bne_eq_false_iff_eq, gt_iff_lt, ge_iff_le, Int.not_lt, Int.not_le] at hc5
    have hi4 : i < 4 := by omega
    refine c_skip (x_then (hK4 _ _ ?_))
    clear hK4 K4
    refine forget [(1, _), (2, _), (3, _)] ⟨rfl, rfl, rfl, trivial⟩ (fun e => ?_)
    refine c_seq (fun K6 hK6 => ?_)
    refine c_block ?_
    refine c_reg ?_ -- region 4 const.go:116
    refine wl (ro_move rfl) ?_
    refine wl (ro_move rfl) ?_
    refine wl (ro_indexAddrA (et := 85) (k := 1) rfl rfl ar_87 (rfl) (hi4)) ?_
    refine wl (ro_loadB rfl sc_85 (hB) ((by simpa using w4_get (g := fun j => if j < i then wd (cpl S) j else wd S j) hi4))) ?_
    refine wl (ro_xorU rfl (wd_lt _ _)) ?_
    refine wl (ro_indexAddrA (et := 85) (k := 1) rfl rfl ar_87 (rfl) (hi4)) ?_
    refine wl_put rfl rfl rfl sz_85 hB ((by simp; omega)) ((show _ = w4 (fun j ↦ if j < i + 1 then wd (cpl S) j else wd S j) by rw [show 0 + i * 1 = i by omega, ← wd_cpl hi4]; exact w4_set hi4 (fun j hj ↦ lt_succ_if))) (fun w3 hB F3 => ?_)
    replace hF := hF.thenDrew.thenO F3 (by first | exact .inr (by omega) | exact .inl rfl | exact .inl (by assumption))
    replace hM := F3.blkO hM (by omega)
    refine wl_nil (x_blk (x_then (hK6 _ _ ?_)))
    clear hK6 K6
    refine c_reg ?_ -- region 3 const.go:115
    refine wl (ro_move rfl) ?_
    refine wl (ro_arith rfl rfl rfl (Go.IntWalk.i64_in _ (by omega))) ?_
    refine wl (ro_assign rfl) ?_
    refine wl_nil (x_then ?_)
    exact ⟨4 - (i + 1), by omega, i + 1, rfl, by omega, hB, hM, hF, kp _ ⟨rfl, rfl, rfl, trivial⟩⟩
  · try simp only [decide_eq_true_eq, decide_eq_false_iff_not, Bool.not_eq_true', Bool.not_eq_false', Bool.not_eq_eq_eq_not, Bool.not_true, Bool.not_false, beq_iff_eq, bne_iff_ne, ne_eq, beq_eq_false_iff_ne, bne_eq_false_iff_eq, gt_iff_lt, ge_iff_le, Int.not_lt, Int.not_le] at hc5
    have hi4 : i = 4 := by omega
    subst hi4
    rw [w4_congr (g := wd (cpl S)) (by intro j hj; simp [hj])] at hB
    refine c_exit (x_thenX (x_thenX (x_blkX (x_then (hK2 _ _ ?_)))))
    clear hK4 K4 hK2 K2
    refine forget [(1, _), (2, _)] ⟨rfl, rfl, trivial⟩ (fun e => ?_)
    refine c_seq (fun K7 hK7 => ?_)
    refine c_reg ?_ -- region 5 const.go:118
    refine wl (ro_loadAggB rfl ag_87 (hB) rfl rfl) ?_
    refine wl_puta rfl rfl (by simp [Value.oneCell', i64c, u64c, u8c, ptr]) sz_87 (rfl) hM ((by simp)) (rfl) (fun w4 hM F4 => ?_)
    replace hF := hF.thenDrew.thenO F4 (by first | exact .inr (by omega) | exact .inl rfl | exact .inl (by assumption))
    replace hB := F4.blkO hB (by omega)
    refine wl_nil (x_then (hK7 _ _ ?_))
    clear hK7 K7
    refine c_ret ?_
    refine bq_ret (res1 Tryz.results129 (rv_c rfl ag_87 (hM) rfl)) ?_
    exact ⟨rfl, hF⟩

theorem Join140 {w : World} {S T : Nat} : Ret Tryz.prog 140 [setV S, setV T] w (fun r w' => r = setV (S ||| T) ∧ Fram none' w w') := by
  have hF : Fram none' w w := Fram.refl _ _
  refine ret_of Tryz.func140 rfl Tryz.ntmps140 rfl ?_
  refine c_seq (fun K1 hK1 => ?_)
  refine c_reg ?_ -- region 0 const.go:107
  refine wl_box (cs := (setC S)) rfl rfl (fun nb w1 hbnb hB F1 => ?_)
  have hbsnb := Nat.le_trans hF.size hbnb
  replace hF := hF.thenDrew.thenN F1
  refine wl_box (cs := (setC T)) rfl rfl (fun ab w2 hbab hA F2 => ?_)
  have hbsab := Nat.le_trans hF.size hbab
  have hnenbab : nb < ab := Nat.lt_of_lt_of_le hB.lt hbab
  replace hF := hF.thenDrew.thenN F2
  replace hB := F2.blkN hB
  refine wl_new (ze_87) (fun mb w3 hbmb hM F3 => ?_)
  have hbsmb := Nat.le_trans hF.size hbmb
  have hnenbmb : nb < mb := Nat.lt_of_lt_of_le hB.lt hbmb
  have hneabmb : ab < mb := Nat.lt_of_lt_of_le hA.lt hbmb
  replace hF := hF.thenDrew.thenN F3
  replace hB := F3.blkN hB
  replace hA := F3.blkN hA
  refine wl_nil (x_then (hK1 _ _ ?_))
  clear hK1 K1
  refine c_seq (fun K2 hK2 => ?_)
  refine c_seq (fun K3 hK3 => ?_)
  refine c_reg ?_ -- region 1 const.go:108
  refine wl (ro_assign rfl) ?_
  refine wl_nil (x_then (hK3 _ _ ?_))
  clear hK3 K3
  refine c_block ?_
  -- loop@r2: live slots [2, 3, 4, 5]
  refine c_loopG (fun m a' w' => ∃ (i : Nat), m = 4 - i ∧ i ≤ 4 ∧ Blk w'.heap nb (w4 (fun j => if j < i then wd (S ||| T) j else wd S j)) 87 ∧ Blk w'.heap ab (setC T) 87 ∧ Blk w'.heap mb (w4 (fun _ => 0)) 87 ∧ Fram none' w w' ∧ ∃ e, a' = Fr 20 (upds e [(2, ptr nb), (3, ptr ab), (4, ptr mb), (5, i64c i)]) []) 4 ⟨0, by omega, by omega, by simpa using hB, hA, hM, hF, kp _ ⟨rfl, rfl, rfl, rfl, trivial⟩⟩ ?_
  clear hB hM hF hA
  rintro m a' w1 ⟨i, rfl, hi, hB, hA, hM, hF, e, rfl⟩
  refine c_seq (fun K4 hK4 => ?_)
  refine c_seq (fun K5 hK5 => ?_)
  refine c_reg ?_ -- region 2 const.go:108
  refine wl (ro_move rfl) ?_
  refine wl (ro_cmp rfl rfl rfl) ?_
  refine wl_nil (x_then (hK5 _ _ ?_))
  clear hK5 K5
  refine wc_cond rfl (fun hc7 => ?_) (fun hc7 => ?_)
  · try simp only [decide_eq_true_eq, decide_eq_false_iff_not, Bool.not_eq_true', Bool.not_eq_false', Bool.not_eq_eq_eq_not, Bool.not_true, Bool.not_false, beq_iff_eq, bne_iff_ne, ne_eq, beq_eq_false_iff_ne, bne_eq_false_iff_eq, gt_iff_lt, ge_iff_le, Int.not_lt, Int.not_le] at hc7
    have hi4 : i < 4 := by omega
    refine c_skip (x_then (hK4 _ _ ?_))
    clear hK4 K4
    refine forget [(2, _), (3, _), (4, _), (5, _)] ⟨rfl, rfl, rfl, rfl, trivial⟩ (fun e => ?_)
    refine c_seq (fun K6 hK6 => ?_)
    refine c_block ?_
    refine c_piL 9 [(0, false), (1, false), (2, false), (3, false), (4, false), (5, false), (6, false), (7, false), (8, false)] (SameH _) mixed (by kernel_rfl) rfl (by kernel_rfl) (po_blk (po_then (po_then (po_blk (po_then (po_bp)))))) (sameH_now _ _) ?_ -- region 4 const.go:109
    refine ql_ro rfl (fun w hS => ro_move rfl) ?_
    refine ql_ro rfl (fun w hS => ro_move rfl) ?_
    refine ql_ro rfl (fun w hS => ro_indexAddrA (et := 85) (k := 1) rfl rfl ar_87 (rfl) (hi4)) ?_
    refine ql_ro rfl (fun w hS => ro_loadB rfl sc_85 (Blk.of_heap hB hS) ((by simpa using w4_get (g := fun j => if j < i then wd (S ||| T) j else wd S j) hi4))) ?_
    refine ql_ro rfl (fun w hS => ro_move rfl) ?_
    refine ql_ro rfl (fun w hS => ro_indexAddrA (et := 85) (k := 1) rfl rfl ar_87 (rfl) (hi4)) ?_
    refine ql_ro rfl (fun w hS => ro_loadB rfl sc_85 (Blk.of_heap hA hS) ((by simpa using w4_get (g := wd T) hi4))) ?_
    refine ql_ro rfl (fun w hS => ro_orU rfl rfl (wd_lt _ _) (wd_lt _ _)) ?_
    refine ql_ro rfl (fun w hS => ro_indexAddrA (et := 85) (k := 1) rfl rfl ar_87 (rfl) (hi4)) ?_
    refine ql_put rfl rfl rfl rfl sz_85 hB ((by simp; omega)) ((show _ = w4 (fun j ↦ if j < i + 1 then wd (S ||| T) j else wd S j) by rw [show 0 + i * 1 = i by omega, ← wd_or]; exact w4_set hi4 (fun j hj ↦ lt_succ_if))) (fun w4 hB F4 => ?_)
    replace hF := hF.thenDrew.thenO F4 (by first | exact .inr (by omega) | exact .inl rfl | exact .inl (by assumption))
    replace hA := F4.blkO hA (by omega)
    replace hM := F4.blkO hM (by omega)
    refine x_blk (x_then (hK6 _ _ ?_))
    clear hK6 K6
    refine c_reg ?_ -- region 3 const.go:108
    refine wl (ro_move rfl) ?_
    refine wl (ro_arith rfl rfl rfl (Go.IntWalk.i64_in _ (by omega))) ?_
    refine wl (ro_assign rfl) ?_
    refine wl_nil (x_then ?_)
    exact ⟨4 - (i + 1), by omega, i + 1, rfl, by omega, hB, hA, hM, hF, kp _ ⟨rfl, rfl, rfl, rfl, trivial⟩⟩
  · try simp only [decide_eq_true_eq, decide_eq_false_iff_not, Bool.not_eq_true', Bool.not_eq_false', Bool.not_eq_eq_eq_not, Bool.not_true, Bool.not_false, beq_iff_eq, bne_iff_ne, ne_eq, beq_eq_false_iff_ne, bne_eq_false_iff_eq, gt_iff_lt, ge_iff_le, Int.not_lt, Int.not_le] at hc7
    have hi4 : i = 4 := by omega
    subst hi4
    rw [w4_congr (g := wd (S ||| T)) (by intro j hj; simp [hj])] at hB
    refine c_exit (x_thenX (x_thenX (x_blkX (x_then (hK2 _ _ ?_)))))
    clear hK4 K4 hK2 K2
    refine forget [(2, _), (4, _)] ⟨rfl, rfl, trivial⟩ (fun e => ?_)
    refine c_seq (fun K7 hK7 => ?_)
    refine c_reg ?_ -- region 5 const.go:111
    refine wl (ro_loadAggB rfl ag_87 (hB) rfl rfl) ?_
    refine wl_puta rfl rfl (by simp [Value.oneCell', i64c, u64c, u8c, ptr]) sz_87 (rfl) hM ((by simp)) (rfl) (fun w5 hM F5 => ?_)
    replace hF := hF.thenDrew.thenO F5 (by first | exact .inr (by omega) | exact .inl rfl | exact .inl (by assumption))
    replace hB := F5.blkO hB (by omega)
    replace hA := F5.blkO hA (by omega)
    refine wl_nil (x_then (hK7 _ _ ?_))
    clear hK7 K7
    refine c_ret ?_
    refine bq_ret (res1 Tryz.results140 (rv_c rfl ag_87 (hM) rfl)) ?_
    exact ⟨rfl, hF⟩
end Go.Proofs.Qxb6500567aGreat
