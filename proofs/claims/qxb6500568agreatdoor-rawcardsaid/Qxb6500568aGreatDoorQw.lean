import Derived.Test.Qxb6500568aGreatDoorTs
/- The law: Raw. -/
namespace Go.Proofs.Qxb6500568aGreatDoor
open Ieee
set_option linter.unusedVariables false
set_option linter.unusedSimpArgs false
set_option linter.unusedSectionVars false

set_option maxHeartbeats 8000000 in
theorem Raw3 {w : World} {s : Str} {fuel : Int} (hG : GV w (o9n w.heap.size)) (hfu : fuel < 9223372036854775808) : Ret Tryz.prog 3 [S s, icv fuel] w (fun r w' => r = .bool true ∧ Fram none' w w') := by
  have hF : Fram none' w w := Fram.refl _ _
  cases hp : prsV s with
  | inl x =>
    obtain ⟨e, p⟩ := x
    refine ret_of Tryz.func3 rfl Tryz.ntmps3 rfl ?_
    refine c_seq (fun K1 hK1 => ?_)
    refine c_reg ?_ -- region 0 law.go:88
    refine wl (ro_assign rfl) ?_
    refine wl_nil (x_then (hK1 _ _ ?_))
    clear hK1 K1
    refine c_seq (fun K2 hK2 => ?_)
    refine c_seq (fun K3 hK3 => ?_)
    refine c_reg ?_ -- region 1 law.go:89
    refine wl (ro_move rfl) ?_
    refine wl (ro_lenS rfl st_9) ?_
    refine wl (ro_cmp rfl rfl rfl) ?_
    refine wl_nil (x_then (hK3 _ _ ?_))
    clear hK3 K3
    refine wc_cond rfl (fun hc14 => ?_) (fun hc14 => ?_)
    · try simp only [decide_eq_true_eq, decide_eq_false_iff_not, Bool.not_eq_true', Bool.not_eq_false', Bool.not_eq_eq_eq_not, Bool.not_true, Bool.not_false, beq_iff_eq, bne_iff_ne, ne_eq, beq_eq_false_iff_ne, bne_eq_false_iff_eq, gt_iff_lt, ge_iff_le, Int.not_lt, Int.not_le] at hc14
      have h14 := hc14
      refine c_seq (fun K4 hK4 => ?_)
      refine c_reg ?_ -- region 2 law.go:90
      refine wl (ro_assign rfl) ?_
      refine wl_nil (x_then (hK4 _ _ ?_))
      clear hK4 K4
      refine c_ret (x_thenR ?_)
      refine bp_ret Tryz.results3 rfl ?_
      exact ⟨rfl, hF⟩
    · try simp only [decide_eq_true_eq, decide_eq_false_iff_not, Bool.not_eq_true', Bool.not_eq_false', Bool.not_eq_eq_eq_not, Bool.not_true, Bool.not_false, beq_iff_eq, bne_iff_ne, ne_eq, beq_eq_false_iff_ne, bne_eq_false_iff_eq, gt_iff_lt, ge_iff_le, Int.not_lt, Int.not_le] at hc14
      refine c_skip (x_then (hK2 _ _ ?_))
      clear hK2 K2
      refine forget [(0, _), (1, _)] ⟨rfl, rfl, trivial⟩ (fun e => ?_)
      refine c_seq (fun K5 hK5 => ?_)
      refine c_reg ?_ -- region 3 law.go:92
      refine wl_call rfl en_5 (TEn.new (n0 := w.heap.size) (Nat.le_refl _)) ?_
      rintro _ w1 ⟨cb, rfl, hX, F1⟩
      have e1 := F1.size
      refine wl (ro_assign rfl) ?_
      refine wl_nil (x_then (hK5 _ _ ?_))
      clear hK5 K5
      refine forget [(0, _), (1, _), (5, _)] ⟨rfl, rfl, rfl, trivial⟩ (fun e => ?_)
      refine c_seq (fun K6 hK6 => ?_)
      refine c_reg ?_ -- region 4 law.go:93
      refine wl_call rfl en_6 (MEn.new) ?_
      rintro _ w2 ⟨mc, rfl, hM, F2⟩
      have e2 := F2.size
      have hX2 := (hX.own (O' := fun b => w.heap.size ≤ b ∧ b < w1.heap.size) (fun b hb q ↦ ⟨q, hb⟩)).far F2 (fun _ _ _ q ↦ q)
      have hM2 := hM.own (O' := fun b => w1.heap.size ≤ b ∧ b < w2.heap.size) (fun b hb q ↦ ⟨q, hb⟩)
      have hG2 : GV w2 (o9n w.heap.size) := (hG.farN F1).farN F2
      have hx : Ret Tryz.prog 22 [ptr cb, S s, icv fuel] w2 (fun r u1 => RunR s fuel.toNat r ∧ ∀ v, Fram none' u1 v → Ret Tryz.prog 23 [ptr mc, S s, icv fuel] v (fun r w' => RunR s fuel.toNat r ∧ Fram (fun b => b < u1.heap.size) v w' ∧ Fram (fun b => w.heap.size ≤ b) w2 w')) := by
        refine (hX2.run (s := s) (by omega) hG2 hfu).mono ?_
        rintro r u1 ⟨hr, f1, -⟩
        refine ⟨hr, fun v fv => ?_⟩
        have z1 := f1.size
        refine ((((hM2.far f1 (fun b _ q z => by have z : w.heap.size ≤ b ∧ b < w1.heap.size := z; omega)).far fv (fun _ _ _ q => q))).run (s := s) hfu).mono ?_
        rintro r w' ⟨hr, f2, -⟩
        exact ⟨hr, f2.mono (fun b _ q => by have q : w1.heap.size ≤ b ∧ b < w2.heap.size := q; show b < u1.heap.size; omega), ((f1.mono (fun b _ q => q.1)).trans' fv (fun _ _ q => q.elim)).trans' f2 (fun b _ q => by have q : w1.heap.size ≤ b ∧ b < w2.heap.size := q; show w.heap.size ≤ b; omega)⟩
      refine wl (ro_assign rfl) ?_
      refine wl_nil (x_then (hK6 _ _ ?_))
      clear hK6 K6
      refine c_seq (fun K7 hK7 => ?_)
      refine c_seq (fun K8 hK8 => ?_)
      refine c_reg ?_ -- region 5 law.go:94
      refine wl (ro_move rfl) ?_
      refine wl (ro_move rfl) ?_
      refine wl (ro_move rfl) ?_
      refine wl (ro_move rfl) ?_
      refine wl_call rfl en_7 (ran7c (s := s) hx) ?_
      rintro _ w3 ⟨rfl, u3, hQ3, F3⟩
      have hF3 : Fram none' w w3 := ((F1.trans F2).trans' hQ3 (fun x hx (q : w.heap.size ≤ x) ↦ by omega)).trans F3
      have e3 := hF3.size
      have hG3 : GV w3 (o9n w.heap.size) := hG.farN hF3
      refine wl (ro_not rfl) ?_
      refine wl_nil (x_then (hK8 _ _ ?_))
      clear hK8 K8
      refine wc_condF rfl ?_
      refine c_skip (x_then (hK7 _ _ ?_))
      clear hK7 K7
      refine forget [(0, _), (1, _)] ⟨rfl, rfl, trivial⟩ (fun e => ?_)
      refine c_seq (fun K9 hK9 => ?_)
      refine c_reg ?_ -- region 7 law.go:97
      refine wl_call rfl en_5 (TEn.new (n0 := w.heap.size) e3) ?_
      rintro _ w4 ⟨cc, rfl, hU, F4⟩
      have e4 := F4.size
      refine wl (ro_assign rfl) ?_
      refine wl_nil (x_then (hK9 _ _ ?_))
      clear hK9 K9
      refine forget [(0, _), (1, _), (7, _)] ⟨rfl, rfl, rfl, trivial⟩ (fun e => ?_)
      refine c_seq (fun K10 hK10 => ?_)
      refine c_reg ?_ -- region 8 law.go:98
      refine wl (ro_move rfl) ?_
      refine wl (ro_move rfl) ?_
      refine wl_call rfl en_8 (imaged8c (s := s) (Q := fun u ↦ Fram (fun b ↦ w3.heap.size ≤ b) w4 u) ((hU.img (s := s) (by omega) (hG3.farN F4)).mono (fun r u q ↦ ⟨q.1, q.2.1⟩))) ?_
      rintro r5 w5 ⟨hr5, u5, hQ5, F5⟩
      obtain rfl : r5 = .tuple #[S [], .bool false, .bool true] := by
        rcases hr5 with ⟨_, _, _, q⟩ | ⟨t, k, q, _⟩
        · exact q
        · rw [hp] at q; cases q
      replace hF := ((hF3.trans F4).trans' hQ5 (fun x hx (q : w3.heap.size ≤ x) ↦ by omega)).trans F5
      refine wl (ro_move rfl) ?_
      refine wl (ro_extract rfl rfl) ?_
      refine wl (ro_extract rfl rfl) ?_
      refine wl (ro_extract rfl rfl) ?_
      refine wl (ro_assign rfl) ?_
      refine wl (ro_assign rfl) ?_
      refine wl (ro_assign rfl) ?_
      refine wl_nil (x_then (hK10 _ _ ?_))
      clear hK10 K10
      refine c_seq (fun K11 hK11 => ?_)
      refine c_seq (fun K12 hK12 => ?_)
      refine c_reg ?_ -- region 9 law.go:99
      refine wl (ro_move rfl) ?_
      refine wl (ro_not rfl) ?_
      refine wl (ro_move rfl) ?_
      refine wlg_yes rfl (ro_move rfl) ?_
      refine wlg_yes rfl (ro_not rfl) ?_
      refine wl (ro_pick rfl rfl rfl) ?_
      refine wl_nil (x_then (hK12 _ _ ?_))
      clear hK12 K12
      refine wc_condT rfl ?_
      refine c_seq (fun K13 hK13 => ?_)
      refine c_reg ?_ -- region 10 law.go:100
      refine wl (ro_move rfl) ?_
      refine wl (ro_assign rfl) ?_
      refine wl_nil (x_then (hK13 _ _ ?_))
      clear hK13 K13
      refine c_ret (x_thenR ?_)
      refine bp_ret Tryz.results3 rfl ?_
      exact ⟨rfl, hF⟩
  | inr x =>
    obtain ⟨t, k⟩ := x
    refine ret_of Tryz.func3 rfl Tryz.ntmps3 rfl ?_
    refine c_seq (fun K1 hK1 => ?_)
    refine c_reg ?_ -- region 0 law.go:88
    refine wl (ro_assign rfl) ?_
    refine wl_nil (x_then (hK1 _ _ ?_))
    clear hK1 K1
    refine c_seq (fun K2 hK2 => ?_)
    refine c_seq (fun K3 hK3 => ?_)
    refine c_reg ?_ -- region 1 law.go:89
    refine wl (ro_move rfl) ?_
    refine wl (ro_lenS rfl st_9) ?_
    refine wl (ro_cmp rfl rfl rfl) ?_
    refine wl_nil (x_then (hK3 _ _ ?_))
    clear hK3 K3
    refine wc_cond rfl (fun hc14 => ?_) (fun hc14 => ?_)
    · try simp only [decide_eq_true_eq, decide_eq_false_iff_not, Bool.not_eq_true', Bool.not_eq_false', Bool.not_eq_eq_eq_not, Bool.not_true, Bool.not_false, beq_iff_eq, bne_iff_ne, ne_eq, beq_eq_false_iff_ne, bne_eq_false_iff_eq, gt_iff_lt, ge_iff_le, Int.not_lt, Int.not_le] at hc14
      have h14 := hc14
      refine c_seq (fun K4 hK4 => ?_)
      refine c_reg ?_ -- region 2 law.go:90
      refine wl (ro_assign rfl) ?_
      refine wl_nil (x_then (hK4 _ _ ?_))
      clear hK4 K4
      refine c_ret (x_thenR ?_)
      refine bp_ret Tryz.results3 rfl ?_
      exact ⟨rfl, hF⟩
    · try simp only [decide_eq_true_eq, decide_eq_false_iff_not, Bool.not_eq_true', Bool.not_eq_false', Bool.not_eq_eq_eq_not, Bool.not_true, Bool.not_false, beq_iff_eq, bne_iff_ne, ne_eq, beq_eq_false_iff_ne, bne_eq_false_iff_eq, gt_iff_lt, ge_iff_le, Int.not_lt, Int.not_le] at hc14
      refine c_skip (x_then (hK2 _ _ ?_))
      clear hK2 K2
      refine forget [(0, _), (1, _)] ⟨rfl, rfl, trivial⟩ (fun e => ?_)
      refine c_seq (fun K5 hK5 => ?_)
      refine c_reg ?_ -- region 3 law.go:92
      refine wl_call rfl en_5 (TEn.new (n0 := w.heap.size) (Nat.le_refl _)) ?_
      rintro _ w1 ⟨cb, rfl, hX, F1⟩
      have e1 := F1.size
      refine wl (ro_assign rfl) ?_
      refine wl_nil (x_then (hK5 _ _ ?_))
      clear hK5 K5
      refine forget [(0, _), (1, _), (5, _)] ⟨rfl, rfl, rfl, trivial⟩ (fun e => ?_)
      refine c_seq (fun K6 hK6 => ?_)
      refine c_reg ?_ -- region 4 law.go:93
      refine wl_call rfl en_6 (MEn.new) ?_
      rintro _ w2 ⟨mc, rfl, hM, F2⟩
      have e2 := F2.size
      have hX2 := (hX.own (O' := fun b => w.heap.size ≤ b ∧ b < w1.heap.size) (fun b hb q ↦ ⟨q, hb⟩)).far F2 (fun _ _ _ q ↦ q)
      have hM2 := hM.own (O' := fun b => w1.heap.size ≤ b ∧ b < w2.heap.size) (fun b hb q ↦ ⟨q, hb⟩)
      have hG2 : GV w2 (o9n w.heap.size) := (hG.farN F1).farN F2
      have hx : Ret Tryz.prog 22 [ptr cb, S s, icv fuel] w2 (fun r u1 => RunR s fuel.toNat r ∧ ∀ v, Fram none' u1 v → Ret Tryz.prog 23 [ptr mc, S s, icv fuel] v (fun r w' => RunR s fuel.toNat r ∧ Fram (fun b => b < u1.heap.size) v w' ∧ Fram (fun b => w.heap.size ≤ b) w2 w')) := by
        refine (hX2.run (s := s) (by omega) hG2 hfu).mono ?_
        rintro r u1 ⟨hr, f1, -⟩
        refine ⟨hr, fun v fv => ?_⟩
        have z1 := f1.size
        refine ((((hM2.far f1 (fun b _ q z => by have z : w.heap.size ≤ b ∧ b < w1.heap.size := z; omega)).far fv (fun _ _ _ q => q))).run (s := s) hfu).mono ?_
        rintro r w' ⟨hr, f2, -⟩
        exact ⟨hr, f2.mono (fun b _ q => by have q : w1.heap.size ≤ b ∧ b < w2.heap.size := q; show b < u1.heap.size; omega), ((f1.mono (fun b _ q => q.1)).trans' fv (fun _ _ q => q.elim)).trans' f2 (fun b _ q => by have q : w1.heap.size ≤ b ∧ b < w2.heap.size := q; show w.heap.size ≤ b; omega)⟩
      refine wl (ro_assign rfl) ?_
      refine wl_nil (x_then (hK6 _ _ ?_))
      clear hK6 K6
      refine c_seq (fun K7 hK7 => ?_)
      refine c_seq (fun K8 hK8 => ?_)
      refine c_reg ?_ -- region 5 law.go:94
      refine wl (ro_move rfl) ?_
      refine wl (ro_move rfl) ?_
      refine wl (ro_move rfl) ?_
      refine wl (ro_move rfl) ?_
      refine wl_call rfl en_7 (ran7c (s := s) hx) ?_
      rintro _ w3 ⟨rfl, u3, hQ3, F3⟩
      have hF3 : Fram none' w w3 := ((F1.trans F2).trans' hQ3 (fun x hx (q : w.heap.size ≤ x) ↦ by omega)).trans F3
      have e3 := hF3.size
      have hG3 : GV w3 (o9n w.heap.size) := hG.farN hF3
      refine wl (ro_not rfl) ?_
      refine wl_nil (x_then (hK8 _ _ ?_))
      clear hK8 K8
      refine wc_condF rfl ?_
      refine c_skip (x_then (hK7 _ _ ?_))
      clear hK7 K7
      refine forget [(0, _), (1, _)] ⟨rfl, rfl, trivial⟩ (fun e => ?_)
      refine c_seq (fun K9 hK9 => ?_)
      refine c_reg ?_ -- region 7 law.go:97
      refine wl_call rfl en_5 (TEn.new (n0 := w.heap.size) e3) ?_
      rintro _ w4 ⟨cc, rfl, hU, F4⟩
      have e4 := F4.size
      refine wl (ro_assign rfl) ?_
      refine wl_nil (x_then (hK9 _ _ ?_))
      clear hK9 K9
      refine forget [(0, _), (1, _), (7, _)] ⟨rfl, rfl, rfl, trivial⟩ (fun e => ?_)
      refine c_seq (fun K10 hK10 => ?_)
      refine c_reg ?_ -- region 8 law.go:98
      refine wl (ro_move rfl) ?_
      refine wl (ro_move rfl) ?_
      refine wl_call rfl en_8 (imaged8c (s := s) (Q := fun u ↦ Fram (fun b ↦ w3.heap.size ≤ b) w4 u) ((hU.img (s := s) (by omega) (hG3.farN F4)).mono (fun r u q ↦ ⟨q.1, q.2.1⟩))) ?_
      rintro r5 w5 ⟨hr5, u5, hQ5, F5⟩
      obtain rfl : r5 = .tuple #[S (img (progF t (k + 1))), .bool true, .bool true] := by
        rcases hr5 with ⟨_, _, q, _⟩ | ⟨t', k', q, q2⟩
        · rw [hp] at q; cases q
        · rw [hp] at q; cases q; exact q2
      replace hF := ((hF3.trans F4).trans' hQ5 (fun x hx (q : w3.heap.size ≤ x) ↦ by omega)).trans F5
      refine wl (ro_move rfl) ?_
      refine wl (ro_extract rfl rfl) ?_
      refine wl (ro_extract rfl rfl) ?_
      refine wl (ro_extract rfl rfl) ?_
      refine wl (ro_assign rfl) ?_
      refine wl (ro_assign rfl) ?_
      refine wl (ro_assign rfl) ?_
      refine wl_nil (x_then (hK10 _ _ ?_))
      clear hK10 K10
      refine c_seq (fun K11 hK11 => ?_)
      refine c_seq (fun K12 hK12 => ?_)
      refine c_reg ?_ -- region 9 law.go:99
      refine wl (ro_move rfl) ?_
      refine wl (ro_not rfl) ?_
      refine wl (ro_move rfl) ?_
      refine wlg_yes rfl (ro_move rfl) ?_
      refine wlg_yes rfl (ro_not rfl) ?_
      refine wl (ro_pick rfl rfl rfl) ?_
      refine wl_nil (x_then (hK12 _ _ ?_))
      clear hK12 K12
      refine wc_condF rfl ?_
      refine c_skip (x_then (hK11 _ _ ?_))
      clear hK11 K11
      refine forget [(0, _), (1, _), (8, _)] ⟨rfl, rfl, rfl, trivial⟩ (fun e => ?_)
      refine c_seq (fun K13 hK13 => ?_)
      refine c_reg ?_ -- region 11 law.go:102
      refine wl_call rfl en_9 (DEn.new) ?_
      rintro _ w6 ⟨d2, rfl, hD, F6⟩
      refine wl (ro_assign rfl) ?_
      refine wl_nil (x_then (hK13 _ _ ?_))
      clear hK13 K13
      refine forget [(0, _), (1, _), (8, _), (11, _)] ⟨rfl, rfl, rfl, rfl, trivial⟩ (fun e => ?_)
      refine c_seq (fun K14 hK14 => ?_)
      refine c_reg ?_ -- region 12 law.go:103
      refine wl (ro_move rfl) ?_
      refine wl (ro_move rfl) ?_
      refine wl (ro_move rfl) ?_
      refine wl (ro_move rfl) ?_
      refine wl_call rfl en_10 (executed10c (s := s) (Q := fun u ↦ Fram (fun b ↦ w5.heap.size ≤ b) w6 u) hfu ((hD.run hp hfu).mono (fun r u q ↦ ⟨q.1, q.2.1⟩))) ?_
      rintro _ w7 ⟨rfl, u7, hQ7, F7⟩
      have e6 := hF.size
      replace hF := ((hF.trans F6).trans' hQ7 (fun x hx (q : w5.heap.size ≤ x) ↦ by omega)).trans F7
      refine wl (ro_assign rfl) ?_
      refine wl_nil (x_then (hK14 _ _ ?_))
      clear hK14 K14
      refine c_ret ?_
      refine bp_ret Tryz.results3 rfl ?_
      exact ⟨rfl, hF⟩
end Go.Proofs.Qxb6500568aGreatDoor
