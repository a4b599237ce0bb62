import Derived.Test.Qxb6500567aGreatNc
/- The finder's own check. -/
namespace Go.Proofs.Qxb6500567aGreat
set_option linter.unusedVariables false
set_option linter.unusedSimpArgs false

theorem pick45 {w : World} {c : Int} {n : Nat} (hn : 0 < n) (h1 : -9223372036854775808 ≤ c) (h2 : c ≤ 9223372036854775807) : Ret Tryz.prog 45 [.int .i64 c, i64c n] w (fun r w' => (∃ i, r = i64c i ∧ i < n) ∧ w' = w) := by
  have hrem : ∀ x : Int, 0 ≤ x → ∃ i : Nat, x.tmod (n : Int) = (i : Int) ∧ i < n := by
    intro x hx
    refine ⟨(x.tmod (n : Int)).toNat, ?_, ?_⟩
    · have := Int.tmod_nonneg (n : Int) hx; omega
    · have := Int.tmod_lt_of_pos x (show (0 : Int) < n by omega); have := Int.tmod_nonneg (n : Int) hx; omega
  refine ret_of Tryz.func45 rfl Tryz.ntmps45 rfl ?_
  refine c_seq (fun K1 hK1 => ?_)
  refine c_reg ?_ -- region 0 law.go:52
  refine wl (ro_assign rfl) ?_
  refine wl_nil (x_then (hK1 _ _ ?_))
  clear hK1 K1
  refine c_seq (fun K2 hK2 => ?_)
  refine c_seq (fun K3 hK3 => ?_)
  refine c_reg ?_ -- region 1 law.go:53
  refine wl (ro_move rfl) ?_
  refine wl (ro_cmp rfl rfl rfl) ?_
  refine wl_nil (x_then (hK3 _ _ ?_))
  clear hK3 K3
  refine wc_cond rfl (fun hc6 => ?_) (fun hc6 => ?_)
  · try simp only [decide_eq_true_eq, decide_eq_false_iff_not, Bool.not_eq_true', Bool.not_eq_false', Bool.not_eq_eq_eq_not, Bool.not_true, Bool.not_false, beq_iff_eq, bne_iff_ne, ne_eq, beq_eq_false_iff_ne, bne_eq_false_iff_eq, gt_iff_lt, ge_iff_le, Int.not_lt, Int.not_le] at hc6
    obtain ⟨i, hi, hin⟩ := hrem (-(c + 1)) (by omega)
    refine c_reg ?_ -- region 2 law.go:54
    refine wl (ro_move rfl) ?_
    refine wl (ro_arith rfl rfl rfl (Go.IntWalk.i64_in _ (by omega))) ?_
    refine wl (ro_neg rfl (⟨by omega, by omega⟩)) ?_
    refine wl (ro_assign rfl) ?_
    refine wl_nil (x_then (hK2 _ _ ?_))
    clear hK2 K2
    refine forget [(0, _), (1, _)] ⟨rfl, rfl, trivial⟩ (fun e => ?_)
    refine c_seq (fun K4 hK4 => ?_)
    refine c_reg ?_ -- region 3 law.go:56
    refine wl (ro_move rfl) ?_
    refine wl (ro_move rfl) ?_
    refine wl (ro_rem rfl rfl (by omega)) ?_
    refine wl (ro_assign rfl) ?_
    refine wl_nil (x_then (hK4 _ _ ?_))
    clear hK4 K4
    refine c_ret ?_
    refine bp_ret Tryz.results45 rfl ?_
    exact ⟨⟨i, by simp only [i64c]; rw [← hi], hin⟩, rfl⟩
  · try simp only [decide_eq_true_eq, decide_eq_false_iff_not, Bool.not_eq_true', Bool.not_eq_false', Bool.not_eq_eq_eq_not, Bool.not_true, Bool.not_false, beq_iff_eq, bne_iff_ne, ne_eq, beq_eq_false_iff_ne, bne_eq_false_iff_eq, gt_iff_lt, ge_iff_le, Int.not_lt, Int.not_le] at hc6
    obtain ⟨i, hi, hin⟩ := hrem c (by omega)
    refine c_skip (x_then (hK2 _ _ ?_))
    clear hK2 K2
    refine forget [(0, _), (1, _)] ⟨rfl, rfl, trivial⟩ (fun e => ?_)
    refine c_seq (fun K5 hK5 => ?_)
    refine c_reg ?_ -- region 3 law.go:56
    refine wl (ro_move rfl) ?_
    refine wl (ro_move rfl) ?_
    refine wl (ro_rem rfl rfl (by omega)) ?_
    refine wl (ro_assign rfl) ?_
    refine wl_nil (x_then (hK5 _ _ ?_))
    clear hK5 K5
    refine c_ret ?_
    refine bp_ret Tryz.results45 rfl ?_
    exact ⟨⟨i, by simp only [i64c]; rw [← hi], hin⟩, rfl⟩

theorem pieceFine56 {w : World} {p : PC} (hp : (p.g = -1 ∧ p.lo < p.hi ∧ p.hi ≤ 32) ∨ (0 ≤ p.g ∧ p.g ≤ 3 ∧ p.lo = 0 ∧ p.hi = 0)) : Ret Tryz.prog 56 [.agg (pcc p).toArray] w (fun v w' => v = .bool true ∧ Fram none' w w') := by
  have hF : Fram none' w w := Fram.refl _ _
  refine ret_of Tryz.func56 rfl Tryz.ntmps56 rfl ?_
  refine c_seq (fun K1 hK1 => ?_)
  refine c_reg ?_ -- region 0 check.go:6
  refine wl_box (cs := (pcc p)) rfl rfl (fun pb w1 hbpb hB F1 => ?_)
  have hbspb := Nat.le_trans hF.size hbpb
  replace hF := hF.thenDrew.thenN F1
  refine wl (ro_assign rfl) ?_
  refine wl_nil (x_then (hK1 _ _ ?_))
  clear hK1 K1
  refine c_seq (fun K2 hK2 => ?_)
  refine c_seq (fun K3 hK3 => ?_)
  rcases hp with ⟨hg, h1, h2⟩ | ⟨hg1, hg2, h1, h2⟩
  · skip
    refine c_reg ?_ -- region 1 check.go:7
    refine wl (ro_fieldAddr (k := 2) rfl fo_146_2) ?_
    refine wl (ro_loadB rfl sc_3 (hB) (rfl)) ?_
    refine wl (ro_cmp (r := true) rfl rfl (congrArg some (decide_eq_true (by omega)))) ?_
    refine wl_nil (x_then (hK3 _ _ ?_))
    clear hK3 K3
    refine wc_condT rfl ?_
    refine c_seq (fun K4 hK4 => ?_)
    refine c_reg ?_ -- region 2 check.go:8
    refine wl (ro_fieldAddr (k := 2) rfl fo_146_2) ?_
    refine wl (ro_loadB rfl sc_3 (hB) (rfl)) ?_
    refine wl (ro_cmp (r := true) rfl rfl (congrArg some (by simp [hg]))) ?_
    refine wl (ro_move rfl) ?_
    refine wlg_yes rfl (ro_fieldAddr (k := 0) rfl fo_146_0) ?_
    refine wlg_yes rfl (ro_loadB rfl sc_3 (hB) (rfl)) ?_
    refine wlg_yes rfl (ro_cmp (r := true) rfl rfl (congrArg some (decide_eq_true (by omega)))) ?_
    refine wl (ro_pick rfl rfl rfl) ?_
    refine wl (ro_move rfl) ?_
    refine wlg_yes rfl (ro_fieldAddr (k := 0) rfl fo_146_0) ?_
    refine wlg_yes rfl (ro_loadB rfl sc_3 (hB) (rfl)) ?_
    refine wlg_yes rfl (ro_fieldAddr (k := 1) rfl fo_146_1) ?_
    refine wlg_yes rfl (ro_loadB rfl sc_3 (hB) (rfl)) ?_
    refine wlg_yes rfl (ro_cmp (r := true) rfl rfl (congrArg some (decide_eq_true (by omega)))) ?_
    refine wl (ro_pick rfl rfl rfl) ?_
    refine wl (ro_move rfl) ?_
    refine wlg_yes rfl (ro_fieldAddr (k := 1) rfl fo_146_1) ?_
    refine wlg_yes rfl (ro_loadB rfl sc_3 (hB) (rfl)) ?_
    refine wlg_yes rfl (ro_cmp (r := true) rfl rfl (congrArg some (decide_eq_true (by omega)))) ?_
    refine wl (ro_pick rfl rfl rfl) ?_
    refine wl (ro_assign rfl) ?_
    refine wl_nil (x_then (hK4 _ _ ?_))
    clear hK4 K4
    refine c_ret (x_thenR ?_)
    refine bp_ret Tryz.results56 rfl ?_
    exact ⟨rfl, hF⟩
  · skip
    refine c_reg ?_ -- region 1 check.go:7
    refine wl (ro_fieldAddr (k := 2) rfl fo_146_2) ?_
    refine wl (ro_loadB rfl sc_3 (hB) (rfl)) ?_
    refine wl (ro_cmp (r := false) rfl rfl (congrArg some (decide_eq_false (by omega)))) ?_
    refine wl_nil (x_then (hK3 _ _ ?_))
    clear hK3 K3
    refine wc_condF rfl ?_
    refine c_skip (x_then (hK2 _ _ ?_))
    clear hK2 K2
    refine forget [(1, _)] ⟨rfl, trivial⟩ (fun e => ?_)
    refine c_seq (fun K5 hK5 => ?_)
    refine c_reg ?_ -- region 3 check.go:10
    refine wl (ro_fieldAddr (k := 2) rfl fo_146_2) ?_
    refine wl (ro_loadB rfl sc_3 (hB) (rfl)) ?_
    refine wl (ro_cmp (r := true) rfl rfl (congrArg some (decide_eq_true (by omega)))) ?_
    refine wl (ro_move rfl) ?_
    refine wlg_yes rfl (ro_fieldAddr (k := 0) rfl fo_146_0) ?_
    refine wlg_yes rfl (ro_loadB rfl sc_3 (hB) (rfl)) ?_
    refine wlg_yes rfl (ro_cmp (r := true) rfl rfl (congrArg some (by simp [h1]))) ?_
    refine wl (ro_pick rfl rfl rfl) ?_
    refine wl (ro_move rfl) ?_
    refine wlg_yes rfl (ro_fieldAddr (k := 1) rfl fo_146_1) ?_
    refine wlg_yes rfl (ro_loadB rfl sc_3 (hB) (rfl)) ?_
    refine wlg_yes rfl (ro_cmp (r := true) rfl rfl (congrArg some (by simp [h2]))) ?_
    refine wl (ro_pick rfl rfl rfl) ?_
    refine wl (ro_assign rfl) ?_
    refine wl_nil (x_then (hK5 _ _ ?_))
    clear hK5 K5
    refine c_ret ?_
    refine bp_ret Tryz.results56 rfl ?_
    exact ⟨rfl, hF⟩

set_option maxHeartbeats 4000000 in
theorem Check46 {w : World} {F : FK} {cn : Nat} (V : FRV w F cn) : Ret Tryz.prog 46 [ptr F.fb] w (fun v w' => v = .bool true ∧ Fram none' w w') := by
  have hF : Fram none' w w := Fram.refl _ _
  obtain ⟨L, P, sf, pf, hV⟩ := V
  have hln := hV.ln
  obtain ⟨hB, hX, hP, hsv, hpv, -, ⟨n, hn, hch⟩, hpk, hpn⟩ := hV
  refine ret_of Tryz.func46 rfl Tryz.ntmps46 rfl ?_
  refine c_seq (fun K1 hK1 => ?_)
  refine c_reg ?_ -- region 0 check.go:15
  refine wl (ro_assign rfl) ?_
  refine wl_nil (x_then (hK1 _ _ ?_))
  clear hK1 K1
  refine c_seq (fun K2 hK2 => ?_)
  refine c_seq (fun K3 hK3 => ?_)
  refine c_reg ?_ -- region 1 check.go:16
  refine wl (ro_move rfl) ?_
  refine wl (ro_nilCheck rfl) ?_
  refine wl (ro_fieldAddr (k := 0) rfl fo_120_0) ?_
  refine wl (ro_loadB rfl sc_50 (hB) (rfl)) ?_
  refine wl (ro_eqPtrNil (r := false) rfl pt_50 rfl) ?_
  refine wl (ro_move rfl) ?_
  refine wlg_yes rfl (ro_move rfl) ?_
  refine wlg_yes rfl (ro_nilCheck rfl) ?_
  refine wlg_yes rfl (ro_fieldAddr (k := 1) rfl fo_120_1) ?_
  refine wlg_yes rfl (ro_loadB rfl sc_27 (hB) (rfl)) ?_
  refine wlg_yes rfl (ro_lenL rfl se_27) ?_
  refine wlg_yes rfl (ro_cmp (r := false) rfl rfl rfl) ?_
  refine wl (ro_pick rfl rfl rfl) ?_
  refine wl (ro_move rfl) ?_
  refine wlg_yes rfl (ro_move rfl) ?_
  refine wlg_yes rfl (ro_nilCheck rfl) ?_
  refine wlg_yes rfl (ro_fieldAddr (k := 3) rfl fo_120_3) ?_
  refine wlg_yes rfl (ro_loadB rfl sc_118 (hB) (rfl)) ?_
  refine wlg_yes rfl (ro_lenL rfl se_118) ?_
  refine wlg_yes rfl (ro_cmp (r := false) rfl rfl rfl) ?_
  refine wl (ro_pick rfl rfl rfl) ?_
  refine wl_nil (x_then (hK3 _ _ ?_))
  clear hK3 K3
  refine wc_condF rfl ?_
  refine c_skip (x_then (hK2 _ _ ?_))
  clear hK2 K2
  refine c_seq (fun K4 hK4 => ?_)
  refine c_seq (fun K5 hK5 => ?_)
  refine c_reg ?_ -- region 3 check.go:19
  refine wl (ro_move rfl) ?_
  refine wl (ro_nilCheck rfl) ?_
  refine wl (ro_fieldAddr (k := 2) rfl fo_120_2) ?_
  refine wl (ro_loadB rfl sc_3 (hB) (rfl)) ?_
  refine wl (ro_cmp (r := false) rfl rfl (congrArg some (decide_eq_false (by omega)))) ?_
  refine wl (ro_move rfl) ?_
  refine wlg_yes rfl (ro_move rfl) ?_
  refine wlg_yes rfl (ro_nilCheck rfl) ?_
  refine wlg_yes rfl (ro_fieldAddr (k := 2) rfl fo_120_2) ?_
  refine wlg_yes rfl (ro_loadB rfl sc_3 (hB) (rfl)) ?_
  refine wlg_yes rfl (ro_cmp (r := false) rfl rfl (congrArg some (decide_eq_false (by omega)))) ?_
  refine wl (ro_pick rfl rfl rfl) ?_
  refine wl (ro_move rfl) ?_
  refine wlg_yes rfl (ro_move rfl) ?_
  refine wlg_yes rfl (ro_nilCheck rfl) ?_
  refine wlg_yes rfl (ro_fieldAddr (k := 4) rfl fo_120_4) ?_
  refine wlg_yes rfl (ro_loadB rfl sc_3 (hB) (rfl)) ?_
  refine wlg_yes rfl (ro_cmp (r := false) rfl rfl (congrArg some (decide_eq_false (by omega)))) ?_
  refine wl (ro_pick rfl rfl rfl) ?_
  refine wl (ro_move rfl) ?_
  refine wlg_yes rfl (ro_move rfl) ?_
  refine wlg_yes rfl (ro_nilCheck rfl) ?_
  refine wlg_yes rfl (ro_fieldAddr (k := 4) rfl fo_120_4) ?_
  refine wlg_yes rfl (ro_loadB rfl sc_3 (hB) (rfl)) ?_
  refine wlg_yes rfl (ro_cmp (r := false) rfl rfl (congrArg some (decide_eq_false (by omega)))) ?_
  refine wl (ro_pick rfl rfl rfl) ?_
  refine wl_nil (x_then (hK5 _ _ ?_))
  clear hK5 K5
  refine wc_condF rfl ?_
  refine c_skip (x_then (hK4 _ _ ?_))
  clear hK4 K4
  refine forget [(0, _)] ⟨rfl, trivial⟩ (fun e => ?_)
  refine c_seq (fun K6 hK6 => ?_)
  refine c_reg ?_ -- region 5 check.go:22
  refine wl (ro_assign rfl) ?_
  refine wl_nil (x_then (hK6 _ _ ?_))
  clear hK6 K6
  refine c_seq (fun K7 hK7 => ?_)
  refine c_seq (fun K8 hK8 => ?_)
  refine c_reg ?_ -- region 6 check.go:23
  refine wl (ro_assign rfl) ?_
  refine wl_nil (x_then (hK8 _ _ ?_))
  clear hK8 K8
  refine c_block ?_
  -- loop@r7: live slots [0, 3, 4]
  refine c_loopG (fun m a' w' => ∃ (k j : Nat), m = L.length - k ∧ k ≤ L.length ∧ j ≤ 257 ∧ ChainOK n j (L.drop k) ∧ Blk w'.heap F.fb (fcl F L.length P.length) 120 ∧ FB w'.heap F.xs 2056 sf 55 ∧ FB w'.heap F.ps 96 pf 146 ∧ Fram none' w w' ∧ ∃ e, a' = Fr 161 (upds e [(0, ptr F.fb), (3, i64c j), (4, i64c k)]) []) L.length ⟨0, 0, rfl, by omega, by omega, hch, hB, hX, hP, hF, kp _ ⟨rfl, rfl, rfl, trivial⟩⟩ ?_
  clear hB hX hP hF
  rintro m a' w1 ⟨k, j, rfl, hk, hj, hck, hB, hX, hP, hF, e, rfl⟩
  refine c_seq (fun K9 hK9 => ?_)
  refine c_seq (fun K10 hK10 => ?_)
  refine c_reg ?_ -- region 7 check.go:23
  refine wl (ro_move rfl) ?_
  refine wl (ro_move rfl) ?_
  refine wl (ro_nilCheck rfl) ?_
  refine wl (ro_fieldAddr (k := 2) rfl fo_120_2) ?_
  refine wl (ro_loadB rfl sc_3 (hB) (rfl)) ?_
  refine wl (ro_cmp (r := decide (k < L.length)) rfl rfl (congrArg some (decide_eq_decide.2 (by omega)))) ?_
  refine wl_nil (x_then (hK10 _ _ ?_))
  clear hK10 K10
  refine wc_cond rfl (fun hc61 => ?_) (fun hc61 => ?_)
  · try simp only [decide_eq_true_eq, decide_eq_false_iff_not, Bool.not_eq_true', Bool.not_eq_false', Bool.not_eq_eq_eq_not, Bool.not_true, Bool.not_false, beq_iff_eq, bne_iff_ne, ne_eq, beq_eq_false_iff_ne, bne_eq_false_iff_eq, gt_iff_lt, ge_iff_le, Int.not_lt, Int.not_le] at hc61
    obtain ⟨c, hc⟩ : ∃ c, L[k]? = some c := ⟨_, List.getElem?_eq_getElem hc61⟩
    rw [drop_consA hc] at hck
    obtain ⟨hm, hck⟩ := hck
    obtain ⟨hg0, hg1⟩ := caps_get hm
    obtain ⟨-, -, hk2, hk3, hk4, hk5, hk6⟩ := hm.cap
    refine c_skip (x_then (hK9 _ _ ?_))
    clear hK9 K9
    refine forget [(0, _), (3, _), (4, _)] ⟨rfl, rfl, rfl, trivial⟩ (fun e => ?_)
    refine c_seq (fun K11 hK11 => ?_)
    refine c_block ?_
    refine c_seq (fun K12 hK12 => ?_)
    refine c_reg ?_ -- region 9 check.go:24
    refine wl (ro_move rfl) ?_
    refine wl (ro_nilCheck rfl) ?_
    refine wl (ro_fieldAddr (k := 1) rfl fo_120_1) ?_
    refine wl (ro_loadB rfl sc_27 (hB) (rfl)) ?_
    refine wl (ro_move rfl) ?_
    refine wl (ro_indexAddr (et := 55) (k := 8) rfl rfl se_27 (rfl) ((by omega : k < 257))) ?_
    refine wl (ro_indexAddrA (et := 3) (k := 1) rfl rfl ar_55 ((show (0 : Int) = ((0 : Nat) : Int) from rfl)) ((by omega : 0 < 8))) ?_
    refine wl (ro_loadB rfl sc_3 (hX) (cel_at (k := k * 8 + 0) (by omega) (by omega) ((hsv k c hc 0 (by omega)).trans (congrArg icv hg0)))) ?_
    refine wl (ro_assign rfl) ?_
    refine wl_nil (x_then (hK12 _ _ ?_))
    clear hK12 K12
    refine forget [(0, _), (3, _), (4, _), (5, _)] ⟨rfl, rfl, rfl, rfl, trivial⟩ (fun e => ?_)
    refine c_seq (fun K13 hK13 => ?_)
    refine c_reg ?_ -- region 10 check.go:25
    refine wl (ro_move rfl) ?_
    refine wl (ro_nilCheck rfl) ?_
    refine wl (ro_fieldAddr (k := 1) rfl fo_120_1) ?_
    refine wl (ro_loadB rfl sc_27 (hB) (rfl)) ?_
    refine wl (ro_move rfl) ?_
    refine wl (ro_indexAddr (et := 55) (k := 8) rfl rfl se_27 (rfl) ((by omega : k < 257))) ?_
    refine wl (ro_indexAddrA (et := 3) (k := 1) rfl rfl ar_55 ((show (1 : Int) = ((1 : Nat) : Int) from rfl)) ((by omega : 1 < 8))) ?_
    refine wl (ro_loadB rfl sc_3 (hX) (cel_at (k := k * 8 + 1) (by omega) (by omega) ((hsv k c hc 1 (by omega)).trans (congrArg icv hg1)))) ?_
    refine wl (ro_assign rfl) ?_
    refine wl_nil (x_then (hK13 _ _ ?_))
    clear hK13 K13
    refine c_seq (fun K14 hK14 => ?_)
    refine c_seq (fun K15 hK15 => ?_)
    refine c_reg ?_ -- region 11 check.go:26
    refine wl (ro_move rfl) ?_
    refine wl (ro_move rfl) ?_
    refine wl (ro_cmp (r := false) rfl rfl (congrArg some (decide_eq_false (by omega)))) ?_
    refine wl (ro_move rfl) ?_
    refine wlg_yes rfl (ro_move rfl) ?_
    refine wlg_yes rfl (ro_move rfl) ?_
    refine wlg_yes rfl (ro_cmp (r := false) rfl rfl (congrArg some (decide_eq_false (by omega)))) ?_
    refine wl (ro_pick rfl rfl rfl) ?_
    refine wl (ro_move rfl) ?_
    refine wlg_yes rfl (ro_move rfl) ?_
    refine wlg_yes rfl (ro_cmp (r := false) rfl rfl (congrArg some (decide_eq_false (by omega)))) ?_
    refine wl (ro_pick rfl rfl rfl) ?_
    refine wl_nil (x_then (hK15 _ _ ?_))
    clear hK15 K15
    refine wc_condF rfl ?_
    refine c_skip (x_then (hK14 _ _ ?_))
    clear hK14 K14
    refine forget [(0, _), (4, _), (5, _), (6, _), (84, _), (85, _), (86, _), (89, _), (90, _)] ⟨rfl, rfl, rfl, rfl, rfl, rfl, rfl, rfl, rfl, trivial⟩ (fun e => ?_)
    refine c_seq (fun K16 hK16 => ?_)
    refine c_reg ?_ -- region 13 check.go:29
    refine wl (ro_move rfl) ?_
    refine wl (ro_assign rfl) ?_
    refine wl_nil (x_then (hK16 _ _ ?_))
    clear hK16 K16
    refine forget [(0, _), (3, _), (4, _), (5, _), (6, _), (84, _), (85, _), (86, _), (89, _), (90, _)] ⟨rfl, rfl, rfl, rfl, rfl, rfl, rfl, rfl, rfl, rfl, trivial⟩ (fun e => ?_)
    refine c_seq (fun K17 hK17 => ?_)
    refine c_reg ?_ -- region 14 check.go:30
    refine wl (ro_move rfl) ?_
    refine wl (ro_move rfl) ?_
    refine wl (ro_cmp (r := decide (capB c = capE c)) rfl rfl (congrArg some (beqc _ _))) ?_
    refine wl_nil (x_then (hK17 _ _ ?_))
    clear hK17 K17
    refine wc_cond rfl (fun hc95 => ?_) (fun hc95 => ?_)
    · try simp only [decide_eq_true_eq, decide_eq_false_iff_not, Bool.not_eq_true', Bool.not_eq_false', Bool.not_eq_eq_eq_not, Bool.not_true, Bool.not_false, beq_iff_eq, bne_iff_ne, ne_eq, beq_eq_false_iff_ne, bne_eq_false_iff_eq, gt_iff_lt, ge_iff_le, Int.not_lt, Int.not_le] at hc95
      have hnf : nextF c = capE c + 1 := by unfold nextF; rw [if_pos hc95.symm]
      refine c_reg ?_ -- region 15 check.go:31
      refine wl (ro_move rfl) ?_
      refine wl (ro_arith (r := ((capE c + 1 : Nat) : Int)) rfl rfl rfl (Go.IntWalk.i64_in _ (by omega))) ?_
      refine wl (ro_assign rfl) ?_
      refine wl_nil (x_blk (x_then (hK11 _ _ ?_)))
      clear hK11 K11
      refine c_reg ?_ -- region 8 check.go:23
      refine wl (ro_move rfl) ?_
      refine wl (ro_arith rfl rfl rfl (Go.IntWalk.i64_in _ (by omega))) ?_
      refine wl (ro_assign rfl) ?_
      refine wl_nil (x_then ?_)
      exact ⟨L.length - (k + 1), by omega, k + 1, nextF c, rfl, by omega, by omega, hck, hB, hX, hP, hF, kp _ ⟨rfl, by rw [hnf]; rfl, rfl, trivial⟩⟩
    · try simp only [decide_eq_true_eq, decide_eq_false_iff_not, Bool.not_eq_true', Bool.not_eq_false', Bool.not_eq_eq_eq_not, Bool.not_true, Bool.not_false, beq_iff_eq, bne_iff_ne, ne_eq, beq_eq_false_iff_ne, bne_eq_false_iff_eq, gt_iff_lt, ge_iff_le, Int.not_lt, Int.not_le] at hc95
      have hnf : nextF c = capE c := by unfold nextF; rw [if_neg (fun h => hc95 h.symm)]
      refine c_skip (x_blk (x_then (hK11 _ _ ?_)))
      clear hK11 K11
      refine c_reg ?_ -- region 8 check.go:23
      refine wl (ro_move rfl) ?_
      refine wl (ro_arith rfl rfl rfl (Go.IntWalk.i64_in _ (by omega))) ?_
      refine wl (ro_assign rfl) ?_
      refine wl_nil (x_then ?_)
      exact ⟨L.length - (k + 1), by omega, k + 1, nextF c, rfl, by omega, by omega, hck, hB, hX, hP, hF, kp _ ⟨rfl, by rw [hnf]; rfl, rfl, trivial⟩⟩
  · try simp only [decide_eq_true_eq, decide_eq_false_iff_not, Bool.not_eq_true', Bool.not_eq_false', Bool.not_eq_eq_eq_not, Bool.not_true, Bool.not_false, beq_iff_eq, bne_iff_ne, ne_eq, beq_eq_false_iff_ne, bne_eq_false_iff_eq, gt_iff_lt, ge_iff_le, Int.not_lt, Int.not_le] at hc61
    refine c_exit (x_thenX (x_thenX (x_blkX (x_then (hK7 _ _ ?_)))))
    clear hK9 K9 hK7 K7
    refine c_seq (fun K18 hK18 => ?_)
    refine c_seq (fun K19 hK19 => ?_)
    refine c_reg ?_ -- region 16 check.go:34
    refine wl (ro_assign rfl) ?_
    refine wl_nil (x_then (hK19 _ _ ?_))
    clear hK19 K19
    refine c_block ?_
    -- loop@r17: live slots [0, 7]
    refine c_loopG (fun m a' w' => ∃ (k : Nat), m = P.length - k ∧ k ≤ P.length ∧ Blk w'.heap F.fb (fcl F L.length P.length) 120 ∧ FB w'.heap F.xs 2056 sf 55 ∧ FB w'.heap F.ps 96 pf 146 ∧ Fram none' w w' ∧ ∃ e, a' = Fr 161 (upds e [(0, ptr F.fb), (7, i64c k)]) []) P.length ⟨0, rfl, by omega, hB, hX, hP, hF, kp _ ⟨rfl, rfl, trivial⟩⟩ ?_
    clear hB hX hP hF
    rintro m a' w2 ⟨k, rfl, hk, hB, hX, hP, hF, e, rfl⟩
    refine c_seq (fun K20 hK20 => ?_)
    refine c_seq (fun K21 hK21 => ?_)
    refine c_reg ?_ -- region 17 check.go:34
    refine wl (ro_move rfl) ?_
    refine wl (ro_move rfl) ?_
    refine wl (ro_nilCheck rfl) ?_
    refine wl (ro_fieldAddr (k := 4) rfl fo_120_4) ?_
    refine wl (ro_loadB rfl sc_3 (hB) (rfl)) ?_
    refine wl (ro_cmp (r := decide (k < P.length)) rfl rfl (congrArg some (decide_eq_decide.2 (by omega)))) ?_
    refine wl_nil (x_then (hK21 _ _ ?_))
    clear hK21 K21
    refine wc_cond rfl (fun hc103 => ?_) (fun hc103 => ?_)
    · try simp only [decide_eq_true_eq, decide_eq_false_iff_not, Bool.not_eq_true', Bool.not_eq_false', Bool.not_eq_eq_eq_not, Bool.not_true, Bool.not_false, beq_iff_eq, bne_iff_ne, ne_eq, beq_eq_false_iff_ne, bne_eq_false_iff_eq, gt_iff_lt, ge_iff_le, Int.not_lt, Int.not_le] at hc103
      obtain ⟨p, hp⟩ : ∃ p, P[k]? = some p := ⟨_, List.getElem?_eq_getElem hc103⟩
      have hprow := hpv.row hp (by omega)
      obtain ⟨hv1, hv2, hv3⟩ := hpv k p hp
      refine c_skip (x_then (hK20 _ _ ?_))
      clear hK20 K20
      refine forget [(0, _), (7, _)] ⟨rfl, rfl, trivial⟩ (fun e => ?_)
      refine c_seq (fun K22 hK22 => ?_)
      refine c_block ?_
      refine c_seq (fun K23 hK23 => ?_)
      refine c_reg ?_ -- region 19 check.go:35
      refine wl (ro_move rfl) ?_
      refine wl (ro_nilCheck rfl) ?_
      refine wl (ro_fieldAddr (k := 3) rfl fo_120_3) ?_
      refine wl (ro_loadB rfl sc_118 (hB) (rfl)) ?_
      refine wl (ro_move rfl) ?_
      refine wl (ro_indexAddr (et := 146) (k := 3) rfl rfl se_118 (rfl) ((by omega : k < 32))) ?_
      refine wl (ro_loadAggB rfl ag_146 (hP) (rfl) (hprow)) ?_
      refine wl_call rfl en_56 (pieceFine56 (hpk.ok p (List.mem_of_getElem? hp))) ?_
      rintro _ w3 ⟨rfl, F3⟩
      replace hF := hF.transG F3 (by intro k hk h; simp only [one, two, none'] at h ⊢ <;> omega)
      replace hB := F3.blkF hB (by intro h; simp only [one, two, none'] at h <;> omega)
      replace hX := F3.blkF hX (by intro h; simp only [one, two, none'] at h <;> omega)
      replace hP := F3.blkF hP (by intro h; simp only [one, two, none'] at h <;> omega)
      refine wl (ro_assign rfl) ?_
      refine wl_nil (x_then (hK23 _ _ ?_))
      clear hK23 K23
      refine c_seq (fun K24 hK24 => ?_)
      refine c_seq (fun K25 hK25 => ?_)
      refine c_reg ?_ -- region 20 check.go:36
      refine wl (ro_move rfl) ?_
      refine wl (ro_not rfl) ?_
      refine wl_nil (x_then (hK25 _ _ ?_))
      clear hK25 K25
      refine wc_condF rfl ?_
      refine c_skip (x_then (hK24 _ _ ?_))
      clear hK24 K24
      refine forget [(0, _), (7, _)] ⟨rfl, rfl, trivial⟩ (fun e => ?_)
      refine c_seq (fun K26 hK26 => ?_)
      have hq : k = 0 ∨ (0 < k ∧ 0 ≤ p.g) ∨ (∃ q, 0 < k ∧ p.g < 0 ∧ P[k - 1]? = some q ∧ 0 ≤ q.g) ∨ (∃ q, 0 < k ∧ p.g < 0 ∧ P[k - 1]? = some q ∧ q.g < 0) := by
        rcases Nat.eq_zero_or_pos k with h | h
        · exact .inl h
        · obtain ⟨q, hq⟩ : ∃ q, P[k - 1]? = some q := ⟨_, List.getElem?_eq_getElem (by omega)⟩
          rcases Int.lt_or_le p.g 0 with h1 | h1
          · rcases Int.lt_or_le q.g 0 with h2 | h2
            · exact .inr (.inr (.inr ⟨q, h, h1, hq, h2⟩))
            · exact .inr (.inr (.inl ⟨q, h, h1, hq, h2⟩))
          · exact .inr (.inl ⟨h, h1⟩)
      rcases hq with h0 | ⟨h0, h1⟩ | ⟨q, h0, h1, hq, h2⟩ | ⟨q, h0, h1, hq, h2⟩
      · skip
        refine c_pi [(0, false), (1, false), (2, false), (3, false), (4, false), (5, false), (6, false), (7, false), (8, false), (9, false), (10, false), (11, false), (12, false), (13, false), (14, false), (15, false), (16, false), (17, false), (18, false), (19, false), (20, false), (21, false), (22, false), (23, false), (24, false), (25, false), (26, false), (27, false), (28, false), (29, false), (30, false), (31, false), (32, false), (33, false), (34, false), (35, false), (36, false), (37, false), (38, false), (39, false), (40, false), (41, false), (42, false), (43, false), (44, false)] (SameH _) mixed (by kernel_rfl) rfl (by kernel_rfl) (po_then (po_blk (po_then (po_then (po_blk (po_then (po_bp))))))) (sameH_now _ _) ?_ -- region 22 check.go:39
        refine pi_ro rfl (fun w hS => ro_move rfl) ?_
        refine pi_ro rfl (fun w hS => ro_cmp (r := false) rfl rfl (congrArg some (decide_eq_false (by omega)))) ?_
        refine pi_ro rfl (fun w hS => ro_move rfl) ?_
        refine pi_gno rfl rfl ?_
        refine pi_gno rfl rfl ?_
        refine pi_gno rfl rfl ?_
        refine pi_gno rfl rfl ?_
        refine pi_gno rfl rfl ?_
        refine pi_gno rfl rfl ?_
        refine pi_gno rfl rfl ?_
        refine pi_gno rfl rfl ?_
        refine pi_gno rfl rfl ?_
        refine pi_ro rfl (fun w hS => ro_pick rfl rfl rfl) ?_
        refine pi_ro rfl (fun w hS => ro_move rfl) ?_
        refine pi_gno rfl rfl ?_
        refine pi_gno rfl rfl ?_
        refine pi_gno rfl rfl ?_
        refine pi_gno rfl rfl ?_
        refine pi_gno rfl rfl ?_
        refine pi_gno rfl rfl ?_
        refine pi_gno rfl rfl ?_
        refine pi_gno rfl rfl ?_
        refine pi_gno rfl rfl ?_
        refine pi_gno rfl rfl ?_
        refine pi_ro rfl (fun w hS => ro_pick rfl rfl rfl) ?_
        refine pi_ro rfl (fun w hS => ro_move rfl) ?_
        refine pi_gno rfl rfl ?_
        refine pi_gno rfl rfl ?_
        refine pi_gno rfl rfl ?_
        refine pi_gno rfl rfl ?_
        refine pi_gno rfl rfl ?_
        refine pi_gno rfl rfl ?_
        refine pi_gno rfl rfl ?_
        refine pi_gno rfl rfl ?_
        refine pi_gno rfl rfl ?_
        refine pi_gno rfl rfl ?_
        refine pi_gno rfl rfl ?_
        refine pi_gno rfl rfl ?_
        refine pi_gno rfl rfl ?_
        refine pi_gno rfl rfl ?_
        refine pi_gno rfl rfl ?_
        refine pi_gno rfl rfl ?_
        refine pi_gno rfl rfl ?_
        refine pi_gno rfl rfl ?_
        refine pi_ro rfl (fun w hS => ro_pick rfl rfl rfl) ?_
        refine pi_nil (x_then (hK26 _ _ ?_))
        clear hK26 K26
        refine wc_condF rfl ?_
        refine c_skip (x_blk (x_then (hK22 _ _ ?_)))
        clear hK22 K22
        refine c_reg ?_ -- region 18 check.go:34
        refine wl (ro_move rfl) ?_
        refine wl (ro_arith rfl rfl rfl (Go.IntWalk.i64_in _ (by omega))) ?_
        refine wl (ro_assign rfl) ?_
        refine wl_nil (x_then ?_)
        exact ⟨P.length - (k + 1), by omega, k + 1, rfl, by omega, hB, hX, hP, hF.thenDrew, kp _ ⟨rfl, rfl, trivial⟩⟩
      · skip
        refine c_pi [(0, false), (1, false), (2, false), (3, false), (4, false), (5, false), (6, false), (7, false), (8, false), (9, false), (10, false), (11, false), (12, false), (13, false), (14, false), (15, false), (16, false), (17, false), (18, false), (19, false), (20, false), (21, false), (22, false), (23, false), (24, false), (25, false), (26, false), (27, false), (28, false), (29, false), (30, false), (31, false), (32, false), (33, false), (34, false), (35, false), (36, false), (37, false), (38, false), (39, false), (40, false), (41, false), (42, false), (43, false), (44, false)] (SameH _) mixed (by kernel_rfl) rfl (by kernel_rfl) (po_then (po_blk (po_then (po_then (po_blk (po_then (po_bp))))))) (sameH_now _ _) ?_ -- region 22 check.go:39
        refine pi_ro rfl (fun w hS => ro_move rfl) ?_
        refine pi_ro rfl (fun w hS => ro_cmp (r := true) rfl rfl (congrArg some (decide_eq_true (by omega)))) ?_
        refine pi_ro rfl (fun w hS => ro_move rfl) ?_
        refine pi_gyes rfl rfl (fun w hS => ro_move rfl) ?_
        refine pi_gyes rfl rfl (fun w hS => ro_nilCheck rfl) ?_
        refine pi_gyes rfl rfl (fun w hS => ro_fieldAddr (k := 3) rfl fo_120_3) ?_
        refine pi_gyes rfl rfl (fun w hS => ro_loadB rfl sc_118 (Blk.of_heap hB hS) (rfl)) ?_
        refine pi_gyes rfl rfl (fun w hS => ro_move rfl) ?_
        refine pi_gyes rfl rfl (fun w hS => ro_indexAddr (et := 146) (k := 3) rfl rfl se_118 (rfl) ((by omega : k < 32))) ?_
        refine pi_gyes rfl rfl (fun w hS => ro_fieldAddr (k := 2) rfl fo_146_2) ?_
        refine pi_gyes rfl rfl (fun w hS => ro_loadB rfl sc_3 (Blk.of_heap hP hS) (cel_at (k := k * 3 + 2) (by omega) (by omega) hv3)) ?_
        refine pi_gyes rfl rfl (fun w hS => ro_cmp (r := false) rfl rfl (congrArg some (decide_eq_false (by omega)))) ?_
        refine pi_ro rfl (fun w hS => ro_pick rfl rfl rfl) ?_
        refine pi_ro rfl (fun w hS => ro_move rfl) ?_
        refine pi_gno rfl rfl ?_
        refine pi_gno rfl rfl ?_
        refine pi_gno rfl rfl ?_
        refine pi_gno rfl rfl ?_
        refine pi_gno rfl rfl ?_
        refine pi_gno rfl rfl ?_
        refine pi_gno rfl rfl ?_
        refine pi_gno rfl rfl ?_
        refine pi_gno rfl rfl ?_
        refine pi_gno rfl rfl ?_
        refine pi_ro rfl (fun w hS => ro_pick rfl rfl rfl) ?_
        refine pi_ro rfl (fun w hS => ro_move rfl) ?_
        refine pi_gno rfl rfl ?_
        refine pi_gno rfl rfl ?_
        refine pi_gno rfl rfl ?_
        refine pi_gno rfl rfl ?_
        refine pi_gno rfl rfl ?_
        refine pi_gno rfl rfl ?_
        refine pi_gno rfl rfl ?_
        refine pi_gno rfl rfl ?_
        refine pi_gno rfl rfl ?_
        refine pi_gno rfl rfl ?_
        refine pi_gno rfl rfl ?_
        refine pi_gno rfl rfl ?_
        refine pi_gno rfl rfl ?_
        refine pi_gno rfl rfl ?_
        refine pi_gno rfl rfl ?_
        refine pi_gno rfl rfl ?_
        refine pi_gno rfl rfl ?_
        refine pi_gno rfl rfl ?_
        refine pi_ro rfl (fun w hS => ro_pick rfl rfl rfl) ?_
        refine pi_nil (x_then (hK26 _ _ ?_))
        clear hK26 K26
        refine wc_condF rfl ?_
        refine c_skip (x_blk (x_then (hK22 _ _ ?_)))
        clear hK22 K22
        refine c_reg ?_ -- region 18 check.go:34
        refine wl (ro_move rfl) ?_
        refine wl (ro_arith rfl rfl rfl (Go.IntWalk.i64_in _ (by omega))) ?_
        refine wl (ro_assign rfl) ?_
        refine wl_nil (x_then ?_)
        exact ⟨P.length - (k + 1), by omega, k + 1, rfl, by omega, hB, hX, hP, hF.thenDrew, kp _ ⟨rfl, rfl, trivial⟩⟩
      · skip
        obtain ⟨hu1, hu2, hu3⟩ := hpv (k - 1) q hq
        refine c_pi [(0, false), (1, false), (2, false), (3, false), (4, false), (5, false), (6, false), (7, false), (8, false), (9, false), (10, false), (11, false), (12, false), (13, false), (14, false), (15, false), (16, false), (17, false), (18, false), (19, false), (20, false), (21, false), (22, false), (23, false), (24, false), (25, false), (26, false), (27, false), (28, false), (29, false), (30, false), (31, false), (32, false), (33, false), (34, false), (35, false), (36, false), (37, false), (38, false), (39, false), (40, false), (41, false), (42, false), (43, false), (44, false)] (SameH _) mixed (by kernel_rfl) rfl (by kernel_rfl) (po_then (po_blk (po_then (po_then (po_blk (po_then (po_bp))))))) (sameH_now _ _) ?_ -- region 22 check.go:39
        refine pi_ro rfl (fun w hS => ro_move rfl) ?_
        refine pi_ro rfl (fun w hS => ro_cmp (r := true) rfl rfl (congrArg some (decide_eq_true (by omega)))) ?_
        refine pi_ro rfl (fun w hS => ro_move rfl) ?_
        refine pi_gyes rfl rfl (fun w hS => ro_move rfl) ?_
        refine pi_gyes rfl rfl (fun w hS => ro_nilCheck rfl) ?_
        refine pi_gyes rfl rfl (fun w hS => ro_fieldAddr (k := 3) rfl fo_120_3) ?_
        refine pi_gyes rfl rfl (fun w hS => ro_loadB rfl sc_118 (Blk.of_heap hB hS) (rfl)) ?_
        refine pi_gyes rfl rfl (fun w hS => ro_move rfl) ?_
        refine pi_gyes rfl rfl (fun w hS => ro_indexAddr (et := 146) (k := 3) rfl rfl se_118 (rfl) ((by omega : k < 32))) ?_
        refine pi_gyes rfl rfl (fun w hS => ro_fieldAddr (k := 2) rfl fo_146_2) ?_
        refine pi_gyes rfl rfl (fun w hS => ro_loadB rfl sc_3 (Blk.of_heap hP hS) (cel_at (k := k * 3 + 2) (by omega) (by omega) hv3)) ?_
        refine pi_gyes rfl rfl (fun w hS => ro_cmp (r := true) rfl rfl (congrArg some (decide_eq_true (by omega)))) ?_
        refine pi_ro rfl (fun w hS => ro_pick rfl rfl rfl) ?_
        refine pi_ro rfl (fun w hS => ro_move rfl) ?_
        refine pi_gyes rfl rfl (fun w hS => ro_move rfl) ?_
        refine pi_gyes rfl rfl (fun w hS => ro_nilCheck rfl) ?_
        refine pi_gyes rfl rfl (fun w hS => ro_fieldAddr (k := 3) rfl fo_120_3) ?_
        refine pi_gyes rfl rfl (fun w hS => ro_loadB rfl sc_118 (Blk.of_heap hB hS) (rfl)) ?_
        refine pi_gyes rfl rfl (fun w hS => ro_move rfl) ?_
        refine pi_gyes rfl rfl (fun w hS => ro_arith (r := ((k - 1 : Nat) : Int)) rfl rfl (congrArg some (by omega)) (Go.IntWalk.i64_in _ (by omega))) ?_
        refine pi_gyes rfl rfl (fun w hS => ro_indexAddr (et := 146) (k := 3) rfl rfl se_118 (rfl) ((by omega : k - 1 < 32))) ?_
        refine pi_gyes rfl rfl (fun w hS => ro_fieldAddr (k := 2) rfl fo_146_2) ?_
        refine pi_gyes rfl rfl (fun w hS => ro_loadB rfl sc_3 (Blk.of_heap hP hS) (cel_at (k := (k - 1) * 3 + 2) (by omega) (by omega) hu3)) ?_
        refine pi_gyes rfl rfl (fun w hS => ro_cmp (r := false) rfl rfl (congrArg some (decide_eq_false (by omega)))) ?_
        refine pi_ro rfl (fun w hS => ro_pick rfl rfl rfl) ?_
        refine pi_ro rfl (fun w hS => ro_move rfl) ?_
        refine pi_gno rfl rfl ?_
        refine pi_gno rfl rfl ?_
        refine pi_gno rfl rfl ?_
        refine pi_gno rfl rfl ?_
        refine pi_gno rfl rfl ?_
        refine pi_gno rfl rfl ?_
        refine pi_gno rfl rfl ?_
        refine pi_gno rfl rfl ?_
        refine pi_gno rfl rfl ?_
        refine pi_gno rfl rfl ?_
        refine pi_gno rfl rfl ?_
        refine pi_gno rfl rfl ?_
        refine pi_gno rfl rfl ?_
        refine pi_gno rfl rfl ?_
        refine pi_gno rfl rfl ?_
        refine pi_gno rfl rfl ?_
        refine pi_gno rfl rfl ?_
        refine pi_gno rfl rfl ?_
        refine pi_ro rfl (fun w hS => ro_pick rfl rfl rfl) ?_
        refine pi_nil (x_then (hK26 _ _ ?_))
        clear hK26 K26
        refine wc_condF rfl ?_
        refine c_skip (x_blk (x_then (hK22 _ _ ?_)))
        clear hK22 K22
        refine c_reg ?_ -- region 18 check.go:34
        refine wl (ro_move rfl) ?_
        refine wl (ro_arith rfl rfl rfl (Go.IntWalk.i64_in _ (by omega))) ?_
        refine wl (ro_assign rfl) ?_
        refine wl_nil (x_then ?_)
        exact ⟨P.length - (k + 1), by omega, k + 1, rfl, by omega, hB, hX, hP, hF.thenDrew, kp _ ⟨rfl, rfl, trivial⟩⟩
      · skip
        obtain ⟨hu1, hu2, hu3⟩ := hpv (k - 1) q hq
        have hap := hpk.ap (k - 1) q p hq (by rw [Nat.sub_add_cancel h0]; exact hp)
        refine c_pi [(0, false), (1, false), (2, false), (3, false), (4, false), (5, false), (6, false), (7, false), (8, false), (9, false), (10, false), (11, false), (12, false), (13, false), (14, false), (15, false), (16, false), (17, false), (18, false), (19, false), (20, false), (21, false), (22, false), (23, false), (24, false), (25, false), (26, false), (27, false), (28, false), (29, false), (30, false), (31, false), (32, false), (33, false), (34, false), (35, false), (36, false), (37, false), (38, false), (39, false), (40, false), (41, false), (42, false), (43, false), (44, false)] (SameH _) mixed (by kernel_rfl) rfl (by kernel_rfl) (po_then (po_blk (po_then (po_then (po_blk (po_then (po_bp))))))) (sameH_now _ _) ?_ -- region 22 check.go:39
        refine pi_ro rfl (fun w hS => ro_move rfl) ?_
        refine pi_ro rfl (fun w hS => ro_cmp (r := true) rfl rfl (congrArg some (decide_eq_true (by omega)))) ?_
        refine pi_ro rfl (fun w hS => ro_move rfl) ?_
        refine pi_gyes rfl rfl (fun w hS => ro_move rfl) ?_
        refine pi_gyes rfl rfl (fun w hS => ro_nilCheck rfl) ?_
        refine pi_gyes rfl rfl (fun w hS => ro_fieldAddr (k := 3) rfl fo_120_3) ?_
        refine pi_gyes rfl rfl (fun w hS => ro_loadB rfl sc_118 (Blk.of_heap hB hS) (rfl)) ?_
        refine pi_gyes rfl rfl (fun w hS => ro_move rfl) ?_
        refine pi_gyes rfl rfl (fun w hS => ro_indexAddr (et := 146) (k := 3) rfl rfl se_118 (rfl) ((by omega : k < 32))) ?_
        refine pi_gyes rfl rfl (fun w hS => ro_fieldAddr (k := 2) rfl fo_146_2) ?_
        refine pi_gyes rfl rfl (fun w hS => ro_loadB rfl sc_3 (Blk.of_heap hP hS) (cel_at (k := k * 3 + 2) (by omega) (by omega) hv3)) ?_
        refine pi_gyes rfl rfl (fun w hS => ro_cmp (r := true) rfl rfl (congrArg some (decide_eq_true (by omega)))) ?_
        refine pi_ro rfl (fun w hS => ro_pick rfl rfl rfl) ?_
        refine pi_ro rfl (fun w hS => ro_move rfl) ?_
        refine pi_gyes rfl rfl (fun w hS => ro_move rfl) ?_
        refine pi_gyes rfl rfl (fun w hS => ro_nilCheck rfl) ?_
        refine pi_gyes rfl rfl (fun w hS => ro_fieldAddr (k := 3) rfl fo_120_3) ?_
        refine pi_gyes rfl rfl (fun w hS => ro_loadB rfl sc_118 (Blk.of_heap hB hS) (rfl)) ?_
        refine pi_gyes rfl rfl (fun w hS => ro_move rfl) ?_
        refine pi_gyes rfl rfl (fun w hS => ro_arith (r := ((k - 1 : Nat) : Int)) rfl rfl (congrArg some (by omega)) (Go.IntWalk.i64_in _ (by omega))) ?_
        refine pi_gyes rfl rfl (fun w hS => ro_indexAddr (et := 146) (k := 3) rfl rfl se_118 (rfl) ((by omega : k - 1 < 32))) ?_
        refine pi_gyes rfl rfl (fun w hS => ro_fieldAddr (k := 2) rfl fo_146_2) ?_
        refine pi_gyes rfl rfl (fun w hS => ro_loadB rfl sc_3 (Blk.of_heap hP hS) (cel_at (k := (k - 1) * 3 + 2) (by omega) (by omega) hu3)) ?_
        refine pi_gyes rfl rfl (fun w hS => ro_cmp (r := true) rfl rfl (congrArg some (decide_eq_true (by omega)))) ?_
        refine pi_ro rfl (fun w hS => ro_pick rfl rfl rfl) ?_
        refine pi_ro rfl (fun w hS => ro_move rfl) ?_
        refine pi_gyes rfl rfl (fun w hS => ro_move rfl) ?_
        refine pi_gyes rfl rfl (fun w hS => ro_nilCheck rfl) ?_
        refine pi_gyes rfl rfl (fun w hS => ro_fieldAddr (k := 3) rfl fo_120_3) ?_
        refine pi_gyes rfl rfl (fun w hS => ro_loadB rfl sc_118 (Blk.of_heap hB hS) (rfl)) ?_
        refine pi_gyes rfl rfl (fun w hS => ro_move rfl) ?_
        refine pi_gyes rfl rfl (fun w hS => ro_arith (r := ((k - 1 : Nat) : Int)) rfl rfl (congrArg some (by omega)) (Go.IntWalk.i64_in _ (by omega))) ?_
        refine pi_gyes rfl rfl (fun w hS => ro_indexAddr (et := 146) (k := 3) rfl rfl se_118 (rfl) ((by omega : k - 1 < 32))) ?_
        refine pi_gyes rfl rfl (fun w hS => ro_fieldAddr (k := 1) rfl fo_146_1) ?_
        refine pi_gyes rfl rfl (fun w hS => ro_loadB rfl sc_3 (Blk.of_heap hP hS) (cel_at (k := (k - 1) * 3 + 1) (by omega) (by omega) hu2)) ?_
        refine pi_gyes rfl rfl (fun w hS => ro_move rfl) ?_
        refine pi_gyes rfl rfl (fun w hS => ro_nilCheck rfl) ?_
        refine pi_gyes rfl rfl (fun w hS => ro_fieldAddr (k := 3) rfl fo_120_3) ?_
        refine pi_gyes rfl rfl (fun w hS => ro_loadB rfl sc_118 (Blk.of_heap hB hS) (rfl)) ?_
        refine pi_gyes rfl rfl (fun w hS => ro_move rfl) ?_
        refine pi_gyes rfl rfl (fun w hS => ro_indexAddr (et := 146) (k := 3) rfl rfl se_118 (rfl) ((by omega : k < 32))) ?_
        refine pi_gyes rfl rfl (fun w hS => ro_fieldAddr (k := 0) rfl fo_146_0) ?_
        refine pi_gyes rfl rfl (fun w hS => ro_loadB rfl sc_3 (Blk.of_heap hP hS) (cel_at (k := k * 3 + 0) (by omega) (by omega) hv1)) ?_
        refine pi_gyes rfl rfl (fun w hS => ro_cmp (r := false) rfl rfl (congrArg some ((beqc _ _).trans (decide_eq_false (fun h => hap ⟨h2, h1, h⟩))))) ?_
        refine pi_ro rfl (fun w hS => ro_pick rfl rfl rfl) ?_
        refine pi_nil (x_then (hK26 _ _ ?_))
        clear hK26 K26
        refine wc_condF rfl ?_
        refine c_skip (x_blk (x_then (hK22 _ _ ?_)))
        clear hK22 K22
        refine c_reg ?_ -- region 18 check.go:34
        refine wl (ro_move rfl) ?_
        refine wl (ro_arith rfl rfl rfl (Go.IntWalk.i64_in _ (by omega))) ?_
        refine wl (ro_assign rfl) ?_
        refine wl_nil (x_then ?_)
        exact ⟨P.length - (k + 1), by omega, k + 1, rfl, by omega, hB, hX, hP, hF.thenDrew, kp _ ⟨rfl, rfl, trivial⟩⟩
    · try simp only [decide_eq_true_eq, decide_eq_false_iff_not, Bool.not_eq_true', Bool.not_eq_false', Bool.not_eq_eq_eq_not, Bool.not_true, Bool.not_false, beq_iff_eq, bne_iff_ne, ne_eq, beq_eq_false_iff_ne, bne_eq_false_iff_eq, gt_iff_lt, ge_iff_le, Int.not_lt, Int.not_le] at hc103
      refine c_exit (x_thenX (x_thenX (x_blkX (x_then (hK18 _ _ ?_)))))
      clear hK20 K20 hK18 K18
      refine forget [] trivial (fun e => ?_)
      refine c_seq (fun K27 hK27 => ?_)
      refine c_reg ?_ -- region 24 check.go:43
      refine wl (ro_assign rfl) ?_
      refine wl_nil (x_then (hK27 _ _ ?_))
      clear hK27 K27
      refine c_ret ?_
      refine bp_ret Tryz.results46 rfl ?_
      exact ⟨rfl, hF⟩

end Go.Proofs.Qxb6500567aGreat
