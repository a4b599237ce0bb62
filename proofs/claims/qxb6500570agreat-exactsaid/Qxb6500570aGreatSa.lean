import Derived.Test.Qxb6500570aGreatRb
/- The real book: its own check. -/
namespace Go.Proofs.Qxb6500570aGreat
set_option linter.unusedVariables false
set_option linter.unusedSimpArgs false

theorem heq {b : Bool} {x y : Tx} (h : b = true ↔ x ≠ y) (hb : b = false) : x = y := Classical.byContradiction (fun q => by rw [h.2 q] at hb; cases hb)
theorem RecV.noBit {A B : Nat → Tx} {P : List Tx} {m s : Nat} (h : RecV A B P m s) (hAB : ∀ c, c < 24 → A c = B c) : m = 0 := by
  apply Nat.eq_of_testBit_eq
  intro i
  rw [Nat.zero_testBit]
  by_cases hi : i < 24
  · cases hb : m.testBit i with
    | false => rfl
    | true => exact absurd (hAB i hi) ((h.bt i hi).1 hb)
  · exact Nat.testBit_lt_two_pow (Nat.lt_of_lt_of_le h.m24 (Nat.pow_le_pow_right (by omega) (by omega)))
set_option maxHeartbeats 4000000 in
theorem checkSlot109 {w : World} {X : BB} {b u r s : Nat} {P : List Tx} {M : List Nat} {A B : Nat → Tx} {live : Bool} (hK : Blk w.heap X.k (bst X b u r) 60) (hP : Blk w.heap X.p (rws stc P) 9) (hM : Blk w.heap X.t (rws msc M) 85) (hpl : P.length = 288) (hml : M.length = 6) (hs : s < 6) (hr : RecV A B P (rF M s) s) (hlv : live = false → ∀ c, c < 24 → A c = B c) :
    Ret Tryz.prog 109 [ptr X.k, i64c s, .bool live] w (fun v w' => v = .bool true ∧ Fram none' w w') := by
  have hF : Fram none' w w := Fram.refl _ _
  have hm24 := hr.m24
  have hsh : rF M s / 2 ^ 24 = 0 := Nat.div_eq_of_lt hm24
  have hz : live = false → rF M s = 0 := fun q => hr.noBit (hlv q)
  refine ret_of Tryz.func109 rfl Tryz.ntmps109 rfl ?_
  refine c_seq (fun K1 hK1 => ?_)
  refine c_reg ?_ -- region 0 check.go:44
  refine wl (ro_assign rfl) ?_
  refine wl_nil (x_then (hK1 _ _ ?_))
  clear hK1 K1
  refine forget [(0, _), (1, _), (2, _)] ⟨rfl, rfl, rfl, trivial⟩ (fun e => ?_)
  refine c_seq (fun K2 hK2 => ?_)
  refine c_reg ?_ -- region 1 check.go:45
  refine wl (ro_move rfl) ?_
  refine wl (ro_nilCheck rfl) ?_
  refine wl (ro_fieldAddr (k := 2) rfl fo_60_2) ?_
  refine wl (ro_loadB rfl sc_57 (by assumption) rfl) ?_
  refine wl (ro_move rfl) ?_
  refine wl (ro_indexAddr (et := 85) (k := 1) rfl rfl se_57 rfl (by omega)) ?_
  refine wl (ro_loadB rfl sc_85 (hM) ((rw_get msc_len (rF_get (RL := M) (c := s) (by omega)) (j := 0) (by omega) rfl))) ?_
  refine wl (ro_assign rfl) ?_
  refine wl_nil (x_then (hK2 _ _ ?_))
  clear hK2 K2
  refine c_seq (fun K3 hK3 => ?_)
  refine c_seq (fun K4 hK4 => ?_)
  refine c_reg ?_ -- region 2 check.go:46
  refine wl (ro_move rfl) ?_
  refine wl (ro_shrN (b := 24) rfl rfl (by show 24 ≤ 32; omega)) ?_
  refine wl (ro_cmp (r := false) rfl rfl (congrArg some (by rw [hsh]; rfl))) ?_
  refine wl_nil (x_then (hK4 _ _ ?_))
  clear hK4 K4
  refine wc_condF rfl ?_
  refine c_skip (x_then (hK3 _ _ ?_))
  clear hK3 K3
  refine c_seq (fun K5 hK5 => ?_)
  refine c_seq (fun K6 hK6 => ?_)
  refine c_reg ?_ -- region 4 check.go:49
  refine wl (ro_move rfl) ?_
  refine wl (ro_not rfl) ?_
  refine wl_fork rfl (fun hg22 => ?_) (fun hg22 => ?_)
  · try simp only [decide_eq_true_eq, decide_eq_false_iff_not, Bool.not_eq_true', Bool.not_eq_false', Bool.not_eq_eq_eq_not, Bool.not_true, Bool.not_false, beq_iff_eq, bne_iff_ne, ne_eq, beq_eq_false_iff_ne, bne_eq_false_iff_eq, gt_iff_lt, ge_iff_le, Int.not_lt, Int.not_le] at hg22
    refine wlg_yes rfl (ro_move rfl) ?_
    refine wlg_yes rfl (ro_cmp (r := false) rfl rfl (congrArg some (by rw [hz (by simpa using hg22)]; rfl))) ?_
    refine wl (ro_pick rfl rfl rfl) ?_
    refine wl_nil (x_then (hK6 _ _ ?_))
    clear hK6 K6
    refine wc_condF rfl ?_
    refine c_skip (x_then (hK5 _ _ ?_))
    clear hK5 K5
    refine c_seq (fun K7 hK7 => ?_)
    refine c_seq (fun K8 hK8 => ?_)
    refine c_reg ?_ -- region 6 check.go:52
    refine wl (ro_assign rfl) ?_
    refine wl_nil (x_then (hK8 _ _ ?_))
    clear hK8 K8
    refine c_block ?_
    -- loop@r7: live slots [0, 1, 7, 8]
    refine c_loopG (fun m a' w' => ∃ i, m = 24 - i ∧ i ≤ 24 ∧ Blk w'.heap X.k (bst X b u r) 60 ∧ Blk w'.heap X.p (rws stc P) 9 ∧ Fram none' w w' ∧ ∃ e, a' = Fr 74 (upds e [(0, ptr X.k), (1, i64c s), (7, u32c (rF M s)), (8, i64c i)]) []) 24 ⟨0, rfl, by omega, hK, hP, hF, kp _ ⟨rfl, rfl, rfl, rfl, trivial⟩⟩ ?_
    clear hF hP hK hM
    rintro m a' u1 ⟨i, rfl, hi, hK, hP, hF, e, rfl⟩
    refine c_seq (fun K9 hK9 => ?_)
    refine c_seq (fun K10 hK10 => ?_)
    refine c_reg ?_ -- region 7 check.go:52
    refine wl (ro_move rfl) ?_
    refine wl (ro_cmp (r := decide (i < 24)) rfl rfl (congrArg some (decide_eq_decide.2 (by omega)))) ?_
    refine wl_nil (x_then (hK10 _ _ ?_))
    clear hK10 K10
    refine wc_cond rfl (fun hc27 => ?_) (fun hc27 => ?_)
    · try simp only [decide_eq_true_eq, decide_eq_false_iff_not, Bool.not_eq_true', Bool.not_eq_false', Bool.not_eq_eq_eq_not, Bool.not_true, Bool.not_false, beq_iff_eq, bne_iff_ne, ne_eq, beq_eq_false_iff_ne, bne_eq_false_iff_eq, gt_iff_lt, ge_iff_le, Int.not_lt, Int.not_le] at hc27
      have hpc := plc_lt hs hc27
      have hp0 := hr.p0 i hc27
      have hp1 := hr.p1 i hc27
      have hbt := hr.bt i hc27
      refine c_skip (x_then (hK9 _ _ ?_))
      clear hK9 K9
      refine forget [(0, _), (1, _), (7, _), (8, _)] ⟨rfl, rfl, rfl, rfl, trivial⟩ (fun e => ?_)
      refine c_seq (fun K11 hK11 => ?_)
      refine c_block ?_
      refine c_seq (fun K12 hK12 => ?_)
      refine c_reg ?_ -- region 9 check.go:53
      refine wl (ro_move rfl) ?_
      refine wl (ro_move rfl) ?_
      refine wl_call rfl en_65 (place65 hs hc27) ?_
      rintro _ u0 ⟨rfl, hw0⟩
      rw [hw0]
      clear hw0 u0
      refine wl (ro_assign rfl) ?_
      refine wl_nil (x_then (hK12 _ _ ?_))
      clear hK12 K12
      refine forget [(0, _), (1, _), (7, _), (8, _), (9, _)] ⟨rfl, rfl, rfl, rfl, rfl, trivial⟩ (fun e => ?_)
      refine c_seq (fun K13 hK13 => ?_)
      refine c_reg ?_ -- region 10 check.go:54
      refine wl (ro_move rfl) ?_
      refine wl (ro_move rfl) ?_
      refine wl (ro_conv rfl sc_3 in_122 (Go.IntWalk.u64_in _ (by omega))) ?_
      refine wl (ro_shrN rfl rfl (by show i ≤ 32; omega)) ?_
      refine wl (ro_and32 rfl rfl (Nat.lt_of_le_of_lt (Nat.div_le_self _ _) (by omega)) (by decide)) ?_
      refine wl (ro_cmp (r := (rF M s).testBit i) rfl rfl (congrArg some (by rw [bit1]; cases (rF M s).testBit i <;> rfl))) ?_
      refine wl_nil (x_then (hK13 _ _ ?_))
      clear hK13 K13
      refine wc_cond rfl (fun hc38 => ?_) (fun hc38 => ?_)
      · try simp only [decide_eq_true_eq, decide_eq_false_iff_not, Bool.not_eq_true', Bool.not_eq_false', Bool.not_eq_eq_eq_not, Bool.not_true, Bool.not_false, beq_iff_eq, bne_iff_ne, ne_eq, beq_eq_false_iff_ne, bne_eq_false_iff_eq, gt_iff_lt, ge_iff_le, Int.not_lt, Int.not_le] at hc38
        refine c_seq (fun K14 hK14 => ?_)
        refine c_pi [(0, false), (1, false), (2, false), (3, false), (4, false), (5, false), (6, false), (7, false), (8, false), (9, false), (10, false), (11, false), (12, false), (13, false), (14, false), (15, false)] (fun w' => Blk w'.heap X.k (bst X b u r) 60 ∧ Blk w'.heap X.p (rws stc P) 9) mixed (by kernel_rfl) rfl (by kernel_rfl) (po_then (po_blk (po_then (po_then (po_blk (po_then (po_bp))))))) (⟨hK, hP⟩) ?_ -- region 11 check.go:55
        refine pi_ro rfl (fun w hS => ro_move rfl) ?_
        refine pi_ro rfl (fun w hS => ro_nilCheck rfl) ?_
        refine pi_ro rfl (fun w hS => ro_fieldAddr (k := 1) rfl fo_60_1) ?_
        refine pi_ro rfl (fun w hS => ro_loadB rfl sc_56 (hS.1) (rfl)) ?_
        refine pi_ro rfl (fun w hS => ro_move rfl) ?_
        refine pi_ro rfl (fun w hS => ro_indexAddr (et := 9) (k := 1) rfl rfl se_56 (rfl) ((by omega))) ?_
        refine pi_ro rfl (fun w hS => ro_loadB rfl sc_9 (hS.2) ((rw_get stc_len (tF_get (T := P) (c := plc s i) (by omega)) (j := 0) (by omega) rfl))) ?_
        refine pi_ro rfl (fun w hS => ro_move rfl) ?_
        refine pi_ro rfl (fun w hS => ro_nilCheck rfl) ?_
        refine pi_ro rfl (fun w hS => ro_fieldAddr (k := 1) rfl fo_60_1) ?_
        refine pi_ro rfl (fun w hS => ro_loadB rfl sc_56 (hS.1) (rfl)) ?_
        refine pi_ro rfl (fun w hS => ro_move rfl) ?_
        refine pi_ro rfl (fun w hS => ro_arith (r := ((plc s i + 1 : Nat) : Int)) rfl rfl rfl (Go.IntWalk.i64_in _ (by omega))) ?_
        refine pi_ro rfl (fun w hS => ro_indexAddr (et := 9) (k := 1) rfl rfl se_56 (rfl) ((by omega))) ?_
        refine pi_ro rfl (fun w hS => ro_loadB rfl sc_9 (hS.2) ((rw_get stc_len (tF_get (T := P) (c := plc s i + 1) (by omega)) (j := 0) (by omega) rfl))) ?_
        refine pi_ro rfl (fun w hS => ro_eqS (l := tF P (plc s i)) (m := tF P (plc s i + 1)) (r := false) rfl rfl (congrArg some (by (have hne := hbt.1 hc38; rw [hp0, hp1, if_neg hne, if_neg hne]; simpa using hne)))) ?_
        refine pi_nil (x_then (hK14 _ _ ?_))
        clear hK14 K14
        refine wc_condF rfl ?_
        refine c_skip (x_blk (x_then (hK11 _ _ ?_)))
        clear hK11 K11
        refine c_reg ?_ -- region 8 check.go:52
        refine wl (ro_move rfl) ?_
        refine wl (ro_arith (r := ((i + 1 : Nat) : Int)) rfl rfl rfl (Go.IntWalk.i64_in _ (by omega))) ?_
        refine wl (ro_assign rfl) ?_
        refine wl_nil (x_then ?_)
        exact ⟨24 - (i + 1), by omega, i + 1, rfl, by omega, hK, hP, hF.thenDrew, kp _ ⟨rfl, rfl, rfl, rfl, trivial⟩⟩
      · try simp only [decide_eq_true_eq, decide_eq_false_iff_not, Bool.not_eq_true', Bool.not_eq_false', Bool.not_eq_eq_eq_not, Bool.not_true, Bool.not_false, beq_iff_eq, bne_iff_ne, ne_eq, beq_eq_false_iff_ne, bne_eq_false_iff_eq, gt_iff_lt, ge_iff_le, Int.not_lt, Int.not_le] at hc38
        refine c_seq (fun K15 hK15 => ?_)
        refine c_reg ?_ -- region 13 check.go:58
        refine wl (ro_move rfl) ?_
        refine wl (ro_nilCheck rfl) ?_
        refine wl (ro_fieldAddr (k := 1) rfl fo_60_1) ?_
        refine wl (ro_loadB rfl sc_56 (by assumption) rfl) ?_
        refine wl (ro_move rfl) ?_
        refine wl (ro_indexAddr (et := 9) (k := 1) rfl rfl se_56 (rfl) ((by omega))) ?_
        refine wl (ro_loadB rfl sc_9 (hP) ((rw_get stc_len (tF_get (T := P) (c := plc s i) (by omega)) (j := 0) (by omega) rfl))) ?_
        refine wl (ro_eqS (l := tF P (plc s i)) (m := []) (r := false) rfl rfl (congrArg some (by (rw [hp0, if_pos (heq hbt hc38)]; simp)))) ?_
        refine wl (ro_move rfl) ?_
        refine wlg_yes rfl (ro_move rfl) ?_
        refine wlg_yes rfl (ro_nilCheck rfl) ?_
        refine wlg_yes rfl (ro_fieldAddr (k := 1) rfl fo_60_1) ?_
        refine wlg_yes rfl (ro_loadB rfl sc_56 (by assumption) rfl) ?_
        refine wlg_yes rfl (ro_move rfl) ?_
        refine wlg_yes rfl (ro_arith (r := ((plc s i + 1 : Nat) : Int)) rfl rfl rfl (Go.IntWalk.i64_in _ (by omega))) ?_
        refine wlg_yes rfl (ro_indexAddr (et := 9) (k := 1) rfl rfl se_56 (rfl) ((by omega))) ?_
        refine wlg_yes rfl (ro_loadB rfl sc_9 (hP) ((rw_get stc_len (tF_get (T := P) (c := plc s i + 1) (by omega)) (j := 0) (by omega) rfl))) ?_
        refine wlg_yes rfl (ro_eqS (l := tF P (plc s i + 1)) (m := []) (r := false) rfl rfl (congrArg some (by (rw [hp1, if_pos (heq hbt hc38)]; simp)))) ?_
        refine wl (ro_pick rfl rfl rfl) ?_
        refine wl_nil (x_then (hK15 _ _ ?_))
        clear hK15 K15
        refine wc_condF rfl ?_
        refine c_skip (x_blk (x_then (hK11 _ _ ?_)))
        clear hK11 K11
        refine c_reg ?_ -- region 8 check.go:52
        refine wl (ro_move rfl) ?_
        refine wl (ro_arith (r := ((i + 1 : Nat) : Int)) rfl rfl rfl (Go.IntWalk.i64_in _ (by omega))) ?_
        refine wl (ro_assign rfl) ?_
        refine wl_nil (x_then ?_)
        exact ⟨24 - (i + 1), by omega, i + 1, rfl, by omega, hK, hP, hF, kp _ ⟨rfl, rfl, rfl, rfl, trivial⟩⟩
    · try simp only [decide_eq_true_eq, decide_eq_false_iff_not, Bool.not_eq_true', Bool.not_eq_false', Bool.not_eq_eq_eq_not, Bool.not_true, Bool.not_false, beq_iff_eq, bne_iff_ne, ne_eq, beq_eq_false_iff_ne, bne_eq_false_iff_eq, gt_iff_lt, ge_iff_le, Int.not_lt, Int.not_le] at hc27
      refine c_exit (x_thenX (x_thenX (x_blkX (x_then (hK7 _ _ ?_)))))
      clear hK9 K9 hK7 K7
      refine forget [] trivial (fun e => ?_)
      refine c_seq (fun K16 hK16 => ?_)
      refine c_reg ?_ -- region 15 check.go:62
      refine wl (ro_assign rfl) ?_
      refine wl_nil (x_then (hK16 _ _ ?_))
      clear hK16 K16
      refine c_ret ?_
      refine bp_ret Tryz.results109 rfl ?_
      exact ⟨rfl, hF⟩
  · try simp only [decide_eq_true_eq, decide_eq_false_iff_not, Bool.not_eq_true', Bool.not_eq_false', Bool.not_eq_eq_eq_not, Bool.not_true, Bool.not_false, beq_iff_eq, bne_iff_ne, ne_eq, beq_eq_false_iff_ne, bne_eq_false_iff_eq, gt_iff_lt, ge_iff_le, Int.not_lt, Int.not_le] at hg22
    refine wlg_no rfl ?_
    refine wlg_no rfl ?_
    refine wl (ro_pick rfl rfl rfl) ?_
    refine wl_nil (x_then (hK6 _ _ ?_))
    clear hK6 K6
    refine wc_condF rfl ?_
    refine c_skip (x_then (hK5 _ _ ?_))
    clear hK5 K5
    refine c_seq (fun K17 hK17 => ?_)
    refine c_seq (fun K18 hK18 => ?_)
    refine c_reg ?_ -- region 6 check.go:52
    refine wl (ro_assign rfl) ?_
    refine wl_nil (x_then (hK18 _ _ ?_))
    clear hK18 K18
    refine c_block ?_
    -- loop@r7: live slots [0, 1, 7, 8]
    refine c_loopG (fun m a' w' => ∃ i, m = 24 - i ∧ i ≤ 24 ∧ Blk w'.heap X.k (bst X b u r) 60 ∧ Blk w'.heap X.p (rws stc P) 9 ∧ Fram none' w w' ∧ ∃ e, a' = Fr 74 (upds e [(0, ptr X.k), (1, i64c s), (7, u32c (rF M s)), (8, i64c i)]) []) 24 ⟨0, rfl, by omega, hK, hP, hF, kp _ ⟨rfl, rfl, rfl, rfl, trivial⟩⟩ ?_
    clear hF hP hK hM
    rintro m a' u1 ⟨i, rfl, hi, hK, hP, hF, e, rfl⟩
    refine c_seq (fun K19 hK19 => ?_)
    refine c_seq (fun K20 hK20 => ?_)
    refine c_reg ?_ -- region 7 check.go:52
    refine wl (ro_move rfl) ?_
    refine wl (ro_cmp (r := decide (i < 24)) rfl rfl (congrArg some (decide_eq_decide.2 (by omega)))) ?_
    refine wl_nil (x_then (hK20 _ _ ?_))
    clear hK20 K20
    refine wc_cond rfl (fun hc27 => ?_) (fun hc27 => ?_)
    · try simp only [decide_eq_true_eq, decide_eq_false_iff_not, Bool.not_eq_true', Bool.not_eq_false', Bool.not_eq_eq_eq_not, Bool.not_true, Bool.not_false, beq_iff_eq, bne_iff_ne, ne_eq, beq_eq_false_iff_ne, bne_eq_false_iff_eq, gt_iff_lt, ge_iff_le, Int.not_lt, Int.not_le] at hc27
      have hpc := plc_lt hs hc27
      have hp0 := hr.p0 i hc27
      have hp1 := hr.p1 i hc27
      have hbt := hr.bt i hc27
      refine c_skip (x_then (hK19 _ _ ?_))
      clear hK19 K19
      refine forget [(0, _), (1, _), (7, _), (8, _)] ⟨rfl, rfl, rfl, rfl, trivial⟩ (fun e => ?_)
      refine c_seq (fun K21 hK21 => ?_)
      refine c_block ?_
      refine c_seq (fun K22 hK22 => ?_)
      refine c_reg ?_ -- region 9 check.go:53
      refine wl (ro_move rfl) ?_
      refine wl (ro_move rfl) ?_
      refine wl_call rfl en_65 (place65 hs hc27) ?_
      rintro _ u0 ⟨rfl, hw0⟩
      rw [hw0]
      clear hw0 u0
      refine wl (ro_assign rfl) ?_
      refine wl_nil (x_then (hK22 _ _ ?_))
      clear hK22 K22
      refine forget [(0, _), (1, _), (7, _), (8, _), (9, _)] ⟨rfl, rfl, rfl, rfl, rfl, trivial⟩ (fun e => ?_)
      refine c_seq (fun K23 hK23 => ?_)
      refine c_reg ?_ -- region 10 check.go:54
      refine wl (ro_move rfl) ?_
      refine wl (ro_move rfl) ?_
      refine wl (ro_conv rfl sc_3 in_122 (Go.IntWalk.u64_in _ (by omega))) ?_
      refine wl (ro_shrN rfl rfl (by show i ≤ 32; omega)) ?_
      refine wl (ro_and32 rfl rfl (Nat.lt_of_le_of_lt (Nat.div_le_self _ _) (by omega)) (by decide)) ?_
      refine wl (ro_cmp (r := (rF M s).testBit i) rfl rfl (congrArg some (by rw [bit1]; cases (rF M s).testBit i <;> rfl))) ?_
      refine wl_nil (x_then (hK23 _ _ ?_))
      clear hK23 K23
      refine wc_cond rfl (fun hc38 => ?_) (fun hc38 => ?_)
      · try simp only [decide_eq_true_eq, decide_eq_false_iff_not, Bool.not_eq_true', Bool.not_eq_false', Bool.not_eq_eq_eq_not, Bool.not_true, Bool.not_false, beq_iff_eq, bne_iff_ne, ne_eq, beq_eq_false_iff_ne, bne_eq_false_iff_eq, gt_iff_lt, ge_iff_le, Int.not_lt, Int.not_le] at hc38
        refine c_seq (fun K24 hK24 => ?_)
        refine c_pi [(0, false), (1, false), (2, false), (3, false), (4, false), (5, false), (6, false), (7, false), (8, false), (9, false), (10, false), (11, false), (12, false), (13, false), (14, false), (15, false)] (fun w' => Blk w'.heap X.k (bst X b u r) 60 ∧ Blk w'.heap X.p (rws stc P) 9) mixed (by kernel_rfl) rfl (by kernel_rfl) (po_then (po_blk (po_then (po_then (po_blk (po_then (po_bp))))))) (⟨hK, hP⟩) ?_ -- region 11 check.go:55
        refine pi_ro rfl (fun w hS => ro_move rfl) ?_
        refine pi_ro rfl (fun w hS => ro_nilCheck rfl) ?_
        refine pi_ro rfl (fun w hS => ro_fieldAddr (k := 1) rfl fo_60_1) ?_
        refine pi_ro rfl (fun w hS => ro_loadB rfl sc_56 (hS.1) (rfl)) ?_
        refine pi_ro rfl (fun w hS => ro_move rfl) ?_
        refine pi_ro rfl (fun w hS => ro_indexAddr (et := 9) (k := 1) rfl rfl se_56 (rfl) ((by omega))) ?_
        refine pi_ro rfl (fun w hS => ro_loadB rfl sc_9 (hS.2) ((rw_get stc_len (tF_get (T := P) (c := plc s i) (by omega)) (j := 0) (by omega) rfl))) ?_
        refine pi_ro rfl (fun w hS => ro_move rfl) ?_
        refine pi_ro rfl (fun w hS => ro_nilCheck rfl) ?_
        refine pi_ro rfl (fun w hS => ro_fieldAddr (k := 1) rfl fo_60_1) ?_
        refine pi_ro rfl (fun w hS => ro_loadB rfl sc_56 (hS.1) (rfl)) ?_
        refine pi_ro rfl (fun w hS => ro_move rfl) ?_
        refine pi_ro rfl (fun w hS => ro_arith (r := ((plc s i + 1 : Nat) : Int)) rfl rfl rfl (Go.IntWalk.i64_in _ (by omega))) ?_
        refine pi_ro rfl (fun w hS => ro_indexAddr (et := 9) (k := 1) rfl rfl se_56 (rfl) ((by omega))) ?_
        refine pi_ro rfl (fun w hS => ro_loadB rfl sc_9 (hS.2) ((rw_get stc_len (tF_get (T := P) (c := plc s i + 1) (by omega)) (j := 0) (by omega) rfl))) ?_
        refine pi_ro rfl (fun w hS => ro_eqS (l := tF P (plc s i)) (m := tF P (plc s i + 1)) (r := false) rfl rfl (congrArg some (by (have hne := hbt.1 hc38; rw [hp0, hp1, if_neg hne, if_neg hne]; simpa using hne)))) ?_
        refine pi_nil (x_then (hK24 _ _ ?_))
        clear hK24 K24
        refine wc_condF rfl ?_
        refine c_skip (x_blk (x_then (hK21 _ _ ?_)))
        clear hK21 K21
        refine c_reg ?_ -- region 8 check.go:52
        refine wl (ro_move rfl) ?_
        refine wl (ro_arith (r := ((i + 1 : Nat) : Int)) rfl rfl rfl (Go.IntWalk.i64_in _ (by omega))) ?_
        refine wl (ro_assign rfl) ?_
        refine wl_nil (x_then ?_)
        exact ⟨24 - (i + 1), by omega, i + 1, rfl, by omega, hK, hP, hF.thenDrew, kp _ ⟨rfl, rfl, rfl, rfl, trivial⟩⟩
      · try simp only [decide_eq_true_eq, decide_eq_false_iff_not, Bool.not_eq_true', Bool.not_eq_false', Bool.not_eq_eq_eq_not, Bool.not_true, Bool.not_false, beq_iff_eq, bne_iff_ne, ne_eq, beq_eq_false_iff_ne, bne_eq_false_iff_eq, gt_iff_lt, ge_iff_le, Int.not_lt, Int.not_le] at hc38
        refine c_seq (fun K25 hK25 => ?_)
        refine c_reg ?_ -- region 13 check.go:58
        refine wl (ro_move rfl) ?_
        refine wl (ro_nilCheck rfl) ?_
        refine wl (ro_fieldAddr (k := 1) rfl fo_60_1) ?_
        refine wl (ro_loadB rfl sc_56 (by assumption) rfl) ?_
        refine wl (ro_move rfl) ?_
        refine wl (ro_indexAddr (et := 9) (k := 1) rfl rfl se_56 (rfl) ((by omega))) ?_
        refine wl (ro_loadB rfl sc_9 (hP) ((rw_get stc_len (tF_get (T := P) (c := plc s i) (by omega)) (j := 0) (by omega) rfl))) ?_
        refine wl (ro_eqS (l := tF P (plc s i)) (m := []) (r := false) rfl rfl (congrArg some (by (rw [hp0, if_pos (heq hbt hc38)]; simp)))) ?_
        refine wl (ro_move rfl) ?_
        refine wlg_yes rfl (ro_move rfl) ?_
        refine wlg_yes rfl (ro_nilCheck rfl) ?_
        refine wlg_yes rfl (ro_fieldAddr (k := 1) rfl fo_60_1) ?_
        refine wlg_yes rfl (ro_loadB rfl sc_56 (by assumption) rfl) ?_
        refine wlg_yes rfl (ro_move rfl) ?_
        refine wlg_yes rfl (ro_arith (r := ((plc s i + 1 : Nat) : Int)) rfl rfl rfl (Go.IntWalk.i64_in _ (by omega))) ?_
        refine wlg_yes rfl (ro_indexAddr (et := 9) (k := 1) rfl rfl se_56 (rfl) ((by omega))) ?_
        refine wlg_yes rfl (ro_loadB rfl sc_9 (hP) ((rw_get stc_len (tF_get (T := P) (c := plc s i + 1) (by omega)) (j := 0) (by omega) rfl))) ?_
        refine wlg_yes rfl (ro_eqS (l := tF P (plc s i + 1)) (m := []) (r := false) rfl rfl (congrArg some (by (rw [hp1, if_pos (heq hbt hc38)]; simp)))) ?_
        refine wl (ro_pick rfl rfl rfl) ?_
        refine wl_nil (x_then (hK25 _ _ ?_))
        clear hK25 K25
        refine wc_condF rfl ?_
        refine c_skip (x_blk (x_then (hK21 _ _ ?_)))
        clear hK21 K21
        refine c_reg ?_ -- region 8 check.go:52
        refine wl (ro_move rfl) ?_
        refine wl (ro_arith (r := ((i + 1 : Nat) : Int)) rfl rfl rfl (Go.IntWalk.i64_in _ (by omega))) ?_
        refine wl (ro_assign rfl) ?_
        refine wl_nil (x_then ?_)
        exact ⟨24 - (i + 1), by omega, i + 1, rfl, by omega, hK, hP, hF, kp _ ⟨rfl, rfl, rfl, rfl, trivial⟩⟩
    · try simp only [decide_eq_true_eq, decide_eq_false_iff_not, Bool.not_eq_true', Bool.not_eq_false', Bool.not_eq_eq_eq_not, Bool.not_true, Bool.not_false, beq_iff_eq, bne_iff_ne, ne_eq, beq_eq_false_iff_ne, bne_eq_false_iff_eq, gt_iff_lt, ge_iff_le, Int.not_lt, Int.not_le] at hc27
      refine c_exit (x_thenX (x_thenX (x_blkX (x_then (hK17 _ _ ?_)))))
      clear hK19 K19 hK17 K17
      refine forget [] trivial (fun e => ?_)
      refine c_seq (fun K26 hK26 => ?_)
      refine c_reg ?_ -- region 15 check.go:62
      refine wl (ro_assign rfl) ?_
      refine wl_nil (x_then (hK26 _ _ ?_))
      clear hK26 K26
      refine c_ret ?_
      refine bp_ret Tryz.results109 rfl ?_
      exact ⟨rfl, hF⟩
set_option maxHeartbeats 4000000 in
theorem texts110 {w : World} {X : BB} {lo hi b u r cb : Nat} {W U T : List Tx} {SL : List Vl} (hb : BaB lo hi X) (hcb : hi ≤ cb) (hK : Blk w.heap X.k (bst X b u r) 60) (hW : Blk w.heap cb (rws stc W) 9) (hwl : W.length = 24) (h : DaV w X.D U T SL) :
    Ret Tryz.prog 110 [ptr X.k, sl cb 24] w (fun v w' => Blk w'.heap cb (rws stc T) 9 ∧ Fram (one cb) w w') := by
  have hF : Fram (one cb) w w := Fram.refl _ _
  have hm1 : one cb cb := rfl
  obtain ⟨hdb, b1, b2, b3, b4, b5, b6⟩ := hb
  have htl := h.cv.tl
  refine ret_of Tryz.func110 rfl Tryz.ntmps110 rfl ?_
  refine c_seq (fun K1 hK1 => ?_)
  refine c_reg ?_ -- region 0 check.go:67
  refine wl (ro_assign rfl) ?_
  refine wl_nil (x_then (hK1 _ _ ?_))
  clear hK1 K1
  refine c_block ?_
  -- loop@r1: live slots [0, 1, 4]
  refine c_loopG (fun m a' w' => ∃ i, m = 24 - i ∧ i ≤ 24 ∧ Blk w'.heap X.k (bst X b u r) 60 ∧ Blk w'.heap cb (rws stc (mixT T W i)) 9 ∧ DaV w' X.D U T SL ∧ Fram (one cb) w w' ∧ ∃ e, a' = Fr 18 (upds e [(0, ptr X.k), (1, sl cb 24), (4, i64c i)]) []) 24 ⟨0, rfl, by omega, hK, by rw [mix_zero]; exact hW, h, hF, kp _ ⟨rfl, rfl, rfl, trivial⟩⟩ ?_
  clear hF hK hW h
  rintro m a' u1 ⟨i, rfl, hi, hK, hW, h, hF, e, rfl⟩
  have hml := mix_len (i := i) htl hwl
  refine c_seq (fun K2 hK2 => ?_)
  refine c_seq (fun K3 hK3 => ?_)
  refine c_reg ?_ -- region 1 check.go:67
  refine wl (ro_move rfl) ?_
  refine wl (ro_cmp (r := decide (i < 24)) rfl rfl (congrArg some (decide_eq_decide.2 (by omega)))) ?_
  refine wl_nil (x_then (hK3 _ _ ?_))
  clear hK3 K3
  refine wc_cond rfl (fun hc6 => ?_) (fun hc6 => ?_)
  · try simp only [decide_eq_true_eq, decide_eq_false_iff_not, Bool.not_eq_true', Bool.not_eq_false', Bool.not_eq_eq_eq_not, Bool.not_true, Bool.not_false, beq_iff_eq, bne_iff_ne, ne_eq, beq_eq_false_iff_ne, bne_eq_false_iff_eq, gt_iff_lt, ge_iff_le, Int.not_lt, Int.not_le] at hc6
    refine c_skip (x_then (hK2 _ _ ?_))
    clear hK2 K2
    refine forget [(0, _), (1, _), (4, _)] ⟨rfl, rfl, rfl, trivial⟩ (fun e => ?_)
    refine c_seq (fun K4 hK4 => ?_)
    refine c_block ?_
    refine c_reg ?_ -- region 3 check.go:68
    refine wl (ro_move rfl) ?_
    refine wl (ro_move rfl) ?_
    refine wl (ro_move rfl) ?_
    refine wl (ro_nilCheck rfl) ?_
    refine wl (ro_fieldAddr (k := 0) rfl fo_60_0) ?_
    refine wl (ro_loadB rfl sc_46 (by assumption) rfl) ?_
    refine wl (ro_move rfl) ?_
    refine wl_call rfl en_32 (Raw32 h) ?_
    rintro _ u0 ⟨rfl, hw0⟩
    rw [getS_nat hc6, hw0]
    clear hw0 u0
    refine wl (ro_indexAddr (et := 9) (k := 1) rfl rfl se_56 (rfl) ((by omega))) ?_
    refine wl_put rfl rfl rfl sz_9 hW ((rw_fit stc_len (i := i) (j := 0) (m := 1) (by omega) (by omega) (by omega))) ((rw_put stc_len (i := i) (j := 0) (x := tF (mixT T W i) i) (x' := tF T i) (tF_get (by omega)) (by omega) (by omega) rfl)) (fun w1 hW F1 => ?_)
    replace hF := hF.thenDrew.thenO F1 (by first | exact .inr (by omega) | exact .inl rfl | exact .inl (by assumption))
    replace hK := F1.blkO hK (by omega)
    rw [mix_set htl hwl hc6] at hW
    replace h := DaV.far hdb h F1 (fun b q1 q2 hh ↦ absurd (show b = cb from hh) (by omega))
    refine wl_nil (x_blk (x_then (hK4 _ _ ?_)))
    clear hK4 K4
    refine c_reg ?_ -- region 2 check.go:67
    refine wl (ro_move rfl) ?_
    refine wl (ro_arith (r := ((i + 1 : Nat) : Int)) rfl rfl rfl (Go.IntWalk.i64_in _ (by omega))) ?_
    refine wl (ro_assign rfl) ?_
    refine wl_nil (x_then ?_)
    exact ⟨24 - (i + 1), by omega, i + 1, rfl, by omega, hK, hW, h, hF, kp _ ⟨rfl, rfl, rfl, trivial⟩⟩
  · try simp only [decide_eq_true_eq, decide_eq_false_iff_not, Bool.not_eq_true', Bool.not_eq_false', Bool.not_eq_eq_eq_not, Bool.not_true, Bool.not_false, beq_iff_eq, bne_iff_ne, ne_eq, beq_eq_false_iff_ne, bne_eq_false_iff_eq, gt_iff_lt, ge_iff_le, Int.not_lt, Int.not_le] at hc6
    refine c_exit (x_thenX (x_thenX (x_blkX ?_)))
    refine bp_end Tryz.results110 rfl ?_
    have : i = 24 := by omega
    subst this
    rw [mix_all htl hwl] at hW
    exact ⟨hW, hF⟩
set_option maxHeartbeats 4000000 in
theorem fits111 {w : World} {X : BB} {b u r s sd cb : Nat} {P : List Tx} {M : List Nat} {A B : List Tx} (hpc : X.p < cb) (hkp : X.k < X.p) (hK : Blk w.heap X.k (bst X b u r) 60) (hP : Blk w.heap X.p (rws stc P) 9) (hM : Blk w.heap X.t (rws msc M) 85) (hC : Blk w.heap cb (rws stc A) 9) (hpl : P.length = 288) (hml : M.length = 6) (hs : s < 6) (hsd : sd < 2) (hA : A.length = 24) (hB : B.length = 24) (hm : rF M s < 2 ^ 24)
    (h1 : ∀ c, c < 24 → (rF M s).testBit c = true → tF P (plc s c + sd) = tF A c ∧ tF P (plc s c + 1 - sd) = tF B c) (h0 : ∀ c, c < 24 → (rF M s).testBit c = false → tF B c = tF A c) :
    Ret Tryz.prog 111 [ptr X.k, sl cb 24, i64c s, i64c sd] w (fun v w' => v = .bool true ∧ Blk w'.heap cb (rws stc B) 9 ∧ Fram (one cb) w w') := by
  have hF : Fram (one cb) w w := Fram.refl _ _
  have hm1 : one cb cb := rfl
  refine ret_of Tryz.func111 rfl Tryz.ntmps111 rfl ?_
  refine c_seq (fun K1 hK1 => ?_)
  refine c_reg ?_ -- region 0 check.go:73
  refine wl (ro_assign rfl) ?_
  refine wl_nil (x_then (hK1 _ _ ?_))
  clear hK1 K1
  refine forget [(0, _), (1, _), (2, _), (3, _)] ⟨rfl, rfl, rfl, rfl, trivial⟩ (fun e => ?_)
  refine c_seq (fun K2 hK2 => ?_)
  refine c_reg ?_ -- region 1 check.go:74
  refine wl (ro_move rfl) ?_
  refine wl (ro_nilCheck rfl) ?_
  refine wl (ro_fieldAddr (k := 2) rfl fo_60_2) ?_
  refine wl (ro_loadB rfl sc_57 (by assumption) rfl) ?_
  refine wl (ro_move rfl) ?_
  refine wl (ro_indexAddr (et := 85) (k := 1) rfl rfl se_57 rfl (by omega)) ?_
  refine wl (ro_loadB rfl sc_85 (hM) ((rw_get msc_len (rF_get (RL := M) (c := s) (by omega)) (j := 0) (by omega) rfl))) ?_
  refine wl (ro_assign rfl) ?_
  refine wl_nil (x_then (hK2 _ _ ?_))
  clear hK2 K2
  refine c_seq (fun K3 hK3 => ?_)
  refine c_seq (fun K4 hK4 => ?_)
  refine c_reg ?_ -- region 2 check.go:75
  refine wl (ro_assign rfl) ?_
  refine wl_nil (x_then (hK4 _ _ ?_))
  clear hK4 K4
  refine c_block ?_
  -- loop@r3: live slots [0, 1, 2, 3, 9, 10]
  refine c_loopG (fun m a' w' => ∃ i, m = 24 - i ∧ i ≤ 24 ∧ Blk w'.heap X.k (bst X b u r) 60 ∧ Blk w'.heap X.p (rws stc P) 9 ∧ Blk w'.heap cb (rws stc (mixT B A i)) 9 ∧ Fram (one cb) w w' ∧ ∃ e, a' = Fr 59 (upds e [(0, ptr X.k), (1, sl cb 24), (2, i64c s), (3, i64c sd), (9, u32c (rF M s)), (10, i64c i)]) []) 24 ⟨0, rfl, by omega, hK, hP, by rw [mix_zero]; exact hC, hF, kp _ ⟨rfl, rfl, rfl, rfl, rfl, rfl, trivial⟩⟩ ?_
  clear hF hK hP hC hM
  rintro m a' u1 ⟨i, rfl, hi, hK, hP, hC, hF, e, rfl⟩
  have hml' := mix_len (i := i) hB hA
  refine c_seq (fun K5 hK5 => ?_)
  refine c_seq (fun K6 hK6 => ?_)
  refine c_reg ?_ -- region 3 check.go:75
  refine wl (ro_move rfl) ?_
  refine wl (ro_cmp (r := decide (i < 24)) rfl rfl (congrArg some (decide_eq_decide.2 (by omega)))) ?_
  refine wl_nil (x_then (hK6 _ _ ?_))
  clear hK6 K6
  refine wc_cond rfl (fun hc20 => ?_) (fun hc20 => ?_)
  · try simp only [decide_eq_true_eq, decide_eq_false_iff_not, Bool.not_eq_true', Bool.not_eq_false', Bool.not_eq_eq_eq_not, Bool.not_true, Bool.not_false, beq_iff_eq, bne_iff_ne, ne_eq, beq_eq_false_iff_ne, bne_eq_false_iff_eq, gt_iff_lt, ge_iff_le, Int.not_lt, Int.not_le] at hc20
    have hpl2 := plc_lt hs hc20
    refine c_skip (x_then (hK5 _ _ ?_))
    clear hK5 K5
    refine forget [(0, _), (1, _), (2, _), (3, _), (9, _), (10, _)] ⟨rfl, rfl, rfl, rfl, rfl, rfl, trivial⟩ (fun e => ?_)
    refine c_seq (fun K7 hK7 => ?_)
    refine c_block ?_
    refine c_seq (fun K8 hK8 => ?_)
    refine c_reg ?_ -- region 5 check.go:76
    refine wl (ro_move rfl) ?_
    refine wl (ro_move rfl) ?_
    refine wl (ro_conv rfl sc_3 in_122 (Go.IntWalk.u64_in _ (by omega))) ?_
    refine wl (ro_shrN rfl rfl (by show i ≤ 32; omega)) ?_
    refine wl (ro_and32 rfl rfl (Nat.lt_of_le_of_lt (Nat.div_le_self _ _) (by omega)) (by decide)) ?_
    refine wl (ro_cmp (r := (rF M s).testBit i) rfl rfl (congrArg some (by rw [bit1]; cases (rF M s).testBit i <;> rfl))) ?_
    refine wl_nil (x_then (hK8 _ _ ?_))
    clear hK8 K8
    refine wc_cond rfl (fun hc28 => ?_) (fun hc28 => ?_)
    · try simp only [decide_eq_true_eq, decide_eq_false_iff_not, Bool.not_eq_true', Bool.not_eq_false', Bool.not_eq_eq_eq_not, Bool.not_true, Bool.not_false, beq_iff_eq, bne_iff_ne, ne_eq, beq_eq_false_iff_ne, bne_eq_false_iff_eq, gt_iff_lt, ge_iff_le, Int.not_lt, Int.not_le] at hc28
      obtain ⟨hq1, hq2⟩ := h1 i hc20 hc28
      refine c_seq (fun K9 hK9 => ?_)
      refine c_reg ?_ -- region 6 check.go:77
      refine wl (ro_move rfl) ?_
      refine wl (ro_move rfl) ?_
      refine wl_call rfl en_65 (place65 hs hc20) ?_
      rintro _ u0 ⟨rfl, hw0⟩
      rw [hw0]
      clear hw0 u0
      refine wl (ro_assign rfl) ?_
      refine wl_nil (x_then (hK9 _ _ ?_))
      clear hK9 K9
      refine c_seq (fun K10 hK10 => ?_)
      refine c_seq (fun K11 hK11 => ?_)
      refine c_pi [(0, false), (1, false), (2, false), (3, false), (4, false), (5, false), (6, false), (7, false), (8, false), (9, false), (10, false), (11, false), (12, false), (13, false)] (fun w' => Blk w'.heap X.k (bst X b u r) 60 ∧ Blk w'.heap X.p (rws stc P) 9 ∧ Blk w'.heap cb (rws stc (mixT B A i)) 9) mixed (by kernel_rfl) rfl (by kernel_rfl) (po_then (po_then (po_blk (po_then (po_then (po_blk (po_then (po_bp)))))))) (⟨hK, hP, hC⟩) ?_ -- region 7 check.go:78
      refine pi_ro rfl (fun w hS => ro_move rfl) ?_
      refine pi_ro rfl (fun w hS => ro_move rfl) ?_
      refine pi_ro rfl (fun w hS => ro_indexAddr (et := 9) (k := 1) rfl rfl se_56 (rfl) ((by omega))) ?_
      refine pi_ro rfl (fun w hS => ro_loadB rfl sc_9 (hS.2.2) ((rw_get stc_len (tF_get (T := mixT B A i) (c := i) (by omega)) (j := 0) (by omega) rfl))) ?_
      refine pi_ro rfl (fun w hS => ro_move rfl) ?_
      refine pi_ro rfl (fun w hS => ro_nilCheck rfl) ?_
      refine pi_ro rfl (fun w hS => ro_fieldAddr (k := 1) rfl fo_60_1) ?_
      refine pi_ro rfl (fun w hS => ro_loadB rfl sc_56 (hS.1) (rfl)) ?_
      refine pi_ro rfl (fun w hS => ro_move rfl) ?_
      refine pi_ro rfl (fun w hS => ro_move rfl) ?_
      refine pi_ro rfl (fun w hS => ro_arith (r := ((plc s i + sd : Nat) : Int)) rfl rfl rfl (Go.IntWalk.i64_in _ (by omega))) ?_
      refine pi_ro rfl (fun w hS => ro_indexAddr (et := 9) (k := 1) rfl rfl se_56 (rfl) ((by omega))) ?_
      refine pi_ro rfl (fun w hS => ro_loadB rfl sc_9 (hS.2.1) ((rw_get stc_len (tF_get (T := P) (c := plc s i + sd) (by omega)) (j := 0) (by omega) rfl))) ?_
      refine pi_ro rfl (fun w hS => ro_eqS (l := tF (mixT B A i) i) (m := tF P (plc s i + sd)) (r := false) rfl rfl (congrArg some (by (rw [mix_get hB hA, if_neg (Nat.lt_irrefl i), hq1]; simp)))) ?_
      refine pi_nil (x_then (hK11 _ _ ?_))
      clear hK11 K11
      refine wc_condF rfl ?_
      refine c_skip (x_then (hK10 _ _ ?_))
      clear hK10 K10
      refine c_reg ?_ -- region 9 check.go:81
      refine wl (ro_move rfl) ?_
      refine wl (ro_move rfl) ?_
      refine wl (ro_move rfl) ?_
      refine wl (ro_nilCheck rfl) ?_
      refine wl (ro_fieldAddr (k := 1) rfl fo_60_1) ?_
      refine wl (ro_loadB rfl sc_56 (by assumption) rfl) ?_
      refine wl (ro_move rfl) ?_
      refine wl (ro_arith (r := ((plc s i + 1 : Nat) : Int)) rfl rfl rfl (Go.IntWalk.i64_in _ (by omega))) ?_
      refine wl (ro_move rfl) ?_
      refine wl (ro_arith (r := ((plc s i + 1 - sd : Nat) : Int)) rfl rfl (congrArg some (by omega)) (Go.IntWalk.i64_in _ (by omega))) ?_
      refine wl (ro_indexAddr (et := 9) (k := 1) rfl rfl se_56 (rfl) ((by omega))) ?_
      refine wl (ro_loadB rfl sc_9 (hP) ((rw_get stc_len (tF_get (T := P) (c := plc s i + 1 - sd) (by omega)) (j := 0) (by omega) rfl))) ?_
      refine wl (ro_indexAddr (et := 9) (k := 1) rfl rfl se_56 (rfl) ((by omega))) ?_
      refine wl_put rfl rfl rfl sz_9 hC ((rw_fit stc_len (i := i) (j := 0) (m := 1) (by omega) (by omega) (by omega))) ((rw_put stc_len (i := i) (j := 0) (x := tF (mixT B A i) i) (x' := tF B i) (tF_get (by omega)) (by omega) (by omega) (by rw [hq2]; rfl))) (fun w1 hC F1 => ?_)
      replace hF := hF.thenDrew.thenO F1 (by first | exact .inr (by omega) | exact .inl rfl | exact .inl (by assumption))
      replace hK := F1.blkO hK (by omega)
      replace hP := F1.blkO hP (by omega)
      rw [mix_set hB hA hc20] at hC
      refine wl_nil (x_blk (x_then (hK7 _ _ ?_)))
      clear hK7 K7
      refine c_reg ?_ -- region 4 check.go:75
      refine wl (ro_move rfl) ?_
      refine wl (ro_arith (r := ((i + 1 : Nat) : Int)) rfl rfl rfl (Go.IntWalk.i64_in _ (by omega))) ?_
      refine wl (ro_assign rfl) ?_
      refine wl_nil (x_then ?_)
      exact ⟨24 - (i + 1), by omega, i + 1, rfl, by omega, hK, hP, hC, hF, kp _ ⟨rfl, rfl, rfl, rfl, rfl, rfl, trivial⟩⟩
    · try simp only [decide_eq_true_eq, decide_eq_false_iff_not, Bool.not_eq_true', Bool.not_eq_false', Bool.not_eq_eq_eq_not, Bool.not_true, Bool.not_false, beq_iff_eq, bne_iff_ne, ne_eq, beq_eq_false_iff_ne, bne_eq_false_iff_eq, gt_iff_lt, ge_iff_le, Int.not_lt, Int.not_le] at hc28
      refine c_skip (x_blk (x_then (hK7 _ _ ?_)))
      clear hK7 K7
      refine c_reg ?_ -- region 4 check.go:75
      refine wl (ro_move rfl) ?_
      refine wl (ro_arith (r := ((i + 1 : Nat) : Int)) rfl rfl rfl (Go.IntWalk.i64_in _ (by omega))) ?_
      refine wl (ro_assign rfl) ?_
      refine wl_nil (x_then ?_)
      rw [← mix_same hB hA hc20 (h0 i hc20 (by simpa using hc28))] at hC
      exact ⟨24 - (i + 1), by omega, i + 1, rfl, by omega, hK, hP, hC, hF, kp _ ⟨rfl, rfl, rfl, rfl, rfl, rfl, trivial⟩⟩
  · try simp only [decide_eq_true_eq, decide_eq_false_iff_not, Bool.not_eq_true', Bool.not_eq_false', Bool.not_eq_eq_eq_not, Bool.not_true, Bool.not_false, beq_iff_eq, bne_iff_ne, ne_eq, beq_eq_false_iff_ne, bne_eq_false_iff_eq, gt_iff_lt, ge_iff_le, Int.not_lt, Int.not_le] at hc20
    refine c_exit (x_thenX (x_thenX (x_blkX (x_then (hK3 _ _ ?_)))))
    clear hK5 K5 hK3 K3
    refine forget [] trivial (fun e => ?_)
    refine c_seq (fun K12 hK12 => ?_)
    refine c_reg ?_ -- region 10 check.go:84
    refine wl (ro_assign rfl) ?_
    refine wl_nil (x_then (hK12 _ _ ?_))
    clear hK12 K12
    refine c_ret ?_
    refine bp_ret Tryz.results111 rfl ?_
    have : i = 24 := by omega
    subst this
    rw [mix_all hB hA] at hC
    exact ⟨rfl, hC, hF⟩

end Go.Proofs.Qxb6500570aGreat
