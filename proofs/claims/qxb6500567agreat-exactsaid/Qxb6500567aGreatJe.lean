import Derived.Test.Qxb6500567aGreatJd
/- The automaton: the kept program. -/
namespace Go.Proofs.Qxb6500567aGreat
set_option linter.unusedVariables false
set_option linter.unusedSimpArgs false

/-- Sets of bytes alone. -/
def SetOK (p : List Ins) : Prop := ∀ (pc S : Nat), p[pc]? = some (Ins.chr S) → S < 2 ^ 256

theorem sameInst111 {w : World} {x y : RI} : Ret Tryz.prog 111 [.agg (ric x).toArray, .agg (ric y).toArray] w (fun v w' => (∃ b, v = .bool b ∧ (b = true → x.op = y.op ∧ x.x = y.x ∧ x.y = y.y ∧ ∀ j, j < 4 → wd x.S j = wd y.S j)) ∧ Fram none' w w') := by
  have hF : Fram none' w w := Fram.refl _ _
  refine ret_of Tryz.func111 rfl Tryz.ntmps111 rfl ?_
  refine c_seq (fun K1 hK1 => ?_)
  refine c_reg ?_ -- region 0 cache.go:8
  refine wl_box (cs := (ric x)) rfl rfl (fun ab w1 hbab hA F1 => ?_)
  have hbsab := Nat.le_trans hF.size hbab
  replace hF := hF.thenDrew.thenN F1
  refine wl_box (cs := (ric y)) rfl rfl (fun bb w2 hbbb hB F2 => ?_)
  have hbsbb := Nat.le_trans hF.size hbbb
  have hneabbb : ab < bb := Nat.lt_of_lt_of_le hA.lt hbbb
  replace hF := hF.thenDrew.thenN F2
  replace hA := F2.blkN hA
  refine wl (ro_assign rfl) ?_
  refine wl_nil (x_then (hK1 _ _ ?_))
  clear hK1 K1
  refine forget [(2, _), (3, _)] ⟨rfl, rfl, trivial⟩ (fun e => ?_)
  refine c_seq (fun K2 hK2 => ?_)
  have hqs : x.op ≠ y.op ∨ (x.op = y.op ∧ x.x ≠ y.x) ∨ (x.op = y.op ∧ x.x = y.x ∧ x.y ≠ y.y) ∨ (x.op = y.op ∧ x.x = y.x ∧ x.y = y.y) := by omega
  rcases hqs with q | q | q | q
  · skip
    refine c_reg ?_ -- region 1 cache.go:9
    refine wl (ro_fieldAddr (k := 0) rfl fo_175_0) ?_
    refine wl (ro_loadB rfl sc_3 (hA) (rfl)) ?_
    refine wl (ro_fieldAddr (k := 0) rfl fo_175_0) ?_
    refine wl (ro_loadB rfl sc_3 (hB) (rfl)) ?_
    refine wl (ro_cmp (r := false) rfl rfl (congrArg some ((beqc x.op y.op).trans (decide_eq_false (by omega))))) ?_
    refine wl (ro_move rfl) ?_
    refine wlg_no rfl ?_
    refine wlg_no rfl ?_
    refine wlg_no rfl ?_
    refine wlg_no rfl ?_
    refine wlg_no rfl ?_
    refine wl (ro_pick rfl rfl rfl) ?_
    refine wl (ro_move rfl) ?_
    refine wlg_no rfl ?_
    refine wlg_no rfl ?_
    refine wlg_no rfl ?_
    refine wlg_no rfl ?_
    refine wlg_no rfl ?_
    refine wl (ro_pick rfl rfl rfl) ?_
    refine wl (ro_move rfl) ?_
    refine wlg_no rfl ?_
    refine wlg_no rfl ?_
    refine wlg_no rfl ?_
    refine wlg_no rfl ?_
    refine wlg_no rfl ?_
    refine wl (ro_pick rfl rfl rfl) ?_
    refine wl (ro_assign rfl) ?_
    refine wl_nil (x_then (hK2 _ _ ?_))
    clear hK2 K2
    refine c_ret ?_
    refine bp_ret Tryz.results111 rfl ?_
    exact ⟨⟨false, rfl, fun h => by cases h⟩, hF⟩
  · skip
    refine c_reg ?_ -- region 1 cache.go:9
    refine wl (ro_fieldAddr (k := 0) rfl fo_175_0) ?_
    refine wl (ro_loadB rfl sc_3 (hA) (rfl)) ?_
    refine wl (ro_fieldAddr (k := 0) rfl fo_175_0) ?_
    refine wl (ro_loadB rfl sc_3 (hB) (rfl)) ?_
    refine wl (ro_cmp (r := true) rfl rfl (congrArg some ((beqc x.op y.op).trans (decide_eq_true (by omega))))) ?_
    refine wl (ro_move rfl) ?_
    refine wlg_yes rfl (ro_fieldAddr (k := 1) rfl fo_175_1) ?_
    refine wlg_yes rfl (ro_loadB rfl sc_3 (hA) (rfl)) ?_
    refine wlg_yes rfl (ro_fieldAddr (k := 1) rfl fo_175_1) ?_
    refine wlg_yes rfl (ro_loadB rfl sc_3 (hB) (rfl)) ?_
    refine wlg_yes rfl (ro_cmp (r := false) rfl rfl (congrArg some (by simp [q.2]))) ?_
    refine wl (ro_pick rfl rfl rfl) ?_
    refine wl (ro_move rfl) ?_
    refine wlg_no rfl ?_
    refine wlg_no rfl ?_
    refine wlg_no rfl ?_
    refine wlg_no rfl ?_
    refine wlg_no rfl ?_
    refine wl (ro_pick rfl rfl rfl) ?_
    refine wl (ro_move rfl) ?_
    refine wlg_no rfl ?_
    refine wlg_no rfl ?_
    refine wlg_no rfl ?_
    refine wlg_no rfl ?_
    refine wlg_no rfl ?_
    refine wl (ro_pick rfl rfl rfl) ?_
    refine wl (ro_assign rfl) ?_
    refine wl_nil (x_then (hK2 _ _ ?_))
    clear hK2 K2
    refine c_ret ?_
    refine bp_ret Tryz.results111 rfl ?_
    exact ⟨⟨false, rfl, fun h => by cases h⟩, hF⟩
  · skip
    refine c_reg ?_ -- region 1 cache.go:9
    refine wl (ro_fieldAddr (k := 0) rfl fo_175_0) ?_
    refine wl (ro_loadB rfl sc_3 (hA) (rfl)) ?_
    refine wl (ro_fieldAddr (k := 0) rfl fo_175_0) ?_
    refine wl (ro_loadB rfl sc_3 (hB) (rfl)) ?_
    refine wl (ro_cmp (r := true) rfl rfl (congrArg some ((beqc x.op y.op).trans (decide_eq_true (by omega))))) ?_
    refine wl (ro_move rfl) ?_
    refine wlg_yes rfl (ro_fieldAddr (k := 1) rfl fo_175_1) ?_
    refine wlg_yes rfl (ro_loadB rfl sc_3 (hA) (rfl)) ?_
    refine wlg_yes rfl (ro_fieldAddr (k := 1) rfl fo_175_1) ?_
    refine wlg_yes rfl (ro_loadB rfl sc_3 (hB) (rfl)) ?_
    refine wlg_yes rfl (ro_cmp (r := true) rfl rfl (congrArg some (by simp [q.2.1]))) ?_
    refine wl (ro_pick rfl rfl rfl) ?_
    refine wl (ro_move rfl) ?_
    refine wlg_yes rfl (ro_fieldAddr (k := 2) rfl fo_175_2) ?_
    refine wlg_yes rfl (ro_loadB rfl sc_3 (hA) (rfl)) ?_
    refine wlg_yes rfl (ro_fieldAddr (k := 2) rfl fo_175_2) ?_
    refine wlg_yes rfl (ro_loadB rfl sc_3 (hB) (rfl)) ?_
    refine wlg_yes rfl (ro_cmp (r := false) rfl rfl (congrArg some (by simp [q.2.2]))) ?_
    refine wl (ro_pick rfl rfl rfl) ?_
    refine wl (ro_move rfl) ?_
    refine wlg_no rfl ?_
    refine wlg_no rfl ?_
    refine wlg_no rfl ?_
    refine wlg_no rfl ?_
    refine wlg_no rfl ?_
    refine wl (ro_pick rfl rfl rfl) ?_
    refine wl (ro_assign rfl) ?_
    refine wl_nil (x_then (hK2 _ _ ?_))
    clear hK2 K2
    refine c_ret ?_
    refine bp_ret Tryz.results111 rfl ?_
    exact ⟨⟨false, rfl, fun h => by cases h⟩, hF⟩
  · skip
    refine c_reg ?_ -- region 1 cache.go:9
    refine wl (ro_fieldAddr (k := 0) rfl fo_175_0) ?_
    refine wl (ro_loadB rfl sc_3 (hA) (rfl)) ?_
    refine wl (ro_fieldAddr (k := 0) rfl fo_175_0) ?_
    refine wl (ro_loadB rfl sc_3 (hB) (rfl)) ?_
    refine wl (ro_cmp (r := true) rfl rfl (congrArg some ((beqc x.op y.op).trans (decide_eq_true (by omega))))) ?_
    refine wl (ro_move rfl) ?_
    refine wlg_yes rfl (ro_fieldAddr (k := 1) rfl fo_175_1) ?_
    refine wlg_yes rfl (ro_loadB rfl sc_3 (hA) (rfl)) ?_
    refine wlg_yes rfl (ro_fieldAddr (k := 1) rfl fo_175_1) ?_
    refine wlg_yes rfl (ro_loadB rfl sc_3 (hB) (rfl)) ?_
    refine wlg_yes rfl (ro_cmp (r := true) rfl rfl (congrArg some (by simp [q.2.1]))) ?_
    refine wl (ro_pick rfl rfl rfl) ?_
    refine wl (ro_move rfl) ?_
    refine wlg_yes rfl (ro_fieldAddr (k := 2) rfl fo_175_2) ?_
    refine wlg_yes rfl (ro_loadB rfl sc_3 (hA) (rfl)) ?_
    refine wlg_yes rfl (ro_fieldAddr (k := 2) rfl fo_175_2) ?_
    refine wlg_yes rfl (ro_loadB rfl sc_3 (hB) (rfl)) ?_
    refine wlg_yes rfl (ro_cmp (r := true) rfl rfl (congrArg some (by simp [q.2.2]))) ?_
    refine wl (ro_pick rfl rfl rfl) ?_
    refine wl (ro_move rfl) ?_
    refine wlg_yes rfl (ro_fieldAddr (k := 3) rfl fo_175_3) ?_
    refine wlg_yes rfl (ro_loadAggB rfl ag_87 (hA) (rfl) (rfl)) ?_
    refine wlg_yes rfl (ro_fieldAddr (k := 3) rfl fo_175_3) ?_
    refine wlg_yes rfl (ro_loadAggB rfl ag_87 (hB) (rfl) (rfl)) ?_
    refine wlg_yes rfl (ro_eqArr4 rfl rfl ar_87 in_85 (by kernel_rfl) rfl) ?_
    refine wl (ro_pick rfl rfl rfl) ?_
    refine wl (ro_assign rfl) ?_
    refine wl_nil (x_then (hK2 _ _ ?_))
    clear hK2 K2
    refine c_ret ?_
    refine bp_ret Tryz.results111 rfl ?_
    refine ⟨⟨_, rfl, fun h => ⟨q.1, q.2.1, q.2.2, ?_⟩⟩, hF⟩
    simp only [Bool.and_eq_true, beq_iff_eq] at h
    intro j hj
    have : j = 0 ∨ j = 1 ∨ j = 2 ∨ j = 3 := by omega
    rcases this with rfl | rfl | rfl | rfl <;> omega

theorem insR_inj {x y : Ins} (h1 : (insR x).op = (insR y).op) (h2 : (insR x).x = (insR y).x) (h3 : (insR x).y = (insR y).y) (h4 : (insR x).S = (insR y).S) : x = y := by
  rcases x with S | ⟨a, b⟩ | a | a | ⟨⟩ | ⟨⟩ | ⟨⟩ <;> rcases y with S' | ⟨a', b'⟩ | a' | a' | ⟨⟩ | ⟨⟩ | ⟨⟩ <;> simp [insR] at h1 h2 h3 h4 ⊢ <;> first | trivial | exact h4 | exact ⟨h2, h3⟩ | exact h2 | omega

theorem ins_eq {p p0 : List Ins} {pc : Nat} {x y : Ins} (hx : p[pc]? = some x) (hy : p0[pc]? = some y) (hs : SetOK p) (hs0 : SetOK p0) (h1 : (insR x).op = (insR y).op) (h2 : (insR x).x = (insR y).x) (h3 : (insR x).y = (insR y).y) (h4 : ∀ j, j < 4 → wd (insR x).S j = wd (insR y).S j) : x = y := by
  have hb : ∀ {p : List Ins} {x : Ins}, p[pc]? = some x → SetOK p → (insR x).S < 2 ^ 256 := by
    intro p x hx hs
    rcases x with S | ⟨a, b⟩ | a | a | ⟨⟩ | ⟨⟩ | ⟨⟩
    · exact hs pc S hx
    all_goals exact Nat.two_pow_pos 256
  exact insR_inj h1 h2 h3 (wd_ext (hb hx hs) (hb hy hs0) h4)

set_option maxHeartbeats 4000000 in
theorem isKept77 {w : World} {D : DF} {N : DN} {kb pb : Nat} {p p0 : List Ins} (hB : Blk w.heap D.db (dcl D (pgs kb p0.length) N) 112) (hG : PGB w.heap kb (insL p0)) (hP : PGB w.heap pb (insL p)) (hs : SetOK p) (hs0 : SetOK p0) (hl : p.length ≤ 64) (hl0 : p0.length ≤ 64) :
    Ret Tryz.prog 77 [ptr D.db, pgs pb p.length] w (fun v w' => (∃ b, v = .bool b ∧ (b = true → p = p0)) ∧ Fram none' w w') := by
  have hF : Fram none' w w := Fram.refl _ _
  refine ret_of Tryz.func77 rfl Tryz.ntmps77 rfl ?_
  refine c_seq (fun K1 hK1 => ?_)
  refine c_reg ?_ -- region 0 cache.go:13
  refine wl (ro_assign rfl) ?_
  refine wl_nil (x_then (hK1 _ _ ?_))
  clear hK1 K1
  refine c_seq (fun K2 hK2 => ?_)
  refine c_seq (fun K3 hK3 => ?_)
  refine c_reg ?_ -- region 1 cache.go:14
  refine wl (ro_move rfl) ?_
  refine wl (ro_lenL rfl se_109) ?_
  refine wl (ro_move rfl) ?_
  refine wl (ro_nilCheck rfl) ?_
  refine wl (ro_fieldAddr (k := 0) rfl fo_112_0) ?_
  refine wl (ro_loadB rfl sc_109 (hB) (rfl)) ?_
  refine wl (ro_lenL rfl se_109) ?_
  refine wl (ro_cmp (r := decide (p.length ≠ p0.length)) rfl rfl (congrArg some (bnec p.length p0.length))) ?_
  refine wl_nil (x_then (hK3 _ _ ?_))
  clear hK3 K3
  refine wc_cond rfl (fun hc13 => ?_) (fun hc13 => ?_)
  · try simp only [decide_eq_true_eq, decide_eq_false_iff_not, Bool.not_eq_true', Bool.not_eq_false', Bool.not_eq_eq_eq_not, Bool.not_true, Bool.not_false, beq_iff_eq, bne_iff_ne, ne_eq, beq_eq_false_iff_ne, bne_eq_false_iff_eq, gt_iff_lt, ge_iff_le, Int.not_lt, Int.not_le] at hc13
    refine c_seq (fun K4 hK4 => ?_)
    refine c_reg ?_ -- region 2 cache.go:15
    refine wl (ro_assign rfl) ?_
    refine wl_nil (x_then (hK4 _ _ ?_))
    clear hK4 K4
    refine c_ret (x_thenR ?_)
    refine bp_ret Tryz.results77 rfl ?_
    exact ⟨⟨false, rfl, fun h => by cases h⟩, hF⟩
  · try simp only [decide_eq_true_eq, decide_eq_false_iff_not, Bool.not_eq_true', Bool.not_eq_false', Bool.not_eq_eq_eq_not, Bool.not_true, Bool.not_false, beq_iff_eq, bne_iff_ne, ne_eq, beq_eq_false_iff_ne, bne_eq_false_iff_eq, gt_iff_lt, ge_iff_le, Int.not_lt, Int.not_le] at hc13
    refine c_skip (x_then (hK2 _ _ ?_))
    clear hK2 K2
    refine c_seq (fun K5 hK5 => ?_)
    refine c_seq (fun K6 hK6 => ?_)
    refine c_reg ?_ -- region 3 cache.go:17
    refine wl (ro_assign rfl) ?_
    refine wl_nil (x_then (hK6 _ _ ?_))
    clear hK6 K6
    refine c_block ?_
    -- loop@r4: live slots [0, 1, 5]
    refine c_loopG (fun m a' w' => ∃ (pc : Nat), m = p.length - pc ∧ pc ≤ p.length ∧ p.take pc = p0.take pc ∧ Blk w'.heap D.db (dcl D (pgs kb p0.length) N) 112 ∧ PGB w'.heap kb (insL p0) ∧ PGB w'.heap pb (insL p) ∧ Fram none' w w' ∧ ∃ e, a' = Fr 33 (upds e [(0, ptr D.db), (1, pgs pb p.length), (5, i64c pc)]) []) p.length ⟨0, rfl, by omega, rfl, hB, hG, hP, hF, kp _ ⟨rfl, rfl, rfl, trivial⟩⟩ ?_
    clear hB hG hP hF
    rintro m a' w1 ⟨pc, rfl, hpc, heq, hB, hG, hP, hF, e, rfl⟩
    refine c_seq (fun K7 hK7 => ?_)
    refine c_seq (fun K8 hK8 => ?_)
    refine c_reg ?_ -- region 4 cache.go:17
    refine wl (ro_move rfl) ?_
    refine wl (ro_move rfl) ?_
    refine wl (ro_lenL rfl se_109) ?_
    refine wl (ro_cmp (r := decide (pc < p.length)) rfl rfl (congrArg some (decide_eq_decide.2 (by omega)))) ?_
    refine wl_nil (x_then (hK8 _ _ ?_))
    clear hK8 K8
    refine wc_cond rfl (fun hc17 => ?_) (fun hc17 => ?_)
    · try simp only [decide_eq_true_eq, decide_eq_false_iff_not, Bool.not_eq_true', Bool.not_eq_false', Bool.not_eq_eq_eq_not, Bool.not_true, Bool.not_false, beq_iff_eq, bne_iff_ne, ne_eq, beq_eq_false_iff_ne, bne_eq_false_iff_eq, gt_iff_lt, ge_iff_le, Int.not_lt, Int.not_le] at hc17
      obtain ⟨x, hx⟩ : ∃ x, p[pc]? = some x := ⟨_, List.getElem?_eq_getElem hc17⟩
      obtain ⟨y, hy⟩ : ∃ y, p0[pc]? = some y := ⟨_, List.getElem?_eq_getElem (by omega)⟩
      have hld := pg_load hx
      have hld0 := pg_load hy
      refine c_skip (x_then (hK7 _ _ ?_))
      clear hK7 K7
      refine forget [(0, _), (1, _), (5, _)] ⟨rfl, rfl, rfl, trivial⟩ (fun e => ?_)
      refine c_seq (fun K9 hK9 => ?_)
      refine c_block ?_
      refine c_seq (fun K10 hK10 => ?_)
      refine c_pi [(0, false), (1, false), (2, false), (3, false), (4, false), (5, false), (6, false), (7, false), (8, false), (9, false), (10, false), (11, true), (12, false)] (Fram none' w1) mixed (by kernel_rfl) rfl (by kernel_rfl) (po_then (po_blk (po_then (po_then (po_blk (po_then (po_bp))))))) (Fram.drew none' _ _) ?_ -- region 6 cache.go:18
      refine pi_ro rfl (fun w hS => ro_move rfl) ?_
      refine pi_ro rfl (fun w hS => ro_move rfl) ?_
      refine pi_ro rfl (fun w hS => ro_indexAddr (et := 175) (k := 7) rfl rfl se_109 (rfl) (hc17)) ?_
      refine pi_ro rfl (fun w hS => ro_loadAggB rfl ag_175 (hS.blkN hP) (rfl) (hld)) ?_
      refine pi_ro rfl (fun w hS => ro_move rfl) ?_
      refine pi_ro rfl (fun w hS => ro_nilCheck rfl) ?_
      refine pi_ro rfl (fun w hS => ro_fieldAddr (k := 0) rfl fo_112_0) ?_
      refine pi_ro rfl (fun w hS => ro_loadB rfl sc_109 (hS.blkN hB) (rfl)) ?_
      refine pi_ro rfl (fun w hS => ro_move rfl) ?_
      refine pi_ro rfl (fun w hS => ro_indexAddr (et := 175) (k := 7) rfl rfl se_109 (rfl) ((by omega : pc < p0.length))) ?_
      refine pi_ro rfl (fun w hS => ro_loadAggB rfl ag_175 (hS.blkN hG) (rfl) (hld0)) ?_
      refine pi_call rfl rfl en_111 (sameInst111) ?_
      rintro _ w3 ⟨⟨b3, rfl, hb3⟩, F3⟩
      replace hB := F3.blkN hB
      replace hG := F3.blkN hG
      replace hP := F3.blkN hP
      replace hF := hF.thenDrew.thenN F3
      refine ⟨(Fram.drew none' _ _).trans F3, ?_⟩
      refine pi_ro rfl (fun w hS => ro_not rfl) ?_
      refine pi_nil (x_then (hK10 _ _ ?_))
      clear hK10 K10
      refine wc_cond rfl (fun hc32 => ?_) (fun hc32 => ?_)
      · try simp only [decide_eq_true_eq, decide_eq_false_iff_not, Bool.not_eq_true', Bool.not_eq_false', Bool.not_eq_eq_eq_not, Bool.not_true, Bool.not_false, beq_iff_eq, bne_iff_ne, ne_eq, beq_eq_false_iff_ne, bne_eq_false_iff_eq, gt_iff_lt, ge_iff_le, Int.not_lt, Int.not_le] at hc32
        have hbf : b3 = false := by simpa using hc32
        refine c_seq (fun K11 hK11 => ?_)
        refine c_reg ?_ -- region 7 cache.go:19
        refine wl (ro_assign rfl) ?_
        refine wl_nil (x_then (hK11 _ _ ?_))
        clear hK11 K11
        refine c_ret (x_blkR (x_thenR (x_thenR (x_blkR (x_thenR ?_)))))
        refine bp_ret Tryz.results77 rfl ?_
        exact ⟨⟨false, rfl, fun h => by cases h⟩, hF⟩
      · try simp only [decide_eq_true_eq, decide_eq_false_iff_not, Bool.not_eq_true', Bool.not_eq_false', Bool.not_eq_eq_eq_not, Bool.not_true, Bool.not_false, beq_iff_eq, bne_iff_ne, ne_eq, beq_eq_false_iff_ne, bne_eq_false_iff_eq, gt_iff_lt, ge_iff_le, Int.not_lt, Int.not_le] at hc32
        have hbt : b3 = true := by simpa using hc32
        obtain ⟨h1, h2, h3, h4⟩ := hb3 hbt
        have hxy := ins_eq hx hy hs hs0 h1 h2 h3 h4
        refine c_skip (x_blk (x_then (hK9 _ _ ?_)))
        clear hK9 K9
        refine c_reg ?_ -- region 5 cache.go:17
        refine wl (ro_move rfl) ?_
        refine wl (ro_arith rfl rfl rfl (Go.IntWalk.i64_in _ (by omega))) ?_
        refine wl (ro_assign rfl) ?_
        refine wl_nil (x_then ?_)
        exact ⟨p.length - (pc + 1), by omega, pc + 1, rfl, by omega, by rw [List.take_add_one, List.take_add_one, heq, hx, hy, hxy], hB, hG, hP, hF, kp _ ⟨rfl, rfl, rfl, trivial⟩⟩
    · try simp only [decide_eq_true_eq, decide_eq_false_iff_not, Bool.not_eq_true', Bool.not_eq_false', Bool.not_eq_eq_eq_not, Bool.not_true, Bool.not_false, beq_iff_eq, bne_iff_ne, ne_eq, beq_eq_false_iff_ne, bne_eq_false_iff_eq, gt_iff_lt, ge_iff_le, Int.not_lt, Int.not_le] at hc17
      refine c_exit (x_thenX (x_thenX (x_blkX (x_then (hK5 _ _ ?_)))))
      clear hK7 K7 hK5 K5
      refine forget [] trivial (fun e => ?_)
      refine c_seq (fun K12 hK12 => ?_)
      refine c_reg ?_ -- region 8 cache.go:22
      refine wl (ro_assign rfl) ?_
      refine wl_nil (x_then (hK12 _ _ ?_))
      clear hK12 K12
      refine c_ret ?_
      refine bp_ret Tryz.results77 rfl ?_
      refine ⟨⟨true, rfl, fun _ => ?_⟩, hF⟩
      have hpe : pc = p.length := by omega
      rw [hpe, List.take_length, show p.length = p0.length by omega, List.take_length] at heq
      exact heq

/-- Nothing kept yet. -/
theorem isKept77n {w : World} {D : DF} {N : DN} {pb : Nat} {p : List Ins} (hB : Blk w.heap D.db (dcl D (.slice none 0 0) N) 112) (hl : 0 < p.length) (hl2 : p.length ≤ 64) :
    Ret Tryz.prog 77 [ptr D.db, pgs pb p.length] w (fun v w' => v = .bool false ∧ w = w') := by
  refine ret_of Tryz.func77 rfl Tryz.ntmps77 rfl ?_
  refine c_seq (fun K1 hK1 => ?_)
  refine c_reg ?_ -- region 0 cache.go:13
  refine wl (ro_assign rfl) ?_
  refine wl_nil (x_then (hK1 _ _ ?_))
  clear hK1 K1
  refine c_seq (fun K2 hK2 => ?_)
  refine c_seq (fun K3 hK3 => ?_)
  refine c_reg ?_ -- region 1 cache.go:14
  refine wl (ro_move rfl) ?_
  refine wl (ro_lenL rfl se_109) ?_
  refine wl (ro_move rfl) ?_
  refine wl (ro_nilCheck rfl) ?_
  refine wl (ro_fieldAddr (k := 0) rfl fo_112_0) ?_
  refine wl (ro_loadB rfl sc_109 (hB) (rfl)) ?_
  refine wl (ro_lenL rfl se_109) ?_
  refine wl (ro_cmp (r := true) rfl rfl (congrArg some ((bnec p.length 0).trans (decide_eq_true (by omega))))) ?_
  refine wl_nil (x_then (hK3 _ _ ?_))
  clear hK3 K3
  refine wc_condT rfl ?_
  refine c_seq (fun K4 hK4 => ?_)
  refine c_reg ?_ -- region 2 cache.go:15
  refine wl (ro_assign rfl) ?_
  refine wl_nil (x_then (hK4 _ _ ?_))
  clear hK4 K4
  refine c_ret (x_thenR ?_)
  refine bp_ret Tryz.results77 rfl ?_
  exact ⟨rfl, rfl⟩

end Go.Proofs.Qxb6500567aGreat
