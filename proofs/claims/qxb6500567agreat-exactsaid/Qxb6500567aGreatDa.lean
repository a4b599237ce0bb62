import Derived.Test.Qxb6500567aGreatCl
import Derived.Test.Qxb6500567aGreatFf
import Derived.Test.Qxb6500567aGreatPk
/- The real simplifier: shapes and sizes. -/
namespace Go.Proofs.Qxb6500567aGreat
set_option linter.unusedVariables false
set_option linter.unusedSimpArgs false

theorem lid100 {w : World} {n : Nat} : Ret Tryz.prog 100 [i64c n] w (fun r w' => r = i64c (min n 32) ∧ w' = w) := by
  by_cases h : 31 < n
  · skip
    refine ret_of Tryz.func100 rfl Tryz.ntmps100 rfl ?_
    refine c_seq (fun K1 hK1 => ?_)
    refine c_reg ?_ -- region 0 measure.go:6
    refine wl (ro_assign rfl) ?_
    refine wl_nil (x_then (hK1 _ _ ?_))
    clear hK1 K1
    refine c_seq (fun K2 hK2 => ?_)
    refine c_seq (fun K3 hK3 => ?_)
    refine c_reg ?_ -- region 1 measure.go:7
    refine wl (ro_move rfl) ?_
    refine wl (ro_cmp (r := true) rfl rfl (congrArg some (decide_eq_true (by omega)))) ?_
    refine wl_nil (x_then (hK3 _ _ ?_))
    clear hK3 K3
    refine wc_condT rfl ?_
    refine c_seq (fun K4 hK4 => ?_)
    refine c_reg ?_ -- region 2 measure.go:8
    refine wl (ro_assign rfl) ?_
    refine wl_nil (x_then (hK4 _ _ ?_))
    clear hK4 K4
    refine c_ret (x_thenR ?_)
    refine bp_ret Tryz.results100 rfl ?_
    exact ⟨by rw [show min n 32 = 32 by omega]; rfl, rfl⟩
  · skip
    refine ret_of Tryz.func100 rfl Tryz.ntmps100 rfl ?_
    refine c_seq (fun K1 hK1 => ?_)
    refine c_reg ?_ -- region 0 measure.go:6
    refine wl (ro_assign rfl) ?_
    refine wl_nil (x_then (hK1 _ _ ?_))
    clear hK1 K1
    refine c_seq (fun K2 hK2 => ?_)
    refine c_seq (fun K3 hK3 => ?_)
    refine c_reg ?_ -- region 1 measure.go:7
    refine wl (ro_move rfl) ?_
    refine wl (ro_cmp (r := false) rfl rfl (congrArg some (decide_eq_false (by omega)))) ?_
    refine wl_nil (x_then (hK3 _ _ ?_))
    clear hK3 K3
    refine wc_condF rfl ?_
    refine c_skip (x_then (hK2 _ _ ?_))
    clear hK2 K2
    refine forget [(0, _)] ⟨rfl, trivial⟩ (fun e => ?_)
    refine c_seq (fun K4 hK4 => ?_)
    refine c_reg ?_ -- region 3 measure.go:10
    refine wl (ro_move rfl) ?_
    refine wl (ro_assign rfl) ?_
    refine wl_nil (x_then (hK4 _ _ ?_))
    clear hK4 K4
    refine c_ret ?_
    refine bp_ret Tryz.results100 rfl ?_
    exact ⟨by rw [show min n 32 = n by omega]; rfl, rfl⟩

/-- A whole slice of its own. -/
abbrev sl (b n : Nat) : Value := .slice (some ⟨b, 0, none⟩) n n

/-- The blocks of the simplifier. -/
structure SB where
  sb : Nat
  xb : Nat
  hb : Nat
  zb : Nat
  ob : Nat
  kb : Nat
  rb : Nat

abbrev SB.cells (B : SB) (no nw nr : Nat) : List Value := [ptr B.xb, sl B.hb 24, sl B.zb 24, sl B.ob 31, i64c no, sl B.kb 49, i64c nw, sl B.rb 25, i64c nr]

/-- Shapes and sizes. -/
structure SZ (w : World) (B : SB) (no nw nr : Nat) (fh fz : Nat → Value) : Prop where
  s : Blk w.heap B.sb (B.cells no nw nr) 101
  h : FB w.heap B.hb 24 fh 3
  z : FB w.heap B.zb 24 fz 3

theorem cat98 {w : World} {B : SB} {no nw nr : Nat} {fh fz : Nat → Value} {a b sa za sb zb : Nat} (V : SZ w B no nw nr fh fz) (ha : a < 24) (hb : b < 24) (h1 : fh a = i64c sa) (h2 : fz a = i64c za) (h3 : fh b = i64c sb) (h4 : fz b = i64c zb) (hz1 : za ≤ 32) (hz2 : zb ≤ 32) :
    Ret Tryz.prog 98 [ptr B.sb, i64c a, i64c b] w (fun r w' => r = .tuple #[i64c (catM sa za sb zb).1, i64c (catM sa za sb zb).2] ∧ Fram none' w w') := by
  have hF : Fram none' w w := Fram.refl _ _
  have hB := V.s
  have hH := V.h
  have hZ := V.z
  unfold catM
  have hq : (sa = 1) ∨ (sa ≠ 1 ∧ sb = 1) ∨ (sa = 0 ∧ sb ≠ 1) ∨ (sa ≠ 0 ∧ sa ≠ 1 ∧ sb = 0) ∨ (sa ≠ 0 ∧ sa ≠ 1 ∧ sb ≠ 0 ∧ sb ≠ 1) := by omega
  refine ret_of Tryz.func98 rfl Tryz.ntmps98 rfl ?_
  refine c_seq (fun K1 hK1 => ?_)
  refine c_reg ?_ -- region 0 measure.go:48
  refine wl (ro_assign rfl) ?_
  refine wl (ro_assign rfl) ?_
  refine wl_nil (x_then (hK1 _ _ ?_))
  clear hK1 K1
  refine forget [(0, _), (1, _), (2, _)] ⟨rfl, rfl, rfl, trivial⟩ (fun e => ?_)
  refine c_seq (fun K2 hK2 => ?_)
  refine c_pi [(0, false), (1, false), (2, false), (3, false), (4, false), (5, false), (6, false), (7, false), (8, false), (9, false), (10, false), (11, false), (12, false), (13, false), (14, false), (15, false)] (SameH _) mixed (by kernel_rfl) rfl (by kernel_rfl) (po_then (po_bp)) (sameH_now _ _) ?_ -- region 1 measure.go:49
  refine pi_ro rfl (fun w hS => ro_move rfl) ?_
  refine pi_ro rfl (fun w hS => ro_nilCheck rfl) ?_
  refine pi_ro rfl (fun w hS => ro_fieldAddr (k := 1) rfl fo_101_1) ?_
  refine pi_ro rfl (fun w hS => ro_loadB rfl sc_97 (Blk.of_heap hB hS) (rfl)) ?_
  refine pi_ro rfl (fun w hS => ro_move rfl) ?_
  refine pi_ro rfl (fun w hS => ro_indexAddr (et := 3) (k := 1) rfl rfl se_97 (rfl) (ha)) ?_
  refine pi_ro rfl (fun w hS => ro_loadB rfl sc_3 (Blk.of_heap hH hS) (cel_at (by omega) (by omega) h1)) ?_
  refine pi_ro rfl (fun w hS => ro_move rfl) ?_
  refine pi_ro rfl (fun w hS => ro_nilCheck rfl) ?_
  refine pi_ro rfl (fun w hS => ro_fieldAddr (k := 1) rfl fo_101_1) ?_
  refine pi_ro rfl (fun w hS => ro_loadB rfl sc_97 (Blk.of_heap hB hS) (rfl)) ?_
  refine pi_ro rfl (fun w hS => ro_move rfl) ?_
  refine pi_ro rfl (fun w hS => ro_indexAddr (et := 3) (k := 1) rfl rfl se_97 (rfl) (hb)) ?_
  refine pi_ro rfl (fun w hS => ro_loadB rfl sc_3 (Blk.of_heap hH hS) (cel_at (by omega) (by omega) h3)) ?_
  refine pi_ro rfl (fun w hS => ro_assign rfl) ?_
  refine pi_ro rfl (fun w hS => ro_assign rfl) ?_
  refine pi_nil (x_then (hK2 _ _ ?_))
  clear hK2 K2
  refine c_seq (fun K3 hK3 => ?_)
  refine c_seq (fun K4 hK4 => ?_)
  rcases hq with q | q | q | q | q
  · skip
    refine c_reg ?_ -- region 2 measure.go:50
    refine wl (ro_move rfl) ?_
    refine wl (ro_cmp (r := true) rfl rfl (congrArg some ((beqc sa 1).trans (decide_eq_true (by omega))))) ?_
    refine wl (ro_move rfl) ?_
    refine wlg_no rfl ?_
    refine wlg_no rfl ?_
    refine wl (ro_pick rfl rfl rfl) ?_
    refine wl_nil (x_then (hK4 _ _ ?_))
    clear hK4 K4
    refine wc_condT rfl ?_
    refine c_seq (fun K5 hK5 => ?_)
    refine c_reg ?_ -- region 3 measure.go:51
    refine wl (ro_assign rfl) ?_
    refine wl (ro_assign rfl) ?_
    refine wl_nil (x_then (hK5 _ _ ?_))
    clear hK5 K5
    refine c_ret (x_thenR ?_)
    refine bp_ret Tryz.results98 rfl ?_
    rw [if_pos (by omega)]; exact ⟨rfl, hF.thenDrew⟩
  · skip
    refine c_reg ?_ -- region 2 measure.go:50
    refine wl (ro_move rfl) ?_
    refine wl (ro_cmp (r := false) rfl rfl (congrArg some ((beqc sa 1).trans (decide_eq_false (by omega))))) ?_
    refine wl (ro_move rfl) ?_
    refine wlg_yes rfl (ro_move rfl) ?_
    refine wlg_yes rfl (ro_cmp (r := true) rfl rfl (congrArg some ((beqc sb 1).trans (decide_eq_true (by omega))))) ?_
    refine wl (ro_pick rfl rfl rfl) ?_
    refine wl_nil (x_then (hK4 _ _ ?_))
    clear hK4 K4
    refine wc_condT rfl ?_
    refine c_seq (fun K6 hK6 => ?_)
    refine c_reg ?_ -- region 3 measure.go:51
    refine wl (ro_assign rfl) ?_
    refine wl (ro_assign rfl) ?_
    refine wl_nil (x_then (hK6 _ _ ?_))
    clear hK6 K6
    refine c_ret (x_thenR ?_)
    refine bp_ret Tryz.results98 rfl ?_
    rw [if_pos (by omega)]; exact ⟨rfl, hF.thenDrew⟩
  · skip
    refine c_reg ?_ -- region 2 measure.go:50
    refine wl (ro_move rfl) ?_
    refine wl (ro_cmp (r := false) rfl rfl (congrArg some ((beqc sa 1).trans (decide_eq_false (by omega))))) ?_
    refine wl (ro_move rfl) ?_
    refine wlg_yes rfl (ro_move rfl) ?_
    refine wlg_yes rfl (ro_cmp (r := false) rfl rfl (congrArg some ((beqc sb 1).trans (decide_eq_false (by omega))))) ?_
    refine wl (ro_pick rfl rfl rfl) ?_
    refine wl_nil (x_then (hK4 _ _ ?_))
    clear hK4 K4
    refine wc_condF rfl ?_
    refine c_skip (x_then (hK3 _ _ ?_))
    clear hK3 K3
    refine c_seq (fun K7 hK7 => ?_)
    refine c_seq (fun K8 hK8 => ?_)
    refine c_reg ?_ -- region 4 measure.go:53
    refine wl (ro_move rfl) ?_
    refine wl (ro_cmp (r := true) rfl rfl (congrArg some ((beqc sa 0).trans (decide_eq_true (by omega))))) ?_
    refine wl_nil (x_then (hK8 _ _ ?_))
    clear hK8 K8
    refine wc_condT rfl ?_
    refine c_seq (fun K9 hK9 => ?_)
    refine c_pi [(0, false), (1, false), (2, false), (3, false), (4, false), (5, false), (6, false), (7, false), (8, false), (9, false)] (SameH _) mixed (by kernel_rfl) rfl (by kernel_rfl) (po_then (po_then (po_bp))) (sameH_now _ _) ?_ -- region 5 measure.go:54
    refine pi_ro rfl (fun w hS => ro_move rfl) ?_
    refine pi_ro rfl (fun w hS => ro_move rfl) ?_
    refine pi_ro rfl (fun w hS => ro_nilCheck rfl) ?_
    refine pi_ro rfl (fun w hS => ro_fieldAddr (k := 2) rfl fo_101_2) ?_
    refine pi_ro rfl (fun w hS => ro_loadB rfl sc_97 (Blk.of_heap hB hS) (rfl)) ?_
    refine pi_ro rfl (fun w hS => ro_move rfl) ?_
    refine pi_ro rfl (fun w hS => ro_indexAddr (et := 3) (k := 1) rfl rfl se_97 (rfl) (hb)) ?_
    refine pi_ro rfl (fun w hS => ro_loadB rfl sc_3 (Blk.of_heap hZ hS) (cel_at (by omega) (by omega) h4)) ?_
    refine pi_ro rfl (fun w hS => ro_assign rfl) ?_
    refine pi_ro rfl (fun w hS => ro_assign rfl) ?_
    refine pi_nil (x_then (hK9 _ _ ?_))
    clear hK9 K9
    refine c_ret (x_thenR ?_)
    refine bp_ret Tryz.results98 rfl ?_
    rw [if_neg (by omega), if_pos (by omega)]; exact ⟨rfl, hF.thenDrew.thenDrew⟩
  · skip
    refine c_reg ?_ -- region 2 measure.go:50
    refine wl (ro_move rfl) ?_
    refine wl (ro_cmp (r := false) rfl rfl (congrArg some ((beqc sa 1).trans (decide_eq_false (by omega))))) ?_
    refine wl (ro_move rfl) ?_
    refine wlg_yes rfl (ro_move rfl) ?_
    refine wlg_yes rfl (ro_cmp (r := false) rfl rfl (congrArg some ((beqc sb 1).trans (decide_eq_false (by omega))))) ?_
    refine wl (ro_pick rfl rfl rfl) ?_
    refine wl_nil (x_then (hK4 _ _ ?_))
    clear hK4 K4
    refine wc_condF rfl ?_
    refine c_skip (x_then (hK3 _ _ ?_))
    clear hK3 K3
    refine c_seq (fun K10 hK10 => ?_)
    refine c_seq (fun K11 hK11 => ?_)
    refine c_reg ?_ -- region 4 measure.go:53
    refine wl (ro_move rfl) ?_
    refine wl (ro_cmp (r := false) rfl rfl (congrArg some ((beqc sa 0).trans (decide_eq_false (by omega))))) ?_
    refine wl_nil (x_then (hK11 _ _ ?_))
    clear hK11 K11
    refine wc_condF rfl ?_
    refine c_skip (x_then (hK10 _ _ ?_))
    clear hK10 K10
    refine c_seq (fun K12 hK12 => ?_)
    refine c_seq (fun K13 hK13 => ?_)
    refine c_reg ?_ -- region 6 measure.go:56
    refine wl (ro_move rfl) ?_
    refine wl (ro_cmp (r := true) rfl rfl (congrArg some ((beqc sb 0).trans (decide_eq_true (by omega))))) ?_
    refine wl_nil (x_then (hK13 _ _ ?_))
    clear hK13 K13
    refine wc_condT rfl ?_
    refine c_seq (fun K14 hK14 => ?_)
    refine c_pi [(0, false), (1, false), (2, false), (3, false), (4, false), (5, false), (6, false), (7, false), (8, false)] (SameH _) mixed (by kernel_rfl) rfl (by kernel_rfl) (po_then (po_then (po_bp))) (sameH_now _ _) ?_ -- region 7 measure.go:57
    refine pi_ro rfl (fun w hS => ro_move rfl) ?_
    refine pi_ro rfl (fun w hS => ro_nilCheck rfl) ?_
    refine pi_ro rfl (fun w hS => ro_fieldAddr (k := 2) rfl fo_101_2) ?_
    refine pi_ro rfl (fun w hS => ro_loadB rfl sc_97 (Blk.of_heap hB hS) (rfl)) ?_
    refine pi_ro rfl (fun w hS => ro_move rfl) ?_
    refine pi_ro rfl (fun w hS => ro_indexAddr (et := 3) (k := 1) rfl rfl se_97 (rfl) (ha)) ?_
    refine pi_ro rfl (fun w hS => ro_loadB rfl sc_3 (Blk.of_heap hZ hS) (cel_at (by omega) (by omega) h2)) ?_
    refine pi_ro rfl (fun w hS => ro_assign rfl) ?_
    refine pi_ro rfl (fun w hS => ro_assign rfl) ?_
    refine pi_nil (x_then (hK14 _ _ ?_))
    clear hK14 K14
    refine c_ret (x_thenR ?_)
    refine bp_ret Tryz.results98 rfl ?_
    rw [if_neg (by omega), if_neg (by omega), if_pos (by omega)]; exact ⟨rfl, hF.thenDrew.thenDrew⟩
  · skip
    refine c_reg ?_ -- region 2 measure.go:50
    refine wl (ro_move rfl) ?_
    refine wl (ro_cmp (r := false) rfl rfl (congrArg some ((beqc sa 1).trans (decide_eq_false (by omega))))) ?_
    refine wl (ro_move rfl) ?_
    refine wlg_yes rfl (ro_move rfl) ?_
    refine wlg_yes rfl (ro_cmp (r := false) rfl rfl (congrArg some ((beqc sb 1).trans (decide_eq_false (by omega))))) ?_
    refine wl (ro_pick rfl rfl rfl) ?_
    refine wl_nil (x_then (hK4 _ _ ?_))
    clear hK4 K4
    refine wc_condF rfl ?_
    refine c_skip (x_then (hK3 _ _ ?_))
    clear hK3 K3
    refine c_seq (fun K15 hK15 => ?_)
    refine c_seq (fun K16 hK16 => ?_)
    refine c_reg ?_ -- region 4 measure.go:53
    refine wl (ro_move rfl) ?_
    refine wl (ro_cmp (r := false) rfl rfl (congrArg some ((beqc sa 0).trans (decide_eq_false (by omega))))) ?_
    refine wl_nil (x_then (hK16 _ _ ?_))
    clear hK16 K16
    refine wc_condF rfl ?_
    refine c_skip (x_then (hK15 _ _ ?_))
    clear hK15 K15
    refine c_seq (fun K17 hK17 => ?_)
    refine c_seq (fun K18 hK18 => ?_)
    refine c_reg ?_ -- region 6 measure.go:56
    refine wl (ro_move rfl) ?_
    refine wl (ro_cmp (r := false) rfl rfl (congrArg some ((beqc sb 0).trans (decide_eq_false (by omega))))) ?_
    refine wl_nil (x_then (hK18 _ _ ?_))
    clear hK18 K18
    refine wc_condF rfl ?_
    refine c_skip (x_then (hK17 _ _ ?_))
    clear hK17 K17
    refine forget [(0, _), (1, _), (2, _)] ⟨rfl, rfl, rfl, trivial⟩ (fun e => ?_)
    refine c_seq (fun K19 hK19 => ?_)
    refine c_pi [(0, false), (1, false), (2, false), (3, false), (4, false), (5, false), (6, false), (7, false), (8, false), (9, false), (10, false), (11, false), (12, false), (13, false), (14, false), (15, false), (16, true), (17, false), (18, false)] (SameH _) mixed (by kernel_rfl) rfl (by kernel_rfl) (po_then (po_bp)) (sameH_now _ _) ?_ -- region 8 measure.go:59
    refine pi_ro rfl (fun w hS => ro_move rfl) ?_
    refine pi_ro rfl (fun w hS => ro_nilCheck rfl) ?_
    refine pi_ro rfl (fun w hS => ro_fieldAddr (k := 2) rfl fo_101_2) ?_
    refine pi_ro rfl (fun w hS => ro_loadB rfl sc_97 (Blk.of_heap hB hS) (rfl)) ?_
    refine pi_ro rfl (fun w hS => ro_move rfl) ?_
    refine pi_ro rfl (fun w hS => ro_indexAddr (et := 3) (k := 1) rfl rfl se_97 (rfl) (ha)) ?_
    refine pi_ro rfl (fun w hS => ro_loadB rfl sc_3 (Blk.of_heap hZ hS) (cel_at (by omega) (by omega) h2)) ?_
    refine pi_ro rfl (fun w hS => ro_move rfl) ?_
    refine pi_ro rfl (fun w hS => ro_nilCheck rfl) ?_
    refine pi_ro rfl (fun w hS => ro_fieldAddr (k := 2) rfl fo_101_2) ?_
    refine pi_ro rfl (fun w hS => ro_loadB rfl sc_97 (Blk.of_heap hB hS) (rfl)) ?_
    refine pi_ro rfl (fun w hS => ro_move rfl) ?_
    refine pi_ro rfl (fun w hS => ro_indexAddr (et := 3) (k := 1) rfl rfl se_97 (rfl) (hb)) ?_
    refine pi_ro rfl (fun w hS => ro_loadB rfl sc_3 (Blk.of_heap hZ hS) (cel_at (by omega) (by omega) h4)) ?_
    refine pi_ro rfl (fun w hS => ro_arith rfl rfl rfl (Go.IntWalk.i64_in _ (by omega))) ?_
    refine pi_ro rfl (fun w hS => ro_arith rfl rfl rfl (Go.IntWalk.i64_in _ (by omega))) ?_
    refine pi_call rfl rfl en_100 (lid100 (n := za + zb + 1)) ?_
    rintro _ _ ⟨rfl, rfl⟩
    refine ⟨sameH_now _ _, ?_⟩
    refine pi_ro rfl (fun w hS => ro_assign rfl) ?_
    refine pi_ro rfl (fun w hS => ro_assign rfl) ?_
    refine pi_nil (x_then (hK19 _ _ ?_))
    clear hK19 K19
    refine c_ret ?_
    refine bp_ret Tryz.results98 rfl ?_
    rw [if_neg (by omega), if_neg (by omega), if_neg (by omega)]; exact ⟨rfl, hF.thenDrew.thenDrew⟩

theorem alt99 {w : World} {B : SB} {no nw nr : Nat} {fh fz : Nat → Value} {a b sa za sb zb : Nat} (V : SZ w B no nw nr fh fz) (ha : a < 24) (hb : b < 24) (h1 : fh a = i64c sa) (h2 : fz a = i64c za) (h3 : fh b = i64c sb) (h4 : fz b = i64c zb) (hz1 : za ≤ 32) (hz2 : zb ≤ 32) :
    Ret Tryz.prog 99 [ptr B.sb, i64c a, i64c b] w (fun r w' => r = .tuple #[i64c (altM sa za sb zb).1, i64c (altM sa za sb zb).2] ∧ Fram none' w w') := by
  have hF : Fram none' w w := Fram.refl _ _
  have hB := V.s
  have hH := V.h
  have hZ := V.z
  unfold altM
  have hq : (sa = 1) ∨ (sa ≠ 1 ∧ sb = 1) ∨ (sa = 0 ∧ sb = 0) ∨ (sa ≠ 0 ∧ sa ≠ 1 ∧ sb ≠ 1) ∨ (sa = 0 ∧ sb ≠ 0 ∧ sb ≠ 1) := by omega
  refine ret_of Tryz.func99 rfl Tryz.ntmps99 rfl ?_
  refine c_seq (fun K1 hK1 => ?_)
  refine c_reg ?_ -- region 0 measure.go:63
  refine wl (ro_assign rfl) ?_
  refine wl (ro_assign rfl) ?_
  refine wl_nil (x_then (hK1 _ _ ?_))
  clear hK1 K1
  refine forget [(0, _), (1, _), (2, _)] ⟨rfl, rfl, rfl, trivial⟩ (fun e => ?_)
  refine c_seq (fun K2 hK2 => ?_)
  refine c_pi [(0, false), (1, false), (2, false), (3, false), (4, false), (5, false), (6, false), (7, false), (8, false), (9, false), (10, false), (11, false), (12, false), (13, false), (14, false), (15, false)] (SameH _) mixed (by kernel_rfl) rfl (by kernel_rfl) (po_then (po_bp)) (sameH_now _ _) ?_ -- region 1 measure.go:64
  refine pi_ro rfl (fun w hS => ro_move rfl) ?_
  refine pi_ro rfl (fun w hS => ro_nilCheck rfl) ?_
  refine pi_ro rfl (fun w hS => ro_fieldAddr (k := 1) rfl fo_101_1) ?_
  refine pi_ro rfl (fun w hS => ro_loadB rfl sc_97 (Blk.of_heap hB hS) (rfl)) ?_
  refine pi_ro rfl (fun w hS => ro_move rfl) ?_
  refine pi_ro rfl (fun w hS => ro_indexAddr (et := 3) (k := 1) rfl rfl se_97 (rfl) (ha)) ?_
  refine pi_ro rfl (fun w hS => ro_loadB rfl sc_3 (Blk.of_heap hH hS) (cel_at (by omega) (by omega) h1)) ?_
  refine pi_ro rfl (fun w hS => ro_move rfl) ?_
  refine pi_ro rfl (fun w hS => ro_nilCheck rfl) ?_
  refine pi_ro rfl (fun w hS => ro_fieldAddr (k := 1) rfl fo_101_1) ?_
  refine pi_ro rfl (fun w hS => ro_loadB rfl sc_97 (Blk.of_heap hB hS) (rfl)) ?_
  refine pi_ro rfl (fun w hS => ro_move rfl) ?_
  refine pi_ro rfl (fun w hS => ro_indexAddr (et := 3) (k := 1) rfl rfl se_97 (rfl) (hb)) ?_
  refine pi_ro rfl (fun w hS => ro_loadB rfl sc_3 (Blk.of_heap hH hS) (cel_at (by omega) (by omega) h3)) ?_
  refine pi_ro rfl (fun w hS => ro_assign rfl) ?_
  refine pi_ro rfl (fun w hS => ro_assign rfl) ?_
  refine pi_nil (x_then (hK2 _ _ ?_))
  clear hK2 K2
  refine c_seq (fun K3 hK3 => ?_)
  refine c_seq (fun K4 hK4 => ?_)
  rcases hq with q | q | q | q | q
  · skip
    refine c_reg ?_ -- region 2 measure.go:65
    refine wl (ro_move rfl) ?_
    refine wl (ro_cmp (r := true) rfl rfl (congrArg some ((beqc sa 1).trans (decide_eq_true (by omega))))) ?_
    refine wl_nil (x_then (hK4 _ _ ?_))
    clear hK4 K4
    refine wc_condT rfl ?_
    refine c_seq (fun K5 hK5 => ?_)
    refine c_pi [(0, false), (1, false), (2, false), (3, false), (4, false), (5, false), (6, false), (7, false), (8, false), (9, false)] (SameH _) mixed (by kernel_rfl) rfl (by kernel_rfl) (po_then (po_then (po_bp))) (sameH_now _ _) ?_ -- region 3 measure.go:66
    refine pi_ro rfl (fun w hS => ro_move rfl) ?_
    refine pi_ro rfl (fun w hS => ro_move rfl) ?_
    refine pi_ro rfl (fun w hS => ro_nilCheck rfl) ?_
    refine pi_ro rfl (fun w hS => ro_fieldAddr (k := 2) rfl fo_101_2) ?_
    refine pi_ro rfl (fun w hS => ro_loadB rfl sc_97 (Blk.of_heap hB hS) (rfl)) ?_
    refine pi_ro rfl (fun w hS => ro_move rfl) ?_
    refine pi_ro rfl (fun w hS => ro_indexAddr (et := 3) (k := 1) rfl rfl se_97 (rfl) (hb)) ?_
    refine pi_ro rfl (fun w hS => ro_loadB rfl sc_3 (Blk.of_heap hZ hS) (cel_at (by omega) (by omega) h4)) ?_
    refine pi_ro rfl (fun w hS => ro_assign rfl) ?_
    refine pi_ro rfl (fun w hS => ro_assign rfl) ?_
    refine pi_nil (x_then (hK5 _ _ ?_))
    clear hK5 K5
    refine c_ret (x_thenR ?_)
    refine bp_ret Tryz.results99 rfl ?_
    rw [if_pos (by omega)]; exact ⟨rfl, hF.thenDrew.thenDrew⟩
  · skip
    refine c_reg ?_ -- region 2 measure.go:65
    refine wl (ro_move rfl) ?_
    refine wl (ro_cmp (r := false) rfl rfl (congrArg some ((beqc sa 1).trans (decide_eq_false (by omega))))) ?_
    refine wl_nil (x_then (hK4 _ _ ?_))
    clear hK4 K4
    refine wc_condF rfl ?_
    refine c_skip (x_then (hK3 _ _ ?_))
    clear hK3 K3
    refine c_seq (fun K6 hK6 => ?_)
    refine c_seq (fun K7 hK7 => ?_)
    refine c_reg ?_ -- region 4 measure.go:68
    refine wl (ro_move rfl) ?_
    refine wl (ro_cmp (r := true) rfl rfl (congrArg some ((beqc sb 1).trans (decide_eq_true (by omega))))) ?_
    refine wl_nil (x_then (hK7 _ _ ?_))
    clear hK7 K7
    refine wc_condT rfl ?_
    refine c_seq (fun K8 hK8 => ?_)
    refine c_pi [(0, false), (1, false), (2, false), (3, false), (4, false), (5, false), (6, false), (7, false), (8, false), (9, false)] (SameH _) mixed (by kernel_rfl) rfl (by kernel_rfl) (po_then (po_then (po_bp))) (sameH_now _ _) ?_ -- region 5 measure.go:69
    refine pi_ro rfl (fun w hS => ro_move rfl) ?_
    refine pi_ro rfl (fun w hS => ro_move rfl) ?_
    refine pi_ro rfl (fun w hS => ro_nilCheck rfl) ?_
    refine pi_ro rfl (fun w hS => ro_fieldAddr (k := 2) rfl fo_101_2) ?_
    refine pi_ro rfl (fun w hS => ro_loadB rfl sc_97 (Blk.of_heap hB hS) (rfl)) ?_
    refine pi_ro rfl (fun w hS => ro_move rfl) ?_
    refine pi_ro rfl (fun w hS => ro_indexAddr (et := 3) (k := 1) rfl rfl se_97 (rfl) (ha)) ?_
    refine pi_ro rfl (fun w hS => ro_loadB rfl sc_3 (Blk.of_heap hZ hS) (cel_at (by omega) (by omega) h2)) ?_
    refine pi_ro rfl (fun w hS => ro_assign rfl) ?_
    refine pi_ro rfl (fun w hS => ro_assign rfl) ?_
    refine pi_nil (x_then (hK8 _ _ ?_))
    clear hK8 K8
    refine c_ret (x_thenR ?_)
    refine bp_ret Tryz.results99 rfl ?_
    rw [if_neg (by omega), if_pos (by omega)]; exact ⟨rfl, hF.thenDrew.thenDrew⟩
  · skip
    refine c_reg ?_ -- region 2 measure.go:65
    refine wl (ro_move rfl) ?_
    refine wl (ro_cmp (r := false) rfl rfl (congrArg some ((beqc sa 1).trans (decide_eq_false (by omega))))) ?_
    refine wl_nil (x_then (hK4 _ _ ?_))
    clear hK4 K4
    refine wc_condF rfl ?_
    refine c_skip (x_then (hK3 _ _ ?_))
    clear hK3 K3
    refine c_seq (fun K9 hK9 => ?_)
    refine c_seq (fun K10 hK10 => ?_)
    refine c_reg ?_ -- region 4 measure.go:68
    refine wl (ro_move rfl) ?_
    refine wl (ro_cmp (r := false) rfl rfl (congrArg some ((beqc sb 1).trans (decide_eq_false (by omega))))) ?_
    refine wl_nil (x_then (hK10 _ _ ?_))
    clear hK10 K10
    refine wc_condF rfl ?_
    refine c_skip (x_then (hK9 _ _ ?_))
    clear hK9 K9
    refine c_seq (fun K11 hK11 => ?_)
    refine c_seq (fun K12 hK12 => ?_)
    refine c_reg ?_ -- region 6 measure.go:71
    refine wl (ro_move rfl) ?_
    refine wl (ro_cmp (r := true) rfl rfl (congrArg some ((beqc sa 0).trans (decide_eq_true (by omega))))) ?_
    refine wl (ro_move rfl) ?_
    refine wlg_yes rfl (ro_move rfl) ?_
    refine wlg_yes rfl (ro_cmp (r := true) rfl rfl (congrArg some ((beqc sb 0).trans (decide_eq_true (by omega))))) ?_
    refine wl (ro_pick rfl rfl rfl) ?_
    refine wl_nil (x_then (hK12 _ _ ?_))
    clear hK12 K12
    refine wc_condT rfl ?_
    refine c_seq (fun K13 hK13 => ?_)
    refine c_reg ?_ -- region 7 measure.go:72
    refine wl (ro_assign rfl) ?_
    refine wl (ro_assign rfl) ?_
    refine wl_nil (x_then (hK13 _ _ ?_))
    clear hK13 K13
    refine c_ret (x_thenR ?_)
    refine bp_ret Tryz.results99 rfl ?_
    rw [if_neg (by omega), if_neg (by omega), if_pos (by omega)]; exact ⟨rfl, hF.thenDrew⟩
  · skip
    refine c_reg ?_ -- region 2 measure.go:65
    refine wl (ro_move rfl) ?_
    refine wl (ro_cmp (r := false) rfl rfl (congrArg some ((beqc sa 1).trans (decide_eq_false (by omega))))) ?_
    refine wl_nil (x_then (hK4 _ _ ?_))
    clear hK4 K4
    refine wc_condF rfl ?_
    refine c_skip (x_then (hK3 _ _ ?_))
    clear hK3 K3
    refine c_seq (fun K14 hK14 => ?_)
    refine c_seq (fun K15 hK15 => ?_)
    refine c_reg ?_ -- region 4 measure.go:68
    refine wl (ro_move rfl) ?_
    refine wl (ro_cmp (r := false) rfl rfl (congrArg some ((beqc sb 1).trans (decide_eq_false (by omega))))) ?_
    refine wl_nil (x_then (hK15 _ _ ?_))
    clear hK15 K15
    refine wc_condF rfl ?_
    refine c_skip (x_then (hK14 _ _ ?_))
    clear hK14 K14
    refine c_seq (fun K16 hK16 => ?_)
    refine c_seq (fun K17 hK17 => ?_)
    refine c_reg ?_ -- region 6 measure.go:71
    refine wl (ro_move rfl) ?_
    refine wl (ro_cmp (r := false) rfl rfl (congrArg some ((beqc sa 0).trans (decide_eq_false (by omega))))) ?_
    refine wl (ro_move rfl) ?_
    refine wlg_no rfl ?_
    refine wlg_no rfl ?_
    refine wl (ro_pick rfl rfl rfl) ?_
    refine wl_nil (x_then (hK17 _ _ ?_))
    clear hK17 K17
    refine wc_condF rfl ?_
    refine c_skip (x_then (hK16 _ _ ?_))
    clear hK16 K16
    refine forget [(0, _), (1, _), (2, _)] ⟨rfl, rfl, rfl, trivial⟩ (fun e => ?_)
    refine c_seq (fun K18 hK18 => ?_)
    refine c_pi [(0, false), (1, false), (2, false), (3, false), (4, false), (5, false), (6, false), (7, false), (8, false), (9, false), (10, false), (11, false), (12, false), (13, false), (14, false), (15, false), (16, true), (17, false), (18, false)] (SameH _) mixed (by kernel_rfl) rfl (by kernel_rfl) (po_then (po_bp)) (sameH_now _ _) ?_ -- region 8 measure.go:74
    refine pi_ro rfl (fun w hS => ro_move rfl) ?_
    refine pi_ro rfl (fun w hS => ro_nilCheck rfl) ?_
    refine pi_ro rfl (fun w hS => ro_fieldAddr (k := 2) rfl fo_101_2) ?_
    refine pi_ro rfl (fun w hS => ro_loadB rfl sc_97 (Blk.of_heap hB hS) (rfl)) ?_
    refine pi_ro rfl (fun w hS => ro_move rfl) ?_
    refine pi_ro rfl (fun w hS => ro_indexAddr (et := 3) (k := 1) rfl rfl se_97 (rfl) (ha)) ?_
    refine pi_ro rfl (fun w hS => ro_loadB rfl sc_3 (Blk.of_heap hZ hS) (cel_at (by omega) (by omega) h2)) ?_
    refine pi_ro rfl (fun w hS => ro_move rfl) ?_
    refine pi_ro rfl (fun w hS => ro_nilCheck rfl) ?_
    refine pi_ro rfl (fun w hS => ro_fieldAddr (k := 2) rfl fo_101_2) ?_
    refine pi_ro rfl (fun w hS => ro_loadB rfl sc_97 (Blk.of_heap hB hS) (rfl)) ?_
    refine pi_ro rfl (fun w hS => ro_move rfl) ?_
    refine pi_ro rfl (fun w hS => ro_indexAddr (et := 3) (k := 1) rfl rfl se_97 (rfl) (hb)) ?_
    refine pi_ro rfl (fun w hS => ro_loadB rfl sc_3 (Blk.of_heap hZ hS) (cel_at (by omega) (by omega) h4)) ?_
    refine pi_ro rfl (fun w hS => ro_arith rfl rfl rfl (Go.IntWalk.i64_in _ (by omega))) ?_
    refine pi_ro rfl (fun w hS => ro_arith rfl rfl rfl (Go.IntWalk.i64_in _ (by omega))) ?_
    refine pi_call rfl rfl en_100 (lid100 (n := za + zb + 1)) ?_
    rintro _ _ ⟨rfl, rfl⟩
    refine ⟨sameH_now _ _, ?_⟩
    refine pi_ro rfl (fun w hS => ro_assign rfl) ?_
    refine pi_ro rfl (fun w hS => ro_assign rfl) ?_
    refine pi_nil (x_then (hK18 _ _ ?_))
    clear hK18 K18
    refine c_ret ?_
    refine bp_ret Tryz.results99 rfl ?_
    rw [if_neg (by omega), if_neg (by omega), if_neg (by omega)]; exact ⟨rfl, hF.thenDrew.thenDrew⟩
  · skip
    refine c_reg ?_ -- region 2 measure.go:65
    refine wl (ro_move rfl) ?_
    refine wl (ro_cmp (r := false) rfl rfl (congrArg some ((beqc sa 1).trans (decide_eq_false (by omega))))) ?_
    refine wl_nil (x_then (hK4 _ _ ?_))
    clear hK4 K4
    refine wc_condF rfl ?_
    refine c_skip (x_then (hK3 _ _ ?_))
    clear hK3 K3
    refine c_seq (fun K19 hK19 => ?_)
    refine c_seq (fun K20 hK20 => ?_)
    refine c_reg ?_ -- region 4 measure.go:68
    refine wl (ro_move rfl) ?_
    refine wl (ro_cmp (r := false) rfl rfl (congrArg some ((beqc sb 1).trans (decide_eq_false (by omega))))) ?_
    refine wl_nil (x_then (hK20 _ _ ?_))
    clear hK20 K20
    refine wc_condF rfl ?_
    refine c_skip (x_then (hK19 _ _ ?_))
    clear hK19 K19
    refine c_seq (fun K21 hK21 => ?_)
    refine c_seq (fun K22 hK22 => ?_)
    refine c_reg ?_ -- region 6 measure.go:71
    refine wl (ro_move rfl) ?_
    refine wl (ro_cmp (r := true) rfl rfl (congrArg some ((beqc sa 0).trans (decide_eq_true (by omega))))) ?_
    refine wl (ro_move rfl) ?_
    refine wlg_yes rfl (ro_move rfl) ?_
    refine wlg_yes rfl (ro_cmp (r := false) rfl rfl (congrArg some ((beqc sb 0).trans (decide_eq_false (by omega))))) ?_
    refine wl (ro_pick rfl rfl rfl) ?_
    refine wl_nil (x_then (hK22 _ _ ?_))
    clear hK22 K22
    refine wc_condF rfl ?_
    refine c_skip (x_then (hK21 _ _ ?_))
    clear hK21 K21
    refine forget [(0, _), (1, _), (2, _)] ⟨rfl, rfl, rfl, trivial⟩ (fun e => ?_)
    refine c_seq (fun K23 hK23 => ?_)
    refine c_pi [(0, false), (1, false), (2, false), (3, false), (4, false), (5, false), (6, false), (7, false), (8, false), (9, false), (10, false), (11, false), (12, false), (13, false), (14, false), (15, false), (16, true), (17, false), (18, false)] (SameH _) mixed (by kernel_rfl) rfl (by kernel_rfl) (po_then (po_bp)) (sameH_now _ _) ?_ -- region 8 measure.go:74
    refine pi_ro rfl (fun w hS => ro_move rfl) ?_
    refine pi_ro rfl (fun w hS => ro_nilCheck rfl) ?_
    refine pi_ro rfl (fun w hS => ro_fieldAddr (k := 2) rfl fo_101_2) ?_
    refine pi_ro rfl (fun w hS => ro_loadB rfl sc_97 (Blk.of_heap hB hS) (rfl)) ?_
    refine pi_ro rfl (fun w hS => ro_move rfl) ?_
    refine pi_ro rfl (fun w hS => ro_indexAddr (et := 3) (k := 1) rfl rfl se_97 (rfl) (ha)) ?_
    refine pi_ro rfl (fun w hS => ro_loadB rfl sc_3 (Blk.of_heap hZ hS) (cel_at (by omega) (by omega) h2)) ?_
    refine pi_ro rfl (fun w hS => ro_move rfl) ?_
    refine pi_ro rfl (fun w hS => ro_nilCheck rfl) ?_
    refine pi_ro rfl (fun w hS => ro_fieldAddr (k := 2) rfl fo_101_2) ?_
    refine pi_ro rfl (fun w hS => ro_loadB rfl sc_97 (Blk.of_heap hB hS) (rfl)) ?_
    refine pi_ro rfl (fun w hS => ro_move rfl) ?_
    refine pi_ro rfl (fun w hS => ro_indexAddr (et := 3) (k := 1) rfl rfl se_97 (rfl) (hb)) ?_
    refine pi_ro rfl (fun w hS => ro_loadB rfl sc_3 (Blk.of_heap hZ hS) (cel_at (by omega) (by omega) h4)) ?_
    refine pi_ro rfl (fun w hS => ro_arith rfl rfl rfl (Go.IntWalk.i64_in _ (by omega))) ?_
    refine pi_ro rfl (fun w hS => ro_arith rfl rfl rfl (Go.IntWalk.i64_in _ (by omega))) ?_
    refine pi_call rfl rfl en_100 (lid100 (n := za + zb + 1)) ?_
    rintro _ _ ⟨rfl, rfl⟩
    refine ⟨sameH_now _ _, ?_⟩
    refine pi_ro rfl (fun w hS => ro_assign rfl) ?_
    refine pi_ro rfl (fun w hS => ro_assign rfl) ?_
    refine pi_nil (x_then (hK23 _ _ ?_))
    clear hK23 K23
    refine c_ret ?_
    refine bp_ret Tryz.results99 rfl ?_
    rw [if_neg (by omega), if_neg (by omega), if_neg (by omega)]; exact ⟨rfl, hF.thenDrew.thenDrew⟩

theorem rep101 {w : World} {B : SB} {no nw nr : Nat} {fh fz : Nat → Value} {a sa za mn : Nat} {mx : Option Nat} (V : SZ w B no nw nr fh fz) (ha : a < 24) (h1 : fh a = i64c sa) (h2 : fz a = i64c za) (hz1 : za ≤ 32) (hz0 : 0 < za) (hmn : mn ≤ 3) (hmx : ∀ m, mx = some m → mn ≤ m ∧ m ≤ 3) :
    Ret Tryz.prog 101 [ptr B.sb, i64c a, i64c mn, icv (mxI mx)] w (fun r w' => r = .tuple #[i64c (repM sa za mn mx).1, i64c (repM sa za mn mx).2] ∧ Fram none' w w') := by
  have hF : Fram none' w w := Fram.refl _ _
  have hB := V.s
  have hH := V.h
  have hZ := V.z
  obtain ⟨M, hM, hM1, hM2⟩ : ∃ M : Int, mxI mx = M ∧ -1 ≤ M ∧ M ≤ 3 := by
    refine ⟨mxI mx, rfl, ?_⟩
    cases mx with
    | none => simp [mxI]
    | some m => have := hmx m rfl; simp only [mxI]; omega
  have hM0 : mx = some 0 ↔ M = 0 := by
    rw [← hM]
    cases mx with
    | none => simp [mxI]
    | some m => simp only [mxI, Option.some.injEq]; omega
  rw [hM]
  unfold repM
  by_cases q1 : sa = 1 ∧ 0 < mn
  · rw [if_pos q1]
    refine ret_of Tryz.func101 rfl Tryz.ntmps101 rfl ?_
    refine c_seq (fun K1 hK1 => ?_)
    refine c_reg ?_ -- region 0 measure.go:79
    refine wl (ro_assign rfl) ?_
    refine wl (ro_assign rfl) ?_
    refine wl_nil (x_then (hK1 _ _ ?_))
    clear hK1 K1
    refine forget [(0, _), (1, _), (2, _), (3, _)] ⟨rfl, rfl, rfl, rfl, trivial⟩ (fun e => ?_)
    refine c_seq (fun K2 hK2 => ?_)
    refine c_reg ?_ -- region 1 measure.go:80
    refine wl (ro_move rfl) ?_
    refine wl (ro_nilCheck rfl) ?_
    refine wl (ro_fieldAddr (k := 1) rfl fo_101_1) ?_
    refine wl (ro_loadB rfl sc_97 (hB) (rfl)) ?_
    refine wl (ro_move rfl) ?_
    refine wl (ro_indexAddr (et := 3) (k := 1) rfl rfl se_97 (rfl) (ha)) ?_
    refine wl (ro_loadB rfl sc_3 (hH) (cel_at (by omega) (by omega) h1)) ?_
    refine wl (ro_assign rfl) ?_
    refine wl_nil (x_then (hK2 _ _ ?_))
    clear hK2 K2
    refine c_seq (fun K3 hK3 => ?_)
    refine c_seq (fun K4 hK4 => ?_)
    refine c_reg ?_ -- region 2 measure.go:81
    refine wl (ro_move rfl) ?_
    refine wl (ro_cmp (r := true) rfl rfl (congrArg some ((beqc sa 1).trans (decide_eq_true (by omega))))) ?_
    refine wl (ro_move rfl) ?_
    refine wlg_yes rfl (ro_move rfl) ?_
    refine wlg_yes rfl (ro_cmp (r := true) rfl rfl (congrArg some (decide_eq_true (by omega)))) ?_
    refine wl (ro_pick rfl rfl rfl) ?_
    refine wl_nil (x_then (hK4 _ _ ?_))
    clear hK4 K4
    refine wc_condT rfl ?_
    refine c_seq (fun K5 hK5 => ?_)
    refine c_reg ?_ -- region 3 measure.go:82
    refine wl (ro_assign rfl) ?_
    refine wl (ro_assign rfl) ?_
    refine wl_nil (x_then (hK5 _ _ ?_))
    clear hK5 K5
    refine c_ret (x_thenR ?_)
    refine bp_ret Tryz.results101 rfl ?_
    exact ⟨rfl, hF⟩
  rw [if_neg q1]
  by_cases q2 : sa ≠ 2 ∨ mx = some 0
  · rw [if_pos q2]
    have hq : (sa = 1 ∧ mn = 0) ∨ (sa ≠ 1 ∧ sa ≠ 2) ∨ (sa = 2 ∧ M = 0) := by
      rw [hM0] at q2; omega
    refine ret_of Tryz.func101 rfl Tryz.ntmps101 rfl ?_
    refine c_seq (fun K1 hK1 => ?_)
    refine c_reg ?_ -- region 0 measure.go:79
    refine wl (ro_assign rfl) ?_
    refine wl (ro_assign rfl) ?_
    refine wl_nil (x_then (hK1 _ _ ?_))
    clear hK1 K1
    refine forget [(0, _), (1, _), (2, _), (3, _)] ⟨rfl, rfl, rfl, rfl, trivial⟩ (fun e => ?_)
    refine c_seq (fun K2 hK2 => ?_)
    refine c_reg ?_ -- region 1 measure.go:80
    refine wl (ro_move rfl) ?_
    refine wl (ro_nilCheck rfl) ?_
    refine wl (ro_fieldAddr (k := 1) rfl fo_101_1) ?_
    refine wl (ro_loadB rfl sc_97 (hB) (rfl)) ?_
    refine wl (ro_move rfl) ?_
    refine wl (ro_indexAddr (et := 3) (k := 1) rfl rfl se_97 (rfl) (ha)) ?_
    refine wl (ro_loadB rfl sc_3 (hH) (cel_at (by omega) (by omega) h1)) ?_
    refine wl (ro_assign rfl) ?_
    refine wl_nil (x_then (hK2 _ _ ?_))
    clear hK2 K2
    refine c_seq (fun K3 hK3 => ?_)
    refine c_seq (fun K4 hK4 => ?_)
    rcases hq with q | q | q
    · skip
      refine c_reg ?_ -- region 2 measure.go:81
      refine wl (ro_move rfl) ?_
      refine wl (ro_cmp (r := true) rfl rfl (congrArg some ((beqc sa 1).trans (decide_eq_true (by omega))))) ?_
      refine wl (ro_move rfl) ?_
      refine wlg_yes rfl (ro_move rfl) ?_
      refine wlg_yes rfl (ro_cmp (r := false) rfl rfl (congrArg some (decide_eq_false (by omega)))) ?_
      refine wl (ro_pick rfl rfl rfl) ?_
      refine wl_nil (x_then (hK4 _ _ ?_))
      clear hK4 K4
      refine wc_condF rfl ?_
      refine c_skip (x_then (hK3 _ _ ?_))
      clear hK3 K3
      refine c_seq (fun K5 hK5 => ?_)
      refine c_seq (fun K6 hK6 => ?_)
      refine c_reg ?_ -- region 4 measure.go:84
      refine wl (ro_move rfl) ?_
      refine wl (ro_cmp (r := true) rfl rfl (congrArg some ((bnec sa 2).trans (decide_eq_true (by omega))))) ?_
      refine wl (ro_move rfl) ?_
      refine wlg_no rfl ?_
      refine wlg_no rfl ?_
      refine wl (ro_pick rfl rfl rfl) ?_
      refine wl_nil (x_then (hK6 _ _ ?_))
      clear hK6 K6
      refine wc_condT rfl ?_
      refine c_seq (fun K7 hK7 => ?_)
      refine c_reg ?_ -- region 5 measure.go:85
      refine wl (ro_assign rfl) ?_
      refine wl (ro_assign rfl) ?_
      refine wl_nil (x_then (hK7 _ _ ?_))
      clear hK7 K7
      refine c_ret (x_thenR ?_)
      refine bp_ret Tryz.results101 rfl ?_
      exact ⟨rfl, hF⟩
    · skip
      refine c_reg ?_ -- region 2 measure.go:81
      refine wl (ro_move rfl) ?_
      refine wl (ro_cmp (r := false) rfl rfl (congrArg some ((beqc sa 1).trans (decide_eq_false (by omega))))) ?_
      refine wl (ro_move rfl) ?_
      refine wlg_no rfl ?_
      refine wlg_no rfl ?_
      refine wl (ro_pick rfl rfl rfl) ?_
      refine wl_nil (x_then (hK4 _ _ ?_))
      clear hK4 K4
      refine wc_condF rfl ?_
      refine c_skip (x_then (hK3 _ _ ?_))
      clear hK3 K3
      refine c_seq (fun K8 hK8 => ?_)
      refine c_seq (fun K9 hK9 => ?_)
      refine c_reg ?_ -- region 4 measure.go:84
      refine wl (ro_move rfl) ?_
      refine wl (ro_cmp (r := true) rfl rfl (congrArg some ((bnec sa 2).trans (decide_eq_true (by omega))))) ?_
      refine wl (ro_move rfl) ?_
      refine wlg_no rfl ?_
      refine wlg_no rfl ?_
      refine wl (ro_pick rfl rfl rfl) ?_
      refine wl_nil (x_then (hK9 _ _ ?_))
      clear hK9 K9
      refine wc_condT rfl ?_
      refine c_seq (fun K10 hK10 => ?_)
      refine c_reg ?_ -- region 5 measure.go:85
      refine wl (ro_assign rfl) ?_
      refine wl (ro_assign rfl) ?_
      refine wl_nil (x_then (hK10 _ _ ?_))
      clear hK10 K10
      refine c_ret (x_thenR ?_)
      refine bp_ret Tryz.results101 rfl ?_
      exact ⟨rfl, hF⟩
    · skip
      refine c_reg ?_ -- region 2 measure.go:81
      refine wl (ro_move rfl) ?_
      refine wl (ro_cmp (r := false) rfl rfl (congrArg some ((beqc sa 1).trans (decide_eq_false (by omega))))) ?_
      refine wl (ro_move rfl) ?_
      refine wlg_no rfl ?_
      refine wlg_no rfl ?_
      refine wl (ro_pick rfl rfl rfl) ?_
      refine wl_nil (x_then (hK4 _ _ ?_))
      clear hK4 K4
      refine wc_condF rfl ?_
      refine c_skip (x_then (hK3 _ _ ?_))
      clear hK3 K3
      refine c_seq (fun K11 hK11 => ?_)
      refine c_seq (fun K12 hK12 => ?_)
      refine c_reg ?_ -- region 4 measure.go:84
      refine wl (ro_move rfl) ?_
      refine wl (ro_cmp (r := false) rfl rfl (congrArg some ((bnec sa 2).trans (decide_eq_false (by omega))))) ?_
      refine wl (ro_move rfl) ?_
      refine wlg_yes rfl (ro_move rfl) ?_
      refine wlg_yes rfl (ro_cmp (r := true) rfl rfl (congrArg some (by simp; omega))) ?_
      refine wl (ro_pick rfl rfl rfl) ?_
      refine wl_nil (x_then (hK12 _ _ ?_))
      clear hK12 K12
      refine wc_condT rfl ?_
      refine c_seq (fun K13 hK13 => ?_)
      refine c_reg ?_ -- region 5 measure.go:85
      refine wl (ro_assign rfl) ?_
      refine wl (ro_assign rfl) ?_
      refine wl_nil (x_then (hK13 _ _ ?_))
      clear hK13 K13
      refine c_ret (x_thenR ?_)
      refine bp_ret Tryz.results101 rfl ?_
      exact ⟨rfl, hF⟩
  rw [if_neg q2]
  have hs2 : sa = 2 := by omega
  have hMn0 : M ≠ 0 := fun h => q2 (.inr (hM0.2 h))
  subst hs2
  have hmnc : mn = 0 ∨ mn = 1 ∨ mn = 2 ∨ mn = 3 := by omega
  have hMc : M = -1 ∨ M = 1 ∨ M = 2 ∨ M = 3 := by omega
  have hsum : (if 0 < mn then ((mn : Int) * za + mn - 1) else 0) = ((sumM za mn : Nat) : Int) := by
    unfold sumM
    rcases hmnc with rfl | rfl | rfl | rfl <;> simp <;> omega
  have htail : (if M < 0 then ((za : Int) + 1) else if (mn : Int) < M then (M - mn) * ((za : Int) + 3) - 1 else 0) = ((tailM za mn mx : Nat) : Int) := by
    cases mx with
    | none => simp only [mxI] at hM; subst hM; simp [tailM]
    | some m =>
      simp only [mxI] at hM
      have hmm := hmx m rfl
      have hmk : m = 1 ∨ m = 2 ∨ m = 3 := by omega
      subst hM
      unfold tailM
      rcases hmnc with rfl | rfl | rfl | rfl <;> rcases hmk with rfl | rfl | rfl <;> simp <;> omega
  have hsb : sumM za mn ≤ 200 := by
    unfold sumM
    rcases hmnc with rfl | rfl | rfl | rfl <;> simp <;> omega
  have htb : tailM za mn mx ≤ 200 := by
    cases mx with
    | none => simp only [tailM]; omega
    | some m =>
      have hmm := hmx m rfl
      have hmk : m = 0 ∨ m = 1 ∨ m = 2 ∨ m = 3 := by omega
      unfold tailM
      rcases hmnc with rfl | rfl | rfl | rfl <;> rcases hmk with rfl | rfl | rfl | rfl <;> simp <;> omega
  refine ret_of Tryz.func101 rfl Tryz.ntmps101 rfl ?_
  refine c_seq (fun K1 hK1 => ?_)
  refine c_reg ?_ -- region 0 measure.go:79
  refine wl (ro_assign rfl) ?_
  refine wl (ro_assign rfl) ?_
  refine wl_nil (x_then (hK1 _ _ ?_))
  clear hK1 K1
  refine forget [(0, _), (1, _), (2, _), (3, _)] ⟨rfl, rfl, rfl, rfl, trivial⟩ (fun e => ?_)
  refine c_seq (fun K2 hK2 => ?_)
  refine c_reg ?_ -- region 1 measure.go:80
  refine wl (ro_move rfl) ?_
  refine wl (ro_nilCheck rfl) ?_
  refine wl (ro_fieldAddr (k := 1) rfl fo_101_1) ?_
  refine wl (ro_loadB rfl sc_97 (hB) (rfl)) ?_
  refine wl (ro_move rfl) ?_
  refine wl (ro_indexAddr (et := 3) (k := 1) rfl rfl se_97 (rfl) (ha)) ?_
  refine wl (ro_loadB rfl sc_3 (hH) (cel_at (by omega) (by omega) h1)) ?_
  refine wl (ro_assign rfl) ?_
  refine wl_nil (x_then (hK2 _ _ ?_))
  clear hK2 K2
  refine c_seq (fun K3 hK3 => ?_)
  refine c_seq (fun K4 hK4 => ?_)
  refine c_reg ?_ -- region 2 measure.go:81
  refine wl (ro_move rfl) ?_
  refine wl (ro_cmp (r := false) rfl rfl rfl) ?_
  refine wl (ro_move rfl) ?_
  refine wlg_no rfl ?_
  refine wlg_no rfl ?_
  refine wl (ro_pick rfl rfl rfl) ?_
  refine wl_nil (x_then (hK4 _ _ ?_))
  clear hK4 K4
  refine wc_condF rfl ?_
  refine c_skip (x_then (hK3 _ _ ?_))
  clear hK3 K3
  refine c_seq (fun K5 hK5 => ?_)
  refine c_seq (fun K6 hK6 => ?_)
  refine c_reg ?_ -- region 4 measure.go:84
  refine wl (ro_move rfl) ?_
  refine wl (ro_cmp (r := false) rfl rfl rfl) ?_
  refine wl (ro_move rfl) ?_
  refine wlg_yes rfl (ro_move rfl) ?_
  refine wlg_yes rfl (ro_cmp (r := false) rfl rfl (congrArg some (by simp; omega))) ?_
  refine wl (ro_pick rfl rfl rfl) ?_
  refine wl_nil (x_then (hK6 _ _ ?_))
  clear hK6 K6
  refine wc_condF rfl ?_
  refine c_skip (x_then (hK5 _ _ ?_))
  clear hK5 K5
  refine forget [(0, _), (1, _), (2, _), (3, _)] ⟨rfl, rfl, rfl, rfl, trivial⟩ (fun e => ?_)
  refine c_seq (fun K7 hK7 => ?_)
  refine c_reg ?_ -- region 6 measure.go:87
  refine wl (ro_move rfl) ?_
  refine wl (ro_nilCheck rfl) ?_
  refine wl (ro_fieldAddr (k := 2) rfl fo_101_2) ?_
  refine wl (ro_loadB rfl sc_97 (hB) (rfl)) ?_
  refine wl (ro_move rfl) ?_
  refine wl (ro_indexAddr (et := 3) (k := 1) rfl rfl se_97 (rfl) (ha)) ?_
  refine wl (ro_loadB rfl sc_3 (hZ) (cel_at (by omega) (by omega) h2)) ?_
  refine wl (ro_assign rfl) ?_
  refine wl_nil (x_then (hK7 _ _ ?_))
  clear hK7 K7
  refine forget [(2, _), (3, _), (11, _)] ⟨rfl, rfl, rfl, trivial⟩ (fun e => ?_)
  refine c_seq (fun K8 hK8 => ?_)
  refine c_reg ?_ -- region 7 measure.go:88
  refine wl (ro_assign rfl) ?_
  refine wl_nil (x_then (hK8 _ _ ?_))
  clear hK8 K8
  refine c_mid (fun a' w' => w = w' ∧ ∃ e, a' = Fr 74 (upds e [(2, i64c mn), (3, icv M), (11, i64c za), (12, i64c (sumM za mn))]) []) ?_ ?_
  · skip
    refine c_seq (fun K9 hK9 => ?_)
    refine c_reg ?_ -- region 8 measure.go:89
    refine wl (ro_move rfl) ?_
    refine wl (ro_cmp (r := decide (0 < mn)) rfl rfl (congrArg some (decide_eq_decide.2 (by omega)))) ?_
    refine wl_nil (x_then (hK9 _ _ ?_))
    clear hK9 K9
    refine wc_cond rfl (fun hc41 => ?_) (fun hc41 => ?_)
    · try simp only [decide_eq_true_eq, decide_eq_false_iff_not, Bool.not_eq_true', Bool.not_eq_false', Bool.not_eq_eq_eq_not, Bool.not_true, Bool.not_false, beq_iff_eq, bne_iff_ne, ne_eq, beq_eq_false_iff_ne, bne_eq_false_iff_eq, gt_iff_lt, ge_iff_le, Int.not_lt, Int.not_le] at hc41
      refine c_reg ?_ -- region 9 measure.go:90
      refine wl (ro_move rfl) ?_
      refine wl (ro_move rfl) ?_
      refine wl (ro_arith rfl rfl rfl (Go.IntWalk.i64_in _ (by rcases hmnc with rfl | rfl | rfl | rfl <;> simp <;> omega))) ?_
      refine wl (ro_move rfl) ?_
      refine wl (ro_arith rfl rfl rfl (Go.IntWalk.i64_in _ (by rcases hmnc with rfl | rfl | rfl | rfl <;> simp <;> omega))) ?_
      refine wl (ro_arith rfl rfl rfl (Go.IntWalk.i64_in _ (by rcases hmnc with rfl | rfl | rfl | rfl <;> simp <;> omega))) ?_
      refine wl (ro_assign rfl) ?_
      refine wl_nil (x_then ?_)
      rw [if_pos hc41] at hsum
      exact ⟨rfl, kp _ ⟨rfl, rfl, rfl, congrArg some (congrArg icv hsum), trivial⟩⟩
    · try simp only [decide_eq_true_eq, decide_eq_false_iff_not, Bool.not_eq_true', Bool.not_eq_false', Bool.not_eq_eq_eq_not, Bool.not_true, Bool.not_false, beq_iff_eq, bne_iff_ne, ne_eq, beq_eq_false_iff_ne, bne_eq_false_iff_eq, gt_iff_lt, ge_iff_le, Int.not_lt, Int.not_le] at hc41
      refine c_skip (x_then ?_)
      rw [if_neg (by omega)] at hsum
      exact ⟨rfl, kp _ ⟨rfl, rfl, rfl, congrArg some (congrArg icv hsum), trivial⟩⟩
  rintro a' w2 ⟨rfl, e, rfl⟩
  refine c_seq (fun K10 hK10 => ?_)
  refine c_reg ?_ -- region 10 measure.go:92
  refine wl (ro_assign rfl) ?_
  refine wl_nil (x_then (hK10 _ _ ?_))
  clear hK10 K10
  refine c_seq (fun K11 hK11 => ?_)
  refine c_seq (fun K12 hK12 => ?_)
  refine c_reg ?_ -- region 11 measure.go:93
  refine wl (ro_move rfl) ?_
  refine wl (ro_cmp (r := decide (M < 0)) rfl rfl rfl) ?_
  refine wl_nil (x_then (hK12 _ _ ?_))
  clear hK12 K12
  refine wc_cond rfl (fun hc49 => ?_) (fun hc49 => ?_)
  · try simp only [decide_eq_true_eq, decide_eq_false_iff_not, Bool.not_eq_true', Bool.not_eq_false', Bool.not_eq_eq_eq_not, Bool.not_true, Bool.not_false, beq_iff_eq, bne_iff_ne, ne_eq, beq_eq_false_iff_ne, bne_eq_false_iff_eq, gt_iff_lt, ge_iff_le, Int.not_lt, Int.not_le] at hc49
    rw [if_pos hc49] at htail
    have hcM : ¬ (mn : Int) < M := by omega
    refine c_reg ?_ -- region 12 measure.go:94
    refine wl (ro_move rfl) ?_
    refine wl (ro_arith rfl rfl rfl (Go.IntWalk.i64_in _ (by omega))) ?_
    refine wl (ro_assign rfl) ?_
    refine wl_nil (x_then (hK11 _ _ ?_))
    clear hK11 K11
    refine c_mid (fun a' w' => w = w' ∧ ∃ e, a' = Fr 74 (upds e [(12, i64c (sumM za mn)), (13, i64c (tailM za mn mx))]) []) ?_ ?_
    · skip
      refine c_seq (fun K13 hK13 => ?_)
      refine c_reg ?_ -- region 13 measure.go:96
      refine wl (ro_move rfl) ?_
      refine wl (ro_move rfl) ?_
      refine wl (ro_cmp (r := false) rfl rfl (congrArg some (decide_eq_false hcM))) ?_
      refine wl_nil (x_then (hK13 _ _ ?_))
      clear hK13 K13
      refine wc_condF rfl ?_
      refine c_skip (x_then ?_)
      exact ⟨rfl, kp _ ⟨rfl, congrArg some (congrArg icv htail), trivial⟩⟩
    rintro a' w2 ⟨rfl, e, rfl⟩
    refine c_seq (fun K14 hK14 => ?_)
    refine c_seq (fun K15 hK15 => ?_)
    have hq : (0 < sumM za mn ∧ 0 < tailM za mn mx) ∨ sumM za mn = 0 ∨ (0 < sumM za mn ∧ tailM za mn mx = 0) := by omega
    rcases hq with q | q | q
    · skip
      refine c_reg ?_ -- region 15 measure.go:99
      refine wl (ro_move rfl) ?_
      refine wl (ro_cmp (r := true) rfl rfl (congrArg some (decide_eq_true (by omega)))) ?_
      refine wl (ro_move rfl) ?_
      refine wlg_yes rfl (ro_move rfl) ?_
      refine wlg_yes rfl (ro_cmp (r := true) rfl rfl (congrArg some (decide_eq_true (by omega)))) ?_
      refine wl (ro_pick rfl rfl rfl) ?_
      refine wl_nil (x_then (hK15 _ _ ?_))
      clear hK15 K15
      refine wc_condT rfl ?_
      refine c_reg ?_ -- region 16 measure.go:100
      refine wl (ro_move rfl) ?_
      refine wl (ro_arith rfl rfl rfl (Go.IntWalk.i64_in _ (by omega))) ?_
      refine wl (ro_assign rfl) ?_
      refine wl_nil (x_then (hK14 _ _ ?_))
      clear hK14 K14
      refine forget [(12, _), (13, _)] ⟨rfl, rfl, trivial⟩ (fun e => ?_)
      refine c_seq (fun K16 hK16 => ?_)
      refine c_reg ?_ -- region 17 measure.go:102
      refine wl (ro_move rfl) ?_
      refine wl (ro_move rfl) ?_
      refine wl (ro_arith rfl rfl rfl (Go.IntWalk.i64_in _ (by omega))) ?_
      refine wl_call rfl en_100 (lid100 (n := sumM za mn + 1 + tailM za mn mx)) ?_
      rintro _ _ ⟨rfl, rfl⟩
      refine wl (ro_assign rfl) ?_
      refine wl (ro_assign rfl) ?_
      refine wl_nil (x_then (hK16 _ _ ?_))
      clear hK16 K16
      refine c_ret ?_
      refine bp_ret Tryz.results101 rfl ?_
      rw [if_pos q]; exact ⟨rfl, hF⟩
    · skip
      refine c_reg ?_ -- region 15 measure.go:99
      refine wl (ro_move rfl) ?_
      refine wl (ro_cmp (r := false) rfl rfl (congrArg some (decide_eq_false (by omega)))) ?_
      refine wl (ro_move rfl) ?_
      refine wlg_no rfl ?_
      refine wlg_no rfl ?_
      refine wl (ro_pick rfl rfl rfl) ?_
      refine wl_nil (x_then (hK15 _ _ ?_))
      clear hK15 K15
      refine wc_condF rfl ?_
      refine c_skip (x_then (hK14 _ _ ?_))
      clear hK14 K14
      refine forget [(12, _), (13, _)] ⟨rfl, rfl, trivial⟩ (fun e => ?_)
      refine c_seq (fun K17 hK17 => ?_)
      refine c_reg ?_ -- region 17 measure.go:102
      refine wl (ro_move rfl) ?_
      refine wl (ro_move rfl) ?_
      refine wl (ro_arith rfl rfl rfl (Go.IntWalk.i64_in _ (by omega))) ?_
      refine wl_call rfl en_100 (lid100 (n := sumM za mn + tailM za mn mx)) ?_
      rintro _ _ ⟨rfl, rfl⟩
      refine wl (ro_assign rfl) ?_
      refine wl (ro_assign rfl) ?_
      refine wl_nil (x_then (hK17 _ _ ?_))
      clear hK17 K17
      refine c_ret ?_
      refine bp_ret Tryz.results101 rfl ?_
      rw [if_neg (by omega)]; exact ⟨rfl, hF⟩
    · skip
      refine c_reg ?_ -- region 15 measure.go:99
      refine wl (ro_move rfl) ?_
      refine wl (ro_cmp (r := true) rfl rfl (congrArg some (decide_eq_true (by omega)))) ?_
      refine wl (ro_move rfl) ?_
      refine wlg_yes rfl (ro_move rfl) ?_
      refine wlg_yes rfl (ro_cmp (r := false) rfl rfl (congrArg some (decide_eq_false (by omega)))) ?_
      refine wl (ro_pick rfl rfl rfl) ?_
      refine wl_nil (x_then (hK15 _ _ ?_))
      clear hK15 K15
      refine wc_condF rfl ?_
      refine c_skip (x_then (hK14 _ _ ?_))
      clear hK14 K14
      refine forget [(12, _), (13, _)] ⟨rfl, rfl, trivial⟩ (fun e => ?_)
      refine c_seq (fun K18 hK18 => ?_)
      refine c_reg ?_ -- region 17 measure.go:102
      refine wl (ro_move rfl) ?_
      refine wl (ro_move rfl) ?_
      refine wl (ro_arith rfl rfl rfl (Go.IntWalk.i64_in _ (by omega))) ?_
      refine wl_call rfl en_100 (lid100 (n := sumM za mn + tailM za mn mx)) ?_
      rintro _ _ ⟨rfl, rfl⟩
      refine wl (ro_assign rfl) ?_
      refine wl (ro_assign rfl) ?_
      refine wl_nil (x_then (hK18 _ _ ?_))
      clear hK18 K18
      refine c_ret ?_
      refine bp_ret Tryz.results101 rfl ?_
      rw [if_neg (by omega)]; exact ⟨rfl, hF⟩
  · try simp only [decide_eq_true_eq, decide_eq_false_iff_not, Bool.not_eq_true', Bool.not_eq_false', Bool.not_eq_eq_eq_not, Bool.not_true, Bool.not_false, beq_iff_eq, bne_iff_ne, ne_eq, beq_eq_false_iff_ne, bne_eq_false_iff_eq, gt_iff_lt, ge_iff_le, Int.not_lt, Int.not_le] at hc49
    rw [if_neg (by omega)] at htail
    refine c_skip (x_then (hK11 _ _ ?_))
    clear hK11 K11
    refine c_mid (fun a' w' => w = w' ∧ ∃ e, a' = Fr 74 (upds e [(12, i64c (sumM za mn)), (13, i64c (tailM za mn mx))]) []) ?_ ?_
    · skip
      refine c_seq (fun K19 hK19 => ?_)
      refine c_reg ?_ -- region 13 measure.go:96
      refine wl (ro_move rfl) ?_
      refine wl (ro_move rfl) ?_
      refine wl (ro_cmp (r := decide ((mn : Int) < M)) rfl rfl rfl) ?_
      refine wl_nil (x_then (hK19 _ _ ?_))
      clear hK19 K19
      refine wc_cond rfl (fun hc54 => ?_) (fun hc54 => ?_)
      · try simp only [decide_eq_true_eq, decide_eq_false_iff_not, Bool.not_eq_true', Bool.not_eq_false', Bool.not_eq_eq_eq_not, Bool.not_true, Bool.not_false, beq_iff_eq, bne_iff_ne, ne_eq, beq_eq_false_iff_ne, bne_eq_false_iff_eq, gt_iff_lt, ge_iff_le, Int.not_lt, Int.not_le] at hc54
        refine c_reg ?_ -- region 14 measure.go:97
        refine wl (ro_move rfl) ?_
        refine wl (ro_move rfl) ?_
        refine wl (ro_arith rfl rfl rfl (Go.IntWalk.i64_in _ (by omega))) ?_
        refine wl (ro_move rfl) ?_
        refine wl (ro_arith rfl rfl rfl (Go.IntWalk.i64_in _ (by omega))) ?_
        refine wl (ro_arith rfl rfl rfl (Go.IntWalk.i64_in _ (by rcases hmnc with rfl | rfl | rfl | rfl <;> rcases hMc with rfl | rfl | rfl | rfl <;> simp <;> omega))) ?_
        refine wl (ro_arith rfl rfl rfl (Go.IntWalk.i64_in _ (by rcases hmnc with rfl | rfl | rfl | rfl <;> rcases hMc with rfl | rfl | rfl | rfl <;> simp <;> omega))) ?_
        refine wl (ro_assign rfl) ?_
        refine wl_nil (x_then ?_)
        rw [if_pos hc54] at htail
        exact ⟨rfl, kp _ ⟨rfl, congrArg some (congrArg icv htail), trivial⟩⟩
      · try simp only [decide_eq_true_eq, decide_eq_false_iff_not, Bool.not_eq_true', Bool.not_eq_false', Bool.not_eq_eq_eq_not, Bool.not_true, Bool.not_false, beq_iff_eq, bne_iff_ne, ne_eq, beq_eq_false_iff_ne, bne_eq_false_iff_eq, gt_iff_lt, ge_iff_le, Int.not_lt, Int.not_le] at hc54
        refine c_skip (x_then ?_)
        rw [if_neg (by omega)] at htail
        exact ⟨rfl, kp _ ⟨rfl, congrArg some (congrArg icv htail), trivial⟩⟩
    rintro a' w2 ⟨rfl, e, rfl⟩
    refine c_seq (fun K20 hK20 => ?_)
    refine c_seq (fun K21 hK21 => ?_)
    have hq : (0 < sumM za mn ∧ 0 < tailM za mn mx) ∨ sumM za mn = 0 ∨ (0 < sumM za mn ∧ tailM za mn mx = 0) := by omega
    rcases hq with q | q | q
    · skip
      refine c_reg ?_ -- region 15 measure.go:99
      refine wl (ro_move rfl) ?_
      refine wl (ro_cmp (r := true) rfl rfl (congrArg some (decide_eq_true (by omega)))) ?_
      refine wl (ro_move rfl) ?_
      refine wlg_yes rfl (ro_move rfl) ?_
      refine wlg_yes rfl (ro_cmp (r := true) rfl rfl (congrArg some (decide_eq_true (by omega)))) ?_
      refine wl (ro_pick rfl rfl rfl) ?_
      refine wl_nil (x_then (hK21 _ _ ?_))
      clear hK21 K21
      refine wc_condT rfl ?_
      refine c_reg ?_ -- region 16 measure.go:100
      refine wl (ro_move rfl) ?_
      refine wl (ro_arith rfl rfl rfl (Go.IntWalk.i64_in _ (by omega))) ?_
      refine wl (ro_assign rfl) ?_
      refine wl_nil (x_then (hK20 _ _ ?_))
      clear hK20 K20
      refine forget [(12, _), (13, _)] ⟨rfl, rfl, trivial⟩ (fun e => ?_)
      refine c_seq (fun K22 hK22 => ?_)
      refine c_reg ?_ -- region 17 measure.go:102
      refine wl (ro_move rfl) ?_
      refine wl (ro_move rfl) ?_
      refine wl (ro_arith rfl rfl rfl (Go.IntWalk.i64_in _ (by omega))) ?_
      refine wl_call rfl en_100 (lid100 (n := sumM za mn + 1 + tailM za mn mx)) ?_
      rintro _ _ ⟨rfl, rfl⟩
      refine wl (ro_assign rfl) ?_
      refine wl (ro_assign rfl) ?_
      refine wl_nil (x_then (hK22 _ _ ?_))
      clear hK22 K22
      refine c_ret ?_
      refine bp_ret Tryz.results101 rfl ?_
      rw [if_pos q]; exact ⟨rfl, hF⟩
    · skip
      refine c_reg ?_ -- region 15 measure.go:99
      refine wl (ro_move rfl) ?_
      refine wl (ro_cmp (r := false) rfl rfl (congrArg some (decide_eq_false (by omega)))) ?_
      refine wl (ro_move rfl) ?_
      refine wlg_no rfl ?_
      refine wlg_no rfl ?_
      refine wl (ro_pick rfl rfl rfl) ?_
      refine wl_nil (x_then (hK21 _ _ ?_))
      clear hK21 K21
      refine wc_condF rfl ?_
      refine c_skip (x_then (hK20 _ _ ?_))
      clear hK20 K20
      refine forget [(12, _), (13, _)] ⟨rfl, rfl, trivial⟩ (fun e => ?_)
      refine c_seq (fun K23 hK23 => ?_)
      refine c_reg ?_ -- region 17 measure.go:102
      refine wl (ro_move rfl) ?_
      refine wl (ro_move rfl) ?_
      refine wl (ro_arith rfl rfl rfl (Go.IntWalk.i64_in _ (by omega))) ?_
      refine wl_call rfl en_100 (lid100 (n := sumM za mn + tailM za mn mx)) ?_
      rintro _ _ ⟨rfl, rfl⟩
      refine wl (ro_assign rfl) ?_
      refine wl (ro_assign rfl) ?_
      refine wl_nil (x_then (hK23 _ _ ?_))
      clear hK23 K23
      refine c_ret ?_
      refine bp_ret Tryz.results101 rfl ?_
      rw [if_neg (by omega)]; exact ⟨rfl, hF⟩
    · skip
      refine c_reg ?_ -- region 15 measure.go:99
      refine wl (ro_move rfl) ?_
      refine wl (ro_cmp (r := true) rfl rfl (congrArg some (decide_eq_true (by omega)))) ?_
      refine wl (ro_move rfl) ?_
      refine wlg_yes rfl (ro_move rfl) ?_
      refine wlg_yes rfl (ro_cmp (r := false) rfl rfl (congrArg some (decide_eq_false (by omega)))) ?_
      refine wl (ro_pick rfl rfl rfl) ?_
      refine wl_nil (x_then (hK21 _ _ ?_))
      clear hK21 K21
      refine wc_condF rfl ?_
      refine c_skip (x_then (hK20 _ _ ?_))
      clear hK20 K20
      refine forget [(12, _), (13, _)] ⟨rfl, rfl, trivial⟩ (fun e => ?_)
      refine c_seq (fun K24 hK24 => ?_)
      refine c_reg ?_ -- region 17 measure.go:102
      refine wl (ro_move rfl) ?_
      refine wl (ro_move rfl) ?_
      refine wl (ro_arith rfl rfl rfl (Go.IntWalk.i64_in _ (by omega))) ?_
      refine wl_call rfl en_100 (lid100 (n := sumM za mn + tailM za mn mx)) ?_
      rintro _ _ ⟨rfl, rfl⟩
      refine wl (ro_assign rfl) ?_
      refine wl (ro_assign rfl) ?_
      refine wl_nil (x_then (hK24 _ _ ?_))
      clear hK24 K24
      refine c_ret ?_
      refine bp_ret Tryz.results101 rfl ?_
      rw [if_neg (by omega)]; exact ⟨rfl, hF⟩

end Go.Proofs.Qxb6500567aGreat
