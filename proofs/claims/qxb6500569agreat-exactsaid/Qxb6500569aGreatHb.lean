import Derived.Test.Qxb6500569aGreatHa
/- The real heap: its readers. -/
namespace Go.Proofs.Qxb6500569aGreat
set_option linter.unusedVariables false
set_option linter.unusedSimpArgs false

theorem deref112 {w : World} {L : HL} {R : RH} (H : HeapAt w.heap L R) (wf : WFc R) {a : Nat} (ha : a < R.tags.length) :
    Ret Tryz.prog 112 [ptr L.h, i32c a] w (fun v w' => v = i32c (deref R.abs a) ∧ w' = w) := by
  obtain ⟨hB, ⟨j1, hT, _⟩, ⟨j2, hW, _⟩, _⟩ := H
  have hwf := wfh_abs wf
  have hl := wf.len1
  refine ret_of Tryz.func112 rfl Tryz.ntmps112 rfl ?_
  refine c_seq (fun K1 hK1 => ?_)
  refine c_reg ?_ -- region 0 heap.go:56
  refine wl (ro_assign rfl) ?_
  refine wl_nil (x_then (hK1 _ _ ?_))
  clear hK1 K1
  refine forget [(0, _), (1, _)] ⟨rfl, rfl, trivial⟩ (fun e => ?_)
  refine c_seq (fun K2 hK2 => ?_)
  refine c_block ?_
  -- loop@r1: live slots [0, 1]
  refine c_loop (fun a' w' => w' = w ∧ ∃ b : Nat, b < R.tags.length ∧ deref R.abs b = deref R.abs a ∧ ∃ e, a' = Fr 22 (upds e [(0, ptr L.h), (1, i32c b)]) []) (fun a' _ => rank R.abs (slotN a' 1)) ⟨rfl, a, ha, rfl, kp _ ⟨rfl, rfl, trivial⟩⟩ ?_
  rintro a' w' ⟨rfl, b, hb, hDb, e, rfl⟩
  obtain ⟨x, hx⟩ : ∃ x, R.tags[b]? = some x := ⟨_, List.getElem?_eq_getElem hb⟩
  have hx2 := wf.tag _ _ hx
  refine c_seq (fun K3 hK3 => ?_)
  refine c_seq (fun K4 hK4 => ?_)
  refine c_reg ?_ -- region 1 heap.go:57
  refine wl (ro_move rfl) ?_
  refine wl (ro_nilCheck rfl) ?_
  refine wl (ro_fieldAddr (k := 0) rfl fo_69_0) ?_
  refine wl (ro_loadB rfl sc_64 (by assumption) rfl) ?_
  refine wl (ro_move rfl) ?_
  refine wl (ro_indexAddr (et := 177) (k := 1) rfl rfl se_64 rfl (hb)) ?_
  refine wl (ro_loadB rfl sc_177 (hT) (getMap hx)) ?_
  refine wl (ro_bits (r := if x = 2 then 2 else 0) rfl rfl (by have : x = 0 ∨ x = 1 ∨ x = 2 := by { omega }; rcases this with rfl | rfl | rfl <;> rfl)) ?_
  refine wl (ro_cmp rfl rfl rfl) ?_
  refine wl_nil (x_then (hK4 _ _ ?_))
  clear hK4 K4
  refine wc_cond rfl (fun hc13 => ?_) (fun hc13 => ?_)
  · try simp only [decide_eq_true_eq, decide_eq_false_iff_not, Bool.not_eq_true', Bool.not_eq_false', Bool.not_eq_eq_eq_not, Bool.not_true, Bool.not_false, beq_iff_eq, bne_iff_ne, ne_eq, beq_eq_false_iff_ne, bne_eq_false_iff_eq, gt_iff_lt, ge_iff_le, Int.not_lt, Int.not_le] at hc13
    have hx2 : x = 2 := by { split at hc13; assumption; simp at hc13 }
    subst hx2
    obtain ⟨y, hy, hyl, hd⟩ := wf.bnd _ hx
    have hab := abs_of_bnd hx hy
    have hyb : y ≠ b := by { intro e; subst e; rcases hd with hd | hd; rw [hx] at hd; simp at hd; omega }
    have hDy := deref_step hwf hab rfl hyb
    have hrk := rank_lt hwf hab rfl hyb
    refine c_skip (x_then (hK3 _ _ ?_))
    clear hK3 K3
    refine c_block ?_
    refine c_reg ?_ -- region 2 heap.go:58
    refine wl (ro_move rfl) ?_
    refine wl (ro_nilCheck rfl) ?_
    refine wl (ro_fieldAddr (k := 1) rfl fo_69_1) ?_
    refine wl (ro_loadB rfl sc_65 (by assumption) rfl) ?_
    refine wl (ro_move rfl) ?_
    refine wl (ro_indexAddr (et := 21) (k := 1) rfl rfl se_65 rfl (by omega)) ?_
    refine wl (ro_loadB rfl sc_21 (hW) (getMap hy)) ?_
    refine wl (ro_assign rfl) ?_
    refine wl_nil (x_blk (x_then ?_))
    refine ⟨⟨rfl, y, hyl, by rw [← hDy]; exact hDb, kp _ ⟨rfl, rfl, trivial⟩⟩, ?_⟩
    rw [slotN_fr (b := (y : Int)) rfl, slotN_fr (b := (b : Int)) rfl]
    exact hrk
  · try simp only [decide_eq_true_eq, decide_eq_false_iff_not, Bool.not_eq_true', Bool.not_eq_false', Bool.not_eq_eq_eq_not, Bool.not_true, Bool.not_false, beq_iff_eq, bne_iff_ne, ne_eq, beq_eq_false_iff_ne, bne_eq_false_iff_eq, gt_iff_lt, ge_iff_le, Int.not_lt, Int.not_le] at hc13
    have hx2 : x ≠ 2 := by { intro hh; subst hh; simp at hc13 }
    refine c_exit (x_thenX (x_thenX (x_blkX (x_then (hK2 _ _ ?_)))))
    clear hK3 K3 hK2 K2
    refine forget [(1, _)] ⟨rfl, trivial⟩ (fun e => ?_)
    refine c_seq (fun K5 hK5 => ?_)
    refine c_reg ?_ -- region 3 heap.go:60
    refine wl (ro_move rfl) ?_
    refine wl (ro_assign rfl) ?_
    refine wl_nil (x_then (hK5 _ _ ?_))
    clear hK5 K5
    refine c_ret ?_
    refine bp_ret Tryz.results112 rfl ?_
    refine ⟨?_, rfl⟩
    rw [← hDb]
    have : x = 0 ∨ x = 1 := by omega
    rcases this with rfl | rfl
    · rw [deref_stop hwf (abs_of_var hx) (.inr rfl)]
    · obtain ⟨o, f, d, _, _, _, _, _, _, hab⟩ := abs_of_str wf hx
      rw [deref_stop hwf hab (.inl (by simp))]

theorem Deref101 {w : World} {L : HL} {R : RH} (H : HeapAt w.heap L R) (wf : WFc R) {a : Nat} (ha : a < R.tags.length) :
    Ret Tryz.prog 101 [ptr L.h, i64c a] w (fun v w' => v = i64c (deref R.abs a) ∧ w' = w) := by
  have hB := H.st
  have hsz := wf.size
  have hdl := (deref_tag wf ha).1
  refine ret_of Tryz.func101 rfl Tryz.ntmps101 rfl ?_
  refine c_seq (fun K1 hK1 => ?_)
  refine c_reg ?_ -- region 0 heap.go:74
  refine wl (ro_assign rfl) ?_
  refine wl_nil (x_then (hK1 _ _ ?_))
  clear hK1 K1
  refine c_seq (fun K2 hK2 => ?_)
  refine c_seq (fun K3 hK3 => ?_)
  refine c_reg ?_ -- region 1 heap.go:75
  refine wl (ro_move rfl) ?_
  refine wl (ro_cmp (r := false) rfl rfl (by simp)) ?_
  refine wl (ro_move rfl) ?_
  refine wlg_yes rfl (ro_move rfl) ?_
  refine wlg_yes rfl (ro_move rfl) ?_
  refine wlg_yes rfl (ro_nilCheck rfl) ?_
  refine wlg_yes rfl (ro_fieldAddr (k := 0) rfl fo_69_0) ?_
  refine wlg_yes rfl (ro_loadB rfl sc_64 (by assumption) rfl) ?_
  refine wlg_yes rfl (ro_lenL rfl se_64) ?_
  refine wlg_yes rfl (ro_cmp (r := false) rfl rfl (by simp; omega)) ?_
  refine wl (ro_pick rfl rfl rfl) ?_
  refine wl_nil (x_then (hK3 _ _ ?_))
  clear hK3 K3
  refine wc_condF rfl ?_
  refine c_skip (x_then (hK2 _ _ ?_))
  clear hK2 K2
  refine forget [(0, _), (1, _)] ⟨rfl, rfl, trivial⟩ (fun e => ?_)
  refine c_seq (fun K4 hK4 => ?_)
  refine c_reg ?_ -- region 3 heap.go:78
  refine wl (ro_move rfl) ?_
  refine wl (ro_move rfl) ?_
  refine wl (ro_conv rfl sc_3 in_21 (Go.IntWalk.i32_in _ (by omega))) ?_
  refine wl_call rfl en_112 (deref112 H wf ha) ?_
  rintro _ _ ⟨rfl, rfl⟩
  refine wl (ro_conv rfl sc_21 in_3 (Go.IntWalk.i64_in _ (by omega))) ?_
  refine wl (ro_assign rfl) ?_
  refine wl_nil (x_then (hK4 _ _ ?_))
  clear hK4 K4
  refine c_ret ?_
  refine bp_ret Tryz.results101 rfl ?_
  exact ⟨rfl, rfl⟩

theorem Deref101n {w : World} {L : HL} {R : RH} (H : HeapAt w.heap L R) :
    Ret Tryz.prog 101 [ptr L.h, .int .i64 (-1)] w (fun v w' => v = .int .i64 (-1) ∧ w' = w) := by
  have hB := H.st
  refine ret_of Tryz.func101 rfl Tryz.ntmps101 rfl ?_
  refine c_seq (fun K1 hK1 => ?_)
  refine c_reg ?_ -- region 0 heap.go:74
  refine wl (ro_assign rfl) ?_
  refine wl_nil (x_then (hK1 _ _ ?_))
  clear hK1 K1
  refine c_seq (fun K2 hK2 => ?_)
  refine c_seq (fun K3 hK3 => ?_)
  refine c_reg ?_ -- region 1 heap.go:75
  refine wl (ro_move rfl) ?_
  refine wl (ro_cmp (r := true) rfl rfl (by simp)) ?_
  refine wl (ro_move rfl) ?_
  refine wlg_no rfl ?_
  refine wlg_no rfl ?_
  refine wlg_no rfl ?_
  refine wlg_no rfl ?_
  refine wlg_no rfl ?_
  refine wlg_no rfl ?_
  refine wlg_no rfl ?_
  refine wl (ro_pick rfl rfl rfl) ?_
  refine wl_nil (x_then (hK3 _ _ ?_))
  clear hK3 K3
  refine wc_condT rfl ?_
  refine c_seq (fun K4 hK4 => ?_)
  refine c_reg ?_ -- region 2 heap.go:76
  refine wl (ro_assign rfl) ?_
  refine wl_nil (x_then (hK4 _ _ ?_))
  clear hK4 K4
  refine c_ret (x_thenR ?_)
  refine bp_ret Tryz.results101 rfl ?_
  exact ⟨rfl, rfl⟩

/-- The arguments of node a: a window into 'args'. -/
def kidsV (L : HL) (R : RH) (a : Nat) : Value :=
  if R.tags[a]? = some 1 then (match R.word[a]?, R.heads[2 * a + 1]? with
    | some o, some d => .slice (some (if 256 = o then ⟨L.a, 0, none⟩ else ⟨L.a, 0 + o * 1, none⟩)) (o + (d.toNat - 48) - o) (256 - o)
    | _, _ => .slice none 0 0)
  else .slice none 0 0

theorem kids102 {w : World} {L : HL} {R : RH} (H : HeapAt w.heap L R) (wf : WFc R) {a : Nat} (ha : a < R.tags.length) :
    Ret Tryz.prog 102 [ptr L.h, i32c a] w (fun v w' => v = kidsV L R a ∧ w' = w) := by
  obtain ⟨hB, ⟨j1, hT, _⟩, ⟨j2, hW, _⟩, ⟨j3, hH, _⟩, _⟩ := H
  have hl := wf.len1
  have hl2 := wf.len2
  have hsz := wf.size
  have hac := wf.acap
  obtain ⟨x, hx⟩ : ∃ x, R.tags[a]? = some x := ⟨_, List.getElem?_eq_getElem ha⟩
  have hx2 := wf.tag _ _ hx
  by_cases h1 : x = 1
  · subst h1
    obtain ⟨o, f, d, h2, h3, h4, h5, h6, h7⟩ := str_full wf hx
    have hd256 : d.toNat < 256 := d.toNat_lt
    have hk : kidsV L R a = .slice (some (if 256 = o then ⟨L.a, 0, none⟩ else ⟨L.a, 0 + o * 1, none⟩)) (o + (d.toNat - 48) - o) (256 - o) := by simp [kidsV, hx, h2, h4]
    refine ret_of Tryz.func102 rfl Tryz.ntmps102 rfl ?_
    refine c_seq (fun K1 hK1 => ?_)
    refine c_reg ?_ -- region 0 heap.go:64
    refine wl (ro_assign rfl) ?_
    refine wl_nil (x_then (hK1 _ _ ?_))
    clear hK1 K1
    refine c_seq (fun K2 hK2 => ?_)
    refine c_seq (fun K3 hK3 => ?_)
    refine c_reg ?_ -- region 1 heap.go:65
    refine wl (ro_move rfl) ?_
    refine wl (ro_nilCheck rfl) ?_
    refine wl (ro_fieldAddr (k := 0) rfl fo_69_0) ?_
    refine wl (ro_loadB rfl sc_64 (by assumption) rfl) ?_
    refine wl (ro_move rfl) ?_
    refine wl (ro_indexAddr (et := 177) (k := 1) rfl rfl se_64 rfl (ha)) ?_
    refine wl (ro_loadB rfl sc_177 (hT) (getMap hx)) ?_
    refine wl (ro_bits (r := 1) rfl rfl rfl) ?_
    refine wl (ro_cmp rfl rfl rfl) ?_
    refine wl_nil (x_then (hK3 _ _ ?_))
    clear hK3 K3
    refine wc_condF rfl ?_
    refine c_skip (x_then (hK2 _ _ ?_))
    clear hK2 K2
    refine forget [(0, _), (1, _)] ⟨rfl, rfl, trivial⟩ (fun e => ?_)
    refine c_seq (fun K4 hK4 => ?_)
    refine c_reg ?_ -- region 3 heap.go:68
    refine wl (ro_move rfl) ?_
    refine wl (ro_nilCheck rfl) ?_
    refine wl (ro_fieldAddr (k := 1) rfl fo_69_1) ?_
    refine wl (ro_loadB rfl sc_65 (by assumption) rfl) ?_
    refine wl (ro_move rfl) ?_
    refine wl (ro_indexAddr (et := 21) (k := 1) rfl rfl se_65 rfl (by omega)) ?_
    refine wl (ro_loadB rfl sc_21 (hW) (getMap h2)) ?_
    refine wl (ro_assign rfl) ?_
    refine wl_nil (x_then (hK4 _ _ ?_))
    clear hK4 K4
    refine forget [(0, _), (1, _), (5, _)] ⟨rfl, rfl, rfl, trivial⟩ (fun e => ?_)
    refine c_seq (fun K5 hK5 => ?_)
    refine c_reg ?_ -- region 4 heap.go:69
    refine wl (ro_move rfl) ?_
    refine wl (ro_nilCheck rfl) ?_
    refine wl (ro_fieldAddr (k := 2) rfl fo_69_2) ?_
    refine wl (ro_loadB rfl sc_66 (by assumption) rfl) ?_
    refine wl (ro_move rfl) ?_
    refine wl (ro_arith rfl rfl rfl (Go.IntWalk.i32_in _ (by omega))) ?_
    refine wl (ro_arith rfl rfl rfl (Go.IntWalk.i32_in _ (by omega))) ?_
    refine wl (ro_indexAddr (et := 5) (k := 1) rfl rfl se_66 ((by have : ((2 * (a : Int) + 1)) = ((2 * a + 1 : Nat) : Int) := by { omega }; exact this)) (by omega)) ?_
    refine wl (ro_loadB rfl sc_5 (hH) (getMap h4)) ?_
    refine wl (ro_arith rfl rfl rfl (Go.IntWalk.u8_in _ (by omega))) ?_
    refine wl (ro_conv rfl sc_5 in_21 (Go.IntWalk.i32_in _ (by omega))) ?_
    refine wl (ro_assign rfl) ?_
    refine wl_nil (x_then (hK5 _ _ ?_))
    clear hK5 K5
    refine forget [(0, _), (5, _), (6, _)] ⟨rfl, rfl, rfl, trivial⟩ (fun e => ?_)
    refine c_seq (fun K6 hK6 => ?_)
    refine c_reg ?_ -- region 5 heap.go:70
    refine wl (ro_move rfl) ?_
    refine wl (ro_nilCheck rfl) ?_
    refine wl (ro_fieldAddr (k := 3) rfl fo_69_3) ?_
    refine wl (ro_loadB rfl sc_65 (by assumption) rfl) ?_
    refine wl (ro_move rfl) ?_
    refine wl (ro_move rfl) ?_
    refine wl (ro_move rfl) ?_
    refine wl (ro_arith rfl rfl rfl (Go.IntWalk.i32_in _ (by omega))) ?_
    refine wl (ro_sliceLH (l := o) (h := o + (d.toNat - 48)) rfl rfl rfl se_65 rfl (by omega) (by omega) (by omega)) ?_
    refine wl (ro_assign rfl) ?_
    refine wl_nil (x_then (hK6 _ _ ?_))
    clear hK6 K6
    refine c_ret ?_
    refine bp_ret Tryz.results102 rfl ?_
    exact ⟨hk.symm, rfl⟩
  · have hk : kidsV L R a = .slice none 0 0 := by simp [kidsV, hx, h1]
    have h02 : x = 0 ∨ x = 2 := by omega
    refine ret_of Tryz.func102 rfl Tryz.ntmps102 rfl ?_
    refine c_seq (fun K1 hK1 => ?_)
    refine c_reg ?_ -- region 0 heap.go:64
    refine wl (ro_assign rfl) ?_
    refine wl_nil (x_then (hK1 _ _ ?_))
    clear hK1 K1
    refine c_seq (fun K2 hK2 => ?_)
    refine c_seq (fun K3 hK3 => ?_)
    refine c_reg ?_ -- region 1 heap.go:65
    refine wl (ro_move rfl) ?_
    refine wl (ro_nilCheck rfl) ?_
    refine wl (ro_fieldAddr (k := 0) rfl fo_69_0) ?_
    refine wl (ro_loadB rfl sc_64 (by assumption) rfl) ?_
    refine wl (ro_move rfl) ?_
    refine wl (ro_indexAddr (et := 177) (k := 1) rfl rfl se_64 rfl (ha)) ?_
    refine wl (ro_loadB rfl sc_177 (hT) (getMap hx)) ?_
    refine wl (ro_bits (r := 0) rfl rfl (by rcases h02 with rfl | rfl <;> rfl)) ?_
    refine wl (ro_cmp rfl rfl rfl) ?_
    refine wl_nil (x_then (hK3 _ _ ?_))
    clear hK3 K3
    refine wc_condT rfl ?_
    refine c_seq (fun K4 hK4 => ?_)
    refine c_reg ?_ -- region 2 heap.go:66
    refine wl (ro_assign rfl) ?_
    refine wl_nil (x_then (hK4 _ _ ?_))
    clear hK4 K4
    refine c_ret (x_thenR ?_)
    refine bp_ret Tryz.results102 rfl ?_
    exact ⟨hk.symm, rfl⟩

theorem Head71n {w : World} {L : HL} {R : RH} (H : HeapAt w.heap L R) :
    Ret Tryz.prog 71 [ptr L.h, .int .i64 (-1)] w (fun v w' => v = S [] ∧ w' = w) := by
  have hB := H.st
  refine ret_of Tryz.func71 rfl Tryz.ntmps71 rfl ?_
  refine c_seq (fun K1 hK1 => ?_)
  refine c_reg ?_ -- region 0 heap.go:82
  refine wl (ro_assign rfl) ?_
  refine wl_nil (x_then (hK1 _ _ ?_))
  clear hK1 K1
  refine forget [(0, _), (1, _)] ⟨rfl, rfl, trivial⟩ (fun e => ?_)
  refine c_seq (fun K2 hK2 => ?_)
  refine c_reg ?_ -- region 1 heap.go:83
  refine wl (ro_move rfl) ?_
  refine wl (ro_move rfl) ?_
  refine wl_call rfl en_101 (Deref101n H) ?_
  rintro _ _ ⟨rfl, rfl⟩
  refine wl (ro_assign rfl) ?_
  refine wl_nil (x_then (hK2 _ _ ?_))
  clear hK2 K2
  refine c_seq (fun K3 hK3 => ?_)
  refine c_seq (fun K4 hK4 => ?_)
  refine c_reg ?_ -- region 2 heap.go:84
  refine wl (ro_move rfl) ?_
  refine wl (ro_cmp (r := true) rfl rfl (by simp)) ?_
  refine wl (ro_move rfl) ?_
  refine wlg_no rfl ?_
  refine wlg_no rfl ?_
  refine wlg_no rfl ?_
  refine wlg_no rfl ?_
  refine wlg_no rfl ?_
  refine wlg_no rfl ?_
  refine wlg_no rfl ?_
  refine wlg_no rfl ?_
  refine wlg_no rfl ?_
  refine wl (ro_pick rfl rfl rfl) ?_
  refine wl_nil (x_then (hK4 _ _ ?_))
  clear hK4 K4
  refine wc_condT rfl ?_
  refine c_seq (fun K5 hK5 => ?_)
  refine c_reg ?_ -- region 3 heap.go:85
  refine wl (ro_assign rfl) ?_
  refine wl_nil (x_then (hK5 _ _ ?_))
  clear hK5 K5
  refine c_ret (x_thenR ?_)
  refine bp_ret Tryz.results71 rfl ?_
  exact ⟨rfl, rfl⟩

theorem Head71 {w : World} {L : HL} {R : RH} (H : HeapAt w.heap L R) (wf : WFc R) {a : Nat} (ha : a < R.tags.length) :
    Ret Tryz.prog 71 [ptr L.h, i64c a] w (fun v w' => v = S (hd R.abs a) ∧ w' = w) := by
  obtain ⟨hB, ⟨j1, hT, _⟩, ⟨j2, hW, _⟩, ⟨j3, hH, _⟩, _⟩ := id H
  have hsz := wf.size
  have hl2 := wf.len2
  obtain ⟨hdl, htg⟩ := deref_tag wf ha
  rcases htg with hx | hx
  · have hhd : hd R.abs a = [] := by simp [hd, abs_of_var hx]
    refine ret_of Tryz.func71 rfl Tryz.ntmps71 rfl ?_
    refine c_seq (fun K1 hK1 => ?_)
    refine c_reg ?_ -- region 0 heap.go:82
    refine wl (ro_assign rfl) ?_
    refine wl_nil (x_then (hK1 _ _ ?_))
    clear hK1 K1
    refine forget [(0, _), (1, _)] ⟨rfl, rfl, trivial⟩ (fun e => ?_)
    refine c_seq (fun K2 hK2 => ?_)
    refine c_reg ?_ -- region 1 heap.go:83
    refine wl (ro_move rfl) ?_
    refine wl (ro_move rfl) ?_
    refine wl_call rfl en_101 (Deref101 H wf ha) ?_
    rintro _ _ ⟨rfl, rfl⟩
    refine wl (ro_assign rfl) ?_
    refine wl_nil (x_then (hK2 _ _ ?_))
    clear hK2 K2
    refine c_seq (fun K3 hK3 => ?_)
    refine c_seq (fun K4 hK4 => ?_)
    refine c_reg ?_ -- region 2 heap.go:84
    refine wl (ro_move rfl) ?_
    refine wl (ro_cmp (r := false) rfl rfl (by simp)) ?_
    refine wl (ro_move rfl) ?_
    refine wlg_yes rfl (ro_move rfl) ?_
    refine wlg_yes rfl (ro_nilCheck rfl) ?_
    refine wlg_yes rfl (ro_fieldAddr (k := 0) rfl fo_69_0) ?_
    refine wlg_yes rfl (ro_loadB rfl sc_64 (by assumption) rfl) ?_
    refine wlg_yes rfl (ro_move rfl) ?_
    refine wlg_yes rfl (ro_indexAddr (et := 177) (k := 1) rfl rfl se_64 rfl (hdl)) ?_
    refine wlg_yes rfl (ro_loadB rfl sc_177 (hT) (getMap hx)) ?_
    refine wlg_yes rfl (ro_bits (r := 0) rfl rfl rfl) ?_
    refine wlg_yes rfl (ro_cmp rfl rfl rfl) ?_
    refine wl (ro_pick rfl rfl rfl) ?_
    refine wl_nil (x_then (hK4 _ _ ?_))
    clear hK4 K4
    refine wc_condT rfl ?_
    refine c_seq (fun K5 hK5 => ?_)
    refine c_reg ?_ -- region 3 heap.go:85
    refine wl (ro_assign rfl) ?_
    refine wl_nil (x_then (hK5 _ _ ?_))
    clear hK5 K5
    refine c_ret (x_thenR ?_)
    refine bp_ret Tryz.results71 rfl ?_
    exact ⟨by rw [hhd]; rfl, rfl⟩
  · obtain ⟨o, f, d, h2, h3, h4, h5, h6, h7, hab⟩ := abs_of_str wf hx
    have hhd : hd R.abs a = [f, d] := by simp [hd, hab]
    have hseg : ((R.heads.map u8c ++ j3).drop (0 + 2 * deref R.abs a * 1)).take (2 * deref R.abs a + 2 - 2 * deref R.abs a) = [f, d].map u8c := by
      have e1 := (List.getElem?_eq_some_iff.1 h3)
      have e2 := (List.getElem?_eq_some_iff.1 h4)
      obtain ⟨l1, e1⟩ := e1
      obtain ⟨l2, e2⟩ := e2
      rw [List.drop_append_of_le_length (by simp; omega), List.take_append_of_le_length (by simp; omega)]
      have e3 : 2 * deref R.abs a + 2 - 2 * deref R.abs a = 2 := by omega
      rw [e3, ← List.map_drop, Nat.zero_add, Nat.mul_one, List.drop_eq_getElem_cons l1, List.drop_eq_getElem_cons l2]
      simp [e1, e2]
    have hcap : ¬ (128 = 2 * deref R.abs a) := by omega
    refine ret_of Tryz.func71 rfl Tryz.ntmps71 rfl ?_
    refine c_seq (fun K1 hK1 => ?_)
    refine c_reg ?_ -- region 0 heap.go:82
    refine wl (ro_assign rfl) ?_
    refine wl_nil (x_then (hK1 _ _ ?_))
    clear hK1 K1
    refine forget [(0, _), (1, _)] ⟨rfl, rfl, trivial⟩ (fun e => ?_)
    refine c_seq (fun K2 hK2 => ?_)
    refine c_reg ?_ -- region 1 heap.go:83
    refine wl (ro_move rfl) ?_
    refine wl (ro_move rfl) ?_
    refine wl_call rfl en_101 (Deref101 H wf ha) ?_
    rintro _ _ ⟨rfl, rfl⟩
    refine wl (ro_assign rfl) ?_
    refine wl_nil (x_then (hK2 _ _ ?_))
    clear hK2 K2
    refine c_seq (fun K3 hK3 => ?_)
    refine c_seq (fun K4 hK4 => ?_)
    refine c_reg ?_ -- region 2 heap.go:84
    refine wl (ro_move rfl) ?_
    refine wl (ro_cmp (r := false) rfl rfl (by simp)) ?_
    refine wl (ro_move rfl) ?_
    refine wlg_yes rfl (ro_move rfl) ?_
    refine wlg_yes rfl (ro_nilCheck rfl) ?_
    refine wlg_yes rfl (ro_fieldAddr (k := 0) rfl fo_69_0) ?_
    refine wlg_yes rfl (ro_loadB rfl sc_64 (by assumption) rfl) ?_
    refine wlg_yes rfl (ro_move rfl) ?_
    refine wlg_yes rfl (ro_indexAddr (et := 177) (k := 1) rfl rfl se_64 rfl (hdl)) ?_
    refine wlg_yes rfl (ro_loadB rfl sc_177 (hT) (getMap hx)) ?_
    refine wlg_yes rfl (ro_bits (r := 1) rfl rfl rfl) ?_
    refine wlg_yes rfl (ro_cmp rfl rfl rfl) ?_
    refine wl (ro_pick rfl rfl rfl) ?_
    refine wl_nil (x_then (hK4 _ _ ?_))
    clear hK4 K4
    refine wc_condF rfl ?_
    refine c_skip (x_then (hK3 _ _ ?_))
    clear hK3 K3
    refine forget [(0, _), (1, _)] ⟨rfl, rfl, trivial⟩ (fun e => ?_)
    refine c_seq (fun K5 hK5 => ?_)
    refine c_reg ?_ -- region 4 heap.go:87
    refine wl (ro_move rfl) ?_
    refine wl (ro_nilCheck rfl) ?_
    refine wl (ro_fieldAddr (k := 2) rfl fo_69_2) ?_
    refine wl (ro_loadB rfl sc_66 (by assumption) rfl) ?_
    refine wl (ro_move rfl) ?_
    refine wl (ro_arith rfl rfl rfl (Go.IntWalk.i64_in _ (by omega))) ?_
    refine wl (ro_move rfl) ?_
    refine wl (ro_arith rfl rfl rfl (Go.IntWalk.i64_in _ (by omega))) ?_
    refine wl (ro_arith rfl rfl rfl (Go.IntWalk.i64_in _ (by omega))) ?_
    refine wl (ro_sliceLH (l := 2 * deref R.abs a) (h := 2 * deref R.abs a + 2) rfl rfl rfl se_66 (by omega) (by omega) (by omega) (by omega)) ?_
    refine wl (ro_b2s (bs := [f, d]) (by rw [if_neg hcap]; rfl) se_66 in_5 st_9 hH hseg (by simp)) ?_
    refine wl (ro_assign rfl) ?_
    refine wl_nil (x_then (hK5 _ _ ?_))
    clear hK5 K5
    refine c_ret ?_
    refine bp_ret Tryz.results71 rfl ?_
    exact ⟨by rw [hhd], rfl⟩

theorem argOf_kids {R : RH} (wf : WFc R) {a o i : Nat} {d : UInt8} (hx : R.tags[deref R.abs a]? = some 1) (h2 : R.word[deref R.abs a]? = some o) (h4 : R.heads[2 * deref R.abs a + 1]? = some d) (hi : i < d.toNat - 48) : ∃ k, R.args[o + i]? = some k ∧ argOf R.abs a i = some k := by
  obtain ⟨o', f, d', k2, k3, k4, k5, k6, k7, hab⟩ := abs_of_str wf hx
  rw [h2] at k2; cases k2
  rw [h4] at k4; cases k4
  have hlt : o + i < R.args.length := by omega
  refine ⟨_, List.getElem?_eq_getElem hlt, ?_⟩
  have hl : ((R.args.drop o).take (d.toNat - 48)).length = d.toNat - 48 := by simp; omega
  simp only [argOf, hab]
  rw [if_pos (show i < ar [f, d] from hi), pad4_get (by rw [hl]; exact hi) (by rw [hl]; omega), List.getElem?_take, if_pos hi, List.getElem?_drop, List.getElem?_eq_getElem hlt]

theorem Arg57 {w : World} {L : HL} {R : RH} (H : HeapAt w.heap L R) (wf : WFc R) {a : Nat} (ha : a < R.tags.length) (i : Nat) (hi : i < 1000) :
    Ret Tryz.prog 57 [ptr L.h, i64c a, i64c i] w (fun v w' => v = optc (argOf R.abs a i) ∧ w' = w) := by
  obtain ⟨hB, ⟨j1, hT, _⟩, ⟨j2, hW, _⟩, ⟨j3, hH, _⟩, ⟨j4, hA, _⟩, _⟩ := id H
  have hsz := wf.size
  have hl2 := wf.len2
  have hac := wf.acap
  obtain ⟨hdl, htg⟩ := deref_tag wf ha
  rcases htg with hx | hx
  · have hk : kidsV L R (deref R.abs a) = .slice none 0 0 := by simp [kidsV, hx]
    have har : argOf R.abs a i = none := by simp [argOf, abs_of_var hx, ar]
    refine ret_of Tryz.func57 rfl Tryz.ntmps57 rfl ?_
    refine c_seq (fun K1 hK1 => ?_)
    refine c_reg ?_ -- region 0 heap.go:91
    refine wl (ro_assign rfl) ?_
    refine wl_nil (x_then (hK1 _ _ ?_))
    clear hK1 K1
    refine forget [(0, _), (1, _), (2, _)] ⟨rfl, rfl, rfl, trivial⟩ (fun e => ?_)
    refine c_seq (fun K2 hK2 => ?_)
    refine c_reg ?_ -- region 1 heap.go:92
    refine wl (ro_move rfl) ?_
    refine wl (ro_move rfl) ?_
    refine wl_call rfl en_101 (Deref101 H wf ha) ?_
    rintro _ _ ⟨rfl, rfl⟩
    refine wl (ro_assign rfl) ?_
    refine wl_nil (x_then (hK2 _ _ ?_))
    clear hK2 K2
    refine c_seq (fun K3 hK3 => ?_)
    refine c_seq (fun K4 hK4 => ?_)
    refine c_reg ?_ -- region 2 heap.go:93
    refine wl (ro_move rfl) ?_
    refine wl (ro_cmp (r := false) rfl rfl (by simp)) ?_
    refine wl_nil (x_then (hK4 _ _ ?_))
    clear hK4 K4
    refine wc_condF rfl ?_
    refine c_skip (x_then (hK3 _ _ ?_))
    clear hK3 K3
    refine forget [(0, _), (1, _), (2, _)] ⟨rfl, rfl, rfl, trivial⟩ (fun e => ?_)
    refine c_seq (fun K5 hK5 => ?_)
    refine c_reg ?_ -- region 4 heap.go:96
    refine wl (ro_move rfl) ?_
    refine wl (ro_move rfl) ?_
    refine wl (ro_conv rfl sc_3 in_21 (Go.IntWalk.i32_in _ (by omega))) ?_
    refine wl_call rfl en_102 (kids102 H wf hdl) ?_
    rintro _ _ ⟨rfl, rfl⟩
    rw [hk]
    refine wl (ro_assign rfl) ?_
    refine wl_nil (x_then (hK5 _ _ ?_))
    clear hK5 K5
    refine c_seq (fun K6 hK6 => ?_)
    refine c_seq (fun K7 hK7 => ?_)
    refine c_reg ?_ -- region 5 heap.go:97
    refine wl (ro_move rfl) ?_
    refine wl (ro_cmp (r := false) rfl rfl (by simp)) ?_
    refine wl (ro_move rfl) ?_
    refine wlg_yes rfl (ro_move rfl) ?_
    refine wlg_yes rfl (ro_move rfl) ?_
    refine wlg_yes rfl (ro_lenL rfl se_65) ?_
    refine wlg_yes rfl (ro_cmp (r := true) rfl rfl (by simp)) ?_
    refine wl (ro_pick rfl rfl rfl) ?_
    refine wl_nil (x_then (hK7 _ _ ?_))
    clear hK7 K7
    refine wc_condT rfl ?_
    refine c_seq (fun K8 hK8 => ?_)
    refine c_reg ?_ -- region 6 heap.go:98
    refine wl (ro_assign rfl) ?_
    refine wl_nil (x_then (hK8 _ _ ?_))
    clear hK8 K8
    refine c_ret (x_thenR ?_)
    refine bp_ret Tryz.results57 rfl ?_
    exact ⟨by rw [har]; rfl, rfl⟩
  · obtain ⟨o, f, d, h2, h3, h4, h5, h6, h7, hab⟩ := abs_of_str wf hx
    have hk : kidsV L R (deref R.abs a) = .slice (some (if 256 = o then ⟨L.a, 0, none⟩ else ⟨L.a, 0 + o * 1, none⟩)) (o + (d.toNat - 48) - o) (256 - o) := by simp [kidsV, hx, h2, h4]
    by_cases hi2 : i < d.toNat - 48
    · obtain ⟨k, hk1, hk2⟩ := argOf_kids wf hx h2 h4 hi2
      have hcap : ¬ (256 = o) := by omega
      have hkk := wf.arg _ _ hk1
      refine ret_of Tryz.func57 rfl Tryz.ntmps57 rfl ?_
      refine c_seq (fun K1 hK1 => ?_)
      refine c_reg ?_ -- region 0 heap.go:91
      refine wl (ro_assign rfl) ?_
      refine wl_nil (x_then (hK1 _ _ ?_))
      clear hK1 K1
      refine forget [(0, _), (1, _), (2, _)] ⟨rfl, rfl, rfl, trivial⟩ (fun e => ?_)
      refine c_seq (fun K2 hK2 => ?_)
      refine c_reg ?_ -- region 1 heap.go:92
      refine wl (ro_move rfl) ?_
      refine wl (ro_move rfl) ?_
      refine wl_call rfl en_101 (Deref101 H wf ha) ?_
      rintro _ _ ⟨rfl, rfl⟩
      refine wl (ro_assign rfl) ?_
      refine wl_nil (x_then (hK2 _ _ ?_))
      clear hK2 K2
      refine c_seq (fun K3 hK3 => ?_)
      refine c_seq (fun K4 hK4 => ?_)
      refine c_reg ?_ -- region 2 heap.go:93
      refine wl (ro_move rfl) ?_
      refine wl (ro_cmp (r := false) rfl rfl (by simp)) ?_
      refine wl_nil (x_then (hK4 _ _ ?_))
      clear hK4 K4
      refine wc_condF rfl ?_
      refine c_skip (x_then (hK3 _ _ ?_))
      clear hK3 K3
      refine forget [(0, _), (1, _), (2, _)] ⟨rfl, rfl, rfl, trivial⟩ (fun e => ?_)
      refine c_seq (fun K5 hK5 => ?_)
      refine c_reg ?_ -- region 4 heap.go:96
      refine wl (ro_move rfl) ?_
      refine wl (ro_move rfl) ?_
      refine wl (ro_conv rfl sc_3 in_21 (Go.IntWalk.i32_in _ (by omega))) ?_
      refine wl_call rfl en_102 (kids102 H wf hdl) ?_
      rintro _ _ ⟨rfl, rfl⟩
      rw [hk, if_neg hcap]
      refine wl (ro_assign rfl) ?_
      refine wl_nil (x_then (hK5 _ _ ?_))
      clear hK5 K5
      refine c_seq (fun K6 hK6 => ?_)
      refine c_seq (fun K7 hK7 => ?_)
      refine c_reg ?_ -- region 5 heap.go:97
      refine wl (ro_move rfl) ?_
      refine wl (ro_cmp (r := false) rfl rfl (by simp)) ?_
      refine wl (ro_move rfl) ?_
      refine wlg_yes rfl (ro_move rfl) ?_
      refine wlg_yes rfl (ro_move rfl) ?_
      refine wlg_yes rfl (ro_lenL rfl se_65) ?_
      refine wlg_yes rfl (ro_cmp (r := false) rfl rfl (by simp; omega)) ?_
      refine wl (ro_pick rfl rfl rfl) ?_
      refine wl_nil (x_then (hK7 _ _ ?_))
      clear hK7 K7
      refine wc_condF rfl ?_
      refine c_skip (x_then (hK6 _ _ ?_))
      clear hK6 K6
      refine forget [(2, _), (7, _)] ⟨rfl, rfl, trivial⟩ (fun e => ?_)
      refine c_seq (fun K8 hK8 => ?_)
      refine c_reg ?_ -- region 7 heap.go:100
      refine wl (ro_move rfl) ?_
      refine wl (ro_move rfl) ?_
      refine wl (ro_indexAddr (et := 21) (k := 1) rfl rfl se_65 rfl (by omega)) ?_
      refine wl (ro_loadB rfl sc_21 (hA) ((by rw [show 0 + o * 1 + i * 1 = 0 + (o + i) * 1 by omega]; exact getMap hk1))) ?_
      refine wl (ro_conv rfl sc_21 in_3 (Go.IntWalk.i64_in _ (by omega))) ?_
      refine wl (ro_assign rfl) ?_
      refine wl_nil (x_then (hK8 _ _ ?_))
      clear hK8 K8
      refine c_ret ?_
      refine bp_ret Tryz.results57 rfl ?_
      exact ⟨by rw [hk2]; rfl, rfl⟩
    · have har : argOf R.abs a i = none := by { simp only [argOf, hab]; rw [if_neg (show ¬ i < ar [f, d] from hi2)] }
      refine ret_of Tryz.func57 rfl Tryz.ntmps57 rfl ?_
      refine c_seq (fun K1 hK1 => ?_)
      refine c_reg ?_ -- region 0 heap.go:91
      refine wl (ro_assign rfl) ?_
      refine wl_nil (x_then (hK1 _ _ ?_))
      clear hK1 K1
      refine forget [(0, _), (1, _), (2, _)] ⟨rfl, rfl, rfl, trivial⟩ (fun e => ?_)
      refine c_seq (fun K2 hK2 => ?_)
      refine c_reg ?_ -- region 1 heap.go:92
      refine wl (ro_move rfl) ?_
      refine wl (ro_move rfl) ?_
      refine wl_call rfl en_101 (Deref101 H wf ha) ?_
      rintro _ _ ⟨rfl, rfl⟩
      refine wl (ro_assign rfl) ?_
      refine wl_nil (x_then (hK2 _ _ ?_))
      clear hK2 K2
      refine c_seq (fun K3 hK3 => ?_)
      refine c_seq (fun K4 hK4 => ?_)
      refine c_reg ?_ -- region 2 heap.go:93
      refine wl (ro_move rfl) ?_
      refine wl (ro_cmp (r := false) rfl rfl (by simp)) ?_
      refine wl_nil (x_then (hK4 _ _ ?_))
      clear hK4 K4
      refine wc_condF rfl ?_
      refine c_skip (x_then (hK3 _ _ ?_))
      clear hK3 K3
      refine forget [(0, _), (1, _), (2, _)] ⟨rfl, rfl, rfl, trivial⟩ (fun e => ?_)
      refine c_seq (fun K5 hK5 => ?_)
      refine c_reg ?_ -- region 4 heap.go:96
      refine wl (ro_move rfl) ?_
      refine wl (ro_move rfl) ?_
      refine wl (ro_conv rfl sc_3 in_21 (Go.IntWalk.i32_in _ (by omega))) ?_
      refine wl_call rfl en_102 (kids102 H wf hdl) ?_
      rintro _ _ ⟨rfl, rfl⟩
      rw [hk]
      refine wl (ro_assign rfl) ?_
      refine wl_nil (x_then (hK5 _ _ ?_))
      clear hK5 K5
      refine c_seq (fun K6 hK6 => ?_)
      refine c_seq (fun K7 hK7 => ?_)
      refine c_reg ?_ -- region 5 heap.go:97
      refine wl (ro_move rfl) ?_
      refine wl (ro_cmp (r := false) rfl rfl (by simp)) ?_
      refine wl (ro_move rfl) ?_
      refine wlg_yes rfl (ro_move rfl) ?_
      refine wlg_yes rfl (ro_move rfl) ?_
      refine wlg_yes rfl (ro_lenL rfl se_65) ?_
      refine wlg_yes rfl (ro_cmp (r := true) rfl rfl (by simp; omega)) ?_
      refine wl (ro_pick rfl rfl rfl) ?_
      refine wl_nil (x_then (hK7 _ _ ?_))
      clear hK7 K7
      refine wc_condT rfl ?_
      refine c_seq (fun K8 hK8 => ?_)
      refine c_reg ?_ -- region 6 heap.go:98
      refine wl (ro_assign rfl) ?_
      refine wl_nil (x_then (hK8 _ _ ?_))
      clear hK8 K8
      refine c_ret (x_thenR ?_)
      refine bp_ret Tryz.results57 rfl ?_
      exact ⟨by rw [har]; rfl, rfl⟩

end Go.Proofs.Qxb6500569aGreat
