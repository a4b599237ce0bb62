import Derived.Test.Qxb6500568aGreatDoorDb
/- The real tables: index; Get, Len, Count. -/
namespace Go.Proofs.Qxb6500568aGreatDoor
open Ieee
set_option linter.unusedVariables false
set_option linter.unusedSimpArgs false

theorem Fram.wide {G : Nat → Prop} {w w' : World} (h : Fram none' w w') : Fram G w w' := h.mono (fun _ _ h => h.elim)
def idxM (R : RT) (k : PV) (p : Nat) : RT := { R with
  nums := if k.T = 2 then fup R.nums k.N p else R.nums
  strs := if k.T = 3 then fup R.strs k.S p else R.strs
  refs := if k.T = 2 ∨ k.T = 3 then R.refs else fup R.refs (packV k) p }
set_option maxHeartbeats 4000000 in
theorem index147 {w : World} {ow : Nat → Nat} {ab o tag p : Nat} {l : List Value} {t : TM} {k : PV} (hA : Blk w.heap ab l 251) (hl : (l.drop o).take 6 = tmc t) (hT : TV w ow tag t) (hk : K1 k) :
    Ret Tryz.prog 147 [ptrAt ab o, pv k, i32c p] w (fun r w' => TV w' ow tag { t with R := idxM t.R k p } ∧ Fram (fun b => tag + 2 ≤ ow b ∧ ow b < tag + 5 ∧ b ≠ ab) w w') := by
  have hF : Fram none' w w := Fram.refl _ _
  have hAl := hA.lt
  have hn1 := hT.n.blk_ne hA
  have hn2 := hT.s.blk_ne hA
  have hn3 := hT.r.blk_ne hA
  have hnt := hT.nt
  have hst := hT.st
  have hrt := hT.rt
  refine ret_of Tryz.func147 rfl Tryz.ntmps147 rfl ?_
  refine c_seq (fun K1 hK1 => ?_)
  refine c_reg ?_ -- region 0 index.go:54
  refine wl_box rfl rfl (fun b4 w1 hbb4 h4 F1 => ?_)
  have hbsb4 := Nat.le_trans hF.size hbb4
  have hneabb4 : ab < b4 := Nat.lt_of_lt_of_le hA.lt hbb4
  replace hF := hF.thenDrew.thenN F1
  replace hA := F1.blkN hA
  refine wl_nil (x_then (hK1 _ _ ?_))
  clear hK1 K1
  refine forget [(0, _), (2, _), (4, _)] ⟨rfl, rfl, rfl, trivial⟩ (fun e => ?_)
  refine c_seq (fun K2 hK2 => ?_)
  refine c_reg ?_ -- region 1 index.go:55
  refine wl (ro_fieldAddr (k := 0) rfl fo_119_0) ?_
  refine wl (ro_loadB rfl sc_3 (by assumption) rfl) ?_
  refine wl_nil (x_then (hK2 _ _ ?_))
  clear hK2 K2
  refine c_block ?_
  refine forget [(0, _), (2, _), (4, _), (7, _)] ⟨rfl, rfl, rfl, rfl, trivial⟩ (fun e => ?_)
  refine c_seq (fun K3 hK3 => ?_)
  refine c_reg ?_ -- region 3 index.go:56
  refine wl (ro_cmp rfl rfl rfl) ?_
  refine wl (ro_assign rfl) ?_
  refine wl_nil (x_then (hK3 _ _ ?_))
  clear hK3 K3
  refine wc_cond rfl (fun hc15 => ?_) (fun hc15 => ?_)
  · try simp only [decide_eq_true_eq, decide_eq_false_iff_not, Bool.not_eq_true', Bool.not_eq_false', Bool.not_eq_eq_eq_not, Bool.not_true, Bool.not_false, beq_iff_eq, bne_iff_ne, ne_eq, beq_eq_false_iff_ne, bne_eq_false_iff_eq, gt_iff_lt, ge_iff_le, Int.not_lt, Int.not_le] at hc15
    refine c_piL 7 [(0, false), (1, false), (2, false), (3, false), (4, false), (5, false), (6, false)] (SameH _) mixed (by kernel_rfl) rfl (by kernel_rfl) (po_blk (po_bp)) (sameH_now _ _) ?_ -- region 4 index.go:57
    refine ql_ro rfl (fun w hS => ro_move rfl) ?_
    refine ql_ro rfl (fun w hS => ro_nilCheck rfl) ?_
    refine ql_ro rfl (fun w hS => ro_fieldAddr (k := 2) rfl fo_251_2) ?_
    refine ql_ro rfl (fun w hS => ro_loadB rfl sc_248 (Blk.of_heap hA hS) ((row_cell3 hl rfl))) ?_
    refine ql_ro rfl (fun w hS => ro_fieldAddr (k := 1) rfl fo_119_1) ?_
    refine ql_ro rfl (fun w hS => ro_loadB rfl sc_117 (Blk.of_heap (by assumption) hS) rfl) ?_
    refine ql_ro rfl (fun w hS => ro_move rfl) ?_
    refine ql_mfUp (et := 21) (vv := i32c) (f := t.R.nums) (a := k.N) (p := p) rfl keyU248 rfl rfl rfl (by kernel_rfl) (hT.n.framN hF.thenDrew) ?_
    intro u1 hM G1
    refine x_blk ?_
    refine bp_end Tryz.results147 rfl ?_
    have G : Fram (one t.mn) w u1 := (hF.wide.thenDrew).trans G1
    have hd : ∀ b, ow b ≠ tag + 2 → ¬ one t.mn b := fun b h e => h (by rw [show b = t.mn from e]; assumption)
    refine ⟨⟨hT.o.far G (fun b hb _ => hd b (by omega)) (Xt.refl _ _), hT.a.far G (fun b hb _ => hd b (by omega)) (Xt.refl _ _), ?_, ?_, ?_, hnt, hst, hrt⟩, G.mono (fun b _ e => by rw [show b = t.mn from e]; exact ⟨by omega, by omega, by assumption⟩)⟩
    · show MF u64c i32c u1.heap t.mn (if k.T = 2 then fup t.R.nums k.N p else t.R.nums)
      rw [if_pos (by omega)]; exact hM
    · show MF S i32c u1.heap t.ms (if k.T = 3 then fup t.R.strs k.S p else t.R.strs)
      rw [if_neg (by omega)]; exact hT.s.fram G (hd _ (by omega))
    · show MF u64c i32c u1.heap t.mr (if k.T = 2 ∨ k.T = 3 then t.R.refs else fup t.R.refs (packV k) p)
      rw [if_pos (by omega)]; exact hT.r.fram G (hd _ (by omega))
  · try simp only [decide_eq_true_eq, decide_eq_false_iff_not, Bool.not_eq_true', Bool.not_eq_false', Bool.not_eq_eq_eq_not, Bool.not_true, Bool.not_false, beq_iff_eq, bne_iff_ne, ne_eq, beq_eq_false_iff_ne, bne_eq_false_iff_eq, gt_iff_lt, ge_iff_le, Int.not_lt, Int.not_le] at hc15
    refine c_seq (fun K4 hK4 => ?_)
    refine c_reg ?_ -- region 5 index.go:58
    refine wl (ro_cmp rfl rfl rfl) ?_
    refine wl (ro_assign rfl) ?_
    refine wl_nil (x_then (hK4 _ _ ?_))
    clear hK4 K4
    refine wc_cond rfl (fun hc24 => ?_) (fun hc24 => ?_)
    · try simp only [decide_eq_true_eq, decide_eq_false_iff_not, Bool.not_eq_true', Bool.not_eq_false', Bool.not_eq_eq_eq_not, Bool.not_true, Bool.not_false, beq_iff_eq, bne_iff_ne, ne_eq, beq_eq_false_iff_ne, bne_eq_false_iff_eq, gt_iff_lt, ge_iff_le, Int.not_lt, Int.not_le] at hc24
      refine c_piL 7 [(0, false), (1, false), (2, false), (3, false), (4, false), (5, false), (6, false)] (SameH _) mixed (by kernel_rfl) rfl (by kernel_rfl) (po_blk (po_bp)) (sameH_now _ _) ?_ -- region 6 index.go:59
      refine ql_ro rfl (fun w hS => ro_move rfl) ?_
      refine ql_ro rfl (fun w hS => ro_nilCheck rfl) ?_
      refine ql_ro rfl (fun w hS => ro_fieldAddr (k := 3) rfl fo_251_3) ?_
      refine ql_ro rfl (fun w hS => ro_loadB rfl sc_249 (Blk.of_heap hA hS) ((row_cell3 hl rfl))) ?_
      refine ql_ro rfl (fun w hS => ro_fieldAddr (k := 2) rfl fo_119_2) ?_
      refine ql_ro rfl (fun w hS => ro_loadB rfl sc_9 (Blk.of_heap (by assumption) hS) rfl) ?_
      refine ql_ro rfl (fun w hS => ro_move rfl) ?_
      refine ql_mfUp (et := 21) (vv := i32c) (f := t.R.strs) (a := k.S) (p := p) rfl keyS249 rfl rfl rfl (by kernel_rfl) (hT.s.framN hF.thenDrew) ?_
      intro u1 hM G1
      refine x_blk ?_
      refine bp_end Tryz.results147 rfl ?_
      have G : Fram (one t.ms) w u1 := (hF.wide.thenDrew).trans G1
      have hd : ∀ b, ow b ≠ tag + 3 → ¬ one t.ms b := fun b h e => h (by rw [show b = t.ms from e]; assumption)
      refine ⟨⟨hT.o.far G (fun b hb _ => hd b (by omega)) (Xt.refl _ _), hT.a.far G (fun b hb _ => hd b (by omega)) (Xt.refl _ _), ?_, ?_, ?_, hnt, hst, hrt⟩, G.mono (fun b _ e => by rw [show b = t.ms from e]; exact ⟨by omega, by omega, by assumption⟩)⟩
      · show MF u64c i32c u1.heap t.mn (if k.T = 2 then fup t.R.nums k.N p else t.R.nums)
        rw [if_neg (by omega)]; exact hT.n.fram G (hd _ (by omega))
      · show MF S i32c u1.heap t.ms (if k.T = 3 then fup t.R.strs k.S p else t.R.strs)
        rw [if_pos (by omega)]; exact hM
      · show MF u64c i32c u1.heap t.mr (if k.T = 2 ∨ k.T = 3 then t.R.refs else fup t.R.refs (packV k) p)
        rw [if_pos (by omega)]; exact hT.r.fram G (hd _ (by omega))
    · try simp only [decide_eq_true_eq, decide_eq_false_iff_not, Bool.not_eq_true', Bool.not_eq_false', Bool.not_eq_eq_eq_not, Bool.not_true, Bool.not_false, beq_iff_eq, bne_iff_ne, ne_eq, beq_eq_false_iff_ne, bne_eq_false_iff_eq, gt_iff_lt, ge_iff_le, Int.not_lt, Int.not_le] at hc24
      have hT2 : k.T ≠ 2 := by omega
      have hT3 : k.T ≠ 3 := by omega
      refine c_piL 7 [(0, false), (1, false), (2, false), (3, false), (4, false), (6, false), (5, true)] (fun u => Blk u.heap ab l 251 ∧ Fram none' w u ∧ Blk u.heap b4 (pvc k) 119) mixed (by kernel_rfl) rfl (by kernel_rfl) (po_blk (po_bp)) (⟨hA, hF.thenDrew, h4⟩) ?_ -- region 2 index.go:61
      refine ql_ro rfl (fun w hS => ro_move rfl) ?_
      refine ql_ro rfl (fun w hS => ro_nilCheck rfl) ?_
      refine ql_ro rfl (fun w hS => ro_fieldAddr (k := 4) rfl fo_251_4) ?_
      refine ql_ro rfl (fun w hS => ro_loadB rfl sc_248 (hS.1) ((row_cell3 hl rfl))) ?_
      refine ql_ro rfl (fun w hS => ro_loadAggB rfl ag_119 (hS.2.2) (rfl) (rfl)) ?_
      refine ql_ro rfl (fun w hS => ro_move rfl) ?_
      refine ql_call rfl rfl en_201 (pack201 (hk.r hT2 hT3).1 (hk.r hT2 hT3).2) ?_
      rintro _ u1 ⟨rfl, G1⟩
      refine ⟨⟨G1.blkN hA, hF.transD G1, G1.blkN h4⟩, ?_⟩
      replace hF := hF.transG G1 (by intro k hk h; simp only [none', one] at h ⊢ <;> omega)
      replace hA := G1.blkF hA (by intro h; simp only [none', one] at h <;> omega)
      replace h4 := G1.blkF h4 (by intro h; simp only [none', one] at h <;> omega)
      refine ql_mfUp (et := 21) (vv := i32c) (f := t.R.refs) (a := packV k) (p := p) rfl keyU248 rfl rfl rfl (by kernel_rfl) (hT.r.framN hF) ?_
      intro u2 hM G2
      refine x_blk ?_
      refine bp_end Tryz.results147 rfl ?_
      have G : Fram (one t.mr) w u2 := (hF.wide).trans G2
      have hd : ∀ b, ow b ≠ tag + 4 → ¬ one t.mr b := fun b h e => h (by rw [show b = t.mr from e]; assumption)
      refine ⟨⟨hT.o.far G (fun b hb _ => hd b (by omega)) (Xt.refl _ _), hT.a.far G (fun b hb _ => hd b (by omega)) (Xt.refl _ _), ?_, ?_, ?_, hnt, hst, hrt⟩, G.mono (fun b _ e => by rw [show b = t.mr from e]; exact ⟨by omega, by omega, by assumption⟩)⟩
      · show MF u64c i32c u2.heap t.mn (if k.T = 2 then fup t.R.nums k.N p else t.R.nums)
        rw [if_neg (by omega)]; exact hT.n.fram G (hd _ (by omega))
      · show MF S i32c u2.heap t.ms (if k.T = 3 then fup t.R.strs k.S p else t.R.strs)
        rw [if_neg (by omega)]; exact hT.s.fram G (hd _ (by omega))
      · show MF u64c i32c u2.heap t.mr (if k.T = 2 ∨ k.T = 3 then t.R.refs else fup t.R.refs (packV k) p)
        rw [if_neg (by omega)]; exact hM

end Go.Proofs.Qxb6500568aGreatDoor
