import Derived.Test.Qxb6500569aGreatWa
/- The real heap: Write. -/
namespace Go.Proofs.Qxb6500569aGreat
set_option linter.unusedVariables false
set_option linter.unusedSimpArgs false

/-- What Write answers of the term at a. -/
def wrV (hp : List Nd) (a : Nat) : Value := if (putF 49 hp a [] []).1 then .tuple #[S (putF 49 hp a [] []).2.1, i64c 0] else .tuple #[S [], i64c 8]

theorem Write42 {w : World} {L : HL} {R : RH} (H : HeapAt w.heap L R) (wf : WFc R) {a : Nat} (ha : a < R.tags.length) :
    Ret Tryz.prog 42 [ptr L.h, i64c a] w (fun r w' => r = wrV R.abs a ∧ Fram none' w w') := by
  have hB := H.st
  have hsz := wf.size
  have hbase : ∀ b, L.foot b → b < w.heap.size := fun b hb => H.lt hb
  refine ret_of Tryz.func42 rfl Tryz.ntmps42 rfl ?_
  refine c_seq (fun K1 hK1 => ?_)
  refine c_reg ?_ -- region 0 write.go:14
  refine wl (ro_assign rfl) ?_
  refine wl (ro_assign rfl) ?_
  refine wl_nil (x_then (hK1 _ _ ?_))
  clear hK1 K1
  refine c_seq (fun K2 hK2 => ?_)
  refine c_seq (fun K3 hK3 => ?_)
  refine c_reg ?_ -- region 1 write.go:15
  refine wl (ro_move rfl) ?_
  refine wl (ro_cmp (r := false) rfl rfl (by simp)) ?_
  refine wl (ro_move rfl) ?_
  refine wlg_yes rfl (ro_move rfl) ?_
  refine wlg_yes rfl (ro_move rfl) ?_
  refine wlg_yes rfl (ro_nilCheck rfl) ?_
  refine wlg_yes rfl (ro_fieldAddr (k := 0) rfl fo_69_0) ?_
  refine wlg_yes rfl (ro_loadB rfl sc_64 (by assumption) rfl) ?_
  refine wlg_yes rfl (ro_lenL rfl se_64) ?_
  refine wlg_yes rfl (ro_cmp (r := false) rfl rfl (by simp; omega)) ?_
  refine wl (ro_pick rfl rfl rfl) ?_
  refine wl_nil (x_then (hK3 _ _ ?_))
  clear hK3 K3
  refine wc_condF rfl ?_
  refine c_skip (x_then (hK2 _ _ ?_))
  clear hK2 K2
  refine forget [(0, _), (1, _)] ⟨rfl, rfl, trivial⟩ (fun e => ?_)
  refine c_seq (fun K4 hK4 => ?_)
  refine c_reg ?_ -- region 3 write.go:18
  refine wle (eo_make (len := 0) (cap := 52) rfl rfl se_66 ze_5 (by omega) (by omega) rfl bb_5) ?_
  refine wle eo_makeMap ?_
  skip
  refine wl (ro_build rfl bld_143_0_1) ?_
  refine wle (eo_box rfl rfl) ?_
  have F1 : Fram none' w _ := ((Fram.refl none' w).thenAlloc (o := .cells (madeCells [Value.int .u8 0].toArray (52 * 1)) 5)).thenAlloc (o := .map #[] 0) |>.thenAlloc (o := .cells [.slice (some ⟨w.heap.size, 0, none⟩) 0 52, .map (some (w.alloc (.cells (madeCells [Value.int .u8 0].toArray (52 * 1)) 5)).heap.size)].toArray 143)
  have hO : Own (w.alloc (.cells (madeCells [Value.int .u8 0].toArray (52 * 1)) 5)).heap (.slice (some ⟨w.heap.size, 0, none⟩) 0 52) 5 1 0 [] := ⟨rfl, .inr ⟨_, 52, List.replicate 52 (.int .u8 0), rfl, (by rw [made_zero]; exact Blk.new _ _ _), by omega, by omega, by simp, by simp⟩⟩
  have hP : Pen w.heap.size _ _ _ [] [] _ := ⟨Blk.new ((w.alloc (.cells (madeCells [Value.int .u8 0].toArray (52 * 1)) 5)).alloc (.map #[] 0)) [.slice (some ⟨w.heap.size, 0, none⟩) 0 52, .map (some (w.alloc (.cells (madeCells [Value.int .u8 0].toArray (52 * 1)) 5)).heap.size)] 143, (hO.alloc _).alloc _, (fun b hb => by cases hb; exact Nat.le_refl _), (MapAt.new _).fram (Fram.alloc none' _ _) (fun h => h), by simp; omega, by simp⟩
  refine gen2 (A := fun w4 => Pen w.heap.size ((w.alloc (.cells (madeCells [Value.int .u8 0].toArray (52 * 1)) 5)).alloc (.map #[] 0)).heap.size (w.alloc (.cells (madeCells [Value.int .u8 0].toArray (52 * 1)) 5)).heap.size (.slice (some ⟨w.heap.size, 0, none⟩) 0 52) [] [] w4) (B := fun w4 => Fram none' w w4) (C := fun w4 => WL _ _ _ _ _ w4) hP F1 ?_
  clear hP F1 hO
  generalize ((w.alloc (.cells (madeCells [Value.int .u8 0].toArray (52 * 1)) 5)).alloc (.map #[] 0)).heap.size = pb
  generalize (w.alloc (.cells (madeCells [Value.int .u8 0].toArray (52 * 1)) 5)).heap.size = mb
  intro w1 hP F1
  have H1 := H.fram0 F1
  refine wl (ro_assign rfl) ?_
  refine wl_nil (x_then (hK4 _ _ ?_))
  clear hK4 K4
  refine forget [(0, _), (1, _), (6, _)] ⟨rfl, rfl, rfl, trivial⟩ (fun e => ?_)
  refine c_seq (fun K5 hK5 => ?_)
  refine c_reg ?_ -- region 4 write.go:19
  refine wl (ro_move rfl) ?_
  refine wl (ro_move rfl) ?_
  refine wl (ro_move rfl) ?_
  refine wl (ro_conv rfl sc_3 in_21 (Go.IntWalk.i32_in _ (by omega))) ?_
  refine wl_call rfl en_83 (put83 wf (mb := mb) hbase 49 w1 _ [] [] a H1 F1.size hP (by simp) (by simp) (by simp) ha) ?_
  rintro _ w2 ⟨rfl, V2, hP2, F2⟩
  have F3 : Fram none' w w2 := F1.trans' F2 (fun k hk h => by omega)
  refine wl (ro_assign rfl) ?_
  refine wl_nil (x_then (hK5 _ _ ?_))
  clear hK5 K5
  refine c_seq (fun K6 hK6 => ?_)
  refine c_seq (fun K7 hK7 => ?_)
  refine c_reg ?_ -- region 5 write.go:20
  refine wl (ro_move rfl) ?_
  refine wl (ro_not rfl) ?_
  refine wl_nil (x_then (hK7 _ _ ?_))
  clear hK7 K7
  refine wc_cond rfl (fun hc29 => ?_) (fun hc29 => ?_)
  · try simp only [decide_eq_true_eq, decide_eq_false_iff_not, Bool.not_eq_true', Bool.not_eq_false', Bool.not_eq_eq_eq_not, Bool.not_true, Bool.not_false, beq_iff_eq, bne_iff_ne, ne_eq, beq_eq_false_iff_ne, bne_eq_false_iff_eq, gt_iff_lt, ge_iff_le, Int.not_lt, Int.not_le] at hc29
    have hno : (putF 49 R.abs a [] []).1 = false := by simpa using hc29
    refine c_seq (fun K8 hK8 => ?_)
    refine c_reg ?_ -- region 6 write.go:21
    refine wl (ro_assign rfl) ?_
    refine wl (ro_assign rfl) ?_
    refine wl_nil (x_then (hK8 _ _ ?_))
    clear hK8 K8
    refine c_ret (x_thenR ?_)
    refine bp_ret Tryz.results42 rfl ?_
    exact ⟨by unfold wrV; rw [hno]; rfl, F3⟩
  · try simp only [decide_eq_true_eq, decide_eq_false_iff_not, Bool.not_eq_true', Bool.not_eq_false', Bool.not_eq_eq_eq_not, Bool.not_true, Bool.not_false, beq_iff_eq, bne_iff_ne, ne_eq, beq_eq_false_iff_ne, bne_eq_false_iff_eq, gt_iff_lt, ge_iff_le, Int.not_lt, Int.not_le] at hc29
    have hyes : (putF 49 R.abs a [] []).1 = true := by simpa using hc29
    have hpos : 0 < (putF 49 R.abs a [] []).2.1.length := by
      cases hh : hOf R.abs (deref R.abs a) with
      | nil => rw [putF_var hh]; simp
      | cons c r =>
        rw [putF_str hh]
        have := (putK_grows (putF_grows 48 R.abs) (kidsOf R.abs (deref R.abs a)) 40 ([] ++ [c]) []).1
        simp only [List.nil_append, List.length_singleton] at this
        split
        · unfold fin; simp only; split <;> simp <;> omega
        · simp only [List.nil_append]; omega
    obtain ⟨g, cap, l, rfl, hBl, hc1, hc2, hl1, hl2⟩ := hP2.own.pos hpos
    refine c_skip (x_then (hK6 _ _ ?_))
    clear hK6 K6
    refine forget [(6, _)] ⟨rfl, trivial⟩ (fun e => ?_)
    refine c_seq (fun K9 hK9 => ?_)
    refine c_reg ?_ -- region 7 write.go:23
    refine wl (ro_move rfl) ?_
    refine wl (ro_nilCheck rfl) ?_
    refine wl (ro_fieldAddr (k := 0) rfl fo_143_0) ?_
    refine wl (ro_loadB rfl sc_66 (hP2.blk) (rfl)) ?_
    refine wl (ro_b2s (bs := (putF 49 R.abs a [] []).2.1) rfl se_66 in_5 st_9 hBl (by rw [List.drop_zero]; simpa using hl2) rfl) ?_
    refine wl (ro_assign rfl) ?_
    refine wl (ro_assign rfl) ?_
    refine wl_nil (x_then (hK9 _ _ ?_))
    clear hK9 K9
    refine c_ret ?_
    refine bp_ret Tryz.results42 rfl ?_
    exact ⟨by unfold wrV; rw [if_pos hyes]; rfl, F3⟩

end Go.Proofs.Qxb6500569aGreat
