import Derived.Test.Qxb6500569aGreatHd
/- The real heap: marks, the undoing, the reset. -/
namespace Go.Proofs.Qxb6500569aGreat
set_option linter.unusedVariables false
set_option linter.unusedSimpArgs false

theorem HeapAt.of_heap {w w' : World} {L : HL} {R : RH} (h : HeapAt w.heap L R) (hs : SameH w.heap w') : HeapAt w'.heap L R := by unfold SameH at hs; rw [hs]; exact h

theorem Push75 {w : World} {L : HL} {R : RH} (H : HeapAt w.heap L R) (wf : WF R) (hm : R.marks.length < 26) :
    Ret Tryz.prog 75 [ptr L.h] w (fun r w' => r = .int .i64 0 ∧ HPost w L R.push w') := by
  have hB := H.st
  have h1 := wf.core.size
  have h2 := wf.core.acap
  have h3 : R.trail.length ≤ 64 := by have := wf.core.trl; have := List.count_le_length (a := 2) (l := R.tags); omega
  refine ret_of Tryz.func75 rfl Tryz.ntmps75 rfl ?_
  refine c_seq (fun K1 hK1 => ?_)
  refine c_reg ?_ -- region 0 heap.go:104
  refine wl (ro_assign rfl) ?_
  refine wl_nil (x_then (hK1 _ _ ?_))
  clear hK1 K1
  refine c_seq (fun K2 hK2 => ?_)
  refine c_seq (fun K3 hK3 => ?_)
  refine c_reg ?_ -- region 1 heap.go:105
  refine wl (ro_move rfl) ?_
  refine wl (ro_nilCheck rfl) ?_
  refine wl (ro_fieldAddr (k := 5) rfl fo_69_5) ?_
  refine wl (ro_loadB rfl sc_67 (by assumption) rfl) ?_
  refine wl (ro_lenL rfl se_67) ?_
  refine wl (ro_cmp (r := false) rfl rfl (by simp; omega)) ?_
  refine wl_nil (x_then (hK3 _ _ ?_))
  clear hK3 K3
  refine wc_condF rfl ?_
  refine c_skip (x_then (hK2 _ _ ?_))
  clear hK2 K2
  refine forget [(0, _)] ⟨rfl, trivial⟩ (fun e => ?_)
  refine c_seq (fun K4 hK4 => ?_)
  refine c_piL 28 [(0, false), (1, false), (2, false), (3, false), (4, false), (5, false), (6, false), (7, false), (8, false), (9, false), (10, false), (11, false), (12, false), (13, false), (14, false), (15, false), (16, false), (17, false), (18, false), (19, false), (20, false), (21, false), (22, false), (23, false), (24, true), (25, true), (26, false), (27, false)] (fun w' => Blk w'.heap L.h _ 69) mixed (by kernel_rfl) rfl (by kernel_rfl) (po_then (po_bp)) (hB) ?_ -- region 3 heap.go:108
  refine ql_ro rfl (fun w hS => ro_move rfl) ?_
  refine ql_ro rfl (fun w hS => ro_move rfl) ?_
  refine ql_ro rfl (fun w hS => ro_nilCheck rfl) ?_
  refine ql_ro rfl (fun w hS => ro_fieldAddr (k := 5) rfl fo_69_5) ?_
  refine ql_ro rfl (fun w hS => ro_loadB rfl sc_67 (hS) rfl) ?_
  refine ql_ro rfl (fun w hS => ro_move rfl) ?_
  refine ql_ro rfl (fun w hS => ro_nilCheck rfl) ?_
  refine ql_ro rfl (fun w hS => ro_fieldAddr (k := 0) rfl fo_69_0) ?_
  refine ql_ro rfl (fun w hS => ro_loadB rfl sc_64 (hS) rfl) ?_
  refine ql_ro rfl (fun w hS => ro_lenL rfl se_64) ?_
  refine ql_ro rfl (fun w hS => ro_conv rfl sc_3 in_21 (Go.IntWalk.i32_in _ (by omega))) ?_
  refine ql_ro rfl (fun w hS => ro_move rfl) ?_
  refine ql_ro rfl (fun w hS => ro_nilCheck rfl) ?_
  refine ql_ro rfl (fun w hS => ro_fieldAddr (k := 3) rfl fo_69_3) ?_
  refine ql_ro rfl (fun w hS => ro_loadB rfl sc_65 (hS) rfl) ?_
  refine ql_ro rfl (fun w hS => ro_lenL rfl se_65) ?_
  refine ql_ro rfl (fun w hS => ro_conv rfl sc_3 in_21 (Go.IntWalk.i32_in _ (by omega))) ?_
  refine ql_ro rfl (fun w hS => ro_move rfl) ?_
  refine ql_ro rfl (fun w hS => ro_nilCheck rfl) ?_
  refine ql_ro rfl (fun w hS => ro_fieldAddr (k := 4) rfl fo_69_4) ?_
  refine ql_ro rfl (fun w hS => ro_loadB rfl sc_65 (hS) rfl) ?_
  refine ql_ro rfl (fun w hS => ro_lenL rfl se_65) ?_
  refine ql_ro rfl (fun w hS => ro_conv rfl sc_3 in_21 (Go.IntWalk.i32_in _ (by omega))) ?_
  refine ql_ro rfl (fun w hS => ro_build rfl bld_198_0_1_2) ?_
  refine ql_eo rfl (eo_bs1 rfl rfl se_67 zx_198 rfl rfl rfl) (hB.alloc _) ?_
  have H1 := H.alloc (.cells [i32c R.tags.length, i32c R.args.length, i32c R.trail.length].toArray 198)
  have hN := Blk.new w [i32c R.tags.length, i32c R.args.length, i32c R.trail.length] 198
  have hB1 := H1.st
  obtain ⟨j6, hM, hj6⟩ := H1.marks
  refine ql_eo rfl (eo_appR (news := [i32c R.tags.length, i32c R.args.length, i32c R.trail.length]) rfl rfl se_67 hM hN rfl rfl (by simp [i32c, Value.oneCell']) (by omega) (by simp [marks_len] at hj6 ⊢; omega)) (hB1.set_ne _ H1.ne.1.2.2.2.2.2) ?_
  have hB2 := hB1.set_ne ((R.marks.flatMap mkc ++ j6).take (R.marks.length * 3) ++ [i32c R.tags.length, i32c R.args.length, i32c R.trail.length] ++ (R.marks.flatMap mkc ++ j6).drop (R.marks.length * 3 + 1 * 3)).toArray H1.ne.1.2.2.2.2.2
  refine ql_ro rfl (fun w hS => ro_nilCheck rfl) ?_
  refine ql_ro rfl (fun w hS => ro_fieldAddr (k := 5) rfl fo_69_5) ?_
  refine ql_last rfl (so_storeB rfl rfl rfl sz_67 (hB2) (by simp)) ?_
  refine x_then (hK4 _ _ ?_)
  clear hK4 K4
  refine forget [] trivial (fun e => ?_)
  refine c_seq (fun K5 hK5 => ?_)
  refine c_reg ?_ -- region 4 heap.go:109
  refine wl (ro_assign rfl) ?_
  refine wl_nil (x_then (hK5 _ _ ?_))
  clear hK5 K5
  refine c_ret ?_
  refine bp_ret Tryz.results75 rfl ?_
  refine ⟨rfl, H1.push_marks (mk := (R.tags.length, R.args.length, R.trail.length)) hM hj6 rfl (by omega) rfl rfl (by omega), ?_⟩
  exact (Fram.refl _ w).thenDrew.thenAlloc.thenSet (.inl L.foot_m) |>.thenSet (.inl L.foot_h)

theorem Cut73 {w : World} {L : HL} {R : RH} (H : HeapAt w.heap L R) (wf : WF R) {k : Nat} (hk : k ≤ R.marks.length) :
    Ret Tryz.prog 73 [ptr L.h, i64c k] w (fun r w' => r = .int .i64 0 ∧ HPost w L (R.cut k) w') := by
  have hB := H.st
  have hc := wf.mcap
  refine ret_of Tryz.func73 rfl Tryz.ntmps73 rfl ?_
  refine c_seq (fun K1 hK1 => ?_)
  refine c_reg ?_ -- region 0 heap.go:127
  refine wl (ro_assign rfl) ?_
  refine wl_nil (x_then (hK1 _ _ ?_))
  clear hK1 K1
  refine c_seq (fun K2 hK2 => ?_)
  refine c_seq (fun K3 hK3 => ?_)
  refine c_reg ?_ -- region 1 heap.go:128
  refine wl (ro_move rfl) ?_
  refine wl (ro_cmp (r := false) rfl rfl (by simp)) ?_
  refine wl (ro_move rfl) ?_
  refine wlg_yes rfl (ro_move rfl) ?_
  refine wlg_yes rfl (ro_move rfl) ?_
  refine wlg_yes rfl (ro_nilCheck rfl) ?_
  refine wlg_yes rfl (ro_fieldAddr (k := 5) rfl fo_69_5) ?_
  refine wlg_yes rfl (ro_loadB rfl sc_67 (by assumption) rfl) ?_
  refine wlg_yes rfl (ro_lenL rfl se_67) ?_
  refine wlg_yes rfl (ro_cmp (r := false) rfl rfl (by simp; omega)) ?_
  refine wl (ro_pick rfl rfl rfl) ?_
  refine wl_nil (x_then (hK3 _ _ ?_))
  clear hK3 K3
  refine wc_condF rfl ?_
  refine c_skip (x_then (hK2 _ _ ?_))
  clear hK2 K2
  refine forget [(0, _), (1, _)] ⟨rfl, rfl, trivial⟩ (fun e => ?_)
  refine c_seq (fun K4 hK4 => ?_)
  refine c_reg ?_ -- region 3 heap.go:131
  refine wl (ro_move rfl) ?_
  refine wl (ro_move rfl) ?_
  refine wl (ro_nilCheck rfl) ?_
  refine wl (ro_fieldAddr (k := 5) rfl fo_69_5) ?_
  refine wl (ro_loadB rfl sc_67 (by assumption) rfl) ?_
  refine wl (ro_move rfl) ?_
  refine wl (ro_sliceH (h := k) rfl rfl se_67 rfl (by omega)) ?_
  refine wl (ro_nilCheck rfl) ?_
  refine wl (ro_fieldAddr (k := 5) rfl fo_69_5) ?_
  refine wls (so_storeB rfl rfl rfl sz_67 (by assumption) (by simp)) ?_
  refine wl_nil (x_then (hK4 _ _ ?_))
  clear hK4 K4
  refine forget [] trivial (fun e => ?_)
  refine c_seq (fun K5 hK5 => ?_)
  refine c_reg ?_ -- region 4 heap.go:132
  refine wl (ro_assign rfl) ?_
  refine wl_nil (x_then (hK5 _ _ ?_))
  clear hK5 K5
  refine c_ret ?_
  refine bp_ret Tryz.results73 rfl ?_
  refine ⟨rfl, ?_, (Fram.refl _ w).thenSet (.inl L.foot_h)⟩
  refine H.hdr (R.cut k) ?_ H.tags H.word H.heads H.args H.trail (marks_take H.marks)
  simp [RH.cut, List.length_take, Nat.min_eq_left hk]
  rfl

theorem Reset30 {w : World} {L : HL} {R : RH} (H : HeapAt w.heap L R) :
    Ret Tryz.prog 30 [ptr L.h] w (fun r w' => HPost w L RH.empty w') := by
  have hB := H.st
  refine ret_of Tryz.func30 rfl Tryz.ntmps30 rfl ?_
  refine c_seq (fun K1 hK1 => ?_)
  refine c_reg ?_ -- region 0 heap.go:43
  refine wl (ro_move rfl) ?_
  refine wl (ro_move rfl) ?_
  refine wl (ro_nilCheck rfl) ?_
  refine wl (ro_fieldAddr (k := 0) rfl fo_69_0) ?_
  refine wl (ro_loadB rfl sc_64 (by assumption) rfl) ?_
  refine wl (ro_sliceH (h := 0) rfl rfl se_64 rfl (by omega)) ?_
  refine wl (ro_nilCheck rfl) ?_
  refine wl (ro_fieldAddr (k := 0) rfl fo_69_0) ?_
  refine wls (so_storeB rfl rfl rfl sz_64 (by assumption) (by simp)) ?_
  have hB := hB.set ([sl L.t 0 64, sl L.w R.word.length 64, sl L.hd R.heads.length 128, sl L.a R.args.length 256, sl L.tr R.trail.length 64, sl L.m R.marks.length 26])
  refine wl_nil (x_then (hK1 _ _ ?_))
  clear hK1 K1
  refine forget [(0, _)] ⟨rfl, trivial⟩ (fun e => ?_)
  refine c_seq (fun K2 hK2 => ?_)
  refine c_reg ?_ -- region 1 heap.go:44
  refine wl (ro_move rfl) ?_
  refine wl (ro_move rfl) ?_
  refine wl (ro_nilCheck rfl) ?_
  refine wl (ro_fieldAddr (k := 1) rfl fo_69_1) ?_
  refine wl (ro_loadB rfl sc_65 (by assumption) rfl) ?_
  refine wl (ro_sliceH (h := 0) rfl rfl se_65 rfl (by omega)) ?_
  refine wl (ro_nilCheck rfl) ?_
  refine wl (ro_fieldAddr (k := 1) rfl fo_69_1) ?_
  refine wls (so_storeB rfl rfl rfl sz_65 (by assumption) (by simp)) ?_
  have hB := hB.set ([sl L.t 0 64, sl L.w 0 64, sl L.hd R.heads.length 128, sl L.a R.args.length 256, sl L.tr R.trail.length 64, sl L.m R.marks.length 26])
  refine wl_nil (x_then (hK2 _ _ ?_))
  clear hK2 K2
  refine forget [(0, _)] ⟨rfl, trivial⟩ (fun e => ?_)
  refine c_seq (fun K3 hK3 => ?_)
  refine c_reg ?_ -- region 2 heap.go:45
  refine wl (ro_move rfl) ?_
  refine wl (ro_move rfl) ?_
  refine wl (ro_nilCheck rfl) ?_
  refine wl (ro_fieldAddr (k := 2) rfl fo_69_2) ?_
  refine wl (ro_loadB rfl sc_66 (by assumption) rfl) ?_
  refine wl (ro_sliceH (h := 0) rfl rfl se_66 rfl (by omega)) ?_
  refine wl (ro_nilCheck rfl) ?_
  refine wl (ro_fieldAddr (k := 2) rfl fo_69_2) ?_
  refine wls (so_storeB rfl rfl rfl sz_66 (by assumption) (by simp)) ?_
  have hB := hB.set ([sl L.t 0 64, sl L.w 0 64, sl L.hd 0 128, sl L.a R.args.length 256, sl L.tr R.trail.length 64, sl L.m R.marks.length 26])
  refine wl_nil (x_then (hK3 _ _ ?_))
  clear hK3 K3
  refine forget [(0, _)] ⟨rfl, trivial⟩ (fun e => ?_)
  refine c_seq (fun K4 hK4 => ?_)
  refine c_reg ?_ -- region 3 heap.go:46
  refine wl (ro_move rfl) ?_
  refine wl (ro_move rfl) ?_
  refine wl (ro_nilCheck rfl) ?_
  refine wl (ro_fieldAddr (k := 3) rfl fo_69_3) ?_
  refine wl (ro_loadB rfl sc_65 (by assumption) rfl) ?_
  refine wl (ro_sliceH (h := 0) rfl rfl se_65 rfl (by omega)) ?_
  refine wl (ro_nilCheck rfl) ?_
  refine wl (ro_fieldAddr (k := 3) rfl fo_69_3) ?_
  refine wls (so_storeB rfl rfl rfl sz_65 (by assumption) (by simp)) ?_
  have hB := hB.set ([sl L.t 0 64, sl L.w 0 64, sl L.hd 0 128, sl L.a 0 256, sl L.tr R.trail.length 64, sl L.m R.marks.length 26])
  refine wl_nil (x_then (hK4 _ _ ?_))
  clear hK4 K4
  refine forget [(0, _)] ⟨rfl, trivial⟩ (fun e => ?_)
  refine c_seq (fun K5 hK5 => ?_)
  refine c_reg ?_ -- region 4 heap.go:47
  refine wl (ro_move rfl) ?_
  refine wl (ro_move rfl) ?_
  refine wl (ro_nilCheck rfl) ?_
  refine wl (ro_fieldAddr (k := 4) rfl fo_69_4) ?_
  refine wl (ro_loadB rfl sc_65 (by assumption) rfl) ?_
  refine wl (ro_sliceH (h := 0) rfl rfl se_65 rfl (by omega)) ?_
  refine wl (ro_nilCheck rfl) ?_
  refine wl (ro_fieldAddr (k := 4) rfl fo_69_4) ?_
  refine wls (so_storeB rfl rfl rfl sz_65 (by assumption) (by simp)) ?_
  have hB := hB.set ([sl L.t 0 64, sl L.w 0 64, sl L.hd 0 128, sl L.a 0 256, sl L.tr 0 64, sl L.m R.marks.length 26])
  refine wl_nil (x_then (hK5 _ _ ?_))
  clear hK5 K5
  refine c_reg ?_ -- region 5 heap.go:48
  refine wl (ro_move rfl) ?_
  refine wl (ro_move rfl) ?_
  refine wl (ro_nilCheck rfl) ?_
  refine wl (ro_fieldAddr (k := 5) rfl fo_69_5) ?_
  refine wl (ro_loadB rfl sc_67 (by assumption) rfl) ?_
  refine wl (ro_sliceH (h := 0) rfl rfl se_67 rfl (by omega)) ?_
  refine wl (ro_nilCheck rfl) ?_
  refine wl (ro_fieldAddr (k := 5) rfl fo_69_5) ?_
  refine wls (so_storeB rfl rfl rfl sz_67 (by assumption) (by simp)) ?_
  have hB := hB.set ([sl L.t 0 64, sl L.w 0 64, sl L.hd 0 128, sl L.a 0 256, sl L.tr 0 64, sl L.m 0 26])
  refine wl_nil ?_
  refine bp_end Tryz.results30 rfl ?_
  obtain ⟨⟨a1, a2, a3, a4, a5, a6⟩, _⟩ := H.ne
  have h1 := arr_take (k := 0) H.tags
  have h2 := arr_take (k := 0) H.word
  have h3 := arr_take (k := 0) H.heads
  have h4 := arr_take (k := 0) H.args
  have h5 := arr_take (k := 0) H.trail
  have h6 := marks_take (k := 0) H.marks
  refine ⟨⟨hB, ?_, ?_, ?_, ?_, ?_, ?_, H.nd⟩, ?_⟩
  · exact (((((h1.set_ne _ (Ne.symm a1)).set_ne _ (Ne.symm a1)).set_ne _ (Ne.symm a1)).set_ne _ (Ne.symm a1)).set_ne _ (Ne.symm a1)).set_ne _ (Ne.symm a1)
  · exact (((((h2.set_ne _ (Ne.symm a2)).set_ne _ (Ne.symm a2)).set_ne _ (Ne.symm a2)).set_ne _ (Ne.symm a2)).set_ne _ (Ne.symm a2)).set_ne _ (Ne.symm a2)
  · exact (((((h3.set_ne _ (Ne.symm a3)).set_ne _ (Ne.symm a3)).set_ne _ (Ne.symm a3)).set_ne _ (Ne.symm a3)).set_ne _ (Ne.symm a3)).set_ne _ (Ne.symm a3)
  · exact (((((h4.set_ne _ (Ne.symm a4)).set_ne _ (Ne.symm a4)).set_ne _ (Ne.symm a4)).set_ne _ (Ne.symm a4)).set_ne _ (Ne.symm a4)).set_ne _ (Ne.symm a4)
  · exact (((((h5.set_ne _ (Ne.symm a5)).set_ne _ (Ne.symm a5)).set_ne _ (Ne.symm a5)).set_ne _ (Ne.symm a5)).set_ne _ (Ne.symm a5)).set_ne _ (Ne.symm a5)
  · exact (((((h6.set_ne _ (Ne.symm a6)).set_ne _ (Ne.symm a6)).set_ne _ (Ne.symm a6)).set_ne _ (Ne.symm a6)).set_ne _ (Ne.symm a6)).set_ne _ (Ne.symm a6)
  · exact (((((Fram.refl _ w).thenSet (.inl L.foot_h)).thenSet (.inl L.foot_h)).thenSet (.inl L.foot_h)).thenSet (.inl L.foot_h)).thenSet (.inl L.foot_h) |>.thenSet (.inl L.foot_h)

theorem marks_get {ms : List (Nat × Nat × Nat)} {j : List Value} : ∀ {i : Nat} {m : Nat × Nat × Nat}, ms[i]? = some m → ((ms.flatMap mkc ++ j).drop (0 + i * 3)).take 3 = mkc m := by
  induction ms with
  | nil => intro i m h; simp at h
  | cons x xs ih =>
    intro i m h
    cases i with
    | zero => simp at h; subst h; simp [mkc]
    | succ i =>
      simp at h
      have e : 0 + (i + 1) * 3 = 3 + (0 + i * 3) := by omega
      rw [e, ← List.drop_drop, List.flatMap_cons, List.append_assoc]
      have : (mkc x ++ (xs.flatMap mkc ++ j)).drop 3 = xs.flatMap mkc ++ j := by simp [mkc]
      rw [this]
      exact ih h

theorem undo_fin {w2 W : World} {L : HL} {R : RH} (wf : WF R) {m : Nat × Nat × Nat} (hmem : m ∈ R.marks) (H2 : HeapAt w2.heap L (R.unw m.2.2)) (FF : Fram (fun b => b = L.h) w2 W)
    (hB : Blk W.heap L.h [sl L.t m.1 64, sl L.w m.1 64, sl L.hd (2 * m.1) 128, sl L.a m.2.1 256, sl L.tr (R.unw m.2.2).trail.length 64, sl L.m (R.unw m.2.2).marks.length 26] 69) : HeapAt W.heap L (R.undo m) := by
  obtain ⟨k1, k2, k3, k4⟩ := wf.mks m hmem
  obtain ⟨⟨a1, a2, a3, a4, a5, a6⟩, _⟩ := H2.ne
  have e1 : (R.undo m).tags.length = m.1 := by simp [RH.undo, unb_length]; omega
  have e2 : (R.undo m).word.length = m.1 := by have := wf.core.len1; simp [RH.undo]; omega
  have e3 : (R.undo m).heads.length = 2 * m.1 := by have := wf.core.len2; simp [RH.undo]; omega
  have e4 : (R.undo m).args.length = m.2.1 := by simp [RH.undo]; omega
  exact ⟨by rw [e1, e2, e3, e4]; exact hB, (arr_take (k := m.1) H2.tags).fram FF (Ne.symm a1), (arr_take (k := m.1) H2.word).fram FF (Ne.symm a2), (arr_take (k := 2 * m.1) H2.heads).fram FF (Ne.symm a3), (arr_take (k := m.2.1) H2.args).fram FF (Ne.symm a4), H2.trail.fram FF (Ne.symm a5), H2.marks.fram FF (Ne.symm a6), H2.nd⟩

theorem Undo80 {w : World} {L : HL} {R : RH} (H : HeapAt w.heap L R) (wf : WF R) {m : Nat × Nat × Nat} (hm : R.marks.getLast? = some m) :
    Ret Tryz.prog 80 [ptr L.h] w (fun r w' => r = .int .i64 0 ∧ HPost w L (R.undo m) w') := by
  have hB := H.st
  have hmem : m ∈ R.marks := List.mem_of_getLast? hm
  obtain ⟨k1, k2, k3, k4⟩ := wf.mks m hmem
  have hlast := hm
  rw [List.getLast?_eq_getElem?] at hlast
  have hlen := (List.getElem?_eq_some_iff.1 hlast).1
  have hc := wf.mcap
  have h1 := wf.core.size
  have h2 := wf.core.acap
  have h3 : R.trail.length ≤ 64 := by have := wf.core.trl; have := List.count_le_length (a := 2) (l := R.tags); omega
  obtain ⟨j6, hM, hj6⟩ := H.marks
  refine ret_of Tryz.func80 rfl Tryz.ntmps80 rfl ?_
  refine c_seq (fun K1 hK1 => ?_)
  refine c_reg ?_ -- region 0 heap.go:113
  refine wl (ro_assign rfl) ?_
  refine wl_nil (x_then (hK1 _ _ ?_))
  clear hK1 K1
  refine c_seq (fun K2 hK2 => ?_)
  refine c_seq (fun K3 hK3 => ?_)
  refine c_reg ?_ -- region 1 heap.go:114
  refine wl (ro_move rfl) ?_
  refine wl (ro_nilCheck rfl) ?_
  refine wl (ro_fieldAddr (k := 5) rfl fo_69_5) ?_
  refine wl (ro_loadB rfl sc_67 (by assumption) rfl) ?_
  refine wl (ro_lenL rfl se_67) ?_
  refine wl (ro_cmp (r := false) rfl rfl (by have hz : ((R.marks.length : Int) == 0) = false := by { rw [beq_eq_false_iff_ne]; omega }; simp only [hz])) ?_
  refine wl_nil (x_then (hK3 _ _ ?_))
  clear hK3 K3
  refine wc_condF rfl ?_
  refine c_skip (x_then (hK2 _ _ ?_))
  clear hK2 K2
  refine forget [(0, _)] ⟨rfl, trivial⟩ (fun e => ?_)
  refine c_seq (fun K4 hK4 => ?_)
  refine c_piL 13 [(0, false), (1, false), (2, false), (3, false), (4, false), (5, false), (6, false), (7, false), (8, false), (9, false), (10, false), (11, false), (12, true)] (fun w' => Blk w'.heap L.h _ 69 ∧ Blk w'.heap L.m _ 198) mixed (by kernel_rfl) rfl (by kernel_rfl) (po_then (po_bp)) (⟨hB, hM⟩) ?_ -- region 3 heap.go:117
  refine ql_ro rfl (fun w hS => ro_move rfl) ?_
  refine ql_ro rfl (fun w hS => ro_nilCheck rfl) ?_
  refine ql_ro rfl (fun w hS => ro_fieldAddr (k := 5) rfl fo_69_5) ?_
  refine ql_ro rfl (fun w hS => ro_loadB rfl sc_67 (hS.1) rfl) ?_
  refine ql_ro rfl (fun w hS => ro_move rfl) ?_
  refine ql_ro rfl (fun w hS => ro_nilCheck rfl) ?_
  refine ql_ro rfl (fun w hS => ro_fieldAddr (k := 5) rfl fo_69_5) ?_
  refine ql_ro rfl (fun w hS => ro_loadB rfl sc_67 (hS.1) rfl) ?_
  refine ql_ro rfl (fun w hS => ro_lenL rfl se_67) ?_
  refine ql_ro rfl (fun w hS => ro_arith rfl rfl rfl (Go.IntWalk.i64_in _ (by omega))) ?_
  refine ql_ro rfl (fun w hS => ro_indexAddr (et := 198) (k := 3) rfl rfl se_67 ((by show (_ : Int) = ((R.marks.length - 1 : Nat) : Int); omega)) ((by omega))) ?_
  refine ql_ro rfl (fun w hS => ro_loadAggB rfl ag_198 (hS.2) (rfl) (marks_get hlast)) ?_
  refine ql_eo rfl (eo_alloc ze_198) (⟨hB.alloc _, hM.alloc _⟩) ?_
  have hN := Blk.new w [.int .i32 0, .int .i32 0, .int .i32 0] 198
  refine ql_last rfl (so_storeAggB rfl rfl (by simp [mkc, i32c, Value.oneCell']) sz_198 rfl (hN) (by simp)) ?_
  refine gen3 (A := fun w1 => HeapAt w1.heap L R) (B := fun w1 => Fram none' w w1) (D := fun w1 => Blk w1.heap w.heap.size (mkc m) 198) (C := fun w1 => Exit.then _ _ _ _ w1) (H.fram0 ((Fram.refl _ w).thenDrew.thenAlloc.thenSet (.inr (Nat.le_refl _)))) ((Fram.refl _ w).thenDrew.thenAlloc.thenSet (.inr (Nat.le_refl _))) (hN.set _) ?_
  clear hN hM hj6 hB
  intro w1 H1 F1 hN
  have hB := H1.st
  refine x_then (hK4 _ _ ?_)
  clear hK4 K4
  refine forget [(0, _), (3, _)] ⟨rfl, rfl, trivial⟩ (fun e => ?_)
  refine c_seq (fun K5 hK5 => ?_)
  refine c_reg ?_ -- region 4 heap.go:118
  refine wl (ro_move rfl) ?_
  refine wl (ro_fieldAddr (k := 2) rfl fo_198_2) ?_
  refine wl (ro_loadB rfl sc_21 (by assumption) rfl) ?_
  refine wl (ro_conv rfl sc_21 in_3 (Go.IntWalk.i64_in _ (by omega))) ?_
  refine wl_call rfl en_115 (unwind115 H1 wf.core.tmem h3 k3) ?_
  rintro _ w2 ⟨H2, F2⟩
  have hN2 := hN.fram F2 (fun hb => by have := H.lt hb; omega)
  clear hN hB H1
  have hB := H2.st
  refine wl_nil (x_then (hK5 _ _ ?_))
  clear hK5 K5
  refine forget [(0, _), (3, _)] ⟨rfl, rfl, trivial⟩ (fun e => ?_)
  refine c_seq (fun K6 hK6 => ?_)
  have F0 : Fram L.foot w w2 := (F1.mono (fun _ _ h => h.elim)).trans F2
  have hne : w.heap.size ≠ L.h := fun e => by have := H.lt L.foot_h; omega
  refine c_piL 10 [(0, false), (1, false), (2, false), (3, false), (4, false), (5, false), (6, false), (7, false), (8, false), (9, false)] (fun w' => Blk w'.heap L.h _ 69 ∧ Blk w'.heap w.heap.size _ 198) mixed (by kernel_rfl) rfl (by kernel_rfl) (po_then (po_bp)) (⟨hB, hN2⟩) ?_ -- region 5 heap.go:119
  refine ql_ro rfl (fun w hS => ro_move rfl) ?_
  refine ql_ro rfl (fun w hS => ro_move rfl) ?_
  refine ql_ro rfl (fun w hS => ro_nilCheck rfl) ?_
  refine ql_ro rfl (fun w hS => ro_fieldAddr (k := 0) rfl fo_69_0) ?_
  refine ql_ro rfl (fun w hS => ro_loadB rfl sc_64 (hS.1) rfl) ?_
  refine ql_ro rfl (fun w hS => ro_fieldAddr (k := 0) rfl fo_198_0) ?_
  refine ql_ro rfl (fun w hS => ro_loadB rfl sc_21 (hS.2) rfl) ?_
  refine ql_ro rfl (fun w hS => ro_sliceH (h := m.1) rfl rfl se_64 rfl (by omega)) ?_
  refine ql_ro rfl (fun w hS => ro_nilCheck rfl) ?_
  refine ql_ro rfl (fun w hS => ro_fieldAddr (k := 0) rfl fo_69_0) ?_
  refine ql_last rfl (so_storeB rfl rfl rfl sz_64 (hB) (by simp)) ?_
  have hB1 := hB.set [sl L.t m.1 64, sl L.w (R.unw m.2.2).word.length 64, sl L.hd (R.unw m.2.2).heads.length 128, sl L.a (R.unw m.2.2).args.length 256, sl L.tr (R.unw m.2.2).trail.length 64, sl L.m (R.unw m.2.2).marks.length 26]
  have hN3 := hN2.set_ne ([sl L.t m.1 64, sl L.w (R.unw m.2.2).word.length 64, sl L.hd (R.unw m.2.2).heads.length 128, sl L.a (R.unw m.2.2).args.length 256, sl L.tr (R.unw m.2.2).trail.length 64, sl L.m (R.unw m.2.2).marks.length 26].toArray) hne
  refine x_then (hK6 _ _ ?_)
  clear hK6 K6
  refine forget [(0, _), (3, _)] ⟨rfl, rfl, trivial⟩ (fun e => ?_)
  refine c_seq (fun K7 hK7 => ?_)
  refine gen3 (A := fun w3 => Fram (fun b => b = L.h) w2 w3) (B := fun w3 => Blk w3.heap L.h _ 69) (D := fun w3 => Blk w3.heap w.heap.size (mkc m) 198) (C := fun w3 => WC _ _ _ _ w3) ((Fram.refl _ w2).thenDrew.thenSet (.inl rfl)) hB1 hN3 ?_
  clear hB1 hN3 hB hN2
  intro w6 G6 hB1 hN3
  refine c_piL 10 [(0, false), (1, false), (2, false), (3, false), (4, false), (5, false), (6, false), (7, false), (8, false), (9, false)] (fun w' => Blk w'.heap L.h _ 69 ∧ Blk w'.heap w.heap.size _ 198) mixed (by kernel_rfl) rfl (by kernel_rfl) (po_then (po_bp)) (⟨hB1, hN3⟩) ?_ -- region 6 heap.go:120
  refine ql_ro rfl (fun w hS => ro_move rfl) ?_
  refine ql_ro rfl (fun w hS => ro_move rfl) ?_
  refine ql_ro rfl (fun w hS => ro_nilCheck rfl) ?_
  refine ql_ro rfl (fun w hS => ro_fieldAddr (k := 1) rfl fo_69_1) ?_
  refine ql_ro rfl (fun w hS => ro_loadB rfl sc_65 (hS.1) rfl) ?_
  refine ql_ro rfl (fun w hS => ro_fieldAddr (k := 0) rfl fo_198_0) ?_
  refine ql_ro rfl (fun w hS => ro_loadB rfl sc_21 (hS.2) rfl) ?_
  refine ql_ro rfl (fun w hS => ro_sliceH (h := m.1) rfl rfl se_65 rfl (by omega)) ?_
  refine ql_ro rfl (fun w hS => ro_nilCheck rfl) ?_
  refine ql_ro rfl (fun w hS => ro_fieldAddr (k := 1) rfl fo_69_1) ?_
  refine ql_last rfl (so_storeB rfl rfl rfl sz_65 (hB1) (by simp)) ?_
  have hB2 := hB1.set [sl L.t m.1 64, sl L.w m.1 64, sl L.hd (R.unw m.2.2).heads.length 128, sl L.a (R.unw m.2.2).args.length 256, sl L.tr (R.unw m.2.2).trail.length 64, sl L.m (R.unw m.2.2).marks.length 26]
  have hN4 := hN3.set_ne ([sl L.t m.1 64, sl L.w m.1 64, sl L.hd (R.unw m.2.2).heads.length 128, sl L.a (R.unw m.2.2).args.length 256, sl L.tr (R.unw m.2.2).trail.length 64, sl L.m (R.unw m.2.2).marks.length 26].toArray) hne
  refine x_then (hK7 _ _ ?_)
  clear hK7 K7
  refine forget [(0, _), (3, _)] ⟨rfl, rfl, trivial⟩ (fun e => ?_)
  refine c_seq (fun K8 hK8 => ?_)
  refine gen3 (A := fun w3 => Fram (fun b => b = L.h) w2 w3) (B := fun w3 => Blk w3.heap L.h _ 69) (D := fun w3 => Blk w3.heap w.heap.size (mkc m) 198) (C := fun w3 => WC _ _ _ _ w3) (G6.thenDrew.thenSet (.inl rfl)) hB2 hN4 ?_
  clear hB2 hN4 hB1 hN3
  intro w7 G7 hB2 hN4
  refine c_piL 11 [(0, false), (1, false), (2, false), (3, false), (4, false), (5, false), (6, false), (7, false), (8, false), (9, false), (10, false)] (fun w' => Blk w'.heap L.h _ 69 ∧ Blk w'.heap w.heap.size _ 198) mixed (by kernel_rfl) rfl (by kernel_rfl) (po_then (po_bp)) (⟨hB2, hN4⟩) ?_ -- region 7 heap.go:121
  refine ql_ro rfl (fun w hS => ro_move rfl) ?_
  refine ql_ro rfl (fun w hS => ro_move rfl) ?_
  refine ql_ro rfl (fun w hS => ro_nilCheck rfl) ?_
  refine ql_ro rfl (fun w hS => ro_fieldAddr (k := 2) rfl fo_69_2) ?_
  refine ql_ro rfl (fun w hS => ro_loadB rfl sc_66 (hS.1) rfl) ?_
  refine ql_ro rfl (fun w hS => ro_fieldAddr (k := 0) rfl fo_198_0) ?_
  refine ql_ro rfl (fun w hS => ro_loadB rfl sc_21 (hS.2) rfl) ?_
  refine ql_ro rfl (fun w hS => ro_arith rfl rfl rfl (Go.IntWalk.i32_in _ (by omega))) ?_
  refine ql_ro rfl (fun w hS => ro_sliceH (h := 2 * m.1) rfl rfl se_66 (by omega) (by omega)) ?_
  refine ql_ro rfl (fun w hS => ro_nilCheck rfl) ?_
  refine ql_ro rfl (fun w hS => ro_fieldAddr (k := 2) rfl fo_69_2) ?_
  refine ql_last rfl (so_storeB rfl rfl rfl sz_66 (hB2) (by simp)) ?_
  have hB3 := hB2.set [sl L.t m.1 64, sl L.w m.1 64, sl L.hd (2 * m.1) 128, sl L.a (R.unw m.2.2).args.length 256, sl L.tr (R.unw m.2.2).trail.length 64, sl L.m (R.unw m.2.2).marks.length 26]
  have hN5 := hN4.set_ne ([sl L.t m.1 64, sl L.w m.1 64, sl L.hd (2 * m.1) 128, sl L.a (R.unw m.2.2).args.length 256, sl L.tr (R.unw m.2.2).trail.length 64, sl L.m (R.unw m.2.2).marks.length 26].toArray) hne
  refine x_then (hK8 _ _ ?_)
  clear hK8 K8
  refine forget [(0, _), (3, _)] ⟨rfl, rfl, trivial⟩ (fun e => ?_)
  refine c_seq (fun K9 hK9 => ?_)
  refine gen3 (A := fun w3 => Fram (fun b => b = L.h) w2 w3) (B := fun w3 => Blk w3.heap L.h _ 69) (D := fun w3 => Blk w3.heap w.heap.size (mkc m) 198) (C := fun w3 => WC _ _ _ _ w3) (G7.thenDrew.thenSet (.inl rfl)) hB3 hN5 ?_
  clear hB3 hN5 hB2 hN4
  intro w8 G8 hB3 hN5
  refine c_piL 10 [(0, false), (1, false), (2, false), (3, false), (4, false), (5, false), (6, false), (7, false), (8, false), (9, false)] (fun w' => Blk w'.heap L.h _ 69 ∧ Blk w'.heap w.heap.size _ 198) mixed (by kernel_rfl) rfl (by kernel_rfl) (po_then (po_bp)) (⟨hB3, hN5⟩) ?_ -- region 8 heap.go:122
  refine ql_ro rfl (fun w hS => ro_move rfl) ?_
  refine ql_ro rfl (fun w hS => ro_move rfl) ?_
  refine ql_ro rfl (fun w hS => ro_nilCheck rfl) ?_
  refine ql_ro rfl (fun w hS => ro_fieldAddr (k := 3) rfl fo_69_3) ?_
  refine ql_ro rfl (fun w hS => ro_loadB rfl sc_65 (hS.1) rfl) ?_
  refine ql_ro rfl (fun w hS => ro_fieldAddr (k := 1) rfl fo_198_1) ?_
  refine ql_ro rfl (fun w hS => ro_loadB rfl sc_21 (hS.2) rfl) ?_
  refine ql_ro rfl (fun w hS => ro_sliceH (h := m.2.1) rfl rfl se_65 rfl (by omega)) ?_
  refine ql_ro rfl (fun w hS => ro_nilCheck rfl) ?_
  refine ql_ro rfl (fun w hS => ro_fieldAddr (k := 3) rfl fo_69_3) ?_
  refine ql_last rfl (so_storeB rfl rfl rfl sz_65 (hB3) (by simp)) ?_
  have hB4 := hB3.set [sl L.t m.1 64, sl L.w m.1 64, sl L.hd (2 * m.1) 128, sl L.a m.2.1 256, sl L.tr (R.unw m.2.2).trail.length 64, sl L.m (R.unw m.2.2).marks.length 26]
  refine x_then (hK9 _ _ ?_)
  clear hK9 K9
  refine forget [] trivial (fun e => ?_)
  refine c_seq (fun K10 hK10 => ?_)
  refine c_reg ?_ -- region 9 heap.go:123
  refine wl (ro_assign rfl) ?_
  refine wl_nil (x_then (hK10 _ _ ?_))
  clear hK10 K10
  refine c_ret ?_
  refine bp_ret Tryz.results80 rfl ?_
  have GG := (G8.mono (G := L.foot) (fun b _ e => by subst e; exact L.foot_h))
  exact ⟨rfl, undo_fin wf hmem H2 (G8.thenDrew.thenSet (.inl rfl)) hB4, ((F0.trans GG).thenDrew.thenSet (.inl L.foot_h))⟩

theorem Top87 {w : World} {L : HL} {R : RH} (H : HeapAt w.heap L R) : Ret Tryz.prog 87 [ptr L.h] w (fun r w' => r = i64c R.tags.length ∧ w' = w) := by
  have hB := H.st
  refine ret_of Tryz.func87 rfl Tryz.ntmps87 rfl ?_
  refine c_seq (fun K1 hK1 => ?_)
  refine c_reg ?_ -- region 0 heap.go:52
  refine wl (ro_assign rfl) ?_
  refine wl_nil (x_then (hK1 _ _ ?_))
  clear hK1 K1
  refine forget [(0, _)] ⟨rfl, trivial⟩ (fun e => ?_)
  refine c_seq (fun K2 hK2 => ?_)
  refine c_reg ?_ -- region 1 heap.go:52
  refine wl (ro_move rfl) ?_
  refine wl (ro_nilCheck rfl) ?_
  refine wl (ro_fieldAddr (k := 0) rfl fo_69_0) ?_
  refine wl (ro_loadB rfl sc_64 (by assumption) rfl) ?_
  refine wl (ro_lenL rfl se_64) ?_
  refine wl (ro_assign rfl) ?_
  refine wl_nil (x_then (hK2 _ _ ?_))
  clear hK2 K2
  refine c_ret ?_
  refine bp_ret Tryz.results87 rfl ?_
  exact ⟨rfl, rfl⟩

theorem Marks86 {w : World} {L : HL} {R : RH} (H : HeapAt w.heap L R) : Ret Tryz.prog 86 [ptr L.h] w (fun r w' => r = i64c R.marks.length ∧ w' = w) := by
  have hB := H.st
  refine ret_of Tryz.func86 rfl Tryz.ntmps86 rfl ?_
  refine c_seq (fun K1 hK1 => ?_)
  refine c_reg ?_ -- region 0 heap.go:53
  refine wl (ro_assign rfl) ?_
  refine wl_nil (x_then (hK1 _ _ ?_))
  clear hK1 K1
  refine forget [(0, _)] ⟨rfl, trivial⟩ (fun e => ?_)
  refine c_seq (fun K2 hK2 => ?_)
  refine c_reg ?_ -- region 1 heap.go:53
  refine wl (ro_move rfl) ?_
  refine wl (ro_nilCheck rfl) ?_
  refine wl (ro_fieldAddr (k := 5) rfl fo_69_5) ?_
  refine wl (ro_loadB rfl sc_67 (by assumption) rfl) ?_
  refine wl (ro_lenL rfl se_67) ?_
  refine wl (ro_assign rfl) ?_
  refine wl_nil (x_then (hK2 _ _ ?_))
  clear hK2 K2
  refine c_ret ?_
  refine bp_ret Tryz.results86 rfl ?_
  exact ⟨rfl, rfl⟩

end Go.Proofs.Qxb6500569aGreat
