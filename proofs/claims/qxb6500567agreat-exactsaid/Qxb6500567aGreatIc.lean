import Derived.Test.Qxb6500567aGreatIb
/- The compiler: step. -/
namespace Go.Proofs.Qxb6500567aGreat
set_option linter.unusedVariables false
set_option linter.unusedSimpArgs false

theorem Fram.undrew {F : Nat → Prop} {w w1 : World} {d : Nat} (h : Fram F { w with drawn := d } w1) : Fram F w w1 := ⟨h.os, h.tape, h.output, h.size, h.block⟩

theorem CWV.guard {w w1 : World} {cb nb p n0 tb : Nat} {T : List RE} {c : Nat → Value} {σ : CS} (h : CWV w cb nb p n0 T c σ) (f : Fram none' w w1) (h1 : w.heap.size ≤ tb) (h2 : tb < w1.heap.size) : CWV w1 cb nb tb n0 T c σ := by
  obtain ⟨VC, VW, Q, V⟩ := h
  refine ⟨VC, VW, Q, V.blk.framN f, V.code.fram f (fun _ _ h => h), V.todo.fram f (fun _ _ h => h), V.ql, V.qv, V.hT.framN f, V.nlo, V.clo, V.vlo, V.wlo, V.cl, V.wl, V.wt, fun h => ?_, fun h => ?_, ?_, h2⟩
  · have := V.code.lt h; omega
  · have := V.todo.lt h; omega
  · have := V.blk.lt; omega
theorem CWV.ung {w : World} {cb nb p n0 : Nat} {T : List RE} {c : Nat → Value} {σ : CS} (h : CWV w cb nb p n0 T c σ) : CWV w cb nb nb n0 T c σ := by
  obtain ⟨VC, VW, Q, V⟩ := h
  have hn := V.nlo
  refine ⟨VC, VW, Q, V.blk, V.code, V.todo, V.ql, V.qv, V.hT, V.nlo, V.clo, V.vlo, V.wlo, V.cl, V.wl, V.wt, fun h => ?_, fun h => ?_, ?_, V.hT.lt⟩
  · have := V.vlo _ h; omega
  · have := V.wlo _ h; omega
  · have := V.clo; omega
theorem Fram.ung {w w1 w2 : World} {n0 nb tb : Nat} (f0 : Fram none' w w1) (f : Fram (cfs n0 tb w1) w1 w2) (hn : nb < n0) : Fram (cfs n0 nb w) w w2 := by
  refine (f0.mono (G := cfs n0 nb w) (fun _ _ h => h.elim)).trans' f ?_
  intro b hb hc
  obtain ⟨h1, h0, l, t, h2, h3⟩ := hc
  exact ⟨h1, by omega, l, t, Blk.of_eq h2 (f0.block b hb (fun h => h)).symm, h3⟩

set_option maxHeartbeats 4000000 in
theorem step74 {w : World} {cb nb n0 : Nat} {T : List RE} {c : Nat → Value} {σ : CS} {t : CK} {q : Nat × Nat × Nat} (V : CWV w cb nb nb n0 T c σ) (hAR : AR T c 0) (hq : CkC T t q) (hta : t.what ≠ 0 → t.what ≠ 4 → t.a < σ.C.length) (hgs : ∀ (k g : Nat) (a : RE), T[k]? = some (.block g a) → g ≤ 1000) (hcl : σ.C.length < 800) (hwl : σ.W.length < 800) :
    Ret Tryz.prog 74 [ptr cb, .agg (tke q).toArray] w (fun v w' => v = .tuple #[] ∧ CWV w' cb nb nb n0 T c (stepC t σ) ∧ Fram (cfs n0 nb w) w w') := by
  obtain ⟨hq1, hq2, hq3, hq4, hq5, hq6⟩ := hq
  have hnlo : nb < n0 := by obtain ⟨_, _, _, V⟩ := V; exact V.nlo
  have hwc : t.what = 0 ∨ t.what = 1 ∨ t.what = 2 ∨ t.what = 3 ∨ t.what = 4 := by omega
  refine ret_of Tryz.func74 rfl Tryz.ntmps74 rfl ?_
  refine c_seq (fun K1 hK1 => ?_)
  refine c_reg ?_ -- region 0 compile.go:88
  refine wl_box (cs := (tke q)) rfl rfl (fun tb w1 hbtb hA F1 => ?_)
  have F0 := F1
  replace V := V.guard F0 hbtb hA.lt
  have hF : Fram (cfs n0 tb w1) w1 w1 := Fram.refl _ _
  refine wl_nil (x_then (hK1 _ _ ?_))
  clear hK1 K1
  refine forget [(0, _), (3, _)] ⟨rfl, rfl, trivial⟩ (fun e => ?_)
  refine c_seq (fun K2 hK2 => ?_)
  rcases hwc with q0 | q0 | q0 | q0 | q0
  · skip
    have hq0 : q.1 = 0 := by omega
    refine c_reg ?_ -- region 1 compile.go:89
    refine wl (ro_fieldAddr (k := 0) rfl fo_171_0) ?_
    refine wl (ro_loadB rfl sc_3 (hA) ((show _ = some (i64c q.1) from rfl))) ?_
    refine wl_nil (x_then (hK2 _ _ ?_))
    clear hK2 K2
    refine c_block ?_
    refine forget [(0, _), (3, _), (6, _)] ⟨rfl, rfl, rfl, trivial⟩ (fun e => ?_)
    refine c_seq (fun K3 hK3 => ?_)
    refine c_reg ?_ -- region 2 compile.go:90
    refine wl (ro_cmp (r := true) rfl rfl (congrArg some ((beqc q.1 0).trans (decide_eq_true (by omega))))) ?_
    refine wl (ro_assign rfl) ?_
    refine wl_nil (x_then (hK3 _ _ ?_))
    clear hK3 K3
    refine wc_condT rfl ?_
    refine c_reg ?_ -- region 3 compile.go:91
    refine wl (ro_move rfl) ?_
    refine wl (ro_fieldAddr (k := 1) rfl fo_171_1) ?_
    refine wl (ro_loadB rfl sc_3 (hA) ((show _ = some (i64c q.2.1) from rfl))) ?_
    refine wl_call rfl en_110 (node110 V hAR (hq3 q0) hgs (by omega) (by omega)) ?_
    rintro _ w3 ⟨rfl, V3, F3⟩
    refine wl_nil (x_blk ?_)
    refine bp_end Tryz.results74 rfl ?_
    have e9 : stepC t σ = nodeC t.r σ := by unfold stepC; rw [if_pos q0]
    rw [e9]; exact ⟨rfl, V3.ung, F0.ung F3 hnlo⟩
  · skip
    have hq0 : q.1 = 1 := by omega
    have hqa : q.2.1 = t.a := hq4 (by omega)
    have htl := hta (by omega) (by omega)
    refine c_reg ?_ -- region 1 compile.go:89
    refine wl (ro_fieldAddr (k := 0) rfl fo_171_0) ?_
    refine wl (ro_loadB rfl sc_3 (hA) ((show _ = some (i64c q.1) from rfl))) ?_
    refine wl_nil (x_then (hK2 _ _ ?_))
    clear hK2 K2
    refine c_block ?_
    refine forget [(0, _), (3, _), (6, _)] ⟨rfl, rfl, rfl, trivial⟩ (fun e => ?_)
    refine c_seq (fun K4 hK4 => ?_)
    refine c_reg ?_ -- region 2 compile.go:90
    refine wl (ro_cmp (r := false) rfl rfl (congrArg some ((beqc q.1 0).trans (decide_eq_false (by omega))))) ?_
    refine wl (ro_assign rfl) ?_
    refine wl_nil (x_then (hK4 _ _ ?_))
    clear hK4 K4
    refine wc_condF rfl ?_
    refine c_seq (fun K5 hK5 => ?_)
    refine c_reg ?_ -- region 4 compile.go:92
    refine wl (ro_cmp (r := true) rfl rfl (congrArg some ((beqc q.1 1).trans (decide_eq_true (by omega))))) ?_
    refine wl (ro_assign rfl) ?_
    refine wl_nil (x_then (hK5 _ _ ?_))
    clear hK5 K5
    refine wc_condT rfl ?_
    refine c_seq (fun K6 hK6 => ?_)
    refine c_reg ?_ -- region 5 compile.go:93
    refine wl (ro_move rfl) ?_
    refine wl (ro_build rfl bld_175_0_1) ?_
    refine wl_call rfl en_75 (lay75' V (by omega)) ?_
    rintro _ w3 ⟨rfl, V3, F3⟩
    replace hA := F3.blkP hA
    replace hF := hF.transT F3
    obtain ⟨VC3, VW3, Q3, V3⟩ := V3
    have hB := V3.blk
    have hlen3 : (σ.C ++ [(⟨2, -1, 0, 0⟩ : RI)]).length = σ.C.length + 1 := by simp
    obtain ⟨x3, hat3⟩ : ∃ x, (σ.C ++ [(⟨2, -1, 0, 0⟩ : RI)])[t.a]? = some x := ⟨_, List.getElem?_eq_getElem (by rw [hlen3]; omega)⟩
    obtain ⟨gb, gcap, l, hVC, hG, hg1, hg2, hg3, hg4⟩ := V3.code.pos (by rw [hlen3]; omega)
    subst hVC
    rw [hlen3] at hg1
    have hgcb : gb ≠ cb := V3.code.neblk V3.blk (by decide) gb rfl
    have hgtb : gb ≠ tb := fun h => V3.np1 (by rw [← h]; rfl)
    have hG0 := hG
    refine wl (ro_assign rfl) ?_
    refine wl_nil (x_then (hK6 _ _ ?_))
    clear hK6 K6
    refine forget [(0, _), (3, _), (4, _)] ⟨rfl, rfl, rfl, trivial⟩ (fun e => ?_)
    refine c_seq (fun K7 hK7 => ?_)
    refine c_piL 13 [(0, false), (1, false), (2, false), (3, false), (4, false), (5, false), (6, false), (7, false), (8, false), (9, false), (10, false), (11, false), (12, false)] (SameH _) mixed (by kernel_rfl) rfl (by kernel_rfl) (po_then (po_blk (po_bp))) (sameH_now _ _) ?_ -- region 6 compile.go:94
    refine ql_ro rfl (fun w hS => ro_move rfl) ?_
    refine ql_ro rfl (fun w hS => ro_nilCheck rfl) ?_
    refine ql_ro rfl (fun w hS => ro_fieldAddr (k := 1) rfl fo_168_1) ?_
    refine ql_ro rfl (fun w hS => ro_loadB rfl sc_109 (Blk.of_heap hB hS) (rfl)) ?_
    refine ql_ro rfl (fun w hS => ro_fieldAddr (k := 1) rfl fo_171_1) ?_
    refine ql_ro rfl (fun w hS => ro_loadB rfl sc_3 (Blk.of_heap hA hS) ((show _ = some (i64c q.2.1) from rfl))) ?_
    refine ql_ro rfl (fun w hS => ro_move rfl) ?_
    refine ql_ro rfl (fun w hS => ro_nilCheck rfl) ?_
    refine ql_ro rfl (fun w hS => ro_fieldAddr (k := 1) rfl fo_168_1) ?_
    refine ql_ro rfl (fun w hS => ro_loadB rfl sc_109 (Blk.of_heap hB hS) (rfl)) ?_
    refine ql_ro rfl (fun w hS => ro_lenL rfl se_109) ?_
    refine ql_ro rfl (fun w hS => ro_indexAddr (et := 175) (k := 7) rfl rfl se_109 ((congrArg (fun n : Nat => (n : Int)) hqa)) ((by rw [hlen3]; omega : t.a < (σ.C ++ [(⟨2, -1, 0, 0⟩ : RI)]).length))) ?_
    refine ql_ro rfl (fun w hS => ro_fieldAddr (k := 2) rfl fo_175_2) ?_
    refine ql_put rfl rfl rfl rfl sz_3 hG ((by omega)) (rfl) (fun w2 hG F2 => ?_)
    replace hA := F2.blkO hA (by omega)
    obtain ⟨V4, F5⟩ := V3.patch (f := setY (((σ.C.length + 1 : Nat) : Int))) hat3 (show 2 < 7 by omega) (show _ = (ric x3).set 2 (i64c (σ.C ++ [(⟨2, -1, 0, 0⟩ : RI)]).length) by rw [hlen3]; rfl) rfl hG0 hG (Fram.undrew F2)
    replace hF := hF.transT F5
    refine x_then (hK7 _ _ ?_)
    clear hK7 K7
    refine forget [(0, _), (3, _), (4, _)] ⟨rfl, rfl, rfl, trivial⟩ (fun e => ?_)
    refine c_seq (fun K8 hK8 => ?_)
    refine c_reg ?_ -- region 7 compile.go:95
    refine wl (ro_move rfl) ?_
    refine wl (ro_move rfl) ?_
    refine wl_call rfl en_73 (push73 (q := (2, σ.C.length, 0)) V4 ckc2 (by simp only; omega) (fun _ _ ↦ by simp only [upI_len]; rw [hlen3]; omega)) ?_
    rintro _ w5 ⟨rfl, V5, F5⟩
    replace hA := F5.blkP hA
    replace hF := hF.transT F5
    refine wl_nil (x_then (hK8 _ _ ?_))
    clear hK8 K8
    refine c_reg ?_ -- region 8 compile.go:96
    refine wl (ro_move rfl) ?_
    refine wl (ro_fieldAddr (k := 2) rfl fo_171_2) ?_
    refine wl (ro_loadB rfl sc_3 (hA) ((show _ = some (i64c q.2.2) from rfl))) ?_
    refine wl_call rfl en_73 (push73 (q := (0, q.2.2, 0)) V5 (ckc0 (hq5 q0)) (by simp only [List.length_cons]; omega) (fun h ↦ absurd rfl h)) ?_
    rintro _ w6 ⟨rfl, V6, F6⟩
    replace hF := hF.transT F6
    refine wl_nil (x_blk ?_)
    refine bp_end Tryz.results74 rfl ?_
    have e9 : stepC t σ = ⟨upI (setY (((σ.C.length + 1 : Nat) : Int))) (σ.C ++ [⟨2, -1, 0, 0⟩]) t.a, ckn t.r :: ⟨2, σ.C.length, .skip, 0⟩ :: σ.W⟩ := by unfold stepC; rw [if_neg (by omega), if_pos q0]; rfl
    rw [e9]; exact ⟨rfl, V6.ung, F0.ung hF hnlo⟩
  · skip
    have hq0 : q.1 = 2 := by omega
    have hqa : q.2.1 = t.a := hq4 (by omega)
    have htl := hta (by omega) (by omega)
    refine c_reg ?_ -- region 1 compile.go:89
    refine wl (ro_fieldAddr (k := 0) rfl fo_171_0) ?_
    refine wl (ro_loadB rfl sc_3 (hA) ((show _ = some (i64c q.1) from rfl))) ?_
    refine wl_nil (x_then (hK2 _ _ ?_))
    clear hK2 K2
    refine c_block ?_
    refine forget [(0, _), (3, _), (6, _)] ⟨rfl, rfl, rfl, trivial⟩ (fun e => ?_)
    refine c_seq (fun K9 hK9 => ?_)
    refine c_reg ?_ -- region 2 compile.go:90
    refine wl (ro_cmp (r := false) rfl rfl (congrArg some ((beqc q.1 0).trans (decide_eq_false (by omega))))) ?_
    refine wl (ro_assign rfl) ?_
    refine wl_nil (x_then (hK9 _ _ ?_))
    clear hK9 K9
    refine wc_condF rfl ?_
    refine c_seq (fun K10 hK10 => ?_)
    refine c_reg ?_ -- region 4 compile.go:92
    refine wl (ro_cmp (r := false) rfl rfl (congrArg some ((beqc q.1 1).trans (decide_eq_false (by omega))))) ?_
    refine wl (ro_assign rfl) ?_
    refine wl_nil (x_then (hK10 _ _ ?_))
    clear hK10 K10
    refine wc_condF rfl ?_
    refine c_seq (fun K11 hK11 => ?_)
    refine c_reg ?_ -- region 9 compile.go:97
    refine wl (ro_cmp (r := true) rfl rfl (congrArg some ((beqc q.1 2).trans (decide_eq_true (by omega))))) ?_
    refine wl (ro_assign rfl) ?_
    refine wl_nil (x_then (hK11 _ _ ?_))
    clear hK11 K11
    refine wc_condT rfl ?_
    obtain ⟨VC3, VW3, Q3, V3⟩ := V
    have hB := V3.blk
    obtain ⟨x3, hat3⟩ : ∃ x, σ.C[t.a]? = some x := ⟨_, List.getElem?_eq_getElem htl⟩
    obtain ⟨gb, gcap, l, hVC, hG, hg1, hg2, hg3, hg4⟩ := V3.code.pos (by omega)
    subst hVC
    have hgcb : gb ≠ cb := V3.code.neblk V3.blk (by decide) gb rfl
    have hgtb : gb ≠ tb := fun h => V3.np1 (by rw [← h]; rfl)
    have hG0 := hG
    refine c_piL 13 [(0, false), (1, false), (2, false), (3, false), (4, false), (5, false), (6, false), (7, false), (8, false), (9, false), (10, false), (11, false), (12, false)] (SameH _) mixed (by kernel_rfl) rfl (by kernel_rfl) (po_blk (po_bp)) (sameH_now _ _) ?_ -- region 10 compile.go:98
    refine ql_ro rfl (fun w hS => ro_move rfl) ?_
    refine ql_ro rfl (fun w hS => ro_nilCheck rfl) ?_
    refine ql_ro rfl (fun w hS => ro_fieldAddr (k := 1) rfl fo_168_1) ?_
    refine ql_ro rfl (fun w hS => ro_loadB rfl sc_109 (Blk.of_heap hB hS) (rfl)) ?_
    refine ql_ro rfl (fun w hS => ro_fieldAddr (k := 1) rfl fo_171_1) ?_
    refine ql_ro rfl (fun w hS => ro_loadB rfl sc_3 (Blk.of_heap hA hS) ((show _ = some (i64c q.2.1) from rfl))) ?_
    refine ql_ro rfl (fun w hS => ro_move rfl) ?_
    refine ql_ro rfl (fun w hS => ro_nilCheck rfl) ?_
    refine ql_ro rfl (fun w hS => ro_fieldAddr (k := 1) rfl fo_168_1) ?_
    refine ql_ro rfl (fun w hS => ro_loadB rfl sc_109 (Blk.of_heap hB hS) (rfl)) ?_
    refine ql_ro rfl (fun w hS => ro_lenL rfl se_109) ?_
    refine ql_ro rfl (fun w hS => ro_indexAddr (et := 175) (k := 7) rfl rfl se_109 ((congrArg (fun n : Nat => (n : Int)) hqa)) (htl)) ?_
    refine ql_ro rfl (fun w hS => ro_fieldAddr (k := 1) rfl fo_175_1) ?_
    refine ql_put rfl rfl rfl rfl sz_3 hG ((by omega)) (rfl) (fun w3 hG F3 => ?_)
    replace hA := F3.blkO hA (by omega)
    obtain ⟨V4, F5⟩ := V3.patch (f := setX ((σ.C.length : Nat) : Int)) hat3 (show 1 < 7 by omega) (show _ = (ric x3).set 1 (i64c σ.C.length) from rfl) rfl hG0 hG (Fram.undrew F3)
    replace hF := hF.transT F5
    refine x_blk ?_
    refine bp_end Tryz.results74 rfl ?_
    have e9 : stepC t σ = ⟨upI (setX ((σ.C.length : Nat) : Int)) σ.C t.a, σ.W⟩ := by unfold stepC; rw [if_neg (by omega), if_neg (by omega), if_pos q0]
    rw [e9]; exact ⟨rfl, V4.ung, F0.ung hF hnlo⟩
  · skip
    have hq0 : q.1 = 3 := by omega
    have hqa : q.2.1 = t.a := hq4 (by omega)
    have hqb : q.2.2 = t.b := hq6 q0
    have htl := hta (by omega) (by omega)
    refine c_reg ?_ -- region 1 compile.go:89
    refine wl (ro_fieldAddr (k := 0) rfl fo_171_0) ?_
    refine wl (ro_loadB rfl sc_3 (hA) ((show _ = some (i64c q.1) from rfl))) ?_
    refine wl_nil (x_then (hK2 _ _ ?_))
    clear hK2 K2
    refine c_block ?_
    refine forget [(0, _), (3, _), (6, _)] ⟨rfl, rfl, rfl, trivial⟩ (fun e => ?_)
    refine c_seq (fun K12 hK12 => ?_)
    refine c_reg ?_ -- region 2 compile.go:90
    refine wl (ro_cmp (r := false) rfl rfl (congrArg some ((beqc q.1 0).trans (decide_eq_false (by omega))))) ?_
    refine wl (ro_assign rfl) ?_
    refine wl_nil (x_then (hK12 _ _ ?_))
    clear hK12 K12
    refine wc_condF rfl ?_
    refine c_seq (fun K13 hK13 => ?_)
    refine c_reg ?_ -- region 4 compile.go:92
    refine wl (ro_cmp (r := false) rfl rfl (congrArg some ((beqc q.1 1).trans (decide_eq_false (by omega))))) ?_
    refine wl (ro_assign rfl) ?_
    refine wl_nil (x_then (hK13 _ _ ?_))
    clear hK13 K13
    refine wc_condF rfl ?_
    refine c_seq (fun K14 hK14 => ?_)
    refine c_reg ?_ -- region 9 compile.go:97
    refine wl (ro_cmp (r := false) rfl rfl (congrArg some ((beqc q.1 2).trans (decide_eq_false (by omega))))) ?_
    refine wl (ro_assign rfl) ?_
    refine wl_nil (x_then (hK14 _ _ ?_))
    clear hK14 K14
    refine wc_condF rfl ?_
    refine c_seq (fun K15 hK15 => ?_)
    refine c_reg ?_ -- region 11 compile.go:99
    refine wl (ro_cmp (r := true) rfl rfl (congrArg some ((beqc q.1 3).trans (decide_eq_true (by omega))))) ?_
    refine wl (ro_assign rfl) ?_
    refine wl_nil (x_then (hK15 _ _ ?_))
    clear hK15 K15
    refine wc_condT rfl ?_
    refine c_seq (fun K16 hK16 => ?_)
    refine c_reg ?_ -- region 12 compile.go:100
    refine wl (ro_move rfl) ?_
    refine wl (ro_fieldAddr (k := 1) rfl fo_171_1) ?_
    refine wl (ro_loadB rfl sc_3 (hA) ((show _ = some (i64c t.a) by rw [← hqa]; rfl))) ?_
    refine wl (ro_build rfl bld_175_0_1) ?_
    refine wl_call rfl en_75 (lay75' V (by omega)) ?_
    rintro _ w3 ⟨rfl, V3, F3⟩
    replace hA := F3.blkP hA
    replace hF := hF.transT F3
    obtain ⟨VC3, VW3, Q3, V3⟩ := V3
    have hB := V3.blk
    have hlen3 : (σ.C ++ [(⟨2, (t.a : Int), 0, 0⟩ : RI)]).length = σ.C.length + 1 := by simp
    obtain ⟨x3, hat3⟩ : ∃ x, (σ.C ++ [(⟨2, (t.a : Int), 0, 0⟩ : RI)])[t.a]? = some x := ⟨_, List.getElem?_eq_getElem (by rw [hlen3]; omega)⟩
    obtain ⟨gb, gcap, l, hVC, hG, hg1, hg2, hg3, hg4⟩ := V3.code.pos (by rw [hlen3]; omega)
    subst hVC
    rw [hlen3] at hg1
    have hgcb : gb ≠ cb := V3.code.neblk V3.blk (by decide) gb rfl
    have hgtb : gb ≠ tb := fun h => V3.np1 (by rw [← h]; rfl)
    have hG0 := hG
    refine wl_nil (x_then (hK16 _ _ ?_))
    clear hK16 K16
    refine forget [(0, _), (3, _)] ⟨rfl, rfl, trivial⟩ (fun e => ?_)
    refine c_seq (fun K17 hK17 => ?_)
    refine c_reg ?_ -- region 13 compile.go:101
    refine wl (ro_fieldAddr (k := 2) rfl fo_171_2) ?_
    refine wl (ro_loadB rfl sc_3 (hA) ((show _ = some (i64c t.b) by rw [← hqb]; rfl))) ?_
    refine wl (ro_cmp (r := decide (t.b = 1)) rfl rfl (congrArg some (beqc t.b 1))) ?_
    refine wl_nil (x_then (hK17 _ _ ?_))
    clear hK17 K17
    refine wc_cond rfl (fun hc62 => ?_) (fun hc62 => ?_)
    · try simp only [decide_eq_true_eq, decide_eq_false_iff_not, Bool.not_eq_true', Bool.not_eq_false', Bool.not_eq_eq_eq_not, Bool.not_true, Bool.not_false, beq_iff_eq, bne_iff_ne, ne_eq, beq_eq_false_iff_ne, bne_eq_false_iff_eq, gt_iff_lt, ge_iff_le, Int.not_lt, Int.not_le] at hc62
      refine c_piL 13 [(0, false), (1, false), (2, false), (3, false), (4, false), (5, false), (6, false), (7, false), (8, false), (9, false), (10, false), (11, false), (12, false)] (SameH _) mixed (by kernel_rfl) rfl (by kernel_rfl) (po_blk (po_bp)) (sameH_now _ _) ?_ -- region 14 compile.go:102
      refine ql_ro rfl (fun w hS => ro_move rfl) ?_
      refine ql_ro rfl (fun w hS => ro_nilCheck rfl) ?_
      refine ql_ro rfl (fun w hS => ro_fieldAddr (k := 1) rfl fo_168_1) ?_
      refine ql_ro rfl (fun w hS => ro_loadB rfl sc_109 (Blk.of_heap hB hS) (rfl)) ?_
      refine ql_ro rfl (fun w hS => ro_fieldAddr (k := 1) rfl fo_171_1) ?_
      refine ql_ro rfl (fun w hS => ro_loadB rfl sc_3 (Blk.of_heap hA hS) ((show _ = some (i64c q.2.1) from rfl))) ?_
      refine ql_ro rfl (fun w hS => ro_move rfl) ?_
      refine ql_ro rfl (fun w hS => ro_nilCheck rfl) ?_
      refine ql_ro rfl (fun w hS => ro_fieldAddr (k := 1) rfl fo_168_1) ?_
      refine ql_ro rfl (fun w hS => ro_loadB rfl sc_109 (Blk.of_heap hB hS) (rfl)) ?_
      refine ql_ro rfl (fun w hS => ro_lenL rfl se_109) ?_
      refine ql_ro rfl (fun w hS => ro_indexAddr (et := 175) (k := 7) rfl rfl se_109 ((congrArg (fun n : Nat => (n : Int)) hqa)) ((by rw [hlen3]; omega : t.a < (σ.C ++ [(⟨2, (t.a : Int), 0, 0⟩ : RI)]).length))) ?_
      refine ql_ro rfl (fun w hS => ro_fieldAddr (k := 1) rfl fo_175_1) ?_
      refine ql_put rfl rfl rfl rfl sz_3 hG ((by omega)) (rfl) (fun w4 hG F4 => ?_)
      replace hA := F4.blkO hA (by omega)
      obtain ⟨V4, F5⟩ := V3.patch (f := setX (((σ.C.length + 1 : Nat) : Int))) hat3 (show 1 < 7 by omega) (show _ = (ric x3).set 1 (i64c (σ.C ++ [(⟨2, (t.a : Int), 0, 0⟩ : RI)]).length) by rw [hlen3]; rfl) rfl hG0 hG (Fram.undrew F4)
      replace hF := hF.transT F5
      refine x_blk ?_
      refine bp_end Tryz.results74 rfl ?_
      first
        | (have e9 : stepC t σ = ⟨upI (setX (((σ.C.length + 1 : Nat) : Int))) (σ.C ++ [⟨2, (t.a : Int), 0, 0⟩]) t.a, σ.W⟩ := (by unfold stepC; rw [if_neg (by omega), if_neg (by omega), if_neg (by omega), if_pos q0, if_pos hc62]; rfl); rw [e9]; exact ⟨rfl, V4.ung, F0.ung hF hnlo⟩)
        | (have e9 : stepC t σ = ⟨upI (setY (((σ.C.length + 1 : Nat) : Int))) (σ.C ++ [⟨2, (t.a : Int), 0, 0⟩]) t.a, σ.W⟩ := (by unfold stepC; rw [if_neg (by omega), if_neg (by omega), if_neg (by omega), if_pos q0, if_neg hc62]; rfl); rw [e9]; exact ⟨rfl, V4.ung, F0.ung hF hnlo⟩)
    · try simp only [decide_eq_true_eq, decide_eq_false_iff_not, Bool.not_eq_true', Bool.not_eq_false', Bool.not_eq_eq_eq_not, Bool.not_true, Bool.not_false, beq_iff_eq, bne_iff_ne, ne_eq, beq_eq_false_iff_ne, bne_eq_false_iff_eq, gt_iff_lt, ge_iff_le, Int.not_lt, Int.not_le] at hc62
      refine c_piL 13 [(0, false), (1, false), (2, false), (3, false), (4, false), (5, false), (6, false), (7, false), (8, false), (9, false), (10, false), (11, false), (12, false)] (SameH _) mixed (by kernel_rfl) rfl (by kernel_rfl) (po_blk (po_bp)) (sameH_now _ _) ?_ -- region 15 compile.go:104
      refine ql_ro rfl (fun w hS => ro_move rfl) ?_
      refine ql_ro rfl (fun w hS => ro_nilCheck rfl) ?_
      refine ql_ro rfl (fun w hS => ro_fieldAddr (k := 1) rfl fo_168_1) ?_
      refine ql_ro rfl (fun w hS => ro_loadB rfl sc_109 (Blk.of_heap hB hS) (rfl)) ?_
      refine ql_ro rfl (fun w hS => ro_fieldAddr (k := 1) rfl fo_171_1) ?_
      refine ql_ro rfl (fun w hS => ro_loadB rfl sc_3 (Blk.of_heap hA hS) ((show _ = some (i64c q.2.1) from rfl))) ?_
      refine ql_ro rfl (fun w hS => ro_move rfl) ?_
      refine ql_ro rfl (fun w hS => ro_nilCheck rfl) ?_
      refine ql_ro rfl (fun w hS => ro_fieldAddr (k := 1) rfl fo_168_1) ?_
      refine ql_ro rfl (fun w hS => ro_loadB rfl sc_109 (Blk.of_heap hB hS) (rfl)) ?_
      refine ql_ro rfl (fun w hS => ro_lenL rfl se_109) ?_
      refine ql_ro rfl (fun w hS => ro_indexAddr (et := 175) (k := 7) rfl rfl se_109 ((congrArg (fun n : Nat => (n : Int)) hqa)) ((by rw [hlen3]; omega : t.a < (σ.C ++ [(⟨2, (t.a : Int), 0, 0⟩ : RI)]).length))) ?_
      refine ql_ro rfl (fun w hS => ro_fieldAddr (k := 2) rfl fo_175_2) ?_
      refine ql_put rfl rfl rfl rfl sz_3 hG ((by omega)) (rfl) (fun w5 hG F5 => ?_)
      replace hA := F5.blkO hA (by omega)
      obtain ⟨V4, F5⟩ := V3.patch (f := setY (((σ.C.length + 1 : Nat) : Int))) hat3 (show 2 < 7 by omega) (show _ = (ric x3).set 2 (i64c (σ.C ++ [(⟨2, (t.a : Int), 0, 0⟩ : RI)]).length) by rw [hlen3]; rfl) rfl hG0 hG (Fram.undrew F5)
      replace hF := hF.transT F5
      refine x_blk ?_
      refine bp_end Tryz.results74 rfl ?_
      first
        | (have e9 : stepC t σ = ⟨upI (setX (((σ.C.length + 1 : Nat) : Int))) (σ.C ++ [⟨2, (t.a : Int), 0, 0⟩]) t.a, σ.W⟩ := (by unfold stepC; rw [if_neg (by omega), if_neg (by omega), if_neg (by omega), if_pos q0, if_pos hc62]; rfl); rw [e9]; exact ⟨rfl, V4.ung, F0.ung hF hnlo⟩)
        | (have e9 : stepC t σ = ⟨upI (setY (((σ.C.length + 1 : Nat) : Int))) (σ.C ++ [⟨2, (t.a : Int), 0, 0⟩]) t.a, σ.W⟩ := (by unfold stepC; rw [if_neg (by omega), if_neg (by omega), if_neg (by omega), if_pos q0, if_neg hc62]; rfl); rw [e9]; exact ⟨rfl, V4.ung, F0.ung hF hnlo⟩)
  · skip
    have hq0 : q.1 = 4 := by omega
    have hqa : q.2.1 = t.a := hq4 (by omega)
    refine c_reg ?_ -- region 1 compile.go:89
    refine wl (ro_fieldAddr (k := 0) rfl fo_171_0) ?_
    refine wl (ro_loadB rfl sc_3 (hA) ((show _ = some (i64c q.1) from rfl))) ?_
    refine wl_nil (x_then (hK2 _ _ ?_))
    clear hK2 K2
    refine c_block ?_
    refine forget [(0, _), (3, _), (6, _)] ⟨rfl, rfl, rfl, trivial⟩ (fun e => ?_)
    refine c_seq (fun K18 hK18 => ?_)
    refine c_reg ?_ -- region 2 compile.go:90
    refine wl (ro_cmp (r := false) rfl rfl (congrArg some ((beqc q.1 0).trans (decide_eq_false (by omega))))) ?_
    refine wl (ro_assign rfl) ?_
    refine wl_nil (x_then (hK18 _ _ ?_))
    clear hK18 K18
    refine wc_condF rfl ?_
    refine c_seq (fun K19 hK19 => ?_)
    refine c_reg ?_ -- region 4 compile.go:92
    refine wl (ro_cmp (r := false) rfl rfl (congrArg some ((beqc q.1 1).trans (decide_eq_false (by omega))))) ?_
    refine wl (ro_assign rfl) ?_
    refine wl_nil (x_then (hK19 _ _ ?_))
    clear hK19 K19
    refine wc_condF rfl ?_
    refine c_seq (fun K20 hK20 => ?_)
    refine c_reg ?_ -- region 9 compile.go:97
    refine wl (ro_cmp (r := false) rfl rfl (congrArg some ((beqc q.1 2).trans (decide_eq_false (by omega))))) ?_
    refine wl (ro_assign rfl) ?_
    refine wl_nil (x_then (hK20 _ _ ?_))
    clear hK20 K20
    refine wc_condF rfl ?_
    refine c_seq (fun K21 hK21 => ?_)
    refine c_reg ?_ -- region 11 compile.go:99
    refine wl (ro_cmp (r := false) rfl rfl (congrArg some ((beqc q.1 3).trans (decide_eq_false (by omega))))) ?_
    refine wl (ro_assign rfl) ?_
    refine wl_nil (x_then (hK21 _ _ ?_))
    clear hK21 K21
    refine wc_condF rfl ?_
    refine c_seq (fun K22 hK22 => ?_)
    refine c_reg ?_ -- region 16 compile.go:106
    refine wl (ro_cmp (r := true) rfl rfl (congrArg some ((beqc q.1 4).trans (decide_eq_true (by omega))))) ?_
    refine wl (ro_assign rfl) ?_
    refine wl_nil (x_then (hK22 _ _ ?_))
    clear hK22 K22
    refine wc_condT rfl ?_
    refine c_reg ?_ -- region 17 compile.go:107
    refine wl (ro_move rfl) ?_
    refine wl (ro_fieldAddr (k := 1) rfl fo_171_1) ?_
    refine wl (ro_loadB rfl sc_3 (hA) ((show _ = some (i64c t.a) by rw [← hqa]; rfl))) ?_
    refine wl (ro_build rfl bld_175_0_1) ?_
    refine wl_call rfl en_75 (lay75' V (by omega)) ?_
    rintro _ w3 ⟨rfl, V3, F3⟩
    refine wl_nil (x_blk ?_)
    refine bp_end Tryz.results74 rfl ?_
    have e9 : stepC t σ = ⟨σ.C ++ [⟨3, (t.a : Int), 0, 0⟩], σ.W⟩ := by unfold stepC; rw [if_neg (by omega), if_neg (by omega), if_neg (by omega), if_neg (by omega)]
    rw [e9]; exact ⟨rfl, V3.ung, F0.ung F3 hnlo⟩

end Go.Proofs.Qxb6500567aGreat
