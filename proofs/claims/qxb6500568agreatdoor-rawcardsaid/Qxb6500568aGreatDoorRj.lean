import Derived.Test.Qxb6500568aGreatDoorRi
import Derived.Laws.Cover3
/- The check of a table: CheckMid. -/
namespace Go.Proofs.Qxb6500568aGreatDoor
open Ieee
set_option linter.unusedVariables false
set_option linter.unusedSimpArgs false
set_option linter.unusedSectionVars false

theorem ro_mapNil {P : Program} {n : Nat} {e : Nat → Option Value} {w : World} {t t' k et r : Nat} {x y : Operand} (hx : evO n e x = some (.map (some r))) (hy : evO n e y = some (.map none)) (ht : P.underlying t = some (.map k et)) (hg : P.eqGuardType P.depth t = false) : RO P n e w (.binOp .eql t x y t') (.bool false) := by
  intro ds dst ty ps af g
  have key : (Op.equal t (.map (some r)) (.map none)).run P w = .ok false w := run_equalIn_map_nil w 9999 t k et (some r) ht
  simp [execOp, evO_eval hx, evO_eval hy, eqGuard, hg, binOp, key]
theorem ro_adT {P : Program} {n : Nat} {e : Nat → Option Value} {w : World} {t t' : TypeId} {x y : Operand} {m k : Nat} (hx : evO n e x = some (i64c m)) (hy : evO n e y = some (i64c k)) (hm : m + k < 9223372036854775808) : RO P n e w (.binOp .add t x y t') (i64c (m + k)) := by
  have e : ((m : Int) + (k : Int)) = ((m + k : Nat) : Int) := by omega
  have := ro_arith (P := P) (w := w) (op := .add) (t := t) (t' := t') hx hy rfl (Go.IntWalk.i64_in _ (by omega))
  rw [e] at this
  exact this
section
variable {α : Type} [DecidableEq α] {kv : α → Value} {vv : Nat → Value}
theorem ro_lenMF {P : Program} {n : Nat} {e : Nat → Option Value} {w : World} {H : Array Obj} {t kt et r : Nat} {x : Operand} {l : List (α × Nat)} (hx : evO n e x = some (.map (some r))) (ht : P.underlying t = some (.map kt et)) (hM : MapAt kv H r (l.map fun p => (p.1, vv p.2))) (hS : SameH H w) : RO P n e w (.call ⟨.builtin .len, #[x], #[t]⟩) (i64c l.length) := by
  unfold SameH at hS
  rw [← hS] at hM
  have := ro_lenM (P := P) (n := n) (e := e) hx ht hM
  rw [List.length_map] at this
  exact this
end
theorem ref_bd {k : PV} (h : wfV k = true) (hT : k.T ≠ 2 ∧ k.T ≠ 3) : k.T < 8 ∧ k.N < 4294967296 ∧ k.S = [] := by
  unfold wfV at h
  rw [if_neg hT.2] at h
  split at h
  · rename_i q
    refine ⟨by omega, ?_, q.1⟩
    split at h
    · simp at h; omega
    · split at h
      · simp at h; omega
      · split at h
        · simp at h; omega
        · split at h
          · simpa using h
          · omega
  · cases h
/-- what is known of an entry. -/
theorem ent_of {α : Type} {vv : Nat → Value} {l : List (α × Nat)} {j : Nat} {k : α} {v : Value} (h : (l.map fun p => (p.1, vv p.2))[j]? = some (k, v)) : ∃ p, l[j]? = some (k, p) ∧ v = vv p ∧ (l.map (·.2))[j]? = some p := by
  rw [List.getElem?_map] at h
  cases hq : l[j]? with
  | none => rw [hq] at h; cases h
  | some q =>
    rw [hq] at h
    simp at h
    exact ⟨q.2, by rw [← h.1], h.2.symm, by rw [List.getElem?_map, hq]; rfl⟩
theorem res_s {P : Program} {n : Nat} {e : Nat → Option Value} {w : World} {ds : List Deferred} {fn : Func} {a ta ba t1 : Nat} {v : Value} (hrs : fn.results = #[.cell a ta]) (ha : evO n e (.tmp a) = some (ptr ba)) (h1 : scalB P ta = true) (hA : Blk w.heap ba [v] t1) : (results fn (Fr n e ds).tmps).run P w = .ok v w := by
  have g1 := getD_of_evO (ds := ds) ha
  have r1 := load_scal h1 hA
  rw [results_rv, hrs]
  simp only [ptr] at g1
  simp [rvM, Sem.run_bind, g1, asAddr, r1]
def deadP {ord : Tb} (pre : List (PlM ord)) : Nat := ((pre.map (fun x => x.1.2)).filter fun q => decide (q.2.T = 0)).length
def cmI (s0 : Nat) (w : World) (b4 b19 : Nat) {ord : Tb} (pre : List (PlM ord)) (W : World) : Prop := (s0 ≤ W.heap.size ∧ pre.length ≤ 50) ∧ Fram none' w W ∧ Blk W.heap b4 [.bool false] 4 ∧ Blk W.heap b19 [i64c (deadP pre)] 3
def cmX {ord : Tb} (c : Code) (pre : List (PlM ord)) (W : World) : Prop := False
def cmA (b4 b19 : Nat) {ord : Tb} (x : PlM ord) (a : Act) (W : World) : Prop := ∃ b, Blk W.heap b (enc x.1.2) 263 ∧ ∃ e, a = Fr 249 (upds e [(4, ptr b4), (19, ptr b19), (21, ptr b)]) []
set_option maxHeartbeats 16000000 in
theorem CheckMid248 {w : World} {ow : Nat → Nat} {nb xb h : Nat} {L : List TM} {cnt : Nat} {m : TM} (hL : TBV w ow nb xb L cnt) (hm : L[h]? = some m) : Ret Tryz.prog 248 [ptr xb, i64c h] w (fun r w' => r = .bool true ∧ Fram none' w w') := by
  have hF : Fram none' w w := Fram.refl _ _
  have hI := hL.ti h m hm
  obtain ⟨ab, cap, l, hX, hA, hl, q1, q2, q3, q4, q5, q6⟩ := hL.row hm
  have hTv := hL.tv h m hm
  have h32 := hI.ok.len
  obtain ⟨a1, c1', hvo⟩ := hTv.o.form
  obtain ⟨a2, c2', hva⟩ := hTv.a.form
  have hX0 := hX
  have hA0 := hA
  have hAl := hA.lt
  have hXl := hX.lt
  have hOx : ∃ g lo, ∀ (i : Nat) x, m.R.ord[i]? = some x → a1 = some ⟨g, 0, none⟩ ∧ Blk w.heap g lo 263 ∧ (lo.drop (0 + i * 6)).take 6 = enc x := by
    by_cases h0 : 0 < m.R.ord.length
    · obtain ⟨y, hy⟩ : ∃ y, m.R.ord[0]? = some y := ⟨_, List.getElem?_eq_getElem h0⟩
      obtain ⟨g, cap2, lo, hv2, hO, k1, k2, k3, k4, k5⟩ := hTv.o.at enc_len hy
      rw [hvo] at hv2
      cases hv2
      exact ⟨g, lo, fun i x hx => ⟨rfl, hO, k5 i x hx⟩⟩
    · exact ⟨0, [], fun i x hx => by have := (List.getElem?_eq_some_iff.1 hx).1; omega⟩
  obtain ⟨go, lo, hOx⟩ := hOx
  obtain ⟨ln, hmn, n1, n2⟩ := hTv.n.ex
  obtain ⟨ls, hms, s1, s2⟩ := hTv.s.ex
  obtain ⟨lr, hmr, r1, r2⟩ := hTv.r.ex
  obtain ⟨bsn, clkn, hCn⟩ := hmn.toC
  obtain ⟨bss, clks, hCs⟩ := hms.toC
  obtain ⟨bsr, clkr, hCr⟩ := hmr.toC
  have hbn : bsn.length = (ln.map (·.2)).length := by have := hCn.len; simpa using this
  have hbs : bss.length = (ls.map (·.2)).length := by have := hCs.len; simpa using this
  have hbr : bsr.length = (lr.map (·.2)).length := by have := hCr.len; simpa using this
  have hmnl := hTv.n.lt
  have hmsl := hTv.s.lt
  have hmrl := hTv.r.lt
  have hcnt := hI.count n1 n2 s1 s2 r1 r2
  have hnd := hI.nodup n1 n2 s1 s2 r1 r2
  have hcv := hI.cover n2 s2 r2
  unfold plcs at hnd
  have hnd1 : (m.R.arr ++ ln.map (·.2)).Nodup := by rw [← List.append_assoc] at hnd; exact (List.nodup_append.1 hnd).1
  have hnd2 : (m.R.arr ++ ln.map (·.2) ++ ls.map (·.2)).Nodup := by rw [← List.append_assoc, ← List.append_assoc] at hnd; exact (List.nodup_append.1 hnd).1
  have hnd3 : (m.R.arr ++ ln.map (·.2) ++ ls.map (·.2) ++ lr.map (·.2)).Nodup := by rw [← List.append_assoc, ← List.append_assoc] at hnd; exact hnd
  refine retm_of Tryz.func248 rfl Tryz.ntmps248 rfl ?_
  refine c_seq (fun K1 hK1 => ?_)
  refine c_reg ?_ -- region 0 check.go:54
  refine wl_new (ze_4) (fun b4 w1 hbb4 h4 F1 => ?_)
  have hbsb4 := Nat.le_trans hF.size hbb4
  have hnexbb4 : xb < b4 := Nat.lt_of_lt_of_le hX.lt hbb4
  have hneabb4 : ab < b4 := Nat.lt_of_lt_of_le hA.lt hbb4
  replace hF := hF.thenDrew.thenN F1
  replace hX := F1.blkN hX
  replace hA := F1.blkN hA
  refine wl_nil (x_then (hK1 _ _ ?_))
  clear hK1 K1
  refine c_seq (fun K2 hK2 => ?_)
  refine c_seq (fun K3 hK3 => ?_)
  refine c_reg ?_ -- region 1 check.go:55
  refine wl (ro_move rfl) ?_
  refine wl (ro_cmp rfl rfl rfl) ?_
  refine wl_fork rfl (fun hg26 => ?_) (fun hg26 => ?_)
  · try simp only [decide_eq_true_eq, decide_eq_false_iff_not, Bool.not_eq_true', Bool.not_eq_false', Bool.not_eq_eq_eq_not, Bool.not_true, Bool.not_false, beq_iff_eq, bne_iff_ne, ne_eq, beq_eq_false_iff_ne, bne_eq_false_iff_eq, gt_iff_lt, ge_iff_le, Int.not_lt, Int.not_le] at hg26
    exfalso; omega
  · try simp only [decide_eq_true_eq, decide_eq_false_iff_not, Bool.not_eq_true', Bool.not_eq_false', Bool.not_eq_eq_eq_not, Bool.not_true, Bool.not_false, beq_iff_eq, bne_iff_ne, ne_eq, beq_eq_false_iff_ne, bne_eq_false_iff_eq, gt_iff_lt, ge_iff_le, Int.not_lt, Int.not_le] at hg26
    refine wlg_yes rfl (ro_move rfl) ?_
    refine wlg_yes rfl (ro_move rfl) ?_
    refine wlg_yes rfl (ro_nilCheck rfl) ?_
    refine wlg_yes rfl (ro_fieldAddr (k := 1) rfl fo_75_1) ?_
    refine wlg_yes rfl (ro_loadB rfl sc_73 (hX) rfl) ?_
    refine wlg_yes rfl (ro_lenL rfl se_73) ?_
    refine wlg_yes rfl (ro_cmp rfl rfl rfl) ?_
    refine wl (ro_pick rfl rfl rfl) ?_
    refine wl_nil (x_then (hK3 _ _ ?_))
    clear hK3 K3
    refine wc_cond rfl (fun hc34 => ?_) (fun hc34 => ?_)
    · try simp only [decide_eq_true_eq, decide_eq_false_iff_not, Bool.not_eq_true', Bool.not_eq_false', Bool.not_eq_eq_eq_not, Bool.not_true, Bool.not_false, beq_iff_eq, bne_iff_ne, ne_eq, beq_eq_false_iff_ne, bne_eq_false_iff_eq, gt_iff_lt, ge_iff_le, Int.not_lt, Int.not_le] at hc34
      exfalso; omega
    · try simp only [decide_eq_true_eq, decide_eq_false_iff_not, Bool.not_eq_true', Bool.not_eq_false', Bool.not_eq_eq_eq_not, Bool.not_true, Bool.not_false, beq_iff_eq, bne_iff_ne, ne_eq, beq_eq_false_iff_ne, bne_eq_false_iff_eq, gt_iff_lt, ge_iff_le, Int.not_lt, Int.not_le] at hc34
      refine c_skip (x_then (hK2 _ _ ?_))
      clear hK2 K2
      refine forget [(0, _), (1, _), (4, _), (24, _), (25, _), (26, _), (27, _), (28, _), (29, _), (30, _), (31, _), (32, _), (33, _), (34, _)] ⟨rfl, rfl, rfl, rfl, rfl, rfl, rfl, rfl, rfl, rfl, rfl, rfl, rfl, rfl, trivial⟩ (fun e => ?_)
      refine c_seq (fun K4 hK4 => ?_)
      refine c_reg ?_ -- region 3 check.go:58
      refine wl (ro_move rfl) ?_
      refine wl (ro_nilCheck rfl) ?_
      refine wl (ro_fieldAddr (k := 1) rfl fo_75_1) ?_
      refine wl (ro_loadB rfl sc_73 (hX) rfl) ?_
      refine wl (ro_move rfl) ?_
      refine wl (ro_indexAddr (et := 251) (k := 6) rfl rfl se_73 (rfl) (q2)) ?_
      refine wl (ro_assign rfl) ?_
      refine wl_nil (x_then (hK4 _ _ ?_))
      clear hK4 K4
      refine c_seq (fun K5 hK5 => ?_)
      refine c_seq (fun K6 hK6 => ?_)
      refine c_reg ?_ -- region 4 check.go:59
      refine wl (ro_move rfl) ?_
      refine wl (ro_nilCheck rfl) ?_
      refine wl (ro_fieldAddr (k := 2) rfl fo_251_2) ?_
      refine wl (ro_loadB rfl sc_248 (hA) ((row_cell3 (j := 2) hl rfl))) ?_
      refine wl (ro_mapNil (r := m.mn) (k := 117) (et := 21) rfl rfl (by kernel_rfl) (by kernel_rfl)) ?_
      refine wl (ro_move rfl) ?_
      refine wlg_yes rfl (ro_move rfl) ?_
      refine wlg_yes rfl (ro_nilCheck rfl) ?_
      refine wlg_yes rfl (ro_fieldAddr (k := 3) rfl fo_251_3) ?_
      refine wlg_yes rfl (ro_loadB rfl sc_249 (hA) ((row_cell3 (j := 3) hl rfl))) ?_
      refine wlg_yes rfl (ro_mapNil (r := m.ms) (k := 9) (et := 21) rfl rfl (by kernel_rfl) (by kernel_rfl)) ?_
      refine wl (ro_pick rfl rfl rfl) ?_
      refine wl (ro_move rfl) ?_
      refine wlg_yes rfl (ro_move rfl) ?_
      refine wlg_yes rfl (ro_nilCheck rfl) ?_
      refine wlg_yes rfl (ro_fieldAddr (k := 4) rfl fo_251_4) ?_
      refine wlg_yes rfl (ro_loadB rfl sc_248 (hA) ((row_cell3 (j := 4) hl rfl))) ?_
      refine wlg_yes rfl (ro_mapNil (r := m.mr) (k := 117) (et := 21) rfl rfl (by kernel_rfl) (by kernel_rfl)) ?_
      refine wl (ro_pick rfl rfl rfl) ?_
      refine wl (ro_move rfl) ?_
      refine wlg_yes rfl (ro_move rfl) ?_
      refine wlg_yes rfl (ro_nilCheck rfl) ?_
      refine wlg_yes rfl (ro_fieldAddr (k := 0) rfl fo_251_0) ?_
      refine wlg_yes rfl (ro_loadB rfl sc_246 (hA) ((row_cell3 (j := 0) hl (by show some m.vo = _; rw [hvo])))) ?_
      refine wlg_yes rfl (ro_lenL rfl se_246) ?_
      refine wlg_yes rfl (ro_cmp rfl rfl rfl) ?_
      refine wl (ro_pick rfl rfl rfl) ?_
      refine wl_nil (x_then (hK6 _ _ ?_))
      clear hK6 K6
      refine wc_cond rfl (fun hc67 => ?_) (fun hc67 => ?_)
      · try simp only [decide_eq_true_eq, decide_eq_false_iff_not, Bool.not_eq_true', Bool.not_eq_false', Bool.not_eq_eq_eq_not, Bool.not_true, Bool.not_false, beq_iff_eq, bne_iff_ne, ne_eq, beq_eq_false_iff_ne, bne_eq_false_iff_eq, gt_iff_lt, ge_iff_le, Int.not_lt, Int.not_le] at hc67
        exfalso; omega
      · try simp only [decide_eq_true_eq, decide_eq_false_iff_not, Bool.not_eq_true', Bool.not_eq_false', Bool.not_eq_eq_eq_not, Bool.not_true, Bool.not_false, beq_iff_eq, bne_iff_ne, ne_eq, beq_eq_false_iff_ne, bne_eq_false_iff_eq, gt_iff_lt, ge_iff_le, Int.not_lt, Int.not_le] at hc67
        refine c_skip (x_then (hK5 _ _ ?_))
        clear hK5 K5
        refine c_seq (fun K7 hK7 => ?_)
        refine c_seq (fun K8 hK8 => ?_)
        refine c_pi [(0, false), (1, false), (2, false), (3, false), (4, false), (5, false), (6, false), (7, false), (8, false), (9, false), (10, false), (11, false), (12, false), (13, false), (14, false), (15, false), (16, false), (17, false), (18, false), (19, false), (20, false), (21, false), (22, false), (23, false), (24, false), (25, false), (26, false), (27, false), (28, false)] (SameH _) mixed (by kernel_rfl) rfl (by kernel_rfl) (po_then (po_then (po_np))) (sameH_now _ _) ?_ -- region 6 check.go:62
        refine pi_ro rfl (fun w hS => ro_move rfl) ?_
        refine pi_ro rfl (fun w hS => ro_nilCheck rfl) ?_
        refine pi_ro rfl (fun w hS => ro_fieldAddr (k := 1) rfl fo_251_1) ?_
        refine pi_ro rfl (fun w hS => ro_loadB rfl sc_247 (Blk.of_heap hA hS) ((row_cell3 (j := 1) hl (by show some m.va = _; rw [hva])))) ?_
        refine pi_ro rfl (fun w hS => ro_lenL rfl se_247) ?_
        refine pi_ro rfl (fun w hS => ro_move rfl) ?_
        refine pi_ro rfl (fun w hS => ro_nilCheck rfl) ?_
        refine pi_ro rfl (fun w hS => ro_fieldAddr (k := 2) rfl fo_251_2) ?_
        refine pi_ro rfl (fun w hS => ro_loadB rfl sc_248 (Blk.of_heap hA hS) ((row_cell3 (j := 2) hl rfl))) ?_
        refine pi_ro rfl (fun w hS => ro_lenMF (kt := 117) (et := 21) rfl (by kernel_rfl) (hmn.fram hF (fun h => h)) hS) ?_
        refine pi_ro rfl (fun w hS => ro_adT (m := m.R.arr.length) (k := ln.length) rfl rfl (by omega)) ?_
        refine pi_ro rfl (fun w hS => ro_move rfl) ?_
        refine pi_ro rfl (fun w hS => ro_nilCheck rfl) ?_
        refine pi_ro rfl (fun w hS => ro_fieldAddr (k := 3) rfl fo_251_3) ?_
        refine pi_ro rfl (fun w hS => ro_loadB rfl sc_249 (Blk.of_heap hA hS) ((row_cell3 (j := 3) hl rfl))) ?_
        refine pi_ro rfl (fun w hS => ro_lenMF (kt := 9) (et := 21) rfl (by kernel_rfl) (hms.fram hF (fun h => h)) hS) ?_
        refine pi_ro rfl (fun w hS => ro_adT (m := m.R.arr.length + ln.length) (k := ls.length) rfl rfl (by omega)) ?_
        refine pi_ro rfl (fun w hS => ro_move rfl) ?_
        refine pi_ro rfl (fun w hS => ro_nilCheck rfl) ?_
        refine pi_ro rfl (fun w hS => ro_fieldAddr (k := 4) rfl fo_251_4) ?_
        refine pi_ro rfl (fun w hS => ro_loadB rfl sc_248 (Blk.of_heap hA hS) ((row_cell3 (j := 4) hl rfl))) ?_
        refine pi_ro rfl (fun w hS => ro_lenMF (kt := 117) (et := 21) rfl (by kernel_rfl) (hmr.fram hF (fun h => h)) hS) ?_
        refine pi_ro rfl (fun w hS => ro_adT (m := m.R.arr.length + ln.length + ls.length) (k := lr.length) rfl rfl (by omega)) ?_
        refine pi_ro rfl (fun w hS => ro_move rfl) ?_
        refine pi_ro rfl (fun w hS => ro_nilCheck rfl) ?_
        refine pi_ro rfl (fun w hS => ro_fieldAddr (k := 0) rfl fo_251_0) ?_
        refine pi_ro rfl (fun w hS => ro_loadB rfl sc_246 (Blk.of_heap hA hS) ((row_cell3 (j := 0) hl (by show some m.vo = _; rw [hvo])))) ?_
        refine pi_ro rfl (fun w hS => ro_lenL rfl se_246) ?_
        refine pi_ro rfl (fun w hS => ro_cmp (r := false) rfl rfl (congrArg some (by simp; omega))) ?_
        refine pi_nil (x_then (hK8 _ _ ?_))
        clear hK8 K8
        refine wc_condF rfl ?_
        refine c_skip (x_then (hK7 _ _ ?_))
        clear hK7 K7
        refine forget [(0, _), (1, _), (4, _), (5, _), (24, _), (25, _), (26, _), (27, _), (28, _), (29, _), (30, _), (31, _), (32, _), (33, _), (34, _), (35, _), (36, _), (37, _), (38, _), (39, _), (40, _), (41, _), (42, _), (43, _), (44, _), (45, _), (46, _), (47, _), (48, _), (49, _), (50, _), (51, _), (52, _), (53, _), (54, _), (55, _), (56, _), (57, _), (58, _), (59, _), (60, _), (61, _), (62, _), (63, _), (64, _), (65, _), (66, _), (67, _), (68, _), (69, _), (70, _), (71, _), (72, _), (73, _), (74, _), (75, _), (76, _), (77, _), (78, _), (79, _), (80, _), (81, _), (82, _), (83, _), (84, _), (85, _), (86, _), (87, _), (88, _), (89, _), (90, _), (91, _), (92, _), (93, _), (94, _), (95, _), (96, _)] ⟨rfl, rfl, rfl, rfl, rfl, rfl, rfl, rfl, rfl, rfl, rfl, rfl, rfl, rfl, rfl, rfl, rfl, rfl, rfl, rfl, rfl, rfl, rfl, rfl, rfl, rfl, rfl, rfl, rfl, rfl, rfl, rfl, rfl, rfl, rfl, rfl, rfl, rfl, rfl, rfl, rfl, rfl, rfl, rfl, rfl, rfl, rfl, rfl, rfl, rfl, rfl, rfl, rfl, rfl, rfl, rfl, rfl, rfl, rfl, rfl, rfl, rfl, rfl, rfl, rfl, rfl, rfl, rfl, rfl, rfl, rfl, rfl, rfl, rfl, rfl, rfl, rfl, trivial⟩ (fun e => ?_)
        refine c_seq (fun K9 hK9 => ?_)
        refine c_reg ?_ -- region 8 check.go:65
        refine wl_new (ze_425) (fun b6 w2 hbb6 h6 F2 => ?_)
        have hbsb6 := Nat.le_trans hF.size hbb6
        have hnexbb6 : xb < b6 := Nat.lt_of_lt_of_le hX.lt hbb6
        have hneabb6 : ab < b6 := Nat.lt_of_lt_of_le hA.lt hbb6
        have hneb4b6 : b4 < b6 := Nat.lt_of_lt_of_le h4.lt hbb6
        replace hF := hF.thenDrew.thenN F2
        replace hX := F2.blkN hX
        replace hA := F2.blkN hA
        replace h4 := F2.blkN h4
        refine wl_nil (x_then (hK9 _ _ ?_))
        clear hK9 K9
        refine c_seq (fun K10 hK10 => ?_)
        refine c_seq (fun K11 hK11 => ?_)
        refine c_reg ?_ -- region 9 check.go:66
        refine wl (ro_move rfl) ?_
        refine wl (ro_nilCheck rfl) ?_
        refine wl (ro_fieldAddr (k := 1) rfl fo_251_1) ?_
        refine wl (ro_loadB rfl sc_247 (hA) ((row_cell3 (j := 1) hl (by show some m.va = _; rw [hva])))) ?_
        refine wl (ro_lenL rfl se_247) ?_
        refine wl (ro_move rfl) ?_
        refine wl_nil (x_then (hK11 _ _ ?_))
        clear hK11 K11
        refine c_block ?_
        -- loop@r10: live slots [0, 1, 4, 5, 6, 24, 25, 26, 27, 28, 29, 30, 31, 32, 33, 34, 35, 36, 37, 38, 39, 40, 41, 42, 43, 44, 45, 46, 47, 48, 49, 50, 51, 52, 53, 54, 55, 56, 57, 58, 59, 60, 61, 62, 63, 64, 65, 66, 67, 68, 69, 70, 71, 72, 73, 74, 75, 76, 77, 78, 79, 80, 81, 82, 83, 84, 85, 86, 87, 88, 89, 90, 91, 92, 93, 94, 95, 96, 97, 98, 99, 100, 101, 102]
        refine c_loopG (fun n a' w' => ∃ i G, n = m.R.arr.length - i ∧ i ≤ m.R.arr.length ∧ (∀ p, G p = true ↔ p ∈ m.R.arr.take i) ∧ Blk w'.heap b6 (seenC G) 425 ∧ Blk w'.heap b4 [.bool false] 4 ∧ Fram none' w w' ∧ ∃ e, a' = Fr 249 (upds e [(0, ptr xb), (4, ptr b4), (5, ptrAt ab (0 + h * 6)), (6, ptr b6), (100, .slice a2 m.R.arr.length c2'), (101, i64c m.R.arr.length), (102, i64c i)]) []) m.R.arr.length ⟨0, fun _ => false, rfl, Nat.zero_le _, fun p => by simp, h6, h4, hF, kp _ ⟨rfl, rfl, rfl, rfl, rfl, rfl, rfl, trivial⟩⟩ ?_
        clear h6 h4 hF hX hA
        rintro n a' u1 ⟨i, G, rfl, hi, hG, h6, h4, hF, e, rfl⟩
        have hX := hF.blkN hX0
        have hA := hF.blkN hA0
        refine c_seq (fun K12 hK12 => ?_)
        refine c_reg ?_ -- region 10 check.go:66
        refine wl (ro_cmp rfl rfl rfl) ?_
        refine wl_nil (x_then (hK12 _ _ ?_))
        clear hK12 K12
        refine forget [(0, _), (4, _), (5, _), (6, _), (100, _), (101, _), (102, _), (103, _)] ⟨rfl, rfl, rfl, rfl, rfl, rfl, rfl, rfl, trivial⟩ (fun e => ?_)
        refine c_seq (fun K13 hK13 => ?_)
        refine wc_cond rfl (fun hc103 => ?_) (fun hc103 => ?_)
        · try simp only [decide_eq_true_eq, decide_eq_false_iff_not, Bool.not_eq_true', Bool.not_eq_false', Bool.not_eq_eq_eq_not, Bool.not_true, Bool.not_false, beq_iff_eq, bne_iff_ne, ne_eq, beq_eq_false_iff_ne, bne_eq_false_iff_eq, gt_iff_lt, ge_iff_le, Int.not_lt, Int.not_le] at hc103
          obtain ⟨g2, cap2, l2, hva2, hB2, z1, z2, z3, z4⟩ := hTv.a.o.pos (by omega)
          rw [hva] at hva2
          cases hva2
          have hil : i < m.R.arr.length := by omega
          have hpp := List.getElem?_eq_getElem hil
          generalize m.R.arr[i] = p at hpp
          have hB2l := hB2.lt
          replace hB2 := hF.blkN hB2
          obtain ⟨v, hv⟩ := hI.arrI i p hpp
          have hpl := (List.getElem?_eq_some_iff.1 hv).1
          obtain ⟨ea1, hOb, hxr⟩ := hOx p _ hv
          replace hOb := hF.blkN hOb
          have hGp : G p = false := by
            cases hq : G p with
            | false => rfl
            | true =>
              exfalso
              have h1 := (hG p).1 hq
              obtain ⟨j, hj, e1⟩ := List.getElem_of_mem h1
              rw [List.getElem_take] at e1
              rw [List.length_take] at hj
              have h2 := nd_inj hI.arr_nd (i := j) (j := i) (by omega) hil (by rw [e1]; exact (List.getElem?_eq_some_iff.1 hpp).2.symm)
              omega
          refine c_skip (x_then (hK13 _ _ ?_))
          clear hK13 K13
          refine forget [(0, _), (4, _), (5, _), (6, _), (100, _), (101, _), (102, _)] ⟨rfl, rfl, rfl, rfl, rfl, rfl, rfl, trivial⟩ (fun e => ?_)
          refine c_seq (fun K14 hK14 => ?_)
          refine c_block ?_
          refine c_seq (fun K15 hK15 => ?_)
          refine c_reg ?_ -- region 11 check.go:66
          refine wl (ro_move rfl) ?_
          refine wl (ro_indexAddr (et := 21) (k := 1) rfl rfl se_247 (rfl) (hil)) ?_
          refine wl (ro_loadB rfl sc_21 (hB2) ((own_get (v := i32c p) z4 (by rw [Nat.zero_add, Nat.mul_one, List.getElem?_map, hpp]; rfl)))) ?_
          refine wl (ro_assign rfl) ?_
          refine wl (ro_assign rfl) ?_
          refine wl_nil (x_then (hK15 _ _ ?_))
          clear hK15 K15
          refine forget [(0, _), (4, _), (5, _), (6, _), (7, _), (8, _), (100, _), (101, _), (102, _), (104, _), (105, _), (106, _)] ⟨rfl, rfl, rfl, rfl, rfl, rfl, rfl, rfl, rfl, rfl, rfl, rfl, trivial⟩ (fun e => ?_)
          refine c_seq (fun K16 hK16 => ?_)
          refine c_reg ?_ -- region 12 check.go:67
          refine wl (ro_move rfl) ?_
          refine wl (ro_nilCheck rfl) ?_
          refine wl (ro_fieldAddr (k := 0) rfl fo_75_0) ?_
          refine wl (ro_loadB rfl sc_36 (hX) rfl) ?_
          refine wl (ro_move rfl) ?_
          refine wl (ro_adT (m := i) (k := 1) rfl rfl (by omega)) ?_
          refine wl_call rfl en_249 (FromInt249 (i := i + 1)) ?_
          rintro _ _ ⟨rfl, rfl⟩
          refine wl (ro_assign rfl) ?_
          refine wl_nil (x_then (hK16 _ _ ?_))
          clear hK16 K16
          refine forget [(0, _), (4, _), (5, _), (6, _), (7, _), (8, _), (9, _), (100, _), (101, _), (102, _), (104, _), (105, _), (106, _), (107, _), (108, _), (109, _), (110, _), (111, _), (112, _), (113, _)] ⟨rfl, rfl, rfl, rfl, rfl, rfl, rfl, rfl, rfl, rfl, rfl, rfl, rfl, rfl, rfl, rfl, rfl, rfl, rfl, rfl, trivial⟩ (fun e => ?_)
          refine c_seq (fun K17 hK17 => ?_)
          refine c_reg ?_ -- region 13 check.go:68
          refine wl (ro_move rfl) ?_
          refine wl (ro_move rfl) ?_
          refine wl (ro_move rfl) ?_
          refine wl (ro_build rfl bld_119_0_1) ?_
          refine wl_call rfl en_276 (points276 (n := m.R.ord.length) (cap := c1') (g := go) (lo := lo) (k := vNum (fInt (i + 1))) (v := v) hA (row_cell3 (j := 0) hl (by show some m.vo = _; rw [hvo, ea1])) hOb hpl h32 hxr h6 hGp) ?_
          rintro _ u9 ⟨rfl, h6, FF⟩
          replace hF := hF.thenO FF (.inr hbsb6)
          refine wl (ro_not rfl) ?_
          refine wl_nil (x_then (hK17 _ _ ?_))
          clear hK17 K17
          refine wc_condF rfl ?_
          refine c_skip (x_blk (x_then (hK14 _ _ ?_)))
          clear hK14 K14
          refine c_reg ?_ -- region 15 check.go:66
          refine wl (ro_adT (m := i) (k := 1) rfl rfl (by omega)) ?_
          refine wl (ro_move rfl) ?_
          refine wl_nil (x_then ?_)
          refine ⟨m.R.arr.length - (i + 1), by omega, i + 1, Gup G p, rfl, by omega, fun x => ?_, h6, FF.blkO h4 (by omega), hF, kp _ ⟨rfl, rfl, rfl, rfl, rfl, rfl, rfl, trivial⟩⟩
          rw [List.take_add_one, hpp, List.mem_append]
          unfold Gup
          by_cases hq : x = p
          · simp [hq]
          · rw [if_neg hq, hG x]
            simp
            exact fun q => absurd q hq
        · try simp only [decide_eq_true_eq, decide_eq_false_iff_not, Bool.not_eq_true', Bool.not_eq_false', Bool.not_eq_eq_eq_not, Bool.not_true, Bool.not_false, beq_iff_eq, bne_iff_ne, ne_eq, beq_eq_false_iff_ne, bne_eq_false_iff_eq, gt_iff_lt, ge_iff_le, Int.not_lt, Int.not_le] at hc103
          refine c_exit (x_thenX (x_thenX (x_blkX (x_then (hK10 _ _ ?_)))))
          clear hK13 K13 hK10 K10
          refine c_seq (fun K18 hK18 => ?_)
          refine c_seq (fun K19 hK19 => ?_)
          refine c_reg ?_ -- region 16 check.go:72
          refine wl (ro_move rfl) ?_
          refine wl (ro_nilCheck rfl) ?_
          refine wl (ro_fieldAddr (k := 2) rfl fo_251_2) ?_
          refine wl (ro_loadB rfl sc_248 (hA) ((row_cell3 (j := 2) hl rfl))) ?_
          refine wle (eo_range (kt := 117) (et := 21) rfl (by kernel_rfl) (hCn.fram hF (fun h => h))) ?_
          have hsz0 := hF.size
          have G1 : Fram none' u1 (u1.alloc (.mapIter (some m.mn) clkn #[] clkn)) := Fram.alloc _ _ _
          have hI0 : ItAt (u1.alloc (.mapIter (some m.mn) clkn #[] clkn)).heap u1.heap.size m.mn clkn #[] clkn := heap_alloc_new u1 _
          have hb4l := h4.lt
          have hb6l := h6.lt
          replace hF := hF.thenN G1
          replace h4 := G1.blkN h4
          replace h6 := G1.blkN h6
          refine wl_nil (x_then (hK19 _ _ ?_))
          clear hK19 K19
          refine c_block ?_
          -- loop@r17: live slots [0, 4, 5, 6, 100, 101, 102, 103, 121, 122, 123, 124, 125]
          refine c_loopG (fun n a' w' => ∃ seen G ri, n = uns bsn seen ∧ GI (m.R.arr) (ln.map (·.2)) bsn seen G ∧ ItAt w'.heap ri m.mn clkn seen clkn ∧ w.heap.size ≤ ri ∧ ri ≠ b6 ∧ ri ≠ b4 ∧ Blk w'.heap b6 (seenC G) 425 ∧ Blk w'.heap b4 [.bool false] 4 ∧ Fram none' w w' ∧ ∃ e, a' = Fr 249 (upds e [(0, ptr xb), (4, ptr b4), (5, ptrAt ab (0 + h * 6)), (6, ptr b6), (125, ptr ri)]) []) (uns bsn #[]) ⟨#[], G, u1.heap.size, rfl, .start (fun p => by rw [hG p, List.take_of_length_le (by omega)]), hI0, by omega, by omega, by omega, h6, h4, hF, kp _ ⟨rfl, rfl, rfl, rfl, rfl, trivial⟩⟩ ?_
          clear h6 h4 hF hX hA hI0 G1
          rintro n a' u1 ⟨seen, G, ri, rfl, hSw, hIt, hri, hrib, hri4, h6, h4, hF, e, rfl⟩
          have hX := hF.blkN hX0
          have hA := hF.blkN hA0
          have hC := hCn.fram hF (fun h => h)
          refine c_seq (fun K20 hK20 => ?_)
          refine c_reg ?_ -- region 17 check.go:72
          refine wl_next rfl hC hIt (fun hall => ?_) (fun j k v bb u2 hj hbj hns hIt2 G2 => ?_)
          · skip
            have hdn := hSw.done hbn hall
            refine wl (ro_extract rfl rfl) ?_
            refine wl_nil (x_then (hK20 _ _ ?_))
            clear hK20 K20
            refine forget [(0, _), (4, _), (5, _), (6, _), (125, _), (126, _), (127, _)] ⟨rfl, rfl, rfl, rfl, rfl, rfl, rfl, trivial⟩ (fun e => ?_)
            refine c_seq (fun K21 hK21 => ?_)
            refine wc_condF rfl ?_
            refine c_exit (x_thenX (x_thenX (x_blkX (x_then (hK18 _ _ ?_)))))
            clear hK21 K21 hK18 K18
            refine c_seq (fun K22 hK22 => ?_)
            refine c_seq (fun K23 hK23 => ?_)
            refine c_reg ?_ -- region 26 check.go:84
            refine wl (ro_move rfl) ?_
            refine wl (ro_nilCheck rfl) ?_
            refine wl (ro_fieldAddr (k := 3) rfl fo_251_3) ?_
            refine wl (ro_loadB rfl sc_249 (hA) ((row_cell3 (j := 3) hl rfl))) ?_
            refine wle (eo_range (kt := 9) (et := 21) rfl (by kernel_rfl) (hCs.fram hF (fun h => h))) ?_
            have hsz0 := hF.size
            have G1 : Fram none' u1 (u1.alloc (.mapIter (some m.ms) clks #[] clks)) := Fram.alloc _ _ _
            have hI0 : ItAt (u1.alloc (.mapIter (some m.ms) clks #[] clks)).heap u1.heap.size m.ms clks #[] clks := heap_alloc_new u1 _
            have hb4l := h4.lt
            have hb6l := h6.lt
            replace hF := hF.thenN G1
            replace h4 := G1.blkN h4
            replace h6 := G1.blkN h6
            refine wl_nil (x_then (hK23 _ _ ?_))
            clear hK23 K23
            refine c_block ?_
            -- loop@r27: live slots [0, 4, 5, 6, 125, 126, 127, 171, 172, 173, 174, 175]
            refine c_loopG (fun n a' w' => ∃ seen G ri, n = uns bss seen ∧ GI (m.R.arr ++ ln.map (·.2)) (ls.map (·.2)) bss seen G ∧ ItAt w'.heap ri m.ms clks seen clks ∧ w.heap.size ≤ ri ∧ ri ≠ b6 ∧ ri ≠ b4 ∧ Blk w'.heap b6 (seenC G) 425 ∧ Blk w'.heap b4 [.bool false] 4 ∧ Fram none' w w' ∧ ∃ e, a' = Fr 249 (upds e [(0, ptr xb), (4, ptr b4), (5, ptrAt ab (0 + h * 6)), (6, ptr b6), (175, ptr ri)]) []) (uns bss #[]) ⟨#[], G, u1.heap.size, rfl, .start hdn, hI0, by omega, by omega, by omega, h6, h4, hF, kp _ ⟨rfl, rfl, rfl, rfl, rfl, trivial⟩⟩ ?_
            clear h6 h4 hF hX hA hI0 G1
            rintro n a' u1 ⟨seen, G, ri, rfl, hSw, hIt, hri, hrib, hri4, h6, h4, hF, e, rfl⟩
            have hX := hF.blkN hX0
            have hA := hF.blkN hA0
            have hC := hCs.fram hF (fun h => h)
            refine c_seq (fun K24 hK24 => ?_)
            refine c_reg ?_ -- region 27 check.go:84
            refine wl_next rfl hC hIt (fun hall => ?_) (fun j k v bb u2 hj hbj hns hIt2 G2 => ?_)
            · skip
              have hdn := hSw.done hbs hall
              refine wl (ro_extract rfl rfl) ?_
              refine wl_nil (x_then (hK24 _ _ ?_))
              clear hK24 K24
              refine forget [(0, _), (4, _), (5, _), (6, _), (175, _), (176, _), (177, _)] ⟨rfl, rfl, rfl, rfl, rfl, rfl, rfl, trivial⟩ (fun e => ?_)
              refine c_seq (fun K25 hK25 => ?_)
              refine wc_condF rfl ?_
              refine c_exit (x_thenX (x_thenX (x_blkX (x_then (hK22 _ _ ?_)))))
              clear hK25 K25 hK22 K22
              refine c_seq (fun K26 hK26 => ?_)
              refine c_seq (fun K27 hK27 => ?_)
              refine c_reg ?_ -- region 31 check.go:89
              refine wl (ro_move rfl) ?_
              refine wl (ro_nilCheck rfl) ?_
              refine wl (ro_fieldAddr (k := 4) rfl fo_251_4) ?_
              refine wl (ro_loadB rfl sc_248 (hA) ((row_cell3 (j := 4) hl rfl))) ?_
              refine wle (eo_range (kt := 117) (et := 21) rfl (by kernel_rfl) (hCr.fram hF (fun h => h))) ?_
              have hsz0 := hF.size
              have G1 : Fram none' u1 (u1.alloc (.mapIter (some m.mr) clkr #[] clkr)) := Fram.alloc _ _ _
              have hI0 : ItAt (u1.alloc (.mapIter (some m.mr) clkr #[] clkr)).heap u1.heap.size m.mr clkr #[] clkr := heap_alloc_new u1 _
              have hb4l := h4.lt
              have hb6l := h6.lt
              replace hF := hF.thenN G1
              replace h4 := G1.blkN h4
              replace h6 := G1.blkN h6
              refine wl_nil (x_then (hK27 _ _ ?_))
              clear hK27 K27
              refine c_block ?_
              -- loop@r32: live slots [0, 4, 5, 6, 175, 176, 177, 187, 188, 189, 190, 191]
              refine c_loopG (fun n a' w' => ∃ seen G ri, n = uns bsr seen ∧ GI (m.R.arr ++ ln.map (·.2) ++ ls.map (·.2)) (lr.map (·.2)) bsr seen G ∧ ItAt w'.heap ri m.mr clkr seen clkr ∧ w.heap.size ≤ ri ∧ ri ≠ b6 ∧ ri ≠ b4 ∧ Blk w'.heap b6 (seenC G) 425 ∧ Blk w'.heap b4 [.bool false] 4 ∧ Fram none' w w' ∧ ∃ e, a' = Fr 249 (upds e [(0, ptr xb), (4, ptr b4), (5, ptrAt ab (0 + h * 6)), (6, ptr b6), (191, ptr ri)]) []) (uns bsr #[]) ⟨#[], G, u1.heap.size, rfl, .start hdn, hI0, by omega, by omega, by omega, h6, h4, hF, kp _ ⟨rfl, rfl, rfl, rfl, rfl, trivial⟩⟩ ?_
              clear h6 h4 hF hX hA hI0 G1
              rintro n a' u1 ⟨seen, G, ri, rfl, hSw, hIt, hri, hrib, hri4, h6, h4, hF, e, rfl⟩
              have hX := hF.blkN hX0
              have hA := hF.blkN hA0
              have hC := hCr.fram hF (fun h => h)
              refine c_seq (fun K28 hK28 => ?_)
              refine c_reg ?_ -- region 32 check.go:89
              refine wl_next rfl hC hIt (fun hall => ?_) (fun j k v bb u2 hj hbj hns hIt2 G2 => ?_)
              · skip
                have hdn := hSw.done hbr hall
                refine wl (ro_extract rfl rfl) ?_
                refine wl_nil (x_then (hK28 _ _ ?_))
                clear hK28 K28
                refine forget [(0, _), (4, _), (5, _), (6, _), (191, _), (192, _), (193, _)] ⟨rfl, rfl, rfl, rfl, rfl, rfl, rfl, trivial⟩ (fun e => ?_)
                refine c_seq (fun K29 hK29 => ?_)
                refine wc_condF rfl ?_
                refine c_exit (x_thenX (x_thenX (x_blkX (x_then (hK26 _ _ ?_)))))
                clear hK29 K29 hK26 K26
                refine forget [(0, _), (4, _), (5, _), (6, _), (191, _), (192, _), (193, _)] ⟨rfl, rfl, rfl, rfl, rfl, rfl, rfl, trivial⟩ (fun e => ?_)
                refine c_seq (fun K30 hK30 => ?_)
                refine c_reg ?_ -- region 39 check.go:98
                refine wl_new (ze_3) (fun b19 w3 hbb19 h19 F3 => ?_)
                have hbsb19 := Nat.le_trans hF.size hbb19
                have hnexbb19 : xb < b19 := Nat.lt_of_lt_of_le hX.lt hbb19
                have hneabb19 : ab < b19 := Nat.lt_of_lt_of_le hA.lt hbb19
                have hneb4b19 : b4 < b19 := Nat.lt_of_lt_of_le h4.lt hbb19
                have hneb6b19 : b6 < b19 := Nat.lt_of_lt_of_le h6.lt hbb19
                replace hF := hF.thenDrew.thenN F3
                replace hX := F3.blkN hX
                replace hA := F3.blkN hA
                replace h4 := F3.blkN h4
                replace h6 := F3.blkN h6
                refine wl_put rfl rfl rfl sz_3 h19 (by simp) (rfl) (fun w4 h19 F4 => ?_)
                replace hF := hF.thenDrew.thenO F4 (by first | exact .inr (by omega) | exact .inl rfl | exact .inl (by assumption) | assumption)
                replace hX := F4.blkO hX (by omega)
                replace hA := F4.blkO hA (by omega)
                replace h4 := F4.blkO h4 (by omega)
                replace h6 := F4.blkO h6 (by omega)
                refine wl_nil (x_then (hK30 _ _ ?_))
                clear hK30 K30
                refine c_seq (fun K31 hK31 => ?_)
                refine c_seq (fun K32 hK32 => ?_)
                refine c_reg ?_ -- region 40 check.go:99
                refine wl (ro_move rfl) ?_
                refine wl_call rfl en_278 (placesT278 (fr := 0)) ?_
                rintro _ w5 ⟨⟨c1, c2, c3, rfl, hc1, hc2, hc3, z1, z2, z3⟩, F5⟩
                replace hF := hF.thenDrew.thenN F5
                replace hX := F5.blkN hX
                replace hA := F5.blkN hA
                replace h4 := F5.blkN h4
                replace h6 := F5.blkN h6
                replace h19 := F5.blkN h19
                refine wl_nil (x_then (hK32 _ _ ?_))
                clear hK32 K32
                refine c_block ?_
                have hzw := hF.size
                have hA := hF.blkN hA0
                have hlt19 := h19.lt
                refine ⟨wpIn_wide.1 (wpIn_rangeFunc_ownH (n := 3) (F := Fence.wide) rfl (by omega) (gf := 295) (lb := #[ptr c1, ptr c2, ptr c3]) (evO_eval rfl) trivial en_295
                  (places_all (g := go) (lo := lo) h19 hc1 hc2 hc3 hA hl hI.ok hvo (fun i x hx => ⟨(hOx i x hx).1, hF.blkN (hOx i x hx).2.1, (hOx i x hx).2.2⟩) rfl) BX.trans (fun _ _ _ _ hl _ _ _ => BX.put hl) (Go.RowKit.Below.refl _ _) (fun _ => rfl)
                  (cmI w5.heap.size w b4 b19) cmX ?hI ?hIx ⟨⟨Nat.le_refl _, Nat.zero_le _⟩, hF, h4, h19⟩ (cmA b4 b19) ?hAx ?assign ?body ?done ?stop)⟩
                case hI => exact fun s X Y row hs hg hr => ⟨⟨Nat.le_trans hs.1.1 hg.size, hs.1.2⟩, own_fram hs.2.1 hg hr hzw, own_blk hs.2.2.1 hg hr, own_blk hs.2.2.2 hg hr⟩
                case hIx => exact fun c s X Y row hx hg hr => hx
                case hAx => exact fun x a' _ X Y row ⟨b, r1, r2⟩ hg hr => ⟨b, own_blk r1 hg hr, r2⟩
                case assign =>
                  intro ly pre x W K hi hK
                  rw [show encM m.R.ord x = #[i64c x.1.1, .agg (enc x.1.2).toArray] from rfl, fold2]
                  refine i_reg (by decide) (fun ⟨_, _, q⟩ => q) ?_
                  refine wl_new ze_263 (fun b u hb hB F1 => ?_)
                  refine wl_puta rfl rfl (enc_one _) sz_263 rfl hB (by simp) rfl (fun u2 hB2 F2 => ?_)
                  have F3 : Fram none' W u2 := ⟨F2.os.trans F1.os, F2.tape.trans F1.tape, F2.output.trans F1.output, Nat.le_trans F1.size F2.size, fun k hk _ => (F2.block k (by have := F1.size; omega) (fun q => by have : k = b := q; omega)).trans (F1.block k hk (fun h => h))⟩
                  refine wl_nil (x_then (hK _ _ ?_ (.of (F3.blw _ ?_)) ⟨⟨Nat.le_trans hi.1.1 F3.size, hi.1.2⟩, hi.2.1.trans F3, F3.blkN hi.2.2.1, F3.blkN hi.2.2.2⟩ ⟨b, hB2, kp _ ⟨rfl, rfl, rfl, trivial⟩⟩))
                  · exact ⟨F3.size, fun k o _ hk ho => by rw [F3.block k (Array.getElem?_eq_some_iff.1 hk).1 (fun h => h)]; exact hk⟩
                  · exact hi.1.1
                case body =>
                  rintro ly pre ⟨⟨pp, kx, vx⟩, hxm⟩ a' W hly _ ⟨hs0, hFi, r4, r19⟩ ⟨b, hB, ei, rfl⟩ hp50
                  have hG : Fram none' W W := Fram.refl _ _
                  have hd50 : deadP pre ≤ pre.length := by unfold deadP; exact Nat.le_trans (List.length_filter_le _ _) (by rw [List.length_map]; exact Nat.le_refl _)
                  obtain ⟨ix, hix⟩ := List.getElem?_of_mem hxm
                  obtain ⟨wk, wv, kT, -⟩ := hI.ok.key ix kx vx hix
                  have nB : b19 ≠ b := Blk.ne_ty r19 hB (by decide)
                  have hB : Blk W.heap b (enc (kx, vx)) 263 := hB
                  refine wpIn_block (wpIn_seq_k fun K hK => ?_)
                  refine i_reg (by decide) (fun ⟨_, _, q⟩ => q) ?_
                  refine wl (ro_fieldAddr (k := 0) rfl fo_263_0) ?_
                  refine wl (ro_loadAggB rfl ag_119 hB rfl rfl) ?_
                  refine wl_call rfl en_51 (WF51w wk) ?_
                  rintro _ u1 ⟨rfl, F1⟩
                  replace hB := F1.blkN hB
                  replace r4 := F1.blkN r4
                  replace r19 := F1.blkN r19
                  replace hFi := hFi.thenDrew.thenN F1
                  replace hG := hG.thenDrew.thenN F1
                  refine wl (ro_assign rfl) ?_
                  refine wl_nil (x_then (hK _ _ ?_))
                  clear hK K
                  refine wpIn_seq_k fun K hK => ?_
                  refine i_reg (by decide) (fun ⟨_, _, q⟩ => q) ?_
                  refine wl (ro_fieldAddr (k := 3) rfl fo_263_1) ?_
                  refine wl (ro_loadAggB rfl ag_119 hB rfl rfl) ?_
                  refine wl_call rfl en_51 (WF51w wv) ?_
                  rintro _ u2 ⟨rfl, F2⟩
                  replace hB := F2.blkN hB
                  replace r4 := F2.blkN r4
                  replace r19 := F2.blkN r19
                  replace hFi := hFi.thenDrew.thenN F2
                  replace hG := hG.thenDrew.thenN F2
                  refine wl (ro_assign rfl) ?_
                  refine wl_nil (x_then (hK _ _ ?_))
                  clear hK K
                  refine wpIn_seq_k fun K hK => ?_
                  refine wpIn_seq_k fun K2 hK2 => ?_
                  refine i_reg (by decide) (fun ⟨_, _, q⟩ => q) ?_
                  refine wl (ro_move rfl) ?_
                  refine wl (ro_not rfl) ?_
                  refine wl (ro_move rfl) ?_
                  refine wlg_yes rfl (ro_move rfl) ?_
                  refine wlg_yes rfl (ro_not rfl) ?_
                  refine wl (ro_pick rfl rfl rfl) ?_
                  refine wl (ro_move rfl) ?_
                  refine wlg_yes rfl (ro_fieldAddr (k := 0) rfl fo_263_0) ?_
                  refine wlg_yes rfl (ro_loadAggB rfl ag_119 hB rfl rfl) ?_
                  refine wlg_call rfl rfl en_146 (isNil146 (v := kx)) ?_
                  rintro _ u3 ⟨rfl, F3⟩
                  rw [eqV_nil wk, decide_eq_false kT]
                  replace hB := F3.blkN hB
                  replace r4 := F3.blkN r4
                  replace r19 := F3.blkN r19
                  replace hFi := hFi.thenDrew.thenN F3
                  replace hG := hG.thenDrew.thenN F3
                  refine wl (ro_pick rfl rfl rfl) ?_
                  refine wl_nil (x_then (hK2 _ _ ?_))
                  refine wpIn_cond_false (evO_eval rfl) (wpIn_skip (x_then (hK _ _ ?_)))
                  clear hK K hK2 K2
                  refine wpIn_seq_k fun K hK => ?_
                  refine i_reg (by decide) (fun ⟨_, _, q⟩ => q) ?_
                  refine wl (ro_fieldAddr (k := 3) rfl fo_263_1) ?_
                  refine wl (ro_loadAggB rfl ag_119 hB rfl rfl) ?_
                  refine wl_call rfl en_146 (isNil146 (v := vx)) ?_
                  rintro _ u4 ⟨rfl, F4⟩
                  rw [eqV_nil wv]
                  replace hB := F4.blkN hB
                  replace r4 := F4.blkN r4
                  replace r19 := F4.blkN r19
                  replace hFi := hFi.thenDrew.thenN F4
                  replace hG := hG.thenDrew.thenN F4
                  refine wl_nil (x_then (hK _ _ ?_))
                  clear hK K
                  by_cases hvT : vx.T = 0
                  · refine wpIn_cond_true (by rw [decide_eq_true hvT]; exact evO_eval rfl) ?_
                    refine i_reg (by decide) (fun ⟨_, _, q⟩ => q) ?_
                    refine wl (ro_loadB rfl sc_3 r19 rfl) ?_
                    refine wl (ro_adT (m := deadP pre) (k := 1) rfl rfl (by omega)) ?_
                    refine wl_put rfl rfl rfl sz_3 r19 (by simp) rfl (fun u5 r19' F5 => ?_)
                    have hb19W : b19 < W.heap.size := Nat.lt_of_lt_of_le hlt19 hs0.1
                    have F6 : Fram (one b19) W u5 := ⟨F5.os.trans hG.os, F5.tape.trans hG.tape, F5.output.trans hG.output, Nat.le_trans hG.size F5.size, fun k hk hn => (F5.block k (Nat.lt_of_lt_of_le hk hG.size) hn).trans (hG.block k hk (fun h => h))⟩
                    refine wl_nil ?_
                    refine ⟨⟨F6.size, fun k o hk1 hk ho => ?_⟩, ⟨F6.os, F6.tape, F6.output, F6.size, fun k hk hn => F6.block k (Nat.lt_of_lt_of_le hk hs0.1) hn⟩, ⟨Nat.le_trans hs0.1 F6.size, by rw [List.length_append, List.length_singleton]; omega⟩, hFi.thenO F5 (.inr (by omega)), F5.blkO r4 (by omega), ?_⟩
                    · rw [F6.block k (Array.getElem?_eq_some_iff.1 hk).1 (fun q => by have q : k = b19 := q; omega)]
                      exact hk
                    · have e9 : deadP (pre ++ [⟨(pp, kx, vx), hxm⟩]) = deadP pre + 1 := by simp [deadP, hvT]
                      rw [e9]
                      exact r19'
                  · refine wpIn_cond_false (by rw [decide_eq_false hvT]; exact evO_eval rfl) (wpIn_skip ?_)
                    have e9 : deadP (pre ++ [⟨(pp, kx, vx), hxm⟩]) = deadP pre := by simp [deadP, hvT]
                    refine ⟨⟨hG.size, fun k o _ hk ho => ?_⟩, .of (hG.blw _ hs0.1), ⟨Nat.le_trans hs0.1 hG.size, by rw [List.length_append, List.length_singleton]; omega⟩, hFi, r4, by rw [e9]; exact r19⟩
                    rw [hG.block k (Array.getElem?_eq_some_iff.1 hk).1 (fun h => h)]
                    exact hk
                case stop =>
                  rintro D c pre W hD hSp q hdf
                  exact q.elim
                rintro D xs W hD hSx ⟨hs0, hF, h4, h19⟩ hdf
                rw [fr_def]
                have hDn : ∀ b l t, Blk W.heap b l t → D ≠ b := fun b l t hB q => by subst q; unfold Blk at hB; rw [hB] at hdf; cases hdf
                have d4 := hDn _ _ _ h4
                have d19 := hDn _ _ _ h19
                have hDl := (Array.getElem?_eq_some_iff.1 hdf).1
                have hA := hF.blkN hA0
                have hW : Fram (fun c => c = b4) W W := Fram.refl _ _
                have m4 : b4 = b4 := rfl
                have hdd : deadP xs = m.R.dead := by unfold deadP; rw [hI.deadI]; have hSx : xs.map (fun x => x.1.2) = m.R.ord := hSx; rw [hSx]
                clear hX h6
                refine x_blk (x_then (hK31 _ _ ?_))
                clear hK31 K31
                refine forget [(4, _), (5, _), (19, _)] ⟨rfl, rfl, rfl, trivial⟩ (fun e => ?_)
                refine c_seq (fun K33 hK33 => ?_)
                refine c_piL 6 [(0, false), (1, false), (2, false), (3, false), (4, false), (5, false)] (fun u => Blk u.heap ab l 251 ∧ Blk u.heap b19 [i64c (deadP xs)] 3) mixed (by kernel_rfl) rfl (by kernel_rfl) (po_then (po_np)) (⟨hA, h19⟩) ?_ -- region 48 check.go:109
                refine ql_ro rfl (fun w hS => ro_loadB rfl sc_3 (hS.2) rfl) ?_
                refine ql_ro rfl (fun w hS => ro_move rfl) ?_
                refine ql_ro rfl (fun w hS => ro_nilCheck rfl) ?_
                refine ql_ro rfl (fun w hS => ro_fieldAddr (k := 5) rfl fo_251_5) ?_
                refine ql_ro rfl (fun w hS => ro_loadB rfl sc_3 (hS.1) ((row_cell3 (j := 5) hl rfl))) ?_
                refine ql_ro rfl (fun w hS => ro_cmp (r := true) rfl rfl (congrArg some (by rw [hdd]; simp))) ?_
                refine ql_put rfl rfl rfl rfl sz_4 h4 (by simp) (rfl) (fun w6 h4 F6 => ?_)
                replace hF := hF.thenDrew.thenO F6 (by first | exact .inr (by omega) | exact .inl rfl | exact .inl (by assumption) | assumption)
                replace hA := F6.blkO hA (by omega)
                replace h19 := F6.blkO h19 (by omega)
                replace hW := hW.thenDrew.thenO F6 (by first | exact .inr (by omega) | exact .inl rfl | exact .inl (by assumption) | assumption)
                refine x_then (hK33 _ _ ?_)
                clear hK33 K33
                refine c_ret ?_
                have hdf2 := (hW.block D hDl (fun q => by have q : D = b4 := q; omega)).trans hdf
                refine bpm_retD hdf2 (res_s Tryz.results248 rfl sc_4 ((Fram.putO hdf2).blkO h4 (Ne.symm d4))) ⟨rfl, hF.trans' (Fram.putO hdf2) (fun c hc q => by have : c = D := q; omega)⟩
              · skip
                obtain ⟨p, hjp, rfl, hjp2⟩ := ent_of hj
                have hkn := (r2 k p).2 (List.mem_of_getElem? hjp)
                obtain ⟨kk, v, hv, t0, t2, t3, rfl⟩ := (hI.refI k p).1 hkn
                obtain ⟨w1, -⟩ := hI.ok.key p _ _ hv
                obtain ⟨bT, bN, bS⟩ := ref_bd w1 ⟨t2, t3⟩
                have hpl := (List.getElem?_eq_some_iff.1 hv).1
                obtain ⟨ea1, hOb, hxr⟩ := hOx p _ hv
                have hGp := hSw.no hnd3 hCr.nd hbj hns hjp2
                have hst := hSw.step hCr.nd hbj hjp2
                replace hX := hX.fram G2 (fun h => by have : xb = ri := h; omega)
                replace hA := hA.fram G2 (fun h => by have : ab = ri := h; omega)
                replace h4 := h4.fram G2 (fun h => by have : b4 = ri := h; omega)
                replace h6 := h6.fram G2 (fun h => by have : b6 = ri := h; omega)
                replace hC := hC.fram G2 (fun h => by have : m.mr = ri := h; omega)
                replace hF := hF.trans' G2 (fun k hk h => by have : k = ri := h; omega)
                replace hOb := hF.blkN hOb
                have hun := uns_lt (List.mem_of_getElem? hbj) hns
                refine wl (ro_extract rfl rfl) ?_
                refine wl_nil (x_then (hK28 _ _ ?_))
                clear hK28 K28
                refine forget [(0, _), (4, _), (5, _), (6, _), (191, _), (192, _), (193, _)] ⟨rfl, rfl, rfl, rfl, rfl, rfl, rfl, trivial⟩ (fun e => ?_)
                refine c_seq (fun K34 hK34 => ?_)
                refine wc_condT rfl ?_
                refine c_skip (x_then (hK34 _ _ ?_))
                clear hK34 K34
                refine c_block ?_
                refine forget [(0, _), (4, _), (5, _), (6, _), (191, _)] ⟨rfl, rfl, rfl, rfl, rfl, trivial⟩ (fun e => ?_)
                refine c_seq (fun K35 hK35 => ?_)
                refine c_reg ?_ -- region 33 check.go:89
                refine wl (ro_entry rfl hC hIt2 hj hbj) ?_
                refine wl (ro_extract rfl rfl) ?_
                refine wl (ro_extract rfl rfl) ?_
                refine wl (ro_assign rfl) ?_
                refine wl (ro_assign rfl) ?_
                refine wl_nil (x_then (hK35 _ _ ?_))
                clear hK35 K35
                refine forget [(0, _), (4, _), (5, _), (6, _), (16, _), (17, _), (191, _), (194, _), (195, _), (196, _)] ⟨rfl, rfl, rfl, rfl, rfl, rfl, rfl, rfl, rfl, rfl, trivial⟩ (fun e => ?_)
                refine c_seq (fun K36 hK36 => ?_)
                refine c_reg ?_ -- region 34 check.go:90
                refine wl (ro_move rfl) ?_
                refine wl_call rfl en_277 (unpack277 bT bN bS) ?_
                rintro _ u8 ⟨rfl, FN⟩
                replace hF := hF.thenN FN
                replace hX := FN.blkN hX
                replace hA := FN.blkN hA
                replace h4 := FN.blkN h4
                replace h6 := FN.blkN h6
                replace hIt2 := hIt2.fram FN (fun h => h)
                replace hOb := FN.blkN hOb
                have hN9 : Fram none' u8 u8 := Fram.refl _ _
                refine wl_new (ze_119) (fun b18 w7 hbb18 h18 F7 => ?_)
                have hbsb18 := Nat.le_trans hF.size hbb18
                have hnexbb18 : xb < b18 := Nat.lt_of_lt_of_le hX.lt hbb18
                have hneabb18 : ab < b18 := Nat.lt_of_lt_of_le hA.lt hbb18
                have hneb4b18 : b4 < b18 := Nat.lt_of_lt_of_le h4.lt hbb18
                have hneb6b18 : b6 < b18 := Nat.lt_of_lt_of_le h6.lt hbb18
                have hbsb18 := Nat.le_trans hN9.size hbb18
                replace hF := hF.thenDrew.thenN F7
                replace hX := F7.blkN hX
                replace hA := F7.blkN hA
                replace h4 := F7.blkN h4
                replace h6 := F7.blkN h6
                replace hN9 := hN9.thenDrew.thenN F7
                refine wl_puta rfl rfl ((pvc_one kk)) sz_119 (rfl) h18 ((by simp)) (rfl) (fun w8 h18 F8 => ?_)
                replace hF := hF.thenDrew.thenO F8 (by first | exact .inr (by omega) | exact .inl rfl | exact .inl (by assumption) | assumption)
                replace hX := F8.blkO hX (by omega)
                replace hA := F8.blkO hA (by omega)
                replace h4 := F8.blkO h4 (by omega)
                replace h6 := F8.blkO h6 (by omega)
                replace hN9 := hN9.thenDrew.thenO F8 (by first | exact .inr (by omega) | exact .inl rfl | exact .inl (by assumption) | assumption)
                refine wl_nil (x_then (hK36 _ _ ?_))
                clear hK36 K36
                refine c_seq (fun K37 hK37 => ?_)
                refine c_seq (fun K38 hK38 => ?_)
                refine c_reg ?_ -- region 35 check.go:91
                refine wl (ro_fieldAddr (k := 0) rfl fo_119_0) ?_
                refine wl (ro_loadB rfl sc_3 (h18) rfl) ?_
                refine wl (ro_cmp rfl rfl rfl) ?_
                refine wl_fork rfl (fun hg202 => ?_) (fun hg202 => ?_)
                · try simp only [decide_eq_true_eq, decide_eq_false_iff_not, Bool.not_eq_true', Bool.not_eq_false', Bool.not_eq_eq_eq_not, Bool.not_true, Bool.not_false, beq_iff_eq, bne_iff_ne, ne_eq, beq_eq_false_iff_ne, bne_eq_false_iff_eq, gt_iff_lt, ge_iff_le, Int.not_lt, Int.not_le] at hg202
                  exfalso; omega
                · try simp only [decide_eq_true_eq, decide_eq_false_iff_not, Bool.not_eq_true', Bool.not_eq_false', Bool.not_eq_eq_eq_not, Bool.not_true, Bool.not_false, beq_iff_eq, bne_iff_ne, ne_eq, beq_eq_false_iff_ne, bne_eq_false_iff_eq, gt_iff_lt, ge_iff_le, Int.not_lt, Int.not_le] at hg202
                  refine wlg_yes rfl (ro_fieldAddr (k := 0) rfl fo_119_0) ?_
                  refine wlg_yes rfl (ro_loadB rfl sc_3 (h18) rfl) ?_
                  refine wlg_yes rfl (ro_cmp rfl rfl rfl) ?_
                  refine wl (ro_pick rfl rfl rfl) ?_
                  refine wl_fork rfl (fun hg207 => ?_) (fun hg207 => ?_)
                  · try simp only [decide_eq_true_eq, decide_eq_false_iff_not, Bool.not_eq_true', Bool.not_eq_false', Bool.not_eq_eq_eq_not, Bool.not_true, Bool.not_false, beq_iff_eq, bne_iff_ne, ne_eq, beq_eq_false_iff_ne, bne_eq_false_iff_eq, gt_iff_lt, ge_iff_le, Int.not_lt, Int.not_le] at hg207
                    exfalso; omega
                  · try simp only [decide_eq_true_eq, decide_eq_false_iff_not, Bool.not_eq_true', Bool.not_eq_false', Bool.not_eq_eq_eq_not, Bool.not_true, Bool.not_false, beq_iff_eq, bne_iff_ne, ne_eq, beq_eq_false_iff_ne, bne_eq_false_iff_eq, gt_iff_lt, ge_iff_le, Int.not_lt, Int.not_le] at hg207
                    refine wlg_yes rfl (ro_fieldAddr (k := 0) rfl fo_119_0) ?_
                    refine wlg_yes rfl (ro_loadB rfl sc_3 (h18) rfl) ?_
                    refine wlg_yes rfl (ro_cmp rfl rfl rfl) ?_
                    refine wl (ro_pick rfl rfl rfl) ?_
                    refine wl_nil (x_then (hK38 _ _ ?_))
                    clear hK38 K38
                    refine wc_cond rfl (fun hc211 => ?_) (fun hc211 => ?_)
                    · try simp only [decide_eq_true_eq, decide_eq_false_iff_not, Bool.not_eq_true', Bool.not_eq_false', Bool.not_eq_eq_eq_not, Bool.not_true, Bool.not_false, beq_iff_eq, bne_iff_ne, ne_eq, beq_eq_false_iff_ne, bne_eq_false_iff_eq, gt_iff_lt, ge_iff_le, Int.not_lt, Int.not_le] at hc211
                      exfalso; omega
                    · try simp only [decide_eq_true_eq, decide_eq_false_iff_not, Bool.not_eq_true', Bool.not_eq_false', Bool.not_eq_eq_eq_not, Bool.not_true, Bool.not_false, beq_iff_eq, bne_iff_ne, ne_eq, beq_eq_false_iff_ne, bne_eq_false_iff_eq, gt_iff_lt, ge_iff_le, Int.not_lt, Int.not_le] at hc211
                      refine c_skip (x_then (hK37 _ _ ?_))
                      clear hK37 K37
                      refine forget [(0, _), (4, _), (5, _), (6, _), (16, _), (17, _), (18, _), (191, _), (194, _), (195, _), (196, _), (197, _), (198, _), (199, _), (200, _), (201, _), (202, _), (203, _), (204, _), (205, _), (206, _), (207, _), (208, _), (209, _), (210, _), (211, _)] ⟨rfl, rfl, rfl, rfl, rfl, rfl, rfl, rfl, rfl, rfl, rfl, rfl, rfl, rfl, rfl, rfl, rfl, rfl, rfl, rfl, rfl, rfl, rfl, rfl, rfl, rfl, trivial⟩ (fun e => ?_)
                      refine c_seq (fun K39 hK39 => ?_)
                      refine c_reg ?_ -- region 37 check.go:94
                      refine wl (ro_move rfl) ?_
                      refine wl (ro_move rfl) ?_
                      refine wl (ro_loadAggB rfl ag_119 (h18) (rfl) (rfl)) ?_
                      refine wl_call rfl en_276 (points276 (n := m.R.ord.length) (cap := c1') (g := go) (lo := lo) (k := kk) (v := v) hA (row_cell3 (j := 0) hl (by show some m.vo = _; rw [hvo, ea1])) (hN9.blkN hOb) hpl h32 hxr h6 hGp) ?_
                      rintro _ u9 ⟨rfl, h6, FF⟩
                      replace hF := hF.thenO FF (.inr hbsb6)
                      replace hX := FF.blkO hX (by omega)
                      replace hA := FF.blkO hA (by omega)
                      replace h4 := FF.blkO h4 (by omega)
                      replace hIt2 := (hIt2.fram hN9 (fun h => h)).fram FF (fun h => hrib h)
                      clear hN9 h18
                      refine wl (ro_not rfl) ?_
                      refine wl_nil (x_then (hK39 _ _ ?_))
                      clear hK39 K39
                      refine wc_condF rfl ?_
                      refine c_skip (x_blk (x_then ?_))
                      exact ⟨uns bsr (seen.push bb), hun, seen.push bb, _, ri, rfl, hst, hIt2, hri, hrib, hri4, h6, h4, hF, kp _ ⟨rfl, rfl, rfl, rfl, rfl, trivial⟩⟩
            · skip
              obtain ⟨p, hjp, rfl, hjp2⟩ := ent_of hj
              have hkn := (s2 k p).2 (List.mem_of_getElem? hjp)
              obtain ⟨v, hv⟩ := (hI.strI k p).1 hkn
              have hpl := (List.getElem?_eq_some_iff.1 hv).1
              obtain ⟨ea1, hOb, hxr⟩ := hOx p _ hv
              have hGp := hSw.no hnd2 hCs.nd hbj hns hjp2
              have hst := hSw.step hCs.nd hbj hjp2
              replace hX := hX.fram G2 (fun h => by have : xb = ri := h; omega)
              replace hA := hA.fram G2 (fun h => by have : ab = ri := h; omega)
              replace h4 := h4.fram G2 (fun h => by have : b4 = ri := h; omega)
              replace h6 := h6.fram G2 (fun h => by have : b6 = ri := h; omega)
              replace hC := hC.fram G2 (fun h => by have : m.ms = ri := h; omega)
              replace hF := hF.trans' G2 (fun k hk h => by have : k = ri := h; omega)
              replace hOb := hF.blkN hOb
              have hun := uns_lt (List.mem_of_getElem? hbj) hns
              refine wl (ro_extract rfl rfl) ?_
              refine wl_nil (x_then (hK24 _ _ ?_))
              clear hK24 K24
              refine forget [(0, _), (4, _), (5, _), (6, _), (175, _), (176, _), (177, _)] ⟨rfl, rfl, rfl, rfl, rfl, rfl, rfl, trivial⟩ (fun e => ?_)
              refine c_seq (fun K40 hK40 => ?_)
              refine wc_condT rfl ?_
              refine c_skip (x_then (hK40 _ _ ?_))
              clear hK40 K40
              refine c_block ?_
              refine forget [(0, _), (4, _), (5, _), (6, _), (175, _)] ⟨rfl, rfl, rfl, rfl, rfl, trivial⟩ (fun e => ?_)
              refine c_seq (fun K41 hK41 => ?_)
              refine c_reg ?_ -- region 28 check.go:84
              refine wl (ro_entry rfl hC hIt2 hj hbj) ?_
              refine wl (ro_extract rfl rfl) ?_
              refine wl (ro_extract rfl rfl) ?_
              refine wl (ro_assign rfl) ?_
              refine wl (ro_assign rfl) ?_
              refine wl_nil (x_then (hK41 _ _ ?_))
              clear hK41 K41
              refine forget [(0, _), (4, _), (5, _), (6, _), (14, _), (15, _), (175, _), (178, _), (179, _), (180, _)] ⟨rfl, rfl, rfl, rfl, rfl, rfl, rfl, rfl, rfl, rfl, trivial⟩ (fun e => ?_)
              refine c_seq (fun K42 hK42 => ?_)
              refine c_reg ?_ -- region 29 check.go:85
              refine wl (ro_move rfl) ?_
              refine wl (ro_move rfl) ?_
              refine wl (ro_move rfl) ?_
              refine wl (ro_build rfl bld_119_0_2) ?_
              refine wl_call rfl en_276 (points276 (n := m.R.ord.length) (cap := c1') (g := go) (lo := lo) (k := vStr k) (v := v) hA (row_cell3 (j := 0) hl (by show some m.vo = _; rw [hvo, ea1])) hOb hpl h32 hxr h6 hGp) ?_
              rintro _ u9 ⟨rfl, h6, FF⟩
              replace hF := hF.thenO FF (.inr hbsb6)
              replace hX := FF.blkO hX (by omega)
              replace hA := FF.blkO hA (by omega)
              replace h4 := FF.blkO h4 (by omega)
              replace hIt2 := hIt2.fram FF (fun h => hrib h)
              refine wl (ro_not rfl) ?_
              refine wl_nil (x_then (hK42 _ _ ?_))
              clear hK42 K42
              refine wc_condF rfl ?_
              refine c_skip (x_blk (x_then ?_))
              exact ⟨uns bss (seen.push bb), hun, seen.push bb, _, ri, rfl, hst, hIt2, hri, hrib, hri4, h6, h4, hF, kp _ ⟨rfl, rfl, rfl, rfl, rfl, trivial⟩⟩
          · skip
            obtain ⟨p, hjp, rfl, hjp2⟩ := ent_of hj
            have hkn := (n2 k p).2 (List.mem_of_getElem? hjp)
            obtain ⟨⟨v, hv⟩, hkf⟩ := (hI.numI k p).1 hkn
            obtain ⟨w1, w2, w3, w4, w5, hk64⟩ := hI.ok.key p _ _ hv
            have hk64 : W64 k := hk64
            have hkz : k ≠ 9223372036854775808 := fun q => by
              have w5 : nrmK (vNum k) = vNum k := w5
              rw [q] at w5
              exact absurd (congrArg PV.N w5) (by decide)
            have hkN : fCmp 2 k k = false := by rw [cmp_self]; exact w4 rfl
            have hpl := (List.getElem?_eq_some_iff.1 hv).1
            obtain ⟨ea1, hOb, hxr⟩ := hOx p _ hv
            have hGp := hSw.no hnd1 hCn.nd hbj hns hjp2
            have hst := hSw.step hCn.nd hbj hjp2
            replace hX := hX.fram G2 (fun h => by have : xb = ri := h; omega)
            replace hA := hA.fram G2 (fun h => by have : ab = ri := h; omega)
            replace h4 := h4.fram G2 (fun h => by have : b4 = ri := h; omega)
            replace h6 := h6.fram G2 (fun h => by have : b6 = ri := h; omega)
            replace hC := hC.fram G2 (fun h => by have : m.mn = ri := h; omega)
            replace hF := hF.trans' G2 (fun k hk h => by have : k = ri := h; omega)
            replace hOb := hF.blkN hOb
            have hun := uns_lt (List.mem_of_getElem? hbj) hns
            refine wl (ro_extract rfl rfl) ?_
            refine wl_nil (x_then (hK20 _ _ ?_))
            clear hK20 K20
            refine forget [(0, _), (4, _), (5, _), (6, _), (125, _), (126, _), (127, _)] ⟨rfl, rfl, rfl, rfl, rfl, rfl, rfl, trivial⟩ (fun e => ?_)
            refine c_seq (fun K43 hK43 => ?_)
            refine wc_condT rfl ?_
            refine c_skip (x_then (hK43 _ _ ?_))
            clear hK43 K43
            refine c_block ?_
            refine forget [(0, _), (4, _), (5, _), (6, _), (125, _)] ⟨rfl, rfl, rfl, rfl, rfl, trivial⟩ (fun e => ?_)
            refine c_seq (fun K44 hK44 => ?_)
            refine c_reg ?_ -- region 18 check.go:72
            refine wl (ro_entry rfl hC hIt2 hj hbj) ?_
            refine wl (ro_extract rfl rfl) ?_
            refine wl (ro_extract rfl rfl) ?_
            refine wl (ro_assign rfl) ?_
            refine wl (ro_assign rfl) ?_
            refine wl_nil (x_then (hK44 _ _ ?_))
            clear hK44 K44
            refine c_seq (fun K45 hK45 => ?_)
            refine c_seq (fun K46 hK46 => ?_)
            refine c_reg ?_ -- region 19 check.go:73
            refine wl (ro_move rfl) ?_
            refine wl (ro_move rfl) ?_
            refine wl (ro_move rfl) ?_
            refine wl (ro_build rfl bld_119_0_1) ?_
            refine wl_call rfl en_276 (points276 (n := m.R.ord.length) (cap := c1') (g := go) (lo := lo) (k := vNum k) (v := v) hA (row_cell3 (j := 0) hl (by show some m.vo = _; rw [hvo, ea1])) hOb hpl h32 hxr h6 hGp) ?_
            rintro _ u9 ⟨rfl, h6, FF⟩
            replace hF := hF.thenO FF (.inr hbsb6)
            replace hX := FF.blkO hX (by omega)
            replace hA := FF.blkO hA (by omega)
            replace h4 := FF.blkO h4 (by omega)
            replace hIt2 := hIt2.fram FF (fun h => hrib h)
            refine wl (ro_not rfl) ?_
            refine wl_nil (x_then (hK46 _ _ ?_))
            clear hK46 K46
            refine wc_condF rfl ?_
            refine c_skip (x_then (hK45 _ _ ?_))
            clear hK45 K45
            refine c_seq (fun K47 hK47 => ?_)
            refine c_seq (fun K48 hK48 => ?_)
            refine c_reg ?_ -- region 21 check.go:76
            refine wl (ro_move rfl) ?_
            refine wl (ro_cmp (r := false) rfl rfl (congrArg some (by simp; omega))) ?_
            refine wl (ro_move rfl) ?_
            refine wlg_yes rfl (ro_move rfl) ?_
            refine wlg_yes rfl (ro_nilCheck rfl) ?_
            refine wlg_yes rfl (ro_fieldAddr (k := 0) rfl fo_75_0) ?_
            refine wlg_yes rfl (ro_loadB rfl sc_36 (hX) rfl) ?_
            refine wlg_yes rfl (ro_move rfl) ?_
            refine wlg_yes rfl (ro_move rfl) ?_
            refine wlg_call rfl rfl en_142 (Cmp142 (op := 2) hk64 hk64) ?_
            rintro _ _ ⟨rfl, rfl⟩
            rw [hkN]
            refine wl (ro_pick rfl rfl rfl) ?_
            refine wl_nil (x_then (hK48 _ _ ?_))
            clear hK48 K48
            refine wc_condF rfl ?_
            refine c_skip (x_then (hK47 _ _ ?_))
            clear hK47 K47
            refine forget [(0, _), (4, _), (5, _), (6, _), (10, _), (11, _), (125, _), (128, _), (129, _), (130, _), (131, _), (132, _), (133, _), (134, _), (135, _), (136, _), (137, _), (138, _), (139, _), (140, _), (141, _), (142, _), (143, _), (144, _), (145, _), (146, _), (147, _)] ⟨rfl, rfl, rfl, rfl, rfl, rfl, rfl, rfl, rfl, rfl, rfl, rfl, rfl, rfl, rfl, rfl, rfl, rfl, rfl, rfl, rfl, rfl, rfl, rfl, rfl, rfl, rfl, trivial⟩ (fun e => ?_)
            refine c_seq (fun K49 hK49 => ?_)
            refine c_reg ?_ -- region 23 check.go:79
            refine wl (ro_move rfl) ?_
            refine wl (ro_nilCheck rfl) ?_
            refine wl (ro_fieldAddr (k := 0) rfl fo_75_0) ?_
            refine wl (ro_loadB rfl sc_36 (hX) rfl) ?_
            refine wl (ro_move rfl) ?_
            refine wl_call rfl en_200 (ToInt200 hk64) ?_
            rintro _ _ ⟨rfl, rfl⟩
            refine wl (ro_move rfl) ?_
            refine wl (ro_extract rfl rfl) ?_
            refine wl (ro_extract rfl rfl) ?_
            refine wl (ro_assign rfl) ?_
            refine wl (ro_assign rfl) ?_
            refine wl_nil (x_then (hK49 _ _ ?_))
            clear hK49 K49
            refine forget [(0, _), (4, _), (5, _), (6, _), (10, _), (11, _), (12, _), (13, _), (125, _), (128, _), (129, _), (130, _), (131, _), (132, _), (133, _), (134, _), (135, _), (136, _), (137, _), (138, _), (139, _), (140, _), (141, _), (142, _), (143, _), (144, _), (145, _), (146, _), (147, _), (148, _), (149, _), (150, _), (151, _), (152, _), (153, _), (154, _), (155, _), (156, _)] ⟨rfl, rfl, rfl, rfl, rfl, rfl, rfl, rfl, rfl, rfl, rfl, rfl, rfl, rfl, rfl, rfl, rfl, rfl, rfl, rfl, rfl, rfl, rfl, rfl, rfl, rfl, rfl, rfl, rfl, rfl, rfl, rfl, rfl, rfl, rfl, rfl, rfl, rfl, trivial⟩ (fun e => ?_)
            refine c_seq (fun K50 hK50 => ?_)
            refine c_reg ?_ -- region 24 check.go:80
            refine wl (ro_move rfl) ?_
            refine wl_fork rfl (fun hg158 => ?_) (fun hg158 => ?_)
            · try simp only [decide_eq_true_eq, decide_eq_false_iff_not, Bool.not_eq_true', Bool.not_eq_false', Bool.not_eq_eq_eq_not, Bool.not_true, Bool.not_false, beq_iff_eq, bne_iff_ne, ne_eq, beq_eq_false_iff_ne, bne_eq_false_iff_eq, gt_iff_lt, ge_iff_le, Int.not_lt, Int.not_le] at hg158
              obtain ⟨i, hi⟩ : ∃ i, toI k = some i := by cases hq : toI k with | none => (rw [hq] at hg158; cases hg158) | some i => exact ⟨i, rfl⟩
              rw [hi]
              simp only [Option.getD_some]
              refine wlg_yes rfl (ro_move rfl) ?_
              refine wlg_yes rfl (ro_cmp rfl rfl rfl) ?_
              refine wl (ro_pick rfl rfl rfl) ?_
              refine wl_fork rfl (fun hg162 => ?_) (fun hg162 => ?_)
              · try simp only [decide_eq_true_eq, decide_eq_false_iff_not, Bool.not_eq_true', Bool.not_eq_false', Bool.not_eq_eq_eq_not, Bool.not_true, Bool.not_false, beq_iff_eq, bne_iff_ne, ne_eq, beq_eq_false_iff_ne, bne_eq_false_iff_eq, gt_iff_lt, ge_iff_le, Int.not_lt, Int.not_le] at hg162
                refine wlg_yes rfl (ro_move rfl) ?_
                refine wlg_yes rfl (ro_move rfl) ?_
                refine wlg_yes rfl (ro_nilCheck rfl) ?_
                refine wlg_yes rfl (ro_fieldAddr (k := 1) rfl fo_251_1) ?_
                refine wlg_yes rfl (ro_loadB rfl sc_247 (hA) ((row_cell3 (j := 1) hl (by show some m.va = _; rw [hva])))) ?_
                refine wlg_yes rfl (ro_lenL rfl se_247) ?_
                refine wlg_yes rfl (ro_cmp rfl rfl rfl) ?_
                refine wl (ro_pick rfl rfl rfl) ?_
                refine wl_nil (x_then (hK50 _ _ ?_))
                clear hK50 K50
                refine wc_cond rfl (fun hc170 => ?_) (fun hc170 => ?_)
                · try simp only [decide_eq_true_eq, decide_eq_false_iff_not, Bool.not_eq_true', Bool.not_eq_false', Bool.not_eq_eq_eq_not, Bool.not_true, Bool.not_false, beq_iff_eq, bne_iff_ne, ne_eq, beq_eq_false_iff_ne, bne_eq_false_iff_eq, gt_iff_lt, ge_iff_le, Int.not_lt, Int.not_le] at hc170
                  exfalso
                  have hke := toI_pos hk64 hi (by omega)
                  exact hkf (i.toNat - 1) (by omega) (by rw [hke]; congr 1; omega)
                · try simp only [decide_eq_true_eq, decide_eq_false_iff_not, Bool.not_eq_true', Bool.not_eq_false', Bool.not_eq_eq_eq_not, Bool.not_true, Bool.not_false, beq_iff_eq, bne_iff_ne, ne_eq, beq_eq_false_iff_ne, bne_eq_false_iff_eq, gt_iff_lt, ge_iff_le, Int.not_lt, Int.not_le] at hc170
                  refine c_skip (x_blk (x_then ?_))
                  exact ⟨uns bsn (seen.push bb), hun, seen.push bb, _, ri, rfl, hst, hIt2, hri, hrib, hri4, h6, h4, hF, kp _ ⟨rfl, rfl, rfl, rfl, rfl, trivial⟩⟩
              · try simp only [decide_eq_true_eq, decide_eq_false_iff_not, Bool.not_eq_true', Bool.not_eq_false', Bool.not_eq_eq_eq_not, Bool.not_true, Bool.not_false, beq_iff_eq, bne_iff_ne, ne_eq, beq_eq_false_iff_ne, bne_eq_false_iff_eq, gt_iff_lt, ge_iff_le, Int.not_lt, Int.not_le] at hg162
                refine wlg_no rfl ?_
                refine wlg_no rfl ?_
                refine wlg_no rfl ?_
                refine wlg_no rfl ?_
                refine wlg_no rfl ?_
                refine wlg_no rfl ?_
                refine wlg_no rfl ?_
                refine wl (ro_pick rfl rfl rfl) ?_
                refine wl_nil (x_then (hK50 _ _ ?_))
                clear hK50 K50
                refine wc_condF rfl ?_
                refine c_skip (x_blk (x_then ?_))
                exact ⟨uns bsn (seen.push bb), hun, seen.push bb, _, ri, rfl, hst, hIt2, hri, hrib, hri4, h6, h4, hF, kp _ ⟨rfl, rfl, rfl, rfl, rfl, trivial⟩⟩
            · try simp only [decide_eq_true_eq, decide_eq_false_iff_not, Bool.not_eq_true', Bool.not_eq_false', Bool.not_eq_eq_eq_not, Bool.not_true, Bool.not_false, beq_iff_eq, bne_iff_ne, ne_eq, beq_eq_false_iff_ne, bne_eq_false_iff_eq, gt_iff_lt, ge_iff_le, Int.not_lt, Int.not_le] at hg158
              have hni : toI k = none := by cases hq : toI k with | none => rfl | some i => (rw [hq] at hg158; cases hg158)
              refine wlg_no rfl ?_
              refine wlg_no rfl ?_
              refine wl (ro_pick rfl rfl rfl) ?_
              refine wl (ro_move rfl) ?_
              refine wlg_no rfl ?_
              refine wlg_no rfl ?_
              refine wlg_no rfl ?_
              refine wlg_no rfl ?_
              refine wlg_no rfl ?_
              refine wlg_no rfl ?_
              refine wlg_no rfl ?_
              refine wl (ro_pick rfl rfl rfl) ?_
              refine wl_nil (x_then (hK50 _ _ ?_))
              clear hK50 K50
              refine wc_condF rfl ?_
              refine c_skip (x_blk (x_then ?_))
              exact ⟨uns bsn (seen.push bb), hun, seen.push bb, _, ri, rfl, hst, hIt2, hri, hrib, hri4, h6, h4, hF, kp _ ⟨rfl, rfl, rfl, rfl, rfl, trivial⟩⟩
end Go.Proofs.Qxb6500568aGreatDoor
