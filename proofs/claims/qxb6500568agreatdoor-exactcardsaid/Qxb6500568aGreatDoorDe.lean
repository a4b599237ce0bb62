import Derived.Test.Qxb6500568aGreatDoorDd
/- The real tables: Len, Reset. -/
namespace Go.Proofs.Qxb6500568aGreatDoor
open Ieee
set_option linter.unusedVariables false
set_option linter.unusedSimpArgs false

set_option maxHeartbeats 4000000 in
theorem Len294 {w : World} {ow : Nat → Nat} {nb xb h : Nat} {T : List Tb} {t : Tb} (hM : RTab w ow nb xb T) (hh : T[h]? = some t) : Ret Tryz.prog 294 [ptr xb, i64c h] w (fun r w' => r = .tuple #[i64c (tLen t), icv 0] ∧ Fram none' w w') := by
  have hF : Fram none' w w := Fram.refl _ _
  obtain ⟨L, cnt, hL, rfl⟩ := hM
  obtain ⟨hhc, m, hm, rfl⟩ := absT_get hh
  have hI := hL.ti h m hm
  obtain ⟨ab, cap, l, hX0, hA0, hl, q1, q2, q3, q4, q5, q6⟩ := hL.row hm
  have hX := hX0
  have hA := hA0
  have hTv := hL.tv h m hm
  have hcl := hL.cl
  obtain ⟨a, capa, hva⟩ := hTv.a.form
  have halen := hI.alen
  refine ret_of Tryz.func294 rfl Tryz.ntmps294 rfl ?_
  refine c_seq (fun K1 hK1 => ?_)
  refine c_reg ?_ -- region 0 table.go:154
  refine wl (ro_assign rfl) ?_
  refine wl (ro_assign rfl) ?_
  refine wl_nil (x_then (hK1 _ _ ?_))
  clear hK1 K1
  refine c_seq (fun K2 hK2 => ?_)
  refine c_seq (fun K3 hK3 => ?_)
  refine c_reg ?_ -- region 1 table.go:155
  refine wl (ro_move rfl) ?_
  refine wl (ro_cmp (r := false) rfl rfl (congrArg some (decide_eq_false (by omega)))) ?_
  refine wl (ro_move rfl) ?_
  refine wlg_yes rfl (ro_move rfl) ?_
  refine wlg_yes rfl (ro_move rfl) ?_
  refine wlg_yes rfl (ro_nilCheck rfl) ?_
  refine wlg_yes rfl (ro_fieldAddr (k := 2) rfl fo_75_2) ?_
  refine wlg_yes rfl (ro_loadB rfl sc_3 (by assumption) rfl) ?_
  refine wlg_yes rfl (ro_cmp (r := false) rfl rfl (congrArg some (decide_eq_false (by omega)))) ?_
  refine wl (ro_pick rfl rfl rfl) ?_
  refine wl_nil (x_then (hK3 _ _ ?_))
  clear hK3 K3
  refine wc_condF rfl ?_
  refine c_skip (x_then (hK2 _ _ ?_))
  clear hK2 K2
  refine forget [(0, _), (1, _)] ⟨rfl, rfl, trivial⟩ (fun e => ?_)
  refine c_seq (fun K4 hK4 => ?_)
  refine c_reg ?_ -- region 3 table.go:158
  refine wl (ro_move rfl) ?_
  refine wl (ro_nilCheck rfl) ?_
  refine wl (ro_fieldAddr (k := 1) rfl fo_75_1) ?_
  refine wl (ro_loadB rfl sc_73 (by assumption) rfl) ?_
  refine wl (ro_move rfl) ?_
  refine wl (ro_indexAddr (et := 251) (k := 6) rfl rfl se_73 rfl (by omega)) ?_
  refine wl (ro_assign rfl) ?_
  refine wl_nil (x_then (hK4 _ _ ?_))
  clear hK4 K4
  refine c_seq (fun K5 hK5 => ?_)
  refine c_seq (fun K6 hK6 => ?_)
  refine c_reg ?_ -- region 4 table.go:159
  refine wl (ro_move rfl) ?_
  refine wl (ro_nilCheck rfl) ?_
  refine wl (ro_fieldAddr (k := 5) rfl fo_251_5) ?_
  refine wl (ro_loadB rfl sc_3 (hA) ((row_cell3 hl rfl))) ?_
  refine wl (ro_cmp rfl rfl rfl) ?_
  refine wl_nil (x_then (hK6 _ _ ?_))
  clear hK6 K6
  refine wc_cond rfl (fun hc29 => ?_) (fun hc29 => ?_)
  · try simp only [decide_eq_true_eq, decide_eq_false_iff_not, Bool.not_eq_true', Bool.not_eq_false', Bool.not_eq_eq_eq_not, Bool.not_true, Bool.not_false, beq_iff_eq, bne_iff_ne, ne_eq, beq_eq_false_iff_ne, bne_eq_false_iff_eq, gt_iff_lt, ge_iff_le, Int.not_lt, Int.not_le] at hc29
    refine c_seq (fun K7 hK7 => ?_)
    refine c_reg ?_ -- region 5 table.go:160
    refine wl (ro_move rfl) ?_
    refine wl (ro_nilCheck rfl) ?_
    refine wl (ro_fieldAddr (k := 1) rfl fo_251_1) ?_
    refine wl (ro_loadB rfl sc_247 (hA) ((row_cell3 hl (by show some m.va = _; rw [hva])))) ?_
    refine wl (ro_lenL rfl se_247) ?_
    refine wl (ro_assign rfl) ?_
    refine wl (ro_assign rfl) ?_
    refine wl_nil (x_then (hK7 _ _ ?_))
    clear hK7 K7
    refine c_ret (x_thenR ?_)
    refine bp_ret Tryz.results294 rfl ?_
    exact ⟨by rw [len_dead0 hI (by omega)]; rfl, hF⟩
  · try simp only [decide_eq_true_eq, decide_eq_false_iff_not, Bool.not_eq_true', Bool.not_eq_false', Bool.not_eq_eq_eq_not, Bool.not_true, Bool.not_false, beq_iff_eq, bne_iff_ne, ne_eq, beq_eq_false_iff_ne, bne_eq_false_iff_eq, gt_iff_lt, ge_iff_le, Int.not_lt, Int.not_le] at hc29
    refine c_skip (x_then (hK5 _ _ ?_))
    clear hK5 K5
    refine c_seq (fun K8 hK8 => ?_)
    refine c_seq (fun K9 hK9 => ?_)
    refine c_reg ?_ -- region 6 table.go:162
    refine wl (ro_move rfl) ?_
    refine wl (ro_nilCheck rfl) ?_
    refine wl (ro_fieldAddr (k := 1) rfl fo_251_1) ?_
    refine wl (ro_loadB rfl sc_247 (hA) ((row_cell3 hl (by show some m.va = _; rw [hva])))) ?_
    refine wl (ro_lenL rfl se_247) ?_
    refine wl (ro_move rfl) ?_
    refine wl_nil (x_then (hK9 _ _ ?_))
    clear hK9 K9
    refine c_block ?_
    -- loop@r7: live slots [6, 38, 39, 40]
    refine c_loopG (fun n a' w' => ∃ i, n = m.R.arr.length - i ∧ i ≤ m.R.arr.length ∧ tLen m.R.ord = scanR m.R i (m.R.arr.drop i) ∧ Fram none' w w' ∧ ∃ e, a' = Fr 61 (upds e [(6, ptrAt ab (0 + h * 6)), (38, .slice a m.R.arr.length capa), (39, i64c m.R.arr.length), (40, i64c i)]) []) m.R.arr.length ⟨0, rfl, by omega, len_ok hI, hF, kp _ ⟨rfl, rfl, rfl, rfl, trivial⟩⟩ ?_
    clear hF hX hA
    rintro n a' u1 ⟨i, rfl, hi, hln, hF, e, rfl⟩
    have hX := hF.blkN hX0
    have hA := hF.blkN hA0
    refine c_seq (fun K10 hK10 => ?_)
    refine c_reg ?_ -- region 7 table.go:162
    refine wl (ro_cmp rfl rfl rfl) ?_
    refine wl_nil (x_then (hK10 _ _ ?_))
    clear hK10 K10
    refine forget [(6, _), (38, _), (39, _), (40, _), (41, _)] ⟨rfl, rfl, rfl, rfl, rfl, trivial⟩ (fun e => ?_)
    refine c_seq (fun K11 hK11 => ?_)
    refine wc_cond rfl (fun hc41 => ?_) (fun hc41 => ?_)
    · try simp only [decide_eq_true_eq, decide_eq_false_iff_not, Bool.not_eq_true', Bool.not_eq_false', Bool.not_eq_eq_eq_not, Bool.not_true, Bool.not_false, beq_iff_eq, bne_iff_ne, ne_eq, beq_eq_false_iff_ne, bne_eq_false_iff_eq, gt_iff_lt, ge_iff_le, Int.not_lt, Int.not_le] at hc41
      obtain ⟨g, cap2, l2, hva2, hB2, r1, r2, r3, r4⟩ := hTv.a.o.pos (by omega)
      rw [hva] at hva2
      cases hva2
      obtain ⟨p, hpp⟩ : ∃ p, m.R.arr[i]? = some p := ⟨_, List.getElem?_eq_getElem (by omega)⟩
      obtain ⟨v, hv⟩ := hI.arrI i p hpp
      obtain ⟨go, capo, lo, hvo, hO, k1, k2, k3, k4, k5⟩ := hTv.o.at enc_len hv
      replace hB2 := hF.blkN hB2
      replace hO := hF.blkN hO
      have hpl := (List.getElem?_eq_some_iff.1 hv).1
      have e2 : (lo.drop (0 + p * 6 + 3)).take 3 = pvc v := by
        have := congrArg (fun x => (List.drop 3 x).take 3) (k5 p _ hv)
        simp only [List.drop_take, List.drop_drop, List.take_take] at this
        simpa [enc, pvc] using this
      have hwv := (hI.ok.key p _ _ hv).2.1
      rw [List.drop_eq_getElem_cons (by omega), (List.getElem?_eq_some_iff.1 hpp).2] at hln
      replace hln : tLen m.R.ord = if v.T = 0 then i else scanR m.R (i + 1) (m.R.arr.drop (i + 1)) := by rw [hln]; show (if (m.R.ord.getD p (vNil, vNil)).2.T = 0 then i else _) = _; rw [List.getD_eq_getElem?_getD, hv]; rfl
      refine c_skip (x_then (hK11 _ _ ?_))
      clear hK11 K11
      refine forget [(6, _), (38, _), (39, _), (40, _)] ⟨rfl, rfl, rfl, rfl, trivial⟩ (fun e => ?_)
      refine c_seq (fun K12 hK12 => ?_)
      refine c_block ?_
      refine c_seq (fun K13 hK13 => ?_)
      refine c_reg ?_ -- region 8 table.go:162
      refine wl (ro_move rfl) ?_
      refine wl (ro_indexAddr (et := 21) (k := 1) rfl rfl se_247 rfl (by omega)) ?_
      refine wl (ro_loadB rfl sc_21 (hB2) ((own_get (v := i32c p) r4 (by rw [Nat.zero_add, Nat.mul_one, List.getElem?_map, hpp]; rfl)))) ?_
      refine wl (ro_assign rfl) ?_
      refine wl (ro_assign rfl) ?_
      refine wl_nil (x_then (hK13 _ _ ?_))
      clear hK13 K13
      refine forget [(6, _), (7, _), (8, _), (38, _), (39, _), (40, _)] ⟨rfl, rfl, rfl, rfl, rfl, rfl, trivial⟩ (fun e => ?_)
      refine c_seq (fun K14 hK14 => ?_)
      refine c_reg ?_ -- region 9 table.go:163
      refine wl (ro_move rfl) ?_
      refine wl (ro_nilCheck rfl) ?_
      refine wl (ro_fieldAddr (k := 0) rfl fo_251_0) ?_
      refine wl (ro_loadB rfl sc_246 (hA) ((row_cell3 (j := 0) hl (by show some m.vo = _; rw [hvo])))) ?_
      refine wl (ro_move rfl) ?_
      refine wl (ro_indexAddr (et := 263) (k := 6) rfl rfl se_246 rfl (by omega)) ?_
      refine wl (ro_fieldAddr (k := 3) rfl fo_263_1) ?_
      refine wl (ro_loadAggB rfl ag_119 (hO) (rfl) (e2)) ?_
      refine wl_call rfl en_146 (isNil146 (v := v)) ?_
      rintro _ w1 ⟨rfl, F1⟩
      rw [eqV_nil hwv]
      replace hF := hF.thenDrew.thenN F1
      replace hX := F1.blkN hX
      replace hA := F1.blkN hA
      replace hB2 := F1.blkN hB2
      replace hO := F1.blkN hO
      refine wl_nil (x_then (hK14 _ _ ?_))
      clear hK14 K14
      refine wc_cond rfl (fun hc53 => ?_) (fun hc53 => ?_)
      · try simp only [decide_eq_true_eq, decide_eq_false_iff_not, Bool.not_eq_true', Bool.not_eq_false', Bool.not_eq_eq_eq_not, Bool.not_true, Bool.not_false, beq_iff_eq, bne_iff_ne, ne_eq, beq_eq_false_iff_ne, bne_eq_false_iff_eq, gt_iff_lt, ge_iff_le, Int.not_lt, Int.not_le] at hc53
        refine c_seq (fun K15 hK15 => ?_)
        refine c_reg ?_ -- region 10 table.go:164
        refine wl (ro_move rfl) ?_
        refine wl (ro_assign rfl) ?_
        refine wl (ro_assign rfl) ?_
        refine wl_nil (x_then (hK15 _ _ ?_))
        clear hK15 K15
        refine c_ret (x_blkR (x_thenR (x_thenR (x_blkR (x_thenR ?_)))))
        refine bp_ret Tryz.results294 rfl ?_
        exact ⟨by rw [hln, if_pos hc53], hF⟩
      · try simp only [decide_eq_true_eq, decide_eq_false_iff_not, Bool.not_eq_true', Bool.not_eq_false', Bool.not_eq_eq_eq_not, Bool.not_true, Bool.not_false, beq_iff_eq, bne_iff_ne, ne_eq, beq_eq_false_iff_ne, bne_eq_false_iff_eq, gt_iff_lt, ge_iff_le, Int.not_lt, Int.not_le] at hc53
        refine c_skip (x_blk (x_then (hK12 _ _ ?_)))
        clear hK12 K12
        refine c_reg ?_ -- region 11 table.go:162
        refine wl (ro_arith rfl rfl rfl (Go.IntWalk.i64_in _ (by omega))) ?_
        refine wl (ro_move rfl) ?_
        refine wl_nil (x_then ?_)
        exact ⟨m.R.arr.length - (i + 1), by omega, i + 1, rfl, by omega, by rw [hln, if_neg hc53], hF, kp _ ⟨rfl, rfl, rfl, rfl, trivial⟩⟩
    · try simp only [decide_eq_true_eq, decide_eq_false_iff_not, Bool.not_eq_true', Bool.not_eq_false', Bool.not_eq_eq_eq_not, Bool.not_true, Bool.not_false, beq_iff_eq, bne_iff_ne, ne_eq, beq_eq_false_iff_ne, bne_eq_false_iff_eq, gt_iff_lt, ge_iff_le, Int.not_lt, Int.not_le] at hc41
      refine c_exit (x_thenX (x_thenX (x_blkX (x_then (hK8 _ _ ?_)))))
      clear hK11 K11 hK8 K8
      refine forget [(6, _)] ⟨rfl, trivial⟩ (fun e => ?_)
      refine c_seq (fun K16 hK16 => ?_)
      refine c_reg ?_ -- region 12 table.go:167
      refine wl (ro_move rfl) ?_
      refine wl (ro_nilCheck rfl) ?_
      refine wl (ro_fieldAddr (k := 1) rfl fo_251_1) ?_
      refine wl (ro_loadB rfl sc_247 (hA) ((row_cell3 hl (by show some m.va = _; rw [hva])))) ?_
      refine wl (ro_lenL rfl se_247) ?_
      refine wl (ro_assign rfl) ?_
      refine wl (ro_assign rfl) ?_
      refine wl_nil (x_then (hK16 _ _ ?_))
      clear hK16 K16
      refine c_ret ?_
      refine bp_ret Tryz.results294 rfl ?_
      refine ⟨?_, hF⟩
      have : i = m.R.arr.length := by omega
      subst this
      rw [hln, List.drop_length]
      rfl

theorem ti0 : TI rt0 := by
  refine ⟨⟨by simp [rt0], fun i k v h => by simp [rt0] at h, fun i j k u v h => by simp [rt0] at h⟩, by simp [rt0], fun i p h => by simp [rt0] at h, fun p v h => by simp [rt0] at h, fun b p => ?_, fun s p => ?_, fun u p => ?_, rfl⟩
  · simp [rt0]
  · simp [rt0]
  · simp [rt0]
/-- One table turned. -/
theorem TBV.turned {w w' : World} {ow ow' : Nat → Nat} {nb xb h ab cap cnt : Nat} {L : List TM} {m m' : TM} {l : List Value} {G : Nat → Prop} (hT : TBV w ow nb xb L cnt) (hh : L[h]? = some m) (hX : Blk w'.heap xb [ptr nb, .slice (some ⟨ab, 0, none⟩) L.length cap, i64c cnt] 75) (hA : Blk w'.heap ab (rowS l (0 + h * 6) (tmc m')) 251)
    (hlc : L.length ≤ cap) (hcap : cap ≤ 9223372036854775807) (hll : l.length = cap * 6) (hlt : l.take (L.length * 6) = rws tmc L) (ht : ow' ab = 51) (hv : TV w' ow' (100 + 8 * h) m') (hi : TI m'.R) (hr : cnt ≤ h → m'.R = rt0) (hF : Fram G w w') (hG : ∀ b, G b → b < w.heap.size → ow b = 51 ∨ (100 + 8 * h ≤ ow b ∧ ow b < 100 + 8 * h + 5)) (hE : Xt w ow ow') (hxl : xb < w.heap.size) : TBV w' ow' nb xb (L.set h m') cnt := by
  have hhl := (List.getElem?_eq_some_iff.1 hh).1
  refine ⟨⟨_, hX, ?_⟩, by rw [hE xb hxl]; exact hT.xt, by rw [List.length_set]; exact hT.cl, by rw [List.length_set]; exact hT.l12, fun i t hi' => ?_, fun i t hi' => ?_, fun i t hc hi' => ?_⟩
  · rw [List.length_set]
    exact OwT.put (w' := w') (ow := ow') (j := 0) (m := 6) (cs := tmc m') (x' := m') (x := m) tmc_len hA hlc hcap hll hlt ht (by unfold rowS; simp) hh rfl (by omega) (by simp [tmc])
  · rw [List.getElem?_set] at hi'
    by_cases e : h = i
    · subst e; simp [hhl] at hi'; subst hi'; exact hv
    · simp [e] at hi'
      exact (hT.tv i t hi').far hF (fun b q1 q2 q3 q4 => by rcases hG b q4 q3 with q | q <;> omega) hE
  · rw [List.getElem?_set] at hi'
    by_cases e : h = i
    · subst e; simp [hhl] at hi'; subst hi'; exact hi
    · simp [e] at hi'; exact hT.ti i t hi'
  · rw [List.getElem?_set] at hi'
    by_cases e : h = i
    · subst e; simp [hhl] at hi'; subst hi'; exact hr hc
    · simp [e] at hi'; exact hT.rest i t hc hi'

end Go.Proofs.Qxb6500568aGreatDoor
