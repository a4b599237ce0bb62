import Derived.Test.Qxb6500568aGreatDoorKu
/- The machine: texts and comparisons. -/
namespace Go.Proofs.Qxb6500568aGreatDoor
open Ieee
set_option linter.unusedVariables false
set_option linter.unusedSimpArgs false
set_option linter.unusedSectionVars false

section
variable {P : Program} {n : Nat} {e : Nat → Option Value} {ds : List Deferred} {w : World} {ops : Array Oper} {Q : Exit → Act → World → Prop} {rest : List Oper} {d : Nat} {ty : TypeId} {ps : String} {af : Array Edge}
theorem wl_appS {t u et m : Nat} {x y : Operand} {v : Value} {xs : List Value} {s : List UInt8} (hx : evO n e x = some v) (hy : evO n e y = some (S s)) (ht : selB P t et 1 = true) (hu : strB P u = true) (hz : (P.info? et).bind (·.zero) = some (.int .u8 0))
    (hby : (P.info? et).any (fun i => i.bytes == 1) = true) (hown : Own w.heap v et 1 m xs) (hmax : m + s.length ≤ 1000000)
    (K : ∀ v' w1, Own w1.heap v' et 1 (m + s.length) (xs ++ s.map u8c) → Fram (own1 v) w w1 → nob v v' w → WL P ops Q rest (Fr n (upd e d v') ds) w1) : WL P ops Q (⟨some d, .call ⟨.builtin .append, #[x, y], #[t, u]⟩, ty, ps, af, none⟩ :: rest) (Fr n e ds) w := by
  obtain ⟨v', w1, h1, h2, h3, h4⟩ := app_str (P := P) (n := n) (e := e) hx hy ht hu hz hby hown hmax
  exact wle h1 (K v' w1 h2 h3 h4)
theorem wl_bsS3 {t et : Nat} {x y z : Operand} {a b c : Str} (hx : evO n e x = some (S a)) (hy : evO n e y = some (S b)) (hz0 : evO n e z = some (S c)) (ht : selB P t et 1 = true) (hz : ∃ z, zeroB P et z ∧ z.length = 1)
    (K : ∀ q w1, w.heap.size ≤ q → Blk w1.heap q [S a, S b, S c] et → Fram none' w w1 → WL P ops Q rest (Fr n (upd e d (.slice (some ⟨q, 0, none⟩) 3 3)) ds) w1) : WL P ops Q (⟨some d, .buildSlice t 3 #[(0, x), (1, y), (2, z)], ty, ps, af, none⟩ :: rest) (Fr n e ds) w := by
  refine wle (v := .slice (some ⟨w.heap.size, 0, none⟩) 3 3) (w1 := w.alloc (.cells [S a, S b, S c].toArray et)) ?_ (K _ _ (Nat.le_refl _) (Blk.new w _ et) (Fram.alloc none' w _))
  intro ds dst ty ps af g
  obtain ⟨t1, t2⟩ := selB_spec ht
  obtain ⟨z, ⟨j, zv, z1, z2, z3⟩, zl⟩ := hz
  match z, zl with
  | [z0], _ => simp [execOp, evO_eval hx, evO_eval hy, evO_eval hz0, Instr.buildSlice, run_underlying t1, run_sizeOf t2, zeroValue, typeInfo, z1, z2, z3, Instr.fill, newRow, Array.range_succ, Array.range_zero', Value.cells, S]
end
set_option maxHeartbeats 4000000 in
theorem join298 {w : World} {pb : Nat} {ps : List Str} (hB : Blk w.heap pb (ps.map S) 9) (hl : (ps.map List.length).sum ≤ 100000) (hn : ps.length ≤ 1000) (hne : 0 < ps.flatten.length) :
    Ret Tryz.prog 298 [.slice (some ⟨pb, 0, none⟩) ps.length ps.length] w (fun r w' => r = S ps.flatten ∧ Fram none' w w') := by
  have hN : Fram none' w w := Fram.refl _ _
  have hsum : ∀ i, ((ps.take i).map List.length).sum ≤ 100000 := fun i => by
    have : (ps.map List.length).sum = ((ps.take i).map List.length).sum + ((ps.drop i).map List.length).sum := by rw [← List.sum_append, ← List.map_append, List.take_append_drop]
    omega
  have hflat : ∀ i, (ps.take i).flatten.length ≤ 100000 := fun i => by rw [List.length_flatten]; exact hsum i
  refine ret_of Tryz.func298 rfl Tryz.ntmps298 rfl ?_
  refine c_seq (fun K1 hK1 => ?_)
  refine c_reg ?_ -- region 0 ops.go:201
  refine wl (ro_assign rfl) ?_
  refine wl_nil (x_then (hK1 _ _ ?_))
  clear hK1 K1
  refine forget [(0, _)] ⟨rfl, trivial⟩ (fun e => ?_)
  refine c_seq (fun K2 hK2 => ?_)
  refine c_reg ?_ -- region 1 ops.go:202
  refine wl (ro_assign rfl) ?_
  refine wl_nil (x_then (hK2 _ _ ?_))
  clear hK2 K2
  refine c_seq (fun K3 hK3 => ?_)
  refine c_seq (fun K4 hK4 => ?_)
  refine c_reg ?_ -- region 2 ops.go:203
  refine wl (ro_move rfl) ?_
  refine wl (ro_lenL rfl se_192) ?_
  refine wl (ro_move rfl) ?_
  refine wl_nil (x_then (hK4 _ _ ?_))
  clear hK4 K4
  refine c_block ?_
  -- loop@r3: live slots [0, 3, 9, 10, 11]
  refine c_loopG (fun m a u => ∃ i, m = ps.length - i ∧ i ≤ ps.length ∧ Fram none' w u ∧ ∃ e', a = Fr 34 (upds e' [(0, .slice (some ⟨pb, 0, none⟩) ps.length ps.length), (3, i64c ((ps.take i).map List.length).sum), (9, .slice (some ⟨pb, 0, none⟩) ps.length ps.length), (10, i64c ps.length), (11, i64c i)]) []) _ ⟨0, rfl, Nat.zero_le _, hN, kp _ ⟨rfl, rfl, rfl, rfl, rfl, trivial⟩⟩ ?_
  rintro m a u ⟨i, rfl, hi, hN1, e', rfl⟩
  have hB1 := hN1.blkN hB
  have hsi := hsum i
  refine c_seq (fun K5 hK5 => ?_)
  refine c_reg ?_ -- region 3 ops.go:203
  refine wl (ro_cmp rfl rfl rfl) ?_
  refine wl_nil (x_then (hK5 _ _ ?_))
  clear hK5 K5
  refine forget [(0, _), (3, _), (9, _), (10, _), (11, _), (12, _)] ⟨rfl, rfl, rfl, rfl, rfl, rfl, trivial⟩ (fun e => ?_)
  refine c_seq (fun K6 hK6 => ?_)
  refine wc_cond rfl (fun hc12 => ?_) (fun hc12 => ?_)
  · try simp only [decide_eq_true_eq, decide_eq_false_iff_not, Bool.not_eq_true', Bool.not_eq_false', Bool.not_eq_eq_eq_not, Bool.not_true, Bool.not_false, beq_iff_eq, bne_iff_ne, ne_eq, beq_eq_false_iff_ne, bne_eq_false_iff_eq, gt_iff_lt, ge_iff_le, Int.not_lt, Int.not_le] at hc12
    have hilt : i < ps.length := by omega
    have hget : (ps.map S)[0 + i * 1]? = some (S ps[i]) := by rw [Nat.zero_add, Nat.mul_one, List.getElem?_map, List.getElem?_eq_getElem hilt]; rfl
    have hsi2 := hsum (i + 1)
    have hstep : ((ps.take (i + 1)).map List.length).sum = ((ps.take i).map List.length).sum + ps[i].length := by rw [List.take_add_one, List.getElem?_eq_getElem hilt, Option.toList_some, List.map_append, List.sum_append]; simp
    refine c_skip (x_then (hK6 _ _ ?_))
    clear hK6 K6
    refine forget [(0, _), (3, _), (9, _), (10, _), (11, _)] ⟨rfl, rfl, rfl, rfl, rfl, trivial⟩ (fun e => ?_)
    refine c_seq (fun K7 hK7 => ?_)
    refine c_block ?_
    refine c_seq (fun K8 hK8 => ?_)
    refine c_reg ?_ -- region 4 ops.go:203
    refine wl (ro_indexAddr (et := 9) (k := 1) rfl rfl se_192 (rfl) ((by omega))) ?_
    refine wl (ro_loadB rfl sc_9 (hB1) (hget)) ?_
    refine wl (ro_assign rfl) ?_
    refine wl_nil (x_then (hK8 _ _ ?_))
    clear hK8 K8
    refine c_reg ?_ -- region 5 ops.go:204
    refine wl (ro_move rfl) ?_
    refine wl (ro_move rfl) ?_
    refine wl (ro_lenS rfl st_9) ?_
    refine wl ((show RO _ _ _ _ _ (i64c ((ps.take (i + 1)).map List.length).sum) from by rw [hstep]; exact ro_arith (r := _) rfl rfl rfl (Go.IntWalk.i64_in _ (by omega)))) ?_
    refine wl (ro_assign rfl) ?_
    refine wl_nil (x_blk (x_then (hK7 _ _ ?_)))
    clear hK7 K7
    refine c_reg ?_ -- region 6 ops.go:203
    refine wl (ro_arith rfl rfl rfl (Go.IntWalk.i64_in _ (by omega))) ?_
    refine wl (ro_move rfl) ?_
    refine wl_nil (x_then ?_)
    exact ⟨ps.length - (i + 1), by omega, i + 1, rfl, by omega, hN1, kp _ ⟨rfl, rfl, rfl, rfl, rfl, trivial⟩⟩
  · try simp only [decide_eq_true_eq, decide_eq_false_iff_not, Bool.not_eq_true', Bool.not_eq_false', Bool.not_eq_eq_eq_not, Bool.not_true, Bool.not_false, beq_iff_eq, bne_iff_ne, ne_eq, beq_eq_false_iff_ne, bne_eq_false_iff_eq, gt_iff_lt, ge_iff_le, Int.not_lt, Int.not_le] at hc12
    refine c_exit (x_thenX (x_thenX (x_blkX (x_then (hK3 _ _ ?_)))))
    clear hK6 K6 hK3 K3
    refine forget [(0, _), (3, _)] ⟨rfl, rfl, trivial⟩ (fun e => ?_)
    refine c_seq (fun K9 hK9 => ?_)
    have hmk : ((ps.take i).map List.length).sum ≤ 100000 := hsi
    refine c_reg ?_ -- region 7 ops.go:206
    refine wl (ro_move rfl) ?_
    refine wl_make (len := 0) (cap := ((ps.take i).map List.length).sum) rfl rfl se_70 ze_5 (by simp) (by omega) (by omega) rfl bb_5 (fun b21 w1 hbb21 hV F1 => ?_)
    have hnepbb21 : pb < b21 := Nat.lt_of_lt_of_le hB1.lt hbb21
    have hbsb21 := Nat.le_trans hN1.size hbb21
    replace hB1 := F1.blkN hB1
    replace hN1 := hN1.thenDrew.thenN F1
    refine wl (ro_assign rfl) ?_
    refine wl_nil (x_then (hK9 _ _ ?_))
    clear hK9 K9
    refine c_seq (fun K10 hK10 => ?_)
    refine c_seq (fun K11 hK11 => ?_)
    refine c_reg ?_ -- region 8 ops.go:207
    refine wl (ro_move rfl) ?_
    refine wl (ro_lenL rfl se_192) ?_
    refine wl (ro_move rfl) ?_
    refine wl_nil (x_then (hK11 _ _ ?_))
    clear hK11 K11
    refine c_block ?_
    -- loop@r9: live slots [6, 22, 23, 24]
    refine c_loopG (fun m a u' => ∃ j v, m = ps.length - j ∧ j ≤ ps.length ∧ Fram none' w u' ∧ Own u'.heap v 5 1 (ps.take j).flatten.length ((ps.take j).flatten.map u8c) ∧ (∀ q, v.ownBlock = some q → w.heap.size ≤ q) ∧ ∃ e', a = Fr 34 (upds e' [(6, v), (22, .slice (some ⟨pb, 0, none⟩) ps.length ps.length), (23, i64c ps.length), (24, i64c j)]) []) _ ⟨0, _, rfl, Nat.zero_le _, hN1, ⟨rfl, .inr ⟨b21, _, _, rfl, hV, Nat.zero_le _, by omega, by rw [Nat.mul_one]; simp, rfl⟩⟩, (fun q z ↦ by cases z; omega), kp _ ⟨rfl, rfl, rfl, rfl, trivial⟩⟩ ?_
    clear hV hB1
    rintro m a u' ⟨j, v, rfl, hj, hN2, hO, hob, e', rfl⟩
    have hB2 := hN2.blkN hB
    obtain ⟨va, vc, rfl⟩ := hO.form
    have hfj := hflat j
    refine c_seq (fun K12 hK12 => ?_)
    refine c_reg ?_ -- region 9 ops.go:207
    refine wl (ro_cmp rfl rfl rfl) ?_
    refine wl_nil (x_then (hK12 _ _ ?_))
    clear hK12 K12
    refine forget [(6, _), (22, _), (23, _), (24, _), (25, _)] ⟨rfl, rfl, rfl, rfl, rfl, trivial⟩ (fun e => ?_)
    refine c_seq (fun K13 hK13 => ?_)
    refine wc_cond rfl (fun hc25 => ?_) (fun hc25 => ?_)
    · try simp only [decide_eq_true_eq, decide_eq_false_iff_not, Bool.not_eq_true', Bool.not_eq_false', Bool.not_eq_eq_eq_not, Bool.not_true, Bool.not_false, beq_iff_eq, bne_iff_ne, ne_eq, beq_eq_false_iff_ne, bne_eq_false_iff_eq, gt_iff_lt, ge_iff_le, Int.not_lt, Int.not_le] at hc25
      have hjlt : j < ps.length := by omega
      have hget : (ps.map S)[0 + j * 1]? = some (S ps[j]) := by rw [Nat.zero_add, Nat.mul_one, List.getElem?_map, List.getElem?_eq_getElem hjlt]; rfl
      have hfj2 := hflat (j + 1)
      have hstep : (ps.take (j + 1)).flatten = (ps.take j).flatten ++ ps[j] := by rw [List.take_add_one, List.getElem?_eq_getElem hjlt, Option.toList_some, List.flatten_append]; simp
      rw [hstep, List.length_append] at hfj2
      refine c_skip (x_then (hK13 _ _ ?_))
      clear hK13 K13
      refine forget [(6, _), (22, _), (23, _), (24, _)] ⟨rfl, rfl, rfl, rfl, trivial⟩ (fun e => ?_)
      refine c_seq (fun K14 hK14 => ?_)
      refine c_block ?_
      refine c_seq (fun K15 hK15 => ?_)
      refine c_reg ?_ -- region 10 ops.go:207
      refine wl (ro_indexAddr (et := 9) (k := 1) rfl rfl se_192 (rfl) ((by omega))) ?_
      refine wl (ro_loadB rfl sc_9 (hB2) (hget)) ?_
      refine wl (ro_assign rfl) ?_
      refine wl_nil (x_then (hK15 _ _ ?_))
      clear hK15 K15
      refine c_reg ?_ -- region 11 ops.go:208
      refine wl (ro_move rfl) ?_
      refine wl (ro_move rfl) ?_
      refine wl_appS (t := 70) (et := 5) (m := (ps.take j).flatten.length) (s := ps[j]) rfl rfl se_70 st_9 (by kernel_rfl) by_5 hO (by omega) ?_
      intro v2 u2 hO2 G2 hnb2
      have hN3 : Fram none' w u2 := hN2.trans' G2 (fun b hb z ↦ by have := hob b z; omega)
      have hO3 : Own u2.heap v2 5 1 (ps.take (j + 1)).flatten.length ((ps.take (j + 1)).flatten.map u8c) := by rw [hstep, List.length_append, List.map_append]; exact hO2
      have hsz2 := hN2.size
      have hob2 : ∀ q, v2.ownBlock = some q → w.heap.size ≤ q := fun q z ↦ by
        rcases hnb2 q z with z | z
        · exact hob q z
        · omega
      refine wl (ro_assign rfl) ?_
      refine wl_nil (x_blk (x_then (hK14 _ _ ?_)))
      clear hK14 K14
      refine c_reg ?_ -- region 12 ops.go:207
      refine wl (ro_arith rfl rfl rfl (Go.IntWalk.i64_in _ (by omega))) ?_
      refine wl (ro_move rfl) ?_
      refine wl_nil (x_then ?_)
      exact ⟨ps.length - (j + 1), by omega, j + 1, v2, rfl, by omega, hN3, hO3, hob2, kp _ ⟨rfl, rfl, rfl, rfl, trivial⟩⟩
    · try simp only [decide_eq_true_eq, decide_eq_false_iff_not, Bool.not_eq_true', Bool.not_eq_false', Bool.not_eq_eq_eq_not, Bool.not_true, Bool.not_false, beq_iff_eq, bne_iff_ne, ne_eq, beq_eq_false_iff_ne, bne_eq_false_iff_eq, gt_iff_lt, ge_iff_le, Int.not_lt, Int.not_le] at hc25
      refine c_exit (x_thenX (x_thenX (x_blkX (x_then (hK10 _ _ ?_)))))
      clear hK13 K13 hK10 K10
      refine forget [(6, _)] ⟨rfl, trivial⟩ (fun e => ?_)
      refine c_seq (fun K16 hK16 => ?_)
      obtain rfl : j = ps.length := by omega
      rw [List.take_length] at hO
      obtain ⟨g, cap, l, e1, hBv, p1, p2, p3, p4⟩ := hO.pos hne
      rw [show Value.slice va (List.take ps.length ps).flatten.length vc = Value.slice (some ⟨g, 0, none⟩) ps.flatten.length cap by rw [List.take_length]; exact e1]
      refine c_reg ?_ -- region 13 ops.go:210
      refine wl (ro_move rfl) ?_
      refine wl (ro_toS (o := ps.flatten) rfl se_70 (by kernel_rfl) st_9 hBv rfl (fun k y hy ↦ own_get (m := ps.flatten.length * 1) p4 (by rw [List.getElem?_map, hy]; rfl))) ?_
      refine wl (ro_assign rfl) ?_
      refine wl_nil (x_then (hK16 _ _ ?_))
      clear hK16 K16
      refine c_ret ?_
      refine bp_ret Tryz.results298 rfl ?_
      exact ⟨rfl, hN2⟩
section
variable {C : VC} {w w' w1 u u1 u2 : World} {ow ow' ow1 : Nat → Nat} {s : AS} {fg fc : Nat}
theorem AM.nm (h : AM C fg fc w ow s) {bb : Nat} (f : Fram (one bb) w u) (hb : ow bb = 413) (hn : NmV C u ow) : AM C fg fc u ow s := by
  obtain ⟨V, κ, Vv, U, h1, h2, h3⟩ := h
  obtain ⟨L, op, vl⟩ := h1.ex
  have off : ∀ b, ow b ≠ 413 → ¬ one bb b := fun b q z => q (by have z : b = bb := z; rw [z]; exact hb)
  have op' : VOp C.E u ow L Vv U := ⟨op.m.fram f (off _ (by rw [op.tm]; decide)), op.t.fram f (off _ (by rw [op.tt]; decide)), fun i hi => (op.a i hi).far f (fun b q _ => off b (by unfold vmI at hi; omega)) (Xt.refl _ _), fun j hj i hi => (op.u j hj i hi).far f (fun b q _ => off b (by unfold thI at hi; omega)) (Xt.refl _ _), op.tm, op.tt, op.nt, op.dfN f⟩
  exact ⟨V, κ, Vv, U, ⟨⟨L, op', vl⟩, h1.tb.far f (fun b q _ => off b (by unfold rtag at q; omega)) (Xt.refl _ _), hn, h1.hp, h1.fu, h1.co, h1.cb, h1.eb⟩, h2, h3⟩
theorem AM.nmv (h : AM C fg fc w ow s) : NmV C w ow := by
  obtain ⟨V, κ, Vv, U, h1, h2, h3⟩ := h
  exact h1.nm
set_option maxHeartbeats 4000000 in
theorem textA (hR : AM C fg fc w ow s) {v : PV} (hv : PVf v) (h6 : v.T = 6 → v.N < 1000) : Ret Tryz.prog 286 [ptr C.E.mb, pv v] w (AR C fg fc w ow (S (txV v)) s) := by
  have hX : Xt w ow ow := Xt.refl _ _
  have hF : Fram (tg ow vtT) w w := Fram.refl _ _
  have hN : W64 v.N := hv.n
  have l3 : (dgT v.N).length ≤ 20 := dgT_len (k := 19) (by omega) (by unfold W64 at hN; omega)
  have l4 := tyName_len v
  have l5 := biName_len v.N
  refine ret_of Tryz.func286 rfl Tryz.ntmps286 rfl ?_
  refine c_seq (fun K1 hK1 => ?_)
  refine c_reg ?_ -- region 0 ops.go:214
  refine wl_box (cs := (pvc v)) rfl rfl (fun b3 w1 hbb3 h3 F1 => ?_)
  have hbsb3 := Nat.le_trans hF.size hbb3
  have kh3 := hR.df b3 hbb3
  replace hF := hF.thenDrew.thenN F1
  replace hR := hR.thruN ((Fram.refl none' _).thenDrew.thenN F1)
  refine wl (ro_assign rfl) ?_
  refine wl_nil (x_then (hK1 _ _ ?_))
  clear hK1 K1
  refine c_seq (fun K2 hK2 => ?_)
  refine c_seq (fun K3 hK3 => ?_)
  refine c_reg ?_ -- region 1 ops.go:215
  refine wl (ro_fieldAddr (k := 0) rfl fo_119_0) ?_
  refine wl (ro_loadB rfl sc_3 (h3) rfl) ?_
  refine wl_nil (x_then (hK3 _ _ ?_))
  clear hK3 K3
  refine c_block ?_
  refine forget [(0, _), (3, _), (7, _)] ⟨rfl, rfl, rfl, trivial⟩ (fun e => ?_)
  refine c_seq (fun K4 hK4 => ?_)
  refine c_reg ?_ -- region 2 ops.go:216
  refine wl (ro_cmp rfl rfl rfl) ?_
  refine wl (ro_assign rfl) ?_
  refine wl_nil (x_then (hK4 _ _ ?_))
  clear hK4 K4
  refine wc_cond rfl (fun hc8 => ?_) (fun hc8 => ?_)
  · try simp only [decide_eq_true_eq, decide_eq_false_iff_not, Bool.not_eq_true', Bool.not_eq_false', Bool.not_eq_eq_eq_not, Bool.not_true, Bool.not_false, beq_iff_eq, bne_iff_ne, ne_eq, beq_eq_false_iff_ne, bne_eq_false_iff_eq, gt_iff_lt, ge_iff_le, Int.not_lt, Int.not_le] at hc8
    refine c_seq (fun K5 hK5 => ?_)
    refine c_reg ?_ -- region 3 ops.go:217
    refine wl (ro_assign rfl) ?_
    refine wl_nil (x_then (hK5 _ _ ?_))
    clear hK5 K5
    refine c_ret (x_blkR (x_thenR ?_))
    refine bp_ret Tryz.results286 rfl ?_
    exact ⟨by unfold txV; rw [if_pos (by omega)]; rfl, _, hX, hF, hR⟩
  · try simp only [decide_eq_true_eq, decide_eq_false_iff_not, Bool.not_eq_true', Bool.not_eq_false', Bool.not_eq_eq_eq_not, Bool.not_true, Bool.not_false, beq_iff_eq, bne_iff_ne, ne_eq, beq_eq_false_iff_ne, bne_eq_false_iff_eq, gt_iff_lt, ge_iff_le, Int.not_lt, Int.not_le] at hc8
    refine c_seq (fun K6 hK6 => ?_)
    refine c_reg ?_ -- region 4 ops.go:218
    refine wl (ro_cmp rfl rfl rfl) ?_
    refine wl (ro_assign rfl) ?_
    refine wl_nil (x_then (hK6 _ _ ?_))
    clear hK6 K6
    refine wc_cond rfl (fun hc10 => ?_) (fun hc10 => ?_)
    · try simp only [decide_eq_true_eq, decide_eq_false_iff_not, Bool.not_eq_true', Bool.not_eq_false', Bool.not_eq_eq_eq_not, Bool.not_true, Bool.not_false, beq_iff_eq, bne_iff_ne, ne_eq, beq_eq_false_iff_ne, bne_eq_false_iff_eq, gt_iff_lt, ge_iff_le, Int.not_lt, Int.not_le] at hc10
      refine c_seq (fun K7 hK7 => ?_)
      refine c_seq (fun K8 hK8 => ?_)
      refine c_reg ?_ -- region 5 ops.go:219
      refine wl (ro_fieldAddr (k := 1) rfl fo_119_1) ?_
      refine wl (ro_loadB rfl sc_117 (h3) rfl) ?_
      refine wl (ro_cmpU rfl rfl rfl) ?_
      refine wl_nil (x_then (hK8 _ _ ?_))
      clear hK8 K8
      refine wc_cond rfl (fun hc14 => ?_) (fun hc14 => ?_)
      · try simp only [decide_eq_true_eq, decide_eq_false_iff_not, Bool.not_eq_true', Bool.not_eq_false', Bool.not_eq_eq_eq_not, Bool.not_true, Bool.not_false, beq_iff_eq, bne_iff_ne, ne_eq, beq_eq_false_iff_ne, bne_eq_false_iff_eq, gt_iff_lt, ge_iff_le, Int.not_lt, Int.not_le] at hc14
        refine c_seq (fun K9 hK9 => ?_)
        refine c_reg ?_ -- region 6 ops.go:220
        refine wl (ro_assign rfl) ?_
        refine wl_nil (x_then (hK9 _ _ ?_))
        clear hK9 K9
        refine c_ret (x_thenR (x_blkR (x_thenR ?_)))
        refine bp_ret Tryz.results286 rfl ?_
        exact ⟨by unfold txV; rw [if_neg (by omega), if_pos (by omega), if_pos (by omega)]; rfl, _, hX, hF, hR⟩
      · try simp only [decide_eq_true_eq, decide_eq_false_iff_not, Bool.not_eq_true', Bool.not_eq_false', Bool.not_eq_eq_eq_not, Bool.not_true, Bool.not_false, beq_iff_eq, bne_iff_ne, ne_eq, beq_eq_false_iff_ne, bne_eq_false_iff_eq, gt_iff_lt, ge_iff_le, Int.not_lt, Int.not_le] at hc14
        refine c_skip (x_then (hK7 _ _ ?_))
        clear hK7 K7
        refine forget [] trivial (fun e => ?_)
        refine c_seq (fun K10 hK10 => ?_)
        refine c_reg ?_ -- region 7 ops.go:222
        refine wl (ro_assign rfl) ?_
        refine wl_nil (x_then (hK10 _ _ ?_))
        clear hK10 K10
        refine c_ret (x_blkR (x_thenR ?_))
        refine bp_ret Tryz.results286 rfl ?_
        exact ⟨by unfold txV; rw [if_neg (by omega), if_pos (by omega), if_neg (by omega)]; rfl, _, hX, hF, hR⟩
    · try simp only [decide_eq_true_eq, decide_eq_false_iff_not, Bool.not_eq_true', Bool.not_eq_false', Bool.not_eq_eq_eq_not, Bool.not_true, Bool.not_false, beq_iff_eq, bne_iff_ne, ne_eq, beq_eq_false_iff_ne, bne_eq_false_iff_eq, gt_iff_lt, ge_iff_le, Int.not_lt, Int.not_le] at hc10
      refine c_seq (fun K11 hK11 => ?_)
      refine c_reg ?_ -- region 8 ops.go:223
      refine wl (ro_cmp rfl rfl rfl) ?_
      refine wl (ro_assign rfl) ?_
      refine wl_nil (x_then (hK11 _ _ ?_))
      clear hK11 K11
      refine wc_cond rfl (fun hc15 => ?_) (fun hc15 => ?_)
      · try simp only [decide_eq_true_eq, decide_eq_false_iff_not, Bool.not_eq_true', Bool.not_eq_false', Bool.not_eq_eq_eq_not, Bool.not_true, Bool.not_false, beq_iff_eq, bne_iff_ne, ne_eq, beq_eq_false_iff_ne, bne_eq_false_iff_eq, gt_iff_lt, ge_iff_le, Int.not_lt, Int.not_le] at hc15
        refine c_seq (fun K12 hK12 => ?_)
        obtain ⟨bb, lb, n1, n2, n3, n4, n5⟩ := hR.nmv
        refine c_pi [(0, false), (1, false), (2, false), (3, false), (4, false), (5, false), (6, true), (7, false)] (La b3 _ _ (Mz C)) mixed (by kernel_rfl) rfl (by kernel_rfl) (po_then (po_blk (po_then (po_bp)))) (⟨h3, hR.rz⟩) ?_ -- region 9 ops.go:224
        refine pi_ro rfl (fun w hS => ro_move rfl) ?_
        refine pi_ro rfl (fun w hS => ro_nilCheck rfl) ?_
        refine pi_ro rfl (fun w hS => ro_fieldAddr (k := 0) rfl fo_89_0) ?_
        refine pi_ro rfl (fun w hS => let ⟨_, hc, h0, h1⟩ := hS.2; ro_loadB rfl sc_36 hc (h0)) ?_
        refine pi_ro rfl (fun w hS => ro_fieldAddr (k := 1) rfl fo_119_1) ?_
        refine pi_ro rfl (fun w hS => ro_loadB rfl sc_117 (hS.1) rfl) ?_
        refine pi_call rfl rfl en_297 (Format297 hN n1 n2 n3 (fun q ↦ by rw [q, n4] at n5; omega)) ?_
        rintro _ u9 ⟨rfl, ⟨l9, hb9, hl9⟩, f9⟩
        have hnb9 : C.nb ≠ bb := fun q ↦ by rw [q, n5] at n4; omega
        replace hR := hR.dr.nm f9 n5 ⟨bb, l9, f9.blkO n1 hnb9, hb9, hl9, n4, n5⟩
        replace hF := vm_trans hX hF (f9.mono (fun b _ z ↦ by have z : b = bb := z; show vtT _; rw [z, n5]; left; unfold vmT; omega))
        replace h3 := f9.blkO h3 (ow_ne kh3 n5 (by omega))
        refine ⟨⟨h3, hR.rz⟩, ?_⟩
        refine pi_ro rfl (fun w hS => ro_assign rfl) ?_
        refine pi_nil (x_then (hK12 _ _ ?_))
        clear hK12 K12
        refine c_ret (x_blkR (x_thenR ?_))
        refine bp_ret Tryz.results286 rfl ?_
        exact ⟨by unfold txV; rw [if_neg (by omega), if_neg (by omega), if_pos (by omega)], _, hX, hF, hR⟩
      · try simp only [decide_eq_true_eq, decide_eq_false_iff_not, Bool.not_eq_true', Bool.not_eq_false', Bool.not_eq_eq_eq_not, Bool.not_true, Bool.not_false, beq_iff_eq, bne_iff_ne, ne_eq, beq_eq_false_iff_ne, bne_eq_false_iff_eq, gt_iff_lt, ge_iff_le, Int.not_lt, Int.not_le] at hc15
        refine c_seq (fun K13 hK13 => ?_)
        refine c_reg ?_ -- region 10 ops.go:225
        refine wl (ro_cmp rfl rfl rfl) ?_
        refine wl (ro_assign rfl) ?_
        refine wl_nil (x_then (hK13 _ _ ?_))
        clear hK13 K13
        refine wc_cond rfl (fun hc24 => ?_) (fun hc24 => ?_)
        · try simp only [decide_eq_true_eq, decide_eq_false_iff_not, Bool.not_eq_true', Bool.not_eq_false', Bool.not_eq_eq_eq_not, Bool.not_true, Bool.not_false, beq_iff_eq, bne_iff_ne, ne_eq, beq_eq_false_iff_ne, bne_eq_false_iff_eq, gt_iff_lt, ge_iff_le, Int.not_lt, Int.not_le] at hc24
          refine c_seq (fun K14 hK14 => ?_)
          refine c_reg ?_ -- region 11 ops.go:226
          refine wl (ro_fieldAddr (k := 2) rfl fo_119_2) ?_
          refine wl (ro_loadB rfl sc_9 (by assumption) rfl) ?_
          refine wl (ro_assign rfl) ?_
          refine wl_nil (x_then (hK14 _ _ ?_))
          clear hK14 K14
          refine c_ret (x_blkR (x_thenR ?_))
          refine bp_ret Tryz.results286 rfl ?_
          exact ⟨by unfold txV; rw [if_neg (by omega), if_neg (by omega), if_neg (by omega), if_pos (by omega)], _, hX, hF, hR⟩
        · try simp only [decide_eq_true_eq, decide_eq_false_iff_not, Bool.not_eq_true', Bool.not_eq_false', Bool.not_eq_eq_eq_not, Bool.not_true, Bool.not_false, beq_iff_eq, bne_iff_ne, ne_eq, beq_eq_false_iff_ne, bne_eq_false_iff_eq, gt_iff_lt, ge_iff_le, Int.not_lt, Int.not_le] at hc24
          refine c_skip (x_blk (x_then (hK2 _ _ ?_)))
          clear hK2 K2
          refine forget [(3, _)] ⟨rfl, trivial⟩ (fun e => ?_)
          refine c_seq (fun K15 hK15 => ?_)
          refine c_reg ?_ -- region 12 ops.go:228
          refine wl_bsS3 (a := [98, 117, 105, 108, 116, 105, 110]) (b := [58]) (c := []) rfl rfl rfl se_192 zx_9 (fun b28 w28 hbb28 h28 F28 ↦ ?_)
          have kh28 := hR.df b28 hbb28
          have hne28 : b3 < b28 := Nat.lt_of_lt_of_le h3.lt hbb28
          replace hF := hF.thenDrew.thenN F28
          replace hR := hR.thruN ((Fram.refl none' _).thenDrew.thenN F28)
          replace h3 := F28.blkN h3
          refine wl (ro_assign rfl) ?_
          refine wl_nil (x_then (hK15 _ _ ?_))
          clear hK15 K15
          refine c_seq (fun K16 hK16 => ?_)
          refine c_seq (fun K17 hK17 => ?_)
          refine c_reg ?_ -- region 13 ops.go:229
          refine wl (ro_fieldAddr (k := 0) rfl fo_119_0) ?_
          refine wl (ro_loadB rfl sc_3 (h3) rfl) ?_
          refine wl (ro_cmp rfl rfl rfl) ?_
          refine wl_nil (x_then (hK17 _ _ ?_))
          clear hK17 K17
          refine wc_cond rfl (fun hc31 => ?_) (fun hc31 => ?_)
          · try simp only [decide_eq_true_eq, decide_eq_false_iff_not, Bool.not_eq_true', Bool.not_eq_false', Bool.not_eq_eq_eq_not, Bool.not_true, Bool.not_false, beq_iff_eq, bne_iff_ne, ne_eq, beq_eq_false_iff_ne, bne_eq_false_iff_eq, gt_iff_lt, ge_iff_le, Int.not_lt, Int.not_le] at hc31
            refine c_reg ?_ -- region 14 ops.go:230
            refine wl (ro_move rfl) ?_
            refine wl (ro_fieldAddr (k := 1) rfl fo_119_1) ?_
            refine wl (ro_loadB rfl sc_117 (h3) rfl) ?_
            refine wl (ro_conv rfl sc_117 in_3 (Go.IntWalk.i64_in _ (by have := h6 (by omega); omega))) ?_
            refine wl_call rfl en_30 (BuiltinName30 (s := v.N)) ?_
            rintro _ u0 ⟨rfl, hw0⟩
            rw [hw0]
            clear hw0 u0
            refine wl (ro_indexAddr (et := 9) (k := 1) rfl rfl se_192 (rfl) ((by decide))) ?_
            refine wl_put rfl rfl rfl sz_9 h28 ((by simp)) (rfl) (fun w2 h28 F2 => ?_)
            replace hF := hF.thenDrew.thenO F2 (by first | exact .inr (by omega) | exact .inl rfl | exact .inl (by assumption) | assumption)
            replace hR := hR.hbput ((Fram.refl (one b28) _).thenDrew.thenO F2 (.inl rfl))
            replace h3 := F2.blkO h3 (by first | omega | exact ow_ne (by assumption) (by assumption) (by omega))
            refine wl_nil (x_then (hK16 _ _ ?_))
            clear hK16 K16
            refine forget [(5, _)] ⟨rfl, trivial⟩ (fun e => ?_)
            refine c_seq (fun K18 hK18 => ?_)
            refine c_reg ?_ -- region 17 ops.go:235
            refine wl (ro_move rfl) ?_
            refine wl_call rfl en_298 (join298 (ps := [[98, 117, 105, 108, 116, 105, 110], [58], biName v.N]) h28 (by simp; omega) (by simp) (by simp)) ?_
            rintro _ w3 ⟨rfl, F3⟩
            replace hF := hF.thenDrew.thenN F3
            replace hR := hR.thruN ((Fram.refl none' _).thenDrew.thenN F3)
            replace h3 := F3.blkN h3
            replace h28 := F3.blkN h28
            refine wl (ro_assign rfl) ?_
            refine wl_nil (x_then (hK18 _ _ ?_))
            clear hK18 K18
            refine c_ret ?_
            refine bp_ret Tryz.results286 rfl ?_
            refine ⟨?_, _, hX, hF, hR⟩
            unfold txV
            rw [if_neg (by omega), if_neg (by omega), if_neg (by omega), if_neg (by omega)]
            first
              | (rw [if_pos (by omega)]; simp)
              | (rw [if_neg (by omega)]; simp)
          · try simp only [decide_eq_true_eq, decide_eq_false_iff_not, Bool.not_eq_true', Bool.not_eq_false', Bool.not_eq_eq_eq_not, Bool.not_true, Bool.not_false, beq_iff_eq, bne_iff_ne, ne_eq, beq_eq_false_iff_ne, bne_eq_false_iff_eq, gt_iff_lt, ge_iff_le, Int.not_lt, Int.not_le] at hc31
            refine c_seq (fun K19 hK19 => ?_)
            refine c_reg ?_ -- region 15 ops.go:232
            refine wl (ro_move rfl) ?_
            refine wl (ro_loadAggB rfl ag_119 (h3) rfl rfl) ?_
            refine wl_call rfl en_120 (TypeName120 (v := v)) ?_
            rintro _ w4 ⟨rfl, F4⟩
            replace hF := hF.thenDrew.thenN F4
            replace hR := hR.thruN ((Fram.refl none' _).thenDrew.thenN F4)
            replace h3 := F4.blkN h3
            replace h28 := F4.blkN h28
            refine wl (ro_indexAddr (et := 9) (k := 1) rfl rfl se_192 (rfl) ((by decide))) ?_
            refine wl_put rfl rfl rfl sz_9 h28 ((by simp)) (rfl) (fun w5 h28 F5 => ?_)
            replace hF := hF.thenDrew.thenO F5 (by first | exact .inr (by omega) | exact .inl rfl | exact .inl (by assumption) | assumption)
            replace hR := hR.hbput ((Fram.refl (one b28) _).thenDrew.thenO F5 (.inl rfl))
            replace h3 := F5.blkO h3 (by first | omega | exact ow_ne (by assumption) (by assumption) (by omega))
            refine wl_nil (x_then (hK19 _ _ ?_))
            clear hK19 K19
            refine c_reg ?_ -- region 16 ops.go:233
            refine wl (ro_move rfl) ?_
            refine wl (ro_fieldAddr (k := 1) rfl fo_119_1) ?_
            refine wl (ro_loadB rfl sc_117 (h3) rfl) ?_
            refine wl_call rfl en_93 (Utoa93 hN) ?_
            rintro _ w6 ⟨rfl, F6⟩
            replace hF := hF.thenDrew.thenN F6
            replace hR := hR.thruN ((Fram.refl none' _).thenDrew.thenN F6)
            replace h3 := F6.blkN h3
            replace h28 := F6.blkN h28
            refine wl (ro_indexAddr (et := 9) (k := 1) rfl rfl se_192 (rfl) ((by decide))) ?_
            refine wl_put rfl rfl rfl sz_9 h28 ((by simp)) (rfl) (fun w7 h28 F7 => ?_)
            replace hF := hF.thenDrew.thenO F7 (by first | exact .inr (by omega) | exact .inl rfl | exact .inl (by assumption) | assumption)
            replace hR := hR.hbput ((Fram.refl (one b28) _).thenDrew.thenO F7 (.inl rfl))
            replace h3 := F7.blkO h3 (by first | omega | exact ow_ne (by assumption) (by assumption) (by omega))
            refine wl_nil (x_then (hK16 _ _ ?_))
            clear hK16 K16
            refine forget [(5, _)] ⟨rfl, trivial⟩ (fun e => ?_)
            refine c_seq (fun K20 hK20 => ?_)
            refine c_reg ?_ -- region 17 ops.go:235
            refine wl (ro_move rfl) ?_
            refine wl_call rfl en_298 (join298 (ps := [tyName v, [58], dgT v.N]) h28 (by simp; omega) (by simp) (by simp; omega)) ?_
            rintro _ w8 ⟨rfl, F8⟩
            replace hF := hF.thenDrew.thenN F8
            replace hR := hR.thruN ((Fram.refl none' _).thenDrew.thenN F8)
            replace h3 := F8.blkN h3
            replace h28 := F8.blkN h28
            refine wl (ro_assign rfl) ?_
            refine wl_nil (x_then (hK20 _ _ ?_))
            clear hK20 K20
            refine c_ret ?_
            refine bp_ret Tryz.results286 rfl ?_
            refine ⟨?_, _, hX, hF, hR⟩
            unfold txV
            rw [if_neg (by omega), if_neg (by omega), if_neg (by omega), if_neg (by omega)]
            first
              | (rw [if_pos (by omega)]; simp)
              | (rw [if_neg (by omega)]; simp)
set_option maxHeartbeats 4000000 in
theorem cmpS292 (hz : Mz C w) {op : Nat} {a b : PV} {r0 : Bool} (hr : cmpV op a b = some r0) (ha : W64 a.N) (hb : W64 b.N) (h1 : 1 ≤ op) (h6 : op ≤ 6) : Ret Tryz.prog 292 [ptr C.E.mb, i64c op, pv a, pv b] w (fun r w' => r = .bool r0 ∧ Fram none' w w') := by
  have hF : Fram none' w w := Fram.refl _ _
  obtain ⟨lM, hM, m0, m1⟩ := hz
  have hq : ∀ {q : Bool}, cmpV op a b = some q → q = r0 := fun {q} h => by rw [hr] at h; injection h with h; exact h.symm
  refine ret_of Tryz.func292 rfl Tryz.ntmps292 rfl ?_
  refine c_seq (fun K1 hK1 => ?_)
  refine c_reg ?_ -- region 0 ops.go:176
  refine wl_box (cs := (pvc a)) rfl rfl (fun b6 w1 hbb6 h6 F1 => ?_)
  have hbsb6 := Nat.le_trans hF.size hbb6
  have hneC.E.mbb6 : C.E.mb < b6 := Nat.lt_of_lt_of_le hM.lt hbb6
  replace hF := hF.thenDrew.thenN F1
  replace hM := F1.blkN hM
  refine wl_box (cs := (pvc b)) rfl rfl (fun b7 w2 hbb7 h7 F2 => ?_)
  have hbsb7 := Nat.le_trans hF.size hbb7
  have hneC.E.mbb7 : C.E.mb < b7 := Nat.lt_of_lt_of_le hM.lt hbb7
  have hneb6b7 : b6 < b7 := Nat.lt_of_lt_of_le h6.lt hbb7
  replace hF := hF.thenDrew.thenN F2
  replace hM := F2.blkN hM
  replace h6 := F2.blkN h6
  refine wl (ro_assign rfl) ?_
  refine wl_nil (x_then (hK1 _ _ ?_))
  clear hK1 K1
  refine c_seq (fun K2 hK2 => ?_)
  refine c_seq (fun K3 hK3 => ?_)
  refine c_reg ?_ -- region 1 ops.go:177
  refine wl (ro_fieldAddr (k := 0) rfl fo_119_0) ?_
  refine wl (ro_loadB rfl sc_3 (by assumption) rfl) ?_
  refine wl (ro_cmp rfl rfl rfl) ?_
  refine wl_fork rfl (fun hg12 => ?_) (fun hg12 => ?_)
  · try simp only [decide_eq_true_eq, decide_eq_false_iff_not, Bool.not_eq_true', Bool.not_eq_false', Bool.not_eq_eq_eq_not, Bool.not_true, Bool.not_false, beq_iff_eq, bne_iff_ne, ne_eq, beq_eq_false_iff_ne, bne_eq_false_iff_eq, gt_iff_lt, ge_iff_le, Int.not_lt, Int.not_le] at hg12
    refine wlg_yes rfl (ro_fieldAddr (k := 0) rfl fo_119_0) ?_
    refine wlg_yes rfl (ro_loadB rfl sc_3 (by assumption) rfl) ?_
    refine wlg_yes rfl (ro_cmp rfl rfl rfl) ?_
    refine wl (ro_pick rfl rfl rfl) ?_
    refine wl_nil (x_then (hK3 _ _ ?_))
    clear hK3 K3
    refine wc_cond rfl (fun hc16 => ?_) (fun hc16 => ?_)
    · try simp only [decide_eq_true_eq, decide_eq_false_iff_not, Bool.not_eq_true', Bool.not_eq_false', Bool.not_eq_eq_eq_not, Bool.not_true, Bool.not_false, beq_iff_eq, bne_iff_ne, ne_eq, beq_eq_false_iff_ne, bne_eq_false_iff_eq, gt_iff_lt, ge_iff_le, Int.not_lt, Int.not_le] at hc16
      refine c_seq (fun K4 hK4 => ?_)
      refine c_pi [(0, false), (1, false), (2, false), (3, false), (4, false), (5, false), (6, false), (7, false), (8, false), (9, true), (10, false)] (SameH _) mixed (by kernel_rfl) rfl (by kernel_rfl) (po_then (po_then (po_bp))) (sameH_now _ _) ?_ -- region 2 ops.go:178
      refine pi_ro rfl (fun w hS => ro_move rfl) ?_
      refine pi_ro rfl (fun w hS => ro_nilCheck rfl) ?_
      refine pi_ro rfl (fun w hS => ro_fieldAddr (k := 0) rfl fo_89_0) ?_
      refine pi_ro rfl (fun w hS => ro_loadB rfl sc_36 (Blk.of_heap hM hS) (m0)) ?_
      refine pi_ro rfl (fun w hS => ro_move rfl) ?_
      refine pi_ro rfl (fun w hS => ro_fieldAddr (k := 1) rfl fo_119_1) ?_
      refine pi_ro rfl (fun w hS => ro_loadB rfl sc_117 (Blk.of_heap (by assumption) hS) rfl) ?_
      refine pi_ro rfl (fun w hS => ro_fieldAddr (k := 1) rfl fo_119_1) ?_
      refine pi_ro rfl (fun w hS => ro_loadB rfl sc_117 (Blk.of_heap (by assumption) hS) rfl) ?_
      refine pi_call rfl rfl en_142 (Cmp142 (op := (op : Int)) ha hb) ?_
      rintro _ u0 ⟨rfl, rfl⟩
      refine ⟨sameH_now _ _, ?_⟩
      refine pi_ro rfl (fun w hS => ro_assign rfl) ?_
      refine pi_nil (x_then (hK4 _ _ ?_))
      clear hK4 K4
      refine c_ret (x_thenR ?_)
      refine bp_ret Tryz.results292 rfl ?_
      refine ⟨congrArg Value.bool (hq ?_), by first | exact hF | exact hF.thenDrew⟩
      unfold cmpV
      first
      | (exfalso; omega)
      | (repeat (first | rw [if_pos (by omega)] | rw [if_neg (by omega)])
         all_goals first
         | rfl
         | (rw [eqV_dec]; rfl))
    · try simp only [decide_eq_true_eq, decide_eq_false_iff_not, Bool.not_eq_true', Bool.not_eq_false', Bool.not_eq_eq_eq_not, Bool.not_true, Bool.not_false, beq_iff_eq, bne_iff_ne, ne_eq, beq_eq_false_iff_ne, bne_eq_false_iff_eq, gt_iff_lt, ge_iff_le, Int.not_lt, Int.not_le] at hc16
      refine c_skip (x_then (hK2 _ _ ?_))
      clear hK2 K2
      refine c_seq (fun K5 hK5 => ?_)
      refine c_seq (fun K6 hK6 => ?_)
      refine c_reg ?_ -- region 3 ops.go:180
      refine wl (ro_move rfl) ?_
      refine wl_nil (x_then (hK6 _ _ ?_))
      clear hK6 K6
      refine c_block ?_
      refine forget [(1, _), (6, _), (7, _), (27, _)] ⟨rfl, rfl, rfl, rfl, trivial⟩ (fun e => ?_)
      refine c_seq (fun K7 hK7 => ?_)
      refine c_reg ?_ -- region 4 ops.go:181
      refine wl (ro_cmp rfl rfl rfl) ?_
      refine wl (ro_assign rfl) ?_
      refine wl_nil (x_then (hK7 _ _ ?_))
      clear hK7 K7
      refine wc_cond rfl (fun hc28 => ?_) (fun hc28 => ?_)
      · try simp only [decide_eq_true_eq, decide_eq_false_iff_not, Bool.not_eq_true', Bool.not_eq_false', Bool.not_eq_eq_eq_not, Bool.not_true, Bool.not_false, beq_iff_eq, bne_iff_ne, ne_eq, beq_eq_false_iff_ne, bne_eq_false_iff_eq, gt_iff_lt, ge_iff_le, Int.not_lt, Int.not_le] at hc28
        refine c_seq (fun K8 hK8 => ?_)
        refine c_reg ?_ -- region 5 ops.go:182
        refine wl (ro_loadAggB rfl ag_119 (by assumption) rfl rfl) ?_
        refine wl (ro_loadAggB rfl ag_119 (by assumption) rfl rfl) ?_
        refine wl (ro_eqPV (a := a) (b := b) rfl rfl rfl) ?_
        refine wl (ro_assign rfl) ?_
        refine wl_nil (x_then (hK8 _ _ ?_))
        clear hK8 K8
        refine c_ret (x_blkR (x_thenR ?_))
        refine bp_ret Tryz.results292 rfl ?_
        refine ⟨congrArg Value.bool (hq ?_), by first | exact hF | exact hF.thenDrew⟩
        unfold cmpV
        first
        | (exfalso; omega)
        | (repeat (first | rw [if_pos (by omega)] | rw [if_neg (by omega)])
           all_goals first
           | rfl
           | (rw [eqV_dec]; rfl))
      · try simp only [decide_eq_true_eq, decide_eq_false_iff_not, Bool.not_eq_true', Bool.not_eq_false', Bool.not_eq_eq_eq_not, Bool.not_true, Bool.not_false, beq_iff_eq, bne_iff_ne, ne_eq, beq_eq_false_iff_ne, bne_eq_false_iff_eq, gt_iff_lt, ge_iff_le, Int.not_lt, Int.not_le] at hc28
        refine c_seq (fun K9 hK9 => ?_)
        refine c_reg ?_ -- region 6 ops.go:183
        refine wl (ro_cmp rfl rfl rfl) ?_
        refine wl (ro_assign rfl) ?_
        refine wl_nil (x_then (hK9 _ _ ?_))
        clear hK9 K9
        refine wc_cond rfl (fun hc33 => ?_) (fun hc33 => ?_)
        · try simp only [decide_eq_true_eq, decide_eq_false_iff_not, Bool.not_eq_true', Bool.not_eq_false', Bool.not_eq_eq_eq_not, Bool.not_true, Bool.not_false, beq_iff_eq, bne_iff_ne, ne_eq, beq_eq_false_iff_ne, bne_eq_false_iff_eq, gt_iff_lt, ge_iff_le, Int.not_lt, Int.not_le] at hc33
          refine c_seq (fun K10 hK10 => ?_)
          refine c_reg ?_ -- region 7 ops.go:184
          refine wl (ro_loadAggB rfl ag_119 (by assumption) rfl rfl) ?_
          refine wl (ro_loadAggB rfl ag_119 (by assumption) rfl rfl) ?_
          refine wl (ro_eqPV (a := a) (b := b) rfl rfl rfl) ?_
          refine wl (ro_assign rfl) ?_
          refine wl_nil (x_then (hK10 _ _ ?_))
          clear hK10 K10
          refine c_ret (x_blkR (x_thenR ?_))
          refine bp_ret Tryz.results292 rfl ?_
          refine ⟨congrArg Value.bool (hq ?_), by first | exact hF | exact hF.thenDrew⟩
          unfold cmpV
          first
          | (exfalso; omega)
          | (repeat (first | rw [if_pos (by omega)] | rw [if_neg (by omega)])
             all_goals first
             | rfl
             | (rw [eqV_dec]; rfl))
        · try simp only [decide_eq_true_eq, decide_eq_false_iff_not, Bool.not_eq_true', Bool.not_eq_false', Bool.not_eq_eq_eq_not, Bool.not_true, Bool.not_false, beq_iff_eq, bne_iff_ne, ne_eq, beq_eq_false_iff_ne, bne_eq_false_iff_eq, gt_iff_lt, ge_iff_le, Int.not_lt, Int.not_le] at hc33
          refine c_skip (x_blk (x_then (hK5 _ _ ?_)))
          clear hK5 K5
          refine c_seq (fun K11 hK11 => ?_)
          refine c_seq (fun K12 hK12 => ?_)
          refine c_reg ?_ -- region 8 ops.go:186
          refine wl (ro_fieldAddr (k := 0) rfl fo_119_0) ?_
          refine wl (ro_loadB rfl sc_3 (by assumption) rfl) ?_
          refine wl (ro_cmp rfl rfl rfl) ?_
          refine wl_fork rfl (fun hg41 => ?_) (fun hg41 => ?_)
          · try simp only [decide_eq_true_eq, decide_eq_false_iff_not, Bool.not_eq_true', Bool.not_eq_false', Bool.not_eq_eq_eq_not, Bool.not_true, Bool.not_false, beq_iff_eq, bne_iff_ne, ne_eq, beq_eq_false_iff_ne, bne_eq_false_iff_eq, gt_iff_lt, ge_iff_le, Int.not_lt, Int.not_le] at hg41
            refine wlg_no rfl ?_
            refine wlg_no rfl ?_
            refine wlg_no rfl ?_
            refine wl (ro_pick rfl rfl rfl) ?_
            refine wl_nil (x_then (hK12 _ _ ?_))
            clear hK12 K12
            refine wc_condT rfl ?_
            refine c_reg ?_ -- region 9 ops.go:187
            exfalso
            first
            | omega
            | (have : cmpV op a b = none := by unfold cmpV; repeat (first | rw [if_pos (by omega)] | rw [if_neg (by omega)])
               rw [hr] at this
               cases this)
          · try simp only [decide_eq_true_eq, decide_eq_false_iff_not, Bool.not_eq_true', Bool.not_eq_false', Bool.not_eq_eq_eq_not, Bool.not_true, Bool.not_false, beq_iff_eq, bne_iff_ne, ne_eq, beq_eq_false_iff_ne, bne_eq_false_iff_eq, gt_iff_lt, ge_iff_le, Int.not_lt, Int.not_le] at hg41
            refine wlg_yes rfl (ro_fieldAddr (k := 0) rfl fo_119_0) ?_
            refine wlg_yes rfl (ro_loadB rfl sc_3 (by assumption) rfl) ?_
            refine wlg_yes rfl (ro_cmp rfl rfl rfl) ?_
            refine wl (ro_pick rfl rfl rfl) ?_
            refine wl_nil (x_then (hK12 _ _ ?_))
            clear hK12 K12
            refine wc_cond rfl (fun hc45 => ?_) (fun hc45 => ?_)
            · try simp only [decide_eq_true_eq, decide_eq_false_iff_not, Bool.not_eq_true', Bool.not_eq_false', Bool.not_eq_eq_eq_not, Bool.not_true, Bool.not_false, beq_iff_eq, bne_iff_ne, ne_eq, beq_eq_false_iff_ne, bne_eq_false_iff_eq, gt_iff_lt, ge_iff_le, Int.not_lt, Int.not_le] at hc45
              refine c_reg ?_ -- region 9 ops.go:187
              exfalso
              first
              | omega
              | (have : cmpV op a b = none := by unfold cmpV; repeat (first | rw [if_pos (by omega)] | rw [if_neg (by omega)])
                 rw [hr] at this
                 cases this)
            · try simp only [decide_eq_true_eq, decide_eq_false_iff_not, Bool.not_eq_true', Bool.not_eq_false', Bool.not_eq_eq_eq_not, Bool.not_true, Bool.not_false, beq_iff_eq, bne_iff_ne, ne_eq, beq_eq_false_iff_ne, bne_eq_false_iff_eq, gt_iff_lt, ge_iff_le, Int.not_lt, Int.not_le] at hc45
              refine c_skip (x_then (hK11 _ _ ?_))
              clear hK11 K11
              refine c_seq (fun K13 hK13 => ?_)
              refine c_seq (fun K14 hK14 => ?_)
              refine c_reg ?_ -- region 10 ops.go:189
              refine wl (ro_move rfl) ?_
              refine wl_nil (x_then (hK14 _ _ ?_))
              clear hK14 K14
              refine c_block ?_
              refine forget [(6, _), (7, _), (47, _)] ⟨rfl, rfl, rfl, trivial⟩ (fun e => ?_)
              refine c_seq (fun K15 hK15 => ?_)
              refine c_reg ?_ -- region 11 ops.go:190
              refine wl (ro_cmp rfl rfl rfl) ?_
              refine wl (ro_assign rfl) ?_
              refine wl_nil (x_then (hK15 _ _ ?_))
              clear hK15 K15
              refine wc_cond rfl (fun hc48 => ?_) (fun hc48 => ?_)
              · try simp only [decide_eq_true_eq, decide_eq_false_iff_not, Bool.not_eq_true', Bool.not_eq_false', Bool.not_eq_eq_eq_not, Bool.not_true, Bool.not_false, beq_iff_eq, bne_iff_ne, ne_eq, beq_eq_false_iff_ne, bne_eq_false_iff_eq, gt_iff_lt, ge_iff_le, Int.not_lt, Int.not_le] at hc48
                refine c_seq (fun K16 hK16 => ?_)
                refine c_reg ?_ -- region 12 ops.go:191
                refine wl (ro_fieldAddr (k := 2) rfl fo_119_2) ?_
                refine wl (ro_loadB rfl sc_9 (by assumption) rfl) ?_
                refine wl (ro_fieldAddr (k := 2) rfl fo_119_2) ?_
                refine wl (ro_loadB rfl sc_9 (by assumption) rfl) ?_
                refine wl (ro_leS rfl rfl rfl) ?_
                refine wl (ro_assign rfl) ?_
                refine wl_nil (x_then (hK16 _ _ ?_))
                clear hK16 K16
                refine c_ret (x_blkR (x_thenR ?_))
                refine bp_ret Tryz.results292 rfl ?_
                refine ⟨congrArg Value.bool (hq ?_), by first | exact hF | exact hF.thenDrew⟩
                unfold cmpV
                first
                | (exfalso; omega)
                | (repeat (first | rw [if_pos (by omega)] | rw [if_neg (by omega)])
                   all_goals first
                   | rfl
                   | (rw [eqV_dec]; rfl))
              · try simp only [decide_eq_true_eq, decide_eq_false_iff_not, Bool.not_eq_true', Bool.not_eq_false', Bool.not_eq_eq_eq_not, Bool.not_true, Bool.not_false, beq_iff_eq, bne_iff_ne, ne_eq, beq_eq_false_iff_ne, bne_eq_false_iff_eq, gt_iff_lt, ge_iff_le, Int.not_lt, Int.not_le] at hc48
                refine c_seq (fun K17 hK17 => ?_)
                refine c_reg ?_ -- region 13 ops.go:192
                refine wl (ro_cmp rfl rfl rfl) ?_
                refine wl (ro_assign rfl) ?_
                refine wl_nil (x_then (hK17 _ _ ?_))
                clear hK17 K17
                refine wc_cond rfl (fun hc55 => ?_) (fun hc55 => ?_)
                · try simp only [decide_eq_true_eq, decide_eq_false_iff_not, Bool.not_eq_true', Bool.not_eq_false', Bool.not_eq_eq_eq_not, Bool.not_true, Bool.not_false, beq_iff_eq, bne_iff_ne, ne_eq, beq_eq_false_iff_ne, bne_eq_false_iff_eq, gt_iff_lt, ge_iff_le, Int.not_lt, Int.not_le] at hc55
                  refine c_seq (fun K18 hK18 => ?_)
                  refine c_reg ?_ -- region 14 ops.go:193
                  refine wl (ro_fieldAddr (k := 2) rfl fo_119_2) ?_
                  refine wl (ro_loadB rfl sc_9 (by assumption) rfl) ?_
                  refine wl (ro_fieldAddr (k := 2) rfl fo_119_2) ?_
                  refine wl (ro_loadB rfl sc_9 (by assumption) rfl) ?_
                  refine wl (ro_leS rfl rfl rfl) ?_
                  refine wl (ro_assign rfl) ?_
                  refine wl_nil (x_then (hK18 _ _ ?_))
                  clear hK18 K18
                  refine c_ret (x_blkR (x_thenR ?_))
                  refine bp_ret Tryz.results292 rfl ?_
                  refine ⟨congrArg Value.bool (hq ?_), by first | exact hF | exact hF.thenDrew⟩
                  unfold cmpV
                  first
                  | (exfalso; omega)
                  | (repeat (first | rw [if_pos (by omega)] | rw [if_neg (by omega)])
                     all_goals first
                     | rfl
                     | (rw [eqV_dec]; rfl))
                · try simp only [decide_eq_true_eq, decide_eq_false_iff_not, Bool.not_eq_true', Bool.not_eq_false', Bool.not_eq_eq_eq_not, Bool.not_true, Bool.not_false, beq_iff_eq, bne_iff_ne, ne_eq, beq_eq_false_iff_ne, bne_eq_false_iff_eq, gt_iff_lt, ge_iff_le, Int.not_lt, Int.not_le] at hc55
                  refine c_seq (fun K19 hK19 => ?_)
                  refine c_reg ?_ -- region 15 ops.go:194
                  refine wl (ro_cmp rfl rfl rfl) ?_
                  refine wl (ro_assign rfl) ?_
                  refine wl_nil (x_then (hK19 _ _ ?_))
                  clear hK19 K19
                  refine wc_cond rfl (fun hc62 => ?_) (fun hc62 => ?_)
                  · try simp only [decide_eq_true_eq, decide_eq_false_iff_not, Bool.not_eq_true', Bool.not_eq_false', Bool.not_eq_eq_eq_not, Bool.not_true, Bool.not_false, beq_iff_eq, bne_iff_ne, ne_eq, beq_eq_false_iff_ne, bne_eq_false_iff_eq, gt_iff_lt, ge_iff_le, Int.not_lt, Int.not_le] at hc62
                    refine c_seq (fun K20 hK20 => ?_)
                    refine c_reg ?_ -- region 16 ops.go:195
                    refine wl (ro_fieldAddr (k := 2) rfl fo_119_2) ?_
                    refine wl (ro_loadB rfl sc_9 (by assumption) rfl) ?_
                    refine wl (ro_fieldAddr (k := 2) rfl fo_119_2) ?_
                    refine wl (ro_loadB rfl sc_9 (by assumption) rfl) ?_
                    refine wl (ro_leS rfl rfl rfl) ?_
                    refine wl (ro_assign rfl) ?_
                    refine wl_nil (x_then (hK20 _ _ ?_))
                    clear hK20 K20
                    refine c_ret (x_blkR (x_thenR ?_))
                    refine bp_ret Tryz.results292 rfl ?_
                    refine ⟨congrArg Value.bool (hq ?_), by first | exact hF | exact hF.thenDrew⟩
                    unfold cmpV
                    first
                    | (exfalso; omega)
                    | (repeat (first | rw [if_pos (by omega)] | rw [if_neg (by omega)])
                       all_goals first
                       | rfl
                       | (rw [eqV_dec]; rfl))
                  · try simp only [decide_eq_true_eq, decide_eq_false_iff_not, Bool.not_eq_true', Bool.not_eq_false', Bool.not_eq_eq_eq_not, Bool.not_true, Bool.not_false, beq_iff_eq, bne_iff_ne, ne_eq, beq_eq_false_iff_ne, bne_eq_false_iff_eq, gt_iff_lt, ge_iff_le, Int.not_lt, Int.not_le] at hc62
                    refine c_skip (x_blk (x_then (hK13 _ _ ?_)))
                    clear hK13 K13
                    refine forget [(6, _), (7, _)] ⟨rfl, rfl, trivial⟩ (fun e => ?_)
                    refine c_seq (fun K21 hK21 => ?_)
                    refine c_reg ?_ -- region 17 ops.go:197
                    refine wl (ro_fieldAddr (k := 2) rfl fo_119_2) ?_
                    refine wl (ro_loadB rfl sc_9 (by assumption) rfl) ?_
                    refine wl (ro_fieldAddr (k := 2) rfl fo_119_2) ?_
                    refine wl (ro_loadB rfl sc_9 (by assumption) rfl) ?_
                    refine wl (ro_leS rfl rfl rfl) ?_
                    refine wl (ro_assign rfl) ?_
                    refine wl_nil (x_then (hK21 _ _ ?_))
                    clear hK21 K21
                    refine c_ret ?_
                    refine bp_ret Tryz.results292 rfl ?_
                    refine ⟨congrArg Value.bool (hq ?_), by first | exact hF | exact hF.thenDrew⟩
                    unfold cmpV
                    first
                    | (exfalso; omega)
                    | (repeat (first | rw [if_pos (by omega)] | rw [if_neg (by omega)])
                       all_goals first
                       | rfl
                       | (rw [eqV_dec]; rfl))
  · try simp only [decide_eq_true_eq, decide_eq_false_iff_not, Bool.not_eq_true', Bool.not_eq_false', Bool.not_eq_eq_eq_not, Bool.not_true, Bool.not_false, beq_iff_eq, bne_iff_ne, ne_eq, beq_eq_false_iff_ne, bne_eq_false_iff_eq, gt_iff_lt, ge_iff_le, Int.not_lt, Int.not_le] at hg12
    refine wlg_no rfl ?_
    refine wlg_no rfl ?_
    refine wlg_no rfl ?_
    refine wl (ro_pick rfl rfl rfl) ?_
    refine wl_nil (x_then (hK3 _ _ ?_))
    clear hK3 K3
    refine wc_condF rfl ?_
    refine c_skip (x_then (hK2 _ _ ?_))
    clear hK2 K2
    refine c_seq (fun K22 hK22 => ?_)
    refine c_seq (fun K23 hK23 => ?_)
    refine c_reg ?_ -- region 3 ops.go:180
    refine wl (ro_move rfl) ?_
    refine wl_nil (x_then (hK23 _ _ ?_))
    clear hK23 K23
    refine c_block ?_
    refine forget [(1, _), (6, _), (7, _), (27, _)] ⟨rfl, rfl, rfl, rfl, trivial⟩ (fun e => ?_)
    refine c_seq (fun K24 hK24 => ?_)
    refine c_reg ?_ -- region 4 ops.go:181
    refine wl (ro_cmp rfl rfl rfl) ?_
    refine wl (ro_assign rfl) ?_
    refine wl_nil (x_then (hK24 _ _ ?_))
    clear hK24 K24
    refine wc_cond rfl (fun hc28 => ?_) (fun hc28 => ?_)
    · try simp only [decide_eq_true_eq, decide_eq_false_iff_not, Bool.not_eq_true', Bool.not_eq_false', Bool.not_eq_eq_eq_not, Bool.not_true, Bool.not_false, beq_iff_eq, bne_iff_ne, ne_eq, beq_eq_false_iff_ne, bne_eq_false_iff_eq, gt_iff_lt, ge_iff_le, Int.not_lt, Int.not_le] at hc28
      refine c_seq (fun K25 hK25 => ?_)
      refine c_reg ?_ -- region 5 ops.go:182
      refine wl (ro_loadAggB rfl ag_119 (by assumption) rfl rfl) ?_
      refine wl (ro_loadAggB rfl ag_119 (by assumption) rfl rfl) ?_
      refine wl (ro_eqPV (a := a) (b := b) rfl rfl rfl) ?_
      refine wl (ro_assign rfl) ?_
      refine wl_nil (x_then (hK25 _ _ ?_))
      clear hK25 K25
      refine c_ret (x_blkR (x_thenR ?_))
      refine bp_ret Tryz.results292 rfl ?_
      refine ⟨congrArg Value.bool (hq ?_), by first | exact hF | exact hF.thenDrew⟩
      unfold cmpV
      first
      | (exfalso; omega)
      | (repeat (first | rw [if_pos (by omega)] | rw [if_neg (by omega)])
         all_goals first
         | rfl
         | (rw [eqV_dec]; rfl))
    · try simp only [decide_eq_true_eq, decide_eq_false_iff_not, Bool.not_eq_true', Bool.not_eq_false', Bool.not_eq_eq_eq_not, Bool.not_true, Bool.not_false, beq_iff_eq, bne_iff_ne, ne_eq, beq_eq_false_iff_ne, bne_eq_false_iff_eq, gt_iff_lt, ge_iff_le, Int.not_lt, Int.not_le] at hc28
      refine c_seq (fun K26 hK26 => ?_)
      refine c_reg ?_ -- region 6 ops.go:183
      refine wl (ro_cmp rfl rfl rfl) ?_
      refine wl (ro_assign rfl) ?_
      refine wl_nil (x_then (hK26 _ _ ?_))
      clear hK26 K26
      refine wc_cond rfl (fun hc33 => ?_) (fun hc33 => ?_)
      · try simp only [decide_eq_true_eq, decide_eq_false_iff_not, Bool.not_eq_true', Bool.not_eq_false', Bool.not_eq_eq_eq_not, Bool.not_true, Bool.not_false, beq_iff_eq, bne_iff_ne, ne_eq, beq_eq_false_iff_ne, bne_eq_false_iff_eq, gt_iff_lt, ge_iff_le, Int.not_lt, Int.not_le] at hc33
        refine c_seq (fun K27 hK27 => ?_)
        refine c_reg ?_ -- region 7 ops.go:184
        refine wl (ro_loadAggB rfl ag_119 (by assumption) rfl rfl) ?_
        refine wl (ro_loadAggB rfl ag_119 (by assumption) rfl rfl) ?_
        refine wl (ro_eqPV (a := a) (b := b) rfl rfl rfl) ?_
        refine wl (ro_assign rfl) ?_
        refine wl_nil (x_then (hK27 _ _ ?_))
        clear hK27 K27
        refine c_ret (x_blkR (x_thenR ?_))
        refine bp_ret Tryz.results292 rfl ?_
        refine ⟨congrArg Value.bool (hq ?_), by first | exact hF | exact hF.thenDrew⟩
        unfold cmpV
        first
        | (exfalso; omega)
        | (repeat (first | rw [if_pos (by omega)] | rw [if_neg (by omega)])
           all_goals first
           | rfl
           | (rw [eqV_dec]; rfl))
      · try simp only [decide_eq_true_eq, decide_eq_false_iff_not, Bool.not_eq_true', Bool.not_eq_false', Bool.not_eq_eq_eq_not, Bool.not_true, Bool.not_false, beq_iff_eq, bne_iff_ne, ne_eq, beq_eq_false_iff_ne, bne_eq_false_iff_eq, gt_iff_lt, ge_iff_le, Int.not_lt, Int.not_le] at hc33
        refine c_skip (x_blk (x_then (hK22 _ _ ?_)))
        clear hK22 K22
        refine c_seq (fun K28 hK28 => ?_)
        refine c_seq (fun K29 hK29 => ?_)
        refine c_reg ?_ -- region 8 ops.go:186
        refine wl (ro_fieldAddr (k := 0) rfl fo_119_0) ?_
        refine wl (ro_loadB rfl sc_3 (by assumption) rfl) ?_
        refine wl (ro_cmp rfl rfl rfl) ?_
        refine wl_fork rfl (fun hg41 => ?_) (fun hg41 => ?_)
        · try simp only [decide_eq_true_eq, decide_eq_false_iff_not, Bool.not_eq_true', Bool.not_eq_false', Bool.not_eq_eq_eq_not, Bool.not_true, Bool.not_false, beq_iff_eq, bne_iff_ne, ne_eq, beq_eq_false_iff_ne, bne_eq_false_iff_eq, gt_iff_lt, ge_iff_le, Int.not_lt, Int.not_le] at hg41
          refine wlg_no rfl ?_
          refine wlg_no rfl ?_
          refine wlg_no rfl ?_
          refine wl (ro_pick rfl rfl rfl) ?_
          refine wl_nil (x_then (hK29 _ _ ?_))
          clear hK29 K29
          refine wc_condT rfl ?_
          refine c_reg ?_ -- region 9 ops.go:187
          exfalso
          first
          | omega
          | (have : cmpV op a b = none := by unfold cmpV; repeat (first | rw [if_pos (by omega)] | rw [if_neg (by omega)])
             rw [hr] at this
             cases this)
        · try simp only [decide_eq_true_eq, decide_eq_false_iff_not, Bool.not_eq_true', Bool.not_eq_false', Bool.not_eq_eq_eq_not, Bool.not_true, Bool.not_false, beq_iff_eq, bne_iff_ne, ne_eq, beq_eq_false_iff_ne, bne_eq_false_iff_eq, gt_iff_lt, ge_iff_le, Int.not_lt, Int.not_le] at hg41
          refine wlg_yes rfl (ro_fieldAddr (k := 0) rfl fo_119_0) ?_
          refine wlg_yes rfl (ro_loadB rfl sc_3 (by assumption) rfl) ?_
          refine wlg_yes rfl (ro_cmp rfl rfl rfl) ?_
          refine wl (ro_pick rfl rfl rfl) ?_
          refine wl_nil (x_then (hK29 _ _ ?_))
          clear hK29 K29
          refine wc_cond rfl (fun hc45 => ?_) (fun hc45 => ?_)
          · try simp only [decide_eq_true_eq, decide_eq_false_iff_not, Bool.not_eq_true', Bool.not_eq_false', Bool.not_eq_eq_eq_not, Bool.not_true, Bool.not_false, beq_iff_eq, bne_iff_ne, ne_eq, beq_eq_false_iff_ne, bne_eq_false_iff_eq, gt_iff_lt, ge_iff_le, Int.not_lt, Int.not_le] at hc45
            refine c_reg ?_ -- region 9 ops.go:187
            exfalso
            first
            | omega
            | (have : cmpV op a b = none := by unfold cmpV; repeat (first | rw [if_pos (by omega)] | rw [if_neg (by omega)])
               rw [hr] at this
               cases this)
          · try simp only [decide_eq_true_eq, decide_eq_false_iff_not, Bool.not_eq_true', Bool.not_eq_false', Bool.not_eq_eq_eq_not, Bool.not_true, Bool.not_false, beq_iff_eq, bne_iff_ne, ne_eq, beq_eq_false_iff_ne, bne_eq_false_iff_eq, gt_iff_lt, ge_iff_le, Int.not_lt, Int.not_le] at hc45
            refine c_skip (x_then (hK28 _ _ ?_))
            clear hK28 K28
            refine c_seq (fun K30 hK30 => ?_)
            refine c_seq (fun K31 hK31 => ?_)
            refine c_reg ?_ -- region 10 ops.go:189
            refine wl (ro_move rfl) ?_
            refine wl_nil (x_then (hK31 _ _ ?_))
            clear hK31 K31
            refine c_block ?_
            refine forget [(6, _), (7, _), (47, _)] ⟨rfl, rfl, rfl, trivial⟩ (fun e => ?_)
            refine c_seq (fun K32 hK32 => ?_)
            refine c_reg ?_ -- region 11 ops.go:190
            refine wl (ro_cmp rfl rfl rfl) ?_
            refine wl (ro_assign rfl) ?_
            refine wl_nil (x_then (hK32 _ _ ?_))
            clear hK32 K32
            refine wc_cond rfl (fun hc48 => ?_) (fun hc48 => ?_)
            · try simp only [decide_eq_true_eq, decide_eq_false_iff_not, Bool.not_eq_true', Bool.not_eq_false', Bool.not_eq_eq_eq_not, Bool.not_true, Bool.not_false, beq_iff_eq, bne_iff_ne, ne_eq, beq_eq_false_iff_ne, bne_eq_false_iff_eq, gt_iff_lt, ge_iff_le, Int.not_lt, Int.not_le] at hc48
              refine c_seq (fun K33 hK33 => ?_)
              refine c_reg ?_ -- region 12 ops.go:191
              refine wl (ro_fieldAddr (k := 2) rfl fo_119_2) ?_
              refine wl (ro_loadB rfl sc_9 (by assumption) rfl) ?_
              refine wl (ro_fieldAddr (k := 2) rfl fo_119_2) ?_
              refine wl (ro_loadB rfl sc_9 (by assumption) rfl) ?_
              refine wl (ro_leS rfl rfl rfl) ?_
              refine wl (ro_assign rfl) ?_
              refine wl_nil (x_then (hK33 _ _ ?_))
              clear hK33 K33
              refine c_ret (x_blkR (x_thenR ?_))
              refine bp_ret Tryz.results292 rfl ?_
              refine ⟨congrArg Value.bool (hq ?_), by first | exact hF | exact hF.thenDrew⟩
              unfold cmpV
              first
              | (exfalso; omega)
              | (repeat (first | rw [if_pos (by omega)] | rw [if_neg (by omega)])
                 all_goals first
                 | rfl
                 | (rw [eqV_dec]; rfl))
            · try simp only [decide_eq_true_eq, decide_eq_false_iff_not, Bool.not_eq_true', Bool.not_eq_false', Bool.not_eq_eq_eq_not, Bool.not_true, Bool.not_false, beq_iff_eq, bne_iff_ne, ne_eq, beq_eq_false_iff_ne, bne_eq_false_iff_eq, gt_iff_lt, ge_iff_le, Int.not_lt, Int.not_le] at hc48
              refine c_seq (fun K34 hK34 => ?_)
              refine c_reg ?_ -- region 13 ops.go:192
              refine wl (ro_cmp rfl rfl rfl) ?_
              refine wl (ro_assign rfl) ?_
              refine wl_nil (x_then (hK34 _ _ ?_))
              clear hK34 K34
              refine wc_cond rfl (fun hc55 => ?_) (fun hc55 => ?_)
              · try simp only [decide_eq_true_eq, decide_eq_false_iff_not, Bool.not_eq_true', Bool.not_eq_false', Bool.not_eq_eq_eq_not, Bool.not_true, Bool.not_false, beq_iff_eq, bne_iff_ne, ne_eq, beq_eq_false_iff_ne, bne_eq_false_iff_eq, gt_iff_lt, ge_iff_le, Int.not_lt, Int.not_le] at hc55
                refine c_seq (fun K35 hK35 => ?_)
                refine c_reg ?_ -- region 14 ops.go:193
                refine wl (ro_fieldAddr (k := 2) rfl fo_119_2) ?_
                refine wl (ro_loadB rfl sc_9 (by assumption) rfl) ?_
                refine wl (ro_fieldAddr (k := 2) rfl fo_119_2) ?_
                refine wl (ro_loadB rfl sc_9 (by assumption) rfl) ?_
                refine wl (ro_leS rfl rfl rfl) ?_
                refine wl (ro_assign rfl) ?_
                refine wl_nil (x_then (hK35 _ _ ?_))
                clear hK35 K35
                refine c_ret (x_blkR (x_thenR ?_))
                refine bp_ret Tryz.results292 rfl ?_
                refine ⟨congrArg Value.bool (hq ?_), by first | exact hF | exact hF.thenDrew⟩
                unfold cmpV
                first
                | (exfalso; omega)
                | (repeat (first | rw [if_pos (by omega)] | rw [if_neg (by omega)])
                   all_goals first
                   | rfl
                   | (rw [eqV_dec]; rfl))
              · try simp only [decide_eq_true_eq, decide_eq_false_iff_not, Bool.not_eq_true', Bool.not_eq_false', Bool.not_eq_eq_eq_not, Bool.not_true, Bool.not_false, beq_iff_eq, bne_iff_ne, ne_eq, beq_eq_false_iff_ne, bne_eq_false_iff_eq, gt_iff_lt, ge_iff_le, Int.not_lt, Int.not_le] at hc55
                refine c_seq (fun K36 hK36 => ?_)
                refine c_reg ?_ -- region 15 ops.go:194
                refine wl (ro_cmp rfl rfl rfl) ?_
                refine wl (ro_assign rfl) ?_
                refine wl_nil (x_then (hK36 _ _ ?_))
                clear hK36 K36
                refine wc_cond rfl (fun hc62 => ?_) (fun hc62 => ?_)
                · try simp only [decide_eq_true_eq, decide_eq_false_iff_not, Bool.not_eq_true', Bool.not_eq_false', Bool.not_eq_eq_eq_not, Bool.not_true, Bool.not_false, beq_iff_eq, bne_iff_ne, ne_eq, beq_eq_false_iff_ne, bne_eq_false_iff_eq, gt_iff_lt, ge_iff_le, Int.not_lt, Int.not_le] at hc62
                  refine c_seq (fun K37 hK37 => ?_)
                  refine c_reg ?_ -- region 16 ops.go:195
                  refine wl (ro_fieldAddr (k := 2) rfl fo_119_2) ?_
                  refine wl (ro_loadB rfl sc_9 (by assumption) rfl) ?_
                  refine wl (ro_fieldAddr (k := 2) rfl fo_119_2) ?_
                  refine wl (ro_loadB rfl sc_9 (by assumption) rfl) ?_
                  refine wl (ro_leS rfl rfl rfl) ?_
                  refine wl (ro_assign rfl) ?_
                  refine wl_nil (x_then (hK37 _ _ ?_))
                  clear hK37 K37
                  refine c_ret (x_blkR (x_thenR ?_))
                  refine bp_ret Tryz.results292 rfl ?_
                  refine ⟨congrArg Value.bool (hq ?_), by first | exact hF | exact hF.thenDrew⟩
                  unfold cmpV
                  first
                  | (exfalso; omega)
                  | (repeat (first | rw [if_pos (by omega)] | rw [if_neg (by omega)])
                     all_goals first
                     | rfl
                     | (rw [eqV_dec]; rfl))
                · try simp only [decide_eq_true_eq, decide_eq_false_iff_not, Bool.not_eq_true', Bool.not_eq_false', Bool.not_eq_eq_eq_not, Bool.not_true, Bool.not_false, beq_iff_eq, bne_iff_ne, ne_eq, beq_eq_false_iff_ne, bne_eq_false_iff_eq, gt_iff_lt, ge_iff_le, Int.not_lt, Int.not_le] at hc62
                  refine c_skip (x_blk (x_then (hK30 _ _ ?_)))
                  clear hK30 K30
                  refine forget [(6, _), (7, _)] ⟨rfl, rfl, trivial⟩ (fun e => ?_)
                  refine c_seq (fun K38 hK38 => ?_)
                  refine c_reg ?_ -- region 17 ops.go:197
                  refine wl (ro_fieldAddr (k := 2) rfl fo_119_2) ?_
                  refine wl (ro_loadB rfl sc_9 (by assumption) rfl) ?_
                  refine wl (ro_fieldAddr (k := 2) rfl fo_119_2) ?_
                  refine wl (ro_loadB rfl sc_9 (by assumption) rfl) ?_
                  refine wl (ro_leS rfl rfl rfl) ?_
                  refine wl (ro_assign rfl) ?_
                  refine wl_nil (x_then (hK38 _ _ ?_))
                  clear hK38 K38
                  refine c_ret ?_
                  refine bp_ret Tryz.results292 rfl ?_
                  refine ⟨congrArg Value.bool (hq ?_), by first | exact hF | exact hF.thenDrew⟩
                  unfold cmpV
                  first
                  | (exfalso; omega)
                  | (repeat (first | rw [if_pos (by omega)] | rw [if_neg (by omega)])
                     all_goals first
                     | rfl
                     | (rw [eqV_dec]; rfl))
set_option maxHeartbeats 4000000 in
theorem cmpN292 (hz : Mz C w) {op : Nat} {a b : PV} (hr : cmpV op a b = none) (ha : W64 a.N) (hb : W64 b.N) (h1 : 1 ≤ op) (h6 : op ≤ 6) : RetP Tryz.prog 292 [ptr C.E.mb, i64c op, pv a, pv b] w (fun _ _ => False) (Thr (vStr mCompare) w) := by
  have hF : Fram none' w w := Fram.refl _ _
  obtain ⟨lM, hM, m0, m1⟩ := hz
  have hx : ¬ (a.T = 2 ∧ b.T = 2) ∧ ¬ op = 1 ∧ ¬ op = 2 ∧ ¬ (a.T = 3 ∧ b.T = 3) := by
    unfold cmpV at hr
    refine ⟨(fun q => by rw [if_pos q] at hr; cases hr), fun q => ?_, fun q => ?_, fun q => ?_⟩
    · by_cases h2 : a.T = 2 ∧ b.T = 2
      · rw [if_pos h2] at hr; cases hr
      · rw [if_neg h2, if_pos q] at hr; cases hr
    · by_cases h2 : a.T = 2 ∧ b.T = 2
      · rw [if_pos h2] at hr; cases hr
      · rw [if_neg h2, if_neg (by omega), if_pos q] at hr; cases hr
    · by_cases h2 : op = 1
      · rw [if_neg (by omega), if_pos h2] at hr; cases hr
      · by_cases h3 : op = 2
        · rw [if_neg (by omega), if_neg h2, if_pos h3] at hr; cases hr
        · rw [if_neg (by omega), if_neg h2, if_neg h3, if_pos q] at hr; cases hr
  obtain ⟨x1, x2, x3, x4⟩ := hx
  refine retp_of Tryz.func292 rfl Tryz.ntmps292 rfl ?_
  refine c_seq (fun K1 hK1 => ?_)
  refine c_reg ?_ -- region 0 ops.go:176
  refine wl_box (cs := (pvc a)) rfl rfl (fun b6 w1 hbb6 h6 F1 => ?_)
  have hbsb6 := Nat.le_trans hF.size hbb6
  have hneC.E.mbb6 : C.E.mb < b6 := Nat.lt_of_lt_of_le hM.lt hbb6
  replace hF := hF.thenDrew.thenN F1
  replace hM := F1.blkN hM
  refine wl_box (cs := (pvc b)) rfl rfl (fun b7 w2 hbb7 h7 F2 => ?_)
  have hbsb7 := Nat.le_trans hF.size hbb7
  have hneC.E.mbb7 : C.E.mb < b7 := Nat.lt_of_lt_of_le hM.lt hbb7
  have hneb6b7 : b6 < b7 := Nat.lt_of_lt_of_le h6.lt hbb7
  replace hF := hF.thenDrew.thenN F2
  replace hM := F2.blkN hM
  replace h6 := F2.blkN h6
  refine wl (ro_assign rfl) ?_
  refine wl_nil (x_then (hK1 _ _ ?_))
  clear hK1 K1
  refine c_seq (fun K2 hK2 => ?_)
  refine c_seq (fun K3 hK3 => ?_)
  refine c_reg ?_ -- region 1 ops.go:177
  refine wl (ro_fieldAddr (k := 0) rfl fo_119_0) ?_
  refine wl (ro_loadB rfl sc_3 (by assumption) rfl) ?_
  refine wl (ro_cmp rfl rfl rfl) ?_
  refine wl_fork rfl (fun hg12 => ?_) (fun hg12 => ?_)
  · try simp only [decide_eq_true_eq, decide_eq_false_iff_not, Bool.not_eq_true', Bool.not_eq_false', Bool.not_eq_eq_eq_not, Bool.not_true, Bool.not_false, beq_iff_eq, bne_iff_ne, ne_eq, beq_eq_false_iff_ne, bne_eq_false_iff_eq, gt_iff_lt, ge_iff_le, Int.not_lt, Int.not_le] at hg12
    refine wlg_yes rfl (ro_fieldAddr (k := 0) rfl fo_119_0) ?_
    refine wlg_yes rfl (ro_loadB rfl sc_3 (by assumption) rfl) ?_
    refine wlg_yes rfl (ro_cmp rfl rfl rfl) ?_
    refine wl (ro_pick rfl rfl rfl) ?_
    refine wl_nil (x_then (hK3 _ _ ?_))
    clear hK3 K3
    refine wc_cond rfl (fun hc16 => ?_) (fun hc16 => ?_)
    · try simp only [decide_eq_true_eq, decide_eq_false_iff_not, Bool.not_eq_true', Bool.not_eq_false', Bool.not_eq_eq_eq_not, Bool.not_true, Bool.not_false, beq_iff_eq, bne_iff_ne, ne_eq, beq_eq_false_iff_ne, bne_eq_false_iff_eq, gt_iff_lt, ge_iff_le, Int.not_lt, Int.not_le] at hc16
      exfalso; omega
    · try simp only [decide_eq_true_eq, decide_eq_false_iff_not, Bool.not_eq_true', Bool.not_eq_false', Bool.not_eq_eq_eq_not, Bool.not_true, Bool.not_false, beq_iff_eq, bne_iff_ne, ne_eq, beq_eq_false_iff_ne, bne_eq_false_iff_eq, gt_iff_lt, ge_iff_le, Int.not_lt, Int.not_le] at hc16
      refine c_skip (x_then (hK2 _ _ ?_))
      clear hK2 K2
      refine c_seq (fun K4 hK4 => ?_)
      refine c_seq (fun K5 hK5 => ?_)
      refine c_reg ?_ -- region 3 ops.go:180
      refine wl (ro_move rfl) ?_
      refine wl_nil (x_then (hK5 _ _ ?_))
      clear hK5 K5
      refine c_block ?_
      refine forget [(1, _), (6, _), (7, _), (27, _)] ⟨rfl, rfl, rfl, rfl, trivial⟩ (fun e => ?_)
      refine c_seq (fun K6 hK6 => ?_)
      refine c_reg ?_ -- region 4 ops.go:181
      refine wl (ro_cmp rfl rfl rfl) ?_
      refine wl (ro_assign rfl) ?_
      refine wl_nil (x_then (hK6 _ _ ?_))
      clear hK6 K6
      refine wc_cond rfl (fun hc28 => ?_) (fun hc28 => ?_)
      · try simp only [decide_eq_true_eq, decide_eq_false_iff_not, Bool.not_eq_true', Bool.not_eq_false', Bool.not_eq_eq_eq_not, Bool.not_true, Bool.not_false, beq_iff_eq, bne_iff_ne, ne_eq, beq_eq_false_iff_ne, bne_eq_false_iff_eq, gt_iff_lt, ge_iff_le, Int.not_lt, Int.not_le] at hc28
        exfalso; omega
      · try simp only [decide_eq_true_eq, decide_eq_false_iff_not, Bool.not_eq_true', Bool.not_eq_false', Bool.not_eq_eq_eq_not, Bool.not_true, Bool.not_false, beq_iff_eq, bne_iff_ne, ne_eq, beq_eq_false_iff_ne, bne_eq_false_iff_eq, gt_iff_lt, ge_iff_le, Int.not_lt, Int.not_le] at hc28
        refine c_seq (fun K7 hK7 => ?_)
        refine c_reg ?_ -- region 6 ops.go:183
        refine wl (ro_cmp rfl rfl rfl) ?_
        refine wl (ro_assign rfl) ?_
        refine wl_nil (x_then (hK7 _ _ ?_))
        clear hK7 K7
        refine wc_cond rfl (fun hc33 => ?_) (fun hc33 => ?_)
        · try simp only [decide_eq_true_eq, decide_eq_false_iff_not, Bool.not_eq_true', Bool.not_eq_false', Bool.not_eq_eq_eq_not, Bool.not_true, Bool.not_false, beq_iff_eq, bne_iff_ne, ne_eq, beq_eq_false_iff_ne, bne_eq_false_iff_eq, gt_iff_lt, ge_iff_le, Int.not_lt, Int.not_le] at hc33
          exfalso; omega
        · try simp only [decide_eq_true_eq, decide_eq_false_iff_not, Bool.not_eq_true', Bool.not_eq_false', Bool.not_eq_eq_eq_not, Bool.not_true, Bool.not_false, beq_iff_eq, bne_iff_ne, ne_eq, beq_eq_false_iff_ne, bne_eq_false_iff_eq, gt_iff_lt, ge_iff_le, Int.not_lt, Int.not_le] at hc33
          refine c_skip (x_blk (x_then (hK4 _ _ ?_)))
          clear hK4 K4
          refine c_seq (fun K8 hK8 => ?_)
          refine c_seq (fun K9 hK9 => ?_)
          refine c_reg ?_ -- region 8 ops.go:186
          refine wl (ro_fieldAddr (k := 0) rfl fo_119_0) ?_
          refine wl (ro_loadB rfl sc_3 (by assumption) rfl) ?_
          refine wl (ro_cmp rfl rfl rfl) ?_
          refine wl_fork rfl (fun hg41 => ?_) (fun hg41 => ?_)
          · try simp only [decide_eq_true_eq, decide_eq_false_iff_not, Bool.not_eq_true', Bool.not_eq_false', Bool.not_eq_eq_eq_not, Bool.not_true, Bool.not_false, beq_iff_eq, bne_iff_ne, ne_eq, beq_eq_false_iff_ne, bne_eq_false_iff_eq, gt_iff_lt, ge_iff_le, Int.not_lt, Int.not_le] at hg41
            refine wlg_no rfl ?_
            refine wlg_no rfl ?_
            refine wlg_no rfl ?_
            refine wl (ro_pick rfl rfl rfl) ?_
            refine wl_nil (x_then (hK9 _ _ ?_))
            clear hK9 K9
            refine wc_condT rfl ?_
            refine c_reg ?_ -- region 9 ops.go:187
            refine wl_callP rfl en_259 (raise259) (fun pv w9 hE => bpp_pan (P := Tryz.prog) (fn := Tryz.f292) ((let ⟨b, k1, k2, k3, k4⟩ := hE; ⟨b, k1, k2, hF.trans k3, by have := hF.size; omega⟩))) ?_
            rintro _ _ ⟨⟩
          · try simp only [decide_eq_true_eq, decide_eq_false_iff_not, Bool.not_eq_true', Bool.not_eq_false', Bool.not_eq_eq_eq_not, Bool.not_true, Bool.not_false, beq_iff_eq, bne_iff_ne, ne_eq, beq_eq_false_iff_ne, bne_eq_false_iff_eq, gt_iff_lt, ge_iff_le, Int.not_lt, Int.not_le] at hg41
            refine wlg_yes rfl (ro_fieldAddr (k := 0) rfl fo_119_0) ?_
            refine wlg_yes rfl (ro_loadB rfl sc_3 (by assumption) rfl) ?_
            refine wlg_yes rfl (ro_cmp rfl rfl rfl) ?_
            refine wl (ro_pick rfl rfl rfl) ?_
            refine wl_nil (x_then (hK9 _ _ ?_))
            clear hK9 K9
            refine wc_cond rfl (fun hc45 => ?_) (fun hc45 => ?_)
            · try simp only [decide_eq_true_eq, decide_eq_false_iff_not, Bool.not_eq_true', Bool.not_eq_false', Bool.not_eq_eq_eq_not, Bool.not_true, Bool.not_false, beq_iff_eq, bne_iff_ne, ne_eq, beq_eq_false_iff_ne, bne_eq_false_iff_eq, gt_iff_lt, ge_iff_le, Int.not_lt, Int.not_le] at hc45
              refine c_reg ?_ -- region 9 ops.go:187
              refine wl_callP rfl en_259 (raise259) (fun pv w9 hE => bpp_pan (P := Tryz.prog) (fn := Tryz.f292) ((let ⟨b, k1, k2, k3, k4⟩ := hE; ⟨b, k1, k2, hF.trans k3, by have := hF.size; omega⟩))) ?_
              rintro _ _ ⟨⟩
            · try simp only [decide_eq_true_eq, decide_eq_false_iff_not, Bool.not_eq_true', Bool.not_eq_false', Bool.not_eq_eq_eq_not, Bool.not_true, Bool.not_false, beq_iff_eq, bne_iff_ne, ne_eq, beq_eq_false_iff_ne, bne_eq_false_iff_eq, gt_iff_lt, ge_iff_le, Int.not_lt, Int.not_le] at hc45
              exfalso; omega
  · try simp only [decide_eq_true_eq, decide_eq_false_iff_not, Bool.not_eq_true', Bool.not_eq_false', Bool.not_eq_eq_eq_not, Bool.not_true, Bool.not_false, beq_iff_eq, bne_iff_ne, ne_eq, beq_eq_false_iff_ne, bne_eq_false_iff_eq, gt_iff_lt, ge_iff_le, Int.not_lt, Int.not_le] at hg12
    refine wlg_no rfl ?_
    refine wlg_no rfl ?_
    refine wlg_no rfl ?_
    refine wl (ro_pick rfl rfl rfl) ?_
    refine wl_nil (x_then (hK3 _ _ ?_))
    clear hK3 K3
    refine wc_condF rfl ?_
    refine c_skip (x_then (hK2 _ _ ?_))
    clear hK2 K2
    refine c_seq (fun K10 hK10 => ?_)
    refine c_seq (fun K11 hK11 => ?_)
    refine c_reg ?_ -- region 3 ops.go:180
    refine wl (ro_move rfl) ?_
    refine wl_nil (x_then (hK11 _ _ ?_))
    clear hK11 K11
    refine c_block ?_
    refine forget [(1, _), (6, _), (7, _), (27, _)] ⟨rfl, rfl, rfl, rfl, trivial⟩ (fun e => ?_)
    refine c_seq (fun K12 hK12 => ?_)
    refine c_reg ?_ -- region 4 ops.go:181
    refine wl (ro_cmp rfl rfl rfl) ?_
    refine wl (ro_assign rfl) ?_
    refine wl_nil (x_then (hK12 _ _ ?_))
    clear hK12 K12
    refine wc_cond rfl (fun hc28 => ?_) (fun hc28 => ?_)
    · try simp only [decide_eq_true_eq, decide_eq_false_iff_not, Bool.not_eq_true', Bool.not_eq_false', Bool.not_eq_eq_eq_not, Bool.not_true, Bool.not_false, beq_iff_eq, bne_iff_ne, ne_eq, beq_eq_false_iff_ne, bne_eq_false_iff_eq, gt_iff_lt, ge_iff_le, Int.not_lt, Int.not_le] at hc28
      exfalso; omega
    · try simp only [decide_eq_true_eq, decide_eq_false_iff_not, Bool.not_eq_true', Bool.not_eq_false', Bool.not_eq_eq_eq_not, Bool.not_true, Bool.not_false, beq_iff_eq, bne_iff_ne, ne_eq, beq_eq_false_iff_ne, bne_eq_false_iff_eq, gt_iff_lt, ge_iff_le, Int.not_lt, Int.not_le] at hc28
      refine c_seq (fun K13 hK13 => ?_)
      refine c_reg ?_ -- region 6 ops.go:183
      refine wl (ro_cmp rfl rfl rfl) ?_
      refine wl (ro_assign rfl) ?_
      refine wl_nil (x_then (hK13 _ _ ?_))
      clear hK13 K13
      refine wc_cond rfl (fun hc33 => ?_) (fun hc33 => ?_)
      · try simp only [decide_eq_true_eq, decide_eq_false_iff_not, Bool.not_eq_true', Bool.not_eq_false', Bool.not_eq_eq_eq_not, Bool.not_true, Bool.not_false, beq_iff_eq, bne_iff_ne, ne_eq, beq_eq_false_iff_ne, bne_eq_false_iff_eq, gt_iff_lt, ge_iff_le, Int.not_lt, Int.not_le] at hc33
        exfalso; omega
      · try simp only [decide_eq_true_eq, decide_eq_false_iff_not, Bool.not_eq_true', Bool.not_eq_false', Bool.not_eq_eq_eq_not, Bool.not_true, Bool.not_false, beq_iff_eq, bne_iff_ne, ne_eq, beq_eq_false_iff_ne, bne_eq_false_iff_eq, gt_iff_lt, ge_iff_le, Int.not_lt, Int.not_le] at hc33
        refine c_skip (x_blk (x_then (hK10 _ _ ?_)))
        clear hK10 K10
        refine c_seq (fun K14 hK14 => ?_)
        refine c_seq (fun K15 hK15 => ?_)
        refine c_reg ?_ -- region 8 ops.go:186
        refine wl (ro_fieldAddr (k := 0) rfl fo_119_0) ?_
        refine wl (ro_loadB rfl sc_3 (by assumption) rfl) ?_
        refine wl (ro_cmp rfl rfl rfl) ?_
        refine wl_fork rfl (fun hg41 => ?_) (fun hg41 => ?_)
        · try simp only [decide_eq_true_eq, decide_eq_false_iff_not, Bool.not_eq_true', Bool.not_eq_false', Bool.not_eq_eq_eq_not, Bool.not_true, Bool.not_false, beq_iff_eq, bne_iff_ne, ne_eq, beq_eq_false_iff_ne, bne_eq_false_iff_eq, gt_iff_lt, ge_iff_le, Int.not_lt, Int.not_le] at hg41
          refine wlg_no rfl ?_
          refine wlg_no rfl ?_
          refine wlg_no rfl ?_
          refine wl (ro_pick rfl rfl rfl) ?_
          refine wl_nil (x_then (hK15 _ _ ?_))
          clear hK15 K15
          refine wc_condT rfl ?_
          refine c_reg ?_ -- region 9 ops.go:187
          refine wl_callP rfl en_259 (raise259) (fun pv w9 hE => bpp_pan (P := Tryz.prog) (fn := Tryz.f292) ((let ⟨b, k1, k2, k3, k4⟩ := hE; ⟨b, k1, k2, hF.trans k3, by have := hF.size; omega⟩))) ?_
          rintro _ _ ⟨⟩
        · try simp only [decide_eq_true_eq, decide_eq_false_iff_not, Bool.not_eq_true', Bool.not_eq_false', Bool.not_eq_eq_eq_not, Bool.not_true, Bool.not_false, beq_iff_eq, bne_iff_ne, ne_eq, beq_eq_false_iff_ne, bne_eq_false_iff_eq, gt_iff_lt, ge_iff_le, Int.not_lt, Int.not_le] at hg41
          refine wlg_yes rfl (ro_fieldAddr (k := 0) rfl fo_119_0) ?_
          refine wlg_yes rfl (ro_loadB rfl sc_3 (by assumption) rfl) ?_
          refine wlg_yes rfl (ro_cmp rfl rfl rfl) ?_
          refine wl (ro_pick rfl rfl rfl) ?_
          refine wl_nil (x_then (hK15 _ _ ?_))
          clear hK15 K15
          refine wc_cond rfl (fun hc45 => ?_) (fun hc45 => ?_)
          · try simp only [decide_eq_true_eq, decide_eq_false_iff_not, Bool.not_eq_true', Bool.not_eq_false', Bool.not_eq_eq_eq_not, Bool.not_true, Bool.not_false, beq_iff_eq, bne_iff_ne, ne_eq, beq_eq_false_iff_ne, bne_eq_false_iff_eq, gt_iff_lt, ge_iff_le, Int.not_lt, Int.not_le] at hc45
            refine c_reg ?_ -- region 9 ops.go:187
            refine wl_callP rfl en_259 (raise259) (fun pv w9 hE => bpp_pan (P := Tryz.prog) (fn := Tryz.f292) ((let ⟨b, k1, k2, k3, k4⟩ := hE; ⟨b, k1, k2, hF.trans k3, by have := hF.size; omega⟩))) ?_
            rintro _ _ ⟨⟩
          · try simp only [decide_eq_true_eq, decide_eq_false_iff_not, Bool.not_eq_true', Bool.not_eq_false', Bool.not_eq_eq_eq_not, Bool.not_true, Bool.not_false, beq_iff_eq, bne_iff_ne, ne_eq, beq_eq_false_iff_ne, bne_eq_false_iff_eq, gt_iff_lt, ge_iff_le, Int.not_lt, Int.not_le] at hc45
            exfalso; omega
end
end Go.Proofs.Qxb6500568aGreatDoor
