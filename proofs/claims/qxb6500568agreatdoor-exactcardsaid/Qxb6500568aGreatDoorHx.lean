import Derived.Test.Qxb6500568aGreatDoorHw
/- The machine: builtins, the stack's length told. -/
namespace Go.Proofs.Qxb6500568aGreatDoor
open Ieee
set_option linter.unusedVariables false
set_option linter.unusedSimpArgs false
set_option linter.unusedSectionVars false

section
variable {C : VC} {w w' u u1 u2 : World} {ow ow' : Nat → Nat} {s : AS} {fg fc n : Nat} {V : VS} {κ : List Nat} {Vv : Nat → Value} {U : Nat → Nat → Value} {L : VL}
def AN (C : VC) (fg fc n : Nat) (w : World) (ow : Nat → Nat) (s : AS) : Prop := ∃ V κ Vv U, VW C w ow V 0 s.fuel s.out s.tabs Vv U ∧ RZ (Psf C.F) V s κ ∧ U s.cur 3 = .slice (some ⟨fg, 0, none⟩) s.th.frs.length fc ∧ ∃ x, V.ths[s.cur]? = some x ∧ x.stack.length = n
def NR (C : VC) (fg fc n : Nat) (w : World) (ow : Nat → Nat) (v : Value) (s : AS) (r : Value) (w' : World) : Prop := r = v ∧ ∃ ow', Xt w ow ow' ∧ Fram (tg ow vtT) w w' ∧ AN C fg fc n w' ow' s
theorem AN.am (h : AN C fg fc n w ow s) : AM C fg fc w ow s := by
  obtain ⟨V, κ, Vv, U, h1, h2, h3, -⟩ := h
  exact ⟨V, κ, Vv, U, h1, h2, h3⟩
theorem AN.lt (h : AN C fg fc n w ow s) : s.cur < s.ths.length := by
  obtain ⟨V, κ, Vv, U, h1, h2, h3, x, hx, -⟩ := h
  rw [← h2.r.tlen]
  exact (List.getElem?_eq_some_iff.1 hx).1
theorem AN.q (h : AN C fg fc n w ow s) : AMq C w ow s := h.am.q
theorem AN.df (h : AN C fg fc n w ow s) : ∀ b, w.heap.size ≤ b → ow b = 66 := h.q.df
theorem AN.rz (h : AN C fg fc n w ow s) : Mz C w := h.q.rz
theorem AN.thruN (h : AN C fg fc n w ow s) (f : Fram none' w w') : AN C fg fc n w' ow s := by
  obtain ⟨V, κ, Vv, U, h1, h2, h3⟩ := h
  exact ⟨V, κ, Vv, U, h1.thruN f, h2, h3⟩
theorem AN.hbput {b : Nat} (h : AN C fg fc n w ow s) (f : Fram (one b) w w') (ht : ow b = 66 := by assumption) : AN C fg fc n w' ow s := by
  obtain ⟨V, κ, Vv, U, h1, h2, h3⟩ := h
  exact ⟨V, κ, Vv, U, h1.hbput f ht, h2, h3⟩
theorem AN.dr (h : AN C fg fc n w ow s) {d : Nat} : AN C fg fc n { w with drawn := d } ow s := h.thruN ((Fram.refl none' _).thenDrew)
theorem AN.nmv (h : AN C fg fc n w ow s) : NmV C w ow := h.am.nmv
theorem AN.nm (h : AN C fg fc n w ow s) {bb : Nat} (f : Fram (one bb) w u) (hb : ow bb = 413) (hn : NmV C u ow) : AN C fg fc n u ow s := by
  obtain ⟨V, κ, Vv, U, h1, h2, h3⟩ := h
  obtain ⟨L, op, vl⟩ := h1.ex
  have off : ∀ b, ow b ≠ 413 → ¬ one bb b := fun b q z => q (by have z : b = bb := z; rw [z]; exact hb)
  have op' : VOp C.E u ow L Vv U := ⟨op.m.fram f (off _ (by rw [op.tm]; decide)), op.t.fram f (off _ (by rw [op.tt]; decide)), fun i hi => (op.a i hi).far f (fun b q _ => off b (by unfold vmI at hi; omega)) (Xt.refl _ _), fun j hj i hi => (op.u j hj i hi).far f (fun b q _ => off b (by unfold thI at hi; omega)) (Xt.refl _ _), op.tm, op.tt, op.nt, op.dfN f⟩
  exact ⟨V, κ, Vv, U, ⟨⟨L, op', vl⟩, h1.tb.far f (fun b q _ => off b (by unfold rtag at q; omega)) (Xt.refl _ _), hn, h1.hp, h1.fu, h1.co, h1.cb, h1.eb⟩, h2, h3⟩
set_option maxHeartbeats 4000000 in
theorem textN (hR : AN C fg fc n w ow s) {v : PV} (hv : PVf v) (h6 : v.T = 6 → v.N < 1000) : Ret Tryz.prog 286 [ptr C.E.mb, pv v] w (NR C fg fc n w ow (S (txV v)) s) := by
  have hX : Xt w ow ow := Xt.refl _ _
  have hF : Fram (tg ow vtT) w w := Fram.refl _ _
  have hN : W64 v.N := hv.n
  have l3 : (dgT v.N).length ≤ 20 := dgT_len (k := 19) (by omega) (by unfold W64 at hN; omega)
  have l4 := tyName_len v
  have l5 := biName_len v.N
  refine ret_of Tryz.func286 rfl Tryz.ntmps286 rfl ?_
  refine c_seq (fun K1 hK1 => ?_)
  refine c_reg ?_ -- region 0 ops.go:214
  refine wl_box (cs := (pvc v)) rfl rfl (fun b3 w1 hbb3 h3 F1 => ?_)
  have hbsb3 := Nat.le_trans hF.size hbb3
  have kh3 := hR.df b3 hbb3
  replace hF := hF.thenDrew.thenN F1
  replace hR := hR.thruN ((Fram.refl none' _).thenDrew.thenN F1)
  refine wl (ro_assign rfl) ?_
  refine wl_nil (x_then (hK1 _ _ ?_))
  clear hK1 K1
  refine c_seq (fun K2 hK2 => ?_)
  refine c_seq (fun K3 hK3 => ?_)
  refine c_reg ?_ -- region 1 ops.go:215
  refine wl (ro_fieldAddr (k := 0) rfl fo_119_0) ?_
  refine wl (ro_loadB rfl sc_3 (h3) rfl) ?_
  refine wl_nil (x_then (hK3 _ _ ?_))
  clear hK3 K3
  refine c_block ?_
  refine forget [(0, _), (3, _), (7, _)] ⟨rfl, rfl, rfl, trivial⟩ (fun e => ?_)
  refine c_seq (fun K4 hK4 => ?_)
  refine c_reg ?_ -- region 2 ops.go:216
  refine wl (ro_cmp rfl rfl rfl) ?_
  refine wl (ro_assign rfl) ?_
  refine wl_nil (x_then (hK4 _ _ ?_))
  clear hK4 K4
  refine wc_cond rfl (fun hc8 => ?_) (fun hc8 => ?_)
  · try simp only [decide_eq_true_eq, decide_eq_false_iff_not, Bool.not_eq_true', Bool.not_eq_false', Bool.not_eq_eq_eq_not, Bool.not_true, Bool.not_false, beq_iff_eq, bne_iff_ne, ne_eq, beq_eq_false_iff_ne, bne_eq_false_iff_eq, gt_iff_lt, ge_iff_le, Int.not_lt, Int.not_le] at hc8
    refine c_seq (fun K5 hK5 => ?_)
    refine c_reg ?_ -- region 3 ops.go:217
    refine wl (ro_assign rfl) ?_
    refine wl_nil (x_then (hK5 _ _ ?_))
    clear hK5 K5
    refine c_ret (x_blkR (x_thenR ?_))
    refine bp_ret Tryz.results286 rfl ?_
    exact ⟨by unfold txV; rw [if_pos (by omega)]; rfl, _, hX, hF, hR⟩
  · try simp only [decide_eq_true_eq, decide_eq_false_iff_not, Bool.not_eq_true', Bool.not_eq_false', Bool.not_eq_eq_eq_not, Bool.not_true, Bool.not_false, beq_iff_eq, bne_iff_ne, ne_eq, beq_eq_false_iff_ne, bne_eq_false_iff_eq, gt_iff_lt, ge_iff_le, Int.not_lt, Int.not_le] at hc8
    refine c_seq (fun K6 hK6 => ?_)
    refine c_reg ?_ -- region 4 ops.go:218
    refine wl (ro_cmp rfl rfl rfl) ?_
    refine wl (ro_assign rfl) ?_
    refine wl_nil (x_then (hK6 _ _ ?_))
    clear hK6 K6
    refine wc_cond rfl (fun hc10 => ?_) (fun hc10 => ?_)
    · try simp only [decide_eq_true_eq, decide_eq_false_iff_not, Bool.not_eq_true', Bool.not_eq_false', Bool.not_eq_eq_eq_not, Bool.not_true, Bool.not_false, beq_iff_eq, bne_iff_ne, ne_eq, beq_eq_false_iff_ne, bne_eq_false_iff_eq, gt_iff_lt, ge_iff_le, Int.not_lt, Int.not_le] at hc10
      refine c_seq (fun K7 hK7 => ?_)
      refine c_seq (fun K8 hK8 => ?_)
      refine c_reg ?_ -- region 5 ops.go:219
      refine wl (ro_fieldAddr (k := 1) rfl fo_119_1) ?_
      refine wl (ro_loadB rfl sc_117 (h3) rfl) ?_
      refine wl (ro_cmpU rfl rfl rfl) ?_
      refine wl_nil (x_then (hK8 _ _ ?_))
      clear hK8 K8
      refine wc_cond rfl (fun hc14 => ?_) (fun hc14 => ?_)
      · try simp only [decide_eq_true_eq, decide_eq_false_iff_not, Bool.not_eq_true', Bool.not_eq_false', Bool.not_eq_eq_eq_not, Bool.not_true, Bool.not_false, beq_iff_eq, bne_iff_ne, ne_eq, beq_eq_false_iff_ne, bne_eq_false_iff_eq, gt_iff_lt, ge_iff_le, Int.not_lt, Int.not_le] at hc14
        refine c_seq (fun K9 hK9 => ?_)
        refine c_reg ?_ -- region 6 ops.go:220
        refine wl (ro_assign rfl) ?_
        refine wl_nil (x_then (hK9 _ _ ?_))
        clear hK9 K9
        refine c_ret (x_thenR (x_blkR (x_thenR ?_)))
        refine bp_ret Tryz.results286 rfl ?_
        exact ⟨by unfold txV; rw [if_neg (by omega), if_pos (by omega), if_pos (by omega)]; rfl, _, hX, hF, hR⟩
      · try simp only [decide_eq_true_eq, decide_eq_false_iff_not, Bool.not_eq_true', Bool.not_eq_false', Bool.not_eq_eq_eq_not, Bool.not_true, Bool.not_false, beq_iff_eq, bne_iff_ne, ne_eq, beq_eq_false_iff_ne, bne_eq_false_iff_eq, gt_iff_lt, ge_iff_le, Int.not_lt, Int.not_le] at hc14
        refine c_skip (x_then (hK7 _ _ ?_))
        clear hK7 K7
        refine forget [] trivial (fun e => ?_)
        refine c_seq (fun K10 hK10 => ?_)
        refine c_reg ?_ -- region 7 ops.go:222
        refine wl (ro_assign rfl) ?_
        refine wl_nil (x_then (hK10 _ _ ?_))
        clear hK10 K10
        refine c_ret (x_blkR (x_thenR ?_))
        refine bp_ret Tryz.results286 rfl ?_
        exact ⟨by unfold txV; rw [if_neg (by omega), if_pos (by omega), if_neg (by omega)]; rfl, _, hX, hF, hR⟩
    · try simp only [decide_eq_true_eq, decide_eq_false_iff_not, Bool.not_eq_true', Bool.not_eq_false', Bool.not_eq_eq_eq_not, Bool.not_true, Bool.not_false, beq_iff_eq, bne_iff_ne, ne_eq, beq_eq_false_iff_ne, bne_eq_false_iff_eq, gt_iff_lt, ge_iff_le, Int.not_lt, Int.not_le] at hc10
      refine c_seq (fun K11 hK11 => ?_)
      refine c_reg ?_ -- region 8 ops.go:223
      refine wl (ro_cmp rfl rfl rfl) ?_
      refine wl (ro_assign rfl) ?_
      refine wl_nil (x_then (hK11 _ _ ?_))
      clear hK11 K11
      refine wc_cond rfl (fun hc15 => ?_) (fun hc15 => ?_)
      · try simp only [decide_eq_true_eq, decide_eq_false_iff_not, Bool.not_eq_true', Bool.not_eq_false', Bool.not_eq_eq_eq_not, Bool.not_true, Bool.not_false, beq_iff_eq, bne_iff_ne, ne_eq, beq_eq_false_iff_ne, bne_eq_false_iff_eq, gt_iff_lt, ge_iff_le, Int.not_lt, Int.not_le] at hc15
        refine c_seq (fun K12 hK12 => ?_)
        obtain ⟨bb, lb, n1, n2, n3, n4, n5⟩ := hR.nmv
        refine c_pi [(0, false), (1, false), (2, false), (3, false), (4, false), (5, false), (6, true), (7, false)] (La b3 _ _ (Mz C)) mixed (by kernel_rfl) rfl (by kernel_rfl) (po_then (po_blk (po_then (po_bp)))) (⟨h3, hR.rz⟩) ?_ -- region 9 ops.go:224
        refine pi_ro rfl (fun w hS => ro_move rfl) ?_
        refine pi_ro rfl (fun w hS => ro_nilCheck rfl) ?_
        refine pi_ro rfl (fun w hS => ro_fieldAddr (k := 0) rfl fo_89_0) ?_
        refine pi_ro rfl (fun w hS => let ⟨_, hc, h0, h1⟩ := hS.2; ro_loadB rfl sc_36 hc (h0)) ?_
        refine pi_ro rfl (fun w hS => ro_fieldAddr (k := 1) rfl fo_119_1) ?_
        refine pi_ro rfl (fun w hS => ro_loadB rfl sc_117 (hS.1) rfl) ?_
        refine pi_call rfl rfl en_297 (Format297 hN n1 n2 n3 (fun q ↦ by rw [q, n4] at n5; omega)) ?_
        rintro _ u9 ⟨rfl, ⟨l9, hb9, hl9⟩, f9⟩
        have hnb9 : C.nb ≠ bb := fun q ↦ by rw [q, n5] at n4; omega
        replace hR := hR.dr.nm f9 n5 ⟨bb, l9, f9.blkO n1 hnb9, hb9, hl9, n4, n5⟩
        replace hF := vm_trans hX hF (f9.mono (fun b _ z ↦ by have z : b = bb := z; show vtT _; rw [z, n5]; left; unfold vmT; omega))
        replace h3 := f9.blkO h3 (ow_ne kh3 n5 (by omega))
        refine ⟨⟨h3, hR.rz⟩, ?_⟩
        refine pi_ro rfl (fun w hS => ro_assign rfl) ?_
        refine pi_nil (x_then (hK12 _ _ ?_))
        clear hK12 K12
        refine c_ret (x_blkR (x_thenR ?_))
        refine bp_ret Tryz.results286 rfl ?_
        exact ⟨by unfold txV; rw [if_neg (by omega), if_neg (by omega), if_pos (by omega)], _, hX, hF, hR⟩
      · try simp only [decide_eq_true_eq, decide_eq_false_iff_not, Bool.not_eq_true', Bool.not_eq_false', Bool.not_eq_eq_eq_not, Bool.not_true, Bool.not_false, beq_iff_eq, bne_iff_ne, ne_eq, beq_eq_false_iff_ne, bne_eq_false_iff_eq, gt_iff_lt, ge_iff_le, Int.not_lt, Int.not_le] at hc15
        refine c_seq (fun K13 hK13 => ?_)
        refine c_reg ?_ -- region 10 ops.go:225
        refine wl (ro_cmp rfl rfl rfl) ?_
        refine wl (ro_assign rfl) ?_
        refine wl_nil (x_then (hK13 _ _ ?_))
        clear hK13 K13
        refine wc_cond rfl (fun hc24 => ?_) (fun hc24 => ?_)
        · try simp only [decide_eq_true_eq, decide_eq_false_iff_not, Bool.not_eq_true', Bool.not_eq_false', Bool.not_eq_eq_eq_not, Bool.not_true, Bool.not_false, beq_iff_eq, bne_iff_ne, ne_eq, beq_eq_false_iff_ne, bne_eq_false_iff_eq, gt_iff_lt, ge_iff_le, Int.not_lt, Int.not_le] at hc24
          refine c_seq (fun K14 hK14 => ?_)
          refine c_reg ?_ -- region 11 ops.go:226
          refine wl (ro_fieldAddr (k := 2) rfl fo_119_2) ?_
          refine wl (ro_loadB rfl sc_9 (by assumption) rfl) ?_
          refine wl (ro_assign rfl) ?_
          refine wl_nil (x_then (hK14 _ _ ?_))
          clear hK14 K14
          refine c_ret (x_blkR (x_thenR ?_))
          refine bp_ret Tryz.results286 rfl ?_
          exact ⟨by unfold txV; rw [if_neg (by omega), if_neg (by omega), if_neg (by omega), if_pos (by omega)], _, hX, hF, hR⟩
        · try simp only [decide_eq_true_eq, decide_eq_false_iff_not, Bool.not_eq_true', Bool.not_eq_false', Bool.not_eq_eq_eq_not, Bool.not_true, Bool.not_false, beq_iff_eq, bne_iff_ne, ne_eq, beq_eq_false_iff_ne, bne_eq_false_iff_eq, gt_iff_lt, ge_iff_le, Int.not_lt, Int.not_le] at hc24
          refine c_skip (x_blk (x_then (hK2 _ _ ?_)))
          clear hK2 K2
          refine forget [(3, _)] ⟨rfl, trivial⟩ (fun e => ?_)
          refine c_seq (fun K15 hK15 => ?_)
          refine c_reg ?_ -- region 12 ops.go:228
          refine wl_bsS3 (a := [98, 117, 105, 108, 116, 105, 110]) (b := [58]) (c := []) rfl rfl rfl se_192 zx_9 (fun b28 w28 hbb28 h28 F28 ↦ ?_)
          have kh28 := hR.df b28 hbb28
          have hne28 : b3 < b28 := Nat.lt_of_lt_of_le h3.lt hbb28
          replace hF := hF.thenDrew.thenN F28
          replace hR := hR.thruN ((Fram.refl none' _).thenDrew.thenN F28)
          replace h3 := F28.blkN h3
          refine wl (ro_assign rfl) ?_
          refine wl_nil (x_then (hK15 _ _ ?_))
          clear hK15 K15
          refine c_seq (fun K16 hK16 => ?_)
          refine c_seq (fun K17 hK17 => ?_)
          refine c_reg ?_ -- region 13 ops.go:229
          refine wl (ro_fieldAddr (k := 0) rfl fo_119_0) ?_
          refine wl (ro_loadB rfl sc_3 (h3) rfl) ?_
          refine wl (ro_cmp rfl rfl rfl) ?_
          refine wl_nil (x_then (hK17 _ _ ?_))
          clear hK17 K17
          refine wc_cond rfl (fun hc31 => ?_) (fun hc31 => ?_)
          · try simp only [decide_eq_true_eq, decide_eq_false_iff_not, Bool.not_eq_true', Bool.not_eq_false', Bool.not_eq_eq_eq_not, Bool.not_true, Bool.not_false, beq_iff_eq, bne_iff_ne, ne_eq, beq_eq_false_iff_ne, bne_eq_false_iff_eq, gt_iff_lt, ge_iff_le, Int.not_lt, Int.not_le] at hc31
            refine c_reg ?_ -- region 14 ops.go:230
            refine wl (ro_move rfl) ?_
            refine wl (ro_fieldAddr (k := 1) rfl fo_119_1) ?_
            refine wl (ro_loadB rfl sc_117 (h3) rfl) ?_
            refine wl (ro_conv rfl sc_117 in_3 (Go.IntWalk.i64_in _ (by have := h6 (by omega); omega))) ?_
            refine wl_call rfl en_30 (BuiltinName30 (s := v.N)) ?_
            rintro _ u0 ⟨rfl, hw0⟩
            rw [hw0]
            clear hw0 u0
            refine wl (ro_indexAddr (et := 9) (k := 1) rfl rfl se_192 (rfl) ((by decide))) ?_
            refine wl_put rfl rfl rfl sz_9 h28 ((by simp)) (rfl) (fun w2 h28 F2 => ?_)
            replace hF := hF.thenDrew.thenO F2 (by first | exact .inr (by omega) | exact .inl rfl | exact .inl (by assumption) | assumption)
            replace hR := hR.hbput ((Fram.refl (one b28) _).thenDrew.thenO F2 (.inl rfl))
            replace h3 := F2.blkO h3 (by first | omega | exact ow_ne (by assumption) (by assumption) (by omega))
            refine wl_nil (x_then (hK16 _ _ ?_))
            clear hK16 K16
            refine forget [(5, _)] ⟨rfl, trivial⟩ (fun e => ?_)
            refine c_seq (fun K18 hK18 => ?_)
            refine c_reg ?_ -- region 17 ops.go:235
            refine wl (ro_move rfl) ?_
            refine wl_call rfl en_298 (join298 (ps := [[98, 117, 105, 108, 116, 105, 110], [58], biName v.N]) h28 (by simp; omega) (by simp) (by simp)) ?_
            rintro _ w3 ⟨rfl, F3⟩
            replace hF := hF.thenDrew.thenN F3
            replace hR := hR.thruN ((Fram.refl none' _).thenDrew.thenN F3)
            replace h3 := F3.blkN h3
            replace h28 := F3.blkN h28
            refine wl (ro_assign rfl) ?_
            refine wl_nil (x_then (hK18 _ _ ?_))
            clear hK18 K18
            refine c_ret ?_
            refine bp_ret Tryz.results286 rfl ?_
            refine ⟨?_, _, hX, hF, hR⟩
            unfold txV
            rw [if_neg (by omega), if_neg (by omega), if_neg (by omega), if_neg (by omega)]
            first
              | (rw [if_pos (by omega)]; simp)
              | (rw [if_neg (by omega)]; simp)
          · try simp only [decide_eq_true_eq, decide_eq_false_iff_not, Bool.not_eq_true', Bool.not_eq_false', Bool.not_eq_eq_eq_not, Bool.not_true, Bool.not_false, beq_iff_eq, bne_iff_ne, ne_eq, beq_eq_false_iff_ne, bne_eq_false_iff_eq, gt_iff_lt, ge_iff_le, Int.not_lt, Int.not_le] at hc31
            refine c_seq (fun K19 hK19 => ?_)
            refine c_reg ?_ -- region 15 ops.go:232
            refine wl (ro_move rfl) ?_
            refine wl (ro_loadAggB rfl ag_119 (h3) rfl rfl) ?_
            refine wl_call rfl en_120 (TypeName120 (v := v)) ?_
            rintro _ w4 ⟨rfl, F4⟩
            replace hF := hF.thenDrew.thenN F4
            replace hR := hR.thruN ((Fram.refl none' _).thenDrew.thenN F4)
            replace h3 := F4.blkN h3
            replace h28 := F4.blkN h28
            refine wl (ro_indexAddr (et := 9) (k := 1) rfl rfl se_192 (rfl) ((by decide))) ?_
            refine wl_put rfl rfl rfl sz_9 h28 ((by simp)) (rfl) (fun w5 h28 F5 => ?_)
            replace hF := hF.thenDrew.thenO F5 (by first | exact .inr (by omega) | exact .inl rfl | exact .inl (by assumption) | assumption)
            replace hR := hR.hbput ((Fram.refl (one b28) _).thenDrew.thenO F5 (.inl rfl))
            replace h3 := F5.blkO h3 (by first | omega | exact ow_ne (by assumption) (by assumption) (by omega))
            refine wl_nil (x_then (hK19 _ _ ?_))
            clear hK19 K19
            refine c_reg ?_ -- region 16 ops.go:233
            refine wl (ro_move rfl) ?_
            refine wl (ro_fieldAddr (k := 1) rfl fo_119_1) ?_
            refine wl (ro_loadB rfl sc_117 (h3) rfl) ?_
            refine wl_call rfl en_93 (Utoa93 hN) ?_
            rintro _ w6 ⟨rfl, F6⟩
            replace hF := hF.thenDrew.thenN F6
            replace hR := hR.thruN ((Fram.refl none' _).thenDrew.thenN F6)
            replace h3 := F6.blkN h3
            replace h28 := F6.blkN h28
            refine wl (ro_indexAddr (et := 9) (k := 1) rfl rfl se_192 (rfl) ((by decide))) ?_
            refine wl_put rfl rfl rfl sz_9 h28 ((by simp)) (rfl) (fun w7 h28 F7 => ?_)
            replace hF := hF.thenDrew.thenO F7 (by first | exact .inr (by omega) | exact .inl rfl | exact .inl (by assumption) | assumption)
            replace hR := hR.hbput ((Fram.refl (one b28) _).thenDrew.thenO F7 (.inl rfl))
            replace h3 := F7.blkO h3 (by first | omega | exact ow_ne (by assumption) (by assumption) (by omega))
            refine wl_nil (x_then (hK16 _ _ ?_))
            clear hK16 K16
            refine forget [(5, _)] ⟨rfl, trivial⟩ (fun e => ?_)
            refine c_seq (fun K20 hK20 => ?_)
            refine c_reg ?_ -- region 17 ops.go:235
            refine wl (ro_move rfl) ?_
            refine wl_call rfl en_298 (join298 (ps := [tyName v, [58], dgT v.N]) h28 (by simp; omega) (by simp) (by simp; omega)) ?_
            rintro _ w8 ⟨rfl, F8⟩
            replace hF := hF.thenDrew.thenN F8
            replace hR := hR.thruN ((Fram.refl none' _).thenDrew.thenN F8)
            replace h3 := F8.blkN h3
            replace h28 := F8.blkN h28
            refine wl (ro_assign rfl) ?_
            refine wl_nil (x_then (hK20 _ _ ?_))
            clear hK20 K20
            refine c_ret ?_
            refine bp_ret Tryz.results286 rfl ?_
            refine ⟨?_, _, hX, hF, hR⟩
            unfold txV
            rw [if_neg (by omega), if_neg (by omega), if_neg (by omega), if_neg (by omega)]
            first
              | (rw [if_pos (by omega)]; simp)
              | (rw [if_neg (by omega)]; simp)
variable {a0 a1 a2 : PV} {ab ao : Nat}
set_option maxHeartbeats 4000000 in
theorem nStr (hR : AN C fg fc n w ow s) (hA : WinB w ab ao (rws pvc [a0, a1, a2])) (hv : PVf a0) (h6 : a0.T = 6 → a0.N < 1000) :
    Ret Tryz.prog 261 [ptr C.E.mb, apt ab ao] w (NR C fg fc n w ow (.tuple #[pv (vStr (txV a0)), pv vNil]) s) := by
  have hX : Xt w ow ow := Xt.refl _ _
  have hF : Fram (tg ow vtT) w w := Fram.refl _ _
  obtain ⟨l, lt, hB5, hA⟩ := hA
  obtain ⟨r0, r1, r2⟩ := win_row hA
  refine ret_of Tryz.func261 rfl Tryz.ntmps261 rfl ?_
  refine c_seq (fun K1 hK1 => ?_)
  refine c_reg ?_ -- region 0 call.go:118
  refine wl_new (ze_119) (fun b4 w1 hbb4 h4 F1 => ?_)
  have hneabb4 : ab < b4 := Nat.lt_of_lt_of_le hB5.lt hbb4
  have hbsb4 := Nat.le_trans hF.size hbb4
  have kh4 := hR.df b4 hbb4
  replace hB5 := F1.blkN hB5
  replace hF := hF.thenDrew.thenN F1
  replace hR := hR.thruN ((Fram.refl none' _).thenDrew.thenN F1)
  refine wl_new (ze_119) (fun b5 w2 hbb5 h5 F2 => ?_)
  have hneabb5 : ab < b5 := Nat.lt_of_lt_of_le hB5.lt hbb5
  have hbsb5 := Nat.le_trans hF.size hbb5
  have hneb4b5 : b4 < b5 := Nat.lt_of_lt_of_le h4.lt hbb5
  have kh5 := hR.df b5 hbb5
  replace hB5 := F2.blkN hB5
  replace hF := hF.thenDrew.thenN F2
  replace hR := hR.thruN ((Fram.refl none' _).thenDrew.thenN F2)
  replace h4 := F2.blkN h4
  refine wl_nil (x_then (hK1 _ _ ?_))
  clear hK1 K1
  refine forget [(0, _), (1, _), (4, _), (5, _)] ⟨rfl, rfl, rfl, rfl, trivial⟩ (fun e => ?_)
  refine c_seq (fun K2 hK2 => ?_)
  refine c_reg ?_ -- region 1 call.go:119
  refine wl (ro_move rfl) ?_
  refine wl (ro_move rfl) ?_
  refine wl (ro_nilCheck rfl) ?_
  refine wl (ro_indexAddrA (et := 119) (k := 3) rfl rfl ar_225 (rfl) ((by decide))) ?_
  refine wl (ro_loadAggB rfl ag_119 (hB5) (pvc_len _) (r0)) ?_
  refine wl_call rfl en_286 (textN hR.dr hv h6) ?_
  rintro _ u3 ⟨rfl, ow3, x3, f3, r3⟩
  obtain ⟨h4, kh4⟩ := vm_loc x3 f3 h4 kh4
  obtain ⟨h5, kh5⟩ := vm_loc x3 f3 h5 kh5
  have hs3 := hF.size
  replace hF := vm_trans hX hF f3
  replace hX := hX.trans hs3 x3
  replace hR := r3
  refine wl (ro_assign rfl) ?_
  refine wl_nil (x_then (hK2 _ _ ?_))
  clear hK2 K2
  refine forget [(4, _), (5, _), (6, _)] ⟨rfl, rfl, rfl, trivial⟩ (fun e => ?_)
  refine c_seq (fun K3 hK3 => ?_)
  refine c_reg ?_ -- region 2 call.go:120
  refine wl (ro_move rfl) ?_
  refine wl (ro_build rfl bld_119_0_2) ?_
  refine wl (ro_build rfl bld_119) ?_
  refine wl_puta rfl rfl ((pvc_one (vStr _))) sz_119 (rfl) h4 ((by simp)) (rfl) (fun w4 h4 F4 => ?_)
  replace hF := hF.thenDrew.thenO F4 (by first | exact .inr (by omega) | exact .inl rfl | exact .inl (by assumption) | assumption)
  replace hR := hR.hbput ((Fram.refl (one b4) _).thenDrew.thenO F4 (.inl rfl))
  replace h5 := F4.blkO h5 (by first | omega | exact ow_ne (by assumption) (by assumption) (by omega))
  refine wl_puta rfl rfl ((pvc_one vNil)) sz_119 (rfl) h5 ((by simp)) (rfl) (fun w5 h5 F5 => ?_)
  replace hF := hF.thenDrew.thenO F5 (by first | exact .inr (by omega) | exact .inl rfl | exact .inl (by assumption) | assumption)
  replace hR := hR.hbput ((Fram.refl (one b5) _).thenDrew.thenO F5 (.inl rfl))
  replace h4 := F5.blkO h4 (by first | omega | exact ow_ne (by assumption) (by assumption) (by omega))
  refine wl_nil (x_then (hK3 _ _ ?_))
  clear hK3 K3
  refine c_ret ?_
  refine bq_ret (res2 Tryz.results261 (rv_c rfl ag_119 (h4) (rfl)) (rv_c rfl ag_119 (h5) (rfl))) ?_
  exact ⟨rfl, _, hX, hF, hR⟩
set_option maxHeartbeats 4000000 in
theorem nTyp (hR : AN C fg fc n w ow s) (hA : WinB w ab ao (rws pvc [a0, a1, a2])) :
    Ret Tryz.prog 263 [ptr C.E.mb, apt ab ao] w (NR C fg fc n w ow (.tuple #[pv (vStr (tyName a0)), pv vNil]) s) := by
  have hX : Xt w ow ow := Xt.refl _ _
  have hF : Fram (tg ow vtT) w w := Fram.refl _ _
  obtain ⟨l, lt, hB5, hA⟩ := hA
  obtain ⟨r0, r1, r2⟩ := win_row hA
  refine ret_of Tryz.func263 rfl Tryz.ntmps263 rfl ?_
  refine c_seq (fun K1 hK1 => ?_)
  refine c_reg ?_ -- region 0 call.go:136
  refine wl_new (ze_119) (fun b4 w1 hbb4 h4 F1 => ?_)
  have hneabb4 : ab < b4 := Nat.lt_of_lt_of_le hB5.lt hbb4
  have hbsb4 := Nat.le_trans hF.size hbb4
  have kh4 := hR.df b4 hbb4
  replace hB5 := F1.blkN hB5
  replace hF := hF.thenDrew.thenN F1
  replace hR := hR.thruN ((Fram.refl none' _).thenDrew.thenN F1)
  refine wl_new (ze_119) (fun b5 w2 hbb5 h5 F2 => ?_)
  have hneabb5 : ab < b5 := Nat.lt_of_lt_of_le hB5.lt hbb5
  have hbsb5 := Nat.le_trans hF.size hbb5
  have hneb4b5 : b4 < b5 := Nat.lt_of_lt_of_le h4.lt hbb5
  have kh5 := hR.df b5 hbb5
  replace hB5 := F2.blkN hB5
  replace hF := hF.thenDrew.thenN F2
  replace hR := hR.thruN ((Fram.refl none' _).thenDrew.thenN F2)
  replace h4 := F2.blkN h4
  refine wl_nil (x_then (hK1 _ _ ?_))
  clear hK1 K1
  refine forget [(1, _), (4, _), (5, _)] ⟨rfl, rfl, rfl, trivial⟩ (fun e => ?_)
  refine c_seq (fun K2 hK2 => ?_)
  refine c_reg ?_ -- region 1 call.go:137
  refine wl (ro_move rfl) ?_
  refine wl (ro_nilCheck rfl) ?_
  refine wl (ro_indexAddrA (et := 119) (k := 3) rfl rfl ar_225 (rfl) ((by decide))) ?_
  refine wl (ro_loadAggB rfl ag_119 (hB5) (pvc_len _) (r0)) ?_
  refine wl_call rfl en_120 (TypeName120) ?_
  rintro _ w3 ⟨rfl, F3⟩
  replace hB5 := F3.blkN hB5
  replace hF := hF.thenDrew.thenN F3
  replace hR := hR.thruN ((Fram.refl none' _).thenDrew.thenN F3)
  replace h4 := F3.blkN h4
  replace h5 := F3.blkN h5
  refine wl (ro_assign rfl) ?_
  refine wl_nil (x_then (hK2 _ _ ?_))
  clear hK2 K2
  refine forget [(4, _), (5, _), (6, _)] ⟨rfl, rfl, rfl, trivial⟩ (fun e => ?_)
  refine c_seq (fun K3 hK3 => ?_)
  refine c_reg ?_ -- region 2 call.go:138
  refine wl (ro_move rfl) ?_
  refine wl (ro_build rfl bld_119_0_2) ?_
  refine wl (ro_build rfl bld_119) ?_
  refine wl_puta rfl rfl ((pvc_one (vStr _))) sz_119 (rfl) h4 ((by simp)) (rfl) (fun w4 h4 F4 => ?_)
  replace hB5 := F4.blkO hB5 (by first | omega | exact ow_ne (by assumption) (by assumption) (by omega))
  replace hF := hF.thenDrew.thenO F4 (by first | exact .inr (by omega) | exact .inl rfl | exact .inl (by assumption) | assumption)
  replace hR := hR.hbput ((Fram.refl (one b4) _).thenDrew.thenO F4 (.inl rfl))
  replace h5 := F4.blkO h5 (by first | omega | exact ow_ne (by assumption) (by assumption) (by omega))
  refine wl_puta rfl rfl ((pvc_one vNil)) sz_119 (rfl) h5 ((by simp)) (rfl) (fun w5 h5 F5 => ?_)
  replace hB5 := F5.blkO hB5 (by first | omega | exact ow_ne (by assumption) (by assumption) (by omega))
  replace hF := hF.thenDrew.thenO F5 (by first | exact .inr (by omega) | exact .inl rfl | exact .inl (by assumption) | assumption)
  replace hR := hR.hbput ((Fram.refl (one b5) _).thenDrew.thenO F5 (.inl rfl))
  replace h4 := F5.blkO h4 (by first | omega | exact ow_ne (by assumption) (by assumption) (by omega))
  refine wl_nil (x_then (hK3 _ _ ?_))
  clear hK3 K3
  refine c_ret ?_
  refine bq_ret (res2 Tryz.results263 (rv_c rfl ag_119 (h4) (rfl)) (rv_c rfl ag_119 (h5) (rfl))) ?_
  exact ⟨rfl, _, hX, hF, hR⟩
set_option maxHeartbeats 4000000 in
theorem nErr (hR : AN C fg fc n w ow s) (hA : WinB w ab ao (rws pvc [a0, a1, a2])) {z : AS} (hz : athrow a0 s = z) (hvw : wfV a0 = true ∧ W64 a0.N) :
    RetP Tryz.prog 264 [ptr C.E.mb, apt ab ao] w (fun r w' => False) (AE C (kH s) w ow z) := by
  have hlt := hR.lt
  have hX : Xt w ow ow := Xt.refl _ _
  have hF : Fram (tg ow vtT) w w := Fram.refl _ _
  obtain ⟨l, lt, hB5, hA⟩ := hA
  obtain ⟨r0, r1, r2⟩ := win_row hA
  refine retp_of Tryz.func264 rfl Tryz.ntmps264 rfl ?_
  refine c_seq (fun K1 hK1 => ?_)
  refine c_reg ?_ -- region 0 call.go:141
  refine wl_new (ze_119) (fun b4 w1 hbb4 h4 F1 => ?_)
  have hneabb4 : ab < b4 := Nat.lt_of_lt_of_le hB5.lt hbb4
  have hbsb4 := Nat.le_trans hF.size hbb4
  have kh4 := hR.df b4 hbb4
  replace hB5 := F1.blkN hB5
  replace hF := hF.thenDrew.thenN F1
  replace hR := hR.thruN ((Fram.refl none' _).thenDrew.thenN F1)
  refine wl_new (ze_119) (fun b5 w2 hbb5 h5 F2 => ?_)
  have hneabb5 : ab < b5 := Nat.lt_of_lt_of_le hB5.lt hbb5
  have hbsb5 := Nat.le_trans hF.size hbb5
  have hneb4b5 : b4 < b5 := Nat.lt_of_lt_of_le h4.lt hbb5
  have kh5 := hR.df b5 hbb5
  replace hB5 := F2.blkN hB5
  replace hF := hF.thenDrew.thenN F2
  replace hR := hR.thruN ((Fram.refl none' _).thenDrew.thenN F2)
  replace h4 := F2.blkN h4
  refine wl_nil (x_then (hK1 _ _ ?_))
  clear hK1 K1
  refine forget [(1, _), (4, _), (5, _)] ⟨rfl, rfl, rfl, trivial⟩ (fun e => ?_)
  refine c_seq (fun K2 hK2 => ?_)
  refine c_reg ?_ -- region 1 call.go:142
  refine wl (ro_move rfl) ?_
  refine wl (ro_nilCheck rfl) ?_
  refine wl (ro_indexAddrA (et := 119) (k := 3) rfl rfl ar_225 (rfl) ((by decide))) ?_
  refine wl (ro_loadAggB rfl ag_119 (hB5) (pvc_len _) (r0)) ?_
  refine wl_callP rfl en_287 (throw287) (fun pv w9 hE => bpp_pan (P := Tryz.prog) (fn := Tryz.f264) (AE.thr hX hF hR.q hE (hz))) ?_
  rintro _ _ ⟨⟩
set_option maxHeartbeats 4000000 in
theorem nNum (hR : AN C fg fc n w ow s) (hA : WinB w ab ao (rws pvc [a0, a1, a2])) (hl : a0.S.length < 4611686018427387904) :
    Ret Tryz.prog 262 [ptr C.E.mb, apt ab ao] w (NR C fg fc n w ow (.tuple #[pv (if a0.T = 2 then a0 else if a0.T = 3 then (match parN a0.S with | some x => vNum x | none => vNil) else vNil), pv vNil]) s) := by
  have hX : Xt w ow ow := Xt.refl _ _
  have hF : Fram (tg ow vtT) w w := Fram.refl _ _
  obtain ⟨l, lt, hB5, hA⟩ := hA
  obtain ⟨r0, r1, r2⟩ := win_row hA
  rcases (by omega : a0.T = 2 ∨ a0.T = 3 ∨ (a0.T ≠ 2 ∧ a0.T ≠ 3)) with ht | ht | ht
  · rw [if_pos ht]
    refine ret_of Tryz.func262 rfl Tryz.ntmps262 rfl ?_
    refine c_seq (fun K1 hK1 => ?_)
    refine c_reg ?_ -- region 0 call.go:123
    refine wl_new (ze_119) (fun b4 w1 hbb4 h4 F1 => ?_)
    have hneabb4 : ab < b4 := Nat.lt_of_lt_of_le hB5.lt hbb4
    have hbsb4 := Nat.le_trans hF.size hbb4
    have kh4 := hR.df b4 hbb4
    replace hB5 := F1.blkN hB5
    replace hF := hF.thenDrew.thenN F1
    replace hR := hR.thruN ((Fram.refl none' _).thenDrew.thenN F1)
    refine wl_new (ze_119) (fun b5 w2 hbb5 h5 F2 => ?_)
    have hneabb5 : ab < b5 := Nat.lt_of_lt_of_le hB5.lt hbb5
    have hbsb5 := Nat.le_trans hF.size hbb5
    have hneb4b5 : b4 < b5 := Nat.lt_of_lt_of_le h4.lt hbb5
    have kh5 := hR.df b5 hbb5
    replace hB5 := F2.blkN hB5
    replace hF := hF.thenDrew.thenN F2
    replace hR := hR.thruN ((Fram.refl none' _).thenDrew.thenN F2)
    replace h4 := F2.blkN h4
    refine wl_nil (x_then (hK1 _ _ ?_))
    clear hK1 K1
    refine c_seq (fun K2 hK2 => ?_)
    refine c_seq (fun K3 hK3 => ?_)
    refine c_reg ?_ -- region 1 call.go:124
    refine wl (ro_move rfl) ?_
    refine wl (ro_nilCheck rfl) ?_
    refine wl (ro_indexAddrA (et := 119) (k := 3) rfl rfl ar_225 (rfl) ((by decide))) ?_
    refine wl (ro_fieldAddr (k := 0) rfl fo_119_0) ?_
    refine wl (ro_loadB rfl sc_3 (hB5) (row_get r0 (by decide))) ?_
    refine wl_nil (x_then (hK3 _ _ ?_))
    clear hK3 K3
    refine c_block ?_
    refine forget [(0, _), (1, _), (4, _), (5, _), (12, _)] ⟨rfl, rfl, rfl, rfl, rfl, trivial⟩ (fun e => ?_)
    refine c_seq (fun K4 hK4 => ?_)
    refine c_reg ?_ -- region 2 call.go:125
    refine wl (ro_cmp (r := true) rfl rfl (by rw [ht]; rfl)) ?_
    refine wl (ro_assign rfl) ?_
    refine wl_nil (x_then (hK4 _ _ ?_))
    clear hK4 K4
    refine wc_condT rfl ?_
    refine c_seq (fun K5 hK5 => ?_)
    refine c_reg ?_ -- region 3 call.go:126
    refine wl (ro_move rfl) ?_
    refine wl (ro_nilCheck rfl) ?_
    refine wl (ro_indexAddrA (et := 119) (k := 3) rfl rfl ar_225 (rfl) ((by decide))) ?_
    refine wl (ro_loadAggB rfl ag_119 (hB5) (pvc_len _) (r0)) ?_
    refine wl (ro_build rfl bld_119) ?_
    refine wl_puta rfl rfl ((pvc_one a0)) sz_119 (rfl) h4 ((by simp)) (rfl) (fun w3 h4 F3 => ?_)
    replace hB5 := F3.blkO hB5 (by first | omega | exact ow_ne (by assumption) (by assumption) (by omega))
    replace hF := hF.thenDrew.thenO F3 (by first | exact .inr (by omega) | exact .inl rfl | exact .inl (by assumption) | assumption)
    replace hR := hR.hbput ((Fram.refl (one b4) _).thenDrew.thenO F3 (.inl rfl))
    replace h5 := F3.blkO h5 (by first | omega | exact ow_ne (by assumption) (by assumption) (by omega))
    refine wl_puta rfl rfl ((pvc_one vNil)) sz_119 (rfl) h5 ((by simp)) (rfl) (fun w4 h5 F4 => ?_)
    replace hB5 := F4.blkO hB5 (by first | omega | exact ow_ne (by assumption) (by assumption) (by omega))
    replace hF := hF.thenDrew.thenO F4 (by first | exact .inr (by omega) | exact .inl rfl | exact .inl (by assumption) | assumption)
    replace hR := hR.hbput ((Fram.refl (one b5) _).thenDrew.thenO F4 (.inl rfl))
    replace h4 := F4.blkO h4 (by first | omega | exact ow_ne (by assumption) (by assumption) (by omega))
    refine wl_nil (x_then (hK5 _ _ ?_))
    clear hK5 K5
    refine c_ret (x_blkR (x_thenR ?_))
    refine bq_ret (res2 Tryz.results262 (rv_c rfl ag_119 (h4) (rfl)) (rv_c rfl ag_119 (h5) (rfl))) ?_
    exact ⟨rfl, _, hX, hF, hR⟩
  · rw [if_neg (by omega), if_pos ht]
    rcases hp : parN a0.S with _ | x9
    · have hp0 := hp
      refine ret_of Tryz.func262 rfl Tryz.ntmps262 rfl ?_
      refine c_seq (fun K1 hK1 => ?_)
      refine c_reg ?_ -- region 0 call.go:123
      refine wl_new (ze_119) (fun b4 w1 hbb4 h4 F1 => ?_)
      have hneabb4 : ab < b4 := Nat.lt_of_lt_of_le hB5.lt hbb4
      have hbsb4 := Nat.le_trans hF.size hbb4
      have kh4 := hR.df b4 hbb4
      replace hB5 := F1.blkN hB5
      replace hF := hF.thenDrew.thenN F1
      replace hR := hR.thruN ((Fram.refl none' _).thenDrew.thenN F1)
      refine wl_new (ze_119) (fun b5 w2 hbb5 h5 F2 => ?_)
      have hneabb5 : ab < b5 := Nat.lt_of_lt_of_le hB5.lt hbb5
      have hbsb5 := Nat.le_trans hF.size hbb5
      have hneb4b5 : b4 < b5 := Nat.lt_of_lt_of_le h4.lt hbb5
      have kh5 := hR.df b5 hbb5
      replace hB5 := F2.blkN hB5
      replace hF := hF.thenDrew.thenN F2
      replace hR := hR.thruN ((Fram.refl none' _).thenDrew.thenN F2)
      replace h4 := F2.blkN h4
      refine wl_nil (x_then (hK1 _ _ ?_))
      clear hK1 K1
      refine c_seq (fun K2 hK2 => ?_)
      refine c_seq (fun K3 hK3 => ?_)
      refine c_reg ?_ -- region 1 call.go:124
      refine wl (ro_move rfl) ?_
      refine wl (ro_nilCheck rfl) ?_
      refine wl (ro_indexAddrA (et := 119) (k := 3) rfl rfl ar_225 (rfl) ((by decide))) ?_
      refine wl (ro_fieldAddr (k := 0) rfl fo_119_0) ?_
      refine wl (ro_loadB rfl sc_3 (hB5) (row_get r0 (by decide))) ?_
      refine wl_nil (x_then (hK3 _ _ ?_))
      clear hK3 K3
      refine c_block ?_
      refine forget [(0, _), (1, _), (4, _), (5, _), (12, _)] ⟨rfl, rfl, rfl, rfl, rfl, trivial⟩ (fun e => ?_)
      refine c_seq (fun K4 hK4 => ?_)
      refine c_reg ?_ -- region 2 call.go:125
      refine wl (ro_cmp (r := false) rfl rfl (by rw [ht]; rfl)) ?_
      refine wl (ro_assign rfl) ?_
      refine wl_nil (x_then (hK4 _ _ ?_))
      clear hK4 K4
      refine wc_condF rfl ?_
      refine c_seq (fun K5 hK5 => ?_)
      refine c_reg ?_ -- region 4 call.go:127
      refine wl (ro_cmp (r := true) rfl rfl (by rw [ht]; rfl)) ?_
      refine wl (ro_assign rfl) ?_
      refine wl_nil (x_then (hK5 _ _ ?_))
      clear hK5 K5
      refine wc_condT rfl ?_
      refine c_seq (fun K6 hK6 => ?_)
      refine c_pi [(0, false), (1, false), (2, false), (3, false), (4, false), (5, false), (6, false), (7, false), (8, false), (9, true), (10, false), (11, false), (12, false), (13, false), (14, false)] (La ab _ _ (La b4 _ _ (La b5 _ _ (Mz C)))) mixed (by kernel_rfl) rfl (by kernel_rfl) (po_then (po_blk (po_then (po_bp)))) (⟨hB5, h4, h5, hR.rz⟩) ?_ -- region 5 call.go:128
      refine pi_ro rfl (fun w hS => ro_move rfl) ?_
      refine pi_ro rfl (fun w hS => ro_nilCheck rfl) ?_
      refine pi_ro rfl (fun w hS => ro_fieldAddr (k := 0) rfl fo_89_0) ?_
      refine pi_ro rfl (fun w hS => let ⟨_, hc, h0, h1⟩ := hS.2.2.2; ro_loadB rfl sc_36 hc (h0)) ?_
      refine pi_ro rfl (fun w hS => ro_move rfl) ?_
      refine pi_ro rfl (fun w hS => ro_nilCheck rfl) ?_
      refine pi_ro rfl (fun w hS => ro_indexAddrA (et := 119) (k := 3) rfl rfl ar_225 (rfl) ((by decide))) ?_
      refine pi_ro rfl (fun w hS => ro_fieldAddr (k := 2) rfl fo_119_2) ?_
      refine pi_ro rfl (fun w hS => ro_loadB rfl sc_9 (hS.1) (row_get r0 (by decide))) ?_
      refine pi_call rfl rfl en_132 (Parse132 hl) ?_
      rintro v9 w9 ⟨hq9, F9⟩
      replace hB5 := F9.blkN hB5
      replace hF := hF.thenDrew.thenN F9
      replace hR := hR.thruN ((Fram.refl none' _).thenDrew.thenN F9)
      replace h4 := F9.blkN h4
      replace h5 := F9.blkN h5
      refine ⟨⟨hB5, h4, h5, hR.rz⟩, ?_⟩
      obtain ⟨e9, he9, rfl⟩ : ∃ e : Int, e ≠ 0 ∧ v9 = .tuple #[u64c 0, icv e] := by
        rcases hq9 with ⟨x9, hp9, rfl⟩ | ⟨hp9, e9, he9, rfl⟩
        · rw [hp] at hp9; cases hp9
        · exact ⟨e9, he9, rfl⟩
      refine pi_ro rfl (fun w hS => ro_move rfl) ?_
      refine pi_ro rfl (fun w hS => ro_extract rfl rfl) ?_
      refine pi_ro rfl (fun w hS => ro_extract rfl rfl) ?_
      refine pi_ro rfl (fun w hS => ro_assign rfl) ?_
      refine pi_ro rfl (fun w hS => ro_assign rfl) ?_
      refine pi_nil (x_then (hK6 _ _ ?_))
      clear hK6 K6
      refine forget [(4, _), (5, _), (6, _), (7, _)] ⟨rfl, rfl, rfl, rfl, trivial⟩ (fun e => ?_)
      refine c_seq (fun K7 hK7 => ?_)
      refine c_reg ?_ -- region 6 call.go:129
      refine wl (ro_move rfl) ?_
      refine wl (ro_cmp (r := false) rfl rfl (congrArg some (by simpa using he9))) ?_
      refine wl_nil (x_then (hK7 _ _ ?_))
      clear hK7 K7
      refine wc_condF rfl ?_
      refine c_skip (x_blk (x_then (hK2 _ _ ?_)))
      clear hK2 K2
      refine forget [(4, _), (5, _)] ⟨rfl, rfl, trivial⟩ (fun e => ?_)
      refine c_seq (fun K8 hK8 => ?_)
      refine c_reg ?_ -- region 8 call.go:133
      refine wl (ro_build rfl bld_119) ?_
      refine wl (ro_build rfl bld_119) ?_
      refine wl_puta rfl rfl ((pvc_one vNil)) sz_119 (rfl) h4 ((by simp)) (rfl) (fun w3 h4 F3 => ?_)
      replace hB5 := F3.blkO hB5 (by first | omega | exact ow_ne (by assumption) (by assumption) (by omega))
      replace hF := hF.thenDrew.thenO F3 (by first | exact .inr (by omega) | exact .inl rfl | exact .inl (by assumption) | assumption)
      replace hR := hR.hbput ((Fram.refl (one b4) _).thenDrew.thenO F3 (.inl rfl))
      replace h5 := F3.blkO h5 (by first | omega | exact ow_ne (by assumption) (by assumption) (by omega))
      refine wl_puta rfl rfl ((pvc_one vNil)) sz_119 (rfl) h5 ((by simp)) (rfl) (fun w4 h5 F4 => ?_)
      replace hB5 := F4.blkO hB5 (by first | omega | exact ow_ne (by assumption) (by assumption) (by omega))
      replace hF := hF.thenDrew.thenO F4 (by first | exact .inr (by omega) | exact .inl rfl | exact .inl (by assumption) | assumption)
      replace hR := hR.hbput ((Fram.refl (one b5) _).thenDrew.thenO F4 (.inl rfl))
      replace h4 := F4.blkO h4 (by first | omega | exact ow_ne (by assumption) (by assumption) (by omega))
      refine wl_nil (x_then (hK8 _ _ ?_))
      clear hK8 K8
      refine c_ret ?_
      refine bq_ret (res2 Tryz.results262 (rv_c rfl ag_119 (h4) (rfl)) (rv_c rfl ag_119 (h5) (rfl))) ?_
      exact ⟨rfl, _, hX, hF, hR⟩
    · have hp0 := hp
      refine ret_of Tryz.func262 rfl Tryz.ntmps262 rfl ?_
      refine c_seq (fun K1 hK1 => ?_)
      refine c_reg ?_ -- region 0 call.go:123
      refine wl_new (ze_119) (fun b4 w1 hbb4 h4 F1 => ?_)
      have hneabb4 : ab < b4 := Nat.lt_of_lt_of_le hB5.lt hbb4
      have hbsb4 := Nat.le_trans hF.size hbb4
      have kh4 := hR.df b4 hbb4
      replace hB5 := F1.blkN hB5
      replace hF := hF.thenDrew.thenN F1
      replace hR := hR.thruN ((Fram.refl none' _).thenDrew.thenN F1)
      refine wl_new (ze_119) (fun b5 w2 hbb5 h5 F2 => ?_)
      have hneabb5 : ab < b5 := Nat.lt_of_lt_of_le hB5.lt hbb5
      have hbsb5 := Nat.le_trans hF.size hbb5
      have hneb4b5 : b4 < b5 := Nat.lt_of_lt_of_le h4.lt hbb5
      have kh5 := hR.df b5 hbb5
      replace hB5 := F2.blkN hB5
      replace hF := hF.thenDrew.thenN F2
      replace hR := hR.thruN ((Fram.refl none' _).thenDrew.thenN F2)
      replace h4 := F2.blkN h4
      refine wl_nil (x_then (hK1 _ _ ?_))
      clear hK1 K1
      refine c_seq (fun K2 hK2 => ?_)
      refine c_seq (fun K3 hK3 => ?_)
      refine c_reg ?_ -- region 1 call.go:124
      refine wl (ro_move rfl) ?_
      refine wl (ro_nilCheck rfl) ?_
      refine wl (ro_indexAddrA (et := 119) (k := 3) rfl rfl ar_225 (rfl) ((by decide))) ?_
      refine wl (ro_fieldAddr (k := 0) rfl fo_119_0) ?_
      refine wl (ro_loadB rfl sc_3 (hB5) (row_get r0 (by decide))) ?_
      refine wl_nil (x_then (hK3 _ _ ?_))
      clear hK3 K3
      refine c_block ?_
      refine forget [(0, _), (1, _), (4, _), (5, _), (12, _)] ⟨rfl, rfl, rfl, rfl, rfl, trivial⟩ (fun e => ?_)
      refine c_seq (fun K4 hK4 => ?_)
      refine c_reg ?_ -- region 2 call.go:125
      refine wl (ro_cmp (r := false) rfl rfl (by rw [ht]; rfl)) ?_
      refine wl (ro_assign rfl) ?_
      refine wl_nil (x_then (hK4 _ _ ?_))
      clear hK4 K4
      refine wc_condF rfl ?_
      refine c_seq (fun K5 hK5 => ?_)
      refine c_reg ?_ -- region 4 call.go:127
      refine wl (ro_cmp (r := true) rfl rfl (by rw [ht]; rfl)) ?_
      refine wl (ro_assign rfl) ?_
      refine wl_nil (x_then (hK5 _ _ ?_))
      clear hK5 K5
      refine wc_condT rfl ?_
      refine c_seq (fun K6 hK6 => ?_)
      refine c_pi [(0, false), (1, false), (2, false), (3, false), (4, false), (5, false), (6, false), (7, false), (8, false), (9, true), (10, false), (11, false), (12, false), (13, false), (14, false)] (La ab _ _ (La b4 _ _ (La b5 _ _ (Mz C)))) mixed (by kernel_rfl) rfl (by kernel_rfl) (po_then (po_blk (po_then (po_bp)))) (⟨hB5, h4, h5, hR.rz⟩) ?_ -- region 5 call.go:128
      refine pi_ro rfl (fun w hS => ro_move rfl) ?_
      refine pi_ro rfl (fun w hS => ro_nilCheck rfl) ?_
      refine pi_ro rfl (fun w hS => ro_fieldAddr (k := 0) rfl fo_89_0) ?_
      refine pi_ro rfl (fun w hS => let ⟨_, hc, h0, h1⟩ := hS.2.2.2; ro_loadB rfl sc_36 hc (h0)) ?_
      refine pi_ro rfl (fun w hS => ro_move rfl) ?_
      refine pi_ro rfl (fun w hS => ro_nilCheck rfl) ?_
      refine pi_ro rfl (fun w hS => ro_indexAddrA (et := 119) (k := 3) rfl rfl ar_225 (rfl) ((by decide))) ?_
      refine pi_ro rfl (fun w hS => ro_fieldAddr (k := 2) rfl fo_119_2) ?_
      refine pi_ro rfl (fun w hS => ro_loadB rfl sc_9 (hS.1) (row_get r0 (by decide))) ?_
      refine pi_call rfl rfl en_132 (Parse132 hl) ?_
      rintro v9 w9 ⟨hq9, F9⟩
      replace hB5 := F9.blkN hB5
      replace hF := hF.thenDrew.thenN F9
      replace hR := hR.thruN ((Fram.refl none' _).thenDrew.thenN F9)
      replace h4 := F9.blkN h4
      replace h5 := F9.blkN h5
      refine ⟨⟨hB5, h4, h5, hR.rz⟩, ?_⟩
      obtain rfl : v9 = .tuple #[u64c x9, icv 0] := by
        rcases hq9 with ⟨x9, hp9, rfl⟩ | ⟨hp9, e9, he9, rfl⟩
        · rw [hp] at hp9; injection hp9 with hp9; rw [hp9]
        · rw [hp] at hp9; cases hp9
      refine pi_ro rfl (fun w hS => ro_move rfl) ?_
      refine pi_ro rfl (fun w hS => ro_extract rfl rfl) ?_
      refine pi_ro rfl (fun w hS => ro_extract rfl rfl) ?_
      refine pi_ro rfl (fun w hS => ro_assign rfl) ?_
      refine pi_ro rfl (fun w hS => ro_assign rfl) ?_
      refine pi_nil (x_then (hK6 _ _ ?_))
      clear hK6 K6
      refine forget [(4, _), (5, _), (6, _), (7, _)] ⟨rfl, rfl, rfl, rfl, trivial⟩ (fun e => ?_)
      refine c_seq (fun K7 hK7 => ?_)
      refine c_reg ?_ -- region 6 call.go:129
      refine wl (ro_move rfl) ?_
      refine wl (ro_cmp rfl rfl rfl) ?_
      refine wl_nil (x_then (hK7 _ _ ?_))
      clear hK7 K7
      refine wc_condT rfl ?_
      refine c_seq (fun K8 hK8 => ?_)
      refine c_reg ?_ -- region 7 call.go:130
      refine wl (ro_move rfl) ?_
      refine wl (ro_build rfl bld_119_0_1) ?_
      refine wl (ro_build rfl bld_119) ?_
      refine wl_puta rfl rfl ((pvc_one (vNum x9))) sz_119 (rfl) h4 ((by simp)) (rfl) (fun w3 h4 F3 => ?_)
      replace hB5 := F3.blkO hB5 (by first | omega | exact ow_ne (by assumption) (by assumption) (by omega))
      replace hF := hF.thenDrew.thenO F3 (by first | exact .inr (by omega) | exact .inl rfl | exact .inl (by assumption) | assumption)
      replace hR := hR.hbput ((Fram.refl (one b4) _).thenDrew.thenO F3 (.inl rfl))
      replace h5 := F3.blkO h5 (by first | omega | exact ow_ne (by assumption) (by assumption) (by omega))
      refine wl_puta rfl rfl ((pvc_one vNil)) sz_119 (rfl) h5 ((by simp)) (rfl) (fun w4 h5 F4 => ?_)
      replace hB5 := F4.blkO hB5 (by first | omega | exact ow_ne (by assumption) (by assumption) (by omega))
      replace hF := hF.thenDrew.thenO F4 (by first | exact .inr (by omega) | exact .inl rfl | exact .inl (by assumption) | assumption)
      replace hR := hR.hbput ((Fram.refl (one b5) _).thenDrew.thenO F4 (.inl rfl))
      replace h4 := F4.blkO h4 (by first | omega | exact ow_ne (by assumption) (by assumption) (by omega))
      refine wl_nil (x_then (hK8 _ _ ?_))
      clear hK8 K8
      refine c_ret (x_blkR (x_thenR ?_))
      refine bq_ret (res2 Tryz.results262 (rv_c rfl ag_119 (h4) (rfl)) (rv_c rfl ag_119 (h5) (rfl))) ?_
      exact ⟨rfl, _, hX, hF, hR⟩
  · rw [if_neg (by omega), if_neg (by omega)]
    refine ret_of Tryz.func262 rfl Tryz.ntmps262 rfl ?_
    refine c_seq (fun K1 hK1 => ?_)
    refine c_reg ?_ -- region 0 call.go:123
    refine wl_new (ze_119) (fun b4 w1 hbb4 h4 F1 => ?_)
    have hneabb4 : ab < b4 := Nat.lt_of_lt_of_le hB5.lt hbb4
    have hbsb4 := Nat.le_trans hF.size hbb4
    have kh4 := hR.df b4 hbb4
    replace hB5 := F1.blkN hB5
    replace hF := hF.thenDrew.thenN F1
    replace hR := hR.thruN ((Fram.refl none' _).thenDrew.thenN F1)
    refine wl_new (ze_119) (fun b5 w2 hbb5 h5 F2 => ?_)
    have hneabb5 : ab < b5 := Nat.lt_of_lt_of_le hB5.lt hbb5
    have hbsb5 := Nat.le_trans hF.size hbb5
    have hneb4b5 : b4 < b5 := Nat.lt_of_lt_of_le h4.lt hbb5
    have kh5 := hR.df b5 hbb5
    replace hB5 := F2.blkN hB5
    replace hF := hF.thenDrew.thenN F2
    replace hR := hR.thruN ((Fram.refl none' _).thenDrew.thenN F2)
    replace h4 := F2.blkN h4
    refine wl_nil (x_then (hK1 _ _ ?_))
    clear hK1 K1
    refine c_seq (fun K2 hK2 => ?_)
    refine c_seq (fun K3 hK3 => ?_)
    refine c_reg ?_ -- region 1 call.go:124
    refine wl (ro_move rfl) ?_
    refine wl (ro_nilCheck rfl) ?_
    refine wl (ro_indexAddrA (et := 119) (k := 3) rfl rfl ar_225 (rfl) ((by decide))) ?_
    refine wl (ro_fieldAddr (k := 0) rfl fo_119_0) ?_
    refine wl (ro_loadB rfl sc_3 (hB5) (row_get r0 (by decide))) ?_
    refine wl_nil (x_then (hK3 _ _ ?_))
    clear hK3 K3
    refine c_block ?_
    refine forget [(0, _), (1, _), (4, _), (5, _), (12, _)] ⟨rfl, rfl, rfl, rfl, rfl, trivial⟩ (fun e => ?_)
    refine c_seq (fun K4 hK4 => ?_)
    refine c_reg ?_ -- region 2 call.go:125
    refine wl (ro_cmp (r := false) rfl rfl (congrArg some (by simp; omega))) ?_
    refine wl (ro_assign rfl) ?_
    refine wl_nil (x_then (hK4 _ _ ?_))
    clear hK4 K4
    refine wc_condF rfl ?_
    refine c_seq (fun K5 hK5 => ?_)
    refine c_reg ?_ -- region 4 call.go:127
    refine wl (ro_cmp (r := false) rfl rfl (congrArg some (by simp; omega))) ?_
    refine wl (ro_assign rfl) ?_
    refine wl_nil (x_then (hK5 _ _ ?_))
    clear hK5 K5
    refine wc_condF rfl ?_
    refine c_skip (x_blk (x_then (hK2 _ _ ?_)))
    clear hK2 K2
    refine forget [(4, _), (5, _)] ⟨rfl, rfl, trivial⟩ (fun e => ?_)
    refine c_seq (fun K6 hK6 => ?_)
    refine c_reg ?_ -- region 8 call.go:133
    refine wl (ro_build rfl bld_119) ?_
    refine wl (ro_build rfl bld_119) ?_
    refine wl_puta rfl rfl ((pvc_one vNil)) sz_119 (rfl) h4 ((by simp)) (rfl) (fun w3 h4 F3 => ?_)
    replace hB5 := F3.blkO hB5 (by first | omega | exact ow_ne (by assumption) (by assumption) (by omega))
    replace hF := hF.thenDrew.thenO F3 (by first | exact .inr (by omega) | exact .inl rfl | exact .inl (by assumption) | assumption)
    replace hR := hR.hbput ((Fram.refl (one b4) _).thenDrew.thenO F3 (.inl rfl))
    replace h5 := F3.blkO h5 (by first | omega | exact ow_ne (by assumption) (by assumption) (by omega))
    refine wl_puta rfl rfl ((pvc_one vNil)) sz_119 (rfl) h5 ((by simp)) (rfl) (fun w4 h5 F4 => ?_)
    replace hB5 := F4.blkO hB5 (by first | omega | exact ow_ne (by assumption) (by assumption) (by omega))
    replace hF := hF.thenDrew.thenO F4 (by first | exact .inr (by omega) | exact .inl rfl | exact .inl (by assumption) | assumption)
    replace hR := hR.hbput ((Fram.refl (one b5) _).thenDrew.thenO F4 (.inl rfl))
    replace h4 := F4.blkO h4 (by first | omega | exact ow_ne (by assumption) (by assumption) (by omega))
    refine wl_nil (x_then (hK6 _ _ ?_))
    clear hK6 K6
    refine c_ret ?_
    refine bq_ret (res2 Tryz.results262 (rv_c rfl ag_119 (h4) (rfl)) (rv_c rfl ag_119 (h5) (rfl))) ?_
    exact ⟨rfl, _, hX, hF, hR⟩
end
end Go.Proofs.Qxb6500568aGreatDoor
