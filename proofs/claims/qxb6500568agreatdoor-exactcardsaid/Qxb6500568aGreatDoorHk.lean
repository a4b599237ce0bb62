import Derived.Test.Qxb6500568aGreatDoorHj
/- The machine: plain instructions. -/
namespace Go.Proofs.Qxb6500568aGreatDoor
open Ieee
set_option linter.unusedVariables false
set_option linter.unusedSimpArgs false
set_option linter.unusedSectionVars false

section
variable {C : VC} {w : World} {ow : Nat → Nat} {a : AS} {y : ATh} {gs : List AFr} {g : AFr} {vars : List PV} {fg fc p z : Nat} {ids : List Nat}
/-- an operator's end. -/
def resZ (a : AS) (y : ATh) (gs : List AFr) (g : AFr) (vars l : List PV) (r : Res) : AS := match r with | .ok q => mkA a y gs { g with ops := q :: l, pc := g.pc + 1 } vars | .error m => araise m (mkA a y gs g vars)
set_option maxHeartbeats 8000000 in
theorem plain_15 (E : PE C fg fc w ow a y gs g vars p ids 15 z) : RetP Tryz.prog 247 [ptr C.E.mb, i64c a.cur, tptr C a.cur, fpt fg gs.length, prt C p, u8n 15, i64c z] w (PlR C fg fc w ow a y gs g (aplain (Psf C.F) 15 z (mkA a y gs g vars))) (AE C (kH a) w ow (aplain (Psf C.F) 15 z (mkA a y gs g vars))) := by
  have hR := E.r
  have hc := E.hc
  have hk := E.hk
  obtain ⟨V, κ, Vv, U, x, f, fs, o⟩ := hR.open hc
  have hX : Xt w ow ow := Xt.refl _ _
  have hF : Fram (tg ow vtT) w w := Fram.refl _ _
  have hol := E.ol
  have hnd := E.nd
  have hzz := E.hz
  obtain ⟨lT, hT, -, -, -, hT2, -⟩ := o.v.thA o.t.hx
  have hT2 := hT2 2 (.inl rfl)
  obtain ⟨lB, hB1, k1, q1, -, -⟩ := o.frow
  obtain ⟨lP, pa, pb, pc, hP, tP, rp, -, -, -⟩ := o.v.pro E.hp
  rw [Nat.zero_add] at rp
  obtain ⟨p0, ids0, n1, n2, n3⟩ := o.ns
  obtain ⟨rfl, rfl⟩ : p = p0 ∧ ids = ids0 := by have := hk.symm.trans n1; simpa using this
  have hwin := o.win n2
  have hln := o.t.ln
  have hsl := o.sl
  obtain ⟨v, v1, l, ho⟩ := ops_2 (l := g.ops) hnd
  have hlo := congrArg List.length ho
  simp only [List.length_cons] at hlo
  have hx9 := E.sn.r.2.2.2.2.2.2.1 (.inl rfl)
  have hap : aplain (Psf C.F) 15 z (mkA a y gs g vars) = resZ a y gs g vars l (binV z v1 v) := by
    unfold aplain
    simp only [mk_fr hc, mk_pro2 hk, E.pl, ho]
    simp only [Nat.reduceEqDiff, if_false, if_true, List.getD_cons_zero, List.getD_cons_succ, List.tail_cons, List.drop_succ_cons, List.drop_zero, mkA_tabs, mk_fr hc, mk_ops hc, mk_pc hc]
    unfold resZ
    cases binV z v1 v <;> rfl
  rw [hap]
  refine retp_of Tryz.func247 rfl Tryz.ntmps247 rfl ?_
  refine c_seq (fun K1 hK1 => ?_)
  refine c_pi [(0, false), (1, false), (2, false), (3, false), (4, false), (5, false), (6, false), (7, false), (8, false), (9, false), (10, false), (11, false), (12, false), (13, false), (14, false), (15, false), (16, false), (17, false), (18, false)] (SameH _) mixed (by kernel_rfl) rfl (by kernel_rfl) (po_then (po_bpp)) (sameH_now _ _) ?_ -- region 0 ops.go:34
  refine pi_ro rfl (fun w hS => ro_move rfl) ?_
  refine pi_ro rfl (fun w hS => ro_nilCheck rfl) ?_
  refine pi_ro rfl (fun w hS => ro_fieldAddr (k := 2) rfl fo_269_2) ?_
  refine pi_ro rfl (fun w hS => ro_loadB rfl sc_83 (Blk.of_heap hT hS) (hT2)) ?_
  refine pi_ro rfl (fun w hS => ro_move rfl) ?_
  refine pi_ro rfl (fun w hS => ro_nilCheck rfl) ?_
  refine pi_ro rfl (fun w hS => ro_fieldAddr (k := 2) rfl fo_331_2) ?_
  refine pi_ro rfl (fun w hS => ro_loadB rfl sc_3 (Blk.of_heap hB1 hS) (frow_at q1 (by decide))) ?_
  refine pi_ro rfl (fun w hS => ro_move rfl) ?_
  refine pi_ro rfl (fun w hS => ro_nilCheck rfl) ?_
  refine pi_ro rfl (fun w hS => ro_fieldAddr (k := 2) rfl fo_331_2) ?_
  refine pi_ro rfl (fun w hS => ro_loadB rfl sc_3 (Blk.of_heap hB1 hS) (frow_at q1 (by decide))) ?_
  refine pi_ro rfl (fun w hS => ro_move rfl) ?_
  refine pi_ro rfl (fun w hS => ro_nilCheck rfl) ?_
  refine pi_ro rfl (fun w hS => ro_fieldAddr (k := 1) rfl fo_258_1) ?_
  refine pi_ro rfl (fun w hS => ro_loadB rfl sc_3 (Blk.of_heap hP hS) (row_get rp (by decide))) ?_
  refine pi_ro rfl (fun w hS => ro_addN rfl rfl (by omega)) ?_
  refine pi_ro rfl (fun w hS => ro_slV hwin rfl rfl rfl se_83) ?_
  refine pi_ro rfl (fun w hS => ro_assign rfl) ?_
  refine pi_nil (x_then (hK1 _ _ ?_))
  clear hK1 K1
  refine forget [(0, _), (1, _), (2, _), (3, _), (4, _), (5, _), (6, _), (14, _)] ⟨rfl, rfl, rfl, rfl, rfl, rfl, rfl, rfl, trivial⟩ (fun e => ?_)
  refine c_seq (fun K2 hK2 => ?_)
  refine c_reg ?_ -- region 1 ops.go:35
  refine wl (ro_move rfl) ?_
  refine wl_nil (x_then (hK2 _ _ ?_))
  clear hK2 K2
  refine c_block ?_
  refine forget [(0, _), (1, _), (2, _), (3, _), (4, _), (5, _), (6, _), (14, _), (53, _)] ⟨rfl, rfl, rfl, rfl, rfl, rfl, rfl, rfl, rfl, trivial⟩ (fun e => ?_)
  refine c_seq (fun K3 hK3 => ?_)
  refine c_reg ?_ -- region 3 ops.go:36
  refine wl (ro_cmp rfl rfl rfl) ?_
  refine wl (ro_assign rfl) ?_
  refine wl_nil (x_then (hK3 _ _ ?_))
  clear hK3 K3
  refine wc_condF rfl ?_
  refine c_seq (fun K4 hK4 => ?_)
  refine c_reg ?_ -- region 5 ops.go:38
  refine wl (ro_cmp rfl rfl rfl) ?_
  refine wl (ro_assign rfl) ?_
  refine wl_nil (x_then (hK4 _ _ ?_))
  clear hK4 K4
  refine wc_condF rfl ?_
  refine c_seq (fun K5 hK5 => ?_)
  refine c_reg ?_ -- region 7 ops.go:40
  refine wl (ro_cmp rfl rfl rfl) ?_
  refine wl (ro_assign rfl) ?_
  refine wl_nil (x_then (hK5 _ _ ?_))
  clear hK5 K5
  refine wc_condF rfl ?_
  refine c_seq (fun K6 hK6 => ?_)
  refine c_reg ?_ -- region 9 ops.go:42
  refine wl (ro_cmp rfl rfl rfl) ?_
  refine wl (ro_assign rfl) ?_
  refine wl_nil (x_then (hK6 _ _ ?_))
  clear hK6 K6
  refine wc_condF rfl ?_
  refine c_seq (fun K7 hK7 => ?_)
  refine c_reg ?_ -- region 11 ops.go:44
  refine wl (ro_cmp rfl rfl rfl) ?_
  refine wl (ro_assign rfl) ?_
  refine wl_nil (x_then (hK7 _ _ ?_))
  clear hK7 K7
  refine wc_condF rfl ?_
  refine c_seq (fun K8 hK8 => ?_)
  refine c_reg ?_ -- region 13 ops.go:46
  refine wl (ro_cmp rfl rfl rfl) ?_
  refine wl (ro_assign rfl) ?_
  refine wl_nil (x_then (hK8 _ _ ?_))
  clear hK8 K8
  refine wc_condF rfl ?_
  refine c_seq (fun K9 hK9 => ?_)
  refine c_reg ?_ -- region 15 ops.go:48
  refine wl (ro_cmp rfl rfl rfl) ?_
  refine wl (ro_assign rfl) ?_
  refine wl_nil (x_then (hK9 _ _ ?_))
  clear hK9 K9
  refine wc_condF rfl ?_
  refine c_seq (fun K10 hK10 => ?_)
  refine c_reg ?_ -- region 18 ops.go:51
  refine wl (ro_cmp rfl rfl rfl) ?_
  refine wl (ro_assign rfl) ?_
  refine wl_nil (x_then (hK10 _ _ ?_))
  clear hK10 K10
  refine wc_condF rfl ?_
  refine c_seq (fun K11 hK11 => ?_)
  refine c_reg ?_ -- region 21 ops.go:54
  refine wl (ro_cmp rfl rfl rfl) ?_
  refine wl (ro_assign rfl) ?_
  refine wl_nil (x_then (hK11 _ _ ?_))
  clear hK11 K11
  refine wc_condF rfl ?_
  refine c_seq (fun K12 hK12 => ?_)
  refine c_reg ?_ -- region 24 ops.go:57
  refine wl (ro_cmp rfl rfl rfl) ?_
  refine wl (ro_assign rfl) ?_
  refine wl_nil (x_then (hK12 _ _ ?_))
  clear hK12 K12
  refine wc_condF rfl ?_
  refine c_seq (fun K13 hK13 => ?_)
  refine c_reg ?_ -- region 27 ops.go:60
  refine wl (ro_cmp rfl rfl rfl) ?_
  refine wl (ro_assign rfl) ?_
  refine wl_nil (x_then (hK13 _ _ ?_))
  clear hK13 K13
  refine wc_condF rfl ?_
  refine c_seq (fun K14 hK14 => ?_)
  refine c_reg ?_ -- region 33 ops.go:66
  refine wl (ro_cmp rfl rfl rfl) ?_
  refine wl (ro_assign rfl) ?_
  refine wl_nil (x_then (hK14 _ _ ?_))
  clear hK14 K14
  refine wc_condF rfl ?_
  refine c_seq (fun K15 hK15 => ?_)
  refine c_reg ?_ -- region 39 ops.go:72
  refine wl (ro_cmp rfl rfl rfl) ?_
  refine wl (ro_assign rfl) ?_
  refine wl_nil (x_then (hK15 _ _ ?_))
  clear hK15 K15
  refine wc_condF rfl ?_
  refine c_seq (fun K16 hK16 => ?_)
  refine c_reg ?_ -- region 44 ops.go:77
  refine wl (ro_cmp rfl rfl rfl) ?_
  refine wl (ro_assign rfl) ?_
  refine wl_nil (x_then (hK16 _ _ ?_))
  clear hK16 K16
  refine wc_condF rfl ?_
  refine c_seq (fun K17 hK17 => ?_)
  refine c_reg ?_ -- region 49 ops.go:83
  refine wl (ro_cmp rfl rfl rfl) ?_
  refine wl (ro_assign rfl) ?_
  refine wl_nil (x_then (hK17 _ _ ?_))
  clear hK17 K17
  refine wc_condF rfl ?_
  refine c_seq (fun K18 hK18 => ?_)
  refine c_reg ?_ -- region 51 ops.go:85
  refine wl (ro_cmp rfl rfl rfl) ?_
  refine wl (ro_assign rfl) ?_
  refine wl_nil (x_then (hK18 _ _ ?_))
  clear hK18 K18
  refine wc_condF rfl ?_
  refine c_seq (fun K19 hK19 => ?_)
  refine c_reg ?_ -- region 54 ops.go:88
  refine wl (ro_cmp rfl rfl rfl) ?_
  refine wl (ro_assign rfl) ?_
  refine wl_nil (x_then (hK19 _ _ ?_))
  clear hK19 K19
  refine wc_condF rfl ?_
  refine c_seq (fun K20 hK20 => ?_)
  refine c_seq (fun K21 hK21 => ?_)
  refine c_reg ?_ -- region 56 ops.go:90
  refine wl (ro_cmp rfl rfl rfl) ?_
  refine wl (ro_assign rfl) ?_
  refine wl_nil (x_then (hK21 _ _ ?_))
  clear hK21 K21
  refine wc_condF rfl ?_
  refine c_seq (fun K22 hK22 => ?_)
  refine c_reg ?_ -- region 57 ops.go:90
  refine wl (ro_cmp rfl rfl rfl) ?_
  refine wl (ro_assign rfl) ?_
  refine wl_nil (x_then (hK22 _ _ ?_))
  clear hK22 K22
  refine wc_condF rfl ?_
  refine c_reg ?_ -- region 58 ops.go:90
  refine wl (ro_cmp rfl rfl rfl) ?_
  refine wl (ro_assign rfl) ?_
  refine wl_nil (x_then (hK20 _ _ ?_))
  clear hK20 K20
  refine wc_condF rfl ?_
  refine c_reg ?_ -- region 2 ops.go:93
  refine wl (ro_move rfl) ?_
  refine wl (ro_move rfl) ?_
  refine wl (ro_move rfl) ?_
  refine wl (ro_move rfl) ?_
  refine wl_callP rfl en_275 (oper_15 (x := z) (z := resZ a y gs g vars l (binV z v1 v)) hR.dr hc hx9 (E.vo (v := v1) (by rw [ho]; simp)) (E.vo (v := v) (by rw [ho]; simp)) ho (by omega) (fun m h ↦ by rw [h]; rfl)) (fun pv w9 hE => bpp_pan (P := Tryz.prog) (fn := Tryz.f247) (AE.go hX hF hE)) ?_
  rintro _ u1 ⟨q9, hq9, rfl, ow1, x1, f1, r1⟩
  have hs1 := hF.size
  replace hF := vm_trans hX hF f1
  replace hX := hX.trans hs1 x1
  replace hR := r1
  refine wl_nil (x_blk ?_)
  refine bpp_end Tryz.results247 rfl ?_
  exact ⟨a, { g with ops := q9 :: l }, vars, rfl, rfl, by rw [hq9]; rfl, rfl, _, hX, hF, hR⟩
set_option maxHeartbeats 8000000 in
theorem plain_16 (E : PE C fg fc w ow a y gs g vars p ids 16 z) : RetP Tryz.prog 247 [ptr C.E.mb, i64c a.cur, tptr C a.cur, fpt fg gs.length, prt C p, u8n 16, i64c z] w (PlR C fg fc w ow a y gs g (aplain (Psf C.F) 16 z (mkA a y gs g vars))) (AE C (kH a) w ow (aplain (Psf C.F) 16 z (mkA a y gs g vars))) := by
  have hR := E.r
  have hc := E.hc
  have hk := E.hk
  obtain ⟨V, κ, Vv, U, x, f, fs, o⟩ := hR.open hc
  have hX : Xt w ow ow := Xt.refl _ _
  have hF : Fram (tg ow vtT) w w := Fram.refl _ _
  have hol := E.ol
  have hnd := E.nd
  have hzz := E.hz
  obtain ⟨lT, hT, -, -, -, hT2, -⟩ := o.v.thA o.t.hx
  have hT2 := hT2 2 (.inl rfl)
  obtain ⟨lB, hB1, k1, q1, -, -⟩ := o.frow
  obtain ⟨lP, pa, pb, pc, hP, tP, rp, -, -, -⟩ := o.v.pro E.hp
  rw [Nat.zero_add] at rp
  obtain ⟨p0, ids0, n1, n2, n3⟩ := o.ns
  obtain ⟨rfl, rfl⟩ : p = p0 ∧ ids = ids0 := by have := hk.symm.trans n1; simpa using this
  have hwin := o.win n2
  have hln := o.t.ln
  have hsl := o.sl
  obtain ⟨v, v1, l, ho⟩ := ops_2 (l := g.ops) hnd
  have hlo := congrArg List.length ho
  simp only [List.length_cons] at hlo
  have hx9 := E.sn.r.2.2.2.2.2.2.1 (.inr rfl)
  have hap : aplain (Psf C.F) 16 z (mkA a y gs g vars) = resZ a y gs g vars l (binV (z + 10) v1 v) := by
    unfold aplain
    simp only [mk_fr hc, mk_pro2 hk, E.pl, ho]
    simp only [Nat.reduceEqDiff, if_false, if_true, List.getD_cons_zero, List.getD_cons_succ, List.tail_cons, List.drop_succ_cons, List.drop_zero, mkA_tabs, mk_fr hc, mk_ops hc, mk_pc hc]
    unfold resZ
    cases binV (z + 10) v1 v <;> rfl
  rw [hap]
  refine retp_of Tryz.func247 rfl Tryz.ntmps247 rfl ?_
  refine c_seq (fun K1 hK1 => ?_)
  refine c_pi [(0, false), (1, false), (2, false), (3, false), (4, false), (5, false), (6, false), (7, false), (8, false), (9, false), (10, false), (11, false), (12, false), (13, false), (14, false), (15, false), (16, false), (17, false), (18, false)] (SameH _) mixed (by kernel_rfl) rfl (by kernel_rfl) (po_then (po_bpp)) (sameH_now _ _) ?_ -- region 0 ops.go:34
  refine pi_ro rfl (fun w hS => ro_move rfl) ?_
  refine pi_ro rfl (fun w hS => ro_nilCheck rfl) ?_
  refine pi_ro rfl (fun w hS => ro_fieldAddr (k := 2) rfl fo_269_2) ?_
  refine pi_ro rfl (fun w hS => ro_loadB rfl sc_83 (Blk.of_heap hT hS) (hT2)) ?_
  refine pi_ro rfl (fun w hS => ro_move rfl) ?_
  refine pi_ro rfl (fun w hS => ro_nilCheck rfl) ?_
  refine pi_ro rfl (fun w hS => ro_fieldAddr (k := 2) rfl fo_331_2) ?_
  refine pi_ro rfl (fun w hS => ro_loadB rfl sc_3 (Blk.of_heap hB1 hS) (frow_at q1 (by decide))) ?_
  refine pi_ro rfl (fun w hS => ro_move rfl) ?_
  refine pi_ro rfl (fun w hS => ro_nilCheck rfl) ?_
  refine pi_ro rfl (fun w hS => ro_fieldAddr (k := 2) rfl fo_331_2) ?_
  refine pi_ro rfl (fun w hS => ro_loadB rfl sc_3 (Blk.of_heap hB1 hS) (frow_at q1 (by decide))) ?_
  refine pi_ro rfl (fun w hS => ro_move rfl) ?_
  refine pi_ro rfl (fun w hS => ro_nilCheck rfl) ?_
  refine pi_ro rfl (fun w hS => ro_fieldAddr (k := 1) rfl fo_258_1) ?_
  refine pi_ro rfl (fun w hS => ro_loadB rfl sc_3 (Blk.of_heap hP hS) (row_get rp (by decide))) ?_
  refine pi_ro rfl (fun w hS => ro_addN rfl rfl (by omega)) ?_
  refine pi_ro rfl (fun w hS => ro_slV hwin rfl rfl rfl se_83) ?_
  refine pi_ro rfl (fun w hS => ro_assign rfl) ?_
  refine pi_nil (x_then (hK1 _ _ ?_))
  clear hK1 K1
  refine forget [(0, _), (1, _), (2, _), (3, _), (4, _), (5, _), (6, _), (14, _)] ⟨rfl, rfl, rfl, rfl, rfl, rfl, rfl, rfl, trivial⟩ (fun e => ?_)
  refine c_seq (fun K2 hK2 => ?_)
  refine c_reg ?_ -- region 1 ops.go:35
  refine wl (ro_move rfl) ?_
  refine wl_nil (x_then (hK2 _ _ ?_))
  clear hK2 K2
  refine c_block ?_
  refine forget [(0, _), (1, _), (2, _), (3, _), (4, _), (5, _), (6, _), (14, _), (53, _)] ⟨rfl, rfl, rfl, rfl, rfl, rfl, rfl, rfl, rfl, trivial⟩ (fun e => ?_)
  refine c_seq (fun K3 hK3 => ?_)
  refine c_reg ?_ -- region 3 ops.go:36
  refine wl (ro_cmp rfl rfl rfl) ?_
  refine wl (ro_assign rfl) ?_
  refine wl_nil (x_then (hK3 _ _ ?_))
  clear hK3 K3
  refine wc_condF rfl ?_
  refine c_seq (fun K4 hK4 => ?_)
  refine c_reg ?_ -- region 5 ops.go:38
  refine wl (ro_cmp rfl rfl rfl) ?_
  refine wl (ro_assign rfl) ?_
  refine wl_nil (x_then (hK4 _ _ ?_))
  clear hK4 K4
  refine wc_condF rfl ?_
  refine c_seq (fun K5 hK5 => ?_)
  refine c_reg ?_ -- region 7 ops.go:40
  refine wl (ro_cmp rfl rfl rfl) ?_
  refine wl (ro_assign rfl) ?_
  refine wl_nil (x_then (hK5 _ _ ?_))
  clear hK5 K5
  refine wc_condF rfl ?_
  refine c_seq (fun K6 hK6 => ?_)
  refine c_reg ?_ -- region 9 ops.go:42
  refine wl (ro_cmp rfl rfl rfl) ?_
  refine wl (ro_assign rfl) ?_
  refine wl_nil (x_then (hK6 _ _ ?_))
  clear hK6 K6
  refine wc_condF rfl ?_
  refine c_seq (fun K7 hK7 => ?_)
  refine c_reg ?_ -- region 11 ops.go:44
  refine wl (ro_cmp rfl rfl rfl) ?_
  refine wl (ro_assign rfl) ?_
  refine wl_nil (x_then (hK7 _ _ ?_))
  clear hK7 K7
  refine wc_condF rfl ?_
  refine c_seq (fun K8 hK8 => ?_)
  refine c_reg ?_ -- region 13 ops.go:46
  refine wl (ro_cmp rfl rfl rfl) ?_
  refine wl (ro_assign rfl) ?_
  refine wl_nil (x_then (hK8 _ _ ?_))
  clear hK8 K8
  refine wc_condF rfl ?_
  refine c_seq (fun K9 hK9 => ?_)
  refine c_reg ?_ -- region 15 ops.go:48
  refine wl (ro_cmp rfl rfl rfl) ?_
  refine wl (ro_assign rfl) ?_
  refine wl_nil (x_then (hK9 _ _ ?_))
  clear hK9 K9
  refine wc_condF rfl ?_
  refine c_seq (fun K10 hK10 => ?_)
  refine c_reg ?_ -- region 18 ops.go:51
  refine wl (ro_cmp rfl rfl rfl) ?_
  refine wl (ro_assign rfl) ?_
  refine wl_nil (x_then (hK10 _ _ ?_))
  clear hK10 K10
  refine wc_condF rfl ?_
  refine c_seq (fun K11 hK11 => ?_)
  refine c_reg ?_ -- region 21 ops.go:54
  refine wl (ro_cmp rfl rfl rfl) ?_
  refine wl (ro_assign rfl) ?_
  refine wl_nil (x_then (hK11 _ _ ?_))
  clear hK11 K11
  refine wc_condF rfl ?_
  refine c_seq (fun K12 hK12 => ?_)
  refine c_reg ?_ -- region 24 ops.go:57
  refine wl (ro_cmp rfl rfl rfl) ?_
  refine wl (ro_assign rfl) ?_
  refine wl_nil (x_then (hK12 _ _ ?_))
  clear hK12 K12
  refine wc_condF rfl ?_
  refine c_seq (fun K13 hK13 => ?_)
  refine c_reg ?_ -- region 27 ops.go:60
  refine wl (ro_cmp rfl rfl rfl) ?_
  refine wl (ro_assign rfl) ?_
  refine wl_nil (x_then (hK13 _ _ ?_))
  clear hK13 K13
  refine wc_condF rfl ?_
  refine c_seq (fun K14 hK14 => ?_)
  refine c_reg ?_ -- region 33 ops.go:66
  refine wl (ro_cmp rfl rfl rfl) ?_
  refine wl (ro_assign rfl) ?_
  refine wl_nil (x_then (hK14 _ _ ?_))
  clear hK14 K14
  refine wc_condF rfl ?_
  refine c_seq (fun K15 hK15 => ?_)
  refine c_reg ?_ -- region 39 ops.go:72
  refine wl (ro_cmp rfl rfl rfl) ?_
  refine wl (ro_assign rfl) ?_
  refine wl_nil (x_then (hK15 _ _ ?_))
  clear hK15 K15
  refine wc_condF rfl ?_
  refine c_seq (fun K16 hK16 => ?_)
  refine c_reg ?_ -- region 44 ops.go:77
  refine wl (ro_cmp rfl rfl rfl) ?_
  refine wl (ro_assign rfl) ?_
  refine wl_nil (x_then (hK16 _ _ ?_))
  clear hK16 K16
  refine wc_condF rfl ?_
  refine c_seq (fun K17 hK17 => ?_)
  refine c_reg ?_ -- region 49 ops.go:83
  refine wl (ro_cmp rfl rfl rfl) ?_
  refine wl (ro_assign rfl) ?_
  refine wl_nil (x_then (hK17 _ _ ?_))
  clear hK17 K17
  refine wc_condF rfl ?_
  refine c_seq (fun K18 hK18 => ?_)
  refine c_reg ?_ -- region 51 ops.go:85
  refine wl (ro_cmp rfl rfl rfl) ?_
  refine wl (ro_assign rfl) ?_
  refine wl_nil (x_then (hK18 _ _ ?_))
  clear hK18 K18
  refine wc_condF rfl ?_
  refine c_seq (fun K19 hK19 => ?_)
  refine c_reg ?_ -- region 54 ops.go:88
  refine wl (ro_cmp rfl rfl rfl) ?_
  refine wl (ro_assign rfl) ?_
  refine wl_nil (x_then (hK19 _ _ ?_))
  clear hK19 K19
  refine wc_condF rfl ?_
  refine c_seq (fun K20 hK20 => ?_)
  refine c_seq (fun K21 hK21 => ?_)
  refine c_reg ?_ -- region 56 ops.go:90
  refine wl (ro_cmp rfl rfl rfl) ?_
  refine wl (ro_assign rfl) ?_
  refine wl_nil (x_then (hK21 _ _ ?_))
  clear hK21 K21
  refine wc_condF rfl ?_
  refine c_seq (fun K22 hK22 => ?_)
  refine c_reg ?_ -- region 57 ops.go:90
  refine wl (ro_cmp rfl rfl rfl) ?_
  refine wl (ro_assign rfl) ?_
  refine wl_nil (x_then (hK22 _ _ ?_))
  clear hK22 K22
  refine wc_condF rfl ?_
  refine c_reg ?_ -- region 58 ops.go:90
  refine wl (ro_cmp rfl rfl rfl) ?_
  refine wl (ro_assign rfl) ?_
  refine wl_nil (x_then (hK20 _ _ ?_))
  clear hK20 K20
  refine wc_condF rfl ?_
  refine c_reg ?_ -- region 2 ops.go:93
  refine wl (ro_move rfl) ?_
  refine wl (ro_move rfl) ?_
  refine wl (ro_move rfl) ?_
  refine wl (ro_move rfl) ?_
  refine wl_callP rfl en_275 (oper_16 (x := z) (z := resZ a y gs g vars l (binV (z + 10) v1 v)) hR.dr hc hx9 (E.vo (v := v1) (by rw [ho]; simp)) (E.vo (v := v) (by rw [ho]; simp)) ho (by omega) (fun m h ↦ by rw [h]; rfl)) (fun pv w9 hE => bpp_pan (P := Tryz.prog) (fn := Tryz.f247) (AE.go hX hF hE)) ?_
  rintro _ u1 ⟨q9, hq9, rfl, ow1, x1, f1, r1⟩
  have hs1 := hF.size
  replace hF := vm_trans hX hF f1
  replace hX := hX.trans hs1 x1
  replace hR := r1
  refine wl_nil (x_blk ?_)
  refine bpp_end Tryz.results247 rfl ?_
  exact ⟨a, { g with ops := q9 :: l }, vars, rfl, rfl, by rw [hq9]; rfl, rfl, _, hX, hF, hR⟩
set_option maxHeartbeats 8000000 in
theorem plain_17 (E : PE C fg fc w ow a y gs g vars p ids 17 z) : RetP Tryz.prog 247 [ptr C.E.mb, i64c a.cur, tptr C a.cur, fpt fg gs.length, prt C p, u8n 17, i64c z] w (PlR C fg fc w ow a y gs g (aplain (Psf C.F) 17 z (mkA a y gs g vars))) (AE C (kH a) w ow (aplain (Psf C.F) 17 z (mkA a y gs g vars))) := by
  have hR := E.r
  have hc := E.hc
  have hk := E.hk
  obtain ⟨V, κ, Vv, U, x, f, fs, o⟩ := hR.open hc
  have hX : Xt w ow ow := Xt.refl _ _
  have hF : Fram (tg ow vtT) w w := Fram.refl _ _
  have hol := E.ol
  have hnd := E.nd
  have hzz := E.hz
  obtain ⟨lT, hT, -, -, -, hT2, -⟩ := o.v.thA o.t.hx
  have hT2 := hT2 2 (.inl rfl)
  obtain ⟨lB, hB1, k1, q1, -, -⟩ := o.frow
  obtain ⟨lP, pa, pb, pc, hP, tP, rp, -, -, -⟩ := o.v.pro E.hp
  rw [Nat.zero_add] at rp
  obtain ⟨p0, ids0, n1, n2, n3⟩ := o.ns
  obtain ⟨rfl, rfl⟩ : p = p0 ∧ ids = ids0 := by have := hk.symm.trans n1; simpa using this
  have hwin := o.win n2
  have hln := o.t.ln
  have hsl := o.sl
  obtain ⟨v, v1, l, ho⟩ := ops_2 (l := g.ops) hnd
  have hlo := congrArg List.length ho
  simp only [List.length_cons] at hlo
  have hap : aplain (Psf C.F) 17 z (mkA a y gs g vars) = resZ a y gs g vars l (binV 20 v1 v) := by
    unfold aplain
    simp only [mk_fr hc, mk_pro2 hk, E.pl, ho]
    simp only [Nat.reduceEqDiff, if_false, if_true, List.getD_cons_zero, List.getD_cons_succ, List.tail_cons, List.drop_succ_cons, List.drop_zero, mkA_tabs, mk_fr hc, mk_ops hc, mk_pc hc]
    unfold resZ
    cases binV 20 v1 v <;> rfl
  rw [hap]
  refine retp_of Tryz.func247 rfl Tryz.ntmps247 rfl ?_
  refine c_seq (fun K1 hK1 => ?_)
  refine c_pi [(0, false), (1, false), (2, false), (3, false), (4, false), (5, false), (6, false), (7, false), (8, false), (9, false), (10, false), (11, false), (12, false), (13, false), (14, false), (15, false), (16, false), (17, false), (18, false)] (SameH _) mixed (by kernel_rfl) rfl (by kernel_rfl) (po_then (po_bpp)) (sameH_now _ _) ?_ -- region 0 ops.go:34
  refine pi_ro rfl (fun w hS => ro_move rfl) ?_
  refine pi_ro rfl (fun w hS => ro_nilCheck rfl) ?_
  refine pi_ro rfl (fun w hS => ro_fieldAddr (k := 2) rfl fo_269_2) ?_
  refine pi_ro rfl (fun w hS => ro_loadB rfl sc_83 (Blk.of_heap hT hS) (hT2)) ?_
  refine pi_ro rfl (fun w hS => ro_move rfl) ?_
  refine pi_ro rfl (fun w hS => ro_nilCheck rfl) ?_
  refine pi_ro rfl (fun w hS => ro_fieldAddr (k := 2) rfl fo_331_2) ?_
  refine pi_ro rfl (fun w hS => ro_loadB rfl sc_3 (Blk.of_heap hB1 hS) (frow_at q1 (by decide))) ?_
  refine pi_ro rfl (fun w hS => ro_move rfl) ?_
  refine pi_ro rfl (fun w hS => ro_nilCheck rfl) ?_
  refine pi_ro rfl (fun w hS => ro_fieldAddr (k := 2) rfl fo_331_2) ?_
  refine pi_ro rfl (fun w hS => ro_loadB rfl sc_3 (Blk.of_heap hB1 hS) (frow_at q1 (by decide))) ?_
  refine pi_ro rfl (fun w hS => ro_move rfl) ?_
  refine pi_ro rfl (fun w hS => ro_nilCheck rfl) ?_
  refine pi_ro rfl (fun w hS => ro_fieldAddr (k := 1) rfl fo_258_1) ?_
  refine pi_ro rfl (fun w hS => ro_loadB rfl sc_3 (Blk.of_heap hP hS) (row_get rp (by decide))) ?_
  refine pi_ro rfl (fun w hS => ro_addN rfl rfl (by omega)) ?_
  refine pi_ro rfl (fun w hS => ro_slV hwin rfl rfl rfl se_83) ?_
  refine pi_ro rfl (fun w hS => ro_assign rfl) ?_
  refine pi_nil (x_then (hK1 _ _ ?_))
  clear hK1 K1
  refine forget [(0, _), (1, _), (2, _), (3, _), (4, _), (5, _), (6, _), (14, _)] ⟨rfl, rfl, rfl, rfl, rfl, rfl, rfl, rfl, trivial⟩ (fun e => ?_)
  refine c_seq (fun K2 hK2 => ?_)
  refine c_reg ?_ -- region 1 ops.go:35
  refine wl (ro_move rfl) ?_
  refine wl_nil (x_then (hK2 _ _ ?_))
  clear hK2 K2
  refine c_block ?_
  refine forget [(0, _), (1, _), (2, _), (3, _), (4, _), (5, _), (6, _), (14, _), (53, _)] ⟨rfl, rfl, rfl, rfl, rfl, rfl, rfl, rfl, rfl, trivial⟩ (fun e => ?_)
  refine c_seq (fun K3 hK3 => ?_)
  refine c_reg ?_ -- region 3 ops.go:36
  refine wl (ro_cmp rfl rfl rfl) ?_
  refine wl (ro_assign rfl) ?_
  refine wl_nil (x_then (hK3 _ _ ?_))
  clear hK3 K3
  refine wc_condF rfl ?_
  refine c_seq (fun K4 hK4 => ?_)
  refine c_reg ?_ -- region 5 ops.go:38
  refine wl (ro_cmp rfl rfl rfl) ?_
  refine wl (ro_assign rfl) ?_
  refine wl_nil (x_then (hK4 _ _ ?_))
  clear hK4 K4
  refine wc_condF rfl ?_
  refine c_seq (fun K5 hK5 => ?_)
  refine c_reg ?_ -- region 7 ops.go:40
  refine wl (ro_cmp rfl rfl rfl) ?_
  refine wl (ro_assign rfl) ?_
  refine wl_nil (x_then (hK5 _ _ ?_))
  clear hK5 K5
  refine wc_condF rfl ?_
  refine c_seq (fun K6 hK6 => ?_)
  refine c_reg ?_ -- region 9 ops.go:42
  refine wl (ro_cmp rfl rfl rfl) ?_
  refine wl (ro_assign rfl) ?_
  refine wl_nil (x_then (hK6 _ _ ?_))
  clear hK6 K6
  refine wc_condF rfl ?_
  refine c_seq (fun K7 hK7 => ?_)
  refine c_reg ?_ -- region 11 ops.go:44
  refine wl (ro_cmp rfl rfl rfl) ?_
  refine wl (ro_assign rfl) ?_
  refine wl_nil (x_then (hK7 _ _ ?_))
  clear hK7 K7
  refine wc_condF rfl ?_
  refine c_seq (fun K8 hK8 => ?_)
  refine c_reg ?_ -- region 13 ops.go:46
  refine wl (ro_cmp rfl rfl rfl) ?_
  refine wl (ro_assign rfl) ?_
  refine wl_nil (x_then (hK8 _ _ ?_))
  clear hK8 K8
  refine wc_condF rfl ?_
  refine c_seq (fun K9 hK9 => ?_)
  refine c_reg ?_ -- region 15 ops.go:48
  refine wl (ro_cmp rfl rfl rfl) ?_
  refine wl (ro_assign rfl) ?_
  refine wl_nil (x_then (hK9 _ _ ?_))
  clear hK9 K9
  refine wc_condF rfl ?_
  refine c_seq (fun K10 hK10 => ?_)
  refine c_reg ?_ -- region 18 ops.go:51
  refine wl (ro_cmp rfl rfl rfl) ?_
  refine wl (ro_assign rfl) ?_
  refine wl_nil (x_then (hK10 _ _ ?_))
  clear hK10 K10
  refine wc_condF rfl ?_
  refine c_seq (fun K11 hK11 => ?_)
  refine c_reg ?_ -- region 21 ops.go:54
  refine wl (ro_cmp rfl rfl rfl) ?_
  refine wl (ro_assign rfl) ?_
  refine wl_nil (x_then (hK11 _ _ ?_))
  clear hK11 K11
  refine wc_condF rfl ?_
  refine c_seq (fun K12 hK12 => ?_)
  refine c_reg ?_ -- region 24 ops.go:57
  refine wl (ro_cmp rfl rfl rfl) ?_
  refine wl (ro_assign rfl) ?_
  refine wl_nil (x_then (hK12 _ _ ?_))
  clear hK12 K12
  refine wc_condF rfl ?_
  refine c_seq (fun K13 hK13 => ?_)
  refine c_reg ?_ -- region 27 ops.go:60
  refine wl (ro_cmp rfl rfl rfl) ?_
  refine wl (ro_assign rfl) ?_
  refine wl_nil (x_then (hK13 _ _ ?_))
  clear hK13 K13
  refine wc_condF rfl ?_
  refine c_seq (fun K14 hK14 => ?_)
  refine c_reg ?_ -- region 33 ops.go:66
  refine wl (ro_cmp rfl rfl rfl) ?_
  refine wl (ro_assign rfl) ?_
  refine wl_nil (x_then (hK14 _ _ ?_))
  clear hK14 K14
  refine wc_condF rfl ?_
  refine c_seq (fun K15 hK15 => ?_)
  refine c_reg ?_ -- region 39 ops.go:72
  refine wl (ro_cmp rfl rfl rfl) ?_
  refine wl (ro_assign rfl) ?_
  refine wl_nil (x_then (hK15 _ _ ?_))
  clear hK15 K15
  refine wc_condF rfl ?_
  refine c_seq (fun K16 hK16 => ?_)
  refine c_reg ?_ -- region 44 ops.go:77
  refine wl (ro_cmp rfl rfl rfl) ?_
  refine wl (ro_assign rfl) ?_
  refine wl_nil (x_then (hK16 _ _ ?_))
  clear hK16 K16
  refine wc_condF rfl ?_
  refine c_seq (fun K17 hK17 => ?_)
  refine c_reg ?_ -- region 49 ops.go:83
  refine wl (ro_cmp rfl rfl rfl) ?_
  refine wl (ro_assign rfl) ?_
  refine wl_nil (x_then (hK17 _ _ ?_))
  clear hK17 K17
  refine wc_condF rfl ?_
  refine c_seq (fun K18 hK18 => ?_)
  refine c_reg ?_ -- region 51 ops.go:85
  refine wl (ro_cmp rfl rfl rfl) ?_
  refine wl (ro_assign rfl) ?_
  refine wl_nil (x_then (hK18 _ _ ?_))
  clear hK18 K18
  refine wc_condF rfl ?_
  refine c_seq (fun K19 hK19 => ?_)
  refine c_reg ?_ -- region 54 ops.go:88
  refine wl (ro_cmp rfl rfl rfl) ?_
  refine wl (ro_assign rfl) ?_
  refine wl_nil (x_then (hK19 _ _ ?_))
  clear hK19 K19
  refine wc_condF rfl ?_
  refine c_seq (fun K20 hK20 => ?_)
  refine c_seq (fun K21 hK21 => ?_)
  refine c_reg ?_ -- region 56 ops.go:90
  refine wl (ro_cmp rfl rfl rfl) ?_
  refine wl (ro_assign rfl) ?_
  refine wl_nil (x_then (hK21 _ _ ?_))
  clear hK21 K21
  refine wc_condF rfl ?_
  refine c_seq (fun K22 hK22 => ?_)
  refine c_reg ?_ -- region 57 ops.go:90
  refine wl (ro_cmp rfl rfl rfl) ?_
  refine wl (ro_assign rfl) ?_
  refine wl_nil (x_then (hK22 _ _ ?_))
  clear hK22 K22
  refine wc_condF rfl ?_
  refine c_reg ?_ -- region 58 ops.go:90
  refine wl (ro_cmp rfl rfl rfl) ?_
  refine wl (ro_assign rfl) ?_
  refine wl_nil (x_then (hK20 _ _ ?_))
  clear hK20 K20
  refine wc_condF rfl ?_
  refine c_reg ?_ -- region 2 ops.go:93
  refine wl (ro_move rfl) ?_
  refine wl (ro_move rfl) ?_
  refine wl (ro_move rfl) ?_
  refine wl (ro_move rfl) ?_
  refine wl_callP rfl en_275 (oper_17 (x := z) (z := resZ a y gs g vars l (binV 20 v1 v)) hR.dr hc (E.vo (v := v1) (by rw [ho]; simp)) (E.vo (v := v) (by rw [ho]; simp)) ho (by omega) (fun m h ↦ by rw [h]; rfl)) (fun pv w9 hE => bpp_pan (P := Tryz.prog) (fn := Tryz.f247) (AE.go hX hF hE)) ?_
  rintro _ u1 ⟨q9, hq9, rfl, ow1, x1, f1, r1⟩
  have hs1 := hF.size
  replace hF := vm_trans hX hF f1
  replace hX := hX.trans hs1 x1
  replace hR := r1
  refine wl_nil (x_blk ?_)
  refine bpp_end Tryz.results247 rfl ?_
  exact ⟨a, { g with ops := q9 :: l }, vars, rfl, rfl, by rw [hq9]; rfl, rfl, _, hX, hF, hR⟩
set_option maxHeartbeats 8000000 in
theorem plain_18 (E : PE C fg fc w ow a y gs g vars p ids 18 z) : RetP Tryz.prog 247 [ptr C.E.mb, i64c a.cur, tptr C a.cur, fpt fg gs.length, prt C p, u8n 18, i64c z] w (PlR C fg fc w ow a y gs g (aplain (Psf C.F) 18 z (mkA a y gs g vars))) (AE C (kH a) w ow (aplain (Psf C.F) 18 z (mkA a y gs g vars))) := by
  have hR := E.r
  have hc := E.hc
  have hk := E.hk
  obtain ⟨V, κ, Vv, U, x, f, fs, o⟩ := hR.open hc
  have hX : Xt w ow ow := Xt.refl _ _
  have hF : Fram (tg ow vtT) w w := Fram.refl _ _
  have hol := E.ol
  have hnd := E.nd
  have hzz := E.hz
  obtain ⟨lT, hT, -, -, -, hT2, -⟩ := o.v.thA o.t.hx
  have hT2 := hT2 2 (.inl rfl)
  obtain ⟨lB, hB1, k1, q1, -, -⟩ := o.frow
  obtain ⟨lP, pa, pb, pc, hP, tP, rp, -, -, -⟩ := o.v.pro E.hp
  rw [Nat.zero_add] at rp
  obtain ⟨p0, ids0, n1, n2, n3⟩ := o.ns
  obtain ⟨rfl, rfl⟩ : p = p0 ∧ ids = ids0 := by have := hk.symm.trans n1; simpa using this
  have hwin := o.win n2
  have hln := o.t.ln
  have hsl := o.sl
  obtain ⟨v, l, ho⟩ := ops_1 (l := g.ops) hnd
  have hlo := congrArg List.length ho
  simp only [List.length_cons] at hlo
  have hap : aplain (Psf C.F) 18 z (mkA a y gs g vars) = resZ a y gs g vars l (unV a.tabs 2 v) := by
    unfold aplain
    simp only [mk_fr hc, mk_pro2 hk, E.pl, ho]
    simp only [Nat.reduceEqDiff, if_false, if_true, List.getD_cons_zero, List.getD_cons_succ, List.tail_cons, List.drop_succ_cons, List.drop_zero, mkA_tabs, mk_fr hc, mk_ops hc, mk_pc hc]
    unfold resZ
    cases unV a.tabs 2 v <;> rfl
  rw [hap]
  refine retp_of Tryz.func247 rfl Tryz.ntmps247 rfl ?_
  refine c_seq (fun K1 hK1 => ?_)
  refine c_pi [(0, false), (1, false), (2, false), (3, false), (4, false), (5, false), (6, false), (7, false), (8, false), (9, false), (10, false), (11, false), (12, false), (13, false), (14, false), (15, false), (16, false), (17, false), (18, false)] (SameH _) mixed (by kernel_rfl) rfl (by kernel_rfl) (po_then (po_bpp)) (sameH_now _ _) ?_ -- region 0 ops.go:34
  refine pi_ro rfl (fun w hS => ro_move rfl) ?_
  refine pi_ro rfl (fun w hS => ro_nilCheck rfl) ?_
  refine pi_ro rfl (fun w hS => ro_fieldAddr (k := 2) rfl fo_269_2) ?_
  refine pi_ro rfl (fun w hS => ro_loadB rfl sc_83 (Blk.of_heap hT hS) (hT2)) ?_
  refine pi_ro rfl (fun w hS => ro_move rfl) ?_
  refine pi_ro rfl (fun w hS => ro_nilCheck rfl) ?_
  refine pi_ro rfl (fun w hS => ro_fieldAddr (k := 2) rfl fo_331_2) ?_
  refine pi_ro rfl (fun w hS => ro_loadB rfl sc_3 (Blk.of_heap hB1 hS) (frow_at q1 (by decide))) ?_
  refine pi_ro rfl (fun w hS => ro_move rfl) ?_
  refine pi_ro rfl (fun w hS => ro_nilCheck rfl) ?_
  refine pi_ro rfl (fun w hS => ro_fieldAddr (k := 2) rfl fo_331_2) ?_
  refine pi_ro rfl (fun w hS => ro_loadB rfl sc_3 (Blk.of_heap hB1 hS) (frow_at q1 (by decide))) ?_
  refine pi_ro rfl (fun w hS => ro_move rfl) ?_
  refine pi_ro rfl (fun w hS => ro_nilCheck rfl) ?_
  refine pi_ro rfl (fun w hS => ro_fieldAddr (k := 1) rfl fo_258_1) ?_
  refine pi_ro rfl (fun w hS => ro_loadB rfl sc_3 (Blk.of_heap hP hS) (row_get rp (by decide))) ?_
  refine pi_ro rfl (fun w hS => ro_addN rfl rfl (by omega)) ?_
  refine pi_ro rfl (fun w hS => ro_slV hwin rfl rfl rfl se_83) ?_
  refine pi_ro rfl (fun w hS => ro_assign rfl) ?_
  refine pi_nil (x_then (hK1 _ _ ?_))
  clear hK1 K1
  refine forget [(0, _), (1, _), (2, _), (3, _), (4, _), (5, _), (6, _), (14, _)] ⟨rfl, rfl, rfl, rfl, rfl, rfl, rfl, rfl, trivial⟩ (fun e => ?_)
  refine c_seq (fun K2 hK2 => ?_)
  refine c_reg ?_ -- region 1 ops.go:35
  refine wl (ro_move rfl) ?_
  refine wl_nil (x_then (hK2 _ _ ?_))
  clear hK2 K2
  refine c_block ?_
  refine forget [(0, _), (1, _), (2, _), (3, _), (4, _), (5, _), (6, _), (14, _), (53, _)] ⟨rfl, rfl, rfl, rfl, rfl, rfl, rfl, rfl, rfl, trivial⟩ (fun e => ?_)
  refine c_seq (fun K3 hK3 => ?_)
  refine c_reg ?_ -- region 3 ops.go:36
  refine wl (ro_cmp rfl rfl rfl) ?_
  refine wl (ro_assign rfl) ?_
  refine wl_nil (x_then (hK3 _ _ ?_))
  clear hK3 K3
  refine wc_condF rfl ?_
  refine c_seq (fun K4 hK4 => ?_)
  refine c_reg ?_ -- region 5 ops.go:38
  refine wl (ro_cmp rfl rfl rfl) ?_
  refine wl (ro_assign rfl) ?_
  refine wl_nil (x_then (hK4 _ _ ?_))
  clear hK4 K4
  refine wc_condF rfl ?_
  refine c_seq (fun K5 hK5 => ?_)
  refine c_reg ?_ -- region 7 ops.go:40
  refine wl (ro_cmp rfl rfl rfl) ?_
  refine wl (ro_assign rfl) ?_
  refine wl_nil (x_then (hK5 _ _ ?_))
  clear hK5 K5
  refine wc_condF rfl ?_
  refine c_seq (fun K6 hK6 => ?_)
  refine c_reg ?_ -- region 9 ops.go:42
  refine wl (ro_cmp rfl rfl rfl) ?_
  refine wl (ro_assign rfl) ?_
  refine wl_nil (x_then (hK6 _ _ ?_))
  clear hK6 K6
  refine wc_condF rfl ?_
  refine c_seq (fun K7 hK7 => ?_)
  refine c_reg ?_ -- region 11 ops.go:44
  refine wl (ro_cmp rfl rfl rfl) ?_
  refine wl (ro_assign rfl) ?_
  refine wl_nil (x_then (hK7 _ _ ?_))
  clear hK7 K7
  refine wc_condF rfl ?_
  refine c_seq (fun K8 hK8 => ?_)
  refine c_reg ?_ -- region 13 ops.go:46
  refine wl (ro_cmp rfl rfl rfl) ?_
  refine wl (ro_assign rfl) ?_
  refine wl_nil (x_then (hK8 _ _ ?_))
  clear hK8 K8
  refine wc_condF rfl ?_
  refine c_seq (fun K9 hK9 => ?_)
  refine c_reg ?_ -- region 15 ops.go:48
  refine wl (ro_cmp rfl rfl rfl) ?_
  refine wl (ro_assign rfl) ?_
  refine wl_nil (x_then (hK9 _ _ ?_))
  clear hK9 K9
  refine wc_condF rfl ?_
  refine c_seq (fun K10 hK10 => ?_)
  refine c_reg ?_ -- region 18 ops.go:51
  refine wl (ro_cmp rfl rfl rfl) ?_
  refine wl (ro_assign rfl) ?_
  refine wl_nil (x_then (hK10 _ _ ?_))
  clear hK10 K10
  refine wc_condF rfl ?_
  refine c_seq (fun K11 hK11 => ?_)
  refine c_reg ?_ -- region 21 ops.go:54
  refine wl (ro_cmp rfl rfl rfl) ?_
  refine wl (ro_assign rfl) ?_
  refine wl_nil (x_then (hK11 _ _ ?_))
  clear hK11 K11
  refine wc_condF rfl ?_
  refine c_seq (fun K12 hK12 => ?_)
  refine c_reg ?_ -- region 24 ops.go:57
  refine wl (ro_cmp rfl rfl rfl) ?_
  refine wl (ro_assign rfl) ?_
  refine wl_nil (x_then (hK12 _ _ ?_))
  clear hK12 K12
  refine wc_condF rfl ?_
  refine c_seq (fun K13 hK13 => ?_)
  refine c_reg ?_ -- region 27 ops.go:60
  refine wl (ro_cmp rfl rfl rfl) ?_
  refine wl (ro_assign rfl) ?_
  refine wl_nil (x_then (hK13 _ _ ?_))
  clear hK13 K13
  refine wc_condF rfl ?_
  refine c_seq (fun K14 hK14 => ?_)
  refine c_reg ?_ -- region 33 ops.go:66
  refine wl (ro_cmp rfl rfl rfl) ?_
  refine wl (ro_assign rfl) ?_
  refine wl_nil (x_then (hK14 _ _ ?_))
  clear hK14 K14
  refine wc_condF rfl ?_
  refine c_seq (fun K15 hK15 => ?_)
  refine c_reg ?_ -- region 39 ops.go:72
  refine wl (ro_cmp rfl rfl rfl) ?_
  refine wl (ro_assign rfl) ?_
  refine wl_nil (x_then (hK15 _ _ ?_))
  clear hK15 K15
  refine wc_condF rfl ?_
  refine c_seq (fun K16 hK16 => ?_)
  refine c_reg ?_ -- region 44 ops.go:77
  refine wl (ro_cmp rfl rfl rfl) ?_
  refine wl (ro_assign rfl) ?_
  refine wl_nil (x_then (hK16 _ _ ?_))
  clear hK16 K16
  refine wc_condF rfl ?_
  refine c_seq (fun K17 hK17 => ?_)
  refine c_reg ?_ -- region 49 ops.go:83
  refine wl (ro_cmp rfl rfl rfl) ?_
  refine wl (ro_assign rfl) ?_
  refine wl_nil (x_then (hK17 _ _ ?_))
  clear hK17 K17
  refine wc_condF rfl ?_
  refine c_seq (fun K18 hK18 => ?_)
  refine c_reg ?_ -- region 51 ops.go:85
  refine wl (ro_cmp rfl rfl rfl) ?_
  refine wl (ro_assign rfl) ?_
  refine wl_nil (x_then (hK18 _ _ ?_))
  clear hK18 K18
  refine wc_condF rfl ?_
  refine c_seq (fun K19 hK19 => ?_)
  refine c_reg ?_ -- region 54 ops.go:88
  refine wl (ro_cmp rfl rfl rfl) ?_
  refine wl (ro_assign rfl) ?_
  refine wl_nil (x_then (hK19 _ _ ?_))
  clear hK19 K19
  refine wc_condF rfl ?_
  refine c_seq (fun K20 hK20 => ?_)
  refine c_seq (fun K21 hK21 => ?_)
  refine c_reg ?_ -- region 56 ops.go:90
  refine wl (ro_cmp rfl rfl rfl) ?_
  refine wl (ro_assign rfl) ?_
  refine wl_nil (x_then (hK21 _ _ ?_))
  clear hK21 K21
  refine wc_condF rfl ?_
  refine c_seq (fun K22 hK22 => ?_)
  refine c_reg ?_ -- region 57 ops.go:90
  refine wl (ro_cmp rfl rfl rfl) ?_
  refine wl (ro_assign rfl) ?_
  refine wl_nil (x_then (hK22 _ _ ?_))
  clear hK22 K22
  refine wc_condF rfl ?_
  refine c_reg ?_ -- region 58 ops.go:90
  refine wl (ro_cmp rfl rfl rfl) ?_
  refine wl (ro_assign rfl) ?_
  refine wl_nil (x_then (hK20 _ _ ?_))
  clear hK20 K20
  refine wc_condF rfl ?_
  refine c_reg ?_ -- region 2 ops.go:93
  refine wl (ro_move rfl) ?_
  refine wl (ro_move rfl) ?_
  refine wl (ro_move rfl) ?_
  refine wl (ro_move rfl) ?_
  refine wl_callP rfl en_275 (oper_18 (x := z) (z := resZ a y gs g vars l (unV a.tabs 2 v)) hR.dr hc (E.vo (v := v) (by rw [ho]; simp)) ho (by omega) (fun m h ↦ by rw [h]; rfl)) (fun pv w9 hE => bpp_pan (P := Tryz.prog) (fn := Tryz.f247) (AE.go hX hF hE)) ?_
  rintro _ u1 ⟨q9, hq9, rfl, ow1, x1, f1, r1⟩
  have hs1 := hF.size
  replace hF := vm_trans hX hF f1
  replace hX := hX.trans hs1 x1
  replace hR := r1
  refine wl_nil (x_blk ?_)
  refine bpp_end Tryz.results247 rfl ?_
  exact ⟨a, { g with ops := q9 :: l }, vars, rfl, rfl, by rw [hq9]; rfl, rfl, _, hX, hF, hR⟩
set_option maxHeartbeats 8000000 in
theorem plain_19 (E : PE C fg fc w ow a y gs g vars p ids 19 z) : RetP Tryz.prog 247 [ptr C.E.mb, i64c a.cur, tptr C a.cur, fpt fg gs.length, prt C p, u8n 19, i64c z] w (PlR C fg fc w ow a y gs g (aplain (Psf C.F) 19 z (mkA a y gs g vars))) (AE C (kH a) w ow (aplain (Psf C.F) 19 z (mkA a y gs g vars))) := by
  have hR := E.r
  have hc := E.hc
  have hk := E.hk
  obtain ⟨V, κ, Vv, U, x, f, fs, o⟩ := hR.open hc
  have hX : Xt w ow ow := Xt.refl _ _
  have hF : Fram (tg ow vtT) w w := Fram.refl _ _
  have hol := E.ol
  have hnd := E.nd
  have hzz := E.hz
  obtain ⟨lT, hT, -, -, -, hT2, -⟩ := o.v.thA o.t.hx
  have hT2 := hT2 2 (.inl rfl)
  obtain ⟨lB, hB1, k1, q1, -, -⟩ := o.frow
  obtain ⟨lP, pa, pb, pc, hP, tP, rp, -, -, -⟩ := o.v.pro E.hp
  rw [Nat.zero_add] at rp
  obtain ⟨p0, ids0, n1, n2, n3⟩ := o.ns
  obtain ⟨rfl, rfl⟩ : p = p0 ∧ ids = ids0 := by have := hk.symm.trans n1; simpa using this
  have hwin := o.win n2
  have hln := o.t.ln
  have hsl := o.sl
  obtain ⟨v, l, ho⟩ := ops_1 (l := g.ops) hnd
  have hlo := congrArg List.length ho
  simp only [List.length_cons] at hlo
  have hap : aplain (Psf C.F) 19 z (mkA a y gs g vars) = resZ a y gs g vars l (unV a.tabs 1 v) := by
    unfold aplain
    simp only [mk_fr hc, mk_pro2 hk, E.pl, ho]
    simp only [Nat.reduceEqDiff, if_false, if_true, List.getD_cons_zero, List.getD_cons_succ, List.tail_cons, List.drop_succ_cons, List.drop_zero, mkA_tabs, mk_fr hc, mk_ops hc, mk_pc hc]
    unfold resZ
    cases unV a.tabs 1 v <;> rfl
  rw [hap]
  refine retp_of Tryz.func247 rfl Tryz.ntmps247 rfl ?_
  refine c_seq (fun K1 hK1 => ?_)
  refine c_pi [(0, false), (1, false), (2, false), (3, false), (4, false), (5, false), (6, false), (7, false), (8, false), (9, false), (10, false), (11, false), (12, false), (13, false), (14, false), (15, false), (16, false), (17, false), (18, false)] (SameH _) mixed (by kernel_rfl) rfl (by kernel_rfl) (po_then (po_bpp)) (sameH_now _ _) ?_ -- region 0 ops.go:34
  refine pi_ro rfl (fun w hS => ro_move rfl) ?_
  refine pi_ro rfl (fun w hS => ro_nilCheck rfl) ?_
  refine pi_ro rfl (fun w hS => ro_fieldAddr (k := 2) rfl fo_269_2) ?_
  refine pi_ro rfl (fun w hS => ro_loadB rfl sc_83 (Blk.of_heap hT hS) (hT2)) ?_
  refine pi_ro rfl (fun w hS => ro_move rfl) ?_
  refine pi_ro rfl (fun w hS => ro_nilCheck rfl) ?_
  refine pi_ro rfl (fun w hS => ro_fieldAddr (k := 2) rfl fo_331_2) ?_
  refine pi_ro rfl (fun w hS => ro_loadB rfl sc_3 (Blk.of_heap hB1 hS) (frow_at q1 (by decide))) ?_
  refine pi_ro rfl (fun w hS => ro_move rfl) ?_
  refine pi_ro rfl (fun w hS => ro_nilCheck rfl) ?_
  refine pi_ro rfl (fun w hS => ro_fieldAddr (k := 2) rfl fo_331_2) ?_
  refine pi_ro rfl (fun w hS => ro_loadB rfl sc_3 (Blk.of_heap hB1 hS) (frow_at q1 (by decide))) ?_
  refine pi_ro rfl (fun w hS => ro_move rfl) ?_
  refine pi_ro rfl (fun w hS => ro_nilCheck rfl) ?_
  refine pi_ro rfl (fun w hS => ro_fieldAddr (k := 1) rfl fo_258_1) ?_
  refine pi_ro rfl (fun w hS => ro_loadB rfl sc_3 (Blk.of_heap hP hS) (row_get rp (by decide))) ?_
  refine pi_ro rfl (fun w hS => ro_addN rfl rfl (by omega)) ?_
  refine pi_ro rfl (fun w hS => ro_slV hwin rfl rfl rfl se_83) ?_
  refine pi_ro rfl (fun w hS => ro_assign rfl) ?_
  refine pi_nil (x_then (hK1 _ _ ?_))
  clear hK1 K1
  refine forget [(0, _), (1, _), (2, _), (3, _), (4, _), (5, _), (6, _), (14, _)] ⟨rfl, rfl, rfl, rfl, rfl, rfl, rfl, rfl, trivial⟩ (fun e => ?_)
  refine c_seq (fun K2 hK2 => ?_)
  refine c_reg ?_ -- region 1 ops.go:35
  refine wl (ro_move rfl) ?_
  refine wl_nil (x_then (hK2 _ _ ?_))
  clear hK2 K2
  refine c_block ?_
  refine forget [(0, _), (1, _), (2, _), (3, _), (4, _), (5, _), (6, _), (14, _), (53, _)] ⟨rfl, rfl, rfl, rfl, rfl, rfl, rfl, rfl, rfl, trivial⟩ (fun e => ?_)
  refine c_seq (fun K3 hK3 => ?_)
  refine c_reg ?_ -- region 3 ops.go:36
  refine wl (ro_cmp rfl rfl rfl) ?_
  refine wl (ro_assign rfl) ?_
  refine wl_nil (x_then (hK3 _ _ ?_))
  clear hK3 K3
  refine wc_condF rfl ?_
  refine c_seq (fun K4 hK4 => ?_)
  refine c_reg ?_ -- region 5 ops.go:38
  refine wl (ro_cmp rfl rfl rfl) ?_
  refine wl (ro_assign rfl) ?_
  refine wl_nil (x_then (hK4 _ _ ?_))
  clear hK4 K4
  refine wc_condF rfl ?_
  refine c_seq (fun K5 hK5 => ?_)
  refine c_reg ?_ -- region 7 ops.go:40
  refine wl (ro_cmp rfl rfl rfl) ?_
  refine wl (ro_assign rfl) ?_
  refine wl_nil (x_then (hK5 _ _ ?_))
  clear hK5 K5
  refine wc_condF rfl ?_
  refine c_seq (fun K6 hK6 => ?_)
  refine c_reg ?_ -- region 9 ops.go:42
  refine wl (ro_cmp rfl rfl rfl) ?_
  refine wl (ro_assign rfl) ?_
  refine wl_nil (x_then (hK6 _ _ ?_))
  clear hK6 K6
  refine wc_condF rfl ?_
  refine c_seq (fun K7 hK7 => ?_)
  refine c_reg ?_ -- region 11 ops.go:44
  refine wl (ro_cmp rfl rfl rfl) ?_
  refine wl (ro_assign rfl) ?_
  refine wl_nil (x_then (hK7 _ _ ?_))
  clear hK7 K7
  refine wc_condF rfl ?_
  refine c_seq (fun K8 hK8 => ?_)
  refine c_reg ?_ -- region 13 ops.go:46
  refine wl (ro_cmp rfl rfl rfl) ?_
  refine wl (ro_assign rfl) ?_
  refine wl_nil (x_then (hK8 _ _ ?_))
  clear hK8 K8
  refine wc_condF rfl ?_
  refine c_seq (fun K9 hK9 => ?_)
  refine c_reg ?_ -- region 15 ops.go:48
  refine wl (ro_cmp rfl rfl rfl) ?_
  refine wl (ro_assign rfl) ?_
  refine wl_nil (x_then (hK9 _ _ ?_))
  clear hK9 K9
  refine wc_condF rfl ?_
  refine c_seq (fun K10 hK10 => ?_)
  refine c_reg ?_ -- region 18 ops.go:51
  refine wl (ro_cmp rfl rfl rfl) ?_
  refine wl (ro_assign rfl) ?_
  refine wl_nil (x_then (hK10 _ _ ?_))
  clear hK10 K10
  refine wc_condF rfl ?_
  refine c_seq (fun K11 hK11 => ?_)
  refine c_reg ?_ -- region 21 ops.go:54
  refine wl (ro_cmp rfl rfl rfl) ?_
  refine wl (ro_assign rfl) ?_
  refine wl_nil (x_then (hK11 _ _ ?_))
  clear hK11 K11
  refine wc_condF rfl ?_
  refine c_seq (fun K12 hK12 => ?_)
  refine c_reg ?_ -- region 24 ops.go:57
  refine wl (ro_cmp rfl rfl rfl) ?_
  refine wl (ro_assign rfl) ?_
  refine wl_nil (x_then (hK12 _ _ ?_))
  clear hK12 K12
  refine wc_condF rfl ?_
  refine c_seq (fun K13 hK13 => ?_)
  refine c_reg ?_ -- region 27 ops.go:60
  refine wl (ro_cmp rfl rfl rfl) ?_
  refine wl (ro_assign rfl) ?_
  refine wl_nil (x_then (hK13 _ _ ?_))
  clear hK13 K13
  refine wc_condF rfl ?_
  refine c_seq (fun K14 hK14 => ?_)
  refine c_reg ?_ -- region 33 ops.go:66
  refine wl (ro_cmp rfl rfl rfl) ?_
  refine wl (ro_assign rfl) ?_
  refine wl_nil (x_then (hK14 _ _ ?_))
  clear hK14 K14
  refine wc_condF rfl ?_
  refine c_seq (fun K15 hK15 => ?_)
  refine c_reg ?_ -- region 39 ops.go:72
  refine wl (ro_cmp rfl rfl rfl) ?_
  refine wl (ro_assign rfl) ?_
  refine wl_nil (x_then (hK15 _ _ ?_))
  clear hK15 K15
  refine wc_condF rfl ?_
  refine c_seq (fun K16 hK16 => ?_)
  refine c_reg ?_ -- region 44 ops.go:77
  refine wl (ro_cmp rfl rfl rfl) ?_
  refine wl (ro_assign rfl) ?_
  refine wl_nil (x_then (hK16 _ _ ?_))
  clear hK16 K16
  refine wc_condF rfl ?_
  refine c_seq (fun K17 hK17 => ?_)
  refine c_reg ?_ -- region 49 ops.go:83
  refine wl (ro_cmp rfl rfl rfl) ?_
  refine wl (ro_assign rfl) ?_
  refine wl_nil (x_then (hK17 _ _ ?_))
  clear hK17 K17
  refine wc_condF rfl ?_
  refine c_seq (fun K18 hK18 => ?_)
  refine c_reg ?_ -- region 51 ops.go:85
  refine wl (ro_cmp rfl rfl rfl) ?_
  refine wl (ro_assign rfl) ?_
  refine wl_nil (x_then (hK18 _ _ ?_))
  clear hK18 K18
  refine wc_condF rfl ?_
  refine c_seq (fun K19 hK19 => ?_)
  refine c_reg ?_ -- region 54 ops.go:88
  refine wl (ro_cmp rfl rfl rfl) ?_
  refine wl (ro_assign rfl) ?_
  refine wl_nil (x_then (hK19 _ _ ?_))
  clear hK19 K19
  refine wc_condF rfl ?_
  refine c_seq (fun K20 hK20 => ?_)
  refine c_seq (fun K21 hK21 => ?_)
  refine c_reg ?_ -- region 56 ops.go:90
  refine wl (ro_cmp rfl rfl rfl) ?_
  refine wl (ro_assign rfl) ?_
  refine wl_nil (x_then (hK21 _ _ ?_))
  clear hK21 K21
  refine wc_condF rfl ?_
  refine c_seq (fun K22 hK22 => ?_)
  refine c_reg ?_ -- region 57 ops.go:90
  refine wl (ro_cmp rfl rfl rfl) ?_
  refine wl (ro_assign rfl) ?_
  refine wl_nil (x_then (hK22 _ _ ?_))
  clear hK22 K22
  refine wc_condF rfl ?_
  refine c_reg ?_ -- region 58 ops.go:90
  refine wl (ro_cmp rfl rfl rfl) ?_
  refine wl (ro_assign rfl) ?_
  refine wl_nil (x_then (hK20 _ _ ?_))
  clear hK20 K20
  refine wc_condF rfl ?_
  refine c_reg ?_ -- region 2 ops.go:93
  refine wl (ro_move rfl) ?_
  refine wl (ro_move rfl) ?_
  refine wl (ro_move rfl) ?_
  refine wl (ro_move rfl) ?_
  refine wl_callP rfl en_275 (oper_19 (x := z) (z := resZ a y gs g vars l (unV a.tabs 1 v)) hR.dr hc (E.vo (v := v) (by rw [ho]; simp)) ho (by omega) (fun m h ↦ by rw [h]; rfl)) (fun pv w9 hE => bpp_pan (P := Tryz.prog) (fn := Tryz.f247) (AE.go hX hF hE)) ?_
  rintro _ u1 ⟨q9, hq9, rfl, ow1, x1, f1, r1⟩
  have hs1 := hF.size
  replace hF := vm_trans hX hF f1
  replace hX := hX.trans hs1 x1
  replace hR := r1
  refine wl_nil (x_blk ?_)
  refine bpp_end Tryz.results247 rfl ?_
  exact ⟨a, { g with ops := q9 :: l }, vars, rfl, rfl, by rw [hq9]; rfl, rfl, _, hX, hF, hR⟩
set_option maxHeartbeats 8000000 in
theorem plain_20 (E : PE C fg fc w ow a y gs g vars p ids 20 z) : RetP Tryz.prog 247 [ptr C.E.mb, i64c a.cur, tptr C a.cur, fpt fg gs.length, prt C p, u8n 20, i64c z] w (PlR C fg fc w ow a y gs g (aplain (Psf C.F) 20 z (mkA a y gs g vars))) (AE C (kH a) w ow (aplain (Psf C.F) 20 z (mkA a y gs g vars))) := by
  have hR := E.r
  have hc := E.hc
  have hk := E.hk
  obtain ⟨V, κ, Vv, U, x, f, fs, o⟩ := hR.open hc
  have hX : Xt w ow ow := Xt.refl _ _
  have hF : Fram (tg ow vtT) w w := Fram.refl _ _
  have hol := E.ol
  have hnd := E.nd
  have hzz := E.hz
  obtain ⟨lT, hT, -, -, -, hT2, -⟩ := o.v.thA o.t.hx
  have hT2 := hT2 2 (.inl rfl)
  obtain ⟨lB, hB1, k1, q1, -, -⟩ := o.frow
  obtain ⟨lP, pa, pb, pc, hP, tP, rp, -, -, -⟩ := o.v.pro E.hp
  rw [Nat.zero_add] at rp
  obtain ⟨p0, ids0, n1, n2, n3⟩ := o.ns
  obtain ⟨rfl, rfl⟩ : p = p0 ∧ ids = ids0 := by have := hk.symm.trans n1; simpa using this
  have hwin := o.win n2
  have hln := o.t.ln
  have hsl := o.sl
  obtain ⟨v, l, ho⟩ := ops_1 (l := g.ops) hnd
  have hlo := congrArg List.length ho
  simp only [List.length_cons] at hlo
  have hap : aplain (Psf C.F) 20 z (mkA a y gs g vars) = resZ a y gs g vars l (unV a.tabs 3 v) := by
    unfold aplain
    simp only [mk_fr hc, mk_pro2 hk, E.pl, ho]
    simp only [Nat.reduceEqDiff, if_false, if_true, List.getD_cons_zero, List.getD_cons_succ, List.tail_cons, List.drop_succ_cons, List.drop_zero, mkA_tabs, mk_fr hc, mk_ops hc, mk_pc hc]
    unfold resZ
    cases unV a.tabs 3 v <;> rfl
  rw [hap]
  refine retp_of Tryz.func247 rfl Tryz.ntmps247 rfl ?_
  refine c_seq (fun K1 hK1 => ?_)
  refine c_pi [(0, false), (1, false), (2, false), (3, false), (4, false), (5, false), (6, false), (7, false), (8, false), (9, false), (10, false), (11, false), (12, false), (13, false), (14, false), (15, false), (16, false), (17, false), (18, false)] (SameH _) mixed (by kernel_rfl) rfl (by kernel_rfl) (po_then (po_bpp)) (sameH_now _ _) ?_ -- region 0 ops.go:34
  refine pi_ro rfl (fun w hS => ro_move rfl) ?_
  refine pi_ro rfl (fun w hS => ro_nilCheck rfl) ?_
  refine pi_ro rfl (fun w hS => ro_fieldAddr (k := 2) rfl fo_269_2) ?_
  refine pi_ro rfl (fun w hS => ro_loadB rfl sc_83 (Blk.of_heap hT hS) (hT2)) ?_
  refine pi_ro rfl (fun w hS => ro_move rfl) ?_
  refine pi_ro rfl (fun w hS => ro_nilCheck rfl) ?_
  refine pi_ro rfl (fun w hS => ro_fieldAddr (k := 2) rfl fo_331_2) ?_
  refine pi_ro rfl (fun w hS => ro_loadB rfl sc_3 (Blk.of_heap hB1 hS) (frow_at q1 (by decide))) ?_
  refine pi_ro rfl (fun w hS => ro_move rfl) ?_
  refine pi_ro rfl (fun w hS => ro_nilCheck rfl) ?_
  refine pi_ro rfl (fun w hS => ro_fieldAddr (k := 2) rfl fo_331_2) ?_
  refine pi_ro rfl (fun w hS => ro_loadB rfl sc_3 (Blk.of_heap hB1 hS) (frow_at q1 (by decide))) ?_
  refine pi_ro rfl (fun w hS => ro_move rfl) ?_
  refine pi_ro rfl (fun w hS => ro_nilCheck rfl) ?_
  refine pi_ro rfl (fun w hS => ro_fieldAddr (k := 1) rfl fo_258_1) ?_
  refine pi_ro rfl (fun w hS => ro_loadB rfl sc_3 (Blk.of_heap hP hS) (row_get rp (by decide))) ?_
  refine pi_ro rfl (fun w hS => ro_addN rfl rfl (by omega)) ?_
  refine pi_ro rfl (fun w hS => ro_slV hwin rfl rfl rfl se_83) ?_
  refine pi_ro rfl (fun w hS => ro_assign rfl) ?_
  refine pi_nil (x_then (hK1 _ _ ?_))
  clear hK1 K1
  refine forget [(0, _), (1, _), (2, _), (3, _), (4, _), (5, _), (6, _), (14, _)] ⟨rfl, rfl, rfl, rfl, rfl, rfl, rfl, rfl, trivial⟩ (fun e => ?_)
  refine c_seq (fun K2 hK2 => ?_)
  refine c_reg ?_ -- region 1 ops.go:35
  refine wl (ro_move rfl) ?_
  refine wl_nil (x_then (hK2 _ _ ?_))
  clear hK2 K2
  refine c_block ?_
  refine forget [(0, _), (1, _), (2, _), (3, _), (4, _), (5, _), (6, _), (14, _), (53, _)] ⟨rfl, rfl, rfl, rfl, rfl, rfl, rfl, rfl, rfl, trivial⟩ (fun e => ?_)
  refine c_seq (fun K3 hK3 => ?_)
  refine c_reg ?_ -- region 3 ops.go:36
  refine wl (ro_cmp rfl rfl rfl) ?_
  refine wl (ro_assign rfl) ?_
  refine wl_nil (x_then (hK3 _ _ ?_))
  clear hK3 K3
  refine wc_condF rfl ?_
  refine c_seq (fun K4 hK4 => ?_)
  refine c_reg ?_ -- region 5 ops.go:38
  refine wl (ro_cmp rfl rfl rfl) ?_
  refine wl (ro_assign rfl) ?_
  refine wl_nil (x_then (hK4 _ _ ?_))
  clear hK4 K4
  refine wc_condF rfl ?_
  refine c_seq (fun K5 hK5 => ?_)
  refine c_reg ?_ -- region 7 ops.go:40
  refine wl (ro_cmp rfl rfl rfl) ?_
  refine wl (ro_assign rfl) ?_
  refine wl_nil (x_then (hK5 _ _ ?_))
  clear hK5 K5
  refine wc_condF rfl ?_
  refine c_seq (fun K6 hK6 => ?_)
  refine c_reg ?_ -- region 9 ops.go:42
  refine wl (ro_cmp rfl rfl rfl) ?_
  refine wl (ro_assign rfl) ?_
  refine wl_nil (x_then (hK6 _ _ ?_))
  clear hK6 K6
  refine wc_condF rfl ?_
  refine c_seq (fun K7 hK7 => ?_)
  refine c_reg ?_ -- region 11 ops.go:44
  refine wl (ro_cmp rfl rfl rfl) ?_
  refine wl (ro_assign rfl) ?_
  refine wl_nil (x_then (hK7 _ _ ?_))
  clear hK7 K7
  refine wc_condF rfl ?_
  refine c_seq (fun K8 hK8 => ?_)
  refine c_reg ?_ -- region 13 ops.go:46
  refine wl (ro_cmp rfl rfl rfl) ?_
  refine wl (ro_assign rfl) ?_
  refine wl_nil (x_then (hK8 _ _ ?_))
  clear hK8 K8
  refine wc_condF rfl ?_
  refine c_seq (fun K9 hK9 => ?_)
  refine c_reg ?_ -- region 15 ops.go:48
  refine wl (ro_cmp rfl rfl rfl) ?_
  refine wl (ro_assign rfl) ?_
  refine wl_nil (x_then (hK9 _ _ ?_))
  clear hK9 K9
  refine wc_condF rfl ?_
  refine c_seq (fun K10 hK10 => ?_)
  refine c_reg ?_ -- region 18 ops.go:51
  refine wl (ro_cmp rfl rfl rfl) ?_
  refine wl (ro_assign rfl) ?_
  refine wl_nil (x_then (hK10 _ _ ?_))
  clear hK10 K10
  refine wc_condF rfl ?_
  refine c_seq (fun K11 hK11 => ?_)
  refine c_reg ?_ -- region 21 ops.go:54
  refine wl (ro_cmp rfl rfl rfl) ?_
  refine wl (ro_assign rfl) ?_
  refine wl_nil (x_then (hK11 _ _ ?_))
  clear hK11 K11
  refine wc_condF rfl ?_
  refine c_seq (fun K12 hK12 => ?_)
  refine c_reg ?_ -- region 24 ops.go:57
  refine wl (ro_cmp rfl rfl rfl) ?_
  refine wl (ro_assign rfl) ?_
  refine wl_nil (x_then (hK12 _ _ ?_))
  clear hK12 K12
  refine wc_condF rfl ?_
  refine c_seq (fun K13 hK13 => ?_)
  refine c_reg ?_ -- region 27 ops.go:60
  refine wl (ro_cmp rfl rfl rfl) ?_
  refine wl (ro_assign rfl) ?_
  refine wl_nil (x_then (hK13 _ _ ?_))
  clear hK13 K13
  refine wc_condF rfl ?_
  refine c_seq (fun K14 hK14 => ?_)
  refine c_reg ?_ -- region 33 ops.go:66
  refine wl (ro_cmp rfl rfl rfl) ?_
  refine wl (ro_assign rfl) ?_
  refine wl_nil (x_then (hK14 _ _ ?_))
  clear hK14 K14
  refine wc_condF rfl ?_
  refine c_seq (fun K15 hK15 => ?_)
  refine c_reg ?_ -- region 39 ops.go:72
  refine wl (ro_cmp rfl rfl rfl) ?_
  refine wl (ro_assign rfl) ?_
  refine wl_nil (x_then (hK15 _ _ ?_))
  clear hK15 K15
  refine wc_condF rfl ?_
  refine c_seq (fun K16 hK16 => ?_)
  refine c_reg ?_ -- region 44 ops.go:77
  refine wl (ro_cmp rfl rfl rfl) ?_
  refine wl (ro_assign rfl) ?_
  refine wl_nil (x_then (hK16 _ _ ?_))
  clear hK16 K16
  refine wc_condF rfl ?_
  refine c_seq (fun K17 hK17 => ?_)
  refine c_reg ?_ -- region 49 ops.go:83
  refine wl (ro_cmp rfl rfl rfl) ?_
  refine wl (ro_assign rfl) ?_
  refine wl_nil (x_then (hK17 _ _ ?_))
  clear hK17 K17
  refine wc_condF rfl ?_
  refine c_seq (fun K18 hK18 => ?_)
  refine c_reg ?_ -- region 51 ops.go:85
  refine wl (ro_cmp rfl rfl rfl) ?_
  refine wl (ro_assign rfl) ?_
  refine wl_nil (x_then (hK18 _ _ ?_))
  clear hK18 K18
  refine wc_condF rfl ?_
  refine c_seq (fun K19 hK19 => ?_)
  refine c_reg ?_ -- region 54 ops.go:88
  refine wl (ro_cmp rfl rfl rfl) ?_
  refine wl (ro_assign rfl) ?_
  refine wl_nil (x_then (hK19 _ _ ?_))
  clear hK19 K19
  refine wc_condF rfl ?_
  refine c_seq (fun K20 hK20 => ?_)
  refine c_seq (fun K21 hK21 => ?_)
  refine c_reg ?_ -- region 56 ops.go:90
  refine wl (ro_cmp rfl rfl rfl) ?_
  refine wl (ro_assign rfl) ?_
  refine wl_nil (x_then (hK21 _ _ ?_))
  clear hK21 K21
  refine wc_condF rfl ?_
  refine c_seq (fun K22 hK22 => ?_)
  refine c_reg ?_ -- region 57 ops.go:90
  refine wl (ro_cmp rfl rfl rfl) ?_
  refine wl (ro_assign rfl) ?_
  refine wl_nil (x_then (hK22 _ _ ?_))
  clear hK22 K22
  refine wc_condF rfl ?_
  refine c_reg ?_ -- region 58 ops.go:90
  refine wl (ro_cmp rfl rfl rfl) ?_
  refine wl (ro_assign rfl) ?_
  refine wl_nil (x_then (hK20 _ _ ?_))
  clear hK20 K20
  refine wc_condF rfl ?_
  refine c_reg ?_ -- region 2 ops.go:93
  refine wl (ro_move rfl) ?_
  refine wl (ro_move rfl) ?_
  refine wl (ro_move rfl) ?_
  refine wl (ro_move rfl) ?_
  refine wl_callP rfl en_275 (oper_20 (x := z) (z := resZ a y gs g vars l (unV a.tabs 3 v)) hR.dr hc (E.vo (v := v) (by rw [ho]; simp)) ho (by omega) (fun m h ↦ by rw [h]; rfl)) (fun pv w9 hE => bpp_pan (P := Tryz.prog) (fn := Tryz.f247) (AE.go hX hF hE)) ?_
  rintro _ u1 ⟨q9, hq9, rfl, ow1, x1, f1, r1⟩
  have hs1 := hF.size
  replace hF := vm_trans hX hF f1
  replace hX := hX.trans hs1 x1
  replace hR := r1
  refine wl_nil (x_blk ?_)
  refine bpp_end Tryz.results247 rfl ?_
  exact ⟨a, { g with ops := q9 :: l }, vars, rfl, rfl, by rw [hq9]; rfl, rfl, _, hX, hF, hR⟩
end
end Go.Proofs.Qxb6500568aGreatDoor
