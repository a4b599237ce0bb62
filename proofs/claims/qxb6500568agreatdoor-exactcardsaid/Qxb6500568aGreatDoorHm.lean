import Derived.Test.Qxb6500568aGreatDoorHl
/- The machine: plain instructions. -/
namespace Go.Proofs.Qxb6500568aGreatDoor
open Ieee
set_option linter.unusedVariables false
set_option linter.unusedSimpArgs false
set_option linter.unusedSectionVars false

section
variable {C : VC} {w : World} {ow : Nat → Nat} {a : AS} {y : ATh} {gs : List AFr} {g : AFr} {vars : List PV} {fg fc p z : Nat} {ids : List Nat}
def for30Z (a : AS) (y : ATh) (gs : List AFr) (g : AFr) (vars : List PV) (z : Nat) : AS :=
  if (sloV g vars z).T = 2 ∧ (sloV g vars (z + 1)).T = 2 ∧ (sloV g vars (z + 2)).T = 2 then (if fCmp 1 (sloV g vars (z + 2)).N 0 = true ∨ fCmp 2 (sloV g vars (z + 2)).N (sloV g vars (z + 2)).N = true then araise mFor (mkA a y gs g vars) else mkA a y gs { g with pc := g.pc + 1 } vars) else araise mFor (mkA a y gs g vars)
theorem for30Z_e {z : Nat} (h : ¬ ((sloV g vars z).T = 2 ∧ (sloV g vars (z + 1)).T = 2 ∧ (sloV g vars (z + 2)).T = 2) ∨ (fCmp 1 (sloV g vars (z + 2)).N 0 = true ∨ fCmp 2 (sloV g vars (z + 2)).N (sloV g vars (z + 2)).N = true)) : for30Z a y gs g vars z = araise mFor (mkA a y gs g vars) := by
  unfold for30Z
  rcases h with h | h
  · exact if_neg h
  · rw [if_pos h, ite_self]
def forZ (a : AS) (y : ATh) (gs : List AFr) (g : AFr) (vars : List PV) (z : Nat) : AS :=
  if (sloV g vars z).T ≠ 4 then araise mFor (mkA a y gs g vars) else match tNext (a.tabs.getD (sloV g vars z).N []) (sloV g vars (z + 1)) with
  | none => araise mNext (mkA a y gs g vars)
  | some (k, v) => mkA a y gs { g with ops := vBool (decide (k.T ≠ 0)) :: g.ops, pc := g.pc + 1 } (((vars.set (g.slots.getD (z + 1) 0) k).set (g.slots.getD (z + 2) 0) k).set (g.slots.getD (z + 3) 0) v)
set_option maxHeartbeats 8000000 in
theorem plain_30 (E : PE C fg fc w ow a y gs g vars p ids 30 z) : RetP Tryz.prog 247 [ptr C.E.mb, i64c a.cur, tptr C a.cur, fpt fg gs.length, prt C p, u8n 30, i64c z] w (PlR C fg fc w ow a y gs g (aplain (Psf C.F) 30 z (mkA a y gs g vars))) (AE C (kH a) w ow (aplain (Psf C.F) 30 z (mkA a y gs g vars))) := by
  have hR := E.r
  have hc := E.hc
  have hk := E.hk
  obtain ⟨V, κ, Vv, U, x, f, fs, o⟩ := hR.open hc
  have hX : Xt w ow ow := Xt.refl _ _
  have hF : Fram (tg ow vtT) w w := Fram.refl _ _
  have hol := E.ol
  have hnd := E.nd
  have hzz := E.hz
  obtain ⟨lT, hT, -, -, -, hT2, -⟩ := o.v.thA o.t.hx
  have hT2 := hT2 2 (.inl rfl)
  obtain ⟨lB, hB1, k1, q1, -, -⟩ := o.frow
  obtain ⟨lP, pa, pb, pc, hP, tP, rp, -, -, -⟩ := o.v.pro E.hp
  rw [Nat.zero_add] at rp
  obtain ⟨p0, ids0, n1, n2, n3⟩ := o.ns
  obtain ⟨rfl, rfl⟩ : p = p0 ∧ ids = ids0 := by have := hk.symm.trans n1; simpa using this
  have hwin := o.win n2
  have hln := o.t.ln
  have hsl := o.sl
  have hzs : z + 3 < g.slots.length := by have := E.sn.r.2.2.2.2.2.2.2.2.2.2.1 (.inl rfl); rw [E.pr] at this; rw [n2]; exact this
  obtain ⟨sg, sc, hU⟩ := o.sg (by omega)
  rw [hU] at hT2
  obtain ⟨lS, hB5, ts, hls, hcs, hrw, -⟩ := o.v.stkR o.t.hx hU
  have hso : f.base * 3 + z * 3 = (f.base + z) * 3 := by omega
  have hn3 : z + 3 < (fsAt C.F p).ns := by omega
  have w0 : VV a.clos.length a.ths.length a.tabs.length (sloV g vars (z + 0)) := E.vv _
  have w1 : VV a.clos.length a.ths.length a.tabs.length (sloV g vars (z + 1)) := E.vv _
  have w2 : VV a.clos.length a.ths.length a.tabs.length (sloV g vars (z + 2)) := E.vv _
  have w3 : VV a.clos.length a.ths.length a.tabs.length (sloV g vars (z + 3)) := E.vv _
  have hap : aplain (Psf C.F) 30 z (mkA a y gs g vars) = for30Z a y gs g vars z := by
    unfold aplain
    simp only [mk_fr hc, mk_pro2 hk, E.pl, mk_slot hc, AS.var, mkA_vars, mk_ops hc, mk_pc hc, mkA_tabs, aset_mk]
    simp only [Nat.reduceEqDiff, if_false, if_true]
    rfl
  rw [hap]
  refine retp_of Tryz.func247 rfl Tryz.ntmps247 rfl ?_
  refine c_seq (fun K1 hK1 => ?_)
  refine c_pi [(0, false), (1, false), (2, false), (3, false), (4, false), (5, false), (6, false), (7, false), (8, false), (9, false), (10, false), (11, false), (12, false), (13, false), (14, false), (15, false), (16, false), (17, false), (18, false)] (SameH _) mixed (by kernel_rfl) rfl (by kernel_rfl) (po_then (po_bpp)) (sameH_now _ _) ?_ -- region 0 ops.go:34
  refine pi_ro rfl (fun w hS => ro_move rfl) ?_
  refine pi_ro rfl (fun w hS => ro_nilCheck rfl) ?_
  refine pi_ro rfl (fun w hS => ro_fieldAddr (k := 2) rfl fo_269_2) ?_
  refine pi_ro rfl (fun w hS => ro_loadB rfl sc_83 (Blk.of_heap hT hS) (hT2)) ?_
  refine pi_ro rfl (fun w hS => ro_move rfl) ?_
  refine pi_ro rfl (fun w hS => ro_nilCheck rfl) ?_
  refine pi_ro rfl (fun w hS => ro_fieldAddr (k := 2) rfl fo_331_2) ?_
  refine pi_ro rfl (fun w hS => ro_loadB rfl sc_3 (Blk.of_heap hB1 hS) (frow_at q1 (by decide))) ?_
  refine pi_ro rfl (fun w hS => ro_move rfl) ?_
  refine pi_ro rfl (fun w hS => ro_nilCheck rfl) ?_
  refine pi_ro rfl (fun w hS => ro_fieldAddr (k := 2) rfl fo_331_2) ?_
  refine pi_ro rfl (fun w hS => ro_loadB rfl sc_3 (Blk.of_heap hB1 hS) (frow_at q1 (by decide))) ?_
  refine pi_ro rfl (fun w hS => ro_move rfl) ?_
  refine pi_ro rfl (fun w hS => ro_nilCheck rfl) ?_
  refine pi_ro rfl (fun w hS => ro_fieldAddr (k := 1) rfl fo_258_1) ?_
  refine pi_ro rfl (fun w hS => ro_loadB rfl sc_3 (Blk.of_heap hP hS) (row_get rp (by decide))) ?_
  refine pi_ro rfl (fun w hS => ro_addN rfl rfl (by omega)) ?_
  refine pi_ro rfl (fun w hS => ro_slS rfl rfl rfl se_83 (by omega) (by omega)) ?_
  refine pi_ro rfl (fun w hS => ro_assign rfl) ?_
  refine pi_nil (x_then (hK1 _ _ ?_))
  clear hK1 K1
  refine forget [(0, _), (1, _), (2, _), (3, _), (4, _), (5, _), (6, _), (14, _)] ⟨rfl, rfl, rfl, rfl, rfl, rfl, rfl, rfl, trivial⟩ (fun e => ?_)
  refine c_seq (fun K2 hK2 => ?_)
  refine c_reg ?_ -- region 1 ops.go:35
  refine wl (ro_move rfl) ?_
  refine wl_nil (x_then (hK2 _ _ ?_))
  clear hK2 K2
  refine c_block ?_
  refine forget [(0, _), (1, _), (2, _), (3, _), (4, _), (5, _), (6, _), (14, _), (53, _)] ⟨rfl, rfl, rfl, rfl, rfl, rfl, rfl, rfl, rfl, trivial⟩ (fun e => ?_)
  refine c_seq (fun K3 hK3 => ?_)
  refine c_reg ?_ -- region 3 ops.go:36
  refine wl (ro_cmp rfl rfl rfl) ?_
  refine wl (ro_assign rfl) ?_
  refine wl_nil (x_then (hK3 _ _ ?_))
  clear hK3 K3
  refine wc_condF rfl ?_
  refine c_seq (fun K4 hK4 => ?_)
  refine c_reg ?_ -- region 5 ops.go:38
  refine wl (ro_cmp rfl rfl rfl) ?_
  refine wl (ro_assign rfl) ?_
  refine wl_nil (x_then (hK4 _ _ ?_))
  clear hK4 K4
  refine wc_condF rfl ?_
  refine c_seq (fun K5 hK5 => ?_)
  refine c_reg ?_ -- region 7 ops.go:40
  refine wl (ro_cmp rfl rfl rfl) ?_
  refine wl (ro_assign rfl) ?_
  refine wl_nil (x_then (hK5 _ _ ?_))
  clear hK5 K5
  refine wc_condF rfl ?_
  refine c_seq (fun K6 hK6 => ?_)
  refine c_reg ?_ -- region 9 ops.go:42
  refine wl (ro_cmp rfl rfl rfl) ?_
  refine wl (ro_assign rfl) ?_
  refine wl_nil (x_then (hK6 _ _ ?_))
  clear hK6 K6
  refine wc_condF rfl ?_
  refine c_seq (fun K7 hK7 => ?_)
  refine c_reg ?_ -- region 11 ops.go:44
  refine wl (ro_cmp rfl rfl rfl) ?_
  refine wl (ro_assign rfl) ?_
  refine wl_nil (x_then (hK7 _ _ ?_))
  clear hK7 K7
  refine wc_condF rfl ?_
  refine c_seq (fun K8 hK8 => ?_)
  refine c_reg ?_ -- region 13 ops.go:46
  refine wl (ro_cmp rfl rfl rfl) ?_
  refine wl (ro_assign rfl) ?_
  refine wl_nil (x_then (hK8 _ _ ?_))
  clear hK8 K8
  refine wc_condF rfl ?_
  refine c_seq (fun K9 hK9 => ?_)
  refine c_reg ?_ -- region 15 ops.go:48
  refine wl (ro_cmp rfl rfl rfl) ?_
  refine wl (ro_assign rfl) ?_
  refine wl_nil (x_then (hK9 _ _ ?_))
  clear hK9 K9
  refine wc_condF rfl ?_
  refine c_seq (fun K10 hK10 => ?_)
  refine c_reg ?_ -- region 18 ops.go:51
  refine wl (ro_cmp rfl rfl rfl) ?_
  refine wl (ro_assign rfl) ?_
  refine wl_nil (x_then (hK10 _ _ ?_))
  clear hK10 K10
  refine wc_condF rfl ?_
  refine c_seq (fun K11 hK11 => ?_)
  refine c_reg ?_ -- region 21 ops.go:54
  refine wl (ro_cmp rfl rfl rfl) ?_
  refine wl (ro_assign rfl) ?_
  refine wl_nil (x_then (hK11 _ _ ?_))
  clear hK11 K11
  refine wc_condF rfl ?_
  refine c_seq (fun K12 hK12 => ?_)
  refine c_reg ?_ -- region 24 ops.go:57
  refine wl (ro_cmp rfl rfl rfl) ?_
  refine wl (ro_assign rfl) ?_
  refine wl_nil (x_then (hK12 _ _ ?_))
  clear hK12 K12
  refine wc_condF rfl ?_
  refine c_seq (fun K13 hK13 => ?_)
  refine c_reg ?_ -- region 27 ops.go:60
  refine wl (ro_cmp rfl rfl rfl) ?_
  refine wl (ro_assign rfl) ?_
  refine wl_nil (x_then (hK13 _ _ ?_))
  clear hK13 K13
  refine wc_condF rfl ?_
  refine c_seq (fun K14 hK14 => ?_)
  refine c_reg ?_ -- region 33 ops.go:66
  refine wl (ro_cmp rfl rfl rfl) ?_
  refine wl (ro_assign rfl) ?_
  refine wl_nil (x_then (hK14 _ _ ?_))
  clear hK14 K14
  refine wc_condF rfl ?_
  refine c_seq (fun K15 hK15 => ?_)
  refine c_reg ?_ -- region 39 ops.go:72
  refine wl (ro_cmp rfl rfl rfl) ?_
  refine wl (ro_assign rfl) ?_
  refine wl_nil (x_then (hK15 _ _ ?_))
  clear hK15 K15
  refine wc_condF rfl ?_
  refine c_seq (fun K16 hK16 => ?_)
  refine c_reg ?_ -- region 44 ops.go:77
  refine wl (ro_cmp rfl rfl rfl) ?_
  refine wl (ro_assign rfl) ?_
  refine wl_nil (x_then (hK16 _ _ ?_))
  clear hK16 K16
  refine wc_condF rfl ?_
  refine c_seq (fun K17 hK17 => ?_)
  refine c_reg ?_ -- region 49 ops.go:83
  refine wl (ro_cmp rfl rfl rfl) ?_
  refine wl (ro_assign rfl) ?_
  refine wl_nil (x_then (hK17 _ _ ?_))
  clear hK17 K17
  refine wc_condF rfl ?_
  refine c_seq (fun K18 hK18 => ?_)
  refine c_reg ?_ -- region 51 ops.go:85
  refine wl (ro_cmp rfl rfl rfl) ?_
  refine wl (ro_assign rfl) ?_
  refine wl_nil (x_then (hK18 _ _ ?_))
  clear hK18 K18
  refine wc_condF rfl ?_
  refine c_seq (fun K19 hK19 => ?_)
  refine c_reg ?_ -- region 54 ops.go:88
  refine wl (ro_cmp rfl rfl rfl) ?_
  refine wl (ro_assign rfl) ?_
  refine wl_nil (x_then (hK19 _ _ ?_))
  clear hK19 K19
  refine wc_condF rfl ?_
  refine c_seq (fun K20 hK20 => ?_)
  refine c_seq (fun K21 hK21 => ?_)
  refine c_reg ?_ -- region 56 ops.go:90
  refine wl (ro_cmp rfl rfl rfl) ?_
  refine wl (ro_assign rfl) ?_
  refine wl_nil (x_then (hK21 _ _ ?_))
  clear hK21 K21
  refine wc_condT rfl ?_
  refine c_skip (x_then (hK20 _ _ ?_))
  clear hK20 K20
  refine wc_condT rfl ?_
  refine c_reg ?_ -- region 59 ops.go:91
  refine wl (ro_move rfl) ?_
  refine wl (ro_move rfl) ?_
  refine wl (ro_move rfl) ?_
  refine wl (ro_move rfl) ?_
  refine wl (ro_move rfl) ?_
  refine wl (ro_addN (k := 4) rfl rfl (by omega)) ?_
  refine wl (ro_slT (m := 4) rfl rfl rfl se_83 (by omega) (by omega)) ?_
  refine wl (ro_move rfl) ?_
  refine wl_callP rfl en_274 (for_30 (zz := for30Z a y gs g vars z) o.dr hU hzs hso w2.w for30Z_e) (fun pv w9 hE => bpp_pan (P := Tryz.prog) (fn := Tryz.f247) (AE.go hX hF hE)) ?_
  rintro _ u1 ⟨hq9, rfl, ow1, x1, f1, r1⟩
  have hs1 := hF.size
  replace hF := vm_trans hX hF f1
  replace hX := hX.trans hs1 x1
  replace hR := r1
  refine wl_nil (x_blk ?_)
  refine bpp_end Tryz.results247 rfl ?_
  exact ⟨a, g, vars, rfl, rfl, ((if_pos ⟨hq9.1, hq9.2.1, hq9.2.2.1⟩).trans (if_neg hq9.2.2.2)).symm, rfl, _, hX, hF, hR⟩
set_option maxHeartbeats 8000000 in
theorem plain_31 (E : PE C fg fc w ow a y gs g vars p ids 31 z) : RetP Tryz.prog 247 [ptr C.E.mb, i64c a.cur, tptr C a.cur, fpt fg gs.length, prt C p, u8n 31, i64c z] w (PlR C fg fc w ow a y gs g (aplain (Psf C.F) 31 z (mkA a y gs g vars))) (AE C (kH a) w ow (aplain (Psf C.F) 31 z (mkA a y gs g vars))) := by
  have hR := E.r
  have hc := E.hc
  have hk := E.hk
  obtain ⟨V, κ, Vv, U, x, f, fs, o⟩ := hR.open hc
  have hX : Xt w ow ow := Xt.refl _ _
  have hF : Fram (tg ow vtT) w w := Fram.refl _ _
  have hol := E.ol
  have hnd := E.nd
  have hzz := E.hz
  obtain ⟨lT, hT, -, -, -, hT2, -⟩ := o.v.thA o.t.hx
  have hT2 := hT2 2 (.inl rfl)
  obtain ⟨lB, hB1, k1, q1, -, -⟩ := o.frow
  obtain ⟨lP, pa, pb, pc, hP, tP, rp, -, -, -⟩ := o.v.pro E.hp
  rw [Nat.zero_add] at rp
  obtain ⟨p0, ids0, n1, n2, n3⟩ := o.ns
  obtain ⟨rfl, rfl⟩ : p = p0 ∧ ids = ids0 := by have := hk.symm.trans n1; simpa using this
  have hwin := o.win n2
  have hln := o.t.ln
  have hsl := o.sl
  have hzs : z + 3 < g.slots.length := by have := E.sn.r.2.2.2.2.2.2.2.2.2.2.1 (.inr (.inl rfl)); rw [E.pr] at this; rw [n2]; exact this
  obtain ⟨sg, sc, hU⟩ := o.sg (by omega)
  rw [hU] at hT2
  obtain ⟨lS, hB5, ts, hls, hcs, hrw, -⟩ := o.v.stkR o.t.hx hU
  have hso : f.base * 3 + z * 3 = (f.base + z) * 3 := by omega
  have hn3 : z + 3 < (fsAt C.F p).ns := by omega
  have w0 : VV a.clos.length a.ths.length a.tabs.length (sloV g vars (z + 0)) := E.vv _
  have w1 : VV a.clos.length a.ths.length a.tabs.length (sloV g vars (z + 1)) := E.vv _
  have w2 : VV a.clos.length a.ths.length a.tabs.length (sloV g vars (z + 2)) := E.vv _
  have w3 : VV a.clos.length a.ths.length a.tabs.length (sloV g vars (z + 3)) := E.vv _
  have hap : aplain (Psf C.F) 31 z (mkA a y gs g vars) = mkA a y gs { g with ops := vBool (fCmp (if fCmp 5 (sloV g vars (z + 2)).N 0 then 4 else 6) (sloV g vars z).N (sloV g vars (z + 1)).N) :: g.ops, pc := g.pc + 1 } vars := by
    unfold aplain
    simp only [mk_fr hc, mk_pro2 hk, E.pl, mk_slot hc, AS.var, mkA_vars, mk_ops hc, mk_pc hc, mkA_tabs, aset_mk]
    simp only [Nat.reduceEqDiff, if_false, if_true]
    rfl
  rw [hap]
  refine retp_of Tryz.func247 rfl Tryz.ntmps247 rfl ?_
  refine c_seq (fun K1 hK1 => ?_)
  refine c_pi [(0, false), (1, false), (2, false), (3, false), (4, false), (5, false), (6, false), (7, false), (8, false), (9, false), (10, false), (11, false), (12, false), (13, false), (14, false), (15, false), (16, false), (17, false), (18, false)] (SameH _) mixed (by kernel_rfl) rfl (by kernel_rfl) (po_then (po_bpp)) (sameH_now _ _) ?_ -- region 0 ops.go:34
  refine pi_ro rfl (fun w hS => ro_move rfl) ?_
  refine pi_ro rfl (fun w hS => ro_nilCheck rfl) ?_
  refine pi_ro rfl (fun w hS => ro_fieldAddr (k := 2) rfl fo_269_2) ?_
  refine pi_ro rfl (fun w hS => ro_loadB rfl sc_83 (Blk.of_heap hT hS) (hT2)) ?_
  refine pi_ro rfl (fun w hS => ro_move rfl) ?_
  refine pi_ro rfl (fun w hS => ro_nilCheck rfl) ?_
  refine pi_ro rfl (fun w hS => ro_fieldAddr (k := 2) rfl fo_331_2) ?_
  refine pi_ro rfl (fun w hS => ro_loadB rfl sc_3 (Blk.of_heap hB1 hS) (frow_at q1 (by decide))) ?_
  refine pi_ro rfl (fun w hS => ro_move rfl) ?_
  refine pi_ro rfl (fun w hS => ro_nilCheck rfl) ?_
  refine pi_ro rfl (fun w hS => ro_fieldAddr (k := 2) rfl fo_331_2) ?_
  refine pi_ro rfl (fun w hS => ro_loadB rfl sc_3 (Blk.of_heap hB1 hS) (frow_at q1 (by decide))) ?_
  refine pi_ro rfl (fun w hS => ro_move rfl) ?_
  refine pi_ro rfl (fun w hS => ro_nilCheck rfl) ?_
  refine pi_ro rfl (fun w hS => ro_fieldAddr (k := 1) rfl fo_258_1) ?_
  refine pi_ro rfl (fun w hS => ro_loadB rfl sc_3 (Blk.of_heap hP hS) (row_get rp (by decide))) ?_
  refine pi_ro rfl (fun w hS => ro_addN rfl rfl (by omega)) ?_
  refine pi_ro rfl (fun w hS => ro_slS rfl rfl rfl se_83 (by omega) (by omega)) ?_
  refine pi_ro rfl (fun w hS => ro_assign rfl) ?_
  refine pi_nil (x_then (hK1 _ _ ?_))
  clear hK1 K1
  refine forget [(0, _), (1, _), (2, _), (3, _), (4, _), (5, _), (6, _), (14, _)] ⟨rfl, rfl, rfl, rfl, rfl, rfl, rfl, rfl, trivial⟩ (fun e => ?_)
  refine c_seq (fun K2 hK2 => ?_)
  refine c_reg ?_ -- region 1 ops.go:35
  refine wl (ro_move rfl) ?_
  refine wl_nil (x_then (hK2 _ _ ?_))
  clear hK2 K2
  refine c_block ?_
  refine forget [(0, _), (1, _), (2, _), (3, _), (4, _), (5, _), (6, _), (14, _), (53, _)] ⟨rfl, rfl, rfl, rfl, rfl, rfl, rfl, rfl, rfl, trivial⟩ (fun e => ?_)
  refine c_seq (fun K3 hK3 => ?_)
  refine c_reg ?_ -- region 3 ops.go:36
  refine wl (ro_cmp rfl rfl rfl) ?_
  refine wl (ro_assign rfl) ?_
  refine wl_nil (x_then (hK3 _ _ ?_))
  clear hK3 K3
  refine wc_condF rfl ?_
  refine c_seq (fun K4 hK4 => ?_)
  refine c_reg ?_ -- region 5 ops.go:38
  refine wl (ro_cmp rfl rfl rfl) ?_
  refine wl (ro_assign rfl) ?_
  refine wl_nil (x_then (hK4 _ _ ?_))
  clear hK4 K4
  refine wc_condF rfl ?_
  refine c_seq (fun K5 hK5 => ?_)
  refine c_reg ?_ -- region 7 ops.go:40
  refine wl (ro_cmp rfl rfl rfl) ?_
  refine wl (ro_assign rfl) ?_
  refine wl_nil (x_then (hK5 _ _ ?_))
  clear hK5 K5
  refine wc_condF rfl ?_
  refine c_seq (fun K6 hK6 => ?_)
  refine c_reg ?_ -- region 9 ops.go:42
  refine wl (ro_cmp rfl rfl rfl) ?_
  refine wl (ro_assign rfl) ?_
  refine wl_nil (x_then (hK6 _ _ ?_))
  clear hK6 K6
  refine wc_condF rfl ?_
  refine c_seq (fun K7 hK7 => ?_)
  refine c_reg ?_ -- region 11 ops.go:44
  refine wl (ro_cmp rfl rfl rfl) ?_
  refine wl (ro_assign rfl) ?_
  refine wl_nil (x_then (hK7 _ _ ?_))
  clear hK7 K7
  refine wc_condF rfl ?_
  refine c_seq (fun K8 hK8 => ?_)
  refine c_reg ?_ -- region 13 ops.go:46
  refine wl (ro_cmp rfl rfl rfl) ?_
  refine wl (ro_assign rfl) ?_
  refine wl_nil (x_then (hK8 _ _ ?_))
  clear hK8 K8
  refine wc_condF rfl ?_
  refine c_seq (fun K9 hK9 => ?_)
  refine c_reg ?_ -- region 15 ops.go:48
  refine wl (ro_cmp rfl rfl rfl) ?_
  refine wl (ro_assign rfl) ?_
  refine wl_nil (x_then (hK9 _ _ ?_))
  clear hK9 K9
  refine wc_condF rfl ?_
  refine c_seq (fun K10 hK10 => ?_)
  refine c_reg ?_ -- region 18 ops.go:51
  refine wl (ro_cmp rfl rfl rfl) ?_
  refine wl (ro_assign rfl) ?_
  refine wl_nil (x_then (hK10 _ _ ?_))
  clear hK10 K10
  refine wc_condF rfl ?_
  refine c_seq (fun K11 hK11 => ?_)
  refine c_reg ?_ -- region 21 ops.go:54
  refine wl (ro_cmp rfl rfl rfl) ?_
  refine wl (ro_assign rfl) ?_
  refine wl_nil (x_then (hK11 _ _ ?_))
  clear hK11 K11
  refine wc_condF rfl ?_
  refine c_seq (fun K12 hK12 => ?_)
  refine c_reg ?_ -- region 24 ops.go:57
  refine wl (ro_cmp rfl rfl rfl) ?_
  refine wl (ro_assign rfl) ?_
  refine wl_nil (x_then (hK12 _ _ ?_))
  clear hK12 K12
  refine wc_condF rfl ?_
  refine c_seq (fun K13 hK13 => ?_)
  refine c_reg ?_ -- region 27 ops.go:60
  refine wl (ro_cmp rfl rfl rfl) ?_
  refine wl (ro_assign rfl) ?_
  refine wl_nil (x_then (hK13 _ _ ?_))
  clear hK13 K13
  refine wc_condF rfl ?_
  refine c_seq (fun K14 hK14 => ?_)
  refine c_reg ?_ -- region 33 ops.go:66
  refine wl (ro_cmp rfl rfl rfl) ?_
  refine wl (ro_assign rfl) ?_
  refine wl_nil (x_then (hK14 _ _ ?_))
  clear hK14 K14
  refine wc_condF rfl ?_
  refine c_seq (fun K15 hK15 => ?_)
  refine c_reg ?_ -- region 39 ops.go:72
  refine wl (ro_cmp rfl rfl rfl) ?_
  refine wl (ro_assign rfl) ?_
  refine wl_nil (x_then (hK15 _ _ ?_))
  clear hK15 K15
  refine wc_condF rfl ?_
  refine c_seq (fun K16 hK16 => ?_)
  refine c_reg ?_ -- region 44 ops.go:77
  refine wl (ro_cmp rfl rfl rfl) ?_
  refine wl (ro_assign rfl) ?_
  refine wl_nil (x_then (hK16 _ _ ?_))
  clear hK16 K16
  refine wc_condF rfl ?_
  refine c_seq (fun K17 hK17 => ?_)
  refine c_reg ?_ -- region 49 ops.go:83
  refine wl (ro_cmp rfl rfl rfl) ?_
  refine wl (ro_assign rfl) ?_
  refine wl_nil (x_then (hK17 _ _ ?_))
  clear hK17 K17
  refine wc_condF rfl ?_
  refine c_seq (fun K18 hK18 => ?_)
  refine c_reg ?_ -- region 51 ops.go:85
  refine wl (ro_cmp rfl rfl rfl) ?_
  refine wl (ro_assign rfl) ?_
  refine wl_nil (x_then (hK18 _ _ ?_))
  clear hK18 K18
  refine wc_condF rfl ?_
  refine c_seq (fun K19 hK19 => ?_)
  refine c_reg ?_ -- region 54 ops.go:88
  refine wl (ro_cmp rfl rfl rfl) ?_
  refine wl (ro_assign rfl) ?_
  refine wl_nil (x_then (hK19 _ _ ?_))
  clear hK19 K19
  refine wc_condF rfl ?_
  refine c_seq (fun K20 hK20 => ?_)
  refine c_seq (fun K21 hK21 => ?_)
  refine c_reg ?_ -- region 56 ops.go:90
  refine wl (ro_cmp rfl rfl rfl) ?_
  refine wl (ro_assign rfl) ?_
  refine wl_nil (x_then (hK21 _ _ ?_))
  clear hK21 K21
  refine wc_condF rfl ?_
  refine c_seq (fun K22 hK22 => ?_)
  refine c_reg ?_ -- region 57 ops.go:90
  refine wl (ro_cmp rfl rfl rfl) ?_
  refine wl (ro_assign rfl) ?_
  refine wl_nil (x_then (hK22 _ _ ?_))
  clear hK22 K22
  refine wc_condT rfl ?_
  refine c_skip (x_then (hK20 _ _ ?_))
  clear hK20 K20
  refine wc_condT rfl ?_
  refine c_reg ?_ -- region 59 ops.go:91
  refine wl (ro_move rfl) ?_
  refine wl (ro_move rfl) ?_
  refine wl (ro_move rfl) ?_
  refine wl (ro_move rfl) ?_
  refine wl (ro_move rfl) ?_
  refine wl (ro_addN (k := 4) rfl rfl (by omega)) ?_
  refine wl (ro_slT (m := 4) rfl rfl rfl se_83 (by omega) (by omega)) ?_
  refine wl (ro_move rfl) ?_
  refine wl_call rfl en_274 (for_31 o.dr hU hzs hso w0.w w1.w w2.w (by omega)) ?_
  rintro _ u1 ⟨rfl, ow1, x1, f1, r1⟩
  have hs1 := hF.size
  replace hF := vm_trans hX hF f1
  replace hX := hX.trans hs1 x1
  replace hR := r1
  refine wl_nil (x_blk ?_)
  refine bpp_end Tryz.results247 rfl ?_
  exact ⟨a, { g with ops := vBool (fCmp (if fCmp 5 (sloV g vars (z + 2)).N 0 then 4 else 6) (sloV g vars z).N (sloV g vars (z + 1)).N) :: g.ops }, vars, rfl, rfl, rfl, rfl, _, hX, hF, hR⟩
set_option maxHeartbeats 8000000 in
theorem plain_32 (E : PE C fg fc w ow a y gs g vars p ids 32 z) : RetP Tryz.prog 247 [ptr C.E.mb, i64c a.cur, tptr C a.cur, fpt fg gs.length, prt C p, u8n 32, i64c z] w (PlR C fg fc w ow a y gs g (aplain (Psf C.F) 32 z (mkA a y gs g vars))) (AE C (kH a) w ow (aplain (Psf C.F) 32 z (mkA a y gs g vars))) := by
  have hR := E.r
  have hc := E.hc
  have hk := E.hk
  obtain ⟨V, κ, Vv, U, x, f, fs, o⟩ := hR.open hc
  have hX : Xt w ow ow := Xt.refl _ _
  have hF : Fram (tg ow vtT) w w := Fram.refl _ _
  have hol := E.ol
  have hnd := E.nd
  have hzz := E.hz
  obtain ⟨lT, hT, -, -, -, hT2, -⟩ := o.v.thA o.t.hx
  have hT2 := hT2 2 (.inl rfl)
  obtain ⟨lB, hB1, k1, q1, -, -⟩ := o.frow
  obtain ⟨lP, pa, pb, pc, hP, tP, rp, -, -, -⟩ := o.v.pro E.hp
  rw [Nat.zero_add] at rp
  obtain ⟨p0, ids0, n1, n2, n3⟩ := o.ns
  obtain ⟨rfl, rfl⟩ : p = p0 ∧ ids = ids0 := by have := hk.symm.trans n1; simpa using this
  have hwin := o.win n2
  have hln := o.t.ln
  have hsl := o.sl
  have hzs : z + 3 < g.slots.length := by have := E.sn.r.2.2.2.2.2.2.2.2.2.2.1 (.inr (.inr rfl)); rw [E.pr] at this; rw [n2]; exact this
  obtain ⟨sg, sc, hU⟩ := o.sg (by omega)
  rw [hU] at hT2
  obtain ⟨lS, hB5, ts, hls, hcs, hrw, -⟩ := o.v.stkR o.t.hx hU
  have hso : f.base * 3 + z * 3 = (f.base + z) * 3 := by omega
  have hn3 : z + 3 < (fsAt C.F p).ns := by omega
  have w0 : VV a.clos.length a.ths.length a.tabs.length (sloV g vars (z + 0)) := E.vv _
  have w1 : VV a.clos.length a.ths.length a.tabs.length (sloV g vars (z + 1)) := E.vv _
  have w2 : VV a.clos.length a.ths.length a.tabs.length (sloV g vars (z + 2)) := E.vv _
  have w3 : VV a.clos.length a.ths.length a.tabs.length (sloV g vars (z + 3)) := E.vv _
  have hnh := E.av.nh
  have hap : aplain (Psf C.F) 32 z (mkA a y gs g vars) = forZ a y gs g vars z := by
    unfold aplain
    simp only [mk_fr hc, mk_pro2 hk, E.pl, mk_slot hc, AS.var, mkA_vars, mk_ops hc, mk_pc hc, mkA_tabs, aset_mk]
    simp only [Nat.reduceEqDiff, if_false, if_true]
    unfold forZ
    by_cases h4 : (sloV g vars z).T ≠ 4
    · exact (if_pos h4).trans (if_pos h4).symm
    · refine (if_neg h4).trans (Eq.trans ?_ (if_neg h4).symm)
      show (match tNext (a.tabs.getD (sloV g vars z).N []) (sloV g vars (z + 1)) with | none => _ | some (k, v) => _) = (match tNext (a.tabs.getD (sloV g vars z).N []) (sloV g vars (z + 1)) with | none => _ | some (k, v) => _)
      rcases tNext (a.tabs.getD (sloV g vars z).N []) (sloV g vars (z + 1)) with _ | ⟨k, v⟩ <;> rfl
  rw [hap]
  refine retp_of Tryz.func247 rfl Tryz.ntmps247 rfl ?_
  refine c_seq (fun K1 hK1 => ?_)
  refine c_pi [(0, false), (1, false), (2, false), (3, false), (4, false), (5, false), (6, false), (7, false), (8, false), (9, false), (10, false), (11, false), (12, false), (13, false), (14, false), (15, false), (16, false), (17, false), (18, false)] (SameH _) mixed (by kernel_rfl) rfl (by kernel_rfl) (po_then (po_bpp)) (sameH_now _ _) ?_ -- region 0 ops.go:34
  refine pi_ro rfl (fun w hS => ro_move rfl) ?_
  refine pi_ro rfl (fun w hS => ro_nilCheck rfl) ?_
  refine pi_ro rfl (fun w hS => ro_fieldAddr (k := 2) rfl fo_269_2) ?_
  refine pi_ro rfl (fun w hS => ro_loadB rfl sc_83 (Blk.of_heap hT hS) (hT2)) ?_
  refine pi_ro rfl (fun w hS => ro_move rfl) ?_
  refine pi_ro rfl (fun w hS => ro_nilCheck rfl) ?_
  refine pi_ro rfl (fun w hS => ro_fieldAddr (k := 2) rfl fo_331_2) ?_
  refine pi_ro rfl (fun w hS => ro_loadB rfl sc_3 (Blk.of_heap hB1 hS) (frow_at q1 (by decide))) ?_
  refine pi_ro rfl (fun w hS => ro_move rfl) ?_
  refine pi_ro rfl (fun w hS => ro_nilCheck rfl) ?_
  refine pi_ro rfl (fun w hS => ro_fieldAddr (k := 2) rfl fo_331_2) ?_
  refine pi_ro rfl (fun w hS => ro_loadB rfl sc_3 (Blk.of_heap hB1 hS) (frow_at q1 (by decide))) ?_
  refine pi_ro rfl (fun w hS => ro_move rfl) ?_
  refine pi_ro rfl (fun w hS => ro_nilCheck rfl) ?_
  refine pi_ro rfl (fun w hS => ro_fieldAddr (k := 1) rfl fo_258_1) ?_
  refine pi_ro rfl (fun w hS => ro_loadB rfl sc_3 (Blk.of_heap hP hS) (row_get rp (by decide))) ?_
  refine pi_ro rfl (fun w hS => ro_addN rfl rfl (by omega)) ?_
  refine pi_ro rfl (fun w hS => ro_slS rfl rfl rfl se_83 (by omega) (by omega)) ?_
  refine pi_ro rfl (fun w hS => ro_assign rfl) ?_
  refine pi_nil (x_then (hK1 _ _ ?_))
  clear hK1 K1
  refine forget [(0, _), (1, _), (2, _), (3, _), (4, _), (5, _), (6, _), (14, _)] ⟨rfl, rfl, rfl, rfl, rfl, rfl, rfl, rfl, trivial⟩ (fun e => ?_)
  refine c_seq (fun K2 hK2 => ?_)
  refine c_reg ?_ -- region 1 ops.go:35
  refine wl (ro_move rfl) ?_
  refine wl_nil (x_then (hK2 _ _ ?_))
  clear hK2 K2
  refine c_block ?_
  refine forget [(0, _), (1, _), (2, _), (3, _), (4, _), (5, _), (6, _), (14, _), (53, _)] ⟨rfl, rfl, rfl, rfl, rfl, rfl, rfl, rfl, rfl, trivial⟩ (fun e => ?_)
  refine c_seq (fun K3 hK3 => ?_)
  refine c_reg ?_ -- region 3 ops.go:36
  refine wl (ro_cmp rfl rfl rfl) ?_
  refine wl (ro_assign rfl) ?_
  refine wl_nil (x_then (hK3 _ _ ?_))
  clear hK3 K3
  refine wc_condF rfl ?_
  refine c_seq (fun K4 hK4 => ?_)
  refine c_reg ?_ -- region 5 ops.go:38
  refine wl (ro_cmp rfl rfl rfl) ?_
  refine wl (ro_assign rfl) ?_
  refine wl_nil (x_then (hK4 _ _ ?_))
  clear hK4 K4
  refine wc_condF rfl ?_
  refine c_seq (fun K5 hK5 => ?_)
  refine c_reg ?_ -- region 7 ops.go:40
  refine wl (ro_cmp rfl rfl rfl) ?_
  refine wl (ro_assign rfl) ?_
  refine wl_nil (x_then (hK5 _ _ ?_))
  clear hK5 K5
  refine wc_condF rfl ?_
  refine c_seq (fun K6 hK6 => ?_)
  refine c_reg ?_ -- region 9 ops.go:42
  refine wl (ro_cmp rfl rfl rfl) ?_
  refine wl (ro_assign rfl) ?_
  refine wl_nil (x_then (hK6 _ _ ?_))
  clear hK6 K6
  refine wc_condF rfl ?_
  refine c_seq (fun K7 hK7 => ?_)
  refine c_reg ?_ -- region 11 ops.go:44
  refine wl (ro_cmp rfl rfl rfl) ?_
  refine wl (ro_assign rfl) ?_
  refine wl_nil (x_then (hK7 _ _ ?_))
  clear hK7 K7
  refine wc_condF rfl ?_
  refine c_seq (fun K8 hK8 => ?_)
  refine c_reg ?_ -- region 13 ops.go:46
  refine wl (ro_cmp rfl rfl rfl) ?_
  refine wl (ro_assign rfl) ?_
  refine wl_nil (x_then (hK8 _ _ ?_))
  clear hK8 K8
  refine wc_condF rfl ?_
  refine c_seq (fun K9 hK9 => ?_)
  refine c_reg ?_ -- region 15 ops.go:48
  refine wl (ro_cmp rfl rfl rfl) ?_
  refine wl (ro_assign rfl) ?_
  refine wl_nil (x_then (hK9 _ _ ?_))
  clear hK9 K9
  refine wc_condF rfl ?_
  refine c_seq (fun K10 hK10 => ?_)
  refine c_reg ?_ -- region 18 ops.go:51
  refine wl (ro_cmp rfl rfl rfl) ?_
  refine wl (ro_assign rfl) ?_
  refine wl_nil (x_then (hK10 _ _ ?_))
  clear hK10 K10
  refine wc_condF rfl ?_
  refine c_seq (fun K11 hK11 => ?_)
  refine c_reg ?_ -- region 21 ops.go:54
  refine wl (ro_cmp rfl rfl rfl) ?_
  refine wl (ro_assign rfl) ?_
  refine wl_nil (x_then (hK11 _ _ ?_))
  clear hK11 K11
  refine wc_condF rfl ?_
  refine c_seq (fun K12 hK12 => ?_)
  refine c_reg ?_ -- region 24 ops.go:57
  refine wl (ro_cmp rfl rfl rfl) ?_
  refine wl (ro_assign rfl) ?_
  refine wl_nil (x_then (hK12 _ _ ?_))
  clear hK12 K12
  refine wc_condF rfl ?_
  refine c_seq (fun K13 hK13 => ?_)
  refine c_reg ?_ -- region 27 ops.go:60
  refine wl (ro_cmp rfl rfl rfl) ?_
  refine wl (ro_assign rfl) ?_
  refine wl_nil (x_then (hK13 _ _ ?_))
  clear hK13 K13
  refine wc_condF rfl ?_
  refine c_seq (fun K14 hK14 => ?_)
  refine c_reg ?_ -- region 33 ops.go:66
  refine wl (ro_cmp rfl rfl rfl) ?_
  refine wl (ro_assign rfl) ?_
  refine wl_nil (x_then (hK14 _ _ ?_))
  clear hK14 K14
  refine wc_condF rfl ?_
  refine c_seq (fun K15 hK15 => ?_)
  refine c_reg ?_ -- region 39 ops.go:72
  refine wl (ro_cmp rfl rfl rfl) ?_
  refine wl (ro_assign rfl) ?_
  refine wl_nil (x_then (hK15 _ _ ?_))
  clear hK15 K15
  refine wc_condF rfl ?_
  refine c_seq (fun K16 hK16 => ?_)
  refine c_reg ?_ -- region 44 ops.go:77
  refine wl (ro_cmp rfl rfl rfl) ?_
  refine wl (ro_assign rfl) ?_
  refine wl_nil (x_then (hK16 _ _ ?_))
  clear hK16 K16
  refine wc_condF rfl ?_
  refine c_seq (fun K17 hK17 => ?_)
  refine c_reg ?_ -- region 49 ops.go:83
  refine wl (ro_cmp rfl rfl rfl) ?_
  refine wl (ro_assign rfl) ?_
  refine wl_nil (x_then (hK17 _ _ ?_))
  clear hK17 K17
  refine wc_condF rfl ?_
  refine c_seq (fun K18 hK18 => ?_)
  refine c_reg ?_ -- region 51 ops.go:85
  refine wl (ro_cmp rfl rfl rfl) ?_
  refine wl (ro_assign rfl) ?_
  refine wl_nil (x_then (hK18 _ _ ?_))
  clear hK18 K18
  refine wc_condF rfl ?_
  refine c_seq (fun K19 hK19 => ?_)
  refine c_reg ?_ -- region 54 ops.go:88
  refine wl (ro_cmp rfl rfl rfl) ?_
  refine wl (ro_assign rfl) ?_
  refine wl_nil (x_then (hK19 _ _ ?_))
  clear hK19 K19
  refine wc_condF rfl ?_
  refine c_seq (fun K20 hK20 => ?_)
  refine c_seq (fun K21 hK21 => ?_)
  refine c_reg ?_ -- region 56 ops.go:90
  refine wl (ro_cmp rfl rfl rfl) ?_
  refine wl (ro_assign rfl) ?_
  refine wl_nil (x_then (hK21 _ _ ?_))
  clear hK21 K21
  refine wc_condF rfl ?_
  refine c_seq (fun K22 hK22 => ?_)
  refine c_reg ?_ -- region 57 ops.go:90
  refine wl (ro_cmp rfl rfl rfl) ?_
  refine wl (ro_assign rfl) ?_
  refine wl_nil (x_then (hK22 _ _ ?_))
  clear hK22 K22
  refine wc_condF rfl ?_
  refine c_reg ?_ -- region 58 ops.go:90
  refine wl (ro_cmp rfl rfl rfl) ?_
  refine wl (ro_assign rfl) ?_
  refine wl_nil (x_then (hK20 _ _ ?_))
  clear hK20 K20
  refine wc_condT rfl ?_
  refine c_reg ?_ -- region 59 ops.go:91
  refine wl (ro_move rfl) ?_
  refine wl (ro_move rfl) ?_
  refine wl (ro_move rfl) ?_
  refine wl (ro_move rfl) ?_
  refine wl (ro_move rfl) ?_
  refine wl (ro_addN (k := 4) rfl rfl (by omega)) ?_
  refine wl (ro_slT (m := 4) rfl rfl rfl se_83 (by omega) (by omega)) ?_
  refine wl (ro_move rfl) ?_
  refine wl_callP rfl en_274 (for_32 (zz := forZ a y gs g vars z) o.dr hU hzs hso w0.tb w1.wf w1.w (by omega) hnh (fun h ↦ by unfold forZ; exact if_pos h) (fun h h2 ↦ by unfold forZ; rw [if_neg (by omega), h2])) (fun pv w9 hE => bpp_pan (P := Tryz.prog) (fn := Tryz.f247) (AE.go hX hF hE)) ?_
  rintro _ u1 ⟨hq9, k9, v9, hn9, rfl, ow1, x1, f1, r1⟩
  have hs1 := hF.size
  replace hF := vm_trans hX hF f1
  replace hX := hX.trans hs1 x1
  replace hR := r1
  refine wl_nil (x_blk ?_)
  refine bpp_end Tryz.results247 rfl ?_
  exact ⟨a, { g with ops := vBool (decide (k9.T ≠ 0)) :: g.ops }, ((vars.set (g.slots.getD (z + 1) 0) k9).set (g.slots.getD (z + 2) 0) k9).set (g.slots.getD (z + 3) 0) v9, rfl, rfl, (by unfold forZ; rw [if_neg (by omega), hn9]), rfl, _, hX, hF, hR⟩
end
end Go.Proofs.Qxb6500568aGreatDoor
