import Derived.Test.Qxb6500568aGreatDoorHk
/- The machine: plain instructions. -/
namespace Go.Proofs.Qxb6500568aGreatDoor
open Ieee
set_option linter.unusedVariables false
set_option linter.unusedSimpArgs false
set_option linter.unusedSectionVars false

section
variable {C : VC} {w : World} {ow : Nat → Nat} {a : AS} {y : ATh} {gs : List AFr} {g : AFr} {vars : List PV} {fg fc p z : Nat} {ids : List Nat}
section
variable {P : Program} {n : Nat} {e : Nat → Option Value} {w : World}
theorem ro_slT {t et b o len cap l m : Nat} {q q' : IntKind} {x y z : Operand} (hx : evO n e x = some (.slice (some ⟨b, o, none⟩) len cap)) (hy : evO n e y = some (.int q (l : Int))) (hz : evO n e z = some (.int q' ((l + m : Nat) : Int))) (ht : selB P t et 3 = true) (h : l + m ≤ cap) (hm : 0 < m) : RO P n e w (.slice t x (some y) (some z) none) (.slice (some ⟨b, o + l * 3, none⟩) m (cap - l)) := by
  have := ro_sliceLHn (P := P) (w := w) hx hy hz ht rfl rfl rfl h
  rw [if_neg (by omega)] at this
  exact this
theorem ro_slS {t et b len cap l m : Nat} {q q' : IntKind} {x y z : Operand} (hx : evO n e x = some (.slice (some ⟨b, 0, none⟩) len cap)) (hy : evO n e y = some (.int q (l : Int))) (hz : evO n e z = some (.int q' ((l + m : Nat) : Int))) (ht : selB P t et 3 = true) (h : l + m ≤ cap) (hm : 0 < m) : RO P n e w (.slice t x (some y) (some z) none) (.slice (some ⟨b, l * 3, none⟩) m (cap - l)) := by
  have := ro_slT (P := P) (w := w) hx hy hz ht h hm
  rw [Nat.zero_add] at this
  exact this
end
theorem AO.popS {u : World} {V : VS} {κ : List Nat} {Vv : Nat → Value} {U : Nat → Nat → Value} {x : VTh} {f : VFr} {fs : List VFr} (o : AO C fg fc u ow a y gs g vars V κ Vv U x f fs) {v : PV} {l : List PV} (ho : g.ops = v :: l) {sg sc : Nat} (hU : U a.cur 2 = .slice (some ⟨sg, 0, none⟩) x.stack.length sc) :
    Ret Tryz.prog 244 [tptr C a.cur] u (fun r w' => r = pv v ∧ Fram (one C.E.tb) u w' ∧ ∃ V' U' x', AO C fg fc w' ow a y gs { g with ops := l } vars V' κ Vv U' x' f fs ∧ U' a.cur 2 = .slice (some ⟨sg, 0, none⟩) x'.stack.length sc) := by
  refine (pop244 o.v o.t.hx (o.stk ho) hU).mono ?_
  rintro r w' ⟨h1, h2, h3⟩
  refine ⟨h1, h3, V.setT a.cur { x with stack := x.stack.take (f.base + g.slots.length) ++ l.reverse }, up1 U a.cur (up1 (U a.cur) 2 (.slice (some ⟨sg, 0, none⟩) (x.stack.take (f.base + g.slots.length) ++ l.reverse).length sc)), { x with stack := x.stack.take (f.base + g.slots.length) ++ l.reverse }, ?_, by rw [up1_self, up1_self]⟩
  have e1 : ({ x with stack := x.stack.take (f.base + g.slots.length) ++ l.reverse, frs := { f with pc := f.pc } :: fs } : VTh) = { x with stack := x.stack.take (f.base + g.slots.length) ++ l.reverse } := by
    have := o.t.hf
    rw [this]
  have hz := o.z.ops o.hc o.t l f.pc
  rw [e1] at hz
  have e2 : ({ g with ops := l, pc := f.pc } : AFr) = { g with ops := l } := by rw [o.t.pc]
  rw [e2] at hz
  obtain ⟨x2, f2, fs2, T2⟩ := hz.top o.hc
  have hl : a.cur < V.ths.length := (List.getElem?_eq_some_iff.1 o.t.hx).1
  have q1 := T2.hx
  rw [vset_at o.t.hx] at q1
  injection q1 with q1
  have q2 := T2.hf
  rw [← q1] at q2
  have q2 : x.frs = f2 :: fs2 := q2
  rw [o.t.hf] at q2
  injection q2 with q2 q3
  subst q1; subst q2; subst q3
  exact { v := h2, z := hz, t := T2, hf := by rw [up1_self, up1_ne (by decide)]; exact o.hf, hc := o.hc, ns := o.ns, dp := o.dp }
set_option maxHeartbeats 8000000 in
theorem plain_5 (E : PE C fg fc w ow a y gs g vars p ids 5 z) : RetP Tryz.prog 247 [ptr C.E.mb, i64c a.cur, tptr C a.cur, fpt fg gs.length, prt C p, u8n 5, i64c z] w (PlR C fg fc w ow a y gs g (aplain (Psf C.F) 5 z (mkA a y gs g vars))) (AE C (kH a) w ow (aplain (Psf C.F) 5 z (mkA a y gs g vars))) := by
  have hR := E.r
  have hc := E.hc
  have hk := E.hk
  obtain ⟨V, κ, Vv, U, x, f, fs, o⟩ := hR.open hc
  have hX : Xt w ow ow := Xt.refl _ _
  have hF : Fram (tg ow vtT) w w := Fram.refl _ _
  have hol := E.ol
  have hnd := E.nd
  have hzz := E.hz
  obtain ⟨lT, hT, -, -, -, hT2, -⟩ := o.v.thA o.t.hx
  have hT2 := hT2 2 (.inl rfl)
  obtain ⟨lB, hB1, k1, q1, -, -⟩ := o.frow
  obtain ⟨lP, pa, pb, pc, hP, tP, rp, -, -, -⟩ := o.v.pro E.hp
  rw [Nat.zero_add] at rp
  obtain ⟨p0, ids0, n1, n2, n3⟩ := o.ns
  obtain ⟨rfl, rfl⟩ : p = p0 ∧ ids = ids0 := by have := hk.symm.trans n1; simpa using this
  have hwin := o.win n2
  have hln := o.t.ln
  have hsl := o.sl
  have hzs : z < g.slots.length := by have := E.sn.r.2.2.2.2.1 (.inl rfl); rw [E.pr] at this; rw [n2]; exact this
  obtain ⟨sg, sc, hU⟩ := o.sg (by omega)
  rw [hU] at hT2
  obtain ⟨lS, hB5, ts, hls, hcs, hrw, -⟩ := o.v.stkR o.t.hx hU
  have rS := hrw _ _ (o.slot hzs).1
  have eS : f.base * 3 + z * 3 = (f.base + z) * 3 := by omega
  have hap : aplain (Psf C.F) 5 z (mkA a y gs g vars) = mkA a y gs { g with ops := sloV g vars z :: g.ops, pc := g.pc + 1 } vars := by
    unfold aplain
    simp only [mk_fr hc, mk_ops hc, mk_pc hc, mk_pro2 hk, mk_slot hc, mk_up hc hk, E.pl, aset_mk]; simp [AS.var, mkA_vars, mk_fr hc, mk_ops hc, mk_pc hc, mkA_tabs, ]
    rfl
  rw [hap]
  refine retp_of Tryz.func247 rfl Tryz.ntmps247 rfl ?_
  refine c_seq (fun K1 hK1 => ?_)
  refine c_pi [(0, false), (1, false), (2, false), (3, false), (4, false), (5, false), (6, false), (7, false), (8, false), (9, false), (10, false), (11, false), (12, false), (13, false), (14, false), (15, false), (16, false), (17, false), (18, false)] (SameH _) mixed (by kernel_rfl) rfl (by kernel_rfl) (po_then (po_bpp)) (sameH_now _ _) ?_ -- region 0 ops.go:34
  refine pi_ro rfl (fun w hS => ro_move rfl) ?_
  refine pi_ro rfl (fun w hS => ro_nilCheck rfl) ?_
  refine pi_ro rfl (fun w hS => ro_fieldAddr (k := 2) rfl fo_269_2) ?_
  refine pi_ro rfl (fun w hS => ro_loadB rfl sc_83 (Blk.of_heap hT hS) (hT2)) ?_
  refine pi_ro rfl (fun w hS => ro_move rfl) ?_
  refine pi_ro rfl (fun w hS => ro_nilCheck rfl) ?_
  refine pi_ro rfl (fun w hS => ro_fieldAddr (k := 2) rfl fo_331_2) ?_
  refine pi_ro rfl (fun w hS => ro_loadB rfl sc_3 (Blk.of_heap hB1 hS) (frow_at q1 (by decide))) ?_
  refine pi_ro rfl (fun w hS => ro_move rfl) ?_
  refine pi_ro rfl (fun w hS => ro_nilCheck rfl) ?_
  refine pi_ro rfl (fun w hS => ro_fieldAddr (k := 2) rfl fo_331_2) ?_
  refine pi_ro rfl (fun w hS => ro_loadB rfl sc_3 (Blk.of_heap hB1 hS) (frow_at q1 (by decide))) ?_
  refine pi_ro rfl (fun w hS => ro_move rfl) ?_
  refine pi_ro rfl (fun w hS => ro_nilCheck rfl) ?_
  refine pi_ro rfl (fun w hS => ro_fieldAddr (k := 1) rfl fo_258_1) ?_
  refine pi_ro rfl (fun w hS => ro_loadB rfl sc_3 (Blk.of_heap hP hS) (row_get rp (by decide))) ?_
  refine pi_ro rfl (fun w hS => ro_addN rfl rfl (by omega)) ?_
  refine pi_ro rfl (fun w hS => ro_slS rfl rfl rfl se_83 (by omega) (by omega)) ?_
  refine pi_ro rfl (fun w hS => ro_assign rfl) ?_
  refine pi_nil (x_then (hK1 _ _ ?_))
  clear hK1 K1
  refine forget [(0, _), (1, _), (2, _), (3, _), (4, _), (5, _), (6, _), (14, _)] ⟨rfl, rfl, rfl, rfl, rfl, rfl, rfl, rfl, trivial⟩ (fun e => ?_)
  refine c_seq (fun K2 hK2 => ?_)
  refine c_reg ?_ -- region 1 ops.go:35
  refine wl (ro_move rfl) ?_
  refine wl_nil (x_then (hK2 _ _ ?_))
  clear hK2 K2
  refine c_block ?_
  refine forget [(0, _), (1, _), (2, _), (3, _), (4, _), (5, _), (6, _), (14, _), (53, _)] ⟨rfl, rfl, rfl, rfl, rfl, rfl, rfl, rfl, rfl, trivial⟩ (fun e => ?_)
  refine c_seq (fun K3 hK3 => ?_)
  refine c_reg ?_ -- region 3 ops.go:36
  refine wl (ro_cmp rfl rfl rfl) ?_
  refine wl (ro_assign rfl) ?_
  refine wl_nil (x_then (hK3 _ _ ?_))
  clear hK3 K3
  refine wc_condF rfl ?_
  refine c_seq (fun K4 hK4 => ?_)
  refine c_reg ?_ -- region 5 ops.go:38
  refine wl (ro_cmp rfl rfl rfl) ?_
  refine wl (ro_assign rfl) ?_
  refine wl_nil (x_then (hK4 _ _ ?_))
  clear hK4 K4
  refine wc_condF rfl ?_
  refine c_seq (fun K5 hK5 => ?_)
  refine c_reg ?_ -- region 7 ops.go:40
  refine wl (ro_cmp rfl rfl rfl) ?_
  refine wl (ro_assign rfl) ?_
  refine wl_nil (x_then (hK5 _ _ ?_))
  clear hK5 K5
  refine wc_condF rfl ?_
  refine c_seq (fun K6 hK6 => ?_)
  refine c_reg ?_ -- region 9 ops.go:42
  refine wl (ro_cmp rfl rfl rfl) ?_
  refine wl (ro_assign rfl) ?_
  refine wl_nil (x_then (hK6 _ _ ?_))
  clear hK6 K6
  refine wc_condF rfl ?_
  refine c_seq (fun K7 hK7 => ?_)
  refine c_reg ?_ -- region 11 ops.go:44
  refine wl (ro_cmp rfl rfl rfl) ?_
  refine wl (ro_assign rfl) ?_
  refine wl_nil (x_then (hK7 _ _ ?_))
  clear hK7 K7
  refine wc_condT rfl ?_
  refine c_reg ?_ -- region 12 ops.go:45
  refine wl (ro_move rfl) ?_
  refine wl (ro_move rfl) ?_
  refine wl (ro_move rfl) ?_
  refine wl (ro_indexAddr (et := 119) (k := 3) rfl rfl se_83 (rfl) ((by omega))) ?_
  refine wl (ro_loadAggB rfl ag_119 (hB5) (pvc_len _) (sl_agg rS eS)) ?_
  refine wl_pu (vs := [sloV g vars z]) (eo_bsV1 rfl se_83 zx_119) rfl hR.dr hc rfl (by show g.ops.length + 1 ≤ 300; omega) ?_
  intro u1 ow1 x1 f1 r1
  have hs1 := hF.size
  replace hF := vm_trans hX hF f1
  replace hX := hX.trans hs1 x1
  replace hR := r1
  refine wl_nil (x_blk ?_)
  refine bpp_end Tryz.results247 rfl ?_
  exact ⟨a, { g with ops := sloV g vars z :: g.ops }, vars, rfl, rfl, rfl, rfl, _, hX, hF, hR⟩
set_option maxHeartbeats 8000000 in
theorem plain_6 (E : PE C fg fc w ow a y gs g vars p ids 6 z) : RetP Tryz.prog 247 [ptr C.E.mb, i64c a.cur, tptr C a.cur, fpt fg gs.length, prt C p, u8n 6, i64c z] w (PlR C fg fc w ow a y gs g (aplain (Psf C.F) 6 z (mkA a y gs g vars))) (AE C (kH a) w ow (aplain (Psf C.F) 6 z (mkA a y gs g vars))) := by
  have hR := E.r
  have hc := E.hc
  have hk := E.hk
  obtain ⟨V, κ, Vv, U, x, f, fs, o⟩ := hR.open hc
  have hX : Xt w ow ow := Xt.refl _ _
  have hF : Fram (tg ow vtT) w w := Fram.refl _ _
  have hol := E.ol
  have hnd := E.nd
  have hzz := E.hz
  obtain ⟨lT, hT, -, -, -, hT2, -⟩ := o.v.thA o.t.hx
  have hT2 := hT2 2 (.inl rfl)
  obtain ⟨lB, hB1, k1, q1, -, -⟩ := o.frow
  obtain ⟨lP, pa, pb, pc, hP, tP, rp, -, -, -⟩ := o.v.pro E.hp
  rw [Nat.zero_add] at rp
  obtain ⟨p0, ids0, n1, n2, n3⟩ := o.ns
  obtain ⟨rfl, rfl⟩ : p = p0 ∧ ids = ids0 := by have := hk.symm.trans n1; simpa using this
  have hwin := o.win n2
  have hln := o.t.ln
  have hsl := o.sl
  have hzs : z < g.slots.length := by have := E.sn.r.2.2.2.2.1 (.inr rfl); rw [E.pr] at this; rw [n2]; exact this
  obtain ⟨sg, sc, hU⟩ := o.sg (by omega)
  rw [hU] at hT2
  obtain ⟨lS, hB5, ts, hls, hcs, hrw, -⟩ := o.v.stkR o.t.hx hU
  obtain ⟨v, l, ho⟩ := ops_1 (l := g.ops) hnd
  have hlo := congrArg List.length ho
  simp only [List.length_cons] at hlo
  have eS : f.base * 3 + z * 3 = (f.base + z) * 3 := by omega
  have hlt := o.lt
  have hap : aplain (Psf C.F) 6 z (mkA a y gs g vars) = mkA a y gs { g with ops := l, pc := g.pc + 1 } (vars.set (g.slots.getD z 0) v) := by
    unfold aplain
    simp only [mk_fr hc, mk_ops hc, mk_pc hc, mk_pro2 hk, mk_slot hc, mk_up hc hk, E.pl, ho, aset_mk]; simp [AS.var, mkA_vars, mk_fr hc, mk_ops hc, mk_pc hc, mkA_tabs, ]
  rw [hap]
  refine retp_of Tryz.func247 rfl Tryz.ntmps247 rfl ?_
  refine c_seq (fun K1 hK1 => ?_)
  refine c_pi [(0, false), (1, false), (2, false), (3, false), (4, false), (5, false), (6, false), (7, false), (8, false), (9, false), (10, false), (11, false), (12, false), (13, false), (14, false), (15, false), (16, false), (17, false), (18, false)] (SameH _) mixed (by kernel_rfl) rfl (by kernel_rfl) (po_then (po_bpp)) (sameH_now _ _) ?_ -- region 0 ops.go:34
  refine pi_ro rfl (fun w hS => ro_move rfl) ?_
  refine pi_ro rfl (fun w hS => ro_nilCheck rfl) ?_
  refine pi_ro rfl (fun w hS => ro_fieldAddr (k := 2) rfl fo_269_2) ?_
  refine pi_ro rfl (fun w hS => ro_loadB rfl sc_83 (Blk.of_heap hT hS) (hT2)) ?_
  refine pi_ro rfl (fun w hS => ro_move rfl) ?_
  refine pi_ro rfl (fun w hS => ro_nilCheck rfl) ?_
  refine pi_ro rfl (fun w hS => ro_fieldAddr (k := 2) rfl fo_331_2) ?_
  refine pi_ro rfl (fun w hS => ro_loadB rfl sc_3 (Blk.of_heap hB1 hS) (frow_at q1 (by decide))) ?_
  refine pi_ro rfl (fun w hS => ro_move rfl) ?_
  refine pi_ro rfl (fun w hS => ro_nilCheck rfl) ?_
  refine pi_ro rfl (fun w hS => ro_fieldAddr (k := 2) rfl fo_331_2) ?_
  refine pi_ro rfl (fun w hS => ro_loadB rfl sc_3 (Blk.of_heap hB1 hS) (frow_at q1 (by decide))) ?_
  refine pi_ro rfl (fun w hS => ro_move rfl) ?_
  refine pi_ro rfl (fun w hS => ro_nilCheck rfl) ?_
  refine pi_ro rfl (fun w hS => ro_fieldAddr (k := 1) rfl fo_258_1) ?_
  refine pi_ro rfl (fun w hS => ro_loadB rfl sc_3 (Blk.of_heap hP hS) (row_get rp (by decide))) ?_
  refine pi_ro rfl (fun w hS => ro_addN rfl rfl (by omega)) ?_
  refine pi_ro rfl (fun w hS => ro_slS rfl rfl rfl se_83 (by omega) (by omega)) ?_
  refine pi_ro rfl (fun w hS => ro_assign rfl) ?_
  refine pi_nil (x_then (hK1 _ _ ?_))
  clear hK1 K1
  refine forget [(0, _), (1, _), (2, _), (3, _), (4, _), (5, _), (6, _), (14, _)] ⟨rfl, rfl, rfl, rfl, rfl, rfl, rfl, rfl, trivial⟩ (fun e => ?_)
  refine c_seq (fun K2 hK2 => ?_)
  refine c_reg ?_ -- region 1 ops.go:35
  refine wl (ro_move rfl) ?_
  refine wl_nil (x_then (hK2 _ _ ?_))
  clear hK2 K2
  refine c_block ?_
  refine forget [(0, _), (1, _), (2, _), (3, _), (4, _), (5, _), (6, _), (14, _), (53, _)] ⟨rfl, rfl, rfl, rfl, rfl, rfl, rfl, rfl, rfl, trivial⟩ (fun e => ?_)
  refine c_seq (fun K3 hK3 => ?_)
  refine c_reg ?_ -- region 3 ops.go:36
  refine wl (ro_cmp rfl rfl rfl) ?_
  refine wl (ro_assign rfl) ?_
  refine wl_nil (x_then (hK3 _ _ ?_))
  clear hK3 K3
  refine wc_condF rfl ?_
  refine c_seq (fun K4 hK4 => ?_)
  refine c_reg ?_ -- region 5 ops.go:38
  refine wl (ro_cmp rfl rfl rfl) ?_
  refine wl (ro_assign rfl) ?_
  refine wl_nil (x_then (hK4 _ _ ?_))
  clear hK4 K4
  refine wc_condF rfl ?_
  refine c_seq (fun K5 hK5 => ?_)
  refine c_reg ?_ -- region 7 ops.go:40
  refine wl (ro_cmp rfl rfl rfl) ?_
  refine wl (ro_assign rfl) ?_
  refine wl_nil (x_then (hK5 _ _ ?_))
  clear hK5 K5
  refine wc_condF rfl ?_
  refine c_seq (fun K6 hK6 => ?_)
  refine c_reg ?_ -- region 9 ops.go:42
  refine wl (ro_cmp rfl rfl rfl) ?_
  refine wl (ro_assign rfl) ?_
  refine wl_nil (x_then (hK6 _ _ ?_))
  clear hK6 K6
  refine wc_condF rfl ?_
  refine c_seq (fun K7 hK7 => ?_)
  refine c_reg ?_ -- region 11 ops.go:44
  refine wl (ro_cmp rfl rfl rfl) ?_
  refine wl (ro_assign rfl) ?_
  refine wl_nil (x_then (hK7 _ _ ?_))
  clear hK7 K7
  refine wc_condF rfl ?_
  refine c_seq (fun K8 hK8 => ?_)
  refine c_reg ?_ -- region 13 ops.go:46
  refine wl (ro_cmp rfl rfl rfl) ?_
  refine wl (ro_assign rfl) ?_
  refine wl_nil (x_then (hK8 _ _ ?_))
  clear hK8 K8
  refine wc_condT rfl ?_
  refine c_reg ?_ -- region 14 ops.go:47
  refine wl (ro_move rfl) ?_
  refine wl (ro_move rfl) ?_
  refine wl (ro_move rfl) ?_
  refine wl_call rfl en_244 (o.dr.popS ho hU) ?_
  rintro _ u9 ⟨rfl, F9, V9, U9, x9, o9, hU9⟩
  replace hF := hF.transG F9 (fun k _ q ↦ by have q : k = C.E.tb := q; rw [q]; exact hR.q.vtb)
  obtain ⟨l9, hB5, t9, ls9, c9, -, -⟩ := o9.v.stkR o9.t.hx hU9
  have hs9 := (List.getElem?_eq_some_iff.1 (o9.slot hzs).1).1
  refine wl (ro_indexAddr (et := 119) (k := 3) rfl rfl se_83 (rfl) ((by omega))) ?_
  refine wl_puta (cs := pvc v) rfl rfl (pvc_one _) sz_119 (pvc_len _) hB5 (by rw [eS]; omega) rfl (fun w9 hB9 G9 ↦ ?_)
  replace hR := (o9.setS hU9 hB5 (z := z) hzs G9 (by rw [← eS]; exact hB9)).am
  replace hF := hF.trans' G9 (fun k _ q ↦ by have q : k = sg := q; rw [q]; exact vt_440 hlt t9)
  refine wl_nil (x_blk ?_)
  refine bpp_end Tryz.results247 rfl ?_
  exact ⟨a, { g with ops := l }, vars.set (g.slots.getD z 0) v, rfl, rfl, rfl, rfl, _, hX, hF, hR⟩
end
end Go.Proofs.Qxb6500568aGreatDoor
