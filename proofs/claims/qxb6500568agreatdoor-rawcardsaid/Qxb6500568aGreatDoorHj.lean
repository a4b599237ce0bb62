import Derived.Test.Qxb6500568aGreatDoorHi
/- The machine: plain instructions. -/
namespace Go.Proofs.Qxb6500568aGreatDoor
open Ieee
set_option linter.unusedVariables false
set_option linter.unusedSimpArgs false
set_option linter.unusedSectionVars false

section
variable {C : VC} {w : World} {ow : Nat → Nat} {a : AS} {y : ATh} {gs : List AFr} {g : AFr} {vars : List PV} {fg fc p z : Nat} {ids : List Nat}
theorem nx_clos (hc : a.cur < a.ths.length) (T : List (Nat × List Nat)) (l : List PV) : apc (AS.fr { mkA a y gs g vars with clos := T }).pc.succ (aops l { mkA a y gs g vars with clos := T }) = mkA { a with clos := T } y gs { g with ops := l, pc := g.pc + 1 } vars := by
  have e : ({ mkA a y gs g vars with clos := T } : AS) = mkA { a with clos := T } y gs g vars := rfl
  rw [e, mk_fr (a := { a with clos := T }) hc, mk_ops (a := { a with clos := T }) hc, mk_pc (a := { a with clos := T }) hc]
theorem aclose_mk (hc : a.cur < a.ths.length) (z : Nat) : aclose z (mkA a y gs g vars) = mkA a y gs { g with slots := g.slots.take z ++ (List.range (g.slots.length - z)).map (vars.length + ·) } (vars ++ (g.slots.drop z).map fun s => vars.getD s vNil) := by
  unfold aclose anew
  simp only [mk_fr hc, mkA_vars]
  have e : ({ mkA a y gs g vars with vars := vars ++ (g.slots.drop z).map (mkA a y gs g vars).var } : AS) = mkA a y gs g (vars ++ (g.slots.drop z).map fun s => vars.getD s vNil) := rfl
  rw [e, mk_fr hc, mk_setF hc]
  simp
theorem mkN {s : AS} (hR : AM C fg fc w ow s) (h : 12 ≤ s.tabs.length) : Ret Tryz.prog 86 [ptr C.xb] w (fun r w' => r = .tuple #[icv (-1), icv 8] ∧ Fram none' w w') :=
  (Make86 hR.rtab).mono fun r w' q => by rw [if_pos h] at q; exact ⟨q.1, q.2.2⟩
theorem mkS (hR : AM C fg fc w ow (mkA a y gs g vars)) (h : a.tabs.length < 12) : Ret Tryz.prog 86 [ptr C.xb] w (AR C fg fc w ow (.tuple #[i64c a.tabs.length, icv 0]) (mkA { a with tabs := a.tabs ++ [[]] } y gs g vars)) :=
  (Make86 hR.rtab).mono fun r w' q => by
    rw [if_neg (show ¬ 12 ≤ (mkA a y gs g vars).tabs.length by rw [mkA_tabs]; omega)] at q
    obtain ⟨q1, ow1, q2, q3, q4⟩ := q
    obtain ⟨ow2, x2, f2, r2⟩ := hR.tabs q2 q4 q3 (by rw [mkA_tabs, List.length_append]; exact Nat.le_add_right _ _)
    exact ⟨q1, ow2, x2, f2, r2⟩
theorem closA' (hR : AM C fg fc w ow (mkA a y gs g vars)) (hc : a.cur < a.ths.length) {p : Nat} {ids : List Nat} (hk : a.clos[g.clo]? = some (p, ids)) (h24 : a.clos.length < 24) {q : Nat} (hq : q < C.F.length) (hd : ∀ d ∈ (fsAt C.F q).ups, (d.1 = 1 ∧ d.2 < g.slots.length) ∨ (d.1 = 0 ∧ d.2 < ids.length)) :
    Ret Tryz.prog 273 [ptr C.E.mb, i64c a.cur, tptr C a.cur, fpt fg gs.length, i64c q] w (AR C fg fc w ow (i64c a.clos.length) (mkA { a with clos := a.clos ++ [(q, aups (mkA a y gs g vars) (fsAt C.F q).ups)] } y gs g vars)) := closA hR hc hk h24 hq hd
theorem psf_ups (F : Fns) (j : Nat) : ((Psf F).getD j Proto.zero).ups = (fsAt F j).ups := by
  have := pr_psf F j
  unfold Go.Proofs.Qxb6500568aGreatDoor.pr at this
  rw [this]; rfl
set_option maxHeartbeats 8000000 in
theorem plain_14a (E : PE C fg fc w ow a y gs g vars p ids 14 z) (h12 : 12 ≤ a.tabs.length) : RetP Tryz.prog 247 [ptr C.E.mb, i64c a.cur, tptr C a.cur, fpt fg gs.length, prt C p, u8n 14, i64c z] w (PlR C fg fc w ow a y gs g (aplain (Psf C.F) 14 z (mkA a y gs g vars))) (AE C (kH a) w ow (aplain (Psf C.F) 14 z (mkA a y gs g vars))) := by
  have hR := E.r
  have hc := E.hc
  have hk := E.hk
  obtain ⟨V, κ, Vv, U, x, f, fs, o⟩ := hR.open hc
  have hX : Xt w ow ow := Xt.refl _ _
  have hF : Fram (tg ow vtT) w w := Fram.refl _ _
  have hol := E.ol
  have hnd := E.nd
  have hzz := E.hz
  obtain ⟨lT, hT, -, -, -, hT2, -⟩ := o.v.thA o.t.hx
  have hT2 := hT2 2 (.inl rfl)
  obtain ⟨lB, hB1, k1, q1, -, -⟩ := o.frow
  obtain ⟨lP, pa, pb, pc, hP, tP, rp, -, -, -⟩ := o.v.pro E.hp
  rw [Nat.zero_add] at rp
  obtain ⟨p0, ids0, n1, n2, n3⟩ := o.ns
  obtain ⟨rfl, rfl⟩ : p = p0 ∧ ids = ids0 := by have := hk.symm.trans n1; simpa using this
  have hwin := o.win n2
  have hln := o.t.ln
  have hsl := o.sl
  have hap : aplain (Psf C.F) 14 z (mkA a y gs g vars) = afin 8 [45] (mkA a y gs g vars) := by
    unfold aplain
    simp only [mk_fr hc, mk_pro2 hk, E.pl]
    simp only [Nat.reduceEqDiff, if_false, if_true]
    exact if_pos h12
  rw [hap]
  refine retp_of Tryz.func247 rfl Tryz.ntmps247 rfl ?_
  refine c_seq (fun K1 hK1 => ?_)
  refine c_pi [(0, false), (1, false), (2, false), (3, false), (4, false), (5, false), (6, false), (7, false), (8, false), (9, false), (10, false), (11, false), (12, false), (13, false), (14, false), (15, false), (16, false), (17, false), (18, false)] (SameH _) mixed (by kernel_rfl) rfl (by kernel_rfl) (po_then (po_bpp)) (sameH_now _ _) ?_ -- region 0 ops.go:34
  refine pi_ro rfl (fun w hS => ro_move rfl) ?_
  refine pi_ro rfl (fun w hS => ro_nilCheck rfl) ?_
  refine pi_ro rfl (fun w hS => ro_fieldAddr (k := 2) rfl fo_269_2) ?_
  refine pi_ro rfl (fun w hS => ro_loadB rfl sc_83 (Blk.of_heap hT hS) (hT2)) ?_
  refine pi_ro rfl (fun w hS => ro_move rfl) ?_
  refine pi_ro rfl (fun w hS => ro_nilCheck rfl) ?_
  refine pi_ro rfl (fun w hS => ro_fieldAddr (k := 2) rfl fo_331_2) ?_
  refine pi_ro rfl (fun w hS => ro_loadB rfl sc_3 (Blk.of_heap hB1 hS) (frow_at q1 (by decide))) ?_
  refine pi_ro rfl (fun w hS => ro_move rfl) ?_
  refine pi_ro rfl (fun w hS => ro_nilCheck rfl) ?_
  refine pi_ro rfl (fun w hS => ro_fieldAddr (k := 2) rfl fo_331_2) ?_
  refine pi_ro rfl (fun w hS => ro_loadB rfl sc_3 (Blk.of_heap hB1 hS) (frow_at q1 (by decide))) ?_
  refine pi_ro rfl (fun w hS => ro_move rfl) ?_
  refine pi_ro rfl (fun w hS => ro_nilCheck rfl) ?_
  refine pi_ro rfl (fun w hS => ro_fieldAddr (k := 1) rfl fo_258_1) ?_
  refine pi_ro rfl (fun w hS => ro_loadB rfl sc_3 (Blk.of_heap hP hS) (row_get rp (by decide))) ?_
  refine pi_ro rfl (fun w hS => ro_addN rfl rfl (by omega)) ?_
  refine pi_ro rfl (fun w hS => ro_slV hwin rfl rfl rfl se_83) ?_
  refine pi_ro rfl (fun w hS => ro_assign rfl) ?_
  refine pi_nil (x_then (hK1 _ _ ?_))
  clear hK1 K1
  refine forget [(0, _), (1, _), (2, _), (3, _), (4, _), (5, _), (6, _), (14, _)] ⟨rfl, rfl, rfl, rfl, rfl, rfl, rfl, rfl, trivial⟩ (fun e => ?_)
  refine c_seq (fun K2 hK2 => ?_)
  refine c_reg ?_ -- region 1 ops.go:35
  refine wl (ro_move rfl) ?_
  refine wl_nil (x_then (hK2 _ _ ?_))
  clear hK2 K2
  refine c_block ?_
  refine forget [(0, _), (1, _), (2, _), (3, _), (4, _), (5, _), (6, _), (14, _), (53, _)] ⟨rfl, rfl, rfl, rfl, rfl, rfl, rfl, rfl, rfl, trivial⟩ (fun e => ?_)
  refine c_seq (fun K3 hK3 => ?_)
  refine c_reg ?_ -- region 3 ops.go:36
  refine wl (ro_cmp rfl rfl rfl) ?_
  refine wl (ro_assign rfl) ?_
  refine wl_nil (x_then (hK3 _ _ ?_))
  clear hK3 K3
  refine wc_condF rfl ?_
  refine c_seq (fun K4 hK4 => ?_)
  refine c_reg ?_ -- region 5 ops.go:38
  refine wl (ro_cmp rfl rfl rfl) ?_
  refine wl (ro_assign rfl) ?_
  refine wl_nil (x_then (hK4 _ _ ?_))
  clear hK4 K4
  refine wc_condF rfl ?_
  refine c_seq (fun K5 hK5 => ?_)
  refine c_reg ?_ -- region 7 ops.go:40
  refine wl (ro_cmp rfl rfl rfl) ?_
  refine wl (ro_assign rfl) ?_
  refine wl_nil (x_then (hK5 _ _ ?_))
  clear hK5 K5
  refine wc_condF rfl ?_
  refine c_seq (fun K6 hK6 => ?_)
  refine c_reg ?_ -- region 9 ops.go:42
  refine wl (ro_cmp rfl rfl rfl) ?_
  refine wl (ro_assign rfl) ?_
  refine wl_nil (x_then (hK6 _ _ ?_))
  clear hK6 K6
  refine wc_condF rfl ?_
  refine c_seq (fun K7 hK7 => ?_)
  refine c_reg ?_ -- region 11 ops.go:44
  refine wl (ro_cmp rfl rfl rfl) ?_
  refine wl (ro_assign rfl) ?_
  refine wl_nil (x_then (hK7 _ _ ?_))
  clear hK7 K7
  refine wc_condF rfl ?_
  refine c_seq (fun K8 hK8 => ?_)
  refine c_reg ?_ -- region 13 ops.go:46
  refine wl (ro_cmp rfl rfl rfl) ?_
  refine wl (ro_assign rfl) ?_
  refine wl_nil (x_then (hK8 _ _ ?_))
  clear hK8 K8
  refine wc_condF rfl ?_
  refine c_seq (fun K9 hK9 => ?_)
  refine c_reg ?_ -- region 15 ops.go:48
  refine wl (ro_cmp rfl rfl rfl) ?_
  refine wl (ro_assign rfl) ?_
  refine wl_nil (x_then (hK9 _ _ ?_))
  clear hK9 K9
  refine wc_condF rfl ?_
  refine c_seq (fun K10 hK10 => ?_)
  refine c_reg ?_ -- region 18 ops.go:51
  refine wl (ro_cmp rfl rfl rfl) ?_
  refine wl (ro_assign rfl) ?_
  refine wl_nil (x_then (hK10 _ _ ?_))
  clear hK10 K10
  refine wc_condF rfl ?_
  refine c_seq (fun K11 hK11 => ?_)
  refine c_reg ?_ -- region 21 ops.go:54
  refine wl (ro_cmp rfl rfl rfl) ?_
  refine wl (ro_assign rfl) ?_
  refine wl_nil (x_then (hK11 _ _ ?_))
  clear hK11 K11
  refine wc_condF rfl ?_
  refine c_seq (fun K12 hK12 => ?_)
  refine c_reg ?_ -- region 24 ops.go:57
  refine wl (ro_cmp rfl rfl rfl) ?_
  refine wl (ro_assign rfl) ?_
  refine wl_nil (x_then (hK12 _ _ ?_))
  clear hK12 K12
  refine wc_condF rfl ?_
  refine c_seq (fun K13 hK13 => ?_)
  refine c_reg ?_ -- region 27 ops.go:60
  refine wl (ro_cmp rfl rfl rfl) ?_
  refine wl (ro_assign rfl) ?_
  refine wl_nil (x_then (hK13 _ _ ?_))
  clear hK13 K13
  refine wc_condF rfl ?_
  refine c_seq (fun K14 hK14 => ?_)
  refine c_reg ?_ -- region 33 ops.go:66
  refine wl (ro_cmp rfl rfl rfl) ?_
  refine wl (ro_assign rfl) ?_
  refine wl_nil (x_then (hK14 _ _ ?_))
  clear hK14 K14
  refine wc_condF rfl ?_
  refine c_seq (fun K15 hK15 => ?_)
  refine c_reg ?_ -- region 39 ops.go:72
  refine wl (ro_cmp rfl rfl rfl) ?_
  refine wl (ro_assign rfl) ?_
  refine wl_nil (x_then (hK15 _ _ ?_))
  clear hK15 K15
  refine wc_condF rfl ?_
  refine c_seq (fun K16 hK16 => ?_)
  refine c_reg ?_ -- region 44 ops.go:77
  refine wl (ro_cmp rfl rfl rfl) ?_
  refine wl (ro_assign rfl) ?_
  refine wl_nil (x_then (hK16 _ _ ?_))
  clear hK16 K16
  refine wc_condT rfl ?_
  refine c_seq (fun K17 hK17 => ?_)
  refine c_reg ?_ -- region 45 ops.go:78
  refine wl (ro_move rfl) ?_
  refine wl (ro_nilCheck rfl) ?_
  refine wl (ro_fieldAddr (k := 1) rfl fo_89_1) ?_
  obtain ⟨lz, hz, hz0, hz1⟩ := hR.rz
  refine wl (ro_loadB rfl sc_38 hz hz1) ?_
  refine wl_call rfl en_86 (mkN hR.dr h12) ?_
  rintro _ w1 ⟨rfl, F1⟩
  replace hF := hF.thenDrew.thenN F1
  replace hR := hR.thruN ((Fram.refl none' _).thenDrew.thenN F1)
  refine wl (ro_move rfl) ?_
  refine wl (ro_extract rfl rfl) ?_
  refine wl (ro_extract rfl rfl) ?_
  refine wl (ro_assign rfl) ?_
  refine wl (ro_assign rfl) ?_
  refine wl_nil (x_then (hK17 _ _ ?_))
  clear hK17 K17
  refine c_seq (fun K18 hK18 => ?_)
  refine c_seq (fun K19 hK19 => ?_)
  refine c_reg ?_ -- region 46 ops.go:79
  refine wl (ro_move rfl) ?_
  refine wl (ro_cmp rfl rfl rfl) ?_
  refine wl_nil (x_then (hK19 _ _ ?_))
  clear hK19 K19
  refine wc_condT rfl ?_
  refine c_reg ?_ -- region 47 ops.go:80
  refine wl_callP rfl en_240 (stop240 (e := 8)) (fun pv w9 hE => bpp_pan (P := Tryz.prog) (fn := Tryz.f247) (AE.stop hX hF hR.q hE (ATr.of rfl))) ?_
  rintro _ _ ⟨⟩
set_option maxHeartbeats 8000000 in
theorem plain_14b (E : PE C fg fc w ow a y gs g vars p ids 14 z) (h12 : a.tabs.length < 12) : RetP Tryz.prog 247 [ptr C.E.mb, i64c a.cur, tptr C a.cur, fpt fg gs.length, prt C p, u8n 14, i64c z] w (PlR C fg fc w ow a y gs g (aplain (Psf C.F) 14 z (mkA a y gs g vars))) (AE C (kH a) w ow (aplain (Psf C.F) 14 z (mkA a y gs g vars))) := by
  have hR := E.r
  have hc := E.hc
  have hk := E.hk
  obtain ⟨V, κ, Vv, U, x, f, fs, o⟩ := hR.open hc
  have hX : Xt w ow ow := Xt.refl _ _
  have hF : Fram (tg ow vtT) w w := Fram.refl _ _
  have hol := E.ol
  have hnd := E.nd
  have hzz := E.hz
  obtain ⟨lT, hT, -, -, -, hT2, -⟩ := o.v.thA o.t.hx
  have hT2 := hT2 2 (.inl rfl)
  obtain ⟨lB, hB1, k1, q1, -, -⟩ := o.frow
  obtain ⟨lP, pa, pb, pc, hP, tP, rp, -, -, -⟩ := o.v.pro E.hp
  rw [Nat.zero_add] at rp
  obtain ⟨p0, ids0, n1, n2, n3⟩ := o.ns
  obtain ⟨rfl, rfl⟩ : p = p0 ∧ ids = ids0 := by have := hk.symm.trans n1; simpa using this
  have hwin := o.win n2
  have hln := o.t.ln
  have hsl := o.sl
  have hap : aplain (Psf C.F) 14 z (mkA a y gs g vars) = mkA { a with tabs := a.tabs ++ [[]] } y gs { g with ops := vTab a.tabs.length :: g.ops, pc := g.pc + 1 } vars := by
    unfold aplain
    simp only [mk_fr hc, mk_pro2 hk, E.pl]
    simp only [Nat.reduceEqDiff, if_false, if_true]
    exact (if_neg (show ¬ 12 ≤ a.tabs.length by omega)).trans (nx_tabs hc _ _)
  rw [hap]
  refine retp_of Tryz.func247 rfl Tryz.ntmps247 rfl ?_
  refine c_seq (fun K1 hK1 => ?_)
  refine c_pi [(0, false), (1, false), (2, false), (3, false), (4, false), (5, false), (6, false), (7, false), (8, false), (9, false), (10, false), (11, false), (12, false), (13, false), (14, false), (15, false), (16, false), (17, false), (18, false)] (SameH _) mixed (by kernel_rfl) rfl (by kernel_rfl) (po_then (po_bpp)) (sameH_now _ _) ?_ -- region 0 ops.go:34
  refine pi_ro rfl (fun w hS => ro_move rfl) ?_
  refine pi_ro rfl (fun w hS => ro_nilCheck rfl) ?_
  refine pi_ro rfl (fun w hS => ro_fieldAddr (k := 2) rfl fo_269_2) ?_
  refine pi_ro rfl (fun w hS => ro_loadB rfl sc_83 (Blk.of_heap hT hS) (hT2)) ?_
  refine pi_ro rfl (fun w hS => ro_move rfl) ?_
  refine pi_ro rfl (fun w hS => ro_nilCheck rfl) ?_
  refine pi_ro rfl (fun w hS => ro_fieldAddr (k := 2) rfl fo_331_2) ?_
  refine pi_ro rfl (fun w hS => ro_loadB rfl sc_3 (Blk.of_heap hB1 hS) (frow_at q1 (by decide))) ?_
  refine pi_ro rfl (fun w hS => ro_move rfl) ?_
  refine pi_ro rfl (fun w hS => ro_nilCheck rfl) ?_
  refine pi_ro rfl (fun w hS => ro_fieldAddr (k := 2) rfl fo_331_2) ?_
  refine pi_ro rfl (fun w hS => ro_loadB rfl sc_3 (Blk.of_heap hB1 hS) (frow_at q1 (by decide))) ?_
  refine pi_ro rfl (fun w hS => ro_move rfl) ?_
  refine pi_ro rfl (fun w hS => ro_nilCheck rfl) ?_
  refine pi_ro rfl (fun w hS => ro_fieldAddr (k := 1) rfl fo_258_1) ?_
  refine pi_ro rfl (fun w hS => ro_loadB rfl sc_3 (Blk.of_heap hP hS) (row_get rp (by decide))) ?_
  refine pi_ro rfl (fun w hS => ro_addN rfl rfl (by omega)) ?_
  refine pi_ro rfl (fun w hS => ro_slV hwin rfl rfl rfl se_83) ?_
  refine pi_ro rfl (fun w hS => ro_assign rfl) ?_
  refine pi_nil (x_then (hK1 _ _ ?_))
  clear hK1 K1
  refine forget [(0, _), (1, _), (2, _), (3, _), (4, _), (5, _), (6, _), (14, _)] ⟨rfl, rfl, rfl, rfl, rfl, rfl, rfl, rfl, trivial⟩ (fun e => ?_)
  refine c_seq (fun K2 hK2 => ?_)
  refine c_reg ?_ -- region 1 ops.go:35
  refine wl (ro_move rfl) ?_
  refine wl_nil (x_then (hK2 _ _ ?_))
  clear hK2 K2
  refine c_block ?_
  refine forget [(0, _), (1, _), (2, _), (3, _), (4, _), (5, _), (6, _), (14, _), (53, _)] ⟨rfl, rfl, rfl, rfl, rfl, rfl, rfl, rfl, rfl, trivial⟩ (fun e => ?_)
  refine c_seq (fun K3 hK3 => ?_)
  refine c_reg ?_ -- region 3 ops.go:36
  refine wl (ro_cmp rfl rfl rfl) ?_
  refine wl (ro_assign rfl) ?_
  refine wl_nil (x_then (hK3 _ _ ?_))
  clear hK3 K3
  refine wc_condF rfl ?_
  refine c_seq (fun K4 hK4 => ?_)
  refine c_reg ?_ -- region 5 ops.go:38
  refine wl (ro_cmp rfl rfl rfl) ?_
  refine wl (ro_assign rfl) ?_
  refine wl_nil (x_then (hK4 _ _ ?_))
  clear hK4 K4
  refine wc_condF rfl ?_
  refine c_seq (fun K5 hK5 => ?_)
  refine c_reg ?_ -- region 7 ops.go:40
  refine wl (ro_cmp rfl rfl rfl) ?_
  refine wl (ro_assign rfl) ?_
  refine wl_nil (x_then (hK5 _ _ ?_))
  clear hK5 K5
  refine wc_condF rfl ?_
  refine c_seq (fun K6 hK6 => ?_)
  refine c_reg ?_ -- region 9 ops.go:42
  refine wl (ro_cmp rfl rfl rfl) ?_
  refine wl (ro_assign rfl) ?_
  refine wl_nil (x_then (hK6 _ _ ?_))
  clear hK6 K6
  refine wc_condF rfl ?_
  refine c_seq (fun K7 hK7 => ?_)
  refine c_reg ?_ -- region 11 ops.go:44
  refine wl (ro_cmp rfl rfl rfl) ?_
  refine wl (ro_assign rfl) ?_
  refine wl_nil (x_then (hK7 _ _ ?_))
  clear hK7 K7
  refine wc_condF rfl ?_
  refine c_seq (fun K8 hK8 => ?_)
  refine c_reg ?_ -- region 13 ops.go:46
  refine wl (ro_cmp rfl rfl rfl) ?_
  refine wl (ro_assign rfl) ?_
  refine wl_nil (x_then (hK8 _ _ ?_))
  clear hK8 K8
  refine wc_condF rfl ?_
  refine c_seq (fun K9 hK9 => ?_)
  refine c_reg ?_ -- region 15 ops.go:48
  refine wl (ro_cmp rfl rfl rfl) ?_
  refine wl (ro_assign rfl) ?_
  refine wl_nil (x_then (hK9 _ _ ?_))
  clear hK9 K9
  refine wc_condF rfl ?_
  refine c_seq (fun K10 hK10 => ?_)
  refine c_reg ?_ -- region 18 ops.go:51
  refine wl (ro_cmp rfl rfl rfl) ?_
  refine wl (ro_assign rfl) ?_
  refine wl_nil (x_then (hK10 _ _ ?_))
  clear hK10 K10
  refine wc_condF rfl ?_
  refine c_seq (fun K11 hK11 => ?_)
  refine c_reg ?_ -- region 21 ops.go:54
  refine wl (ro_cmp rfl rfl rfl) ?_
  refine wl (ro_assign rfl) ?_
  refine wl_nil (x_then (hK11 _ _ ?_))
  clear hK11 K11
  refine wc_condF rfl ?_
  refine c_seq (fun K12 hK12 => ?_)
  refine c_reg ?_ -- region 24 ops.go:57
  refine wl (ro_cmp rfl rfl rfl) ?_
  refine wl (ro_assign rfl) ?_
  refine wl_nil (x_then (hK12 _ _ ?_))
  clear hK12 K12
  refine wc_condF rfl ?_
  refine c_seq (fun K13 hK13 => ?_)
  refine c_reg ?_ -- region 27 ops.go:60
  refine wl (ro_cmp rfl rfl rfl) ?_
  refine wl (ro_assign rfl) ?_
  refine wl_nil (x_then (hK13 _ _ ?_))
  clear hK13 K13
  refine wc_condF rfl ?_
  refine c_seq (fun K14 hK14 => ?_)
  refine c_reg ?_ -- region 33 ops.go:66
  refine wl (ro_cmp rfl rfl rfl) ?_
  refine wl (ro_assign rfl) ?_
  refine wl_nil (x_then (hK14 _ _ ?_))
  clear hK14 K14
  refine wc_condF rfl ?_
  refine c_seq (fun K15 hK15 => ?_)
  refine c_reg ?_ -- region 39 ops.go:72
  refine wl (ro_cmp rfl rfl rfl) ?_
  refine wl (ro_assign rfl) ?_
  refine wl_nil (x_then (hK15 _ _ ?_))
  clear hK15 K15
  refine wc_condF rfl ?_
  refine c_seq (fun K16 hK16 => ?_)
  refine c_reg ?_ -- region 44 ops.go:77
  refine wl (ro_cmp rfl rfl rfl) ?_
  refine wl (ro_assign rfl) ?_
  refine wl_nil (x_then (hK16 _ _ ?_))
  clear hK16 K16
  refine wc_condT rfl ?_
  refine c_seq (fun K17 hK17 => ?_)
  refine c_reg ?_ -- region 45 ops.go:78
  refine wl (ro_move rfl) ?_
  refine wl (ro_nilCheck rfl) ?_
  refine wl (ro_fieldAddr (k := 1) rfl fo_89_1) ?_
  obtain ⟨lz, hz, hz0, hz1⟩ := hR.rz
  refine wl (ro_loadB rfl sc_38 hz hz1) ?_
  refine wl_call rfl en_86 (mkS hR.dr h12) ?_
  rintro _ u1 ⟨rfl, ow1, x1, f1, r1⟩
  have hs1 := hF.size
  replace hF := vm_trans hX hF f1
  replace hX := hX.trans hs1 x1
  replace hR := r1
  refine wl (ro_move rfl) ?_
  refine wl (ro_extract rfl rfl) ?_
  refine wl (ro_extract rfl rfl) ?_
  refine wl (ro_assign rfl) ?_
  refine wl (ro_assign rfl) ?_
  refine wl_nil (x_then (hK17 _ _ ?_))
  clear hK17 K17
  refine c_seq (fun K18 hK18 => ?_)
  refine c_seq (fun K19 hK19 => ?_)
  refine c_reg ?_ -- region 46 ops.go:79
  refine wl (ro_move rfl) ?_
  refine wl (ro_cmp rfl rfl rfl) ?_
  refine wl_nil (x_then (hK19 _ _ ?_))
  clear hK19 K19
  refine wc_condF rfl ?_
  refine c_skip (x_then (hK18 _ _ ?_))
  clear hK18 K18
  refine c_reg ?_ -- region 48 ops.go:82
  refine wl (ro_move rfl) ?_
  refine wl (ro_move rfl) ?_
  refine wl (ro_conv (a := (a.tabs.length : Int)) rfl sc_3 in_117 (Go.IntWalk.u64_in _ (by omega))) ?_
  refine wl (ro_build rfl bld_119_0_1) ?_
  refine wl_pu (vs := [vTab a.tabs.length]) (eo_bsV1 rfl se_83 zx_119) rfl hR.dr hc rfl (by show g.ops.length + 1 ≤ 300; omega) ?_
  intro u2 ow2 x2 f2 r2
  have hs2 := hF.size
  replace hF := vm_trans hX hF f2
  replace hX := hX.trans hs2 x2
  replace hR := r2
  refine wl_nil (x_blk ?_)
  refine bpp_end Tryz.results247 rfl ?_
  exact ⟨{ a with tabs := a.tabs ++ [[]] }, { g with ops := vTab a.tabs.length :: g.ops }, vars, rfl, rfl, rfl, rfl, _, hX, hF, hR⟩
set_option maxHeartbeats 8000000 in
theorem plain_25 (E : PE C fg fc w ow a y gs g vars p ids 25 z) : RetP Tryz.prog 247 [ptr C.E.mb, i64c a.cur, tptr C a.cur, fpt fg gs.length, prt C p, u8n 25, i64c z] w (PlR C fg fc w ow a y gs g (aplain (Psf C.F) 25 z (mkA a y gs g vars))) (AE C (kH a) w ow (aplain (Psf C.F) 25 z (mkA a y gs g vars))) := by
  have hR := E.r
  have hc := E.hc
  have hk := E.hk
  obtain ⟨V, κ, Vv, U, x, f, fs, o⟩ := hR.open hc
  have hX : Xt w ow ow := Xt.refl _ _
  have hF : Fram (tg ow vtT) w w := Fram.refl _ _
  have hol := E.ol
  have hnd := E.nd
  have hzz := E.hz
  obtain ⟨lT, hT, -, -, -, hT2, -⟩ := o.v.thA o.t.hx
  have hT2 := hT2 2 (.inl rfl)
  obtain ⟨lB, hB1, k1, q1, -, -⟩ := o.frow
  obtain ⟨lP, pa, pb, pc, hP, tP, rp, -, -, -⟩ := o.v.pro E.hp
  rw [Nat.zero_add] at rp
  obtain ⟨p0, ids0, n1, n2, n3⟩ := o.ns
  obtain ⟨rfl, rfl⟩ : p = p0 ∧ ids = ids0 := by have := hk.symm.trans n1; simpa using this
  have hwin := o.win n2
  have hln := o.t.ln
  have hsl := o.sl
  obtain ⟨v, l, ho⟩ := ops_1 (l := g.ops) hnd
  have hlo := congrArg List.length ho
  simp only [List.length_cons] at hlo
  have hap : aplain (Psf C.F) 25 z (mkA a y gs g vars) = mkA a y gs { g with ops := l, pc := g.pc + 1 } vars := by
    unfold aplain
    simp only [mk_fr hc, mk_ops hc, mk_pc hc, mk_pro2 hk, mk_slot hc, mk_up hc hk, E.pl, ho, aset_mk]; simp [AS.var, mkA_vars, mk_fr hc, mk_ops hc, mk_pc hc, mkA_tabs, ]
  rw [hap]
  refine retp_of Tryz.func247 rfl Tryz.ntmps247 rfl ?_
  refine c_seq (fun K1 hK1 => ?_)
  refine c_pi [(0, false), (1, false), (2, false), (3, false), (4, false), (5, false), (6, false), (7, false), (8, false), (9, false), (10, false), (11, false), (12, false), (13, false), (14, false), (15, false), (16, false), (17, false), (18, false)] (SameH _) mixed (by kernel_rfl) rfl (by kernel_rfl) (po_then (po_bpp)) (sameH_now _ _) ?_ -- region 0 ops.go:34
  refine pi_ro rfl (fun w hS => ro_move rfl) ?_
  refine pi_ro rfl (fun w hS => ro_nilCheck rfl) ?_
  refine pi_ro rfl (fun w hS => ro_fieldAddr (k := 2) rfl fo_269_2) ?_
  refine pi_ro rfl (fun w hS => ro_loadB rfl sc_83 (Blk.of_heap hT hS) (hT2)) ?_
  refine pi_ro rfl (fun w hS => ro_move rfl) ?_
  refine pi_ro rfl (fun w hS => ro_nilCheck rfl) ?_
  refine pi_ro rfl (fun w hS => ro_fieldAddr (k := 2) rfl fo_331_2) ?_
  refine pi_ro rfl (fun w hS => ro_loadB rfl sc_3 (Blk.of_heap hB1 hS) (frow_at q1 (by decide))) ?_
  refine pi_ro rfl (fun w hS => ro_move rfl) ?_
  refine pi_ro rfl (fun w hS => ro_nilCheck rfl) ?_
  refine pi_ro rfl (fun w hS => ro_fieldAddr (k := 2) rfl fo_331_2) ?_
  refine pi_ro rfl (fun w hS => ro_loadB rfl sc_3 (Blk.of_heap hB1 hS) (frow_at q1 (by decide))) ?_
  refine pi_ro rfl (fun w hS => ro_move rfl) ?_
  refine pi_ro rfl (fun w hS => ro_nilCheck rfl) ?_
  refine pi_ro rfl (fun w hS => ro_fieldAddr (k := 1) rfl fo_258_1) ?_
  refine pi_ro rfl (fun w hS => ro_loadB rfl sc_3 (Blk.of_heap hP hS) (row_get rp (by decide))) ?_
  refine pi_ro rfl (fun w hS => ro_addN rfl rfl (by omega)) ?_
  refine pi_ro rfl (fun w hS => ro_slV hwin rfl rfl rfl se_83) ?_
  refine pi_ro rfl (fun w hS => ro_assign rfl) ?_
  refine pi_nil (x_then (hK1 _ _ ?_))
  clear hK1 K1
  refine forget [(0, _), (1, _), (2, _), (3, _), (4, _), (5, _), (6, _), (14, _)] ⟨rfl, rfl, rfl, rfl, rfl, rfl, rfl, rfl, trivial⟩ (fun e => ?_)
  refine c_seq (fun K2 hK2 => ?_)
  refine c_reg ?_ -- region 1 ops.go:35
  refine wl (ro_move rfl) ?_
  refine wl_nil (x_then (hK2 _ _ ?_))
  clear hK2 K2
  refine c_block ?_
  refine forget [(0, _), (1, _), (2, _), (3, _), (4, _), (5, _), (6, _), (14, _), (53, _)] ⟨rfl, rfl, rfl, rfl, rfl, rfl, rfl, rfl, rfl, trivial⟩ (fun e => ?_)
  refine c_seq (fun K3 hK3 => ?_)
  refine c_reg ?_ -- region 3 ops.go:36
  refine wl (ro_cmp rfl rfl rfl) ?_
  refine wl (ro_assign rfl) ?_
  refine wl_nil (x_then (hK3 _ _ ?_))
  clear hK3 K3
  refine wc_condF rfl ?_
  refine c_seq (fun K4 hK4 => ?_)
  refine c_reg ?_ -- region 5 ops.go:38
  refine wl (ro_cmp rfl rfl rfl) ?_
  refine wl (ro_assign rfl) ?_
  refine wl_nil (x_then (hK4 _ _ ?_))
  clear hK4 K4
  refine wc_condF rfl ?_
  refine c_seq (fun K5 hK5 => ?_)
  refine c_reg ?_ -- region 7 ops.go:40
  refine wl (ro_cmp rfl rfl rfl) ?_
  refine wl (ro_assign rfl) ?_
  refine wl_nil (x_then (hK5 _ _ ?_))
  clear hK5 K5
  refine wc_condF rfl ?_
  refine c_seq (fun K6 hK6 => ?_)
  refine c_reg ?_ -- region 9 ops.go:42
  refine wl (ro_cmp rfl rfl rfl) ?_
  refine wl (ro_assign rfl) ?_
  refine wl_nil (x_then (hK6 _ _ ?_))
  clear hK6 K6
  refine wc_condF rfl ?_
  refine c_seq (fun K7 hK7 => ?_)
  refine c_reg ?_ -- region 11 ops.go:44
  refine wl (ro_cmp rfl rfl rfl) ?_
  refine wl (ro_assign rfl) ?_
  refine wl_nil (x_then (hK7 _ _ ?_))
  clear hK7 K7
  refine wc_condF rfl ?_
  refine c_seq (fun K8 hK8 => ?_)
  refine c_reg ?_ -- region 13 ops.go:46
  refine wl (ro_cmp rfl rfl rfl) ?_
  refine wl (ro_assign rfl) ?_
  refine wl_nil (x_then (hK8 _ _ ?_))
  clear hK8 K8
  refine wc_condF rfl ?_
  refine c_seq (fun K9 hK9 => ?_)
  refine c_reg ?_ -- region 15 ops.go:48
  refine wl (ro_cmp rfl rfl rfl) ?_
  refine wl (ro_assign rfl) ?_
  refine wl_nil (x_then (hK9 _ _ ?_))
  clear hK9 K9
  refine wc_condF rfl ?_
  refine c_seq (fun K10 hK10 => ?_)
  refine c_reg ?_ -- region 18 ops.go:51
  refine wl (ro_cmp rfl rfl rfl) ?_
  refine wl (ro_assign rfl) ?_
  refine wl_nil (x_then (hK10 _ _ ?_))
  clear hK10 K10
  refine wc_condF rfl ?_
  refine c_seq (fun K11 hK11 => ?_)
  refine c_reg ?_ -- region 21 ops.go:54
  refine wl (ro_cmp rfl rfl rfl) ?_
  refine wl (ro_assign rfl) ?_
  refine wl_nil (x_then (hK11 _ _ ?_))
  clear hK11 K11
  refine wc_condF rfl ?_
  refine c_seq (fun K12 hK12 => ?_)
  refine c_reg ?_ -- region 24 ops.go:57
  refine wl (ro_cmp rfl rfl rfl) ?_
  refine wl (ro_assign rfl) ?_
  refine wl_nil (x_then (hK12 _ _ ?_))
  clear hK12 K12
  refine wc_condF rfl ?_
  refine c_seq (fun K13 hK13 => ?_)
  refine c_reg ?_ -- region 27 ops.go:60
  refine wl (ro_cmp rfl rfl rfl) ?_
  refine wl (ro_assign rfl) ?_
  refine wl_nil (x_then (hK13 _ _ ?_))
  clear hK13 K13
  refine wc_condF rfl ?_
  refine c_seq (fun K14 hK14 => ?_)
  refine c_reg ?_ -- region 33 ops.go:66
  refine wl (ro_cmp rfl rfl rfl) ?_
  refine wl (ro_assign rfl) ?_
  refine wl_nil (x_then (hK14 _ _ ?_))
  clear hK14 K14
  refine wc_condF rfl ?_
  refine c_seq (fun K15 hK15 => ?_)
  refine c_reg ?_ -- region 39 ops.go:72
  refine wl (ro_cmp rfl rfl rfl) ?_
  refine wl (ro_assign rfl) ?_
  refine wl_nil (x_then (hK15 _ _ ?_))
  clear hK15 K15
  refine wc_condF rfl ?_
  refine c_seq (fun K16 hK16 => ?_)
  refine c_reg ?_ -- region 44 ops.go:77
  refine wl (ro_cmp rfl rfl rfl) ?_
  refine wl (ro_assign rfl) ?_
  refine wl_nil (x_then (hK16 _ _ ?_))
  clear hK16 K16
  refine wc_condF rfl ?_
  refine c_seq (fun K17 hK17 => ?_)
  refine c_reg ?_ -- region 49 ops.go:83
  refine wl (ro_cmp rfl rfl rfl) ?_
  refine wl (ro_assign rfl) ?_
  refine wl_nil (x_then (hK17 _ _ ?_))
  clear hK17 K17
  refine wc_condT rfl ?_
  refine c_reg ?_ -- region 50 ops.go:84
  refine wl (ro_move rfl) ?_
  refine wl_call rfl en_244 (popA hR.dr hc ho (by omega)) ?_
  rintro _ u1 ⟨rfl, ow1, x1, f1, r1⟩
  have hs1 := hF.size
  replace hF := vm_trans hX hF f1
  replace hX := hX.trans hs1 x1
  replace hR := r1
  refine wl_nil (x_blk ?_)
  refine bpp_end Tryz.results247 rfl ?_
  exact ⟨a, { g with ops := l }, vars, rfl, rfl, rfl, rfl, _, hX, hF, hR⟩
set_option maxHeartbeats 8000000 in
theorem plain_28a (E : PE C fg fc w ow a y gs g vars p ids 28 z) (h24 : 24 ≤ a.clos.length) : RetP Tryz.prog 247 [ptr C.E.mb, i64c a.cur, tptr C a.cur, fpt fg gs.length, prt C p, u8n 28, i64c z] w (PlR C fg fc w ow a y gs g (aplain (Psf C.F) 28 z (mkA a y gs g vars))) (AE C (kH a) w ow (aplain (Psf C.F) 28 z (mkA a y gs g vars))) := by
  have hR := E.r
  have hc := E.hc
  have hk := E.hk
  obtain ⟨V, κ, Vv, U, x, f, fs, o⟩ := hR.open hc
  have hX : Xt w ow ow := Xt.refl _ _
  have hF : Fram (tg ow vtT) w w := Fram.refl _ _
  have hol := E.ol
  have hnd := E.nd
  have hzz := E.hz
  obtain ⟨lT, hT, -, -, -, hT2, -⟩ := o.v.thA o.t.hx
  have hT2 := hT2 2 (.inl rfl)
  obtain ⟨lB, hB1, k1, q1, -, -⟩ := o.frow
  obtain ⟨lP, pa, pb, pc, hP, tP, rp, -, -, -⟩ := o.v.pro E.hp
  rw [Nat.zero_add] at rp
  obtain ⟨p0, ids0, n1, n2, n3⟩ := o.ns
  obtain ⟨rfl, rfl⟩ : p = p0 ∧ ids = ids0 := by have := hk.symm.trans n1; simpa using this
  have hwin := o.win n2
  have hln := o.t.ln
  have hsl := o.sl
  have hap : aplain (Psf C.F) 28 z (mkA a y gs g vars) = afin 8 [45] (mkA a y gs g vars) := by
    unfold aplain
    simp only [mk_fr hc, mk_pro2 hk, E.pl]
    simp only [Nat.reduceEqDiff, if_false, if_true]
    exact if_pos h24
  rw [hap]
  refine retp_of Tryz.func247 rfl Tryz.ntmps247 rfl ?_
  refine c_seq (fun K1 hK1 => ?_)
  refine c_pi [(0, false), (1, false), (2, false), (3, false), (4, false), (5, false), (6, false), (7, false), (8, false), (9, false), (10, false), (11, false), (12, false), (13, false), (14, false), (15, false), (16, false), (17, false), (18, false)] (SameH _) mixed (by kernel_rfl) rfl (by kernel_rfl) (po_then (po_bpp)) (sameH_now _ _) ?_ -- region 0 ops.go:34
  refine pi_ro rfl (fun w hS => ro_move rfl) ?_
  refine pi_ro rfl (fun w hS => ro_nilCheck rfl) ?_
  refine pi_ro rfl (fun w hS => ro_fieldAddr (k := 2) rfl fo_269_2) ?_
  refine pi_ro rfl (fun w hS => ro_loadB rfl sc_83 (Blk.of_heap hT hS) (hT2)) ?_
  refine pi_ro rfl (fun w hS => ro_move rfl) ?_
  refine pi_ro rfl (fun w hS => ro_nilCheck rfl) ?_
  refine pi_ro rfl (fun w hS => ro_fieldAddr (k := 2) rfl fo_331_2) ?_
  refine pi_ro rfl (fun w hS => ro_loadB rfl sc_3 (Blk.of_heap hB1 hS) (frow_at q1 (by decide))) ?_
  refine pi_ro rfl (fun w hS => ro_move rfl) ?_
  refine pi_ro rfl (fun w hS => ro_nilCheck rfl) ?_
  refine pi_ro rfl (fun w hS => ro_fieldAddr (k := 2) rfl fo_331_2) ?_
  refine pi_ro rfl (fun w hS => ro_loadB rfl sc_3 (Blk.of_heap hB1 hS) (frow_at q1 (by decide))) ?_
  refine pi_ro rfl (fun w hS => ro_move rfl) ?_
  refine pi_ro rfl (fun w hS => ro_nilCheck rfl) ?_
  refine pi_ro rfl (fun w hS => ro_fieldAddr (k := 1) rfl fo_258_1) ?_
  refine pi_ro rfl (fun w hS => ro_loadB rfl sc_3 (Blk.of_heap hP hS) (row_get rp (by decide))) ?_
  refine pi_ro rfl (fun w hS => ro_addN rfl rfl (by omega)) ?_
  refine pi_ro rfl (fun w hS => ro_slV hwin rfl rfl rfl se_83) ?_
  refine pi_ro rfl (fun w hS => ro_assign rfl) ?_
  refine pi_nil (x_then (hK1 _ _ ?_))
  clear hK1 K1
  refine forget [(0, _), (1, _), (2, _), (3, _), (4, _), (5, _), (6, _), (14, _)] ⟨rfl, rfl, rfl, rfl, rfl, rfl, rfl, rfl, trivial⟩ (fun e => ?_)
  refine c_seq (fun K2 hK2 => ?_)
  refine c_reg ?_ -- region 1 ops.go:35
  refine wl (ro_move rfl) ?_
  refine wl_nil (x_then (hK2 _ _ ?_))
  clear hK2 K2
  refine c_block ?_
  refine forget [(0, _), (1, _), (2, _), (3, _), (4, _), (5, _), (6, _), (14, _), (53, _)] ⟨rfl, rfl, rfl, rfl, rfl, rfl, rfl, rfl, rfl, trivial⟩ (fun e => ?_)
  refine c_seq (fun K3 hK3 => ?_)
  refine c_reg ?_ -- region 3 ops.go:36
  refine wl (ro_cmp rfl rfl rfl) ?_
  refine wl (ro_assign rfl) ?_
  refine wl_nil (x_then (hK3 _ _ ?_))
  clear hK3 K3
  refine wc_condF rfl ?_
  refine c_seq (fun K4 hK4 => ?_)
  refine c_reg ?_ -- region 5 ops.go:38
  refine wl (ro_cmp rfl rfl rfl) ?_
  refine wl (ro_assign rfl) ?_
  refine wl_nil (x_then (hK4 _ _ ?_))
  clear hK4 K4
  refine wc_condF rfl ?_
  refine c_seq (fun K5 hK5 => ?_)
  refine c_reg ?_ -- region 7 ops.go:40
  refine wl (ro_cmp rfl rfl rfl) ?_
  refine wl (ro_assign rfl) ?_
  refine wl_nil (x_then (hK5 _ _ ?_))
  clear hK5 K5
  refine wc_condF rfl ?_
  refine c_seq (fun K6 hK6 => ?_)
  refine c_reg ?_ -- region 9 ops.go:42
  refine wl (ro_cmp rfl rfl rfl) ?_
  refine wl (ro_assign rfl) ?_
  refine wl_nil (x_then (hK6 _ _ ?_))
  clear hK6 K6
  refine wc_condF rfl ?_
  refine c_seq (fun K7 hK7 => ?_)
  refine c_reg ?_ -- region 11 ops.go:44
  refine wl (ro_cmp rfl rfl rfl) ?_
  refine wl (ro_assign rfl) ?_
  refine wl_nil (x_then (hK7 _ _ ?_))
  clear hK7 K7
  refine wc_condF rfl ?_
  refine c_seq (fun K8 hK8 => ?_)
  refine c_reg ?_ -- region 13 ops.go:46
  refine wl (ro_cmp rfl rfl rfl) ?_
  refine wl (ro_assign rfl) ?_
  refine wl_nil (x_then (hK8 _ _ ?_))
  clear hK8 K8
  refine wc_condF rfl ?_
  refine c_seq (fun K9 hK9 => ?_)
  refine c_reg ?_ -- region 15 ops.go:48
  refine wl (ro_cmp rfl rfl rfl) ?_
  refine wl (ro_assign rfl) ?_
  refine wl_nil (x_then (hK9 _ _ ?_))
  clear hK9 K9
  refine wc_condF rfl ?_
  refine c_seq (fun K10 hK10 => ?_)
  refine c_reg ?_ -- region 18 ops.go:51
  refine wl (ro_cmp rfl rfl rfl) ?_
  refine wl (ro_assign rfl) ?_
  refine wl_nil (x_then (hK10 _ _ ?_))
  clear hK10 K10
  refine wc_condF rfl ?_
  refine c_seq (fun K11 hK11 => ?_)
  refine c_reg ?_ -- region 21 ops.go:54
  refine wl (ro_cmp rfl rfl rfl) ?_
  refine wl (ro_assign rfl) ?_
  refine wl_nil (x_then (hK11 _ _ ?_))
  clear hK11 K11
  refine wc_condF rfl ?_
  refine c_seq (fun K12 hK12 => ?_)
  refine c_reg ?_ -- region 24 ops.go:57
  refine wl (ro_cmp rfl rfl rfl) ?_
  refine wl (ro_assign rfl) ?_
  refine wl_nil (x_then (hK12 _ _ ?_))
  clear hK12 K12
  refine wc_condF rfl ?_
  refine c_seq (fun K13 hK13 => ?_)
  refine c_reg ?_ -- region 27 ops.go:60
  refine wl (ro_cmp rfl rfl rfl) ?_
  refine wl (ro_assign rfl) ?_
  refine wl_nil (x_then (hK13 _ _ ?_))
  clear hK13 K13
  refine wc_condF rfl ?_
  refine c_seq (fun K14 hK14 => ?_)
  refine c_reg ?_ -- region 33 ops.go:66
  refine wl (ro_cmp rfl rfl rfl) ?_
  refine wl (ro_assign rfl) ?_
  refine wl_nil (x_then (hK14 _ _ ?_))
  clear hK14 K14
  refine wc_condF rfl ?_
  refine c_seq (fun K15 hK15 => ?_)
  refine c_reg ?_ -- region 39 ops.go:72
  refine wl (ro_cmp rfl rfl rfl) ?_
  refine wl (ro_assign rfl) ?_
  refine wl_nil (x_then (hK15 _ _ ?_))
  clear hK15 K15
  refine wc_condF rfl ?_
  refine c_seq (fun K16 hK16 => ?_)
  refine c_reg ?_ -- region 44 ops.go:77
  refine wl (ro_cmp rfl rfl rfl) ?_
  refine wl (ro_assign rfl) ?_
  refine wl_nil (x_then (hK16 _ _ ?_))
  clear hK16 K16
  refine wc_condF rfl ?_
  refine c_seq (fun K17 hK17 => ?_)
  refine c_reg ?_ -- region 49 ops.go:83
  refine wl (ro_cmp rfl rfl rfl) ?_
  refine wl (ro_assign rfl) ?_
  refine wl_nil (x_then (hK17 _ _ ?_))
  clear hK17 K17
  refine wc_condF rfl ?_
  refine c_seq (fun K18 hK18 => ?_)
  refine c_reg ?_ -- region 51 ops.go:85
  refine wl (ro_cmp rfl rfl rfl) ?_
  refine wl (ro_assign rfl) ?_
  refine wl_nil (x_then (hK18 _ _ ?_))
  clear hK18 K18
  refine wc_condT rfl ?_
  refine c_seq (fun K19 hK19 => ?_)
  refine c_reg ?_ -- region 52 ops.go:86
  refine wl (ro_move rfl) ?_
  refine wl (ro_move rfl) ?_
  refine wl (ro_move rfl) ?_
  refine wl (ro_move rfl) ?_
  refine wl (ro_move rfl) ?_
  refine wl_callP rfl en_273 (closN hR.dr hc h24) (fun pv w9 hE => bpp_pan (P := Tryz.prog) (fn := Tryz.f247) (AE.stop hX hF hR.q hE (ATr.of rfl))) ?_
  rintro _ _ ⟨⟩
set_option maxHeartbeats 8000000 in
theorem plain_28b (E : PE C fg fc w ow a y gs g vars p ids 28 z) (h24 : a.clos.length < 24) : RetP Tryz.prog 247 [ptr C.E.mb, i64c a.cur, tptr C a.cur, fpt fg gs.length, prt C p, u8n 28, i64c z] w (PlR C fg fc w ow a y gs g (aplain (Psf C.F) 28 z (mkA a y gs g vars))) (AE C (kH a) w ow (aplain (Psf C.F) 28 z (mkA a y gs g vars))) := by
  have hR := E.r
  have hc := E.hc
  have hk := E.hk
  obtain ⟨V, κ, Vv, U, x, f, fs, o⟩ := hR.open hc
  have hX : Xt w ow ow := Xt.refl _ _
  have hF : Fram (tg ow vtT) w w := Fram.refl _ _
  have hol := E.ol
  have hnd := E.nd
  have hzz := E.hz
  obtain ⟨lT, hT, -, -, -, hT2, -⟩ := o.v.thA o.t.hx
  have hT2 := hT2 2 (.inl rfl)
  obtain ⟨lB, hB1, k1, q1, -, -⟩ := o.frow
  obtain ⟨lP, pa, pb, pc, hP, tP, rp, -, -, -⟩ := o.v.pro E.hp
  rw [Nat.zero_add] at rp
  obtain ⟨p0, ids0, n1, n2, n3⟩ := o.ns
  obtain ⟨rfl, rfl⟩ : p = p0 ∧ ids = ids0 := by have := hk.symm.trans n1; simpa using this
  have hwin := o.win n2
  have hln := o.t.ln
  have hsl := o.sl
  obtain ⟨hq, hd⟩ := E.sn.r.2.2.2.2.2.2.2.2.2.2.2.2 rfl
  rw [E.pr, pr_psf, E.id] at hd
  have hq : z < C.F.length := by unfold Psf at hq; rw [List.length_map] at hq; exact hq
  have hd : ∀ d ∈ (fsAt C.F z).ups, (d.1 = 1 ∧ d.2 < g.slots.length) ∨ (d.1 = 0 ∧ d.2 < ids.length) := by rw [n2]; exact hd
  have hap : aplain (Psf C.F) 28 z (mkA a y gs g vars) = mkA { a with clos := a.clos ++ [(z, aups (mkA a y gs g vars) (fsAt C.F z).ups)] } y gs { g with ops := vFun a.clos.length :: g.ops, pc := g.pc + 1 } vars := by
    unfold aplain
    simp only [mk_fr hc, mk_pro2 hk, E.pl]
    simp only [Nat.reduceEqDiff, if_false, if_true]
    rw [psf_ups]
    exact (if_neg (show ¬ 24 ≤ a.clos.length by omega)).trans (nx_clos hc _ _)
  rw [hap]
  refine retp_of Tryz.func247 rfl Tryz.ntmps247 rfl ?_
  refine c_seq (fun K1 hK1 => ?_)
  refine c_pi [(0, false), (1, false), (2, false), (3, false), (4, false), (5, false), (6, false), (7, false), (8, false), (9, false), (10, false), (11, false), (12, false), (13, false), (14, false), (15, false), (16, false), (17, false), (18, false)] (SameH _) mixed (by kernel_rfl) rfl (by kernel_rfl) (po_then (po_bpp)) (sameH_now _ _) ?_ -- region 0 ops.go:34
  refine pi_ro rfl (fun w hS => ro_move rfl) ?_
  refine pi_ro rfl (fun w hS => ro_nilCheck rfl) ?_
  refine pi_ro rfl (fun w hS => ro_fieldAddr (k := 2) rfl fo_269_2) ?_
  refine pi_ro rfl (fun w hS => ro_loadB rfl sc_83 (Blk.of_heap hT hS) (hT2)) ?_
  refine pi_ro rfl (fun w hS => ro_move rfl) ?_
  refine pi_ro rfl (fun w hS => ro_nilCheck rfl) ?_
  refine pi_ro rfl (fun w hS => ro_fieldAddr (k := 2) rfl fo_331_2) ?_
  refine pi_ro rfl (fun w hS => ro_loadB rfl sc_3 (Blk.of_heap hB1 hS) (frow_at q1 (by decide))) ?_
  refine pi_ro rfl (fun w hS => ro_move rfl) ?_
  refine pi_ro rfl (fun w hS => ro_nilCheck rfl) ?_
  refine pi_ro rfl (fun w hS => ro_fieldAddr (k := 2) rfl fo_331_2) ?_
  refine pi_ro rfl (fun w hS => ro_loadB rfl sc_3 (Blk.of_heap hB1 hS) (frow_at q1 (by decide))) ?_
  refine pi_ro rfl (fun w hS => ro_move rfl) ?_
  refine pi_ro rfl (fun w hS => ro_nilCheck rfl) ?_
  refine pi_ro rfl (fun w hS => ro_fieldAddr (k := 1) rfl fo_258_1) ?_
  refine pi_ro rfl (fun w hS => ro_loadB rfl sc_3 (Blk.of_heap hP hS) (row_get rp (by decide))) ?_
  refine pi_ro rfl (fun w hS => ro_addN rfl rfl (by omega)) ?_
  refine pi_ro rfl (fun w hS => ro_slV hwin rfl rfl rfl se_83) ?_
  refine pi_ro rfl (fun w hS => ro_assign rfl) ?_
  refine pi_nil (x_then (hK1 _ _ ?_))
  clear hK1 K1
  refine forget [(0, _), (1, _), (2, _), (3, _), (4, _), (5, _), (6, _), (14, _)] ⟨rfl, rfl, rfl, rfl, rfl, rfl, rfl, rfl, trivial⟩ (fun e => ?_)
  refine c_seq (fun K2 hK2 => ?_)
  refine c_reg ?_ -- region 1 ops.go:35
  refine wl (ro_move rfl) ?_
  refine wl_nil (x_then (hK2 _ _ ?_))
  clear hK2 K2
  refine c_block ?_
  refine forget [(0, _), (1, _), (2, _), (3, _), (4, _), (5, _), (6, _), (14, _), (53, _)] ⟨rfl, rfl, rfl, rfl, rfl, rfl, rfl, rfl, rfl, trivial⟩ (fun e => ?_)
  refine c_seq (fun K3 hK3 => ?_)
  refine c_reg ?_ -- region 3 ops.go:36
  refine wl (ro_cmp rfl rfl rfl) ?_
  refine wl (ro_assign rfl) ?_
  refine wl_nil (x_then (hK3 _ _ ?_))
  clear hK3 K3
  refine wc_condF rfl ?_
  refine c_seq (fun K4 hK4 => ?_)
  refine c_reg ?_ -- region 5 ops.go:38
  refine wl (ro_cmp rfl rfl rfl) ?_
  refine wl (ro_assign rfl) ?_
  refine wl_nil (x_then (hK4 _ _ ?_))
  clear hK4 K4
  refine wc_condF rfl ?_
  refine c_seq (fun K5 hK5 => ?_)
  refine c_reg ?_ -- region 7 ops.go:40
  refine wl (ro_cmp rfl rfl rfl) ?_
  refine wl (ro_assign rfl) ?_
  refine wl_nil (x_then (hK5 _ _ ?_))
  clear hK5 K5
  refine wc_condF rfl ?_
  refine c_seq (fun K6 hK6 => ?_)
  refine c_reg ?_ -- region 9 ops.go:42
  refine wl (ro_cmp rfl rfl rfl) ?_
  refine wl (ro_assign rfl) ?_
  refine wl_nil (x_then (hK6 _ _ ?_))
  clear hK6 K6
  refine wc_condF rfl ?_
  refine c_seq (fun K7 hK7 => ?_)
  refine c_reg ?_ -- region 11 ops.go:44
  refine wl (ro_cmp rfl rfl rfl) ?_
  refine wl (ro_assign rfl) ?_
  refine wl_nil (x_then (hK7 _ _ ?_))
  clear hK7 K7
  refine wc_condF rfl ?_
  refine c_seq (fun K8 hK8 => ?_)
  refine c_reg ?_ -- region 13 ops.go:46
  refine wl (ro_cmp rfl rfl rfl) ?_
  refine wl (ro_assign rfl) ?_
  refine wl_nil (x_then (hK8 _ _ ?_))
  clear hK8 K8
  refine wc_condF rfl ?_
  refine c_seq (fun K9 hK9 => ?_)
  refine c_reg ?_ -- region 15 ops.go:48
  refine wl (ro_cmp rfl rfl rfl) ?_
  refine wl (ro_assign rfl) ?_
  refine wl_nil (x_then (hK9 _ _ ?_))
  clear hK9 K9
  refine wc_condF rfl ?_
  refine c_seq (fun K10 hK10 => ?_)
  refine c_reg ?_ -- region 18 ops.go:51
  refine wl (ro_cmp rfl rfl rfl) ?_
  refine wl (ro_assign rfl) ?_
  refine wl_nil (x_then (hK10 _ _ ?_))
  clear hK10 K10
  refine wc_condF rfl ?_
  refine c_seq (fun K11 hK11 => ?_)
  refine c_reg ?_ -- region 21 ops.go:54
  refine wl (ro_cmp rfl rfl rfl) ?_
  refine wl (ro_assign rfl) ?_
  refine wl_nil (x_then (hK11 _ _ ?_))
  clear hK11 K11
  refine wc_condF rfl ?_
  refine c_seq (fun K12 hK12 => ?_)
  refine c_reg ?_ -- region 24 ops.go:57
  refine wl (ro_cmp rfl rfl rfl) ?_
  refine wl (ro_assign rfl) ?_
  refine wl_nil (x_then (hK12 _ _ ?_))
  clear hK12 K12
  refine wc_condF rfl ?_
  refine c_seq (fun K13 hK13 => ?_)
  refine c_reg ?_ -- region 27 ops.go:60
  refine wl (ro_cmp rfl rfl rfl) ?_
  refine wl (ro_assign rfl) ?_
  refine wl_nil (x_then (hK13 _ _ ?_))
  clear hK13 K13
  refine wc_condF rfl ?_
  refine c_seq (fun K14 hK14 => ?_)
  refine c_reg ?_ -- region 33 ops.go:66
  refine wl (ro_cmp rfl rfl rfl) ?_
  refine wl (ro_assign rfl) ?_
  refine wl_nil (x_then (hK14 _ _ ?_))
  clear hK14 K14
  refine wc_condF rfl ?_
  refine c_seq (fun K15 hK15 => ?_)
  refine c_reg ?_ -- region 39 ops.go:72
  refine wl (ro_cmp rfl rfl rfl) ?_
  refine wl (ro_assign rfl) ?_
  refine wl_nil (x_then (hK15 _ _ ?_))
  clear hK15 K15
  refine wc_condF rfl ?_
  refine c_seq (fun K16 hK16 => ?_)
  refine c_reg ?_ -- region 44 ops.go:77
  refine wl (ro_cmp rfl rfl rfl) ?_
  refine wl (ro_assign rfl) ?_
  refine wl_nil (x_then (hK16 _ _ ?_))
  clear hK16 K16
  refine wc_condF rfl ?_
  refine c_seq (fun K17 hK17 => ?_)
  refine c_reg ?_ -- region 49 ops.go:83
  refine wl (ro_cmp rfl rfl rfl) ?_
  refine wl (ro_assign rfl) ?_
  refine wl_nil (x_then (hK17 _ _ ?_))
  clear hK17 K17
  refine wc_condF rfl ?_
  refine c_seq (fun K18 hK18 => ?_)
  refine c_reg ?_ -- region 51 ops.go:85
  refine wl (ro_cmp rfl rfl rfl) ?_
  refine wl (ro_assign rfl) ?_
  refine wl_nil (x_then (hK18 _ _ ?_))
  clear hK18 K18
  refine wc_condT rfl ?_
  refine c_seq (fun K19 hK19 => ?_)
  refine c_reg ?_ -- region 52 ops.go:86
  refine wl (ro_move rfl) ?_
  refine wl (ro_move rfl) ?_
  refine wl (ro_move rfl) ?_
  refine wl (ro_move rfl) ?_
  refine wl (ro_move rfl) ?_
  refine wl_call rfl en_273 (closA' hR.dr hc hk h24 hq hd) ?_
  rintro _ u1 ⟨rfl, ow1, x1, f1, r1⟩
  have hs1 := hF.size
  replace hF := vm_trans hX hF f1
  replace hX := hX.trans hs1 x1
  replace hR := r1
  refine wl (ro_assign rfl) ?_
  refine wl_nil (x_then (hK19 _ _ ?_))
  clear hK19 K19
  refine c_reg ?_ -- region 53 ops.go:87
  refine wl (ro_move rfl) ?_
  refine wl (ro_move rfl) ?_
  refine wl (ro_conv (a := (a.clos.length : Int)) rfl sc_3 in_117 (Go.IntWalk.u64_in _ (by omega))) ?_
  refine wl (ro_build rfl bld_119_0_1) ?_
  refine wl_pu (vs := [vFun a.clos.length]) (eo_bsV1 rfl se_83 zx_119) rfl hR.dr hc rfl (by show g.ops.length + 1 ≤ 300; omega) ?_
  intro u2 ow2 x2 f2 r2
  have hs2 := hF.size
  replace hF := vm_trans hX hF f2
  replace hX := hX.trans hs2 x2
  replace hR := r2
  refine wl_nil (x_blk ?_)
  refine bpp_end Tryz.results247 rfl ?_
  exact ⟨{ a with clos := a.clos ++ [(z, aups (mkA a y gs g vars) (fsAt C.F z).ups)] }, { g with ops := vFun a.clos.length :: g.ops }, vars, rfl, rfl, rfl, rfl, _, hX, hF, hR⟩
set_option maxHeartbeats 8000000 in
theorem plain_29 (E : PE C fg fc w ow a y gs g vars p ids 29 z) : RetP Tryz.prog 247 [ptr C.E.mb, i64c a.cur, tptr C a.cur, fpt fg gs.length, prt C p, u8n 29, i64c z] w (PlR C fg fc w ow a y gs g (aplain (Psf C.F) 29 z (mkA a y gs g vars))) (AE C (kH a) w ow (aplain (Psf C.F) 29 z (mkA a y gs g vars))) := by
  have hR := E.r
  have hc := E.hc
  have hk := E.hk
  obtain ⟨V, κ, Vv, U, x, f, fs, o⟩ := hR.open hc
  have hX : Xt w ow ow := Xt.refl _ _
  have hF : Fram (tg ow vtT) w w := Fram.refl _ _
  have hol := E.ol
  have hnd := E.nd
  have hzz := E.hz
  obtain ⟨lT, hT, -, -, -, hT2, -⟩ := o.v.thA o.t.hx
  have hT2 := hT2 2 (.inl rfl)
  obtain ⟨lB, hB1, k1, q1, -, -⟩ := o.frow
  obtain ⟨lP, pa, pb, pc, hP, tP, rp, -, -, -⟩ := o.v.pro E.hp
  rw [Nat.zero_add] at rp
  obtain ⟨p0, ids0, n1, n2, n3⟩ := o.ns
  obtain ⟨rfl, rfl⟩ : p = p0 ∧ ids = ids0 := by have := hk.symm.trans n1; simpa using this
  have hwin := o.win n2
  have hln := o.t.ln
  have hsl := o.sl
  have hz9 : z ≤ g.slots.length := by have := E.sn.r.2.2.2.2.2.2.2.2.2.1 rfl; rw [E.pr] at this; rw [n2]; exact this
  have hap : aplain (Psf C.F) 29 z (mkA a y gs g vars) = mkA a y gs { g with slots := g.slots.take z ++ (List.range (g.slots.length - z)).map (vars.length + ·), pc := g.pc + 1 } (vars ++ (g.slots.drop z).map fun s => vars.getD s vNil) := by
    unfold aplain
    simp only [mk_fr hc, mk_pro2 hk, E.pl, aclose_mk hc]
    simp only [Nat.reduceEqDiff, if_false, if_true, mk_fr hc, mk_ops hc, mk_pc hc]
  rw [hap]
  refine retp_of Tryz.func247 rfl Tryz.ntmps247 rfl ?_
  refine c_seq (fun K1 hK1 => ?_)
  refine c_pi [(0, false), (1, false), (2, false), (3, false), (4, false), (5, false), (6, false), (7, false), (8, false), (9, false), (10, false), (11, false), (12, false), (13, false), (14, false), (15, false), (16, false), (17, false), (18, false)] (SameH _) mixed (by kernel_rfl) rfl (by kernel_rfl) (po_then (po_bpp)) (sameH_now _ _) ?_ -- region 0 ops.go:34
  refine pi_ro rfl (fun w hS => ro_move rfl) ?_
  refine pi_ro rfl (fun w hS => ro_nilCheck rfl) ?_
  refine pi_ro rfl (fun w hS => ro_fieldAddr (k := 2) rfl fo_269_2) ?_
  refine pi_ro rfl (fun w hS => ro_loadB rfl sc_83 (Blk.of_heap hT hS) (hT2)) ?_
  refine pi_ro rfl (fun w hS => ro_move rfl) ?_
  refine pi_ro rfl (fun w hS => ro_nilCheck rfl) ?_
  refine pi_ro rfl (fun w hS => ro_fieldAddr (k := 2) rfl fo_331_2) ?_
  refine pi_ro rfl (fun w hS => ro_loadB rfl sc_3 (Blk.of_heap hB1 hS) (frow_at q1 (by decide))) ?_
  refine pi_ro rfl (fun w hS => ro_move rfl) ?_
  refine pi_ro rfl (fun w hS => ro_nilCheck rfl) ?_
  refine pi_ro rfl (fun w hS => ro_fieldAddr (k := 2) rfl fo_331_2) ?_
  refine pi_ro rfl (fun w hS => ro_loadB rfl sc_3 (Blk.of_heap hB1 hS) (frow_at q1 (by decide))) ?_
  refine pi_ro rfl (fun w hS => ro_move rfl) ?_
  refine pi_ro rfl (fun w hS => ro_nilCheck rfl) ?_
  refine pi_ro rfl (fun w hS => ro_fieldAddr (k := 1) rfl fo_258_1) ?_
  refine pi_ro rfl (fun w hS => ro_loadB rfl sc_3 (Blk.of_heap hP hS) (row_get rp (by decide))) ?_
  refine pi_ro rfl (fun w hS => ro_addN rfl rfl (by omega)) ?_
  refine pi_ro rfl (fun w hS => ro_slV hwin rfl rfl rfl se_83) ?_
  refine pi_ro rfl (fun w hS => ro_assign rfl) ?_
  refine pi_nil (x_then (hK1 _ _ ?_))
  clear hK1 K1
  refine forget [(0, _), (1, _), (2, _), (3, _), (4, _), (5, _), (6, _), (14, _)] ⟨rfl, rfl, rfl, rfl, rfl, rfl, rfl, rfl, trivial⟩ (fun e => ?_)
  refine c_seq (fun K2 hK2 => ?_)
  refine c_reg ?_ -- region 1 ops.go:35
  refine wl (ro_move rfl) ?_
  refine wl_nil (x_then (hK2 _ _ ?_))
  clear hK2 K2
  refine c_block ?_
  refine forget [(0, _), (1, _), (2, _), (3, _), (4, _), (5, _), (6, _), (14, _), (53, _)] ⟨rfl, rfl, rfl, rfl, rfl, rfl, rfl, rfl, rfl, trivial⟩ (fun e => ?_)
  refine c_seq (fun K3 hK3 => ?_)
  refine c_reg ?_ -- region 3 ops.go:36
  refine wl (ro_cmp rfl rfl rfl) ?_
  refine wl (ro_assign rfl) ?_
  refine wl_nil (x_then (hK3 _ _ ?_))
  clear hK3 K3
  refine wc_condF rfl ?_
  refine c_seq (fun K4 hK4 => ?_)
  refine c_reg ?_ -- region 5 ops.go:38
  refine wl (ro_cmp rfl rfl rfl) ?_
  refine wl (ro_assign rfl) ?_
  refine wl_nil (x_then (hK4 _ _ ?_))
  clear hK4 K4
  refine wc_condF rfl ?_
  refine c_seq (fun K5 hK5 => ?_)
  refine c_reg ?_ -- region 7 ops.go:40
  refine wl (ro_cmp rfl rfl rfl) ?_
  refine wl (ro_assign rfl) ?_
  refine wl_nil (x_then (hK5 _ _ ?_))
  clear hK5 K5
  refine wc_condF rfl ?_
  refine c_seq (fun K6 hK6 => ?_)
  refine c_reg ?_ -- region 9 ops.go:42
  refine wl (ro_cmp rfl rfl rfl) ?_
  refine wl (ro_assign rfl) ?_
  refine wl_nil (x_then (hK6 _ _ ?_))
  clear hK6 K6
  refine wc_condF rfl ?_
  refine c_seq (fun K7 hK7 => ?_)
  refine c_reg ?_ -- region 11 ops.go:44
  refine wl (ro_cmp rfl rfl rfl) ?_
  refine wl (ro_assign rfl) ?_
  refine wl_nil (x_then (hK7 _ _ ?_))
  clear hK7 K7
  refine wc_condF rfl ?_
  refine c_seq (fun K8 hK8 => ?_)
  refine c_reg ?_ -- region 13 ops.go:46
  refine wl (ro_cmp rfl rfl rfl) ?_
  refine wl (ro_assign rfl) ?_
  refine wl_nil (x_then (hK8 _ _ ?_))
  clear hK8 K8
  refine wc_condF rfl ?_
  refine c_seq (fun K9 hK9 => ?_)
  refine c_reg ?_ -- region 15 ops.go:48
  refine wl (ro_cmp rfl rfl rfl) ?_
  refine wl (ro_assign rfl) ?_
  refine wl_nil (x_then (hK9 _ _ ?_))
  clear hK9 K9
  refine wc_condF rfl ?_
  refine c_seq (fun K10 hK10 => ?_)
  refine c_reg ?_ -- region 18 ops.go:51
  refine wl (ro_cmp rfl rfl rfl) ?_
  refine wl (ro_assign rfl) ?_
  refine wl_nil (x_then (hK10 _ _ ?_))
  clear hK10 K10
  refine wc_condF rfl ?_
  refine c_seq (fun K11 hK11 => ?_)
  refine c_reg ?_ -- region 21 ops.go:54
  refine wl (ro_cmp rfl rfl rfl) ?_
  refine wl (ro_assign rfl) ?_
  refine wl_nil (x_then (hK11 _ _ ?_))
  clear hK11 K11
  refine wc_condF rfl ?_
  refine c_seq (fun K12 hK12 => ?_)
  refine c_reg ?_ -- region 24 ops.go:57
  refine wl (ro_cmp rfl rfl rfl) ?_
  refine wl (ro_assign rfl) ?_
  refine wl_nil (x_then (hK12 _ _ ?_))
  clear hK12 K12
  refine wc_condF rfl ?_
  refine c_seq (fun K13 hK13 => ?_)
  refine c_reg ?_ -- region 27 ops.go:60
  refine wl (ro_cmp rfl rfl rfl) ?_
  refine wl (ro_assign rfl) ?_
  refine wl_nil (x_then (hK13 _ _ ?_))
  clear hK13 K13
  refine wc_condF rfl ?_
  refine c_seq (fun K14 hK14 => ?_)
  refine c_reg ?_ -- region 33 ops.go:66
  refine wl (ro_cmp rfl rfl rfl) ?_
  refine wl (ro_assign rfl) ?_
  refine wl_nil (x_then (hK14 _ _ ?_))
  clear hK14 K14
  refine wc_condF rfl ?_
  refine c_seq (fun K15 hK15 => ?_)
  refine c_reg ?_ -- region 39 ops.go:72
  refine wl (ro_cmp rfl rfl rfl) ?_
  refine wl (ro_assign rfl) ?_
  refine wl_nil (x_then (hK15 _ _ ?_))
  clear hK15 K15
  refine wc_condF rfl ?_
  refine c_seq (fun K16 hK16 => ?_)
  refine c_reg ?_ -- region 44 ops.go:77
  refine wl (ro_cmp rfl rfl rfl) ?_
  refine wl (ro_assign rfl) ?_
  refine wl_nil (x_then (hK16 _ _ ?_))
  clear hK16 K16
  refine wc_condF rfl ?_
  refine c_seq (fun K17 hK17 => ?_)
  refine c_reg ?_ -- region 49 ops.go:83
  refine wl (ro_cmp rfl rfl rfl) ?_
  refine wl (ro_assign rfl) ?_
  refine wl_nil (x_then (hK17 _ _ ?_))
  clear hK17 K17
  refine wc_condF rfl ?_
  refine c_seq (fun K18 hK18 => ?_)
  refine c_reg ?_ -- region 51 ops.go:85
  refine wl (ro_cmp rfl rfl rfl) ?_
  refine wl (ro_assign rfl) ?_
  refine wl_nil (x_then (hK18 _ _ ?_))
  clear hK18 K18
  refine wc_condF rfl ?_
  refine c_seq (fun K19 hK19 => ?_)
  refine c_reg ?_ -- region 54 ops.go:88
  refine wl (ro_cmp rfl rfl rfl) ?_
  refine wl (ro_assign rfl) ?_
  refine wl_nil (x_then (hK19 _ _ ?_))
  clear hK19 K19
  refine wc_condT rfl ?_
  refine c_reg ?_ -- region 55 ops.go:89
  refine wl (ro_move rfl) ?_
  refine wl (ro_move rfl) ?_
  refine wl (ro_move rfl) ?_
  refine wl (ro_nilCheck rfl) ?_
  refine wl (ro_fieldAddr (k := 2) rfl fo_331_2) ?_
  refine wl (ro_loadB rfl sc_3 (hB1) (frow_at q1 (by decide))) ?_
  refine wl (ro_move rfl) ?_
  refine wl (ro_addN rfl rfl (by omega)) ?_
  refine wl_call rfl en_238 (closeA o.dr hz9) ?_
  rintro _ u1 ⟨rfl, ow1, x1, f1, r1⟩
  have hs1 := hF.size
  replace hF := vm_trans hX hF f1
  replace hX := hX.trans hs1 x1
  replace hR := r1
  refine wl_nil (x_blk ?_)
  refine bpp_end Tryz.results247 rfl ?_
  exact ⟨a, { g with slots := g.slots.take z ++ (List.range (g.slots.length - z)).map (vars.length + ·) }, vars ++ (g.slots.drop z).map fun s => vars.getD s vNil, rfl, rfl, rfl, rfl, _, hX, hF, hR⟩
end
end Go.Proofs.Qxb6500568aGreatDoor
