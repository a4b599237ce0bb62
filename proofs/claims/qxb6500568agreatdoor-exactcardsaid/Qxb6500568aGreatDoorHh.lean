import Derived.Test.Qxb6500568aGreatDoorHg
/- The machine: plain instructions. -/
namespace Go.Proofs.Qxb6500568aGreatDoor
open Ieee
set_option linter.unusedVariables false
set_option linter.unusedSimpArgs false
set_option linter.unusedSectionVars false

section
variable {C : VC} {w : World} {ow : Nat → Nat} {a : AS} {y : ATh} {gs : List AFr} {g : AFr} {vars : List PV} {fg fc p z : Nat} {ids : List Nat}
set_option maxHeartbeats 8000000 in
theorem plain_10 (E : PE C fg fc w ow a y gs g vars p ids 10 z) : RetP Tryz.prog 247 [ptr C.E.mb, i64c a.cur, tptr C a.cur, fpt fg gs.length, prt C p, u8n 10, i64c z] w (PlR C fg fc w ow a y gs g (aplain (Psf C.F) 10 z (mkA a y gs g vars))) (AE C (kH a) w ow (aplain (Psf C.F) 10 z (mkA a y gs g vars))) := by
  have hR := E.r
  have hc := E.hc
  have hk := E.hk
  obtain ⟨V, κ, Vv, U, x, f, fs, o⟩ := hR.open hc
  have hX : Xt w ow ow := Xt.refl _ _
  have hF : Fram (tg ow vtT) w w := Fram.refl _ _
  have hol := E.ol
  have hnd := E.nd
  have hzz := E.hz
  obtain ⟨lT, hT, -, -, -, hT2, -⟩ := o.v.thA o.t.hx
  have hT2 := hT2 2 (.inl rfl)
  obtain ⟨lB, hB1, k1, q1, -, -⟩ := o.frow
  obtain ⟨lP, pa, pb, pc, hP, tP, rp, -, -, -⟩ := o.v.pro E.hp
  rw [Nat.zero_add] at rp
  obtain ⟨p0, ids0, n1, n2, n3⟩ := o.ns
  obtain ⟨rfl, rfl⟩ : p = p0 ∧ ids = ids0 := by have := hk.symm.trans n1; simpa using this
  have hwin := o.win n2
  have hln := o.t.ln
  have hsl := o.sl
  obtain ⟨ks, hkv⟩ : ∃ s, (fsAt C.F p).ks[z]? = some (vStr s) := by obtain ⟨s, q⟩ := E.sn.r.2.2.2.1 (.inr rfl); rw [E.pr] at q; exact ⟨s, q⟩
  have hkd : (fsAt C.F p).ks.getD z vNil = vStr ks := by rw [List.getD_eq_getElem?_getD, hkv]; rfl
  have hvk := E.kvv hkv 0 0 0
  have ht0 := E.ht
  generalize vStr ks = kv at *
  have hvk := E.kvv hkv a.clos.length a.ths.length a.tabs.length
  obtain ⟨v, l, ho⟩ := ops_1 (l := g.ops) hnd
  have hlo := congrArg List.length ho
  simp only [List.length_cons] at hlo
  have hap : aplain (Psf C.F) 10 z (mkA a y gs g vars) = stZ a y gs g vars (vTab 0) kv v l := by
    unfold aplain
    simp only [mk_fr hc, mk_pro2 hk, E.pl, hkd, ho]
    simp only [Nat.reduceEqDiff, if_false, if_true, List.getD_cons_zero, List.getD_cons_succ, List.tail_cons, List.drop_succ_cons, List.drop_zero]
    unfold stZ
    congr 1
    congr 1
    congr 1
    exact nx_tabs hc _ l
  rw [hap]
  refine retp_of Tryz.func247 rfl Tryz.ntmps247 rfl ?_
  refine c_seq (fun K1 hK1 => ?_)
  refine c_pi [(0, false), (1, false), (2, false), (3, false), (4, false), (5, false), (6, false), (7, false), (8, false), (9, false), (10, false), (11, false), (12, false), (13, false), (14, false), (15, false), (16, false), (17, false), (18, false)] (SameH _) mixed (by kernel_rfl) rfl (by kernel_rfl) (po_then (po_bpp)) (sameH_now _ _) ?_ -- region 0 ops.go:34
  refine pi_ro rfl (fun w hS => ro_move rfl) ?_
  refine pi_ro rfl (fun w hS => ro_nilCheck rfl) ?_
  refine pi_ro rfl (fun w hS => ro_fieldAddr (k := 2) rfl fo_269_2) ?_
  refine pi_ro rfl (fun w hS => ro_loadB rfl sc_83 (Blk.of_heap hT hS) (hT2)) ?_
  refine pi_ro rfl (fun w hS => ro_move rfl) ?_
  refine pi_ro rfl (fun w hS => ro_nilCheck rfl) ?_
  refine pi_ro rfl (fun w hS => ro_fieldAddr (k := 2) rfl fo_331_2) ?_
  refine pi_ro rfl (fun w hS => ro_loadB rfl sc_3 (Blk.of_heap hB1 hS) (frow_at q1 (by decide))) ?_
  refine pi_ro rfl (fun w hS => ro_move rfl) ?_
  refine pi_ro rfl (fun w hS => ro_nilCheck rfl) ?_
  refine pi_ro rfl (fun w hS => ro_fieldAddr (k := 2) rfl fo_331_2) ?_
  refine pi_ro rfl (fun w hS => ro_loadB rfl sc_3 (Blk.of_heap hB1 hS) (frow_at q1 (by decide))) ?_
  refine pi_ro rfl (fun w hS => ro_move rfl) ?_
  refine pi_ro rfl (fun w hS => ro_nilCheck rfl) ?_
  refine pi_ro rfl (fun w hS => ro_fieldAddr (k := 1) rfl fo_258_1) ?_
  refine pi_ro rfl (fun w hS => ro_loadB rfl sc_3 (Blk.of_heap hP hS) (row_get rp (by decide))) ?_
  refine pi_ro rfl (fun w hS => ro_addN rfl rfl (by omega)) ?_
  refine pi_ro rfl (fun w hS => ro_slV hwin rfl rfl rfl se_83) ?_
  refine pi_ro rfl (fun w hS => ro_assign rfl) ?_
  refine pi_nil (x_then (hK1 _ _ ?_))
  clear hK1 K1
  refine forget [(0, _), (1, _), (2, _), (3, _), (4, _), (5, _), (6, _), (14, _)] ⟨rfl, rfl, rfl, rfl, rfl, rfl, rfl, rfl, trivial⟩ (fun e => ?_)
  refine c_seq (fun K2 hK2 => ?_)
  refine c_reg ?_ -- region 1 ops.go:35
  refine wl (ro_move rfl) ?_
  refine wl_nil (x_then (hK2 _ _ ?_))
  clear hK2 K2
  refine c_block ?_
  refine forget [(0, _), (1, _), (2, _), (3, _), (4, _), (5, _), (6, _), (14, _), (53, _)] ⟨rfl, rfl, rfl, rfl, rfl, rfl, rfl, rfl, rfl, trivial⟩ (fun e => ?_)
  refine c_seq (fun K3 hK3 => ?_)
  refine c_reg ?_ -- region 3 ops.go:36
  refine wl (ro_cmp rfl rfl rfl) ?_
  refine wl (ro_assign rfl) ?_
  refine wl_nil (x_then (hK3 _ _ ?_))
  clear hK3 K3
  refine wc_condF rfl ?_
  refine c_seq (fun K4 hK4 => ?_)
  refine c_reg ?_ -- region 5 ops.go:38
  refine wl (ro_cmp rfl rfl rfl) ?_
  refine wl (ro_assign rfl) ?_
  refine wl_nil (x_then (hK4 _ _ ?_))
  clear hK4 K4
  refine wc_condF rfl ?_
  refine c_seq (fun K5 hK5 => ?_)
  refine c_reg ?_ -- region 7 ops.go:40
  refine wl (ro_cmp rfl rfl rfl) ?_
  refine wl (ro_assign rfl) ?_
  refine wl_nil (x_then (hK5 _ _ ?_))
  clear hK5 K5
  refine wc_condF rfl ?_
  refine c_seq (fun K6 hK6 => ?_)
  refine c_reg ?_ -- region 9 ops.go:42
  refine wl (ro_cmp rfl rfl rfl) ?_
  refine wl (ro_assign rfl) ?_
  refine wl_nil (x_then (hK6 _ _ ?_))
  clear hK6 K6
  refine wc_condF rfl ?_
  refine c_seq (fun K7 hK7 => ?_)
  refine c_reg ?_ -- region 11 ops.go:44
  refine wl (ro_cmp rfl rfl rfl) ?_
  refine wl (ro_assign rfl) ?_
  refine wl_nil (x_then (hK7 _ _ ?_))
  clear hK7 K7
  refine wc_condF rfl ?_
  refine c_seq (fun K8 hK8 => ?_)
  refine c_reg ?_ -- region 13 ops.go:46
  refine wl (ro_cmp rfl rfl rfl) ?_
  refine wl (ro_assign rfl) ?_
  refine wl_nil (x_then (hK8 _ _ ?_))
  clear hK8 K8
  refine wc_condF rfl ?_
  refine c_seq (fun K9 hK9 => ?_)
  refine c_reg ?_ -- region 15 ops.go:48
  refine wl (ro_cmp rfl rfl rfl) ?_
  refine wl (ro_assign rfl) ?_
  refine wl_nil (x_then (hK9 _ _ ?_))
  clear hK9 K9
  refine wc_condF rfl ?_
  refine c_seq (fun K10 hK10 => ?_)
  refine c_reg ?_ -- region 18 ops.go:51
  refine wl (ro_cmp rfl rfl rfl) ?_
  refine wl (ro_assign rfl) ?_
  refine wl_nil (x_then (hK10 _ _ ?_))
  clear hK10 K10
  refine wc_condF rfl ?_
  refine c_seq (fun K11 hK11 => ?_)
  refine c_reg ?_ -- region 21 ops.go:54
  refine wl (ro_cmp rfl rfl rfl) ?_
  refine wl (ro_assign rfl) ?_
  refine wl_nil (x_then (hK11 _ _ ?_))
  clear hK11 K11
  refine wc_condF rfl ?_
  refine c_seq (fun K12 hK12 => ?_)
  refine c_reg ?_ -- region 24 ops.go:57
  refine wl (ro_cmp rfl rfl rfl) ?_
  refine wl (ro_assign rfl) ?_
  refine wl_nil (x_then (hK12 _ _ ?_))
  clear hK12 K12
  refine wc_condT rfl ?_
  refine c_seq (fun K13 hK13 => ?_)
  refine c_reg ?_ -- region 25 ops.go:58
  refine wl (ro_move rfl) ?_
  refine wl_call rfl en_244 (popA hR.dr hc ho (by omega)) ?_
  rintro _ u1 ⟨rfl, ow1, x1, f1, r1⟩
  have hs1 := hF.size
  replace hF := vm_trans hX hF f1
  replace hX := hX.trans hs1 x1
  replace hR := r1
  refine wl_new (ze_119) (fun b19 w2 hbb19 h19 F2 => ?_)
  have hbsb19 := Nat.le_trans hF.size hbb19
  have kh19 := hR.df b19 hbb19
  replace hF := hF.thenDrew.thenN F2
  replace hR := hR.thruN ((Fram.refl none' _).thenDrew.thenN F2)
  refine wl_puta rfl rfl ((pvc_one _)) sz_119 (rfl) h19 ((by simp)) (rfl) (fun w3 h19 F3 => ?_)
  replace hF := hF.thenDrew.thenO F3 (by first | exact .inr (by omega) | exact .inl rfl | exact .inl (by assumption) | assumption)
  replace hR := hR.hbput ((Fram.refl (one b19) _).thenDrew.thenO F3 (.inl rfl))
  obtain ⟨V1, κ1, Vv1, U1, x1, f1, fs1, o1⟩ := hR.open hc
  obtain ⟨lM, lP2, lK, kg, kcap, kn, kb, hM, hM4, hM1, hP, hPk, hK, hKr, hkb, hkn⟩ := o1.kon E.hp hkv
  refine wl_nil (x_then (hK13 _ _ ?_))
  clear hK13 K13
  refine c_piL9 14 [(0, false), (1, false), (2, false), (3, false), (4, false), (5, false), (6, false), (7, false), (8, false), (9, false), (10, false), (11, false), (12, false), (13, false)] (SameH _) mixed (by kernel_rfl) rfl (by kernel_rfl) (po_blk (po_bpp)) (sameH_now _ _) ?_ -- region 26 ops.go:59
  refine ql_ro rfl (fun w hS => ro_move rfl) ?_
  refine ql_ro rfl (fun w hS => ro_move rfl) ?_
  refine ql_ro rfl (fun w hS => ro_nilCheck rfl) ?_
  refine ql_ro rfl (fun w hS => ro_fieldAddr (k := 4) rfl fo_89_4) ?_
  refine ql_ro rfl (fun w hS => ro_loadB rfl sc_83 (Blk.of_heap hM hS) (hM4)) ?_
  refine ql_ro rfl (fun w hS => ro_move rfl) ?_
  refine ql_ro rfl (fun w hS => ro_nilCheck rfl) ?_
  refine ql_ro rfl (fun w hS => ro_fieldAddr (k := 4) rfl fo_258_4) ?_
  refine ql_ro rfl (fun w hS => ro_loadB rfl sc_3 (Blk.of_heap hP hS) (hPk)) ?_
  refine ql_ro rfl (fun w hS => ro_move rfl) ?_
  refine ql_ro rfl (fun w hS => ro_addN rfl rfl (by omega)) ?_
  refine ql_ro rfl (fun w hS => ro_indexAddr (et := 119) (k := 3) rfl rfl se_83 (rfl) ((by omega))) ?_
  refine ql_ro rfl (fun w hS => ro_loadAggB rfl ag_119 (Blk.of_heap hK hS) (pvc_len _) (hKr)) ?_
  refine ql_ro rfl (fun w hS => ro_loadAggB rfl ag_119 (Blk.of_heap h19 hS) rfl rfl) ?_
  refine ql_lastCP rfl rfl en_271 (storeZ (l := l) (t := vTab 0) (k := kv) (v := v) E hR.dr rfl ht0 hvk (E.vo (v := v) (by rw [ho]; simp))) (fun pv w9 hE => bpp_pan (P := Tryz.prog) (fn := Tryz.f247) (AE.go hX hF hE)) ?_
  rintro _ u4 ⟨hq9, rfl, ow4, x4, f4, r4⟩
  obtain ⟨h19, kh19⟩ := vm_loc x4 f4 h19 kh19
  have hs4 := hF.size
  replace hF := vm_trans hX hF f4
  replace hX := hX.trans hs4 x4
  replace hR := r4
  refine x_blk ?_
  refine bpp_end Tryz.results247 rfl ?_
  exact ⟨{ a with tabs := a.tabs.set (vTab 0).N (tSet (a.tabs.getD (vTab 0).N []) kv v).2 }, { g with ops := l }, vars, rfl, rfl, hq9, rfl, _, hX, hF, hR⟩
end
end Go.Proofs.Qxb6500568aGreatDoor
