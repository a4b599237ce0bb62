import Derived.Test.Qxb6500568aGreatDoorQf
/- The machine: calls, built in. -/
namespace Go.Proofs.Qxb6500568aGreatDoor
open Ieee
set_option linter.unusedVariables false
set_option linter.unusedSimpArgs false
set_option linter.unusedSectionVars false

section
variable {C : VC} {w : World} {ow : Nat → Nat} {a : AS} {y : ATh} {gs : List AFr} {g : AFr} {vars : List PV} {fg fc p : Nat} {ids : List Nat} {zs l : List PV} {fn : PV}
set_option maxHeartbeats 8000000 in
theorem nat_6c (E : PE C fg fc w ow a y gs g vars p ids 26 zs.length) (hf : 0 < a.fuel) (ho : g.ops = zs.reverse ++ fn :: l) (h6 : fn.T = 6) (hN : fn.N = 6) (h9 : (zs.getD 0 vNil).T = 5) (hd : gs.length + 1 < 8) {pn : Nat} {idn : List Nat} (hkn : a.clos[(zs.getD 0 vNil).N]? = some (pn, idn)) (hpn : pn < C.F.length) : RetP Tryz.prog 245 [ptr C.E.mb, i64c a.cur, tptr C a.cur, fpt fg gs.length, i64c zs.length] w (CaR C w ow (kH a) (acall (Psf C.F) zs.length (mkA a y gs g vars))) (AE C (kH a) w ow (acall (Psf C.F) zs.length (mkA a y gs g vars))) := by
  have hR := E.r
  have hc := E.hc
  have hc0 := E.hc
  have hX : Xt w ow ow := Xt.refl _ _
  have hF : Fram (tg ow vtT) w w := Fram.refl _ _
  have hol := E.ol
  have hz3 : zs.length ≤ 3 := E.sn.r.2.2.2.2.2.2.2.2.1 rfl
  have hlo := congrArg List.length ho
  simp only [List.length_append, List.length_reverse, List.length_cons] at hlo
  have hvf : tg ow vtT fg := by
    obtain ⟨V, κ, Vv, U, x, f, fs, o⟩ := hR.open hc
    obtain ⟨lB, hB1, k1, -⟩ := o.pcS
    show vtT (ow fg)
    rw [k1]; left; have := o.lt; unfold vmT; omega
  have hvt0 : tg ow vtT C.E.tb := hR.q.vtb
  rw [acall_mk hc ho hf]
  obtain ⟨hpb, -, -⟩ := E.pcb
  have hvz : ∀ k, VV a.clos.length a.ths.length a.tabs.length (zs.getD k vNil) := fun k => by
    rw [List.getD_eq_getElem?_getD]
    cases hk : zs[k]? with
    | none => exact .nil _ _ _
    | some v => exact E.vo (by rw [ho]; exact List.mem_append.2 (.inl (List.mem_reverse.2 (List.mem_of_getElem? hk))))
  have hdl : (caS a y gs g vars l).th.frs.length = gs.length + 1 := by unfold caS; rw [mk_th (a := { a with fuel := a.fuel - 1 }) hc]; rfl
  have hfn := (List.getElem?_eq_some_iff.1 hkn).1
  have hcb := E.av.nc
  rw [mkA_clos] at hcb
  refine retp_of Tryz.func245 rfl Tryz.ntmps245 rfl ?_
  refine c_seq (fun K1 hK1 => ?_)
  refine c_reg ?_ -- region 0 call.go:30
  refine wl_new (ze_211) (fun b10 w1 hbb10 h10 F1 => ?_)
  have hbsb10 := Nat.le_trans hF.size hbb10
  have kh10 := hR.df b10 hbb10
  replace hF := hF.thenDrew.thenN F1
  replace hR := hR.thruN ((Fram.refl none' _).thenDrew.thenN F1)
  refine wl_nil (x_then (hK1 _ _ ?_))
  clear hK1 K1
  refine forget [(0, _), (1, _), (2, _), (3, _), (4, _), (10, _)] ⟨rfl, rfl, rfl, rfl, rfl, rfl, trivial⟩ (fun e => ?_)
  refine c_seq (fun K2 hK2 => ?_)
  refine c_reg ?_ -- region 1 call.go:31
  refine wl (ro_move rfl) ?_
  refine wl_call rfl en_258 (burnA hR.dr hf) ?_
  rintro _ u2 ⟨rfl, ow2, x2, f2, r2⟩
  obtain ⟨h10, kh10⟩ := vm_loc x2 f2 h10 kh10
  have hs2 := hF.size
  replace hF := vm_trans hX hF f2
  replace hX := hX.trans hs2 x2
  replace hR := r2
  obtain ⟨V, κ, Vv, U, x, f, fs, o⟩ := AM.open (a := { a with fuel := a.fuel - 1 }) hR hc
  obtain ⟨sg, sc, lS, hU, hB5, ts, hcs, hln, rfn, rzs⟩ := o.cal ho
  have hlt : a.cur < 5 := o.lt
  have hdp := o.dp
  have hsl := o.sl
  have hbb := o.t.bb
  have hgsl := o.t.nl
  obtain ⟨pp, pids, -, -, hns⟩ := o.ns
  obtain ⟨lT, hT, -, -, -, hT2, -⟩ := o.v.thA o.t.hx
  have hT3 := hT2 3 (.inr (.inl rfl))
  have hT2 := hT2 2 (.inl rfl)
  have hU2 := hU
  rw [hln] at hU
  rw [hU] at hT2
  have hT3 : lT[a.cur * 5 + 3]? = some (.slice (some ⟨fg, 0, none⟩) (gs.length + 1) fc) := by rw [← o.hf]; exact hT3
  have hN0 := hR.selfN
  have htt := o.v.tt.1
  have hq9 : f.base + g.slots.length + l.length < 9000 := by omega
  generalize hqd : f.base + g.slots.length + l.length = q at *
  refine wl_nil (x_then (hK2 _ _ ?_))
  clear hK2 K2
  refine forget [(0, _), (1, _), (2, _), (3, _), (4, _), (10, _)] ⟨rfl, rfl, rfl, rfl, rfl, rfl, trivial⟩ (fun e => ?_)
  refine c_seq (fun K3 hK3 => ?_)
  refine c_reg ?_ -- region 2 call.go:32
  refine wl (ro_move rfl) ?_
  refine wl (ro_nilCheck rfl) ?_
  refine wl (ro_fieldAddr (k := 2) rfl fo_269_2) ?_
  refine wl (ro_loadB rfl sc_83 (hT) (hT2)) ?_
  refine wl (ro_lenL rfl se_83) ?_
  refine wl (ro_assign rfl) ?_
  refine wl_nil (x_then (hK3 _ _ ?_))
  clear hK3 K3
  refine forget [(0, _), (1, _), (2, _), (3, _), (4, _), (10, _), (11, _)] ⟨rfl, rfl, rfl, rfl, rfl, rfl, rfl, trivial⟩ (fun e => ?_)
  refine c_seq (fun K4 hK4 => ?_)
  refine c_reg ?_ -- region 3 call.go:33
  refine wl (ro_move rfl) ?_
  refine wl (ro_move rfl) ?_
  refine wl (ro_subN (r := q + 1) rfl rfl (by omega) (by omega)) ?_
  refine wl (ro_subN (r := q) (k := 1) rfl rfl (by omega) (by omega)) ?_
  refine wl (ro_assign rfl) ?_
  refine wl_nil (x_then (hK4 _ _ ?_))
  clear hK4 K4
  refine forget [(0, _), (1, _), (2, _), (3, _), (10, _), (11, _), (12, _)] ⟨rfl, rfl, rfl, rfl, rfl, rfl, rfl, trivial⟩ (fun e => ?_)
  refine c_seq (fun K5 hK5 => ?_)
  refine c_reg ?_ -- region 4 call.go:34
  refine wl (ro_move rfl) ?_
  refine wl (ro_nilCheck rfl) ?_
  refine wl (ro_fieldAddr (k := 2) rfl fo_269_2) ?_
  refine wl (ro_loadB rfl sc_83 (hT) (hT2)) ?_
  refine wl (ro_move rfl) ?_
  refine wl (ro_indexAddr (et := 119) (k := 3) rfl rfl se_83 (rfl) ((by omega))) ?_
  refine wl (ro_loadAggB rfl ag_119 (hB5) (pvc_len _) ((by rw [Nat.zero_add]; exact rfn))) ?_
  refine wl_new (ze_119) (fun b13 w3 hbb13 h13 F3 => ?_)
  have hbsb13 := Nat.le_trans hF.size hbb13
  have hneb10b13 : b10 < b13 := Nat.lt_of_lt_of_le h10.lt hbb13
  have hneC.E.tbb13 : C.E.tb < b13 := Nat.lt_of_lt_of_le hT.lt hbb13
  have hnesgb13 : sg < b13 := Nat.lt_of_lt_of_le hB5.lt hbb13
  have hbsb13 := Nat.le_trans hN0.size hbb13
  have kh13 := hR.df b13 hbb13
  replace hF := hF.thenDrew.thenN F3
  replace hR := hR.thruN ((Fram.refl none' _).thenDrew.thenN F3)
  replace h10 := F3.blkN h10
  replace hT := F3.blkN hT
  replace hB5 := F3.blkN hB5
  replace hN0 := hN0.thenDrew.thenN F3
  refine wl_puta rfl rfl ((pvc_one fn)) sz_119 (rfl) h13 ((by simp)) (rfl) (fun w4 h13 F4 => ?_)
  replace hF := hF.thenDrew.thenO F4 (by first | exact .inr (by omega) | exact .inl rfl | exact .inl (by assumption) | assumption)
  replace hR := hR.hbput ((Fram.refl (one b13) _).thenDrew.thenO F4 (.inl rfl))
  replace h10 := F4.blkO h10 (by first | omega | exact ow_ne (by assumption) (by assumption) (by omega))
  replace hT := F4.blkO hT (by first | omega | exact ow_ne (by assumption) (by assumption) (by omega))
  replace hB5 := F4.blkO hB5 (by first | omega | exact ow_ne (by assumption) (by assumption) (by omega))
  replace hN0 := hN0.thenDrew.thenO F4 (by first | exact .inr (by omega) | exact .inl rfl | exact .inl (by assumption) | assumption)
  refine wl_nil (x_then (hK5 _ _ ?_))
  clear hK5 K5
  refine forget [(0, _), (1, _), (2, _), (3, _), (10, _), (11, _), (12, _), (13, _)] ⟨rfl, rfl, rfl, rfl, rfl, rfl, rfl, rfl, trivial⟩ (fun e => ?_)
  refine c_seq (fun K6 hK6 => ?_)
  refine c_reg ?_ -- region 5 call.go:35
  refine wl (ro_move rfl) ?_
  refine wl (ro_nilCheck rfl) ?_
  refine wl (ro_fieldAddr (k := 2) rfl fo_269_2) ?_
  refine wl (ro_loadB rfl sc_83 (hT) (hT2)) ?_
  refine wl (ro_move rfl) ?_
  refine wl (ro_addN (k := 1) rfl rfl (by omega)) ?_
  refine wl (ro_move rfl) ?_
  refine wl (ro_move rfl) ?_
  refine wl (ro_slice3 (l := q + 1) (m := zs.length) rfl rfl rfl rfl se_83 (by omega) (by omega)) ?_
  refine wl (ro_assign rfl) ?_
  have o5 := o.thruN hN0
  have hpe := o5.t.pc
  obtain ⟨lB, hB1, k1, q1, q2, hpc⟩ := o5.pcS
  refine wl_nil (x_then (hK6 _ _ ?_))
  clear hK6 K6
  refine forget [(0, _), (1, _), (2, _), (3, _), (10, _), (12, _), (13, _), (14, _)] ⟨rfl, rfl, rfl, rfl, rfl, rfl, rfl, rfl, trivial⟩ (fun e => ?_)
  refine c_seq (fun K7 hK7 => ?_)
  refine c_reg ?_ -- region 6 call.go:36
  refine wl (ro_move rfl) ?_
  refine wl (ro_nilCheck rfl) ?_
  refine wl (ro_fieldAddr (k := 1) rfl fo_331_1) ?_
  refine wl (ro_loadB rfl sc_3 (hB1) (frow_at q1 (by decide))) ?_
  refine wl (ro_addN (k := 1) rfl rfl (by omega)) ?_
  refine wl (ro_nilCheck rfl) ?_
  refine wl (ro_fieldAddr (k := 1) rfl fo_331_1) ?_
  refine wl_put rfl rfl rfl sz_3 hB1 ((by omega)) (rfl) (fun w5 hB1 F5 => ?_)
  replace hF := hF.thenDrew.thenO F5 (by first | exact .inr (by omega) | exact .inl rfl | exact .inl (by assumption) | assumption)
  replace h10 := F5.blkO h10 (by first | omega | exact ow_ne (by assumption) (by assumption) (by omega))
  replace hT := F5.blkO hT (by first | omega | exact ow_ne (by assumption) (by assumption) (by omega))
  replace hB5 := F5.blkO hB5 (by first | omega | exact ow_ne (by assumption) (by assumption) (by omega))
  replace h13 := F5.blkO h13 (by first | omega | exact ow_ne (by assumption) (by assumption) (by omega))
  have o6 := hpc w5 (g.pc + 1) F5 (by rw [← hpe]; exact hB1)
  have hR := o6.am
  have hN6 := hR.selfN
  have hsgt : sg ≠ C.E.tb := fun h ↦ by rw [h, htt] at ts; omega
  have htl9 := hT.lt
  have hdf6 := o6.v.df
  have hwz : (lS.drop (if zs.length = 0 then 0 else 0 + (q + 1) * 3)).take (rws pvc zs).length = rws pvc zs := by
    rw [rws_len pvc_len]
    by_cases h0 : zs.length = 0
    · rw [if_pos h0, h0, Nat.zero_mul, List.take_zero, List.eq_nil_of_length_eq_zero h0]; rfl
    · rw [if_neg h0, Nat.zero_add]; exact rzs
  have hwy : ∀ {ys : List PV}, ys = zs → (lS.drop (if ys.length = 0 then 0 else 0 + (q + 1) * 3)).take (ys.length * 3) = rws pvc ys := fun h ↦ by subst h; rw [← rws_len (enc := pvc) pvc_len]; exact hwz
  refine wl_nil (x_then (hK7 _ _ ?_))
  clear hK7 K7
  refine c_seq (fun K8 hK8 => ?_)
  refine c_seq (fun K9 hK9 => ?_)
  refine c_reg ?_ -- region 7 call.go:37
  refine wl (ro_fieldAddr (k := 0) rfl fo_119_0) ?_
  refine wl (ro_loadB rfl sc_3 (by assumption) rfl) ?_
  refine wl (ro_cmp (r := false) rfl rfl (by rw [h6]; rfl)) ?_
  refine wl_nil (x_then (hK9 _ _ ?_))
  clear hK9 K9
  refine wc_condF rfl ?_
  refine c_skip (x_then (hK8 _ _ ?_))
  clear hK8 K8
  refine c_seq (fun K10 hK10 => ?_)
  refine c_seq (fun K11 hK11 => ?_)
  refine c_reg ?_ -- region 12 call.go:44
  refine wl (ro_fieldAddr (k := 0) rfl fo_119_0) ?_
  refine wl (ro_loadB rfl sc_3 (by assumption) rfl) ?_
  refine wl (ro_cmp (r := false) rfl rfl (by rw [h6]; rfl)) ?_
  refine wl_nil (x_then (hK11 _ _ ?_))
  clear hK11 K11
  refine wc_condF rfl ?_
  refine c_skip (x_then (hK10 _ _ ?_))
  clear hK10 K10
  refine forget [(0, _), (1, _), (2, _), (10, _), (12, _), (13, _), (14, _)] ⟨rfl, rfl, rfl, rfl, rfl, rfl, rfl, trivial⟩ (fun e => ?_)
  refine c_mid (fun b u => ∃ ab ao c, ab ≠ C.E.tb ∧ (ow2 ab = 66 ∨ ao + 9 ≤ x.stack.length * 3) ∧ Fram none' w5 u ∧ WinB u ab ao (rws pvc [zs.getD 0 vNil, zs.getD 1 vNil, zs.getD 2 vNil]) ∧ ∃ e', b = Fr 286 (upds e' [(0, ptr C.E.mb), (1, i64c a.cur), (2, tptr C a.cur), (10, ptr b10), (12, i64c q), (13, ptr b13), (14, .slice (some ⟨ab, ao, none⟩) 3 c)]) []) ?_ ?_
  · skip
    refine c_block ?_
    -- loop@r14: live slots [0, 1, 2, 10, 12, 13, 14]
    refine c_loopG (fun m b u => ∃ (ys : List PV) (v : Value), m = 3 - ys.length ∧ zs.length ≤ ys.length ∧ ys.length ≤ 3 ∧ ys = zs ++ List.replicate (ys.length - zs.length) vNil ∧ Fram none' w5 u ∧ ((ys = zs ∧ v = .slice (some ⟨sg, if zs.length = 0 then 0 else 0 + (q + 1) * 3, none⟩) zs.length zs.length) ∨ (Own u.heap v 119 3 ys.length (rws pvc ys) ∧ ∀ k, v.ownBlock = some k → w5.heap.size ≤ k)) ∧ ∃ e', b = Fr 286 (upds e' [(0, ptr C.E.mb), (1, i64c a.cur), (2, tptr C a.cur), (10, ptr b10), (12, i64c q), (13, ptr b13), (14, v)]) []) _ ⟨zs, _, rfl, Nat.le_refl _, hz3, by rw [Nat.sub_self]; exact (List.append_nil _).symm, hN6, .inl ⟨rfl, rfl⟩, kp _ ⟨rfl, rfl, rfl, rfl, rfl, rfl, rfl, trivial⟩⟩ ?_
    rintro m b u ⟨ys, v, rfl, hyz, hy3, hys, hN7, hLo, e', rfl⟩
    obtain ⟨va, vc, rfl⟩ : ∃ va vc, v = .slice va ys.length vc := by
      rcases hLo with ⟨e1, e2⟩ | ⟨hO, -⟩
      · rw [e1]; exact ⟨_, _, e2⟩
      · exact hO.form
    have hB7 := hN7.blkN hB5
    refine c_seq (fun K12 hK12 => ?_)
    refine c_seq (fun K13 hK13 => ?_)
    refine c_reg ?_ -- region 14 call.go:47
    refine wl (ro_move rfl) ?_
    refine wl (ro_lenL rfl se_83) ?_
    refine wl (ro_cmp rfl rfl rfl) ?_
    refine wl_nil (x_then (hK13 _ _ ?_))
    clear hK13 K13
    refine wc_cond rfl (fun hc80 => ?_) (fun hc80 => ?_)
    · try simp only [decide_eq_true_eq, decide_eq_false_iff_not, Bool.not_eq_true', Bool.not_eq_false', Bool.not_eq_eq_eq_not, Bool.not_true, Bool.not_false, beq_iff_eq, bne_iff_ne, ne_eq, beq_eq_false_iff_ne, bne_eq_false_iff_eq, gt_iff_lt, ge_iff_le, Int.not_lt, Int.not_le] at hc80
      refine c_skip (x_then (hK12 _ _ ?_))
      clear hK12 K12
      refine c_block ?_
      rcases hLo with ⟨e1, e2⟩ | ⟨hO, hob⟩
      · skip
        refine c_reg ?_ -- region 15 call.go:48
        refine wl (ro_move rfl) ?_
        refine wl (ro_build rfl bld_119) ?_
        refine wle (eo_bsV1 (i := vNil) rfl se_83 zx_119) ?_
        have F83 : Fram none' u (u.alloc (.cells (rws pvc [vNil]).toArray 119)) := Fram.alloc none' u _
        subst e1
        refine wl_appN (t := 83) (et := 119) (k := 3) (g := sg) (o := if ys.length = 0 then 0 else 0 + (q + 1) * 3) (m := ys.length) (cap := ys.length) (l := lS) (m2 := 1) (o2 := 0) (news := pvc vNil) (xs := rws pvc ys) (by rw [← e2]; rfl) rfl se_83 zx_119 by_119 rfl (F83.blkN hB7) (hwy rfl) (rws_len pvc_len _) (rws_oneC pvc_one _) (Blk.new u (rws pvc [vNil]) 119) rfl rfl (pvc_one vNil) (by omega) (by omega) (by omega) ?_
        intro v' u9 hO' G9 hob'
        have hN8 : Fram none' w5 u9 := (hN7.thenN F83).thenN G9
        have hsz := hN7.size
        have hsz2 := F83.size
        refine wl (ro_assign rfl) ?_
        refine wl_nil (x_blk (x_then ?_))
        exact ⟨3 - (ys.length + 1), by omega, ys ++ [vNil], _, by simp, by simp, by simp; omega, by simp, hN8, .inr ⟨by rw [rws_app, List.length_append]; exact hO', fun k hk ↦ by have := hob' k hk; omega⟩, kp _ ⟨rfl, rfl, rfl, rfl, rfl, rfl, rfl, trivial⟩⟩
      · skip
        refine c_reg ?_ -- region 15 call.go:48
        refine wl (ro_move rfl) ?_
        refine wl (ro_build rfl bld_119) ?_
        refine wl_bsapp (t := 83) (et := 119) (k := 3) (m := ys.length) (cs := pvc vNil) rfl rfl rfl rfl se_83 zx_119 by_119 rfl rfl rfl (pvc_one _) hO (by omega) (by omega) ?_
        intro v' u9 hO' G9 hnb
        have hN8 : Fram none' w5 u9 := hN7.trans' G9 (fun k hk h ↦ by have := hob k h; omega)
        have hsz := hN7.size
        skip
        refine wl (ro_assign rfl) ?_
        refine wl_nil (x_blk (x_then ?_))
        exact ⟨3 - (ys.length + 1), by omega, ys ++ [vNil], _, by simp, by simp; omega, by simp; omega, (by rw [List.length_append, List.length_singleton, show ys.length + 1 - zs.length = (ys.length - zs.length) + 1 by omega, List.replicate_succ', ← List.append_assoc, ← hys]), hN8, .inr ⟨by rw [rws_app, List.length_append]; exact hO', fun k hk ↦ by rcases hnb k hk with z | z; exact hob k z; omega⟩, kp _ ⟨rfl, rfl, rfl, rfl, rfl, rfl, rfl, trivial⟩⟩
    · try simp only [decide_eq_true_eq, decide_eq_false_iff_not, Bool.not_eq_true', Bool.not_eq_false', Bool.not_eq_eq_eq_not, Bool.not_true, Bool.not_false, beq_iff_eq, bne_iff_ne, ne_eq, beq_eq_false_iff_ne, bne_eq_false_iff_eq, gt_iff_lt, ge_iff_le, Int.not_lt, Int.not_le] at hc80
      refine c_exit (x_thenX (x_thenX (x_blkX (x_then ?_))))
      have hy3 : ys.length = 3 := by omega
      have hbs : ys = [zs.getD 0 vNil, zs.getD 1 vNil, zs.getD 2 vNil] := pad3 hy3 hz3 hys
      rcases hLo with ⟨e1, e2⟩ | ⟨hO, hob⟩
      · injection e2 with f1 f2 f3
        rw [f1, hy3]
        have hz30 : zs.length = 3 := by rw [← e1]; exact hy3
        refine ⟨sg, _, vc, hsgt, .inr (by rw [if_neg (by omega)]; omega), hN7, ⟨lS, 119, hB7, ?_⟩, kp _ ⟨rfl, rfl, rfl, rfl, rfl, rfl, rfl, trivial⟩⟩
        rw [← hbs, e1]
        exact hwz
      · rw [hy3] at hO
        obtain ⟨gg, gcap, gl, e9, b9, -, -, -, q9⟩ := hO.pos (by decide)
        injection e9 with f1 f2 f3
        rw [f1, hy3]
        refine ⟨gg, 0, vc, (by have := hob gg (by rw [f1]; rfl); omega), .inl (hdf6 _ (hob gg (by rw [f1]; rfl))), hN7, ⟨gl, 119, b9, ?_⟩, kp _ ⟨rfl, rfl, rfl, rfl, rfl, rfl, rfl, trivial⟩⟩
        rw [← hbs, rws_len pvc_len, hy3, List.drop_zero]
        exact q9
  rintro b u ⟨ab, ao, ac, hatb, hab9, hN7, ⟨lA, tA, hBA, hWA⟩, e', rfl⟩
  have h10 := hN7.blkN h10
  have h13 := hN7.blkN h13
  have o7 := o6.thruN hN7
  have hR := o7.an
  have hF := hF.thenN hN7
  have hB5 := hBA
  have hT := hN7.blkN hT
  refine c_seq (fun K14 hK14 => ?_)
  refine c_reg ?_ -- region 16 call.go:50
  refine wl (ro_move rfl) ?_
  refine wl (ro_s2ap rfl ar_225 (by decide)) ?_
  refine wl (ro_assign rfl) ?_
  refine wl_nil (x_then (hK14 _ _ ?_))
  clear hK14 K14
  refine forget [(0, _), (1, _), (2, _), (10, _), (12, _), (13, _), (15, _)] ⟨rfl, rfl, rfl, rfl, rfl, rfl, rfl, trivial⟩ (fun e => ?_)
  refine c_seq (fun K15 hK15 => ?_)
  refine c_reg ?_ -- region 17 call.go:51
  refine wl_new (ze_119) (fun b16 w6 hbb16 h16 F6 => ?_)
  have hneb10b16 : b10 < b16 := Nat.lt_of_lt_of_le h10.lt hbb16
  have hneb13b16 : b13 < b16 := Nat.lt_of_lt_of_le h13.lt hbb16
  have hbsb16 := Nat.le_trans hF.size hbb16
  have hneabb16 : ab < b16 := Nat.lt_of_lt_of_le hB5.lt hbb16
  have hneC.E.tbb16 : C.E.tb < b16 := Nat.lt_of_lt_of_le hT.lt hbb16
  have kh16 := hR.df b16 hbb16
  replace h10 := F6.blkN h10
  replace h13 := F6.blkN h13
  replace hF := hF.thenDrew.thenN F6
  replace hR := hR.thruN ((Fram.refl none' _).thenDrew.thenN F6)
  replace hB5 := F6.blkN hB5
  replace hT := F6.blkN hT
  refine wl_new (ze_119) (fun b17 w7 hbb17 h17 F7 => ?_)
  have hneb10b17 : b10 < b17 := Nat.lt_of_lt_of_le h10.lt hbb17
  have hneb13b17 : b13 < b17 := Nat.lt_of_lt_of_le h13.lt hbb17
  have hbsb17 := Nat.le_trans hF.size hbb17
  have hneabb17 : ab < b17 := Nat.lt_of_lt_of_le hB5.lt hbb17
  have hneC.E.tbb17 : C.E.tb < b17 := Nat.lt_of_lt_of_le hT.lt hbb17
  have hneb16b17 : b16 < b17 := Nat.lt_of_lt_of_le h16.lt hbb17
  have kh17 := hR.df b17 hbb17
  replace h10 := F7.blkN h10
  replace h13 := F7.blkN h13
  replace hF := hF.thenDrew.thenN F7
  replace hR := hR.thruN ((Fram.refl none' _).thenDrew.thenN F7)
  replace hB5 := F7.blkN hB5
  replace hT := F7.blkN hT
  replace h16 := F7.blkN h16
  refine wl_nil (x_then (hK15 _ _ ?_))
  clear hK15 K15
  refine c_seq (fun K16 hK16 => ?_)
  refine c_seq (fun K17 hK17 => ?_)
  obtain ⟨ra0, ra1, ra2⟩ := win_row hWA
  refine c_reg ?_ -- region 18 call.go:52
  refine wl (ro_fieldAddr (k := 1) rfl fo_119_1) ?_
  refine wl (ro_loadB rfl sc_117 (by assumption) rfl) ?_
  refine wl_nil (x_then (hK17 _ _ ?_))
  clear hK17 K17
  refine c_block ?_
  refine forget [(0, _), (1, _), (2, _), (10, _), (12, _), (15, _), (16, _), (17, _), (88, _)] ⟨rfl, rfl, rfl, rfl, rfl, rfl, rfl, rfl, rfl, trivial⟩ (fun e => ?_)
  refine c_seq (fun K18 hK18 => ?_)
  refine c_reg ?_ -- region 20 call.go:53
  refine wl (ro_cmp (r := true) rfl rfl (by rw [hN]; rfl)) ?_
  refine wl (ro_assign rfl) ?_
  refine wl_nil (x_then (hK18 _ _ ?_))
  clear hK18 K18
  refine wc_condT rfl ?_
  refine c_seq (fun K19 hK19 => ?_)
  refine c_seq (fun K20 hK20 => ?_)
  refine c_reg ?_ -- region 21 call.go:54
  refine wl (ro_move rfl) ?_
  refine wl (ro_nilCheck rfl) ?_
  refine wl (ro_indexAddrA (et := 119) (k := 3) rfl rfl ar_225 (rfl) ((by decide))) ?_
  refine wl (ro_fieldAddr (k := 0) rfl fo_119_0) ?_
  refine wl (ro_loadB rfl sc_3 (hB5) (row_get ra0 (by decide))) ?_
  refine wl (ro_cmp (r := true) rfl rfl (by rw [h9]; rfl)) ?_
  refine wl (ro_move rfl) ?_
  refine wlg_yes rfl (ro_move rfl) ?_
  refine wlg_yes rfl (ro_nilCheck rfl) ?_
  refine wlg_yes rfl (ro_fieldAddr (k := 3) rfl fo_269_3) ?_
  refine wlg_yes rfl (ro_loadB rfl sc_267 (hT) (hT3)) ?_
  refine wlg_yes rfl (ro_lenL rfl se_267) ?_
  refine wlg_yes rfl (ro_cmp (r := true) rfl rfl (congrArg some (decide_eq_true (by omega)))) ?_
  refine wl (ro_pick rfl rfl rfl) ?_
  refine wl_nil (x_then (hK20 _ _ ?_))
  clear hK20 K20
  refine wc_condT rfl ?_
  refine c_seq (fun K21 hK21 => ?_)
  obtain ⟨V8, κ8, Vv8, U8, x8, f8, fs8, o8, hn8⟩ := AN.open (a := { a with fuel := a.fuel - 1 }) hR hc
  have hln8 := o8.t.ln
  have hq8 : f8.base + g.slots.length + l.length = q := by have h1 : f8.base + g.slots.length + g.ops.length = x8.stack.length := hln8; have h2 : x8.stack.length = x.stack.length := hn8; omega
  have hao8 : own1 (U8 a.cur 2) ab → (ao + 1 * 3) + 1 * 3 ≤ x8.stack.length * 3 := fun h ↦ by
    obtain ⟨L8, op8, vl8⟩ := o8.v.ex
    have h3 := (op8.sk vl8 o8.t.hx o8.lt).t ab h
    have h2 : x8.stack.length = x.stack.length := hn8
    rcases hab9 with h4 | h4
    · rw [h4] at h3; have h3 : 66 = 440 + a.cur := h3; omega
    · omega
  refine c_piL9 12 [(0, false), (1, false), (2, false), (3, false), (4, false), (5, false), (6, false), (7, false), (8, false), (9, false), (10, false), (11, false)] (SameH _) mixed (by kernel_rfl) rfl (by kernel_rfl) (po_then (po_then (po_blk (po_then (po_bpp))))) (sameH_now _ _) ?_ -- region 22 call.go:55
  refine ql_ro rfl (fun w hS => ro_move rfl) ?_
  refine ql_ro rfl (fun w hS => ro_move rfl) ?_
  refine ql_ro rfl (fun w hS => ro_move rfl) ?_
  refine ql_ro rfl (fun w hS => ro_nilCheck rfl) ?_
  refine ql_ro rfl (fun w hS => ro_indexAddrA (et := 119) (k := 3) rfl rfl ar_225 (rfl) ((by decide))) ?_
  refine ql_ro rfl (fun w hS => ro_fieldAddr (k := 1) rfl fo_119_1) ?_
  refine ql_ro rfl (fun w hS => ro_loadB rfl sc_117 (Blk.of_heap hB5 hS) (row_get ra0 (by decide))) ?_
  refine ql_ro rfl (fun w hS => ro_conv (a := ((zs.getD 0 vNil).N : Int)) rfl sc_117 in_3 (Go.IntWalk.i64_in _ (by omega))) ?_
  refine ql_ro rfl (fun w hS => ro_move rfl) ?_
  refine ql_ro rfl (fun w hS => ro_nilCheck rfl) ?_
  refine ql_ro rfl (fun w hS => ro_sliceA3 (l := 1) (h := 2) rfl rfl rfl rfl ar_225 (by decide) (by decide)) ?_
  refine ql_ro rfl (fun w hS => ro_move rfl) ?_
  refine ql_lastC rfl rfl en_150 (AO.ent (prot := true) (args := [zs.getD 1 vNil]) (o8.dr (d := w7.drawn + 1)) ho (show g.ops.length ≤ 131 by omega) E.e8 hkn hpn hd rfl ⟨lA, tA, hB5, ra1⟩ hatb hao8 (show 1 ≤ 3 by decide) hq8) ?_
  rintro _ u9 ⟨rfl, ow9, x9, f9, hq9⟩
  obtain ⟨h10, kh10⟩ := vm_loc x9 f9 h10 kh10
  obtain ⟨h13, kh13⟩ := vm_loc x9 f9 h13 kh13
  obtain ⟨h16, kh16⟩ := vm_loc x9 f9 h16 kh16
  obtain ⟨h17, kh17⟩ := vm_loc x9 f9 h17 kh17
  have hs9 := hF.size
  replace hF := vm_trans hX hF f9
  replace hX := hX.trans hs9 x9
  refine x_then (hK21 _ _ ?_)
  clear hK21 K21
  refine forget [(10, _)] ⟨rfl, trivial⟩ (fun e => ?_)
  refine c_seq (fun K22 hK22 => ?_)
  refine c_reg ?_ -- region 23 call.go:56
  refine wl (ro_build rfl bld_211) ?_
  refine wl_puta rfl rfl ((vevc_one 0 0 0 vNil vNil)) sz_211 (rfl) h10 ((by simp)) (rfl) (fun w8 h10 F8 => ?_)
  replace h13 := F8.blkO h13 (by first | omega | exact ow_ne (by assumption) (by assumption) (by omega))
  replace hF := hF.thenDrew.thenO F8 (by first | exact .inr (by omega) | exact .inl rfl | exact .inl (by assumption) | assumption)
  replace h16 := F8.blkO h16 (by first | omega | exact ow_ne (by assumption) (by assumption) (by omega))
  replace h17 := F8.blkO h17 (by first | omega | exact ow_ne (by assumption) (by assumption) (by omega))
  replace hq9 := hq9.hbput ((Fram.refl (one b10) _).thenDrew.thenO F8 (.inl rfl))
  refine wl_nil (x_then (hK22 _ _ ?_))
  clear hK22 K22
  refine c_ret (x_thenR (x_blkR (x_thenR ?_)))
  refine bqp_ret (res1 Tryz.results245 (rv_c rfl ag_211 (h10) (rfl))) ?_
  exact ⟨_, _, hX, hF, hq9, rfl, E.sn.d, .inl ⟨rfl, by unfold acall1; rw [if_neg (by omega), if_neg (by omega), if_neg (by omega), if_neg (by omega), if_neg (by omega), if_neg (by omega), if_neg (by omega), if_pos hN, if_neg (show ¬ (zs.getD 0 vNil).T ≠ 5 by omega), hdl, if_neg (by rw [decide_eq_true_eq]; omega)]; rfl⟩⟩
end
end Go.Proofs.Qxb6500568aGreatDoor
