import Derived.Test.Qxb6500568aGreatDoorHv
/- The machine: calls, first part. -/
namespace Go.Proofs.Qxb6500568aGreatDoor
open Ieee
set_option linter.unusedVariables false
set_option linter.unusedSimpArgs false
set_option linter.unusedSectionVars false

section
variable {Ps : List Proto} {a : AS} {y : ATh} {gs : List AFr} {g : AFr} {vars : List PV}
/-- a thread that yields. -/
def yld (v : PV) (s1 : AS) : AS := match s1.stack with | [] => s1 | c :: r => let s2 : AS := { s1 with stack := r, cur := c }; apush2 (vBool true) v (s2.setT { s2.th with st := 4 })
/-- the state ahead of a call's own work: fuel burnt, the arguments gone. -/
def caS (a : AS) (y : ATh) (gs : List AFr) (g : AFr) (vars l : List PV) : AS := mkA { a with fuel := a.fuel - 1 } y gs { g with ops := l, pc := g.pc + 1 } vars
theorem acall_mk (hc : a.cur < a.ths.length) {zs l : List PV} {fn : PV} (ho : g.ops = zs.reverse ++ fn :: l) (hf : 0 < a.fuel) : acall Ps zs.length (mkA a y gs g vars) = acall1 Ps zs fn (caS a y gs g vars l) := by
  unfold acall
  rw [if_neg (show ¬ (mkA a y gs g vars).fuel = 0 by show ¬ a.fuel = 0; omega), mk_fr hc, ho]
  have e1 : (zs.reverse ++ fn :: l).take zs.length = zs.reverse := by rw [List.take_append_of_le_length (by simp), List.take_of_length_le (by simp)]
  have e2 : (zs.reverse ++ fn :: l).getD zs.length vNil = fn := by rw [List.getD_eq_getElem?_getD, List.getElem?_append_right (by simp), List.length_reverse, Nat.sub_self]; rfl
  have e3 : (zs.reverse ++ fn :: l).drop (zs.length + 1) = l := by rw [List.drop_append, List.drop_of_length_le (by simp), List.length_reverse, show zs.length + 1 - zs.length = 1 by omega]; rfl
  rw [e1, e2, e3, List.reverse_reverse]
  have e4 : ({ mkA a y gs g vars with fuel := (mkA a y gs g vars).fuel - 1 } : AS) = mkA { a with fuel := a.fuel - 1 } y gs g vars := rfl
  rw [e4, mk_ops (a := { a with fuel := a.fuel - 1 }) hc, mk_pc (a := { a with fuel := a.fuel - 1 }) hc]
  rfl
theorem aenter_mk (hc : a.cur < a.ths.length) {c p : Nat} {ids : List Nat} (hk : a.clos[c]? = some (p, ids)) {zs : List PV} {prot : Bool} : aenter Ps c zs prot (mkA a y gs g vars) = mkA a y (g :: gs) ⟨c, 0, (List.range (padTo (pr Ps p).ns (zs.take (pr Ps p).np)).length).map (vars.length + ·), [], prot⟩ (vars ++ padTo (pr Ps p).ns (zs.take (pr Ps p).np)) := by
  unfold aenter anew
  have e1 : (((mkA a y gs g vars).clos.getD c (0, [])).1) = p := by show (a.clos.getD c (0, [])).1 = p; rw [List.getD_eq_getElem?_getD, hk]; rfl
  simp only [e1]
  have e2 : ∀ vs, ({ mkA a y gs g vars with vars := (mkA a y gs g vars).vars ++ vs } : AS) = mkA a y gs g (vars ++ vs) := fun _ => rfl
  rw [e2, mk_th hc, mk_setT hc]
  rfl
end
section
variable {C : VC} {w : World} {ow : Nat → Nat} {a : AS} {y : ATh} {gs : List AFr} {g : AFr} {vars : List PV} {fg fc p : Nat} {ids : List Nat} {zs l : List PV} {fn : PV}
/-- a call's answer. -/
def CaR (C : VC) (w : World) (ow : Nat → Nat) (c : (Nat × List Nat × Nat × Bool) × Nat) (z : AS) (r : Value) (w' : World) : Prop := ∃ ow' s1, Xt w ow ow' ∧ Fram (tg ow vtT) w w' ∧ AMq C w' ow' s1 ∧ kN s1 = c.1 ∧ s1.done = false ∧ ((r = vevv 0 0 0 vNil vNil ∧ s1 = z) ∨ (∃ n b, r = vevv 4 n 0 b vNil ∧ rsm (Psf C.F) n b s1 = z ∧ n < s1.ths.length ∧ ((thA s1.ths n).st = 1 ∧ (thA s1.ths n).frs = [] ∨ (thA s1.ths n).st = 2) ∧ VV s1.clos.length s1.ths.length s1.tabs.length b) ∨ (∃ v, r = vevv 3 0 0 v vNil ∧ s1.cur ≠ 0 ∧ hs s1 = c.2 ∧ yld v s1 = z))
theorem ops_call {z : Nat} (h : z + 1 ≤ g.ops.length) : ∃ (zs : List PV) (fn : PV) (l : List PV), g.ops = zs.reverse ++ fn :: l ∧ zs.length = z := by
  refine ⟨(g.ops.take z).reverse, g.ops[z], g.ops.drop (z + 1), ?_, by rw [List.length_reverse, List.length_take]; omega⟩
  rw [List.reverse_reverse, List.getElem_cons_drop]
  exact (List.take_append_drop z g.ops).symm
theorem AM.selfN {s : AS} (h : AM C fg fc w ow s) : Fram none' w w := Fram.refl _ _
theorem PE.pcb {op z : Nat} (E : PE C fg fc w ow a y gs g vars p ids op z) : g.pc < 100000 ∧ g.pc < (fsAt C.F p).code.length ∧ (fsAt C.F p).code[g.pc]? = some (op, z) := by
  obtain ⟨V, κ, Vv, U, x, f, fs, o⟩ := E.r.open E.hc
  obtain ⟨lP, pa, pb, pc, hP, tP, rp, -, -, ⟨Cd, oC, wC, bC⟩⟩ := o.v.pro E.hp
  have h1 := E.sn.c
  rw [mk_pro E.hc E.hk, mk_fr E.hc] at h1
  unfold cod at h1
  rw [pr_psf] at h1
  have h1 : (fsAt C.F p).code[g.pc]? = some (op, z) := h1
  have h2 := (List.getElem?_eq_some_iff.1 h1).1
  have h3 := wC.1
  exact ⟨by omega, h2, h1⟩
theorem PE.vz {op z : Nat} (E : PE C fg fc w ow a y gs g vars p ids op z) (ho : g.ops = zs.reverse ++ fn :: l) (k : Nat) : VV a.clos.length a.ths.length a.tabs.length (zs.getD k vNil) := by
  rw [List.getD_eq_getElem?_getD]
  cases hk : zs[k]? with
  | none => exact .nil _ _ _
  | some v => exact E.vo (by rw [ho]; exact List.mem_append.2 (.inl (List.mem_reverse.2 (List.mem_of_getElem? hk))))
theorem burnA (hR : AM C fg fc w ow (mkA a y gs g vars)) (hf : 0 < a.fuel) : Ret Tryz.prog 258 [ptr C.E.mb] w (AR C fg fc w ow (.tuple #[]) (mkA { a with fuel := a.fuel - 1 } y gs g vars)) := burn1 hR hf
set_option maxHeartbeats 4000000 in
theorem call_0 (E : PE C fg fc w ow a y gs g vars p ids 26 zs.length) (hf : a.fuel = 0) : RetP Tryz.prog 245 [ptr C.E.mb, i64c a.cur, tptr C a.cur, fpt fg gs.length, i64c zs.length] w (CaR C w ow (kH a) (acall (Psf C.F) zs.length (mkA a y gs g vars))) (AE C (kH a) w ow (acall (Psf C.F) zs.length (mkA a y gs g vars))) := by
  have hR := E.r
  have hX : Xt w ow ow := Xt.refl _ _
  have hF : Fram (tg ow vtT) w w := Fram.refl _ _
  refine retp_of Tryz.func245 rfl Tryz.ntmps245 rfl ?_
  refine c_seq (fun K1 hK1 => ?_)
  refine c_reg ?_ -- region 0 call.go:30
  refine wl_new (ze_211) (fun b10 w1 hbb10 h10 F1 => ?_)
  have hbsb10 := Nat.le_trans hF.size hbb10
  have kh10 := hR.df b10 hbb10
  replace hF := hF.thenDrew.thenN F1
  replace hR := hR.thruN ((Fram.refl none' _).thenDrew.thenN F1)
  refine wl_nil (x_then (hK1 _ _ ?_))
  clear hK1 K1
  refine forget [(0, _), (1, _), (2, _), (3, _), (4, _), (10, _)] ⟨rfl, rfl, rfl, rfl, rfl, rfl, trivial⟩ (fun e => ?_)
  refine c_seq (fun K2 hK2 => ?_)
  refine c_reg ?_ -- region 1 call.go:31
  refine wl (ro_move rfl) ?_
  refine wl_callP rfl en_258 (burn0 hR.q hf) (fun pv w9 hE => bpp_pan (P := Tryz.prog) (fn := Tryz.f245) (AE.stop hX hF hR.q hE (ATr.of (by unfold acall; exact if_pos hf)))) ?_
  rintro _ _ ⟨⟩
set_option maxHeartbeats 8000000 in
theorem call_bad (E : PE C fg fc w ow a y gs g vars p ids 26 zs.length) (hf : 0 < a.fuel) (ho : g.ops = zs.reverse ++ fn :: l) (hT9 : fn.T ≠ 5 ∧ fn.T ≠ 6) : RetP Tryz.prog 245 [ptr C.E.mb, i64c a.cur, tptr C a.cur, fpt fg gs.length, i64c zs.length] w (CaR C w ow (kH a) (acall (Psf C.F) zs.length (mkA a y gs g vars))) (AE C (kH a) w ow (acall (Psf C.F) zs.length (mkA a y gs g vars))) := by
  have hR := E.r
  have hc := E.hc
  have hc0 := E.hc
  have hX : Xt w ow ow := Xt.refl _ _
  have hF : Fram (tg ow vtT) w w := Fram.refl _ _
  have hol := E.ol
  have hz3 : zs.length ≤ 3 := E.sn.r.2.2.2.2.2.2.2.2.1 rfl
  have hlo := congrArg List.length ho
  simp only [List.length_append, List.length_reverse, List.length_cons] at hlo
  have hvf : tg ow vtT fg := by
    obtain ⟨V, κ, Vv, U, x, f, fs, o⟩ := hR.open hc
    obtain ⟨lB, hB1, k1, -⟩ := o.pcS
    show vtT (ow fg)
    rw [k1]; left; have := o.lt; unfold vmT; omega
  have hvt0 : tg ow vtT C.E.tb := hR.q.vtb
  rw [acall_mk hc ho hf]
  obtain ⟨hpb, -, -⟩ := E.pcb
  refine retp_of Tryz.func245 rfl Tryz.ntmps245 rfl ?_
  refine c_seq (fun K1 hK1 => ?_)
  refine c_reg ?_ -- region 0 call.go:30
  refine wl_new (ze_211) (fun b10 w1 hbb10 h10 F1 => ?_)
  have hbsb10 := Nat.le_trans hF.size hbb10
  have kh10 := hR.df b10 hbb10
  replace hF := hF.thenDrew.thenN F1
  replace hR := hR.thruN ((Fram.refl none' _).thenDrew.thenN F1)
  refine wl_nil (x_then (hK1 _ _ ?_))
  clear hK1 K1
  refine forget [(0, _), (1, _), (2, _), (3, _), (4, _), (10, _)] ⟨rfl, rfl, rfl, rfl, rfl, rfl, trivial⟩ (fun e => ?_)
  refine c_seq (fun K2 hK2 => ?_)
  refine c_reg ?_ -- region 1 call.go:31
  refine wl (ro_move rfl) ?_
  refine wl_call rfl en_258 (burnA hR.dr hf) ?_
  rintro _ u2 ⟨rfl, ow2, x2, f2, r2⟩
  obtain ⟨h10, kh10⟩ := vm_loc x2 f2 h10 kh10
  have hs2 := hF.size
  replace hF := vm_trans hX hF f2
  replace hX := hX.trans hs2 x2
  replace hR := r2
  obtain ⟨V, κ, Vv, U, x, f, fs, o⟩ := AM.open (a := { a with fuel := a.fuel - 1 }) hR hc
  obtain ⟨sg, sc, lS, hU, hB5, ts, hcs, hln, rfn, rzs⟩ := o.cal ho
  have hlt : a.cur < 5 := o.lt
  have hdp := o.dp
  have hsl := o.sl
  have hbb := o.t.bb
  have hgsl := o.t.nl
  obtain ⟨pp, pids, -, -, hns⟩ := o.ns
  obtain ⟨lT, hT, -, -, -, hT2, -⟩ := o.v.thA o.t.hx
  have hT3 := hT2 3 (.inr (.inl rfl))
  have hT2 := hT2 2 (.inl rfl)
  have hU2 := hU
  rw [hln] at hU
  rw [hU] at hT2
  have hT3 : lT[a.cur * 5 + 3]? = some (.slice (some ⟨fg, 0, none⟩) (gs.length + 1) fc) := by rw [← o.hf]; exact hT3
  have hN0 := hR.selfN
  have htt := o.v.tt.1
  have hq9 : f.base + g.slots.length + l.length < 9000 := by omega
  generalize hqd : f.base + g.slots.length + l.length = q at *
  refine wl_nil (x_then (hK2 _ _ ?_))
  clear hK2 K2
  refine forget [(0, _), (1, _), (2, _), (3, _), (4, _), (10, _)] ⟨rfl, rfl, rfl, rfl, rfl, rfl, trivial⟩ (fun e => ?_)
  refine c_seq (fun K3 hK3 => ?_)
  refine c_reg ?_ -- region 2 call.go:32
  refine wl (ro_move rfl) ?_
  refine wl (ro_nilCheck rfl) ?_
  refine wl (ro_fieldAddr (k := 2) rfl fo_269_2) ?_
  refine wl (ro_loadB rfl sc_83 (hT) (hT2)) ?_
  refine wl (ro_lenL rfl se_83) ?_
  refine wl (ro_assign rfl) ?_
  refine wl_nil (x_then (hK3 _ _ ?_))
  clear hK3 K3
  refine forget [(0, _), (1, _), (2, _), (3, _), (4, _), (10, _), (11, _)] ⟨rfl, rfl, rfl, rfl, rfl, rfl, rfl, trivial⟩ (fun e => ?_)
  refine c_seq (fun K4 hK4 => ?_)
  refine c_reg ?_ -- region 3 call.go:33
  refine wl (ro_move rfl) ?_
  refine wl (ro_move rfl) ?_
  refine wl (ro_subN (r := q + 1) rfl rfl (by omega) (by omega)) ?_
  refine wl (ro_subN (r := q) (k := 1) rfl rfl (by omega) (by omega)) ?_
  refine wl (ro_assign rfl) ?_
  refine wl_nil (x_then (hK4 _ _ ?_))
  clear hK4 K4
  refine forget [(0, _), (1, _), (2, _), (3, _), (10, _), (11, _), (12, _)] ⟨rfl, rfl, rfl, rfl, rfl, rfl, rfl, trivial⟩ (fun e => ?_)
  refine c_seq (fun K5 hK5 => ?_)
  refine c_reg ?_ -- region 4 call.go:34
  refine wl (ro_move rfl) ?_
  refine wl (ro_nilCheck rfl) ?_
  refine wl (ro_fieldAddr (k := 2) rfl fo_269_2) ?_
  refine wl (ro_loadB rfl sc_83 (hT) (hT2)) ?_
  refine wl (ro_move rfl) ?_
  refine wl (ro_indexAddr (et := 119) (k := 3) rfl rfl se_83 (rfl) ((by omega))) ?_
  refine wl (ro_loadAggB rfl ag_119 (hB5) (pvc_len _) ((by rw [Nat.zero_add]; exact rfn))) ?_
  refine wl_new (ze_119) (fun b13 w3 hbb13 h13 F3 => ?_)
  have hbsb13 := Nat.le_trans hF.size hbb13
  have hneb10b13 : b10 < b13 := Nat.lt_of_lt_of_le h10.lt hbb13
  have hneC.E.tbb13 : C.E.tb < b13 := Nat.lt_of_lt_of_le hT.lt hbb13
  have hnesgb13 : sg < b13 := Nat.lt_of_lt_of_le hB5.lt hbb13
  have hbsb13 := Nat.le_trans hN0.size hbb13
  have kh13 := hR.df b13 hbb13
  replace hF := hF.thenDrew.thenN F3
  replace hR := hR.thruN ((Fram.refl none' _).thenDrew.thenN F3)
  replace h10 := F3.blkN h10
  replace hT := F3.blkN hT
  replace hB5 := F3.blkN hB5
  replace hN0 := hN0.thenDrew.thenN F3
  refine wl_puta rfl rfl ((pvc_one fn)) sz_119 (rfl) h13 ((by simp)) (rfl) (fun w4 h13 F4 => ?_)
  replace hF := hF.thenDrew.thenO F4 (by first | exact .inr (by omega) | exact .inl rfl | exact .inl (by assumption) | assumption)
  replace hR := hR.hbput ((Fram.refl (one b13) _).thenDrew.thenO F4 (.inl rfl))
  replace h10 := F4.blkO h10 (by first | omega | exact ow_ne (by assumption) (by assumption) (by omega))
  replace hT := F4.blkO hT (by first | omega | exact ow_ne (by assumption) (by assumption) (by omega))
  replace hB5 := F4.blkO hB5 (by first | omega | exact ow_ne (by assumption) (by assumption) (by omega))
  replace hN0 := hN0.thenDrew.thenO F4 (by first | exact .inr (by omega) | exact .inl rfl | exact .inl (by assumption) | assumption)
  refine wl_nil (x_then (hK5 _ _ ?_))
  clear hK5 K5
  refine forget [(0, _), (1, _), (2, _), (3, _), (10, _), (11, _), (12, _), (13, _)] ⟨rfl, rfl, rfl, rfl, rfl, rfl, rfl, rfl, trivial⟩ (fun e => ?_)
  refine c_seq (fun K6 hK6 => ?_)
  refine c_reg ?_ -- region 5 call.go:35
  refine wl (ro_move rfl) ?_
  refine wl (ro_nilCheck rfl) ?_
  refine wl (ro_fieldAddr (k := 2) rfl fo_269_2) ?_
  refine wl (ro_loadB rfl sc_83 (hT) (hT2)) ?_
  refine wl (ro_move rfl) ?_
  refine wl (ro_addN (k := 1) rfl rfl (by omega)) ?_
  refine wl (ro_move rfl) ?_
  refine wl (ro_move rfl) ?_
  refine wl (ro_slice3 (l := q + 1) (m := zs.length) rfl rfl rfl rfl se_83 (by omega) (by omega)) ?_
  refine wl (ro_assign rfl) ?_
  have o5 := o.thruN hN0
  have hpe := o5.t.pc
  obtain ⟨lB, hB1, k1, q1, q2, hpc⟩ := o5.pcS
  refine wl_nil (x_then (hK6 _ _ ?_))
  clear hK6 K6
  refine forget [(0, _), (1, _), (2, _), (3, _), (10, _), (12, _), (13, _), (14, _)] ⟨rfl, rfl, rfl, rfl, rfl, rfl, rfl, rfl, trivial⟩ (fun e => ?_)
  refine c_seq (fun K7 hK7 => ?_)
  refine c_reg ?_ -- region 6 call.go:36
  refine wl (ro_move rfl) ?_
  refine wl (ro_nilCheck rfl) ?_
  refine wl (ro_fieldAddr (k := 1) rfl fo_331_1) ?_
  refine wl (ro_loadB rfl sc_3 (hB1) (frow_at q1 (by decide))) ?_
  refine wl (ro_addN (k := 1) rfl rfl (by omega)) ?_
  refine wl (ro_nilCheck rfl) ?_
  refine wl (ro_fieldAddr (k := 1) rfl fo_331_1) ?_
  refine wl_put rfl rfl rfl sz_3 hB1 ((by omega)) (rfl) (fun w5 hB1 F5 => ?_)
  replace hF := hF.thenDrew.thenO F5 (by first | exact .inr (by omega) | exact .inl rfl | exact .inl (by assumption) | assumption)
  replace h10 := F5.blkO h10 (by first | omega | exact ow_ne (by assumption) (by assumption) (by omega))
  replace hT := F5.blkO hT (by first | omega | exact ow_ne (by assumption) (by assumption) (by omega))
  replace hB5 := F5.blkO hB5 (by first | omega | exact ow_ne (by assumption) (by assumption) (by omega))
  replace h13 := F5.blkO h13 (by first | omega | exact ow_ne (by assumption) (by assumption) (by omega))
  have o6 := hpc w5 (g.pc + 1) F5 (by rw [← hpe]; exact hB1)
  have hR := o6.am
  refine wl_nil (x_then (hK7 _ _ ?_))
  clear hK7 K7
  refine c_seq (fun K8 hK8 => ?_)
  refine c_seq (fun K9 hK9 => ?_)
  refine c_reg ?_ -- region 7 call.go:37
  refine wl (ro_fieldAddr (k := 0) rfl fo_119_0) ?_
  refine wl (ro_loadB rfl sc_3 (by assumption) rfl) ?_
  refine wl (ro_cmp (r := false) rfl rfl (congrArg some (by simpa using fun h ↦ hT9.1 (by omega)))) ?_
  refine wl_nil (x_then (hK9 _ _ ?_))
  clear hK9 K9
  refine wc_condF rfl ?_
  refine c_skip (x_then (hK8 _ _ ?_))
  clear hK8 K8
  refine c_seq (fun K10 hK10 => ?_)
  refine c_seq (fun K11 hK11 => ?_)
  refine c_reg ?_ -- region 12 call.go:44
  refine wl (ro_fieldAddr (k := 0) rfl fo_119_0) ?_
  refine wl (ro_loadB rfl sc_3 (by assumption) rfl) ?_
  refine wl (ro_cmp (r := true) rfl rfl (congrArg some (by simpa using fun h ↦ hT9.2 (by omega)))) ?_
  refine wl_nil (x_then (hK11 _ _ ?_))
  clear hK11 K11
  refine wc_condT rfl ?_
  refine c_reg ?_ -- region 13 call.go:45
  refine wl_callP rfl en_259 (raise259 (s := mCall)) (fun pv w9 hE => bpp_pan (P := Tryz.prog) (fn := Tryz.f245) (AE.thr hX hF hR.q hE ((by unfold acall1 caS; rw [if_neg hT9.1, if_pos hT9.2]; exact athrow_top (a := { a with fuel := a.fuel - 1 }) hc _ rfl)))) ?_
  rintro _ _ ⟨⟩
theorem RZ.clos {Ps : List Proto} {V : VS} {a : AS} {κ : List Nat} (h : RZ Ps V a κ) {c p : Nat} {ids : List Nat} (hk : a.clos[c]? = some (p, ids)) : ∃ cs, V.clos[c]? = some (p, cs) ∧ cs.length = ids.length := by
  have hl : c < V.clos.length := by rw [h.r.clen]; exact (List.getElem?_eq_some_iff.1 hk).1
  have hcl : V.clos[c]? = some (V.clos[c].1, V.clos[c].2) := List.getElem?_eq_getElem hl
  obtain ⟨q1, q2⟩ := h.r.clo _ _ _ hcl
  generalize V.clos[c] = z0 at *
  obtain ⟨p0, cs⟩ := z0
  rw [hk] at q1
  injection q1 with q1
  injection q1 with e1 e2
  subst e1
  exact ⟨cs, hcl, by rw [e2]; simp⟩
theorem PE.e8 {p : Nat} {ids : List Nat} {x : Nat} (E : PE C fg fc w ow a y gs g vars p ids 26 x) : g.ops.length ≤ 128 ∧ x ≤ 3 ∧ ∀ v ∈ g.ops, VV a.clos.length a.ths.length a.tabs.length v := by
  refine ⟨E.ol, E.sn.r.2.2.2.2.2.2.2.2.1 rfl, fun v hv => ?_⟩
  have := E.av.ops _ (List.mem_of_getElem? (mk_at E.hc)) g List.mem_cons_self v hv
  unfold aok at this
  have e : (mkA a y gs g vars).ths.length = a.ths.length := by show (a.ths.set _ _).length = _; rw [List.length_set]
  rw [e] at this
  exact this
theorem AO.ent {u : World} {V : VS} {κ : List Nat} {Vv : Nat → Value} {U : Nat → Nat → Value} {x : VTh} {f : VFr} {fs : List VFr} (o : AO C fg fc u ow a y gs g vars V κ Vv U x f fs) (ho : g.ops = zs.reverse ++ fn :: l) (hol : g.ops.length ≤ 131) (h8 : g.ops.length ≤ 128 ∧ zs.length ≤ 3 ∧ ∀ v ∈ g.ops, VV a.clos.length a.ths.length a.tabs.length v) {c p : Nat} {ids : List Nat} (hk : a.clos[c]? = some (p, ids)) (hp : p < C.F.length) (hd : gs.length + 1 < 8) {args : List PV} {av : Value} {ab ao : Nat} (hav : av = .slice (some ⟨ab, ao, none⟩) args.length args.length) (haw : WinB u ab ao (rws pvc args)) (hat : ab ≠ C.E.tb) (hao : own1 (U a.cur 2) ab → ao + args.length * 3 ≤ x.stack.length * 3) (ha3 : args.length ≤ 3) {prot : Bool} {q : Nat} (hq : f.base + g.slots.length + l.length = q) :
    Ret Tryz.prog 150 [ptr C.E.mb, tptr C a.cur, i64c c, av, i64c q, .bool prot] u (fun r w' => r = .tuple #[] ∧ ∃ ow', Xt u ow ow' ∧ Fram (tg ow vtT) u w' ∧ AMq C w' ow' (aenter (Psf C.F) c args prot (mkA a y gs { g with ops := l } vars))) := by
  subst hq
  obtain ⟨cs, hcs, hcl⟩ := o.z.clos (c := c) (p := p) (ids := ids) hk
  have hsl := o.sl
  have hfl : x.frs.length = gs.length + 1 := by rw [o.t.hf, List.length_cons, o.t.nl]
  have hbb := o.t.bb
  have hln := o.t.ln
  have hnl := o.t.nl
  obtain ⟨pp, pids, -, -, hns⟩ := o.ns
  refine (enter150 o.v o.t.hx hcs hp hav haw hat hao ha3 (by omega) (by omega)).mono ?_
  rintro r w' ⟨rfl, ow9, U9, x9, f9, hv9⟩
  refine ⟨rfl, ow9, x9, f9, ?_⟩
  have hz := o.z.enter o.hc o.t (c := c) (p := p) (ids := ids) (l := l) (zs := zs) (vs := padTo (fsAt C.F p).ns (args.take (fsAt C.F p).np)) (fn := fn) (prot := prot) ho hk (by rw [padTo_len, pr_psf]; rfl) hd (by omega) h8.2.1 h8.1 h8.2.2
  rw [aenter_mk o.hc hk]
  rw [pr_psf]
  rw [o.t.hf] at hv9
  exact ⟨_, κ, Vv, U9, hv9, hz⟩
set_option maxHeartbeats 8000000 in
theorem call_deep (E : PE C fg fc w ow a y gs g vars p ids 26 zs.length) (hf : 0 < a.fuel) (ho : g.ops = zs.reverse ++ fn :: l) (h5 : fn.T = 5) (hd : 8 ≤ gs.length + 1) : RetP Tryz.prog 245 [ptr C.E.mb, i64c a.cur, tptr C a.cur, fpt fg gs.length, i64c zs.length] w (CaR C w ow (kH a) (acall (Psf C.F) zs.length (mkA a y gs g vars))) (AE C (kH a) w ow (acall (Psf C.F) zs.length (mkA a y gs g vars))) := by
  have hR := E.r
  have hc := E.hc
  have hc0 := E.hc
  have hX : Xt w ow ow := Xt.refl _ _
  have hF : Fram (tg ow vtT) w w := Fram.refl _ _
  have hol := E.ol
  have hz3 : zs.length ≤ 3 := E.sn.r.2.2.2.2.2.2.2.2.1 rfl
  have hlo := congrArg List.length ho
  simp only [List.length_append, List.length_reverse, List.length_cons] at hlo
  have hvf : tg ow vtT fg := by
    obtain ⟨V, κ, Vv, U, x, f, fs, o⟩ := hR.open hc
    obtain ⟨lB, hB1, k1, -⟩ := o.pcS
    show vtT (ow fg)
    rw [k1]; left; have := o.lt; unfold vmT; omega
  have hvt0 : tg ow vtT C.E.tb := hR.q.vtb
  rw [acall_mk hc ho hf]
  obtain ⟨hpb, -, -⟩ := E.pcb
  have hdl : (caS a y gs g vars l).th.frs.length = gs.length + 1 := by unfold caS; rw [mk_th (a := { a with fuel := a.fuel - 1 }) hc]; rfl
  refine retp_of Tryz.func245 rfl Tryz.ntmps245 rfl ?_
  refine c_seq (fun K1 hK1 => ?_)
  refine c_reg ?_ -- region 0 call.go:30
  refine wl_new (ze_211) (fun b10 w1 hbb10 h10 F1 => ?_)
  have hbsb10 := Nat.le_trans hF.size hbb10
  have kh10 := hR.df b10 hbb10
  replace hF := hF.thenDrew.thenN F1
  replace hR := hR.thruN ((Fram.refl none' _).thenDrew.thenN F1)
  refine wl_nil (x_then (hK1 _ _ ?_))
  clear hK1 K1
  refine forget [(0, _), (1, _), (2, _), (3, _), (4, _), (10, _)] ⟨rfl, rfl, rfl, rfl, rfl, rfl, trivial⟩ (fun e => ?_)
  refine c_seq (fun K2 hK2 => ?_)
  refine c_reg ?_ -- region 1 call.go:31
  refine wl (ro_move rfl) ?_
  refine wl_call rfl en_258 (burnA hR.dr hf) ?_
  rintro _ u2 ⟨rfl, ow2, x2, f2, r2⟩
  obtain ⟨h10, kh10⟩ := vm_loc x2 f2 h10 kh10
  have hs2 := hF.size
  replace hF := vm_trans hX hF f2
  replace hX := hX.trans hs2 x2
  replace hR := r2
  obtain ⟨V, κ, Vv, U, x, f, fs, o⟩ := AM.open (a := { a with fuel := a.fuel - 1 }) hR hc
  obtain ⟨sg, sc, lS, hU, hB5, ts, hcs, hln, rfn, rzs⟩ := o.cal ho
  have hlt : a.cur < 5 := o.lt
  have hdp := o.dp
  have hsl := o.sl
  have hbb := o.t.bb
  have hgsl := o.t.nl
  obtain ⟨pp, pids, -, -, hns⟩ := o.ns
  obtain ⟨lT, hT, -, -, -, hT2, -⟩ := o.v.thA o.t.hx
  have hT3 := hT2 3 (.inr (.inl rfl))
  have hT2 := hT2 2 (.inl rfl)
  have hU2 := hU
  rw [hln] at hU
  rw [hU] at hT2
  have hT3 : lT[a.cur * 5 + 3]? = some (.slice (some ⟨fg, 0, none⟩) (gs.length + 1) fc) := by rw [← o.hf]; exact hT3
  have hN0 := hR.selfN
  have htt := o.v.tt.1
  have hq9 : f.base + g.slots.length + l.length < 9000 := by omega
  generalize hqd : f.base + g.slots.length + l.length = q at *
  refine wl_nil (x_then (hK2 _ _ ?_))
  clear hK2 K2
  refine forget [(0, _), (1, _), (2, _), (3, _), (4, _), (10, _)] ⟨rfl, rfl, rfl, rfl, rfl, rfl, trivial⟩ (fun e => ?_)
  refine c_seq (fun K3 hK3 => ?_)
  refine c_reg ?_ -- region 2 call.go:32
  refine wl (ro_move rfl) ?_
  refine wl (ro_nilCheck rfl) ?_
  refine wl (ro_fieldAddr (k := 2) rfl fo_269_2) ?_
  refine wl (ro_loadB rfl sc_83 (hT) (hT2)) ?_
  refine wl (ro_lenL rfl se_83) ?_
  refine wl (ro_assign rfl) ?_
  refine wl_nil (x_then (hK3 _ _ ?_))
  clear hK3 K3
  refine forget [(0, _), (1, _), (2, _), (3, _), (4, _), (10, _), (11, _)] ⟨rfl, rfl, rfl, rfl, rfl, rfl, rfl, trivial⟩ (fun e => ?_)
  refine c_seq (fun K4 hK4 => ?_)
  refine c_reg ?_ -- region 3 call.go:33
  refine wl (ro_move rfl) ?_
  refine wl (ro_move rfl) ?_
  refine wl (ro_subN (r := q + 1) rfl rfl (by omega) (by omega)) ?_
  refine wl (ro_subN (r := q) (k := 1) rfl rfl (by omega) (by omega)) ?_
  refine wl (ro_assign rfl) ?_
  refine wl_nil (x_then (hK4 _ _ ?_))
  clear hK4 K4
  refine forget [(0, _), (1, _), (2, _), (3, _), (10, _), (11, _), (12, _)] ⟨rfl, rfl, rfl, rfl, rfl, rfl, rfl, trivial⟩ (fun e => ?_)
  refine c_seq (fun K5 hK5 => ?_)
  refine c_reg ?_ -- region 4 call.go:34
  refine wl (ro_move rfl) ?_
  refine wl (ro_nilCheck rfl) ?_
  refine wl (ro_fieldAddr (k := 2) rfl fo_269_2) ?_
  refine wl (ro_loadB rfl sc_83 (hT) (hT2)) ?_
  refine wl (ro_move rfl) ?_
  refine wl (ro_indexAddr (et := 119) (k := 3) rfl rfl se_83 (rfl) ((by omega))) ?_
  refine wl (ro_loadAggB rfl ag_119 (hB5) (pvc_len _) ((by rw [Nat.zero_add]; exact rfn))) ?_
  refine wl_new (ze_119) (fun b13 w3 hbb13 h13 F3 => ?_)
  have hbsb13 := Nat.le_trans hF.size hbb13
  have hneb10b13 : b10 < b13 := Nat.lt_of_lt_of_le h10.lt hbb13
  have hneC.E.tbb13 : C.E.tb < b13 := Nat.lt_of_lt_of_le hT.lt hbb13
  have hnesgb13 : sg < b13 := Nat.lt_of_lt_of_le hB5.lt hbb13
  have hbsb13 := Nat.le_trans hN0.size hbb13
  have kh13 := hR.df b13 hbb13
  replace hF := hF.thenDrew.thenN F3
  replace hR := hR.thruN ((Fram.refl none' _).thenDrew.thenN F3)
  replace h10 := F3.blkN h10
  replace hT := F3.blkN hT
  replace hB5 := F3.blkN hB5
  replace hN0 := hN0.thenDrew.thenN F3
  refine wl_puta rfl rfl ((pvc_one fn)) sz_119 (rfl) h13 ((by simp)) (rfl) (fun w4 h13 F4 => ?_)
  replace hF := hF.thenDrew.thenO F4 (by first | exact .inr (by omega) | exact .inl rfl | exact .inl (by assumption) | assumption)
  replace hR := hR.hbput ((Fram.refl (one b13) _).thenDrew.thenO F4 (.inl rfl))
  replace h10 := F4.blkO h10 (by first | omega | exact ow_ne (by assumption) (by assumption) (by omega))
  replace hT := F4.blkO hT (by first | omega | exact ow_ne (by assumption) (by assumption) (by omega))
  replace hB5 := F4.blkO hB5 (by first | omega | exact ow_ne (by assumption) (by assumption) (by omega))
  replace hN0 := hN0.thenDrew.thenO F4 (by first | exact .inr (by omega) | exact .inl rfl | exact .inl (by assumption) | assumption)
  refine wl_nil (x_then (hK5 _ _ ?_))
  clear hK5 K5
  refine forget [(0, _), (1, _), (2, _), (3, _), (10, _), (11, _), (12, _), (13, _)] ⟨rfl, rfl, rfl, rfl, rfl, rfl, rfl, rfl, trivial⟩ (fun e => ?_)
  refine c_seq (fun K6 hK6 => ?_)
  refine c_reg ?_ -- region 5 call.go:35
  refine wl (ro_move rfl) ?_
  refine wl (ro_nilCheck rfl) ?_
  refine wl (ro_fieldAddr (k := 2) rfl fo_269_2) ?_
  refine wl (ro_loadB rfl sc_83 (hT) (hT2)) ?_
  refine wl (ro_move rfl) ?_
  refine wl (ro_addN (k := 1) rfl rfl (by omega)) ?_
  refine wl (ro_move rfl) ?_
  refine wl (ro_move rfl) ?_
  refine wl (ro_slice3 (l := q + 1) (m := zs.length) rfl rfl rfl rfl se_83 (by omega) (by omega)) ?_
  refine wl (ro_assign rfl) ?_
  have o5 := o.thruN hN0
  have hpe := o5.t.pc
  obtain ⟨lB, hB1, k1, q1, q2, hpc⟩ := o5.pcS
  refine wl_nil (x_then (hK6 _ _ ?_))
  clear hK6 K6
  refine forget [(0, _), (1, _), (2, _), (3, _), (10, _), (12, _), (13, _), (14, _)] ⟨rfl, rfl, rfl, rfl, rfl, rfl, rfl, rfl, trivial⟩ (fun e => ?_)
  refine c_seq (fun K7 hK7 => ?_)
  refine c_reg ?_ -- region 6 call.go:36
  refine wl (ro_move rfl) ?_
  refine wl (ro_nilCheck rfl) ?_
  refine wl (ro_fieldAddr (k := 1) rfl fo_331_1) ?_
  refine wl (ro_loadB rfl sc_3 (hB1) (frow_at q1 (by decide))) ?_
  refine wl (ro_addN (k := 1) rfl rfl (by omega)) ?_
  refine wl (ro_nilCheck rfl) ?_
  refine wl (ro_fieldAddr (k := 1) rfl fo_331_1) ?_
  refine wl_put rfl rfl rfl sz_3 hB1 ((by omega)) (rfl) (fun w5 hB1 F5 => ?_)
  replace hF := hF.thenDrew.thenO F5 (by first | exact .inr (by omega) | exact .inl rfl | exact .inl (by assumption) | assumption)
  replace h10 := F5.blkO h10 (by first | omega | exact ow_ne (by assumption) (by assumption) (by omega))
  replace hT := F5.blkO hT (by first | omega | exact ow_ne (by assumption) (by assumption) (by omega))
  replace hB5 := F5.blkO hB5 (by first | omega | exact ow_ne (by assumption) (by assumption) (by omega))
  replace h13 := F5.blkO h13 (by first | omega | exact ow_ne (by assumption) (by assumption) (by omega))
  have o6 := hpc w5 (g.pc + 1) F5 (by rw [← hpe]; exact hB1)
  have hR := o6.am
  refine wl_nil (x_then (hK7 _ _ ?_))
  clear hK7 K7
  refine c_seq (fun K8 hK8 => ?_)
  refine c_seq (fun K9 hK9 => ?_)
  refine c_reg ?_ -- region 7 call.go:37
  refine wl (ro_fieldAddr (k := 0) rfl fo_119_0) ?_
  refine wl (ro_loadB rfl sc_3 (by assumption) rfl) ?_
  refine wl (ro_cmp (r := true) rfl rfl (by rw [h5]; rfl)) ?_
  refine wl_nil (x_then (hK9 _ _ ?_))
  clear hK9 K9
  refine wc_condT rfl ?_
  refine c_seq (fun K10 hK10 => ?_)
  refine c_seq (fun K11 hK11 => ?_)
  refine c_reg ?_ -- region 8 call.go:38
  refine wl (ro_move rfl) ?_
  refine wl (ro_nilCheck rfl) ?_
  refine wl (ro_fieldAddr (k := 3) rfl fo_269_3) ?_
  refine wl (ro_loadB rfl sc_267 (hT) (hT3)) ?_
  refine wl (ro_lenL rfl se_267) ?_
  refine wl (ro_cmp (r := true) rfl rfl (congrArg some (decide_eq_true (by omega)))) ?_
  refine wl_nil (x_then (hK11 _ _ ?_))
  clear hK11 K11
  refine wc_condT rfl ?_
  refine c_reg ?_ -- region 9 call.go:39
  refine wl_callP rfl en_259 (raise259 (s := mDepth)) (fun pv w9 hE => bpp_pan (P := Tryz.prog) (fn := Tryz.f245) (AE.thr hX hF hR.q hE ((by unfold acall1; rw [if_pos h5, hdl, if_pos (decide_eq_true hd)]; exact (athrow_top (a := { a with fuel := a.fuel - 1 }) hc _ rfl))))) ?_
  rintro _ _ ⟨⟩
set_option maxHeartbeats 8000000 in
theorem call_fn (E : PE C fg fc w ow a y gs g vars p ids 26 zs.length) (hf : 0 < a.fuel) (ho : g.ops = zs.reverse ++ fn :: l) (h5 : fn.T = 5) (hd : gs.length + 1 < 8) {pn : Nat} {idn : List Nat} (hkn : a.clos[fn.N]? = some (pn, idn)) (hpn : pn < C.F.length) : RetP Tryz.prog 245 [ptr C.E.mb, i64c a.cur, tptr C a.cur, fpt fg gs.length, i64c zs.length] w (CaR C w ow (kH a) (acall (Psf C.F) zs.length (mkA a y gs g vars))) (AE C (kH a) w ow (acall (Psf C.F) zs.length (mkA a y gs g vars))) := by
  have hR := E.r
  have hc := E.hc
  have hc0 := E.hc
  have hX : Xt w ow ow := Xt.refl _ _
  have hF : Fram (tg ow vtT) w w := Fram.refl _ _
  have hol := E.ol
  have hz3 : zs.length ≤ 3 := E.sn.r.2.2.2.2.2.2.2.2.1 rfl
  have hlo := congrArg List.length ho
  simp only [List.length_append, List.length_reverse, List.length_cons] at hlo
  have hvf : tg ow vtT fg := by
    obtain ⟨V, κ, Vv, U, x, f, fs, o⟩ := hR.open hc
    obtain ⟨lB, hB1, k1, -⟩ := o.pcS
    show vtT (ow fg)
    rw [k1]; left; have := o.lt; unfold vmT; omega
  have hvt0 : tg ow vtT C.E.tb := hR.q.vtb
  rw [acall_mk hc ho hf]
  obtain ⟨hpb, -, -⟩ := E.pcb
  have hdl : (caS a y gs g vars l).th.frs.length = gs.length + 1 := by unfold caS; rw [mk_th (a := { a with fuel := a.fuel - 1 }) hc]; rfl
  have hfn := (List.getElem?_eq_some_iff.1 hkn).1
  have hcb := E.av.nc
  rw [mkA_clos] at hcb
  refine retp_of Tryz.func245 rfl Tryz.ntmps245 rfl ?_
  refine c_seq (fun K1 hK1 => ?_)
  refine c_reg ?_ -- region 0 call.go:30
  refine wl_new (ze_211) (fun b10 w1 hbb10 h10 F1 => ?_)
  have hbsb10 := Nat.le_trans hF.size hbb10
  have kh10 := hR.df b10 hbb10
  replace hF := hF.thenDrew.thenN F1
  replace hR := hR.thruN ((Fram.refl none' _).thenDrew.thenN F1)
  refine wl_nil (x_then (hK1 _ _ ?_))
  clear hK1 K1
  refine forget [(0, _), (1, _), (2, _), (3, _), (4, _), (10, _)] ⟨rfl, rfl, rfl, rfl, rfl, rfl, trivial⟩ (fun e => ?_)
  refine c_seq (fun K2 hK2 => ?_)
  refine c_reg ?_ -- region 1 call.go:31
  refine wl (ro_move rfl) ?_
  refine wl_call rfl en_258 (burnA hR.dr hf) ?_
  rintro _ u2 ⟨rfl, ow2, x2, f2, r2⟩
  obtain ⟨h10, kh10⟩ := vm_loc x2 f2 h10 kh10
  have hs2 := hF.size
  replace hF := vm_trans hX hF f2
  replace hX := hX.trans hs2 x2
  replace hR := r2
  obtain ⟨V, κ, Vv, U, x, f, fs, o⟩ := AM.open (a := { a with fuel := a.fuel - 1 }) hR hc
  obtain ⟨sg, sc, lS, hU, hB5, ts, hcs, hln, rfn, rzs⟩ := o.cal ho
  have hlt : a.cur < 5 := o.lt
  have hdp := o.dp
  have hsl := o.sl
  have hbb := o.t.bb
  have hgsl := o.t.nl
  obtain ⟨pp, pids, -, -, hns⟩ := o.ns
  obtain ⟨lT, hT, -, -, -, hT2, -⟩ := o.v.thA o.t.hx
  have hT3 := hT2 3 (.inr (.inl rfl))
  have hT2 := hT2 2 (.inl rfl)
  have hU2 := hU
  rw [hln] at hU
  rw [hU] at hT2
  have hT3 : lT[a.cur * 5 + 3]? = some (.slice (some ⟨fg, 0, none⟩) (gs.length + 1) fc) := by rw [← o.hf]; exact hT3
  have hN0 := hR.selfN
  have htt := o.v.tt.1
  have hq9 : f.base + g.slots.length + l.length < 9000 := by omega
  generalize hqd : f.base + g.slots.length + l.length = q at *
  refine wl_nil (x_then (hK2 _ _ ?_))
  clear hK2 K2
  refine forget [(0, _), (1, _), (2, _), (3, _), (4, _), (10, _)] ⟨rfl, rfl, rfl, rfl, rfl, rfl, trivial⟩ (fun e => ?_)
  refine c_seq (fun K3 hK3 => ?_)
  refine c_reg ?_ -- region 2 call.go:32
  refine wl (ro_move rfl) ?_
  refine wl (ro_nilCheck rfl) ?_
  refine wl (ro_fieldAddr (k := 2) rfl fo_269_2) ?_
  refine wl (ro_loadB rfl sc_83 (hT) (hT2)) ?_
  refine wl (ro_lenL rfl se_83) ?_
  refine wl (ro_assign rfl) ?_
  refine wl_nil (x_then (hK3 _ _ ?_))
  clear hK3 K3
  refine forget [(0, _), (1, _), (2, _), (3, _), (4, _), (10, _), (11, _)] ⟨rfl, rfl, rfl, rfl, rfl, rfl, rfl, trivial⟩ (fun e => ?_)
  refine c_seq (fun K4 hK4 => ?_)
  refine c_reg ?_ -- region 3 call.go:33
  refine wl (ro_move rfl) ?_
  refine wl (ro_move rfl) ?_
  refine wl (ro_subN (r := q + 1) rfl rfl (by omega) (by omega)) ?_
  refine wl (ro_subN (r := q) (k := 1) rfl rfl (by omega) (by omega)) ?_
  refine wl (ro_assign rfl) ?_
  refine wl_nil (x_then (hK4 _ _ ?_))
  clear hK4 K4
  refine forget [(0, _), (1, _), (2, _), (3, _), (10, _), (11, _), (12, _)] ⟨rfl, rfl, rfl, rfl, rfl, rfl, rfl, trivial⟩ (fun e => ?_)
  refine c_seq (fun K5 hK5 => ?_)
  refine c_reg ?_ -- region 4 call.go:34
  refine wl (ro_move rfl) ?_
  refine wl (ro_nilCheck rfl) ?_
  refine wl (ro_fieldAddr (k := 2) rfl fo_269_2) ?_
  refine wl (ro_loadB rfl sc_83 (hT) (hT2)) ?_
  refine wl (ro_move rfl) ?_
  refine wl (ro_indexAddr (et := 119) (k := 3) rfl rfl se_83 (rfl) ((by omega))) ?_
  refine wl (ro_loadAggB rfl ag_119 (hB5) (pvc_len _) ((by rw [Nat.zero_add]; exact rfn))) ?_
  refine wl_new (ze_119) (fun b13 w3 hbb13 h13 F3 => ?_)
  have hbsb13 := Nat.le_trans hF.size hbb13
  have hneb10b13 : b10 < b13 := Nat.lt_of_lt_of_le h10.lt hbb13
  have hneC.E.tbb13 : C.E.tb < b13 := Nat.lt_of_lt_of_le hT.lt hbb13
  have hnesgb13 : sg < b13 := Nat.lt_of_lt_of_le hB5.lt hbb13
  have hbsb13 := Nat.le_trans hN0.size hbb13
  have kh13 := hR.df b13 hbb13
  replace hF := hF.thenDrew.thenN F3
  replace hR := hR.thruN ((Fram.refl none' _).thenDrew.thenN F3)
  replace h10 := F3.blkN h10
  replace hT := F3.blkN hT
  replace hB5 := F3.blkN hB5
  replace hN0 := hN0.thenDrew.thenN F3
  refine wl_puta rfl rfl ((pvc_one fn)) sz_119 (rfl) h13 ((by simp)) (rfl) (fun w4 h13 F4 => ?_)
  replace hF := hF.thenDrew.thenO F4 (by first | exact .inr (by omega) | exact .inl rfl | exact .inl (by assumption) | assumption)
  replace hR := hR.hbput ((Fram.refl (one b13) _).thenDrew.thenO F4 (.inl rfl))
  replace h10 := F4.blkO h10 (by first | omega | exact ow_ne (by assumption) (by assumption) (by omega))
  replace hT := F4.blkO hT (by first | omega | exact ow_ne (by assumption) (by assumption) (by omega))
  replace hB5 := F4.blkO hB5 (by first | omega | exact ow_ne (by assumption) (by assumption) (by omega))
  replace hN0 := hN0.thenDrew.thenO F4 (by first | exact .inr (by omega) | exact .inl rfl | exact .inl (by assumption) | assumption)
  refine wl_nil (x_then (hK5 _ _ ?_))
  clear hK5 K5
  refine forget [(0, _), (1, _), (2, _), (3, _), (10, _), (11, _), (12, _), (13, _)] ⟨rfl, rfl, rfl, rfl, rfl, rfl, rfl, rfl, trivial⟩ (fun e => ?_)
  refine c_seq (fun K6 hK6 => ?_)
  refine c_reg ?_ -- region 5 call.go:35
  refine wl (ro_move rfl) ?_
  refine wl (ro_nilCheck rfl) ?_
  refine wl (ro_fieldAddr (k := 2) rfl fo_269_2) ?_
  refine wl (ro_loadB rfl sc_83 (hT) (hT2)) ?_
  refine wl (ro_move rfl) ?_
  refine wl (ro_addN (k := 1) rfl rfl (by omega)) ?_
  refine wl (ro_move rfl) ?_
  refine wl (ro_move rfl) ?_
  refine wl (ro_slice3 (l := q + 1) (m := zs.length) rfl rfl rfl rfl se_83 (by omega) (by omega)) ?_
  refine wl (ro_assign rfl) ?_
  have o5 := o.thruN hN0
  have hpe := o5.t.pc
  obtain ⟨lB, hB1, k1, q1, q2, hpc⟩ := o5.pcS
  refine wl_nil (x_then (hK6 _ _ ?_))
  clear hK6 K6
  refine forget [(0, _), (1, _), (2, _), (3, _), (10, _), (12, _), (13, _), (14, _)] ⟨rfl, rfl, rfl, rfl, rfl, rfl, rfl, rfl, trivial⟩ (fun e => ?_)
  refine c_seq (fun K7 hK7 => ?_)
  refine c_reg ?_ -- region 6 call.go:36
  refine wl (ro_move rfl) ?_
  refine wl (ro_nilCheck rfl) ?_
  refine wl (ro_fieldAddr (k := 1) rfl fo_331_1) ?_
  refine wl (ro_loadB rfl sc_3 (hB1) (frow_at q1 (by decide))) ?_
  refine wl (ro_addN (k := 1) rfl rfl (by omega)) ?_
  refine wl (ro_nilCheck rfl) ?_
  refine wl (ro_fieldAddr (k := 1) rfl fo_331_1) ?_
  refine wl_put rfl rfl rfl sz_3 hB1 ((by omega)) (rfl) (fun w5 hB1 F5 => ?_)
  replace hF := hF.thenDrew.thenO F5 (by first | exact .inr (by omega) | exact .inl rfl | exact .inl (by assumption) | assumption)
  replace h10 := F5.blkO h10 (by first | omega | exact ow_ne (by assumption) (by assumption) (by omega))
  replace hT := F5.blkO hT (by first | omega | exact ow_ne (by assumption) (by assumption) (by omega))
  replace hB5 := F5.blkO hB5 (by first | omega | exact ow_ne (by assumption) (by assumption) (by omega))
  replace h13 := F5.blkO h13 (by first | omega | exact ow_ne (by assumption) (by assumption) (by omega))
  have o6 := hpc w5 (g.pc + 1) F5 (by rw [← hpe]; exact hB1)
  have hR := o6.am
  have hwz : (lS.drop (if zs.length = 0 then 0 else 0 + (q + 1) * 3)).take (rws pvc zs).length = rws pvc zs := by
    rw [rws_len pvc_len]
    by_cases h0 : zs.length = 0
    · rw [if_pos h0, h0, Nat.zero_mul, List.take_zero, List.eq_nil_of_length_eq_zero h0]; rfl
    · rw [if_neg h0, Nat.zero_add]; exact rzs
  have hsg : sg ≠ C.E.tb := fun h ↦ by rw [h, htt] at ts; omega
  have hso : own1 (U a.cur 2) sg → (if zs.length = 0 then 0 else 0 + (q + 1) * 3) + zs.length * 3 ≤ x.stack.length * 3 := fun _ ↦ by
    split
    · omega
    · omega
  refine wl_nil (x_then (hK7 _ _ ?_))
  clear hK7 K7
  refine c_seq (fun K8 hK8 => ?_)
  refine c_seq (fun K9 hK9 => ?_)
  refine c_reg ?_ -- region 7 call.go:37
  refine wl (ro_fieldAddr (k := 0) rfl fo_119_0) ?_
  refine wl (ro_loadB rfl sc_3 (by assumption) rfl) ?_
  refine wl (ro_cmp (r := true) rfl rfl (by rw [h5]; rfl)) ?_
  refine wl_nil (x_then (hK9 _ _ ?_))
  clear hK9 K9
  refine wc_condT rfl ?_
  refine c_seq (fun K10 hK10 => ?_)
  refine c_seq (fun K11 hK11 => ?_)
  refine c_reg ?_ -- region 8 call.go:38
  refine wl (ro_move rfl) ?_
  refine wl (ro_nilCheck rfl) ?_
  refine wl (ro_fieldAddr (k := 3) rfl fo_269_3) ?_
  refine wl (ro_loadB rfl sc_267 (hT) (hT3)) ?_
  refine wl (ro_lenL rfl se_267) ?_
  refine wl (ro_cmp (r := false) rfl rfl (congrArg some (decide_eq_false (by omega)))) ?_
  refine wl_nil (x_then (hK11 _ _ ?_))
  clear hK11 K11
  refine wc_condF rfl ?_
  refine c_skip (x_then (hK10 _ _ ?_))
  clear hK10 K10
  refine forget [(0, _), (2, _), (10, _), (12, _), (13, _), (14, _)] ⟨rfl, rfl, rfl, rfl, rfl, rfl, trivial⟩ (fun e => ?_)
  refine c_seq (fun K12 hK12 => ?_)
  refine c_reg ?_ -- region 10 call.go:41
  refine wl (ro_move rfl) ?_
  refine wl (ro_move rfl) ?_
  refine wl (ro_fieldAddr (k := 1) rfl fo_119_1) ?_
  refine wl (ro_loadB rfl sc_117 (by assumption) rfl) ?_
  refine wl (ro_conv (a := (fn.N : Int)) rfl sc_117 in_3 (Go.IntWalk.i64_in _ (by omega))) ?_
  refine wl (ro_move rfl) ?_
  refine wl (ro_move rfl) ?_
  refine wl_call rfl en_150 (AO.ent (prot := false) o6 ho (show g.ops.length ≤ 131 by omega) E.e8 hkn hpn hd rfl ⟨lS, 119, hB5, hwz⟩ hsg hso hz3 hqd) ?_
  rintro _ u9 ⟨rfl, ow9, x9, f9, hq9⟩
  obtain ⟨h10, kh10⟩ := vm_loc x9 f9 h10 kh10
  obtain ⟨h13, kh13⟩ := vm_loc x9 f9 h13 kh13
  have hs9 := hF.size
  replace hF := vm_trans hX hF f9
  replace hX := hX.trans hs9 x9
  refine wl_nil (x_then (hK12 _ _ ?_))
  clear hK12 K12
  refine forget [(10, _)] ⟨rfl, trivial⟩ (fun e => ?_)
  refine c_seq (fun K13 hK13 => ?_)
  refine c_reg ?_ -- region 11 call.go:42
  refine wl (ro_build rfl bld_211) ?_
  refine wl_puta rfl rfl ((vevc_one 0 0 0 vNil vNil)) sz_211 (rfl) h10 ((by simp)) (rfl) (fun w6 h10 F6 => ?_)
  replace hF := hF.thenDrew.thenO F6 (by first | exact .inr (by omega) | exact .inl rfl | exact .inl (by assumption) | assumption)
  replace h13 := F6.blkO h13 (by first | omega | exact ow_ne (by assumption) (by assumption) (by omega))
  replace hq9 := hq9.hbput ((Fram.refl (one b10) _).thenDrew.thenO F6 (.inl rfl))
  refine wl_nil (x_then (hK13 _ _ ?_))
  clear hK13 K13
  refine c_ret (x_thenR ?_)
  refine bqp_ret (res1 Tryz.results245 (rv_c rfl ag_211 (h10) (rfl))) ?_
  exact ⟨ow9, _, hX, hF, hq9, rfl, E.sn.d, .inl ⟨rfl, by unfold acall1; rw [if_pos h5, hdl, if_neg (by rw [decide_eq_true_eq]; omega)]; rfl⟩⟩
end
end Go.Proofs.Qxb6500568aGreatDoor
