import Derived.Test.Qxb6500568aGreatDoorQc
/- The machine: calls, built in. -/
namespace Go.Proofs.Qxb6500568aGreatDoor
open Ieee
set_option linter.unusedVariables false
set_option linter.unusedSimpArgs false
set_option linter.unusedSectionVars false

section
variable {C : VC} {w : World} {ow : Nat → Nat} {a : AS} {y : ATh} {gs : List AFr} {g : AFr} {vars : List PV} {fg fc p : Nat} {ids : List Nat} {zs l : List PV} {fn : PV}
theorem eqF {n k : Nat} (h : n ≠ k) : some ((n : Int) == (k : Int)) = some false := by
  congr 1
  rw [beq_eq_false_iff_ne]
  omega
theorem mk_spawn (hc : a.cur < a.ths.length) (t : ATh) : ({ mkA a y gs g vars with ths := (mkA a y gs g vars).ths ++ [t] } : AS) = mkA { a with ths := a.ths ++ [t] } y gs g vars := by
  unfold mkA
  dsimp only
  rw [List.set_append_left _ _ hc]
theorem nCreM {n : Nat} {a0 a1 a2 : PV} {ab ao : Nat} (hR : AN C fg fc n w ow (mkA a y gs g vars)) (hc : a.cur < a.ths.length) (hA : WinB w ab ao (rws pvc [a0, a1, a2])) (h5 : a.ths.length ≤ 5) (hN : a0.T = 5 → a0.N < 4294967296) {z : AS} (hz : a0.T ≠ 5 → z = araise mCall (mkA a y gs g vars)) (hz8 : a0.T = 5 → 5 ≤ a.ths.length → ATr 8 (mkA a y gs g vars) z) :
    RetP Tryz.prog 266 [ptr C.E.mb, apt ab ao] w (fun r w' => (a0.T = 5 ∧ a.ths.length < 5) ∧ NR C fg fc n w ow (.tuple #[pv (vCo a.ths.length), pv vNil]) (mkA { a with ths := a.ths ++ [⟨1, a0.N, []⟩] } y gs g vars) r w') (AE C (kH a) w ow z) := by
  have e : (mkA a y gs g vars).ths.length = a.ths.length := List.length_set
  have := nCre hR (by rw [e]; exact hc) hA (by rw [e]; exact h5) hN hz (by rw [e]; exact hz8)
  rw [mk_spawn hc, e] at this
  rw [mk_kH] at this
  exact this
theorem caS_sp (hc : a.cur < a.ths.length) (t : ATh) : ({ caS a y gs g vars l with ths := (caS a y gs g vars l).ths ++ [t] } : AS) = mkA { a with fuel := a.fuel - 1, ths := a.ths ++ [t] } y gs { g with ops := l, pc := g.pc + 1 } vars := mk_spawn (a := { a with fuel := a.fuel - 1 }) hc t
theorem caS_len : (caS a y gs g vars l).ths.length = a.ths.length := List.length_set
set_option maxHeartbeats 8000000 in
theorem nat_8 (E : PE C fg fc w ow a y gs g vars p ids 26 zs.length) (hf : 0 < a.fuel) (ho : g.ops = zs.reverse ++ fn :: l) (h6 : fn.T = 6) (hN : fn.N = 8)  : RetP Tryz.prog 245 [ptr C.E.mb, i64c a.cur, tptr C a.cur, fpt fg gs.length, i64c zs.length] w (CaR C w ow (kH a) (acall (Psf C.F) zs.length (mkA a y gs g vars))) (AE C (kH a) w ow (acall (Psf C.F) zs.length (mkA a y gs g vars))) := by
  have hR := E.r
  have hc := E.hc
  have hc0 := E.hc
  have hX : Xt w ow ow := Xt.refl _ _
  have hF : Fram (tg ow vtT) w w := Fram.refl _ _
  have hol := E.ol
  have hz3 : zs.length ≤ 3 := E.sn.r.2.2.2.2.2.2.2.2.1 rfl
  have hlo := congrArg List.length ho
  simp only [List.length_append, List.length_reverse, List.length_cons] at hlo
  have hvf : tg ow vtT fg := by
    obtain ⟨V, κ, Vv, U, x, f, fs, o⟩ := hR.open hc
    obtain ⟨lB, hB1, k1, -⟩ := o.pcS
    show vtT (ow fg)
    rw [k1]; left; have := o.lt; unfold vmT; omega
  have hvt0 : tg ow vtT C.E.tb := hR.q.vtb
  rw [acall_mk hc ho hf]
  obtain ⟨hpb, -, -⟩ := E.pcb
  have hvz : ∀ k, VV a.clos.length a.ths.length a.tabs.length (zs.getD k vNil) := fun k => by
    rw [List.getD_eq_getElem?_getD]
    cases hk : zs[k]? with
    | none => exact .nil _ _ _
    | some v => exact E.vo (by rw [ho]; exact List.mem_append.2 (.inl (List.mem_reverse.2 (List.mem_of_getElem? hk))))
  have hnt : a.ths.length ≤ 5 := by have := E.av.nt; rw [show (mkA a y gs g vars).ths.length = a.ths.length from List.length_set] at this; exact this
  refine retp_of Tryz.func245 rfl Tryz.ntmps245 rfl ?_
  refine c_seq (fun K1 hK1 => ?_)
  refine c_reg ?_ -- region 0 call.go:30
  refine wl_new (ze_211) (fun b10 w1 hbb10 h10 F1 => ?_)
  have hbsb10 := Nat.le_trans hF.size hbb10
  have kh10 := hR.df b10 hbb10
  replace hF := hF.thenDrew.thenN F1
  replace hR := hR.thruN ((Fram.refl none' _).thenDrew.thenN F1)
  refine wl_nil (x_then (hK1 _ _ ?_))
  clear hK1 K1
  refine forget [(0, _), (1, _), (2, _), (3, _), (4, _), (10, _)] ⟨rfl, rfl, rfl, rfl, rfl, rfl, trivial⟩ (fun e => ?_)
  refine c_seq (fun K2 hK2 => ?_)
  refine c_reg ?_ -- region 1 call.go:31
  refine wl (ro_move rfl) ?_
  refine wl_call rfl en_258 (burnA hR.dr hf) ?_
  rintro _ u2 ⟨rfl, ow2, x2, f2, r2⟩
  obtain ⟨h10, kh10⟩ := vm_loc x2 f2 h10 kh10
  have hs2 := hF.size
  replace hF := vm_trans hX hF f2
  replace hX := hX.trans hs2 x2
  replace hR := r2
  obtain ⟨V, κ, Vv, U, x, f, fs, o⟩ := AM.open (a := { a with fuel := a.fuel - 1 }) hR hc
  obtain ⟨sg, sc, lS, hU, hB5, ts, hcs, hln, rfn, rzs⟩ := o.cal ho
  have hlt : a.cur < 5 := o.lt
  have hdp := o.dp
  have hsl := o.sl
  have hbb := o.t.bb
  have hgsl := o.t.nl
  obtain ⟨pp, pids, -, -, hns⟩ := o.ns
  obtain ⟨lT, hT, -, -, -, hT2, -⟩ := o.v.thA o.t.hx
  have hT3 := hT2 3 (.inr (.inl rfl))
  have hT2 := hT2 2 (.inl rfl)
  have hU2 := hU
  rw [hln] at hU
  rw [hU] at hT2
  have hT3 : lT[a.cur * 5 + 3]? = some (.slice (some ⟨fg, 0, none⟩) (gs.length + 1) fc) := by rw [← o.hf]; exact hT3
  have hN0 := hR.selfN
  have htt := o.v.tt.1
  have hq9 : f.base + g.slots.length + l.length < 9000 := by omega
  generalize hqd : f.base + g.slots.length + l.length = q at *
  refine wl_nil (x_then (hK2 _ _ ?_))
  clear hK2 K2
  refine forget [(0, _), (1, _), (2, _), (3, _), (4, _), (10, _)] ⟨rfl, rfl, rfl, rfl, rfl, rfl, trivial⟩ (fun e => ?_)
  refine c_seq (fun K3 hK3 => ?_)
  refine c_reg ?_ -- region 2 call.go:32
  refine wl (ro_move rfl) ?_
  refine wl (ro_nilCheck rfl) ?_
  refine wl (ro_fieldAddr (k := 2) rfl fo_269_2) ?_
  refine wl (ro_loadB rfl sc_83 (hT) (hT2)) ?_
  refine wl (ro_lenL rfl se_83) ?_
  refine wl (ro_assign rfl) ?_
  refine wl_nil (x_then (hK3 _ _ ?_))
  clear hK3 K3
  refine forget [(0, _), (1, _), (2, _), (3, _), (4, _), (10, _), (11, _)] ⟨rfl, rfl, rfl, rfl, rfl, rfl, rfl, trivial⟩ (fun e => ?_)
  refine c_seq (fun K4 hK4 => ?_)
  refine c_reg ?_ -- region 3 call.go:33
  refine wl (ro_move rfl) ?_
  refine wl (ro_move rfl) ?_
  refine wl (ro_subN (r := q + 1) rfl rfl (by omega) (by omega)) ?_
  refine wl (ro_subN (r := q) (k := 1) rfl rfl (by omega) (by omega)) ?_
  refine wl (ro_assign rfl) ?_
  refine wl_nil (x_then (hK4 _ _ ?_))
  clear hK4 K4
  refine forget [(0, _), (1, _), (2, _), (3, _), (10, _), (11, _), (12, _)] ⟨rfl, rfl, rfl, rfl, rfl, rfl, rfl, trivial⟩ (fun e => ?_)
  refine c_seq (fun K5 hK5 => ?_)
  refine c_reg ?_ -- region 4 call.go:34
  refine wl (ro_move rfl) ?_
  refine wl (ro_nilCheck rfl) ?_
  refine wl (ro_fieldAddr (k := 2) rfl fo_269_2) ?_
  refine wl (ro_loadB rfl sc_83 (hT) (hT2)) ?_
  refine wl (ro_move rfl) ?_
  refine wl (ro_indexAddr (et := 119) (k := 3) rfl rfl se_83 (rfl) ((by omega))) ?_
  refine wl (ro_loadAggB rfl ag_119 (hB5) (pvc_len _) ((by rw [Nat.zero_add]; exact rfn))) ?_
  refine wl_new (ze_119) (fun b13 w3 hbb13 h13 F3 => ?_)
  have hbsb13 := Nat.le_trans hF.size hbb13
  have hneb10b13 : b10 < b13 := Nat.lt_of_lt_of_le h10.lt hbb13
  have hneC.E.tbb13 : C.E.tb < b13 := Nat.lt_of_lt_of_le hT.lt hbb13
  have hnesgb13 : sg < b13 := Nat.lt_of_lt_of_le hB5.lt hbb13
  have hbsb13 := Nat.le_trans hN0.size hbb13
  have kh13 := hR.df b13 hbb13
  replace hF := hF.thenDrew.thenN F3
  replace hR := hR.thruN ((Fram.refl none' _).thenDrew.thenN F3)
  replace h10 := F3.blkN h10
  replace hT := F3.blkN hT
  replace hB5 := F3.blkN hB5
  replace hN0 := hN0.thenDrew.thenN F3
  refine wl_puta rfl rfl ((pvc_one fn)) sz_119 (rfl) h13 ((by simp)) (rfl) (fun w4 h13 F4 => ?_)
  replace hF := hF.thenDrew.thenO F4 (by first | exact .inr (by omega) | exact .inl rfl | exact .inl (by assumption) | assumption)
  replace hR := hR.hbput ((Fram.refl (one b13) _).thenDrew.thenO F4 (.inl rfl))
  replace h10 := F4.blkO h10 (by first | omega | exact ow_ne (by assumption) (by assumption) (by omega))
  replace hT := F4.blkO hT (by first | omega | exact ow_ne (by assumption) (by assumption) (by omega))
  replace hB5 := F4.blkO hB5 (by first | omega | exact ow_ne (by assumption) (by assumption) (by omega))
  replace hN0 := hN0.thenDrew.thenO F4 (by first | exact .inr (by omega) | exact .inl rfl | exact .inl (by assumption) | assumption)
  refine wl_nil (x_then (hK5 _ _ ?_))
  clear hK5 K5
  refine forget [(0, _), (1, _), (2, _), (3, _), (10, _), (11, _), (12, _), (13, _)] ⟨rfl, rfl, rfl, rfl, rfl, rfl, rfl, rfl, trivial⟩ (fun e => ?_)
  refine c_seq (fun K6 hK6 => ?_)
  refine c_reg ?_ -- region 5 call.go:35
  refine wl (ro_move rfl) ?_
  refine wl (ro_nilCheck rfl) ?_
  refine wl (ro_fieldAddr (k := 2) rfl fo_269_2) ?_
  refine wl (ro_loadB rfl sc_83 (hT) (hT2)) ?_
  refine wl (ro_move rfl) ?_
  refine wl (ro_addN (k := 1) rfl rfl (by omega)) ?_
  refine wl (ro_move rfl) ?_
  refine wl (ro_move rfl) ?_
  refine wl (ro_slice3 (l := q + 1) (m := zs.length) rfl rfl rfl rfl se_83 (by omega) (by omega)) ?_
  refine wl (ro_assign rfl) ?_
  have o5 := o.thruN hN0
  have hpe := o5.t.pc
  obtain ⟨lB, hB1, k1, q1, q2, hpc⟩ := o5.pcS
  refine wl_nil (x_then (hK6 _ _ ?_))
  clear hK6 K6
  refine forget [(0, _), (1, _), (2, _), (3, _), (10, _), (12, _), (13, _), (14, _)] ⟨rfl, rfl, rfl, rfl, rfl, rfl, rfl, rfl, trivial⟩ (fun e => ?_)
  refine c_seq (fun K7 hK7 => ?_)
  refine c_reg ?_ -- region 6 call.go:36
  refine wl (ro_move rfl) ?_
  refine wl (ro_nilCheck rfl) ?_
  refine wl (ro_fieldAddr (k := 1) rfl fo_331_1) ?_
  refine wl (ro_loadB rfl sc_3 (hB1) (frow_at q1 (by decide))) ?_
  refine wl (ro_addN (k := 1) rfl rfl (by omega)) ?_
  refine wl (ro_nilCheck rfl) ?_
  refine wl (ro_fieldAddr (k := 1) rfl fo_331_1) ?_
  refine wl_put rfl rfl rfl sz_3 hB1 ((by omega)) (rfl) (fun w5 hB1 F5 => ?_)
  replace hF := hF.thenDrew.thenO F5 (by first | exact .inr (by omega) | exact .inl rfl | exact .inl (by assumption) | assumption)
  replace h10 := F5.blkO h10 (by first | omega | exact ow_ne (by assumption) (by assumption) (by omega))
  replace hT := F5.blkO hT (by first | omega | exact ow_ne (by assumption) (by assumption) (by omega))
  replace hB5 := F5.blkO hB5 (by first | omega | exact ow_ne (by assumption) (by assumption) (by omega))
  replace h13 := F5.blkO h13 (by first | omega | exact ow_ne (by assumption) (by assumption) (by omega))
  have o6 := hpc w5 (g.pc + 1) F5 (by rw [← hpe]; exact hB1)
  have hR := o6.am
  have hN6 := hR.selfN
  have hsgt : sg ≠ C.E.tb := fun h ↦ by rw [h, htt] at ts; omega
  have htl9 := hT.lt
  have hdf6 := o6.v.df
  have hwz : (lS.drop (if zs.length = 0 then 0 else 0 + (q + 1) * 3)).take (rws pvc zs).length = rws pvc zs := by
    rw [rws_len pvc_len]
    by_cases h0 : zs.length = 0
    · rw [if_pos h0, h0, Nat.zero_mul, List.take_zero, List.eq_nil_of_length_eq_zero h0]; rfl
    · rw [if_neg h0, Nat.zero_add]; exact rzs
  have hwy : ∀ {ys : List PV}, ys = zs → (lS.drop (if ys.length = 0 then 0 else 0 + (q + 1) * 3)).take (ys.length * 3) = rws pvc ys := fun h ↦ by subst h; rw [← rws_len (enc := pvc) pvc_len]; exact hwz
  refine wl_nil (x_then (hK7 _ _ ?_))
  clear hK7 K7
  refine c_seq (fun K8 hK8 => ?_)
  refine c_seq (fun K9 hK9 => ?_)
  refine c_reg ?_ -- region 7 call.go:37
  refine wl (ro_fieldAddr (k := 0) rfl fo_119_0) ?_
  refine wl (ro_loadB rfl sc_3 (by assumption) rfl) ?_
  refine wl (ro_cmp (r := false) rfl rfl (by rw [h6]; rfl)) ?_
  refine wl_nil (x_then (hK9 _ _ ?_))
  clear hK9 K9
  refine wc_condF rfl ?_
  refine c_skip (x_then (hK8 _ _ ?_))
  clear hK8 K8
  refine c_seq (fun K10 hK10 => ?_)
  refine c_seq (fun K11 hK11 => ?_)
  refine c_reg ?_ -- region 12 call.go:44
  refine wl (ro_fieldAddr (k := 0) rfl fo_119_0) ?_
  refine wl (ro_loadB rfl sc_3 (by assumption) rfl) ?_
  refine wl (ro_cmp (r := false) rfl rfl (by rw [h6]; rfl)) ?_
  refine wl_nil (x_then (hK11 _ _ ?_))
  clear hK11 K11
  refine wc_condF rfl ?_
  refine c_skip (x_then (hK10 _ _ ?_))
  clear hK10 K10
  refine forget [(0, _), (1, _), (2, _), (10, _), (12, _), (13, _), (14, _)] ⟨rfl, rfl, rfl, rfl, rfl, rfl, rfl, trivial⟩ (fun e => ?_)
  refine c_mid (fun b u => ∃ ab ao c, ab ≠ C.E.tb ∧ (ow2 ab = 66 ∨ ao + 9 ≤ x.stack.length * 3) ∧ Fram none' w5 u ∧ WinB u ab ao (rws pvc [zs.getD 0 vNil, zs.getD 1 vNil, zs.getD 2 vNil]) ∧ ∃ e', b = Fr 286 (upds e' [(0, ptr C.E.mb), (1, i64c a.cur), (2, tptr C a.cur), (10, ptr b10), (12, i64c q), (13, ptr b13), (14, .slice (some ⟨ab, ao, none⟩) 3 c)]) []) ?_ ?_
  · skip
    refine c_block ?_
    -- loop@r14: live slots [0, 1, 2, 10, 12, 13, 14]
    refine c_loopG (fun m b u => ∃ (ys : List PV) (v : Value), m = 3 - ys.length ∧ zs.length ≤ ys.length ∧ ys.length ≤ 3 ∧ ys = zs ++ List.replicate (ys.length - zs.length) vNil ∧ Fram none' w5 u ∧ ((ys = zs ∧ v = .slice (some ⟨sg, if zs.length = 0 then 0 else 0 + (q + 1) * 3, none⟩) zs.length zs.length) ∨ (Own u.heap v 119 3 ys.length (rws pvc ys) ∧ ∀ k, v.ownBlock = some k → w5.heap.size ≤ k)) ∧ ∃ e', b = Fr 286 (upds e' [(0, ptr C.E.mb), (1, i64c a.cur), (2, tptr C a.cur), (10, ptr b10), (12, i64c q), (13, ptr b13), (14, v)]) []) _ ⟨zs, _, rfl, Nat.le_refl _, hz3, by rw [Nat.sub_self]; exact (List.append_nil _).symm, hN6, .inl ⟨rfl, rfl⟩, kp _ ⟨rfl, rfl, rfl, rfl, rfl, rfl, rfl, trivial⟩⟩ ?_
    rintro m b u ⟨ys, v, rfl, hyz, hy3, hys, hN7, hLo, e', rfl⟩
    obtain ⟨va, vc, rfl⟩ : ∃ va vc, v = .slice va ys.length vc := by
      rcases hLo with ⟨e1, e2⟩ | ⟨hO, -⟩
      · rw [e1]; exact ⟨_, _, e2⟩
      · exact hO.form
    have hB7 := hN7.blkN hB5
    refine c_seq (fun K12 hK12 => ?_)
    refine c_seq (fun K13 hK13 => ?_)
    refine c_reg ?_ -- region 14 call.go:47
    refine wl (ro_move rfl) ?_
    refine wl (ro_lenL rfl se_83) ?_
    refine wl (ro_cmp rfl rfl rfl) ?_
    refine wl_nil (x_then (hK13 _ _ ?_))
    clear hK13 K13
    refine wc_cond rfl (fun hc80 => ?_) (fun hc80 => ?_)
    · try simp only [decide_eq_true_eq, decide_eq_false_iff_not, Bool.not_eq_true', Bool.not_eq_false', Bool.not_eq_eq_eq_not, Bool.not_true, Bool.not_false, beq_iff_eq, bne_iff_ne, ne_eq, beq_eq_false_iff_ne, bne_eq_false_iff_eq, gt_iff_lt, ge_iff_le, Int.not_lt, Int.not_le] at hc80
      refine c_skip (x_then (hK12 _ _ ?_))
      clear hK12 K12
      refine c_block ?_
      rcases hLo with ⟨e1, e2⟩ | ⟨hO, hob⟩
      · skip
        refine c_reg ?_ -- region 15 call.go:48
        refine wl (ro_move rfl) ?_
        refine wl (ro_build rfl bld_119) ?_
        refine wle (eo_bsV1 (i := vNil) rfl se_83 zx_119) ?_
        have F83 : Fram none' u (u.alloc (.cells (rws pvc [vNil]).toArray 119)) := Fram.alloc none' u _
        subst e1
        refine wl_appN (t := 83) (et := 119) (k := 3) (g := sg) (o := if ys.length = 0 then 0 else 0 + (q + 1) * 3) (m := ys.length) (cap := ys.length) (l := lS) (m2 := 1) (o2 := 0) (news := pvc vNil) (xs := rws pvc ys) (by rw [← e2]; rfl) rfl se_83 zx_119 by_119 rfl (F83.blkN hB7) (hwy rfl) (rws_len pvc_len _) (rws_oneC pvc_one _) (Blk.new u (rws pvc [vNil]) 119) rfl rfl (pvc_one vNil) (by omega) (by omega) (by omega) ?_
        intro v' u9 hO' G9 hob'
        have hN8 : Fram none' w5 u9 := (hN7.thenN F83).thenN G9
        have hsz := hN7.size
        have hsz2 := F83.size
        refine wl (ro_assign rfl) ?_
        refine wl_nil (x_blk (x_then ?_))
        exact ⟨3 - (ys.length + 1), by omega, ys ++ [vNil], _, by simp, by simp, by simp; omega, by simp, hN8, .inr ⟨by rw [rws_app, List.length_append]; exact hO', fun k hk ↦ by have := hob' k hk; omega⟩, kp _ ⟨rfl, rfl, rfl, rfl, rfl, rfl, rfl, trivial⟩⟩
      · skip
        refine c_reg ?_ -- region 15 call.go:48
        refine wl (ro_move rfl) ?_
        refine wl (ro_build rfl bld_119) ?_
        refine wl_bsapp (t := 83) (et := 119) (k := 3) (m := ys.length) (cs := pvc vNil) rfl rfl rfl rfl se_83 zx_119 by_119 rfl rfl rfl (pvc_one _) hO (by omega) (by omega) ?_
        intro v' u9 hO' G9 hnb
        have hN8 : Fram none' w5 u9 := hN7.trans' G9 (fun k hk h ↦ by have := hob k h; omega)
        have hsz := hN7.size
        skip
        refine wl (ro_assign rfl) ?_
        refine wl_nil (x_blk (x_then ?_))
        exact ⟨3 - (ys.length + 1), by omega, ys ++ [vNil], _, by simp, by simp; omega, by simp; omega, (by rw [List.length_append, List.length_singleton, show ys.length + 1 - zs.length = (ys.length - zs.length) + 1 by omega, List.replicate_succ', ← List.append_assoc, ← hys]), hN8, .inr ⟨by rw [rws_app, List.length_append]; exact hO', fun k hk ↦ by rcases hnb k hk with z | z; exact hob k z; omega⟩, kp _ ⟨rfl, rfl, rfl, rfl, rfl, rfl, rfl, trivial⟩⟩
    · try simp only [decide_eq_true_eq, decide_eq_false_iff_not, Bool.not_eq_true', Bool.not_eq_false', Bool.not_eq_eq_eq_not, Bool.not_true, Bool.not_false, beq_iff_eq, bne_iff_ne, ne_eq, beq_eq_false_iff_ne, bne_eq_false_iff_eq, gt_iff_lt, ge_iff_le, Int.not_lt, Int.not_le] at hc80
      refine c_exit (x_thenX (x_thenX (x_blkX (x_then ?_))))
      have hy3 : ys.length = 3 := by omega
      have hbs : ys = [zs.getD 0 vNil, zs.getD 1 vNil, zs.getD 2 vNil] := pad3 hy3 hz3 hys
      rcases hLo with ⟨e1, e2⟩ | ⟨hO, hob⟩
      · injection e2 with f1 f2 f3
        rw [f1, hy3]
        have hz30 : zs.length = 3 := by rw [← e1]; exact hy3
        refine ⟨sg, _, vc, hsgt, .inr (by rw [if_neg (by omega)]; omega), hN7, ⟨lS, 119, hB7, ?_⟩, kp _ ⟨rfl, rfl, rfl, rfl, rfl, rfl, rfl, trivial⟩⟩
        rw [← hbs, e1]
        exact hwz
      · rw [hy3] at hO
        obtain ⟨gg, gcap, gl, e9, b9, -, -, -, q9⟩ := hO.pos (by decide)
        injection e9 with f1 f2 f3
        rw [f1, hy3]
        refine ⟨gg, 0, vc, (by have := hob gg (by rw [f1]; rfl); omega), .inl (hdf6 _ (hob gg (by rw [f1]; rfl))), hN7, ⟨gl, 119, b9, ?_⟩, kp _ ⟨rfl, rfl, rfl, rfl, rfl, rfl, rfl, trivial⟩⟩
        rw [← hbs, rws_len pvc_len, hy3, List.drop_zero]
        exact q9
  rintro b u ⟨ab, ao, ac, hatb, hab9, hN7, ⟨lA, tA, hBA, hWA⟩, e', rfl⟩
  have h10 := hN7.blkN h10
  have h13 := hN7.blkN h13
  have o7 := o6.thruN hN7
  have hR := o7.an
  have hF := hF.thenN hN7
  have hB5 := hBA
  refine c_seq (fun K14 hK14 => ?_)
  refine c_reg ?_ -- region 16 call.go:50
  refine wl (ro_move rfl) ?_
  refine wl (ro_s2ap rfl ar_225 (by decide)) ?_
  refine wl (ro_assign rfl) ?_
  refine wl_nil (x_then (hK14 _ _ ?_))
  clear hK14 K14
  refine forget [(0, _), (1, _), (2, _), (10, _), (12, _), (13, _), (15, _)] ⟨rfl, rfl, rfl, rfl, rfl, rfl, rfl, trivial⟩ (fun e => ?_)
  refine c_seq (fun K15 hK15 => ?_)
  refine c_reg ?_ -- region 17 call.go:51
  refine wl_new (ze_119) (fun b16 w6 hbb16 h16 F6 => ?_)
  have hneb10b16 : b10 < b16 := Nat.lt_of_lt_of_le h10.lt hbb16
  have hneb13b16 : b13 < b16 := Nat.lt_of_lt_of_le h13.lt hbb16
  have hbsb16 := Nat.le_trans hF.size hbb16
  have hneabb16 : ab < b16 := Nat.lt_of_lt_of_le hB5.lt hbb16
  have kh16 := hR.df b16 hbb16
  replace h10 := F6.blkN h10
  replace h13 := F6.blkN h13
  replace hF := hF.thenDrew.thenN F6
  replace hR := hR.thruN ((Fram.refl none' _).thenDrew.thenN F6)
  replace hB5 := F6.blkN hB5
  refine wl_new (ze_119) (fun b17 w7 hbb17 h17 F7 => ?_)
  have hneb10b17 : b10 < b17 := Nat.lt_of_lt_of_le h10.lt hbb17
  have hneb13b17 : b13 < b17 := Nat.lt_of_lt_of_le h13.lt hbb17
  have hbsb17 := Nat.le_trans hF.size hbb17
  have hneabb17 : ab < b17 := Nat.lt_of_lt_of_le hB5.lt hbb17
  have hneb16b17 : b16 < b17 := Nat.lt_of_lt_of_le h16.lt hbb17
  have kh17 := hR.df b17 hbb17
  replace h10 := F7.blkN h10
  replace h13 := F7.blkN h13
  replace hF := hF.thenDrew.thenN F7
  replace hR := hR.thruN ((Fram.refl none' _).thenDrew.thenN F7)
  replace hB5 := F7.blkN hB5
  replace h16 := F7.blkN h16
  refine wl_nil (x_then (hK15 _ _ ?_))
  clear hK15 K15
  refine c_seq (fun K16 hK16 => ?_)
  refine c_seq (fun K17 hK17 => ?_)
  refine c_reg ?_ -- region 18 call.go:52
  refine wl (ro_fieldAddr (k := 1) rfl fo_119_1) ?_
  refine wl (ro_loadB rfl sc_117 (by assumption) rfl) ?_
  refine wl_nil (x_then (hK17 _ _ ?_))
  clear hK17 K17
  refine c_block ?_
  refine forget [(0, _), (1, _), (2, _), (10, _), (12, _), (15, _), (16, _), (17, _), (88, _)] ⟨rfl, rfl, rfl, rfl, rfl, rfl, rfl, rfl, rfl, trivial⟩ (fun e => ?_)
  refine c_seq (fun K18 hK18 => ?_)
  refine c_reg ?_ -- region 20 call.go:53
  refine wl (ro_cmp (r := false) rfl rfl (by rw [hN]; rfl)) ?_
  refine wl (ro_assign rfl) ?_
  refine wl_nil (x_then (hK18 _ _ ?_))
  clear hK18 K18
  refine wc_condF rfl ?_
  refine c_seq (fun K19 hK19 => ?_)
  refine c_reg ?_ -- region 28 call.go:63
  refine wl (ro_cmp (r := false) rfl rfl (by rw [hN]; rfl)) ?_
  refine wl (ro_assign rfl) ?_
  refine wl_nil (x_then (hK19 _ _ ?_))
  clear hK19 K19
  refine wc_condF rfl ?_
  refine c_seq (fun K20 hK20 => ?_)
  refine c_reg ?_ -- region 39 call.go:76
  refine wl (ro_cmp (r := false) rfl rfl (by rw [hN]; rfl)) ?_
  refine wl (ro_assign rfl) ?_
  refine wl_nil (x_then (hK20 _ _ ?_))
  clear hK20 K20
  refine wc_condF rfl ?_
  refine c_seq (fun K21 hK21 => ?_)
  refine c_reg ?_ -- region 45 call.go:83
  refine wl (ro_cmp (r := false) rfl rfl (by rw [hN]; rfl)) ?_
  refine wl (ro_assign rfl) ?_
  refine wl_nil (x_then (hK21 _ _ ?_))
  clear hK21 K21
  refine wc_condF rfl ?_
  refine c_seq (fun K22 hK22 => ?_)
  refine c_reg ?_ -- region 47 call.go:85
  refine wl (ro_cmp (r := false) rfl rfl (by rw [hN]; rfl)) ?_
  refine wl (ro_assign rfl) ?_
  refine wl_nil (x_then (hK22 _ _ ?_))
  clear hK22 K22
  refine wc_condF rfl ?_
  refine c_seq (fun K23 hK23 => ?_)
  refine c_reg ?_ -- region 49 call.go:87
  refine wl (ro_cmp (r := false) rfl rfl (by rw [hN]; rfl)) ?_
  refine wl (ro_assign rfl) ?_
  refine wl_nil (x_then (hK23 _ _ ?_))
  clear hK23 K23
  refine wc_condF rfl ?_
  refine c_seq (fun K24 hK24 => ?_)
  refine c_reg ?_ -- region 51 call.go:89
  refine wl (ro_cmp (r := false) rfl rfl (by rw [hN]; rfl)) ?_
  refine wl (ro_assign rfl) ?_
  refine wl_nil (x_then (hK24 _ _ ?_))
  clear hK24 K24
  refine wc_condF rfl ?_
  refine c_seq (fun K25 hK25 => ?_)
  refine c_reg ?_ -- region 54 call.go:92
  refine wl (ro_cmp (r := false) rfl rfl (by rw [hN]; rfl)) ?_
  refine wl (ro_assign rfl) ?_
  refine wl_nil (x_then (hK25 _ _ ?_))
  clear hK25 K25
  refine wc_condF rfl ?_
  refine c_seq (fun K26 hK26 => ?_)
  refine c_reg ?_ -- region 56 call.go:94
  refine wl (ro_cmp (r := false) rfl rfl (by rw [hN]; rfl)) ?_
  refine wl (ro_assign rfl) ?_
  refine wl_nil (x_then (hK26 _ _ ?_))
  clear hK26 K26
  refine wc_condF rfl ?_
  refine c_seq (fun K27 hK27 => ?_)
  refine c_reg ?_ -- region 58 call.go:96
  refine wl (ro_cmp (r := true) rfl rfl (by rw [hN]; rfl)) ?_
  refine wl (ro_assign rfl) ?_
  refine wl_nil (x_then (hK27 _ _ ?_))
  clear hK27 K27
  refine wc_condT rfl ?_
  refine c_reg ?_ -- region 59 call.go:97
  refine wl (ro_move rfl) ?_
  refine wl (ro_move rfl) ?_
  refine wl_callP rfl en_266 (nCreM (a := { a with fuel := a.fuel - 1 }) (z := acall1 (Psf C.F) zs fn (caS a y gs g vars l)) hR hc ⟨lA, tA, hB5, hWA⟩ hnt (fun q ↦ wf_idx (hvz 0).wf (.inr (.inl q))) (fun h ↦ (by unfold acall1; rw [if_neg (by omega), if_neg (by omega), if_neg (by omega), if_neg (by omega), if_neg (by omega), if_neg (by omega), if_neg (by omega), if_neg (by omega), if_neg (by omega), if_pos hN, if_pos h]; exact caS_thr hc)) (fun h h5 ↦ (by unfold acall1; rw [if_neg (by omega), if_neg (by omega), if_neg (by omega), if_neg (by omega), if_neg (by omega), if_neg (by omega), if_neg (by omega), if_neg (by omega), if_neg (by omega), if_pos hN, if_neg (show ¬ (zs.getD 0 vNil).T ≠ 5 by omega), if_pos (show 5 ≤ (caS a y gs g vars l).ths.length by rw [caS_len]; exact h5)]; exact ⟨rfl, rfl, by decide⟩))) (fun pv w9 hE => bpp_pan (P := Tryz.prog) (fn := Tryz.f245) (AE.go hX hF hE)) ?_
  rintro _ u8 ⟨hq9, rfl, ow8, x8, f8, r8⟩
  obtain ⟨h10, kh10⟩ := vm_loc x8 f8 h10 kh10
  obtain ⟨h13, kh13⟩ := vm_loc x8 f8 h13 kh13
  obtain ⟨h16, kh16⟩ := vm_loc x8 f8 h16 kh16
  obtain ⟨h17, kh17⟩ := vm_loc x8 f8 h17 kh17
  have hs8 := hF.size
  replace hF := vm_trans hX hF f8
  replace hX := hX.trans hs8 x8
  replace hR := r8
  refine wl (ro_move rfl) ?_
  refine wl (ro_extract rfl rfl) ?_
  refine wl (ro_extract rfl rfl) ?_
  refine wl_puta rfl rfl ((pvc_one _)) sz_119 (rfl) h16 ((by simp)) (rfl) (fun w9 h16 F9 => ?_)
  replace h10 := F9.blkO h10 (by first | omega | exact ow_ne (by assumption) (by assumption) (by omega))
  replace h13 := F9.blkO h13 (by first | omega | exact ow_ne (by assumption) (by assumption) (by omega))
  replace hF := hF.thenDrew.thenO F9 (by first | exact .inr (by omega) | exact .inl rfl | exact .inl (by assumption) | assumption)
  replace hR := hR.hbput ((Fram.refl (one b16) _).thenDrew.thenO F9 (.inl rfl))
  replace h17 := F9.blkO h17 (by first | omega | exact ow_ne (by assumption) (by assumption) (by omega))
  refine wl_puta rfl rfl ((pvc_one _)) sz_119 (rfl) h17 ((by simp)) (rfl) (fun w10 h17 F10 => ?_)
  replace h10 := F10.blkO h10 (by first | omega | exact ow_ne (by assumption) (by assumption) (by omega))
  replace h13 := F10.blkO h13 (by first | omega | exact ow_ne (by assumption) (by assumption) (by omega))
  replace hF := hF.thenDrew.thenO F10 (by first | exact .inr (by omega) | exact .inl rfl | exact .inl (by assumption) | assumption)
  replace hR := hR.hbput ((Fram.refl (one b17) _).thenDrew.thenO F10 (.inl rfl))
  replace h16 := F10.blkO h16 (by first | omega | exact ow_ne (by assumption) (by assumption) (by omega))
  refine wl_nil (x_blk (x_then (hK16 _ _ ?_)))
  clear hK16 K16
  refine forget [(2, _), (10, _), (12, _), (16, _), (17, _)] ⟨rfl, rfl, rfl, rfl, rfl, trivial⟩ (fun e => ?_)
  refine c_seq (fun K28 hK28 => ?_)
  obtain ⟨V8, κ8, Vv8, U8, x8, f8, fs8, o8, hn8⟩ := AN.open (a := { a with fuel := a.fuel - 1, ths := a.ths ++ [⟨1, (zs.getD 0 vNil).N, []⟩] }) hR (by show a.cur < (a.ths ++ _).length; rw [List.length_append]; omega)
  obtain ⟨sg8, sc8, lT8, hT, l25, hT8, hsc8, law8⟩ := o8.cut ho
  have hln8 := o8.t.ln
  have hq8 : f8.base + g.slots.length + l.length = q := by have h1 : f8.base + g.slots.length + g.ops.length = x8.stack.length := hln8; have h2 : x8.stack.length = x.stack.length := hn8; omega
  have htt8 := o8.v.tt.1
  have hc : ({ a with fuel := a.fuel - 1, ths := a.ths ++ [⟨1, (zs.getD 0 vNil).N, []⟩] } : AS).cur < ({ a with fuel := a.fuel - 1, ths := a.ths ++ [⟨1, (zs.getD 0 vNil).N, []⟩] } : AS).ths.length := (by show a.cur < (a.ths ++ _).length; rw [List.length_append]; omega)
  refine c_reg ?_ -- region 62 call.go:103
  refine wl (ro_move rfl) ?_
  refine wl (ro_move rfl) ?_
  refine wl (ro_nilCheck rfl) ?_
  refine wl (ro_fieldAddr (k := 2) rfl fo_269_2) ?_
  refine wl (ro_loadB rfl sc_83 (hT) (hT8)) ?_
  refine wl (ro_move rfl) ?_
  refine wl (ro_sliceH (h := q) rfl rfl se_83 rfl (by have h2 : x8.stack.length = x.stack.length := hn8; omega)) ?_
  refine wl (ro_nilCheck rfl) ?_
  refine wl (ro_fieldAddr (k := 2) rfl fo_269_2) ?_
  refine wl_put rfl rfl rfl sz_83 hT ((by omega)) (rfl) (fun w11 hT F11 => ?_)
  replace h10 := F11.blkO h10 (by first | omega | exact ow_ne (by assumption) (by assumption) (by omega))
  replace h13 := F11.blkO h13 (by first | omega | exact ow_ne (by assumption) (by assumption) (by omega))
  replace hF := hF.thenDrew.thenO F11 (by first | exact .inr (by omega) | exact .inl rfl | exact .inl (by assumption) | assumption)
  replace h16 := F11.blkO h16 (by first | omega | exact ow_ne (by assumption) (by assumption) (by omega))
  replace h17 := F11.blkO h17 (by first | omega | exact ow_ne (by assumption) (by assumption) (by omega))
  have hR := law8 w11 q hq8 F11 hT
  refine wl_nil (x_then (hK28 _ _ ?_))
  clear hK28 K28
  refine forget [(2, _), (10, _), (16, _), (17, _)] ⟨rfl, rfl, rfl, rfl, trivial⟩ (fun e => ?_)
  refine c_seq (fun K29 hK29 => ?_)
  refine c_reg ?_ -- region 63 call.go:104
  refine wl (ro_move rfl) ?_
  refine wl (ro_loadAggB rfl ag_119 (h16) rfl rfl) ?_
  refine wl (ro_loadAggB rfl ag_119 (h17) rfl rfl) ?_
  refine wl_pu (vs := [vCo a.ths.length, vNil]) (eo_bsV2 rfl rfl se_83 zx_119) rfl hR.dr hc rfl (by show l.length + 2 ≤ 300; omega) ?_
  intro u12 ow12 x12 f12 r12
  obtain ⟨h10, kh10⟩ := vm_loc x12 f12 h10 kh10
  obtain ⟨h13, kh13⟩ := vm_loc x12 f12 h13 kh13
  obtain ⟨h16, kh16⟩ := vm_loc x12 f12 h16 kh16
  obtain ⟨h17, kh17⟩ := vm_loc x12 f12 h17 kh17
  have hs12 := hF.size
  replace hF := vm_trans hX hF f12
  replace hX := hX.trans hs12 x12
  replace hR := r12
  refine wl_nil (x_then (hK29 _ _ ?_))
  clear hK29 K29
  refine forget [(10, _)] ⟨rfl, trivial⟩ (fun e => ?_)
  refine c_seq (fun K30 hK30 => ?_)
  refine c_reg ?_ -- region 64 call.go:105
  refine wl (ro_build rfl bld_211) ?_
  refine wl_puta rfl rfl ((vevc_one 0 0 0 vNil vNil)) sz_211 (rfl) h10 ((by simp)) (rfl) (fun w13 h10 F13 => ?_)
  replace h13 := F13.blkO h13 (by first | omega | exact ow_ne (by assumption) (by assumption) (by omega))
  replace hF := hF.thenDrew.thenO F13 (by first | exact .inr (by omega) | exact .inl rfl | exact .inl (by assumption) | assumption)
  replace h16 := F13.blkO h16 (by first | omega | exact ow_ne (by assumption) (by assumption) (by omega))
  replace h17 := F13.blkO h17 (by first | omega | exact ow_ne (by assumption) (by assumption) (by omega))
  replace hR := hR.hbput ((Fram.refl (one b10) _).thenDrew.thenO F13 (.inl rfl))
  refine wl_nil (x_then (hK30 _ _ ?_))
  clear hK30 K30
  refine c_ret ?_
  refine bqp_ret (res1 Tryz.results245 (rv_c rfl ag_211 (h10) (rfl))) ?_
  exact ⟨_, _, hX, hF, hR.q, rfl, E.sn.d, .inl ⟨rfl, by unfold acall1; rw [if_neg (by omega), if_neg (by omega), if_neg (by omega), if_neg (by omega), if_neg (by omega), if_neg (by omega), if_neg (by omega), if_neg (by omega), if_neg (by omega), if_pos hN, if_neg (show ¬ (zs.getD 0 vNil).T ≠ 5 by omega), if_neg (show ¬ 5 ≤ (caS a y gs g vars l).ths.length by rw [caS_len]; exact Nat.not_le.2 hq9.2), caS_sp hc0, caS_len]; exact (apush2_mk (a := { a with fuel := a.fuel - 1, ths := a.ths ++ [⟨1, (zs.getD 0 vNil).N, []⟩] }) (by show a.cur < (a.ths ++ _).length; rw [List.length_append]; omega) _ _).symm⟩⟩
set_option maxHeartbeats 8000000 in
theorem nat_6a (E : PE C fg fc w ow a y gs g vars p ids 26 zs.length) (hf : 0 < a.fuel) (ho : g.ops = zs.reverse ++ fn :: l) (h6 : fn.T = 6) (hN : fn.N = 6) (h9 : (zs.getD 0 vNil).T ≠ 5) : RetP Tryz.prog 245 [ptr C.E.mb, i64c a.cur, tptr C a.cur, fpt fg gs.length, i64c zs.length] w (CaR C w ow (kH a) (acall (Psf C.F) zs.length (mkA a y gs g vars))) (AE C (kH a) w ow (acall (Psf C.F) zs.length (mkA a y gs g vars))) := by
  have hR := E.r
  have hc := E.hc
  have hc0 := E.hc
  have hX : Xt w ow ow := Xt.refl _ _
  have hF : Fram (tg ow vtT) w w := Fram.refl _ _
  have hol := E.ol
  have hz3 : zs.length ≤ 3 := E.sn.r.2.2.2.2.2.2.2.2.1 rfl
  have hlo := congrArg List.length ho
  simp only [List.length_append, List.length_reverse, List.length_cons] at hlo
  have hvf : tg ow vtT fg := by
    obtain ⟨V, κ, Vv, U, x, f, fs, o⟩ := hR.open hc
    obtain ⟨lB, hB1, k1, -⟩ := o.pcS
    show vtT (ow fg)
    rw [k1]; left; have := o.lt; unfold vmT; omega
  have hvt0 : tg ow vtT C.E.tb := hR.q.vtb
  rw [acall_mk hc ho hf]
  obtain ⟨hpb, -, -⟩ := E.pcb
  have hvz : ∀ k, VV a.clos.length a.ths.length a.tabs.length (zs.getD k vNil) := fun k => by
    rw [List.getD_eq_getElem?_getD]
    cases hk : zs[k]? with
    | none => exact .nil _ _ _
    | some v => exact E.vo (by rw [ho]; exact List.mem_append.2 (.inl (List.mem_reverse.2 (List.mem_of_getElem? hk))))
  refine retp_of Tryz.func245 rfl Tryz.ntmps245 rfl ?_
  refine c_seq (fun K1 hK1 => ?_)
  refine c_reg ?_ -- region 0 call.go:30
  refine wl_new (ze_211) (fun b10 w1 hbb10 h10 F1 => ?_)
  have hbsb10 := Nat.le_trans hF.size hbb10
  have kh10 := hR.df b10 hbb10
  replace hF := hF.thenDrew.thenN F1
  replace hR := hR.thruN ((Fram.refl none' _).thenDrew.thenN F1)
  refine wl_nil (x_then (hK1 _ _ ?_))
  clear hK1 K1
  refine forget [(0, _), (1, _), (2, _), (3, _), (4, _), (10, _)] ⟨rfl, rfl, rfl, rfl, rfl, rfl, trivial⟩ (fun e => ?_)
  refine c_seq (fun K2 hK2 => ?_)
  refine c_reg ?_ -- region 1 call.go:31
  refine wl (ro_move rfl) ?_
  refine wl_call rfl en_258 (burnA hR.dr hf) ?_
  rintro _ u2 ⟨rfl, ow2, x2, f2, r2⟩
  obtain ⟨h10, kh10⟩ := vm_loc x2 f2 h10 kh10
  have hs2 := hF.size
  replace hF := vm_trans hX hF f2
  replace hX := hX.trans hs2 x2
  replace hR := r2
  obtain ⟨V, κ, Vv, U, x, f, fs, o⟩ := AM.open (a := { a with fuel := a.fuel - 1 }) hR hc
  obtain ⟨sg, sc, lS, hU, hB5, ts, hcs, hln, rfn, rzs⟩ := o.cal ho
  have hlt : a.cur < 5 := o.lt
  have hdp := o.dp
  have hsl := o.sl
  have hbb := o.t.bb
  have hgsl := o.t.nl
  obtain ⟨pp, pids, -, -, hns⟩ := o.ns
  obtain ⟨lT, hT, -, -, -, hT2, -⟩ := o.v.thA o.t.hx
  have hT3 := hT2 3 (.inr (.inl rfl))
  have hT2 := hT2 2 (.inl rfl)
  have hU2 := hU
  rw [hln] at hU
  rw [hU] at hT2
  have hT3 : lT[a.cur * 5 + 3]? = some (.slice (some ⟨fg, 0, none⟩) (gs.length + 1) fc) := by rw [← o.hf]; exact hT3
  have hN0 := hR.selfN
  have htt := o.v.tt.1
  have hq9 : f.base + g.slots.length + l.length < 9000 := by omega
  generalize hqd : f.base + g.slots.length + l.length = q at *
  refine wl_nil (x_then (hK2 _ _ ?_))
  clear hK2 K2
  refine forget [(0, _), (1, _), (2, _), (3, _), (4, _), (10, _)] ⟨rfl, rfl, rfl, rfl, rfl, rfl, trivial⟩ (fun e => ?_)
  refine c_seq (fun K3 hK3 => ?_)
  refine c_reg ?_ -- region 2 call.go:32
  refine wl (ro_move rfl) ?_
  refine wl (ro_nilCheck rfl) ?_
  refine wl (ro_fieldAddr (k := 2) rfl fo_269_2) ?_
  refine wl (ro_loadB rfl sc_83 (hT) (hT2)) ?_
  refine wl (ro_lenL rfl se_83) ?_
  refine wl (ro_assign rfl) ?_
  refine wl_nil (x_then (hK3 _ _ ?_))
  clear hK3 K3
  refine forget [(0, _), (1, _), (2, _), (3, _), (4, _), (10, _), (11, _)] ⟨rfl, rfl, rfl, rfl, rfl, rfl, rfl, trivial⟩ (fun e => ?_)
  refine c_seq (fun K4 hK4 => ?_)
  refine c_reg ?_ -- region 3 call.go:33
  refine wl (ro_move rfl) ?_
  refine wl (ro_move rfl) ?_
  refine wl (ro_subN (r := q + 1) rfl rfl (by omega) (by omega)) ?_
  refine wl (ro_subN (r := q) (k := 1) rfl rfl (by omega) (by omega)) ?_
  refine wl (ro_assign rfl) ?_
  refine wl_nil (x_then (hK4 _ _ ?_))
  clear hK4 K4
  refine forget [(0, _), (1, _), (2, _), (3, _), (10, _), (11, _), (12, _)] ⟨rfl, rfl, rfl, rfl, rfl, rfl, rfl, trivial⟩ (fun e => ?_)
  refine c_seq (fun K5 hK5 => ?_)
  refine c_reg ?_ -- region 4 call.go:34
  refine wl (ro_move rfl) ?_
  refine wl (ro_nilCheck rfl) ?_
  refine wl (ro_fieldAddr (k := 2) rfl fo_269_2) ?_
  refine wl (ro_loadB rfl sc_83 (hT) (hT2)) ?_
  refine wl (ro_move rfl) ?_
  refine wl (ro_indexAddr (et := 119) (k := 3) rfl rfl se_83 (rfl) ((by omega))) ?_
  refine wl (ro_loadAggB rfl ag_119 (hB5) (pvc_len _) ((by rw [Nat.zero_add]; exact rfn))) ?_
  refine wl_new (ze_119) (fun b13 w3 hbb13 h13 F3 => ?_)
  have hbsb13 := Nat.le_trans hF.size hbb13
  have hneb10b13 : b10 < b13 := Nat.lt_of_lt_of_le h10.lt hbb13
  have hneC.E.tbb13 : C.E.tb < b13 := Nat.lt_of_lt_of_le hT.lt hbb13
  have hnesgb13 : sg < b13 := Nat.lt_of_lt_of_le hB5.lt hbb13
  have hbsb13 := Nat.le_trans hN0.size hbb13
  have kh13 := hR.df b13 hbb13
  replace hF := hF.thenDrew.thenN F3
  replace hR := hR.thruN ((Fram.refl none' _).thenDrew.thenN F3)
  replace h10 := F3.blkN h10
  replace hT := F3.blkN hT
  replace hB5 := F3.blkN hB5
  replace hN0 := hN0.thenDrew.thenN F3
  refine wl_puta rfl rfl ((pvc_one fn)) sz_119 (rfl) h13 ((by simp)) (rfl) (fun w4 h13 F4 => ?_)
  replace hF := hF.thenDrew.thenO F4 (by first | exact .inr (by omega) | exact .inl rfl | exact .inl (by assumption) | assumption)
  replace hR := hR.hbput ((Fram.refl (one b13) _).thenDrew.thenO F4 (.inl rfl))
  replace h10 := F4.blkO h10 (by first | omega | exact ow_ne (by assumption) (by assumption) (by omega))
  replace hT := F4.blkO hT (by first | omega | exact ow_ne (by assumption) (by assumption) (by omega))
  replace hB5 := F4.blkO hB5 (by first | omega | exact ow_ne (by assumption) (by assumption) (by omega))
  replace hN0 := hN0.thenDrew.thenO F4 (by first | exact .inr (by omega) | exact .inl rfl | exact .inl (by assumption) | assumption)
  refine wl_nil (x_then (hK5 _ _ ?_))
  clear hK5 K5
  refine forget [(0, _), (1, _), (2, _), (3, _), (10, _), (11, _), (12, _), (13, _)] ⟨rfl, rfl, rfl, rfl, rfl, rfl, rfl, rfl, trivial⟩ (fun e => ?_)
  refine c_seq (fun K6 hK6 => ?_)
  refine c_reg ?_ -- region 5 call.go:35
  refine wl (ro_move rfl) ?_
  refine wl (ro_nilCheck rfl) ?_
  refine wl (ro_fieldAddr (k := 2) rfl fo_269_2) ?_
  refine wl (ro_loadB rfl sc_83 (hT) (hT2)) ?_
  refine wl (ro_move rfl) ?_
  refine wl (ro_addN (k := 1) rfl rfl (by omega)) ?_
  refine wl (ro_move rfl) ?_
  refine wl (ro_move rfl) ?_
  refine wl (ro_slice3 (l := q + 1) (m := zs.length) rfl rfl rfl rfl se_83 (by omega) (by omega)) ?_
  refine wl (ro_assign rfl) ?_
  have o5 := o.thruN hN0
  have hpe := o5.t.pc
  obtain ⟨lB, hB1, k1, q1, q2, hpc⟩ := o5.pcS
  refine wl_nil (x_then (hK6 _ _ ?_))
  clear hK6 K6
  refine forget [(0, _), (1, _), (2, _), (3, _), (10, _), (12, _), (13, _), (14, _)] ⟨rfl, rfl, rfl, rfl, rfl, rfl, rfl, rfl, trivial⟩ (fun e => ?_)
  refine c_seq (fun K7 hK7 => ?_)
  refine c_reg ?_ -- region 6 call.go:36
  refine wl (ro_move rfl) ?_
  refine wl (ro_nilCheck rfl) ?_
  refine wl (ro_fieldAddr (k := 1) rfl fo_331_1) ?_
  refine wl (ro_loadB rfl sc_3 (hB1) (frow_at q1 (by decide))) ?_
  refine wl (ro_addN (k := 1) rfl rfl (by omega)) ?_
  refine wl (ro_nilCheck rfl) ?_
  refine wl (ro_fieldAddr (k := 1) rfl fo_331_1) ?_
  refine wl_put rfl rfl rfl sz_3 hB1 ((by omega)) (rfl) (fun w5 hB1 F5 => ?_)
  replace hF := hF.thenDrew.thenO F5 (by first | exact .inr (by omega) | exact .inl rfl | exact .inl (by assumption) | assumption)
  replace h10 := F5.blkO h10 (by first | omega | exact ow_ne (by assumption) (by assumption) (by omega))
  replace hT := F5.blkO hT (by first | omega | exact ow_ne (by assumption) (by assumption) (by omega))
  replace hB5 := F5.blkO hB5 (by first | omega | exact ow_ne (by assumption) (by assumption) (by omega))
  replace h13 := F5.blkO h13 (by first | omega | exact ow_ne (by assumption) (by assumption) (by omega))
  have o6 := hpc w5 (g.pc + 1) F5 (by rw [← hpe]; exact hB1)
  have hR := o6.am
  have hN6 := hR.selfN
  have hsgt : sg ≠ C.E.tb := fun h ↦ by rw [h, htt] at ts; omega
  have htl9 := hT.lt
  have hdf6 := o6.v.df
  have hwz : (lS.drop (if zs.length = 0 then 0 else 0 + (q + 1) * 3)).take (rws pvc zs).length = rws pvc zs := by
    rw [rws_len pvc_len]
    by_cases h0 : zs.length = 0
    · rw [if_pos h0, h0, Nat.zero_mul, List.take_zero, List.eq_nil_of_length_eq_zero h0]; rfl
    · rw [if_neg h0, Nat.zero_add]; exact rzs
  have hwy : ∀ {ys : List PV}, ys = zs → (lS.drop (if ys.length = 0 then 0 else 0 + (q + 1) * 3)).take (ys.length * 3) = rws pvc ys := fun h ↦ by subst h; rw [← rws_len (enc := pvc) pvc_len]; exact hwz
  refine wl_nil (x_then (hK7 _ _ ?_))
  clear hK7 K7
  refine c_seq (fun K8 hK8 => ?_)
  refine c_seq (fun K9 hK9 => ?_)
  refine c_reg ?_ -- region 7 call.go:37
  refine wl (ro_fieldAddr (k := 0) rfl fo_119_0) ?_
  refine wl (ro_loadB rfl sc_3 (by assumption) rfl) ?_
  refine wl (ro_cmp (r := false) rfl rfl (by rw [h6]; rfl)) ?_
  refine wl_nil (x_then (hK9 _ _ ?_))
  clear hK9 K9
  refine wc_condF rfl ?_
  refine c_skip (x_then (hK8 _ _ ?_))
  clear hK8 K8
  refine c_seq (fun K10 hK10 => ?_)
  refine c_seq (fun K11 hK11 => ?_)
  refine c_reg ?_ -- region 12 call.go:44
  refine wl (ro_fieldAddr (k := 0) rfl fo_119_0) ?_
  refine wl (ro_loadB rfl sc_3 (by assumption) rfl) ?_
  refine wl (ro_cmp (r := false) rfl rfl (by rw [h6]; rfl)) ?_
  refine wl_nil (x_then (hK11 _ _ ?_))
  clear hK11 K11
  refine wc_condF rfl ?_
  refine c_skip (x_then (hK10 _ _ ?_))
  clear hK10 K10
  refine forget [(0, _), (1, _), (2, _), (10, _), (12, _), (13, _), (14, _)] ⟨rfl, rfl, rfl, rfl, rfl, rfl, rfl, trivial⟩ (fun e => ?_)
  refine c_mid (fun b u => ∃ ab ao c, ab ≠ C.E.tb ∧ (ow2 ab = 66 ∨ ao + 9 ≤ x.stack.length * 3) ∧ Fram none' w5 u ∧ WinB u ab ao (rws pvc [zs.getD 0 vNil, zs.getD 1 vNil, zs.getD 2 vNil]) ∧ ∃ e', b = Fr 286 (upds e' [(0, ptr C.E.mb), (1, i64c a.cur), (2, tptr C a.cur), (10, ptr b10), (12, i64c q), (13, ptr b13), (14, .slice (some ⟨ab, ao, none⟩) 3 c)]) []) ?_ ?_
  · skip
    refine c_block ?_
    -- loop@r14: live slots [0, 1, 2, 10, 12, 13, 14]
    refine c_loopG (fun m b u => ∃ (ys : List PV) (v : Value), m = 3 - ys.length ∧ zs.length ≤ ys.length ∧ ys.length ≤ 3 ∧ ys = zs ++ List.replicate (ys.length - zs.length) vNil ∧ Fram none' w5 u ∧ ((ys = zs ∧ v = .slice (some ⟨sg, if zs.length = 0 then 0 else 0 + (q + 1) * 3, none⟩) zs.length zs.length) ∨ (Own u.heap v 119 3 ys.length (rws pvc ys) ∧ ∀ k, v.ownBlock = some k → w5.heap.size ≤ k)) ∧ ∃ e', b = Fr 286 (upds e' [(0, ptr C.E.mb), (1, i64c a.cur), (2, tptr C a.cur), (10, ptr b10), (12, i64c q), (13, ptr b13), (14, v)]) []) _ ⟨zs, _, rfl, Nat.le_refl _, hz3, by rw [Nat.sub_self]; exact (List.append_nil _).symm, hN6, .inl ⟨rfl, rfl⟩, kp _ ⟨rfl, rfl, rfl, rfl, rfl, rfl, rfl, trivial⟩⟩ ?_
    rintro m b u ⟨ys, v, rfl, hyz, hy3, hys, hN7, hLo, e', rfl⟩
    obtain ⟨va, vc, rfl⟩ : ∃ va vc, v = .slice va ys.length vc := by
      rcases hLo with ⟨e1, e2⟩ | ⟨hO, -⟩
      · rw [e1]; exact ⟨_, _, e2⟩
      · exact hO.form
    have hB7 := hN7.blkN hB5
    refine c_seq (fun K12 hK12 => ?_)
    refine c_seq (fun K13 hK13 => ?_)
    refine c_reg ?_ -- region 14 call.go:47
    refine wl (ro_move rfl) ?_
    refine wl (ro_lenL rfl se_83) ?_
    refine wl (ro_cmp rfl rfl rfl) ?_
    refine wl_nil (x_then (hK13 _ _ ?_))
    clear hK13 K13
    refine wc_cond rfl (fun hc80 => ?_) (fun hc80 => ?_)
    · try simp only [decide_eq_true_eq, decide_eq_false_iff_not, Bool.not_eq_true', Bool.not_eq_false', Bool.not_eq_eq_eq_not, Bool.not_true, Bool.not_false, beq_iff_eq, bne_iff_ne, ne_eq, beq_eq_false_iff_ne, bne_eq_false_iff_eq, gt_iff_lt, ge_iff_le, Int.not_lt, Int.not_le] at hc80
      refine c_skip (x_then (hK12 _ _ ?_))
      clear hK12 K12
      refine c_block ?_
      rcases hLo with ⟨e1, e2⟩ | ⟨hO, hob⟩
      · skip
        refine c_reg ?_ -- region 15 call.go:48
        refine wl (ro_move rfl) ?_
        refine wl (ro_build rfl bld_119) ?_
        refine wle (eo_bsV1 (i := vNil) rfl se_83 zx_119) ?_
        have F83 : Fram none' u (u.alloc (.cells (rws pvc [vNil]).toArray 119)) := Fram.alloc none' u _
        subst e1
        refine wl_appN (t := 83) (et := 119) (k := 3) (g := sg) (o := if ys.length = 0 then 0 else 0 + (q + 1) * 3) (m := ys.length) (cap := ys.length) (l := lS) (m2 := 1) (o2 := 0) (news := pvc vNil) (xs := rws pvc ys) (by rw [← e2]; rfl) rfl se_83 zx_119 by_119 rfl (F83.blkN hB7) (hwy rfl) (rws_len pvc_len _) (rws_oneC pvc_one _) (Blk.new u (rws pvc [vNil]) 119) rfl rfl (pvc_one vNil) (by omega) (by omega) (by omega) ?_
        intro v' u9 hO' G9 hob'
        have hN8 : Fram none' w5 u9 := (hN7.thenN F83).thenN G9
        have hsz := hN7.size
        have hsz2 := F83.size
        refine wl (ro_assign rfl) ?_
        refine wl_nil (x_blk (x_then ?_))
        exact ⟨3 - (ys.length + 1), by omega, ys ++ [vNil], _, by simp, by simp, by simp; omega, by simp, hN8, .inr ⟨by rw [rws_app, List.length_append]; exact hO', fun k hk ↦ by have := hob' k hk; omega⟩, kp _ ⟨rfl, rfl, rfl, rfl, rfl, rfl, rfl, trivial⟩⟩
      · skip
        refine c_reg ?_ -- region 15 call.go:48
        refine wl (ro_move rfl) ?_
        refine wl (ro_build rfl bld_119) ?_
        refine wl_bsapp (t := 83) (et := 119) (k := 3) (m := ys.length) (cs := pvc vNil) rfl rfl rfl rfl se_83 zx_119 by_119 rfl rfl rfl (pvc_one _) hO (by omega) (by omega) ?_
        intro v' u9 hO' G9 hnb
        have hN8 : Fram none' w5 u9 := hN7.trans' G9 (fun k hk h ↦ by have := hob k h; omega)
        have hsz := hN7.size
        skip
        refine wl (ro_assign rfl) ?_
        refine wl_nil (x_blk (x_then ?_))
        exact ⟨3 - (ys.length + 1), by omega, ys ++ [vNil], _, by simp, by simp; omega, by simp; omega, (by rw [List.length_append, List.length_singleton, show ys.length + 1 - zs.length = (ys.length - zs.length) + 1 by omega, List.replicate_succ', ← List.append_assoc, ← hys]), hN8, .inr ⟨by rw [rws_app, List.length_append]; exact hO', fun k hk ↦ by rcases hnb k hk with z | z; exact hob k z; omega⟩, kp _ ⟨rfl, rfl, rfl, rfl, rfl, rfl, rfl, trivial⟩⟩
    · try simp only [decide_eq_true_eq, decide_eq_false_iff_not, Bool.not_eq_true', Bool.not_eq_false', Bool.not_eq_eq_eq_not, Bool.not_true, Bool.not_false, beq_iff_eq, bne_iff_ne, ne_eq, beq_eq_false_iff_ne, bne_eq_false_iff_eq, gt_iff_lt, ge_iff_le, Int.not_lt, Int.not_le] at hc80
      refine c_exit (x_thenX (x_thenX (x_blkX (x_then ?_))))
      have hy3 : ys.length = 3 := by omega
      have hbs : ys = [zs.getD 0 vNil, zs.getD 1 vNil, zs.getD 2 vNil] := pad3 hy3 hz3 hys
      rcases hLo with ⟨e1, e2⟩ | ⟨hO, hob⟩
      · injection e2 with f1 f2 f3
        rw [f1, hy3]
        have hz30 : zs.length = 3 := by rw [← e1]; exact hy3
        refine ⟨sg, _, vc, hsgt, .inr (by rw [if_neg (by omega)]; omega), hN7, ⟨lS, 119, hB7, ?_⟩, kp _ ⟨rfl, rfl, rfl, rfl, rfl, rfl, rfl, trivial⟩⟩
        rw [← hbs, e1]
        exact hwz
      · rw [hy3] at hO
        obtain ⟨gg, gcap, gl, e9, b9, -, -, -, q9⟩ := hO.pos (by decide)
        injection e9 with f1 f2 f3
        rw [f1, hy3]
        refine ⟨gg, 0, vc, (by have := hob gg (by rw [f1]; rfl); omega), .inl (hdf6 _ (hob gg (by rw [f1]; rfl))), hN7, ⟨gl, 119, b9, ?_⟩, kp _ ⟨rfl, rfl, rfl, rfl, rfl, rfl, rfl, trivial⟩⟩
        rw [← hbs, rws_len pvc_len, hy3, List.drop_zero]
        exact q9
  rintro b u ⟨ab, ao, ac, hatb, hab9, hN7, ⟨lA, tA, hBA, hWA⟩, e', rfl⟩
  have h10 := hN7.blkN h10
  have h13 := hN7.blkN h13
  have o7 := o6.thruN hN7
  have hR := o7.an
  have hF := hF.thenN hN7
  have hB5 := hBA
  have hT := hN7.blkN hT
  refine c_seq (fun K14 hK14 => ?_)
  refine c_reg ?_ -- region 16 call.go:50
  refine wl (ro_move rfl) ?_
  refine wl (ro_s2ap rfl ar_225 (by decide)) ?_
  refine wl (ro_assign rfl) ?_
  refine wl_nil (x_then (hK14 _ _ ?_))
  clear hK14 K14
  refine forget [(0, _), (1, _), (2, _), (10, _), (12, _), (13, _), (15, _)] ⟨rfl, rfl, rfl, rfl, rfl, rfl, rfl, trivial⟩ (fun e => ?_)
  refine c_seq (fun K15 hK15 => ?_)
  refine c_reg ?_ -- region 17 call.go:51
  refine wl_new (ze_119) (fun b16 w6 hbb16 h16 F6 => ?_)
  have hneb10b16 : b10 < b16 := Nat.lt_of_lt_of_le h10.lt hbb16
  have hneb13b16 : b13 < b16 := Nat.lt_of_lt_of_le h13.lt hbb16
  have hbsb16 := Nat.le_trans hF.size hbb16
  have hneabb16 : ab < b16 := Nat.lt_of_lt_of_le hB5.lt hbb16
  have hneC.E.tbb16 : C.E.tb < b16 := Nat.lt_of_lt_of_le hT.lt hbb16
  have kh16 := hR.df b16 hbb16
  replace h10 := F6.blkN h10
  replace h13 := F6.blkN h13
  replace hF := hF.thenDrew.thenN F6
  replace hR := hR.thruN ((Fram.refl none' _).thenDrew.thenN F6)
  replace hB5 := F6.blkN hB5
  replace hT := F6.blkN hT
  refine wl_new (ze_119) (fun b17 w7 hbb17 h17 F7 => ?_)
  have hneb10b17 : b10 < b17 := Nat.lt_of_lt_of_le h10.lt hbb17
  have hneb13b17 : b13 < b17 := Nat.lt_of_lt_of_le h13.lt hbb17
  have hbsb17 := Nat.le_trans hF.size hbb17
  have hneabb17 : ab < b17 := Nat.lt_of_lt_of_le hB5.lt hbb17
  have hneC.E.tbb17 : C.E.tb < b17 := Nat.lt_of_lt_of_le hT.lt hbb17
  have hneb16b17 : b16 < b17 := Nat.lt_of_lt_of_le h16.lt hbb17
  have kh17 := hR.df b17 hbb17
  replace h10 := F7.blkN h10
  replace h13 := F7.blkN h13
  replace hF := hF.thenDrew.thenN F7
  replace hR := hR.thruN ((Fram.refl none' _).thenDrew.thenN F7)
  replace hB5 := F7.blkN hB5
  replace hT := F7.blkN hT
  replace h16 := F7.blkN h16
  refine wl_nil (x_then (hK15 _ _ ?_))
  clear hK15 K15
  refine c_seq (fun K16 hK16 => ?_)
  refine c_seq (fun K17 hK17 => ?_)
  obtain ⟨ra0, ra1, ra2⟩ := win_row hWA
  refine c_reg ?_ -- region 18 call.go:52
  refine wl (ro_fieldAddr (k := 1) rfl fo_119_1) ?_
  refine wl (ro_loadB rfl sc_117 (by assumption) rfl) ?_
  refine wl_nil (x_then (hK17 _ _ ?_))
  clear hK17 K17
  refine c_block ?_
  refine forget [(0, _), (1, _), (2, _), (10, _), (12, _), (15, _), (16, _), (17, _), (88, _)] ⟨rfl, rfl, rfl, rfl, rfl, rfl, rfl, rfl, rfl, trivial⟩ (fun e => ?_)
  refine c_seq (fun K18 hK18 => ?_)
  refine c_reg ?_ -- region 20 call.go:53
  refine wl (ro_cmp (r := true) rfl rfl (by rw [hN]; rfl)) ?_
  refine wl (ro_assign rfl) ?_
  refine wl_nil (x_then (hK18 _ _ ?_))
  clear hK18 K18
  refine wc_condT rfl ?_
  refine c_seq (fun K19 hK19 => ?_)
  refine c_seq (fun K20 hK20 => ?_)
  refine c_reg ?_ -- region 21 call.go:54
  refine wl (ro_move rfl) ?_
  refine wl (ro_nilCheck rfl) ?_
  refine wl (ro_indexAddrA (et := 119) (k := 3) rfl rfl ar_225 (rfl) ((by decide))) ?_
  refine wl (ro_fieldAddr (k := 0) rfl fo_119_0) ?_
  refine wl (ro_loadB rfl sc_3 (hB5) (row_get ra0 (by decide))) ?_
  refine wl (ro_cmp (r := false) rfl rfl (eqF (k := 5) h9)) ?_
  refine wl (ro_move rfl) ?_
  refine wlg_no rfl ?_
  refine wlg_no rfl ?_
  refine wlg_no rfl ?_
  refine wlg_no rfl ?_
  refine wlg_no rfl ?_
  refine wlg_no rfl ?_
  refine wl (ro_pick rfl rfl rfl) ?_
  refine wl_nil (x_then (hK20 _ _ ?_))
  clear hK20 K20
  refine wc_condF rfl ?_
  refine c_skip (x_then (hK19 _ _ ?_))
  clear hK19 K19
  refine forget [(2, _), (10, _), (12, _), (15, _), (16, _), (17, _)] ⟨rfl, rfl, rfl, rfl, rfl, rfl, trivial⟩ (fun e => ?_)
  refine c_seq (fun K21 hK21 => ?_)
  refine c_reg ?_ -- region 24 call.go:58
  refine wl (ro_build rfl bld_119_0_2) ?_
  refine wl_puta rfl rfl ((pvc_one (vStr mCall))) sz_119 (rfl) h17 ((by simp)) (rfl) (fun w8 h17 F8 => ?_)
  replace h10 := F8.blkO h10 (by first | omega | exact ow_ne (by assumption) (by assumption) (by omega))
  replace h13 := F8.blkO h13 (by first | omega | exact ow_ne (by assumption) (by assumption) (by omega))
  replace hF := hF.thenDrew.thenO F8 (by first | exact .inr (by omega) | exact .inl rfl | exact .inl (by assumption) | assumption)
  replace hR := hR.hbput ((Fram.refl (one b17) _).thenDrew.thenO F8 (.inl rfl))
  replace hB5 := F8.blkO hB5 (by first | omega | exact ow_ne (by assumption) (by assumption) (by omega))
  replace hT := F8.blkO hT (by first | omega | exact ow_ne (by assumption) (by assumption) (by omega))
  replace h16 := F8.blkO h16 (by first | omega | exact ow_ne (by assumption) (by assumption) (by omega))
  refine wl_nil (x_then (hK21 _ _ ?_))
  clear hK21 K21
  refine c_seq (fun K22 hK22 => ?_)
  refine c_seq (fun K23 hK23 => ?_)
  refine c_reg ?_ -- region 25 call.go:59
  refine wl (ro_move rfl) ?_
  refine wl (ro_nilCheck rfl) ?_
  refine wl (ro_indexAddrA (et := 119) (k := 3) rfl rfl ar_225 (rfl) ((by decide))) ?_
  refine wl (ro_fieldAddr (k := 0) rfl fo_119_0) ?_
  refine wl (ro_loadB rfl sc_3 (hB5) (row_get ra0 (by decide))) ?_
  refine wl (ro_cmp (r := false) rfl rfl (eqF (k := 5) h9)) ?_
  refine wl_nil (x_then (hK23 _ _ ?_))
  clear hK23 K23
  refine wc_condF rfl ?_
  refine c_skip (x_then (hK22 _ _ ?_))
  clear hK22 K22
  refine c_reg ?_ -- region 27 call.go:62
  refine wl (ro_build rfl bld_119_0) ?_
  refine wl_puta rfl rfl ((pvc_one (vBool false))) sz_119 (rfl) h16 ((by simp)) (rfl) (fun w9 h16 F9 => ?_)
  replace h10 := F9.blkO h10 (by first | omega | exact ow_ne (by assumption) (by assumption) (by omega))
  replace h13 := F9.blkO h13 (by first | omega | exact ow_ne (by assumption) (by assumption) (by omega))
  replace hF := hF.thenDrew.thenO F9 (by first | exact .inr (by omega) | exact .inl rfl | exact .inl (by assumption) | assumption)
  replace hR := hR.hbput ((Fram.refl (one b16) _).thenDrew.thenO F9 (.inl rfl))
  replace hB5 := F9.blkO hB5 (by first | omega | exact ow_ne (by assumption) (by assumption) (by omega))
  replace hT := F9.blkO hT (by first | omega | exact ow_ne (by assumption) (by assumption) (by omega))
  replace h17 := F9.blkO h17 (by first | omega | exact ow_ne (by assumption) (by assumption) (by omega))
  refine wl_nil (x_blk (x_then (hK16 _ _ ?_)))
  clear hK16 K16
  refine forget [(2, _), (10, _), (12, _), (16, _), (17, _)] ⟨rfl, rfl, rfl, rfl, rfl, trivial⟩ (fun e => ?_)
  refine c_seq (fun K24 hK24 => ?_)
  obtain ⟨V8, κ8, Vv8, U8, x8, f8, fs8, o8, hn8⟩ := AN.open (a := { a with fuel := a.fuel - 1 }) hR hc
  obtain ⟨sg8, sc8, lT8, hT, l25, hT8, hsc8, law8⟩ := o8.cut ho
  have hln8 := o8.t.ln
  have hq8 : f8.base + g.slots.length + l.length = q := by have h1 : f8.base + g.slots.length + g.ops.length = x8.stack.length := hln8; have h2 : x8.stack.length = x.stack.length := hn8; omega
  have htt8 := o8.v.tt.1
  have hc : ({ a with fuel := a.fuel - 1 } : AS).cur < ({ a with fuel := a.fuel - 1 } : AS).ths.length := hc
  refine c_reg ?_ -- region 62 call.go:103
  refine wl (ro_move rfl) ?_
  refine wl (ro_move rfl) ?_
  refine wl (ro_nilCheck rfl) ?_
  refine wl (ro_fieldAddr (k := 2) rfl fo_269_2) ?_
  refine wl (ro_loadB rfl sc_83 (hT) (hT8)) ?_
  refine wl (ro_move rfl) ?_
  refine wl (ro_sliceH (h := q) rfl rfl se_83 rfl (by have h2 : x8.stack.length = x.stack.length := hn8; omega)) ?_
  refine wl (ro_nilCheck rfl) ?_
  refine wl (ro_fieldAddr (k := 2) rfl fo_269_2) ?_
  refine wl_put rfl rfl rfl sz_83 hT ((by omega)) (rfl) (fun w10 hT F10 => ?_)
  replace h10 := F10.blkO h10 (by first | omega | exact ow_ne (by assumption) (by assumption) (by omega))
  replace h13 := F10.blkO h13 (by first | omega | exact ow_ne (by assumption) (by assumption) (by omega))
  replace hF := hF.thenDrew.thenO F10 (by first | exact .inr (by omega) | exact .inl rfl | exact .inl (by assumption) | assumption)
  replace h16 := F10.blkO h16 (by first | omega | exact ow_ne (by assumption) (by assumption) (by omega))
  replace h17 := F10.blkO h17 (by first | omega | exact ow_ne (by assumption) (by assumption) (by omega))
  have hR := law8 w10 q hq8 F10 hT
  refine wl_nil (x_then (hK24 _ _ ?_))
  clear hK24 K24
  refine forget [(2, _), (10, _), (16, _), (17, _)] ⟨rfl, rfl, rfl, rfl, trivial⟩ (fun e => ?_)
  refine c_seq (fun K25 hK25 => ?_)
  refine c_reg ?_ -- region 63 call.go:104
  refine wl (ro_move rfl) ?_
  refine wl (ro_loadAggB rfl ag_119 (h16) rfl rfl) ?_
  refine wl (ro_loadAggB rfl ag_119 (h17) rfl rfl) ?_
  refine wl_pu (vs := [vBool false, vStr mCall]) (eo_bsV2 rfl rfl se_83 zx_119) rfl hR.dr hc rfl (by show l.length + 2 ≤ 300; omega) ?_
  intro u11 ow11 x11 f11 r11
  obtain ⟨h10, kh10⟩ := vm_loc x11 f11 h10 kh10
  obtain ⟨h13, kh13⟩ := vm_loc x11 f11 h13 kh13
  obtain ⟨h16, kh16⟩ := vm_loc x11 f11 h16 kh16
  obtain ⟨h17, kh17⟩ := vm_loc x11 f11 h17 kh17
  have hs11 := hF.size
  replace hF := vm_trans hX hF f11
  replace hX := hX.trans hs11 x11
  replace hR := r11
  refine wl_nil (x_then (hK25 _ _ ?_))
  clear hK25 K25
  refine forget [(10, _)] ⟨rfl, trivial⟩ (fun e => ?_)
  refine c_seq (fun K26 hK26 => ?_)
  refine c_reg ?_ -- region 64 call.go:105
  refine wl (ro_build rfl bld_211) ?_
  refine wl_puta rfl rfl ((vevc_one 0 0 0 vNil vNil)) sz_211 (rfl) h10 ((by simp)) (rfl) (fun w12 h10 F12 => ?_)
  replace h13 := F12.blkO h13 (by first | omega | exact ow_ne (by assumption) (by assumption) (by omega))
  replace hF := hF.thenDrew.thenO F12 (by first | exact .inr (by omega) | exact .inl rfl | exact .inl (by assumption) | assumption)
  replace h16 := F12.blkO h16 (by first | omega | exact ow_ne (by assumption) (by assumption) (by omega))
  replace h17 := F12.blkO h17 (by first | omega | exact ow_ne (by assumption) (by assumption) (by omega))
  replace hR := hR.hbput ((Fram.refl (one b10) _).thenDrew.thenO F12 (.inl rfl))
  refine wl_nil (x_then (hK26 _ _ ?_))
  clear hK26 K26
  refine c_ret ?_
  refine bqp_ret (res1 Tryz.results245 (rv_c rfl ag_211 (h10) (rfl))) ?_
  exact ⟨_, _, hX, hF, hR.q, rfl, E.sn.d, .inl ⟨rfl, by unfold acall1; rw [if_neg (by omega), if_neg (by omega), if_neg (by omega), if_neg (by omega), if_neg (by omega), if_neg (by omega), if_neg (by omega), if_pos hN, if_pos h9]; exact (apush2_mk (a := { a with fuel := a.fuel - 1 }) hc _ _).symm⟩⟩
set_option maxHeartbeats 8000000 in
theorem nat_6b (E : PE C fg fc w ow a y gs g vars p ids 26 zs.length) (hf : 0 < a.fuel) (ho : g.ops = zs.reverse ++ fn :: l) (h6 : fn.T = 6) (hN : fn.N = 6) (h9 : (zs.getD 0 vNil).T = 5) (hd : 8 ≤ gs.length + 1) : RetP Tryz.prog 245 [ptr C.E.mb, i64c a.cur, tptr C a.cur, fpt fg gs.length, i64c zs.length] w (CaR C w ow (kH a) (acall (Psf C.F) zs.length (mkA a y gs g vars))) (AE C (kH a) w ow (acall (Psf C.F) zs.length (mkA a y gs g vars))) := by
  have hR := E.r
  have hc := E.hc
  have hc0 := E.hc
  have hX : Xt w ow ow := Xt.refl _ _
  have hF : Fram (tg ow vtT) w w := Fram.refl _ _
  have hol := E.ol
  have hz3 : zs.length ≤ 3 := E.sn.r.2.2.2.2.2.2.2.2.1 rfl
  have hlo := congrArg List.length ho
  simp only [List.length_append, List.length_reverse, List.length_cons] at hlo
  have hvf : tg ow vtT fg := by
    obtain ⟨V, κ, Vv, U, x, f, fs, o⟩ := hR.open hc
    obtain ⟨lB, hB1, k1, -⟩ := o.pcS
    show vtT (ow fg)
    rw [k1]; left; have := o.lt; unfold vmT; omega
  have hvt0 : tg ow vtT C.E.tb := hR.q.vtb
  rw [acall_mk hc ho hf]
  obtain ⟨hpb, -, -⟩ := E.pcb
  have hvz : ∀ k, VV a.clos.length a.ths.length a.tabs.length (zs.getD k vNil) := fun k => by
    rw [List.getD_eq_getElem?_getD]
    cases hk : zs[k]? with
    | none => exact .nil _ _ _
    | some v => exact E.vo (by rw [ho]; exact List.mem_append.2 (.inl (List.mem_reverse.2 (List.mem_of_getElem? hk))))
  have hdl : (caS a y gs g vars l).th.frs.length = gs.length + 1 := by unfold caS; rw [mk_th (a := { a with fuel := a.fuel - 1 }) hc]; rfl
  refine retp_of Tryz.func245 rfl Tryz.ntmps245 rfl ?_
  refine c_seq (fun K1 hK1 => ?_)
  refine c_reg ?_ -- region 0 call.go:30
  refine wl_new (ze_211) (fun b10 w1 hbb10 h10 F1 => ?_)
  have hbsb10 := Nat.le_trans hF.size hbb10
  have kh10 := hR.df b10 hbb10
  replace hF := hF.thenDrew.thenN F1
  replace hR := hR.thruN ((Fram.refl none' _).thenDrew.thenN F1)
  refine wl_nil (x_then (hK1 _ _ ?_))
  clear hK1 K1
  refine forget [(0, _), (1, _), (2, _), (3, _), (4, _), (10, _)] ⟨rfl, rfl, rfl, rfl, rfl, rfl, trivial⟩ (fun e => ?_)
  refine c_seq (fun K2 hK2 => ?_)
  refine c_reg ?_ -- region 1 call.go:31
  refine wl (ro_move rfl) ?_
  refine wl_call rfl en_258 (burnA hR.dr hf) ?_
  rintro _ u2 ⟨rfl, ow2, x2, f2, r2⟩
  obtain ⟨h10, kh10⟩ := vm_loc x2 f2 h10 kh10
  have hs2 := hF.size
  replace hF := vm_trans hX hF f2
  replace hX := hX.trans hs2 x2
  replace hR := r2
  obtain ⟨V, κ, Vv, U, x, f, fs, o⟩ := AM.open (a := { a with fuel := a.fuel - 1 }) hR hc
  obtain ⟨sg, sc, lS, hU, hB5, ts, hcs, hln, rfn, rzs⟩ := o.cal ho
  have hlt : a.cur < 5 := o.lt
  have hdp := o.dp
  have hsl := o.sl
  have hbb := o.t.bb
  have hgsl := o.t.nl
  obtain ⟨pp, pids, -, -, hns⟩ := o.ns
  obtain ⟨lT, hT, -, -, -, hT2, -⟩ := o.v.thA o.t.hx
  have hT3 := hT2 3 (.inr (.inl rfl))
  have hT2 := hT2 2 (.inl rfl)
  have hU2 := hU
  rw [hln] at hU
  rw [hU] at hT2
  have hT3 : lT[a.cur * 5 + 3]? = some (.slice (some ⟨fg, 0, none⟩) (gs.length + 1) fc) := by rw [← o.hf]; exact hT3
  have hN0 := hR.selfN
  have htt := o.v.tt.1
  have hq9 : f.base + g.slots.length + l.length < 9000 := by omega
  generalize hqd : f.base + g.slots.length + l.length = q at *
  refine wl_nil (x_then (hK2 _ _ ?_))
  clear hK2 K2
  refine forget [(0, _), (1, _), (2, _), (3, _), (4, _), (10, _)] ⟨rfl, rfl, rfl, rfl, rfl, rfl, trivial⟩ (fun e => ?_)
  refine c_seq (fun K3 hK3 => ?_)
  refine c_reg ?_ -- region 2 call.go:32
  refine wl (ro_move rfl) ?_
  refine wl (ro_nilCheck rfl) ?_
  refine wl (ro_fieldAddr (k := 2) rfl fo_269_2) ?_
  refine wl (ro_loadB rfl sc_83 (hT) (hT2)) ?_
  refine wl (ro_lenL rfl se_83) ?_
  refine wl (ro_assign rfl) ?_
  refine wl_nil (x_then (hK3 _ _ ?_))
  clear hK3 K3
  refine forget [(0, _), (1, _), (2, _), (3, _), (4, _), (10, _), (11, _)] ⟨rfl, rfl, rfl, rfl, rfl, rfl, rfl, trivial⟩ (fun e => ?_)
  refine c_seq (fun K4 hK4 => ?_)
  refine c_reg ?_ -- region 3 call.go:33
  refine wl (ro_move rfl) ?_
  refine wl (ro_move rfl) ?_
  refine wl (ro_subN (r := q + 1) rfl rfl (by omega) (by omega)) ?_
  refine wl (ro_subN (r := q) (k := 1) rfl rfl (by omega) (by omega)) ?_
  refine wl (ro_assign rfl) ?_
  refine wl_nil (x_then (hK4 _ _ ?_))
  clear hK4 K4
  refine forget [(0, _), (1, _), (2, _), (3, _), (10, _), (11, _), (12, _)] ⟨rfl, rfl, rfl, rfl, rfl, rfl, rfl, trivial⟩ (fun e => ?_)
  refine c_seq (fun K5 hK5 => ?_)
  refine c_reg ?_ -- region 4 call.go:34
  refine wl (ro_move rfl) ?_
  refine wl (ro_nilCheck rfl) ?_
  refine wl (ro_fieldAddr (k := 2) rfl fo_269_2) ?_
  refine wl (ro_loadB rfl sc_83 (hT) (hT2)) ?_
  refine wl (ro_move rfl) ?_
  refine wl (ro_indexAddr (et := 119) (k := 3) rfl rfl se_83 (rfl) ((by omega))) ?_
  refine wl (ro_loadAggB rfl ag_119 (hB5) (pvc_len _) ((by rw [Nat.zero_add]; exact rfn))) ?_
  refine wl_new (ze_119) (fun b13 w3 hbb13 h13 F3 => ?_)
  have hbsb13 := Nat.le_trans hF.size hbb13
  have hneb10b13 : b10 < b13 := Nat.lt_of_lt_of_le h10.lt hbb13
  have hneC.E.tbb13 : C.E.tb < b13 := Nat.lt_of_lt_of_le hT.lt hbb13
  have hnesgb13 : sg < b13 := Nat.lt_of_lt_of_le hB5.lt hbb13
  have hbsb13 := Nat.le_trans hN0.size hbb13
  have kh13 := hR.df b13 hbb13
  replace hF := hF.thenDrew.thenN F3
  replace hR := hR.thruN ((Fram.refl none' _).thenDrew.thenN F3)
  replace h10 := F3.blkN h10
  replace hT := F3.blkN hT
  replace hB5 := F3.blkN hB5
  replace hN0 := hN0.thenDrew.thenN F3
  refine wl_puta rfl rfl ((pvc_one fn)) sz_119 (rfl) h13 ((by simp)) (rfl) (fun w4 h13 F4 => ?_)
  replace hF := hF.thenDrew.thenO F4 (by first | exact .inr (by omega) | exact .inl rfl | exact .inl (by assumption) | assumption)
  replace hR := hR.hbput ((Fram.refl (one b13) _).thenDrew.thenO F4 (.inl rfl))
  replace h10 := F4.blkO h10 (by first | omega | exact ow_ne (by assumption) (by assumption) (by omega))
  replace hT := F4.blkO hT (by first | omega | exact ow_ne (by assumption) (by assumption) (by omega))
  replace hB5 := F4.blkO hB5 (by first | omega | exact ow_ne (by assumption) (by assumption) (by omega))
  replace hN0 := hN0.thenDrew.thenO F4 (by first | exact .inr (by omega) | exact .inl rfl | exact .inl (by assumption) | assumption)
  refine wl_nil (x_then (hK5 _ _ ?_))
  clear hK5 K5
  refine forget [(0, _), (1, _), (2, _), (3, _), (10, _), (11, _), (12, _), (13, _)] ⟨rfl, rfl, rfl, rfl, rfl, rfl, rfl, rfl, trivial⟩ (fun e => ?_)
  refine c_seq (fun K6 hK6 => ?_)
  refine c_reg ?_ -- region 5 call.go:35
  refine wl (ro_move rfl) ?_
  refine wl (ro_nilCheck rfl) ?_
  refine wl (ro_fieldAddr (k := 2) rfl fo_269_2) ?_
  refine wl (ro_loadB rfl sc_83 (hT) (hT2)) ?_
  refine wl (ro_move rfl) ?_
  refine wl (ro_addN (k := 1) rfl rfl (by omega)) ?_
  refine wl (ro_move rfl) ?_
  refine wl (ro_move rfl) ?_
  refine wl (ro_slice3 (l := q + 1) (m := zs.length) rfl rfl rfl rfl se_83 (by omega) (by omega)) ?_
  refine wl (ro_assign rfl) ?_
  have o5 := o.thruN hN0
  have hpe := o5.t.pc
  obtain ⟨lB, hB1, k1, q1, q2, hpc⟩ := o5.pcS
  refine wl_nil (x_then (hK6 _ _ ?_))
  clear hK6 K6
  refine forget [(0, _), (1, _), (2, _), (3, _), (10, _), (12, _), (13, _), (14, _)] ⟨rfl, rfl, rfl, rfl, rfl, rfl, rfl, rfl, trivial⟩ (fun e => ?_)
  refine c_seq (fun K7 hK7 => ?_)
  refine c_reg ?_ -- region 6 call.go:36
  refine wl (ro_move rfl) ?_
  refine wl (ro_nilCheck rfl) ?_
  refine wl (ro_fieldAddr (k := 1) rfl fo_331_1) ?_
  refine wl (ro_loadB rfl sc_3 (hB1) (frow_at q1 (by decide))) ?_
  refine wl (ro_addN (k := 1) rfl rfl (by omega)) ?_
  refine wl (ro_nilCheck rfl) ?_
  refine wl (ro_fieldAddr (k := 1) rfl fo_331_1) ?_
  refine wl_put rfl rfl rfl sz_3 hB1 ((by omega)) (rfl) (fun w5 hB1 F5 => ?_)
  replace hF := hF.thenDrew.thenO F5 (by first | exact .inr (by omega) | exact .inl rfl | exact .inl (by assumption) | assumption)
  replace h10 := F5.blkO h10 (by first | omega | exact ow_ne (by assumption) (by assumption) (by omega))
  replace hT := F5.blkO hT (by first | omega | exact ow_ne (by assumption) (by assumption) (by omega))
  replace hB5 := F5.blkO hB5 (by first | omega | exact ow_ne (by assumption) (by assumption) (by omega))
  replace h13 := F5.blkO h13 (by first | omega | exact ow_ne (by assumption) (by assumption) (by omega))
  have o6 := hpc w5 (g.pc + 1) F5 (by rw [← hpe]; exact hB1)
  have hR := o6.am
  have hN6 := hR.selfN
  have hsgt : sg ≠ C.E.tb := fun h ↦ by rw [h, htt] at ts; omega
  have htl9 := hT.lt
  have hdf6 := o6.v.df
  have hwz : (lS.drop (if zs.length = 0 then 0 else 0 + (q + 1) * 3)).take (rws pvc zs).length = rws pvc zs := by
    rw [rws_len pvc_len]
    by_cases h0 : zs.length = 0
    · rw [if_pos h0, h0, Nat.zero_mul, List.take_zero, List.eq_nil_of_length_eq_zero h0]; rfl
    · rw [if_neg h0, Nat.zero_add]; exact rzs
  have hwy : ∀ {ys : List PV}, ys = zs → (lS.drop (if ys.length = 0 then 0 else 0 + (q + 1) * 3)).take (ys.length * 3) = rws pvc ys := fun h ↦ by subst h; rw [← rws_len (enc := pvc) pvc_len]; exact hwz
  refine wl_nil (x_then (hK7 _ _ ?_))
  clear hK7 K7
  refine c_seq (fun K8 hK8 => ?_)
  refine c_seq (fun K9 hK9 => ?_)
  refine c_reg ?_ -- region 7 call.go:37
  refine wl (ro_fieldAddr (k := 0) rfl fo_119_0) ?_
  refine wl (ro_loadB rfl sc_3 (by assumption) rfl) ?_
  refine wl (ro_cmp (r := false) rfl rfl (by rw [h6]; rfl)) ?_
  refine wl_nil (x_then (hK9 _ _ ?_))
  clear hK9 K9
  refine wc_condF rfl ?_
  refine c_skip (x_then (hK8 _ _ ?_))
  clear hK8 K8
  refine c_seq (fun K10 hK10 => ?_)
  refine c_seq (fun K11 hK11 => ?_)
  refine c_reg ?_ -- region 12 call.go:44
  refine wl (ro_fieldAddr (k := 0) rfl fo_119_0) ?_
  refine wl (ro_loadB rfl sc_3 (by assumption) rfl) ?_
  refine wl (ro_cmp (r := false) rfl rfl (by rw [h6]; rfl)) ?_
  refine wl_nil (x_then (hK11 _ _ ?_))
  clear hK11 K11
  refine wc_condF rfl ?_
  refine c_skip (x_then (hK10 _ _ ?_))
  clear hK10 K10
  refine forget [(0, _), (1, _), (2, _), (10, _), (12, _), (13, _), (14, _)] ⟨rfl, rfl, rfl, rfl, rfl, rfl, rfl, trivial⟩ (fun e => ?_)
  refine c_mid (fun b u => ∃ ab ao c, ab ≠ C.E.tb ∧ (ow2 ab = 66 ∨ ao + 9 ≤ x.stack.length * 3) ∧ Fram none' w5 u ∧ WinB u ab ao (rws pvc [zs.getD 0 vNil, zs.getD 1 vNil, zs.getD 2 vNil]) ∧ ∃ e', b = Fr 286 (upds e' [(0, ptr C.E.mb), (1, i64c a.cur), (2, tptr C a.cur), (10, ptr b10), (12, i64c q), (13, ptr b13), (14, .slice (some ⟨ab, ao, none⟩) 3 c)]) []) ?_ ?_
  · skip
    refine c_block ?_
    -- loop@r14: live slots [0, 1, 2, 10, 12, 13, 14]
    refine c_loopG (fun m b u => ∃ (ys : List PV) (v : Value), m = 3 - ys.length ∧ zs.length ≤ ys.length ∧ ys.length ≤ 3 ∧ ys = zs ++ List.replicate (ys.length - zs.length) vNil ∧ Fram none' w5 u ∧ ((ys = zs ∧ v = .slice (some ⟨sg, if zs.length = 0 then 0 else 0 + (q + 1) * 3, none⟩) zs.length zs.length) ∨ (Own u.heap v 119 3 ys.length (rws pvc ys) ∧ ∀ k, v.ownBlock = some k → w5.heap.size ≤ k)) ∧ ∃ e', b = Fr 286 (upds e' [(0, ptr C.E.mb), (1, i64c a.cur), (2, tptr C a.cur), (10, ptr b10), (12, i64c q), (13, ptr b13), (14, v)]) []) _ ⟨zs, _, rfl, Nat.le_refl _, hz3, by rw [Nat.sub_self]; exact (List.append_nil _).symm, hN6, .inl ⟨rfl, rfl⟩, kp _ ⟨rfl, rfl, rfl, rfl, rfl, rfl, rfl, trivial⟩⟩ ?_
    rintro m b u ⟨ys, v, rfl, hyz, hy3, hys, hN7, hLo, e', rfl⟩
    obtain ⟨va, vc, rfl⟩ : ∃ va vc, v = .slice va ys.length vc := by
      rcases hLo with ⟨e1, e2⟩ | ⟨hO, -⟩
      · rw [e1]; exact ⟨_, _, e2⟩
      · exact hO.form
    have hB7 := hN7.blkN hB5
    refine c_seq (fun K12 hK12 => ?_)
    refine c_seq (fun K13 hK13 => ?_)
    refine c_reg ?_ -- region 14 call.go:47
    refine wl (ro_move rfl) ?_
    refine wl (ro_lenL rfl se_83) ?_
    refine wl (ro_cmp rfl rfl rfl) ?_
    refine wl_nil (x_then (hK13 _ _ ?_))
    clear hK13 K13
    refine wc_cond rfl (fun hc80 => ?_) (fun hc80 => ?_)
    · try simp only [decide_eq_true_eq, decide_eq_false_iff_not, Bool.not_eq_true', Bool.not_eq_false', Bool.not_eq_eq_eq_not, Bool.not_true, Bool.not_false, beq_iff_eq, bne_iff_ne, ne_eq, beq_eq_false_iff_ne, bne_eq_false_iff_eq, gt_iff_lt, ge_iff_le, Int.not_lt, Int.not_le] at hc80
      refine c_skip (x_then (hK12 _ _ ?_))
      clear hK12 K12
      refine c_block ?_
      rcases hLo with ⟨e1, e2⟩ | ⟨hO, hob⟩
      · skip
        refine c_reg ?_ -- region 15 call.go:48
        refine wl (ro_move rfl) ?_
        refine wl (ro_build rfl bld_119) ?_
        refine wle (eo_bsV1 (i := vNil) rfl se_83 zx_119) ?_
        have F83 : Fram none' u (u.alloc (.cells (rws pvc [vNil]).toArray 119)) := Fram.alloc none' u _
        subst e1
        refine wl_appN (t := 83) (et := 119) (k := 3) (g := sg) (o := if ys.length = 0 then 0 else 0 + (q + 1) * 3) (m := ys.length) (cap := ys.length) (l := lS) (m2 := 1) (o2 := 0) (news := pvc vNil) (xs := rws pvc ys) (by rw [← e2]; rfl) rfl se_83 zx_119 by_119 rfl (F83.blkN hB7) (hwy rfl) (rws_len pvc_len _) (rws_oneC pvc_one _) (Blk.new u (rws pvc [vNil]) 119) rfl rfl (pvc_one vNil) (by omega) (by omega) (by omega) ?_
        intro v' u9 hO' G9 hob'
        have hN8 : Fram none' w5 u9 := (hN7.thenN F83).thenN G9
        have hsz := hN7.size
        have hsz2 := F83.size
        refine wl (ro_assign rfl) ?_
        refine wl_nil (x_blk (x_then ?_))
        exact ⟨3 - (ys.length + 1), by omega, ys ++ [vNil], _, by simp, by simp, by simp; omega, by simp, hN8, .inr ⟨by rw [rws_app, List.length_append]; exact hO', fun k hk ↦ by have := hob' k hk; omega⟩, kp _ ⟨rfl, rfl, rfl, rfl, rfl, rfl, rfl, trivial⟩⟩
      · skip
        refine c_reg ?_ -- region 15 call.go:48
        refine wl (ro_move rfl) ?_
        refine wl (ro_build rfl bld_119) ?_
        refine wl_bsapp (t := 83) (et := 119) (k := 3) (m := ys.length) (cs := pvc vNil) rfl rfl rfl rfl se_83 zx_119 by_119 rfl rfl rfl (pvc_one _) hO (by omega) (by omega) ?_
        intro v' u9 hO' G9 hnb
        have hN8 : Fram none' w5 u9 := hN7.trans' G9 (fun k hk h ↦ by have := hob k h; omega)
        have hsz := hN7.size
        skip
        refine wl (ro_assign rfl) ?_
        refine wl_nil (x_blk (x_then ?_))
        exact ⟨3 - (ys.length + 1), by omega, ys ++ [vNil], _, by simp, by simp; omega, by simp; omega, (by rw [List.length_append, List.length_singleton, show ys.length + 1 - zs.length = (ys.length - zs.length) + 1 by omega, List.replicate_succ', ← List.append_assoc, ← hys]), hN8, .inr ⟨by rw [rws_app, List.length_append]; exact hO', fun k hk ↦ by rcases hnb k hk with z | z; exact hob k z; omega⟩, kp _ ⟨rfl, rfl, rfl, rfl, rfl, rfl, rfl, trivial⟩⟩
    · try simp only [decide_eq_true_eq, decide_eq_false_iff_not, Bool.not_eq_true', Bool.not_eq_false', Bool.not_eq_eq_eq_not, Bool.not_true, Bool.not_false, beq_iff_eq, bne_iff_ne, ne_eq, beq_eq_false_iff_ne, bne_eq_false_iff_eq, gt_iff_lt, ge_iff_le, Int.not_lt, Int.not_le] at hc80
      refine c_exit (x_thenX (x_thenX (x_blkX (x_then ?_))))
      have hy3 : ys.length = 3 := by omega
      have hbs : ys = [zs.getD 0 vNil, zs.getD 1 vNil, zs.getD 2 vNil] := pad3 hy3 hz3 hys
      rcases hLo with ⟨e1, e2⟩ | ⟨hO, hob⟩
      · injection e2 with f1 f2 f3
        rw [f1, hy3]
        have hz30 : zs.length = 3 := by rw [← e1]; exact hy3
        refine ⟨sg, _, vc, hsgt, .inr (by rw [if_neg (by omega)]; omega), hN7, ⟨lS, 119, hB7, ?_⟩, kp _ ⟨rfl, rfl, rfl, rfl, rfl, rfl, rfl, trivial⟩⟩
        rw [← hbs, e1]
        exact hwz
      · rw [hy3] at hO
        obtain ⟨gg, gcap, gl, e9, b9, -, -, -, q9⟩ := hO.pos (by decide)
        injection e9 with f1 f2 f3
        rw [f1, hy3]
        refine ⟨gg, 0, vc, (by have := hob gg (by rw [f1]; rfl); omega), .inl (hdf6 _ (hob gg (by rw [f1]; rfl))), hN7, ⟨gl, 119, b9, ?_⟩, kp _ ⟨rfl, rfl, rfl, rfl, rfl, rfl, rfl, trivial⟩⟩
        rw [← hbs, rws_len pvc_len, hy3, List.drop_zero]
        exact q9
  rintro b u ⟨ab, ao, ac, hatb, hab9, hN7, ⟨lA, tA, hBA, hWA⟩, e', rfl⟩
  have h10 := hN7.blkN h10
  have h13 := hN7.blkN h13
  have o7 := o6.thruN hN7
  have hR := o7.an
  have hF := hF.thenN hN7
  have hB5 := hBA
  have hT := hN7.blkN hT
  refine c_seq (fun K14 hK14 => ?_)
  refine c_reg ?_ -- region 16 call.go:50
  refine wl (ro_move rfl) ?_
  refine wl (ro_s2ap rfl ar_225 (by decide)) ?_
  refine wl (ro_assign rfl) ?_
  refine wl_nil (x_then (hK14 _ _ ?_))
  clear hK14 K14
  refine forget [(0, _), (1, _), (2, _), (10, _), (12, _), (13, _), (15, _)] ⟨rfl, rfl, rfl, rfl, rfl, rfl, rfl, trivial⟩ (fun e => ?_)
  refine c_seq (fun K15 hK15 => ?_)
  refine c_reg ?_ -- region 17 call.go:51
  refine wl_new (ze_119) (fun b16 w6 hbb16 h16 F6 => ?_)
  have hneb10b16 : b10 < b16 := Nat.lt_of_lt_of_le h10.lt hbb16
  have hneb13b16 : b13 < b16 := Nat.lt_of_lt_of_le h13.lt hbb16
  have hbsb16 := Nat.le_trans hF.size hbb16
  have hneabb16 : ab < b16 := Nat.lt_of_lt_of_le hB5.lt hbb16
  have hneC.E.tbb16 : C.E.tb < b16 := Nat.lt_of_lt_of_le hT.lt hbb16
  have kh16 := hR.df b16 hbb16
  replace h10 := F6.blkN h10
  replace h13 := F6.blkN h13
  replace hF := hF.thenDrew.thenN F6
  replace hR := hR.thruN ((Fram.refl none' _).thenDrew.thenN F6)
  replace hB5 := F6.blkN hB5
  replace hT := F6.blkN hT
  refine wl_new (ze_119) (fun b17 w7 hbb17 h17 F7 => ?_)
  have hneb10b17 : b10 < b17 := Nat.lt_of_lt_of_le h10.lt hbb17
  have hneb13b17 : b13 < b17 := Nat.lt_of_lt_of_le h13.lt hbb17
  have hbsb17 := Nat.le_trans hF.size hbb17
  have hneabb17 : ab < b17 := Nat.lt_of_lt_of_le hB5.lt hbb17
  have hneC.E.tbb17 : C.E.tb < b17 := Nat.lt_of_lt_of_le hT.lt hbb17
  have hneb16b17 : b16 < b17 := Nat.lt_of_lt_of_le h16.lt hbb17
  have kh17 := hR.df b17 hbb17
  replace h10 := F7.blkN h10
  replace h13 := F7.blkN h13
  replace hF := hF.thenDrew.thenN F7
  replace hR := hR.thruN ((Fram.refl none' _).thenDrew.thenN F7)
  replace hB5 := F7.blkN hB5
  replace hT := F7.blkN hT
  replace h16 := F7.blkN h16
  refine wl_nil (x_then (hK15 _ _ ?_))
  clear hK15 K15
  refine c_seq (fun K16 hK16 => ?_)
  refine c_seq (fun K17 hK17 => ?_)
  obtain ⟨ra0, ra1, ra2⟩ := win_row hWA
  refine c_reg ?_ -- region 18 call.go:52
  refine wl (ro_fieldAddr (k := 1) rfl fo_119_1) ?_
  refine wl (ro_loadB rfl sc_117 (by assumption) rfl) ?_
  refine wl_nil (x_then (hK17 _ _ ?_))
  clear hK17 K17
  refine c_block ?_
  refine forget [(0, _), (1, _), (2, _), (10, _), (12, _), (15, _), (16, _), (17, _), (88, _)] ⟨rfl, rfl, rfl, rfl, rfl, rfl, rfl, rfl, rfl, trivial⟩ (fun e => ?_)
  refine c_seq (fun K18 hK18 => ?_)
  refine c_reg ?_ -- region 20 call.go:53
  refine wl (ro_cmp (r := true) rfl rfl (by rw [hN]; rfl)) ?_
  refine wl (ro_assign rfl) ?_
  refine wl_nil (x_then (hK18 _ _ ?_))
  clear hK18 K18
  refine wc_condT rfl ?_
  refine c_seq (fun K19 hK19 => ?_)
  refine c_seq (fun K20 hK20 => ?_)
  refine c_reg ?_ -- region 21 call.go:54
  refine wl (ro_move rfl) ?_
  refine wl (ro_nilCheck rfl) ?_
  refine wl (ro_indexAddrA (et := 119) (k := 3) rfl rfl ar_225 (rfl) ((by decide))) ?_
  refine wl (ro_fieldAddr (k := 0) rfl fo_119_0) ?_
  refine wl (ro_loadB rfl sc_3 (hB5) (row_get ra0 (by decide))) ?_
  refine wl (ro_cmp (r := true) rfl rfl (by rw [h9]; rfl)) ?_
  refine wl (ro_move rfl) ?_
  refine wlg_yes rfl (ro_move rfl) ?_
  refine wlg_yes rfl (ro_nilCheck rfl) ?_
  refine wlg_yes rfl (ro_fieldAddr (k := 3) rfl fo_269_3) ?_
  refine wlg_yes rfl (ro_loadB rfl sc_267 (hT) (hT3)) ?_
  refine wlg_yes rfl (ro_lenL rfl se_267) ?_
  refine wlg_yes rfl (ro_cmp (r := false) rfl rfl (congrArg some (decide_eq_false (by omega)))) ?_
  refine wl (ro_pick rfl rfl rfl) ?_
  refine wl_nil (x_then (hK20 _ _ ?_))
  clear hK20 K20
  refine wc_condF rfl ?_
  refine c_skip (x_then (hK19 _ _ ?_))
  clear hK19 K19
  refine forget [(2, _), (10, _), (12, _), (15, _), (16, _), (17, _)] ⟨rfl, rfl, rfl, rfl, rfl, rfl, trivial⟩ (fun e => ?_)
  refine c_seq (fun K21 hK21 => ?_)
  refine c_reg ?_ -- region 24 call.go:58
  refine wl (ro_build rfl bld_119_0_2) ?_
  refine wl_puta rfl rfl ((pvc_one (vStr mCall))) sz_119 (rfl) h17 ((by simp)) (rfl) (fun w8 h17 F8 => ?_)
  replace h10 := F8.blkO h10 (by first | omega | exact ow_ne (by assumption) (by assumption) (by omega))
  replace h13 := F8.blkO h13 (by first | omega | exact ow_ne (by assumption) (by assumption) (by omega))
  replace hF := hF.thenDrew.thenO F8 (by first | exact .inr (by omega) | exact .inl rfl | exact .inl (by assumption) | assumption)
  replace hR := hR.hbput ((Fram.refl (one b17) _).thenDrew.thenO F8 (.inl rfl))
  replace hB5 := F8.blkO hB5 (by first | omega | exact ow_ne (by assumption) (by assumption) (by omega))
  replace hT := F8.blkO hT (by first | omega | exact ow_ne (by assumption) (by assumption) (by omega))
  replace h16 := F8.blkO h16 (by first | omega | exact ow_ne (by assumption) (by assumption) (by omega))
  refine wl_nil (x_then (hK21 _ _ ?_))
  clear hK21 K21
  refine c_seq (fun K22 hK22 => ?_)
  refine c_seq (fun K23 hK23 => ?_)
  refine c_reg ?_ -- region 25 call.go:59
  refine wl (ro_move rfl) ?_
  refine wl (ro_nilCheck rfl) ?_
  refine wl (ro_indexAddrA (et := 119) (k := 3) rfl rfl ar_225 (rfl) ((by decide))) ?_
  refine wl (ro_fieldAddr (k := 0) rfl fo_119_0) ?_
  refine wl (ro_loadB rfl sc_3 (hB5) (row_get ra0 (by decide))) ?_
  refine wl (ro_cmp (r := true) rfl rfl (by rw [h9]; rfl)) ?_
  refine wl_nil (x_then (hK23 _ _ ?_))
  clear hK23 K23
  refine wc_condT rfl ?_
  refine c_reg ?_ -- region 26 call.go:60
  refine wl (ro_fieldAddr (k := 2) rfl fo_119_2) ?_
  refine wl_put rfl rfl rfl sz_9 h17 ((by simp)) (rfl) (fun w9 h17 F9 => ?_)
  replace h10 := F9.blkO h10 (by first | omega | exact ow_ne (by assumption) (by assumption) (by omega))
  replace h13 := F9.blkO h13 (by first | omega | exact ow_ne (by assumption) (by assumption) (by omega))
  replace hF := hF.thenDrew.thenO F9 (by first | exact .inr (by omega) | exact .inl rfl | exact .inl (by assumption) | assumption)
  replace hR := hR.hbput ((Fram.refl (one b17) _).thenDrew.thenO F9 (.inl rfl))
  replace hB5 := F9.blkO hB5 (by first | omega | exact ow_ne (by assumption) (by assumption) (by omega))
  replace hT := F9.blkO hT (by first | omega | exact ow_ne (by assumption) (by assumption) (by omega))
  replace h16 := F9.blkO h16 (by first | omega | exact ow_ne (by assumption) (by assumption) (by omega))
  refine wl_nil (x_then (hK22 _ _ ?_))
  clear hK22 K22
  refine c_reg ?_ -- region 27 call.go:62
  refine wl (ro_build rfl bld_119_0) ?_
  refine wl_puta rfl rfl ((pvc_one (vBool false))) sz_119 (rfl) h16 ((by simp)) (rfl) (fun w10 h16 F10 => ?_)
  replace h10 := F10.blkO h10 (by first | omega | exact ow_ne (by assumption) (by assumption) (by omega))
  replace h13 := F10.blkO h13 (by first | omega | exact ow_ne (by assumption) (by assumption) (by omega))
  replace hF := hF.thenDrew.thenO F10 (by first | exact .inr (by omega) | exact .inl rfl | exact .inl (by assumption) | assumption)
  replace hR := hR.hbput ((Fram.refl (one b16) _).thenDrew.thenO F10 (.inl rfl))
  replace hB5 := F10.blkO hB5 (by first | omega | exact ow_ne (by assumption) (by assumption) (by omega))
  replace hT := F10.blkO hT (by first | omega | exact ow_ne (by assumption) (by assumption) (by omega))
  replace h17 := F10.blkO h17 (by first | omega | exact ow_ne (by assumption) (by assumption) (by omega))
  refine wl_nil (x_blk (x_then (hK16 _ _ ?_)))
  clear hK16 K16
  refine forget [(2, _), (10, _), (12, _), (16, _), (17, _)] ⟨rfl, rfl, rfl, rfl, rfl, trivial⟩ (fun e => ?_)
  refine c_seq (fun K24 hK24 => ?_)
  obtain ⟨V8, κ8, Vv8, U8, x8, f8, fs8, o8, hn8⟩ := AN.open (a := { a with fuel := a.fuel - 1 }) hR hc
  obtain ⟨sg8, sc8, lT8, hT, l25, hT8, hsc8, law8⟩ := o8.cut ho
  have hln8 := o8.t.ln
  have hq8 : f8.base + g.slots.length + l.length = q := by have h1 : f8.base + g.slots.length + g.ops.length = x8.stack.length := hln8; have h2 : x8.stack.length = x.stack.length := hn8; omega
  have htt8 := o8.v.tt.1
  have hc : ({ a with fuel := a.fuel - 1 } : AS).cur < ({ a with fuel := a.fuel - 1 } : AS).ths.length := hc
  refine c_reg ?_ -- region 62 call.go:103
  refine wl (ro_move rfl) ?_
  refine wl (ro_move rfl) ?_
  refine wl (ro_nilCheck rfl) ?_
  refine wl (ro_fieldAddr (k := 2) rfl fo_269_2) ?_
  refine wl (ro_loadB rfl sc_83 (hT) (hT8)) ?_
  refine wl (ro_move rfl) ?_
  refine wl (ro_sliceH (h := q) rfl rfl se_83 rfl (by have h2 : x8.stack.length = x.stack.length := hn8; omega)) ?_
  refine wl (ro_nilCheck rfl) ?_
  refine wl (ro_fieldAddr (k := 2) rfl fo_269_2) ?_
  refine wl_put rfl rfl rfl sz_83 hT ((by omega)) (rfl) (fun w11 hT F11 => ?_)
  replace h10 := F11.blkO h10 (by first | omega | exact ow_ne (by assumption) (by assumption) (by omega))
  replace h13 := F11.blkO h13 (by first | omega | exact ow_ne (by assumption) (by assumption) (by omega))
  replace hF := hF.thenDrew.thenO F11 (by first | exact .inr (by omega) | exact .inl rfl | exact .inl (by assumption) | assumption)
  replace h16 := F11.blkO h16 (by first | omega | exact ow_ne (by assumption) (by assumption) (by omega))
  replace h17 := F11.blkO h17 (by first | omega | exact ow_ne (by assumption) (by assumption) (by omega))
  have hR := law8 w11 q hq8 F11 hT
  refine wl_nil (x_then (hK24 _ _ ?_))
  clear hK24 K24
  refine forget [(2, _), (10, _), (16, _), (17, _)] ⟨rfl, rfl, rfl, rfl, trivial⟩ (fun e => ?_)
  refine c_seq (fun K25 hK25 => ?_)
  refine c_reg ?_ -- region 63 call.go:104
  refine wl (ro_move rfl) ?_
  refine wl (ro_loadAggB rfl ag_119 (h16) rfl rfl) ?_
  refine wl (ro_loadAggB rfl ag_119 (h17) rfl rfl) ?_
  refine wl_pu (vs := [vBool false, vStr mDepth]) (eo_bsV2 rfl rfl se_83 zx_119) rfl hR.dr hc rfl (by show l.length + 2 ≤ 300; omega) ?_
  intro u12 ow12 x12 f12 r12
  obtain ⟨h10, kh10⟩ := vm_loc x12 f12 h10 kh10
  obtain ⟨h13, kh13⟩ := vm_loc x12 f12 h13 kh13
  obtain ⟨h16, kh16⟩ := vm_loc x12 f12 h16 kh16
  obtain ⟨h17, kh17⟩ := vm_loc x12 f12 h17 kh17
  have hs12 := hF.size
  replace hF := vm_trans hX hF f12
  replace hX := hX.trans hs12 x12
  replace hR := r12
  refine wl_nil (x_then (hK25 _ _ ?_))
  clear hK25 K25
  refine forget [(10, _)] ⟨rfl, trivial⟩ (fun e => ?_)
  refine c_seq (fun K26 hK26 => ?_)
  refine c_reg ?_ -- region 64 call.go:105
  refine wl (ro_build rfl bld_211) ?_
  refine wl_puta rfl rfl ((vevc_one 0 0 0 vNil vNil)) sz_211 (rfl) h10 ((by simp)) (rfl) (fun w13 h10 F13 => ?_)
  replace h13 := F13.blkO h13 (by first | omega | exact ow_ne (by assumption) (by assumption) (by omega))
  replace hF := hF.thenDrew.thenO F13 (by first | exact .inr (by omega) | exact .inl rfl | exact .inl (by assumption) | assumption)
  replace h16 := F13.blkO h16 (by first | omega | exact ow_ne (by assumption) (by assumption) (by omega))
  replace h17 := F13.blkO h17 (by first | omega | exact ow_ne (by assumption) (by assumption) (by omega))
  replace hR := hR.hbput ((Fram.refl (one b10) _).thenDrew.thenO F13 (.inl rfl))
  refine wl_nil (x_then (hK26 _ _ ?_))
  clear hK26 K26
  refine c_ret ?_
  refine bqp_ret (res1 Tryz.results245 (rv_c rfl ag_211 (h10) (rfl))) ?_
  exact ⟨_, _, hX, hF, hR.q, rfl, E.sn.d, .inl ⟨rfl, by unfold acall1; rw [if_neg (by omega), if_neg (by omega), if_neg (by omega), if_neg (by omega), if_neg (by omega), if_neg (by omega), if_neg (by omega), if_pos hN, if_neg (show ¬ (zs.getD 0 vNil).T ≠ 5 by omega), hdl, if_pos (decide_eq_true hd)]; exact (apush2_mk (a := { a with fuel := a.fuel - 1 }) hc _ _).symm⟩⟩
end
end Go.Proofs.Qxb6500568aGreatDoor
