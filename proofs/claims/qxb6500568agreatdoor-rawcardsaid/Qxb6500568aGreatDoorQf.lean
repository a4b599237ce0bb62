import Derived.Test.Qxb6500568aGreatDoorQe
/- The machine: calls, built in. -/
namespace Go.Proofs.Qxb6500568aGreatDoor
open Ieee
set_option linter.unusedVariables false
set_option linter.unusedSimpArgs false
set_option linter.unusedSectionVars false

section
variable {C : VC} {w : World} {ow : Nat → Nat} {a : AS} {y : ATh} {gs : List AFr} {g : AFr} {vars : List PV} {fg fc p : Nat} {ids : List Nat} {zs l : List PV} {fn : PV}
theorem thA_c {n : Nat} (hn : n ≠ a.cur) (t : ATh) : thA ((caS a y gs g vars l).setT t).ths n = (mkA { a with fuel := a.fuel - 1 } y gs { g with pc := g.pc + 1 } vars).ths.getD n ATh.zero := by
  unfold thA AS.setT caS mkA
  dsimp only
  rw [List.getD_eq_getElem?_getD, List.getElem?_set_ne (fun h => hn h.symm), List.getElem?_set_ne (fun h => hn h.symm), List.getD_eq_getElem?_getD, List.getElem?_set_ne (fun h => hn h.symm)]
theorem rsm_mk {Ps : List Proto} {s : AS} {A B : PV} (hn : A.N ≠ s.cur) : rsm Ps A.N B (s.setT { s.th with st := 3 }) = aresume Ps A B s := by
  have e : thA (s.setT { s.th with st := 3 }).ths A.N = s.ths.getD A.N ATh.zero := by
    unfold thA AS.setT
    dsimp only
    rw [List.getD_eq_getElem?_getD, List.getElem?_set_ne (fun h => hn h.symm), List.getD_eq_getElem?_getD]
  unfold rsm aresume
  rw [e]
section
variable {P : Program} {n : Nat} {e : Nat → Option Value} {w : World}
/-- an array's part, three bounds told. -/
theorem ro_sliceA3 {t et k b o len l h : Nat} {q q' q2 : IntKind} {x y z y2 : Operand} (hx : evO n e x = some (.pointer (some ⟨b, o, none⟩))) (hy : evO n e y = some (.int q (l : Int))) (hz : evO n e z = some (.int q' (h : Int))) (h2 : evO n e y2 = some (.int q2 (h : Int))) (ht : arrB P t len et k = true) (h1 : l < h) (hc : h ≤ len) : RO P n e w (.slice t x (some y) (some z) (some y2)) (.slice (some ⟨b, o + l * k, none⟩) (h - l) (h - l)) := by
  intro ds dst ty ps af g
  obtain ⟨t1, t2⟩ := arrB_spec ht
  have hlc : l ≤ h := by omega
  have hne : ¬ h = l := by omega
  simp [execOp, evO_eval hx, evO_eval hy, evO_eval hz, evO_eval h2, Instr.sliceAt, run_underlying t1, Instr.sureAddr, Instr.sliceBounds, Instr.sliceBound, asIntOf, hc, hlc, hne, run_sizeOf t2, addr_add]
end
theorem neT {n k : Nat} (h : n ≠ k) : some ((n : Int) != (k : Int)) = some true := by
  congr 1
  rw [bne_iff_ne]
  omega
set_option maxHeartbeats 8000000 in
theorem nat_9a (E : PE C fg fc w ow a y gs g vars p ids 26 zs.length) (hf : 0 < a.fuel) (ho : g.ops = zs.reverse ++ fn :: l) (h6 : fn.T = 6) (hN : fn.N = 9) (h7 : (zs.getD 0 vNil).T ≠ 7) : RetP Tryz.prog 245 [ptr C.E.mb, i64c a.cur, tptr C a.cur, fpt fg gs.length, i64c zs.length] w (CaR C w ow (kH a) (acall (Psf C.F) zs.length (mkA a y gs g vars))) (AE C (kH a) w ow (acall (Psf C.F) zs.length (mkA a y gs g vars))) := by
  have hR := E.r
  have hc := E.hc
  have hc0 := E.hc
  have hX : Xt w ow ow := Xt.refl _ _
  have hF : Fram (tg ow vtT) w w := Fram.refl _ _
  have hol := E.ol
  have hz3 : zs.length ≤ 3 := E.sn.r.2.2.2.2.2.2.2.2.1 rfl
  have hlo := congrArg List.length ho
  simp only [List.length_append, List.length_reverse, List.length_cons] at hlo
  have hvf : tg ow vtT fg := by
    obtain ⟨V, κ, Vv, U, x, f, fs, o⟩ := hR.open hc
    obtain ⟨lB, hB1, k1, -⟩ := o.pcS
    show vtT (ow fg)
    rw [k1]; left; have := o.lt; unfold vmT; omega
  have hvt0 : tg ow vtT C.E.tb := hR.q.vtb
  rw [acall_mk hc ho hf]
  obtain ⟨hpb, -, -⟩ := E.pcb
  have hvz : ∀ k, VV a.clos.length a.ths.length a.tabs.length (zs.getD k vNil) := fun k => by
    rw [List.getD_eq_getElem?_getD]
    cases hk : zs[k]? with
    | none => exact .nil _ _ _
    | some v => exact E.vo (by rw [ho]; exact List.mem_append.2 (.inl (List.mem_reverse.2 (List.mem_of_getElem? hk))))
  refine retp_of Tryz.func245 rfl Tryz.ntmps245 rfl ?_
  refine c_seq (fun K1 hK1 => ?_)
  refine c_reg ?_ -- region 0 call.go:30
  refine wl_new (ze_211) (fun b10 w1 hbb10 h10 F1 => ?_)
  have hbsb10 := Nat.le_trans hF.size hbb10
  have kh10 := hR.df b10 hbb10
  replace hF := hF.thenDrew.thenN F1
  replace hR := hR.thruN ((Fram.refl none' _).thenDrew.thenN F1)
  refine wl_nil (x_then (hK1 _ _ ?_))
  clear hK1 K1
  refine forget [(0, _), (1, _), (2, _), (3, _), (4, _), (10, _)] ⟨rfl, rfl, rfl, rfl, rfl, rfl, trivial⟩ (fun e => ?_)
  refine c_seq (fun K2 hK2 => ?_)
  refine c_reg ?_ -- region 1 call.go:31
  refine wl (ro_move rfl) ?_
  refine wl_call rfl en_258 (burnA hR.dr hf) ?_
  rintro _ u2 ⟨rfl, ow2, x2, f2, r2⟩
  obtain ⟨h10, kh10⟩ := vm_loc x2 f2 h10 kh10
  have hs2 := hF.size
  replace hF := vm_trans hX hF f2
  replace hX := hX.trans hs2 x2
  replace hR := r2
  obtain ⟨V, κ, Vv, U, x, f, fs, o⟩ := AM.open (a := { a with fuel := a.fuel - 1 }) hR hc
  obtain ⟨sg, sc, lS, hU, hB5, ts, hcs, hln, rfn, rzs⟩ := o.cal ho
  have hlt : a.cur < 5 := o.lt
  have hdp := o.dp
  have hsl := o.sl
  have hbb := o.t.bb
  have hgsl := o.t.nl
  obtain ⟨pp, pids, -, -, hns⟩ := o.ns
  obtain ⟨lT, hT, -, -, -, hT2, -⟩ := o.v.thA o.t.hx
  have hT3 := hT2 3 (.inr (.inl rfl))
  have hT2 := hT2 2 (.inl rfl)
  have hU2 := hU
  rw [hln] at hU
  rw [hU] at hT2
  have hT3 : lT[a.cur * 5 + 3]? = some (.slice (some ⟨fg, 0, none⟩) (gs.length + 1) fc) := by rw [← o.hf]; exact hT3
  have hN0 := hR.selfN
  have htt := o.v.tt.1
  have hq9 : f.base + g.slots.length + l.length < 9000 := by omega
  generalize hqd : f.base + g.slots.length + l.length = q at *
  refine wl_nil (x_then (hK2 _ _ ?_))
  clear hK2 K2
  refine forget [(0, _), (1, _), (2, _), (3, _), (4, _), (10, _)] ⟨rfl, rfl, rfl, rfl, rfl, rfl, trivial⟩ (fun e => ?_)
  refine c_seq (fun K3 hK3 => ?_)
  refine c_reg ?_ -- region 2 call.go:32
  refine wl (ro_move rfl) ?_
  refine wl (ro_nilCheck rfl) ?_
  refine wl (ro_fieldAddr (k := 2) rfl fo_269_2) ?_
  refine wl (ro_loadB rfl sc_83 (hT) (hT2)) ?_
  refine wl (ro_lenL rfl se_83) ?_
  refine wl (ro_assign rfl) ?_
  refine wl_nil (x_then (hK3 _ _ ?_))
  clear hK3 K3
  refine forget [(0, _), (1, _), (2, _), (3, _), (4, _), (10, _), (11, _)] ⟨rfl, rfl, rfl, rfl, rfl, rfl, rfl, trivial⟩ (fun e => ?_)
  refine c_seq (fun K4 hK4 => ?_)
  refine c_reg ?_ -- region 3 call.go:33
  refine wl (ro_move rfl) ?_
  refine wl (ro_move rfl) ?_
  refine wl (ro_subN (r := q + 1) rfl rfl (by omega) (by omega)) ?_
  refine wl (ro_subN (r := q) (k := 1) rfl rfl (by omega) (by omega)) ?_
  refine wl (ro_assign rfl) ?_
  refine wl_nil (x_then (hK4 _ _ ?_))
  clear hK4 K4
  refine forget [(0, _), (1, _), (2, _), (3, _), (10, _), (11, _), (12, _)] ⟨rfl, rfl, rfl, rfl, rfl, rfl, rfl, trivial⟩ (fun e => ?_)
  refine c_seq (fun K5 hK5 => ?_)
  refine c_reg ?_ -- region 4 call.go:34
  refine wl (ro_move rfl) ?_
  refine wl (ro_nilCheck rfl) ?_
  refine wl (ro_fieldAddr (k := 2) rfl fo_269_2) ?_
  refine wl (ro_loadB rfl sc_83 (hT) (hT2)) ?_
  refine wl (ro_move rfl) ?_
  refine wl (ro_indexAddr (et := 119) (k := 3) rfl rfl se_83 (rfl) ((by omega))) ?_
  refine wl (ro_loadAggB rfl ag_119 (hB5) (pvc_len _) ((by rw [Nat.zero_add]; exact rfn))) ?_
  refine wl_new (ze_119) (fun b13 w3 hbb13 h13 F3 => ?_)
  have hbsb13 := Nat.le_trans hF.size hbb13
  have hneb10b13 : b10 < b13 := Nat.lt_of_lt_of_le h10.lt hbb13
  have hneC.E.tbb13 : C.E.tb < b13 := Nat.lt_of_lt_of_le hT.lt hbb13
  have hnesgb13 : sg < b13 := Nat.lt_of_lt_of_le hB5.lt hbb13
  have hbsb13 := Nat.le_trans hN0.size hbb13
  have kh13 := hR.df b13 hbb13
  replace hF := hF.thenDrew.thenN F3
  replace hR := hR.thruN ((Fram.refl none' _).thenDrew.thenN F3)
  replace h10 := F3.blkN h10
  replace hT := F3.blkN hT
  replace hB5 := F3.blkN hB5
  replace hN0 := hN0.thenDrew.thenN F3
  refine wl_puta rfl rfl ((pvc_one fn)) sz_119 (rfl) h13 ((by simp)) (rfl) (fun w4 h13 F4 => ?_)
  replace hF := hF.thenDrew.thenO F4 (by first | exact .inr (by omega) | exact .inl rfl | exact .inl (by assumption) | assumption)
  replace hR := hR.hbput ((Fram.refl (one b13) _).thenDrew.thenO F4 (.inl rfl))
  replace h10 := F4.blkO h10 (by first | omega | exact ow_ne (by assumption) (by assumption) (by omega))
  replace hT := F4.blkO hT (by first | omega | exact ow_ne (by assumption) (by assumption) (by omega))
  replace hB5 := F4.blkO hB5 (by first | omega | exact ow_ne (by assumption) (by assumption) (by omega))
  replace hN0 := hN0.thenDrew.thenO F4 (by first | exact .inr (by omega) | exact .inl rfl | exact .inl (by assumption) | assumption)
  refine wl_nil (x_then (hK5 _ _ ?_))
  clear hK5 K5
  refine forget [(0, _), (1, _), (2, _), (3, _), (10, _), (11, _), (12, _), (13, _)] ⟨rfl, rfl, rfl, rfl, rfl, rfl, rfl, rfl, trivial⟩ (fun e => ?_)
  refine c_seq (fun K6 hK6 => ?_)
  refine c_reg ?_ -- region 5 call.go:35
  refine wl (ro_move rfl) ?_
  refine wl (ro_nilCheck rfl) ?_
  refine wl (ro_fieldAddr (k := 2) rfl fo_269_2) ?_
  refine wl (ro_loadB rfl sc_83 (hT) (hT2)) ?_
  refine wl (ro_move rfl) ?_
  refine wl (ro_addN (k := 1) rfl rfl (by omega)) ?_
  refine wl (ro_move rfl) ?_
  refine wl (ro_move rfl) ?_
  refine wl (ro_slice3 (l := q + 1) (m := zs.length) rfl rfl rfl rfl se_83 (by omega) (by omega)) ?_
  refine wl (ro_assign rfl) ?_
  have o5 := o.thruN hN0
  have hpe := o5.t.pc
  obtain ⟨lB, hB1, k1, q1, q2, hpc⟩ := o5.pcS
  refine wl_nil (x_then (hK6 _ _ ?_))
  clear hK6 K6
  refine forget [(0, _), (1, _), (2, _), (3, _), (10, _), (12, _), (13, _), (14, _)] ⟨rfl, rfl, rfl, rfl, rfl, rfl, rfl, rfl, trivial⟩ (fun e => ?_)
  refine c_seq (fun K7 hK7 => ?_)
  refine c_reg ?_ -- region 6 call.go:36
  refine wl (ro_move rfl) ?_
  refine wl (ro_nilCheck rfl) ?_
  refine wl (ro_fieldAddr (k := 1) rfl fo_331_1) ?_
  refine wl (ro_loadB rfl sc_3 (hB1) (frow_at q1 (by decide))) ?_
  refine wl (ro_addN (k := 1) rfl rfl (by omega)) ?_
  refine wl (ro_nilCheck rfl) ?_
  refine wl (ro_fieldAddr (k := 1) rfl fo_331_1) ?_
  refine wl_put rfl rfl rfl sz_3 hB1 ((by omega)) (rfl) (fun w5 hB1 F5 => ?_)
  replace hF := hF.thenDrew.thenO F5 (by first | exact .inr (by omega) | exact .inl rfl | exact .inl (by assumption) | assumption)
  replace h10 := F5.blkO h10 (by first | omega | exact ow_ne (by assumption) (by assumption) (by omega))
  replace hT := F5.blkO hT (by first | omega | exact ow_ne (by assumption) (by assumption) (by omega))
  replace hB5 := F5.blkO hB5 (by first | omega | exact ow_ne (by assumption) (by assumption) (by omega))
  replace h13 := F5.blkO h13 (by first | omega | exact ow_ne (by assumption) (by assumption) (by omega))
  have o6 := hpc w5 (g.pc + 1) F5 (by rw [← hpe]; exact hB1)
  have hR := o6.am
  have hN6 := hR.selfN
  have hsgt : sg ≠ C.E.tb := fun h ↦ by rw [h, htt] at ts; omega
  have htl9 := hT.lt
  have hdf6 := o6.v.df
  have hwz : (lS.drop (if zs.length = 0 then 0 else 0 + (q + 1) * 3)).take (rws pvc zs).length = rws pvc zs := by
    rw [rws_len pvc_len]
    by_cases h0 : zs.length = 0
    · rw [if_pos h0, h0, Nat.zero_mul, List.take_zero, List.eq_nil_of_length_eq_zero h0]; rfl
    · rw [if_neg h0, Nat.zero_add]; exact rzs
  have hwy : ∀ {ys : List PV}, ys = zs → (lS.drop (if ys.length = 0 then 0 else 0 + (q + 1) * 3)).take (ys.length * 3) = rws pvc ys := fun h ↦ by subst h; rw [← rws_len (enc := pvc) pvc_len]; exact hwz
  refine wl_nil (x_then (hK7 _ _ ?_))
  clear hK7 K7
  refine c_seq (fun K8 hK8 => ?_)
  refine c_seq (fun K9 hK9 => ?_)
  refine c_reg ?_ -- region 7 call.go:37
  refine wl (ro_fieldAddr (k := 0) rfl fo_119_0) ?_
  refine wl (ro_loadB rfl sc_3 (by assumption) rfl) ?_
  refine wl (ro_cmp (r := false) rfl rfl (by rw [h6]; rfl)) ?_
  refine wl_nil (x_then (hK9 _ _ ?_))
  clear hK9 K9
  refine wc_condF rfl ?_
  refine c_skip (x_then (hK8 _ _ ?_))
  clear hK8 K8
  refine c_seq (fun K10 hK10 => ?_)
  refine c_seq (fun K11 hK11 => ?_)
  refine c_reg ?_ -- region 12 call.go:44
  refine wl (ro_fieldAddr (k := 0) rfl fo_119_0) ?_
  refine wl (ro_loadB rfl sc_3 (by assumption) rfl) ?_
  refine wl (ro_cmp (r := false) rfl rfl (by rw [h6]; rfl)) ?_
  refine wl_nil (x_then (hK11 _ _ ?_))
  clear hK11 K11
  refine wc_condF rfl ?_
  refine c_skip (x_then (hK10 _ _ ?_))
  clear hK10 K10
  refine forget [(0, _), (1, _), (2, _), (10, _), (12, _), (13, _), (14, _)] ⟨rfl, rfl, rfl, rfl, rfl, rfl, rfl, trivial⟩ (fun e => ?_)
  refine c_mid (fun b u => ∃ ab ao c, ab ≠ C.E.tb ∧ (ow2 ab = 66 ∨ ao + 9 ≤ x.stack.length * 3) ∧ Fram none' w5 u ∧ WinB u ab ao (rws pvc [zs.getD 0 vNil, zs.getD 1 vNil, zs.getD 2 vNil]) ∧ ∃ e', b = Fr 286 (upds e' [(0, ptr C.E.mb), (1, i64c a.cur), (2, tptr C a.cur), (10, ptr b10), (12, i64c q), (13, ptr b13), (14, .slice (some ⟨ab, ao, none⟩) 3 c)]) []) ?_ ?_
  · skip
    refine c_block ?_
    -- loop@r14: live slots [0, 1, 2, 10, 12, 13, 14]
    refine c_loopG (fun m b u => ∃ (ys : List PV) (v : Value), m = 3 - ys.length ∧ zs.length ≤ ys.length ∧ ys.length ≤ 3 ∧ ys = zs ++ List.replicate (ys.length - zs.length) vNil ∧ Fram none' w5 u ∧ ((ys = zs ∧ v = .slice (some ⟨sg, if zs.length = 0 then 0 else 0 + (q + 1) * 3, none⟩) zs.length zs.length) ∨ (Own u.heap v 119 3 ys.length (rws pvc ys) ∧ ∀ k, v.ownBlock = some k → w5.heap.size ≤ k)) ∧ ∃ e', b = Fr 286 (upds e' [(0, ptr C.E.mb), (1, i64c a.cur), (2, tptr C a.cur), (10, ptr b10), (12, i64c q), (13, ptr b13), (14, v)]) []) _ ⟨zs, _, rfl, Nat.le_refl _, hz3, by rw [Nat.sub_self]; exact (List.append_nil _).symm, hN6, .inl ⟨rfl, rfl⟩, kp _ ⟨rfl, rfl, rfl, rfl, rfl, rfl, rfl, trivial⟩⟩ ?_
    rintro m b u ⟨ys, v, rfl, hyz, hy3, hys, hN7, hLo, e', rfl⟩
    obtain ⟨va, vc, rfl⟩ : ∃ va vc, v = .slice va ys.length vc := by
      rcases hLo with ⟨e1, e2⟩ | ⟨hO, -⟩
      · rw [e1]; exact ⟨_, _, e2⟩
      · exact hO.form
    have hB7 := hN7.blkN hB5
    refine c_seq (fun K12 hK12 => ?_)
    refine c_seq (fun K13 hK13 => ?_)
    refine c_reg ?_ -- region 14 call.go:47
    refine wl (ro_move rfl) ?_
    refine wl (ro_lenL rfl se_83) ?_
    refine wl (ro_cmp rfl rfl rfl) ?_
    refine wl_nil (x_then (hK13 _ _ ?_))
    clear hK13 K13
    refine wc_cond rfl (fun hc80 => ?_) (fun hc80 => ?_)
    · try simp only [decide_eq_true_eq, decide_eq_false_iff_not, Bool.not_eq_true', Bool.not_eq_false', Bool.not_eq_eq_eq_not, Bool.not_true, Bool.not_false, beq_iff_eq, bne_iff_ne, ne_eq, beq_eq_false_iff_ne, bne_eq_false_iff_eq, gt_iff_lt, ge_iff_le, Int.not_lt, Int.not_le] at hc80
      refine c_skip (x_then (hK12 _ _ ?_))
      clear hK12 K12
      refine c_block ?_
      rcases hLo with ⟨e1, e2⟩ | ⟨hO, hob⟩
      · skip
        refine c_reg ?_ -- region 15 call.go:48
        refine wl (ro_move rfl) ?_
        refine wl (ro_build rfl bld_119) ?_
        refine wle (eo_bsV1 (i := vNil) rfl se_83 zx_119) ?_
        have F83 : Fram none' u (u.alloc (.cells (rws pvc [vNil]).toArray 119)) := Fram.alloc none' u _
        subst e1
        refine wl_appN (t := 83) (et := 119) (k := 3) (g := sg) (o := if ys.length = 0 then 0 else 0 + (q + 1) * 3) (m := ys.length) (cap := ys.length) (l := lS) (m2 := 1) (o2 := 0) (news := pvc vNil) (xs := rws pvc ys) (by rw [← e2]; rfl) rfl se_83 zx_119 by_119 rfl (F83.blkN hB7) (hwy rfl) (rws_len pvc_len _) (rws_oneC pvc_one _) (Blk.new u (rws pvc [vNil]) 119) rfl rfl (pvc_one vNil) (by omega) (by omega) (by omega) ?_
        intro v' u9 hO' G9 hob'
        have hN8 : Fram none' w5 u9 := (hN7.thenN F83).thenN G9
        have hsz := hN7.size
        have hsz2 := F83.size
        refine wl (ro_assign rfl) ?_
        refine wl_nil (x_blk (x_then ?_))
        exact ⟨3 - (ys.length + 1), by omega, ys ++ [vNil], _, by simp, by simp, by simp; omega, by simp, hN8, .inr ⟨by rw [rws_app, List.length_append]; exact hO', fun k hk ↦ by have := hob' k hk; omega⟩, kp _ ⟨rfl, rfl, rfl, rfl, rfl, rfl, rfl, trivial⟩⟩
      · skip
        refine c_reg ?_ -- region 15 call.go:48
        refine wl (ro_move rfl) ?_
        refine wl (ro_build rfl bld_119) ?_
        refine wl_bsapp (t := 83) (et := 119) (k := 3) (m := ys.length) (cs := pvc vNil) rfl rfl rfl rfl se_83 zx_119 by_119 rfl rfl rfl (pvc_one _) hO (by omega) (by omega) ?_
        intro v' u9 hO' G9 hnb
        have hN8 : Fram none' w5 u9 := hN7.trans' G9 (fun k hk h ↦ by have := hob k h; omega)
        have hsz := hN7.size
        skip
        refine wl (ro_assign rfl) ?_
        refine wl_nil (x_blk (x_then ?_))
        exact ⟨3 - (ys.length + 1), by omega, ys ++ [vNil], _, by simp, by simp; omega, by simp; omega, (by rw [List.length_append, List.length_singleton, show ys.length + 1 - zs.length = (ys.length - zs.length) + 1 by omega, List.replicate_succ', ← List.append_assoc, ← hys]), hN8, .inr ⟨by rw [rws_app, List.length_append]; exact hO', fun k hk ↦ by rcases hnb k hk with z | z; exact hob k z; omega⟩, kp _ ⟨rfl, rfl, rfl, rfl, rfl, rfl, rfl, trivial⟩⟩
    · try simp only [decide_eq_true_eq, decide_eq_false_iff_not, Bool.not_eq_true', Bool.not_eq_false', Bool.not_eq_eq_eq_not, Bool.not_true, Bool.not_false, beq_iff_eq, bne_iff_ne, ne_eq, beq_eq_false_iff_ne, bne_eq_false_iff_eq, gt_iff_lt, ge_iff_le, Int.not_lt, Int.not_le] at hc80
      refine c_exit (x_thenX (x_thenX (x_blkX (x_then ?_))))
      have hy3 : ys.length = 3 := by omega
      have hbs : ys = [zs.getD 0 vNil, zs.getD 1 vNil, zs.getD 2 vNil] := pad3 hy3 hz3 hys
      rcases hLo with ⟨e1, e2⟩ | ⟨hO, hob⟩
      · injection e2 with f1 f2 f3
        rw [f1, hy3]
        have hz30 : zs.length = 3 := by rw [← e1]; exact hy3
        refine ⟨sg, _, vc, hsgt, .inr (by rw [if_neg (by omega)]; omega), hN7, ⟨lS, 119, hB7, ?_⟩, kp _ ⟨rfl, rfl, rfl, rfl, rfl, rfl, rfl, trivial⟩⟩
        rw [← hbs, e1]
        exact hwz
      · rw [hy3] at hO
        obtain ⟨gg, gcap, gl, e9, b9, -, -, -, q9⟩ := hO.pos (by decide)
        injection e9 with f1 f2 f3
        rw [f1, hy3]
        refine ⟨gg, 0, vc, (by have := hob gg (by rw [f1]; rfl); omega), .inl (hdf6 _ (hob gg (by rw [f1]; rfl))), hN7, ⟨gl, 119, b9, ?_⟩, kp _ ⟨rfl, rfl, rfl, rfl, rfl, rfl, rfl, trivial⟩⟩
        rw [← hbs, rws_len pvc_len, hy3, List.drop_zero]
        exact q9
  rintro b u ⟨ab, ao, ac, hatb, hab9, hN7, ⟨lA, tA, hBA, hWA⟩, e', rfl⟩
  have h10 := hN7.blkN h10
  have h13 := hN7.blkN h13
  have o7 := o6.thruN hN7
  have hR := o7.an
  have hF := hF.thenN hN7
  have hB5 := hBA
  refine c_seq (fun K14 hK14 => ?_)
  refine c_reg ?_ -- region 16 call.go:50
  refine wl (ro_move rfl) ?_
  refine wl (ro_s2ap rfl ar_225 (by decide)) ?_
  refine wl (ro_assign rfl) ?_
  refine wl_nil (x_then (hK14 _ _ ?_))
  clear hK14 K14
  refine forget [(0, _), (1, _), (2, _), (10, _), (12, _), (13, _), (15, _)] ⟨rfl, rfl, rfl, rfl, rfl, rfl, rfl, trivial⟩ (fun e => ?_)
  refine c_seq (fun K15 hK15 => ?_)
  refine c_reg ?_ -- region 17 call.go:51
  refine wl_new (ze_119) (fun b16 w6 hbb16 h16 F6 => ?_)
  have hneb10b16 : b10 < b16 := Nat.lt_of_lt_of_le h10.lt hbb16
  have hneb13b16 : b13 < b16 := Nat.lt_of_lt_of_le h13.lt hbb16
  have hbsb16 := Nat.le_trans hF.size hbb16
  have hneabb16 : ab < b16 := Nat.lt_of_lt_of_le hB5.lt hbb16
  have kh16 := hR.df b16 hbb16
  replace h10 := F6.blkN h10
  replace h13 := F6.blkN h13
  replace hF := hF.thenDrew.thenN F6
  replace hR := hR.thruN ((Fram.refl none' _).thenDrew.thenN F6)
  replace hB5 := F6.blkN hB5
  refine wl_new (ze_119) (fun b17 w7 hbb17 h17 F7 => ?_)
  have hneb10b17 : b10 < b17 := Nat.lt_of_lt_of_le h10.lt hbb17
  have hneb13b17 : b13 < b17 := Nat.lt_of_lt_of_le h13.lt hbb17
  have hbsb17 := Nat.le_trans hF.size hbb17
  have hneabb17 : ab < b17 := Nat.lt_of_lt_of_le hB5.lt hbb17
  have hneb16b17 : b16 < b17 := Nat.lt_of_lt_of_le h16.lt hbb17
  have kh17 := hR.df b17 hbb17
  replace h10 := F7.blkN h10
  replace h13 := F7.blkN h13
  replace hF := hF.thenDrew.thenN F7
  replace hR := hR.thruN ((Fram.refl none' _).thenDrew.thenN F7)
  replace hB5 := F7.blkN hB5
  replace h16 := F7.blkN h16
  refine wl_nil (x_then (hK15 _ _ ?_))
  clear hK15 K15
  refine c_seq (fun K16 hK16 => ?_)
  refine c_seq (fun K17 hK17 => ?_)
  obtain ⟨ra0, ra1, ra2⟩ := win_row hWA
  refine c_reg ?_ -- region 18 call.go:52
  refine wl (ro_fieldAddr (k := 1) rfl fo_119_1) ?_
  refine wl (ro_loadB rfl sc_117 (by assumption) rfl) ?_
  refine wl_nil (x_then (hK17 _ _ ?_))
  clear hK17 K17
  refine c_block ?_
  refine forget [(0, _), (1, _), (2, _), (10, _), (12, _), (15, _), (16, _), (17, _), (88, _)] ⟨rfl, rfl, rfl, rfl, rfl, rfl, rfl, rfl, rfl, trivial⟩ (fun e => ?_)
  refine c_seq (fun K18 hK18 => ?_)
  refine c_reg ?_ -- region 20 call.go:53
  refine wl (ro_cmp (r := false) rfl rfl (by rw [hN]; rfl)) ?_
  refine wl (ro_assign rfl) ?_
  refine wl_nil (x_then (hK18 _ _ ?_))
  clear hK18 K18
  refine wc_condF rfl ?_
  refine c_seq (fun K19 hK19 => ?_)
  refine c_reg ?_ -- region 28 call.go:63
  refine wl (ro_cmp (r := true) rfl rfl (by rw [hN]; rfl)) ?_
  refine wl (ro_assign rfl) ?_
  refine wl_nil (x_then (hK19 _ _ ?_))
  clear hK19 K19
  refine wc_condT rfl ?_
  refine c_seq (fun K20 hK20 => ?_)
  refine c_seq (fun K21 hK21 => ?_)
  refine c_reg ?_ -- region 29 call.go:64
  refine wl (ro_move rfl) ?_
  refine wl (ro_nilCheck rfl) ?_
  refine wl (ro_indexAddrA (et := 119) (k := 3) rfl rfl ar_225 (rfl) ((by decide))) ?_
  refine wl (ro_fieldAddr (k := 0) rfl fo_119_0) ?_
  refine wl (ro_loadB rfl sc_3 (hB5) (row_get ra0 (by decide))) ?_
  refine wl (ro_cmp (r := true) rfl rfl (neT (k := 7) h7)) ?_
  refine wl_nil (x_then (hK21 _ _ ?_))
  clear hK21 K21
  refine wc_condT rfl ?_
  refine c_reg ?_ -- region 30 call.go:65
  refine wl_callP rfl en_259 (raise259 (s := mCo)) (fun pv w9 hE => bpp_pan (P := Tryz.prog) (fn := Tryz.f245) (AE.thr hX hF hR.q hE ((by unfold acall1; rw [if_neg (by omega), if_neg (by omega), if_neg (by omega), if_neg (by omega), if_neg (by omega), if_neg (by omega), if_neg (by omega), if_neg (by omega), if_neg (by omega), if_neg (by omega), if_pos hN, if_pos h7]; exact (caS_thr hc).symm)))) ?_
  rintro _ _ ⟨⟩
set_option maxHeartbeats 8000000 in
theorem nat_9b (E : PE C fg fc w ow a y gs g vars p ids 26 zs.length) (hf : 0 < a.fuel) (ho : g.ops = zs.reverse ++ fn :: l) (h6 : fn.T = 6) (hN : fn.N = 9) (h7 : (zs.getD 0 vNil).T = 7) (hs : ((mkA { a with fuel := a.fuel - 1 } y gs { g with pc := g.pc + 1 } vars).ths.getD (zs.getD 0 vNil).N ATh.zero).st ≠ 1 ∧ ((mkA { a with fuel := a.fuel - 1 } y gs { g with pc := g.pc + 1 } vars).ths.getD (zs.getD 0 vNil).N ATh.zero).st ≠ 2) : RetP Tryz.prog 245 [ptr C.E.mb, i64c a.cur, tptr C a.cur, fpt fg gs.length, i64c zs.length] w (CaR C w ow (kH a) (acall (Psf C.F) zs.length (mkA a y gs g vars))) (AE C (kH a) w ow (acall (Psf C.F) zs.length (mkA a y gs g vars))) := by
  have hR := E.r
  have hc := E.hc
  have hc0 := E.hc
  have hX : Xt w ow ow := Xt.refl _ _
  have hF : Fram (tg ow vtT) w w := Fram.refl _ _
  have hol := E.ol
  have hz3 : zs.length ≤ 3 := E.sn.r.2.2.2.2.2.2.2.2.1 rfl
  have hlo := congrArg List.length ho
  simp only [List.length_append, List.length_reverse, List.length_cons] at hlo
  have hvf : tg ow vtT fg := by
    obtain ⟨V, κ, Vv, U, x, f, fs, o⟩ := hR.open hc
    obtain ⟨lB, hB1, k1, -⟩ := o.pcS
    show vtT (ow fg)
    rw [k1]; left; have := o.lt; unfold vmT; omega
  have hvt0 : tg ow vtT C.E.tb := hR.q.vtb
  rw [acall_mk hc ho hf]
  obtain ⟨hpb, -, -⟩ := E.pcb
  have hvz : ∀ k, VV a.clos.length a.ths.length a.tabs.length (zs.getD k vNil) := fun k => by
    rw [List.getD_eq_getElem?_getD]
    cases hk : zs[k]? with
    | none => exact .nil _ _ _
    | some v => exact E.vo (by rw [ho]; exact List.mem_append.2 (.inl (List.mem_reverse.2 (List.mem_of_getElem? hk))))
  have hn7 : (zs.getD 0 vNil).T = 7 → (zs.getD 0 vNil).N < a.ths.length := (hvz 0).co
  refine retp_of Tryz.func245 rfl Tryz.ntmps245 rfl ?_
  refine c_seq (fun K1 hK1 => ?_)
  refine c_reg ?_ -- region 0 call.go:30
  refine wl_new (ze_211) (fun b10 w1 hbb10 h10 F1 => ?_)
  have hbsb10 := Nat.le_trans hF.size hbb10
  have kh10 := hR.df b10 hbb10
  replace hF := hF.thenDrew.thenN F1
  replace hR := hR.thruN ((Fram.refl none' _).thenDrew.thenN F1)
  refine wl_nil (x_then (hK1 _ _ ?_))
  clear hK1 K1
  refine forget [(0, _), (1, _), (2, _), (3, _), (4, _), (10, _)] ⟨rfl, rfl, rfl, rfl, rfl, rfl, trivial⟩ (fun e => ?_)
  refine c_seq (fun K2 hK2 => ?_)
  refine c_reg ?_ -- region 1 call.go:31
  refine wl (ro_move rfl) ?_
  refine wl_call rfl en_258 (burnA hR.dr hf) ?_
  rintro _ u2 ⟨rfl, ow2, x2, f2, r2⟩
  obtain ⟨h10, kh10⟩ := vm_loc x2 f2 h10 kh10
  have hs2 := hF.size
  replace hF := vm_trans hX hF f2
  replace hX := hX.trans hs2 x2
  replace hR := r2
  obtain ⟨V, κ, Vv, U, x, f, fs, o⟩ := AM.open (a := { a with fuel := a.fuel - 1 }) hR hc
  obtain ⟨sg, sc, lS, hU, hB5, ts, hcs, hln, rfn, rzs⟩ := o.cal ho
  have hlt : a.cur < 5 := o.lt
  have hdp := o.dp
  have hsl := o.sl
  have hbb := o.t.bb
  have hgsl := o.t.nl
  obtain ⟨pp, pids, -, -, hns⟩ := o.ns
  obtain ⟨lT, hT, -, -, -, hT2, -⟩ := o.v.thA o.t.hx
  have hT3 := hT2 3 (.inr (.inl rfl))
  have hT2 := hT2 2 (.inl rfl)
  have hU2 := hU
  rw [hln] at hU
  rw [hU] at hT2
  have hT3 : lT[a.cur * 5 + 3]? = some (.slice (some ⟨fg, 0, none⟩) (gs.length + 1) fc) := by rw [← o.hf]; exact hT3
  have hN0 := hR.selfN
  have htt := o.v.tt.1
  have hq9 : f.base + g.slots.length + l.length < 9000 := by omega
  generalize hqd : f.base + g.slots.length + l.length = q at *
  refine wl_nil (x_then (hK2 _ _ ?_))
  clear hK2 K2
  refine forget [(0, _), (1, _), (2, _), (3, _), (4, _), (10, _)] ⟨rfl, rfl, rfl, rfl, rfl, rfl, trivial⟩ (fun e => ?_)
  refine c_seq (fun K3 hK3 => ?_)
  refine c_reg ?_ -- region 2 call.go:32
  refine wl (ro_move rfl) ?_
  refine wl (ro_nilCheck rfl) ?_
  refine wl (ro_fieldAddr (k := 2) rfl fo_269_2) ?_
  refine wl (ro_loadB rfl sc_83 (hT) (hT2)) ?_
  refine wl (ro_lenL rfl se_83) ?_
  refine wl (ro_assign rfl) ?_
  refine wl_nil (x_then (hK3 _ _ ?_))
  clear hK3 K3
  refine forget [(0, _), (1, _), (2, _), (3, _), (4, _), (10, _), (11, _)] ⟨rfl, rfl, rfl, rfl, rfl, rfl, rfl, trivial⟩ (fun e => ?_)
  refine c_seq (fun K4 hK4 => ?_)
  refine c_reg ?_ -- region 3 call.go:33
  refine wl (ro_move rfl) ?_
  refine wl (ro_move rfl) ?_
  refine wl (ro_subN (r := q + 1) rfl rfl (by omega) (by omega)) ?_
  refine wl (ro_subN (r := q) (k := 1) rfl rfl (by omega) (by omega)) ?_
  refine wl (ro_assign rfl) ?_
  refine wl_nil (x_then (hK4 _ _ ?_))
  clear hK4 K4
  refine forget [(0, _), (1, _), (2, _), (3, _), (10, _), (11, _), (12, _)] ⟨rfl, rfl, rfl, rfl, rfl, rfl, rfl, trivial⟩ (fun e => ?_)
  refine c_seq (fun K5 hK5 => ?_)
  refine c_reg ?_ -- region 4 call.go:34
  refine wl (ro_move rfl) ?_
  refine wl (ro_nilCheck rfl) ?_
  refine wl (ro_fieldAddr (k := 2) rfl fo_269_2) ?_
  refine wl (ro_loadB rfl sc_83 (hT) (hT2)) ?_
  refine wl (ro_move rfl) ?_
  refine wl (ro_indexAddr (et := 119) (k := 3) rfl rfl se_83 (rfl) ((by omega))) ?_
  refine wl (ro_loadAggB rfl ag_119 (hB5) (pvc_len _) ((by rw [Nat.zero_add]; exact rfn))) ?_
  refine wl_new (ze_119) (fun b13 w3 hbb13 h13 F3 => ?_)
  have hbsb13 := Nat.le_trans hF.size hbb13
  have hneb10b13 : b10 < b13 := Nat.lt_of_lt_of_le h10.lt hbb13
  have hneC.E.tbb13 : C.E.tb < b13 := Nat.lt_of_lt_of_le hT.lt hbb13
  have hnesgb13 : sg < b13 := Nat.lt_of_lt_of_le hB5.lt hbb13
  have hbsb13 := Nat.le_trans hN0.size hbb13
  have kh13 := hR.df b13 hbb13
  replace hF := hF.thenDrew.thenN F3
  replace hR := hR.thruN ((Fram.refl none' _).thenDrew.thenN F3)
  replace h10 := F3.blkN h10
  replace hT := F3.blkN hT
  replace hB5 := F3.blkN hB5
  replace hN0 := hN0.thenDrew.thenN F3
  refine wl_puta rfl rfl ((pvc_one fn)) sz_119 (rfl) h13 ((by simp)) (rfl) (fun w4 h13 F4 => ?_)
  replace hF := hF.thenDrew.thenO F4 (by first | exact .inr (by omega) | exact .inl rfl | exact .inl (by assumption) | assumption)
  replace hR := hR.hbput ((Fram.refl (one b13) _).thenDrew.thenO F4 (.inl rfl))
  replace h10 := F4.blkO h10 (by first | omega | exact ow_ne (by assumption) (by assumption) (by omega))
  replace hT := F4.blkO hT (by first | omega | exact ow_ne (by assumption) (by assumption) (by omega))
  replace hB5 := F4.blkO hB5 (by first | omega | exact ow_ne (by assumption) (by assumption) (by omega))
  replace hN0 := hN0.thenDrew.thenO F4 (by first | exact .inr (by omega) | exact .inl rfl | exact .inl (by assumption) | assumption)
  refine wl_nil (x_then (hK5 _ _ ?_))
  clear hK5 K5
  refine forget [(0, _), (1, _), (2, _), (3, _), (10, _), (11, _), (12, _), (13, _)] ⟨rfl, rfl, rfl, rfl, rfl, rfl, rfl, rfl, trivial⟩ (fun e => ?_)
  refine c_seq (fun K6 hK6 => ?_)
  refine c_reg ?_ -- region 5 call.go:35
  refine wl (ro_move rfl) ?_
  refine wl (ro_nilCheck rfl) ?_
  refine wl (ro_fieldAddr (k := 2) rfl fo_269_2) ?_
  refine wl (ro_loadB rfl sc_83 (hT) (hT2)) ?_
  refine wl (ro_move rfl) ?_
  refine wl (ro_addN (k := 1) rfl rfl (by omega)) ?_
  refine wl (ro_move rfl) ?_
  refine wl (ro_move rfl) ?_
  refine wl (ro_slice3 (l := q + 1) (m := zs.length) rfl rfl rfl rfl se_83 (by omega) (by omega)) ?_
  refine wl (ro_assign rfl) ?_
  have o5 := o.thruN hN0
  have hpe := o5.t.pc
  obtain ⟨lB, hB1, k1, q1, q2, hpc⟩ := o5.pcS
  refine wl_nil (x_then (hK6 _ _ ?_))
  clear hK6 K6
  refine forget [(0, _), (1, _), (2, _), (3, _), (10, _), (12, _), (13, _), (14, _)] ⟨rfl, rfl, rfl, rfl, rfl, rfl, rfl, rfl, trivial⟩ (fun e => ?_)
  refine c_seq (fun K7 hK7 => ?_)
  refine c_reg ?_ -- region 6 call.go:36
  refine wl (ro_move rfl) ?_
  refine wl (ro_nilCheck rfl) ?_
  refine wl (ro_fieldAddr (k := 1) rfl fo_331_1) ?_
  refine wl (ro_loadB rfl sc_3 (hB1) (frow_at q1 (by decide))) ?_
  refine wl (ro_addN (k := 1) rfl rfl (by omega)) ?_
  refine wl (ro_nilCheck rfl) ?_
  refine wl (ro_fieldAddr (k := 1) rfl fo_331_1) ?_
  refine wl_put rfl rfl rfl sz_3 hB1 ((by omega)) (rfl) (fun w5 hB1 F5 => ?_)
  replace hF := hF.thenDrew.thenO F5 (by first | exact .inr (by omega) | exact .inl rfl | exact .inl (by assumption) | assumption)
  replace h10 := F5.blkO h10 (by first | omega | exact ow_ne (by assumption) (by assumption) (by omega))
  replace hT := F5.blkO hT (by first | omega | exact ow_ne (by assumption) (by assumption) (by omega))
  replace hB5 := F5.blkO hB5 (by first | omega | exact ow_ne (by assumption) (by assumption) (by omega))
  replace h13 := F5.blkO h13 (by first | omega | exact ow_ne (by assumption) (by assumption) (by omega))
  have o6 := hpc w5 (g.pc + 1) F5 (by rw [← hpe]; exact hB1)
  have hR := o6.am
  have hN6 := hR.selfN
  have hsgt : sg ≠ C.E.tb := fun h ↦ by rw [h, htt] at ts; omega
  have htl9 := hT.lt
  have hdf6 := o6.v.df
  have hwz : (lS.drop (if zs.length = 0 then 0 else 0 + (q + 1) * 3)).take (rws pvc zs).length = rws pvc zs := by
    rw [rws_len pvc_len]
    by_cases h0 : zs.length = 0
    · rw [if_pos h0, h0, Nat.zero_mul, List.take_zero, List.eq_nil_of_length_eq_zero h0]; rfl
    · rw [if_neg h0, Nat.zero_add]; exact rzs
  have hwy : ∀ {ys : List PV}, ys = zs → (lS.drop (if ys.length = 0 then 0 else 0 + (q + 1) * 3)).take (ys.length * 3) = rws pvc ys := fun h ↦ by subst h; rw [← rws_len (enc := pvc) pvc_len]; exact hwz
  refine wl_nil (x_then (hK7 _ _ ?_))
  clear hK7 K7
  refine c_seq (fun K8 hK8 => ?_)
  refine c_seq (fun K9 hK9 => ?_)
  refine c_reg ?_ -- region 7 call.go:37
  refine wl (ro_fieldAddr (k := 0) rfl fo_119_0) ?_
  refine wl (ro_loadB rfl sc_3 (by assumption) rfl) ?_
  refine wl (ro_cmp (r := false) rfl rfl (by rw [h6]; rfl)) ?_
  refine wl_nil (x_then (hK9 _ _ ?_))
  clear hK9 K9
  refine wc_condF rfl ?_
  refine c_skip (x_then (hK8 _ _ ?_))
  clear hK8 K8
  refine c_seq (fun K10 hK10 => ?_)
  refine c_seq (fun K11 hK11 => ?_)
  refine c_reg ?_ -- region 12 call.go:44
  refine wl (ro_fieldAddr (k := 0) rfl fo_119_0) ?_
  refine wl (ro_loadB rfl sc_3 (by assumption) rfl) ?_
  refine wl (ro_cmp (r := false) rfl rfl (by rw [h6]; rfl)) ?_
  refine wl_nil (x_then (hK11 _ _ ?_))
  clear hK11 K11
  refine wc_condF rfl ?_
  refine c_skip (x_then (hK10 _ _ ?_))
  clear hK10 K10
  refine forget [(0, _), (1, _), (2, _), (10, _), (12, _), (13, _), (14, _)] ⟨rfl, rfl, rfl, rfl, rfl, rfl, rfl, trivial⟩ (fun e => ?_)
  refine c_mid (fun b u => ∃ ab ao c, ab ≠ C.E.tb ∧ (ow2 ab = 66 ∨ ao + 9 ≤ x.stack.length * 3) ∧ Fram none' w5 u ∧ WinB u ab ao (rws pvc [zs.getD 0 vNil, zs.getD 1 vNil, zs.getD 2 vNil]) ∧ ∃ e', b = Fr 286 (upds e' [(0, ptr C.E.mb), (1, i64c a.cur), (2, tptr C a.cur), (10, ptr b10), (12, i64c q), (13, ptr b13), (14, .slice (some ⟨ab, ao, none⟩) 3 c)]) []) ?_ ?_
  · skip
    refine c_block ?_
    -- loop@r14: live slots [0, 1, 2, 10, 12, 13, 14]
    refine c_loopG (fun m b u => ∃ (ys : List PV) (v : Value), m = 3 - ys.length ∧ zs.length ≤ ys.length ∧ ys.length ≤ 3 ∧ ys = zs ++ List.replicate (ys.length - zs.length) vNil ∧ Fram none' w5 u ∧ ((ys = zs ∧ v = .slice (some ⟨sg, if zs.length = 0 then 0 else 0 + (q + 1) * 3, none⟩) zs.length zs.length) ∨ (Own u.heap v 119 3 ys.length (rws pvc ys) ∧ ∀ k, v.ownBlock = some k → w5.heap.size ≤ k)) ∧ ∃ e', b = Fr 286 (upds e' [(0, ptr C.E.mb), (1, i64c a.cur), (2, tptr C a.cur), (10, ptr b10), (12, i64c q), (13, ptr b13), (14, v)]) []) _ ⟨zs, _, rfl, Nat.le_refl _, hz3, by rw [Nat.sub_self]; exact (List.append_nil _).symm, hN6, .inl ⟨rfl, rfl⟩, kp _ ⟨rfl, rfl, rfl, rfl, rfl, rfl, rfl, trivial⟩⟩ ?_
    rintro m b u ⟨ys, v, rfl, hyz, hy3, hys, hN7, hLo, e', rfl⟩
    obtain ⟨va, vc, rfl⟩ : ∃ va vc, v = .slice va ys.length vc := by
      rcases hLo with ⟨e1, e2⟩ | ⟨hO, -⟩
      · rw [e1]; exact ⟨_, _, e2⟩
      · exact hO.form
    have hB7 := hN7.blkN hB5
    refine c_seq (fun K12 hK12 => ?_)
    refine c_seq (fun K13 hK13 => ?_)
    refine c_reg ?_ -- region 14 call.go:47
    refine wl (ro_move rfl) ?_
    refine wl (ro_lenL rfl se_83) ?_
    refine wl (ro_cmp rfl rfl rfl) ?_
    refine wl_nil (x_then (hK13 _ _ ?_))
    clear hK13 K13
    refine wc_cond rfl (fun hc80 => ?_) (fun hc80 => ?_)
    · try simp only [decide_eq_true_eq, decide_eq_false_iff_not, Bool.not_eq_true', Bool.not_eq_false', Bool.not_eq_eq_eq_not, Bool.not_true, Bool.not_false, beq_iff_eq, bne_iff_ne, ne_eq, beq_eq_false_iff_ne, bne_eq_false_iff_eq, gt_iff_lt, ge_iff_le, Int.not_lt, Int.not_le] at hc80
      refine c_skip (x_then (hK12 _ _ ?_))
      clear hK12 K12
      refine c_block ?_
      rcases hLo with ⟨e1, e2⟩ | ⟨hO, hob⟩
      · skip
        refine c_reg ?_ -- region 15 call.go:48
        refine wl (ro_move rfl) ?_
        refine wl (ro_build rfl bld_119) ?_
        refine wle (eo_bsV1 (i := vNil) rfl se_83 zx_119) ?_
        have F83 : Fram none' u (u.alloc (.cells (rws pvc [vNil]).toArray 119)) := Fram.alloc none' u _
        subst e1
        refine wl_appN (t := 83) (et := 119) (k := 3) (g := sg) (o := if ys.length = 0 then 0 else 0 + (q + 1) * 3) (m := ys.length) (cap := ys.length) (l := lS) (m2 := 1) (o2 := 0) (news := pvc vNil) (xs := rws pvc ys) (by rw [← e2]; rfl) rfl se_83 zx_119 by_119 rfl (F83.blkN hB7) (hwy rfl) (rws_len pvc_len _) (rws_oneC pvc_one _) (Blk.new u (rws pvc [vNil]) 119) rfl rfl (pvc_one vNil) (by omega) (by omega) (by omega) ?_
        intro v' u9 hO' G9 hob'
        have hN8 : Fram none' w5 u9 := (hN7.thenN F83).thenN G9
        have hsz := hN7.size
        have hsz2 := F83.size
        refine wl (ro_assign rfl) ?_
        refine wl_nil (x_blk (x_then ?_))
        exact ⟨3 - (ys.length + 1), by omega, ys ++ [vNil], _, by simp, by simp, by simp; omega, by simp, hN8, .inr ⟨by rw [rws_app, List.length_append]; exact hO', fun k hk ↦ by have := hob' k hk; omega⟩, kp _ ⟨rfl, rfl, rfl, rfl, rfl, rfl, rfl, trivial⟩⟩
      · skip
        refine c_reg ?_ -- region 15 call.go:48
        refine wl (ro_move rfl) ?_
        refine wl (ro_build rfl bld_119) ?_
        refine wl_bsapp (t := 83) (et := 119) (k := 3) (m := ys.length) (cs := pvc vNil) rfl rfl rfl rfl se_83 zx_119 by_119 rfl rfl rfl (pvc_one _) hO (by omega) (by omega) ?_
        intro v' u9 hO' G9 hnb
        have hN8 : Fram none' w5 u9 := hN7.trans' G9 (fun k hk h ↦ by have := hob k h; omega)
        have hsz := hN7.size
        skip
        refine wl (ro_assign rfl) ?_
        refine wl_nil (x_blk (x_then ?_))
        exact ⟨3 - (ys.length + 1), by omega, ys ++ [vNil], _, by simp, by simp; omega, by simp; omega, (by rw [List.length_append, List.length_singleton, show ys.length + 1 - zs.length = (ys.length - zs.length) + 1 by omega, List.replicate_succ', ← List.append_assoc, ← hys]), hN8, .inr ⟨by rw [rws_app, List.length_append]; exact hO', fun k hk ↦ by rcases hnb k hk with z | z; exact hob k z; omega⟩, kp _ ⟨rfl, rfl, rfl, rfl, rfl, rfl, rfl, trivial⟩⟩
    · try simp only [decide_eq_true_eq, decide_eq_false_iff_not, Bool.not_eq_true', Bool.not_eq_false', Bool.not_eq_eq_eq_not, Bool.not_true, Bool.not_false, beq_iff_eq, bne_iff_ne, ne_eq, beq_eq_false_iff_ne, bne_eq_false_iff_eq, gt_iff_lt, ge_iff_le, Int.not_lt, Int.not_le] at hc80
      refine c_exit (x_thenX (x_thenX (x_blkX (x_then ?_))))
      have hy3 : ys.length = 3 := by omega
      have hbs : ys = [zs.getD 0 vNil, zs.getD 1 vNil, zs.getD 2 vNil] := pad3 hy3 hz3 hys
      rcases hLo with ⟨e1, e2⟩ | ⟨hO, hob⟩
      · injection e2 with f1 f2 f3
        rw [f1, hy3]
        have hz30 : zs.length = 3 := by rw [← e1]; exact hy3
        refine ⟨sg, _, vc, hsgt, .inr (by rw [if_neg (by omega)]; omega), hN7, ⟨lS, 119, hB7, ?_⟩, kp _ ⟨rfl, rfl, rfl, rfl, rfl, rfl, rfl, trivial⟩⟩
        rw [← hbs, e1]
        exact hwz
      · rw [hy3] at hO
        obtain ⟨gg, gcap, gl, e9, b9, -, -, -, q9⟩ := hO.pos (by decide)
        injection e9 with f1 f2 f3
        rw [f1, hy3]
        refine ⟨gg, 0, vc, (by have := hob gg (by rw [f1]; rfl); omega), .inl (hdf6 _ (hob gg (by rw [f1]; rfl))), hN7, ⟨gl, 119, b9, ?_⟩, kp _ ⟨rfl, rfl, rfl, rfl, rfl, rfl, rfl, trivial⟩⟩
        rw [← hbs, rws_len pvc_len, hy3, List.drop_zero]
        exact q9
  rintro b u ⟨ab, ao, ac, hatb, hab9, hN7, ⟨lA, tA, hBA, hWA⟩, e', rfl⟩
  have h10 := hN7.blkN h10
  have h13 := hN7.blkN h13
  have o7 := o6.thruN hN7
  have hR := o7.an
  have hF := hF.thenN hN7
  have hB5 := hBA
  refine c_seq (fun K14 hK14 => ?_)
  refine c_reg ?_ -- region 16 call.go:50
  refine wl (ro_move rfl) ?_
  refine wl (ro_s2ap rfl ar_225 (by decide)) ?_
  refine wl (ro_assign rfl) ?_
  refine wl_nil (x_then (hK14 _ _ ?_))
  clear hK14 K14
  refine forget [(0, _), (1, _), (2, _), (10, _), (12, _), (13, _), (15, _)] ⟨rfl, rfl, rfl, rfl, rfl, rfl, rfl, trivial⟩ (fun e => ?_)
  refine c_seq (fun K15 hK15 => ?_)
  refine c_reg ?_ -- region 17 call.go:51
  refine wl_new (ze_119) (fun b16 w6 hbb16 h16 F6 => ?_)
  have hneb10b16 : b10 < b16 := Nat.lt_of_lt_of_le h10.lt hbb16
  have hneb13b16 : b13 < b16 := Nat.lt_of_lt_of_le h13.lt hbb16
  have hbsb16 := Nat.le_trans hF.size hbb16
  have hneabb16 : ab < b16 := Nat.lt_of_lt_of_le hB5.lt hbb16
  have kh16 := hR.df b16 hbb16
  replace h10 := F6.blkN h10
  replace h13 := F6.blkN h13
  replace hF := hF.thenDrew.thenN F6
  replace hR := hR.thruN ((Fram.refl none' _).thenDrew.thenN F6)
  replace hB5 := F6.blkN hB5
  refine wl_new (ze_119) (fun b17 w7 hbb17 h17 F7 => ?_)
  have hneb10b17 : b10 < b17 := Nat.lt_of_lt_of_le h10.lt hbb17
  have hneb13b17 : b13 < b17 := Nat.lt_of_lt_of_le h13.lt hbb17
  have hbsb17 := Nat.le_trans hF.size hbb17
  have hneabb17 : ab < b17 := Nat.lt_of_lt_of_le hB5.lt hbb17
  have hneb16b17 : b16 < b17 := Nat.lt_of_lt_of_le h16.lt hbb17
  have kh17 := hR.df b17 hbb17
  replace h10 := F7.blkN h10
  replace h13 := F7.blkN h13
  replace hF := hF.thenDrew.thenN F7
  replace hR := hR.thruN ((Fram.refl none' _).thenDrew.thenN F7)
  replace hB5 := F7.blkN hB5
  replace h16 := F7.blkN h16
  refine wl_nil (x_then (hK15 _ _ ?_))
  clear hK15 K15
  refine c_seq (fun K16 hK16 => ?_)
  refine c_seq (fun K17 hK17 => ?_)
  obtain ⟨ra0, ra1, ra2⟩ := win_row hWA
  refine c_reg ?_ -- region 18 call.go:52
  refine wl (ro_fieldAddr (k := 1) rfl fo_119_1) ?_
  refine wl (ro_loadB rfl sc_117 (by assumption) rfl) ?_
  refine wl_nil (x_then (hK17 _ _ ?_))
  clear hK17 K17
  refine c_block ?_
  refine forget [(0, _), (1, _), (2, _), (10, _), (12, _), (15, _), (16, _), (17, _), (88, _)] ⟨rfl, rfl, rfl, rfl, rfl, rfl, rfl, rfl, rfl, trivial⟩ (fun e => ?_)
  refine c_seq (fun K18 hK18 => ?_)
  refine c_reg ?_ -- region 20 call.go:53
  refine wl (ro_cmp (r := false) rfl rfl (by rw [hN]; rfl)) ?_
  refine wl (ro_assign rfl) ?_
  refine wl_nil (x_then (hK18 _ _ ?_))
  clear hK18 K18
  refine wc_condF rfl ?_
  refine c_seq (fun K19 hK19 => ?_)
  refine c_reg ?_ -- region 28 call.go:63
  refine wl (ro_cmp (r := true) rfl rfl (by rw [hN]; rfl)) ?_
  refine wl (ro_assign rfl) ?_
  refine wl_nil (x_then (hK19 _ _ ?_))
  clear hK19 K19
  refine wc_condT rfl ?_
  refine c_seq (fun K20 hK20 => ?_)
  refine c_seq (fun K21 hK21 => ?_)
  refine c_reg ?_ -- region 29 call.go:64
  refine wl (ro_move rfl) ?_
  refine wl (ro_nilCheck rfl) ?_
  refine wl (ro_indexAddrA (et := 119) (k := 3) rfl rfl ar_225 (rfl) ((by decide))) ?_
  refine wl (ro_fieldAddr (k := 0) rfl fo_119_0) ?_
  refine wl (ro_loadB rfl sc_3 (hB5) (row_get ra0 (by decide))) ?_
  refine wl (ro_cmp (r := false) rfl rfl (by rw [h7]; rfl)) ?_
  refine wl_nil (x_then (hK21 _ _ ?_))
  clear hK21 K21
  refine wc_condF rfl ?_
  refine c_skip (x_then (hK20 _ _ ?_))
  clear hK20 K20
  refine forget [(0, _), (2, _), (10, _), (12, _), (15, _), (16, _), (17, _)] ⟨rfl, rfl, rfl, rfl, rfl, rfl, rfl, trivial⟩ (fun e => ?_)
  refine c_seq (fun K22 hK22 => ?_)
  obtain ⟨lM9, lT9, hM, e99, hT, e90⟩ := hR.am.stA (n := (zs.getD 0 vNil).N) (by show _ < (a.ths.set _ _).length; rw [List.length_set]; exact hn7 h7)
  rw [show (mkA { a with fuel := a.fuel - 1 } y gs { g with pc := g.pc + 1 } vars).ths.length = a.ths.length from List.length_set] at e99
  have hlt9 := hn7 h7
  refine c_pi [(0, false), (1, false), (2, false), (3, false), (4, false), (5, false), (6, false), (7, false), (8, false), (9, false), (10, false), (11, false), (12, false)] (SameH _) mixed (by kernel_rfl) rfl (by kernel_rfl) (po_then (po_blk (po_then (po_bpp)))) (sameH_now _ _) ?_ -- region 31 call.go:67
  refine pi_ro rfl (fun w hS => ro_move rfl) ?_
  refine pi_ro rfl (fun w hS => ro_nilCheck rfl) ?_
  refine pi_ro rfl (fun w hS => ro_fieldAddr (k := 9) rfl fo_89_9) ?_
  refine pi_ro rfl (fun w hS => ro_loadB rfl sc_80 (Blk.of_heap hM hS) (e99)) ?_
  refine pi_ro rfl (fun w hS => ro_move rfl) ?_
  refine pi_ro rfl (fun w hS => ro_nilCheck rfl) ?_
  refine pi_ro rfl (fun w hS => ro_indexAddrA (et := 119) (k := 3) rfl rfl ar_225 (rfl) ((by decide))) ?_
  refine pi_ro rfl (fun w hS => ro_fieldAddr (k := 1) rfl fo_119_1) ?_
  refine pi_ro rfl (fun w hS => ro_loadB rfl sc_117 (Blk.of_heap hB5 hS) (row_get ra0 (by decide))) ?_
  refine pi_ro rfl (fun w hS => ro_indexAddr (et := 269) (k := 5) rfl rfl se_80 (rfl) ((by show (zs.getD 0 vNil).N < a.ths.length; omega))) ?_
  refine pi_ro rfl (fun w hS => ro_fieldAddr (k := 0) rfl fo_269_0) ?_
  refine pi_ro rfl (fun w hS => ro_loadB rfl sc_3 (Blk.of_heap hT hS) ((by rw [Nat.zero_add]; exact e90))) ?_
  refine pi_ro rfl (fun w hS => ro_assign rfl) ?_
  refine pi_nil (x_then (hK22 _ _ ?_))
  clear hK22 K22
  refine c_seq (fun K23 hK23 => ?_)
  refine c_seq (fun K24 hK24 => ?_)
  refine c_reg ?_ -- region 32 call.go:68
  refine wl (ro_move rfl) ?_
  refine wl (ro_cmp (r := false) rfl rfl (eqF (k := 1) hs.1)) ?_
  refine wl (ro_move rfl) ?_
  refine wlg_yes rfl (ro_move rfl) ?_
  refine wlg_yes rfl (ro_cmp (r := false) rfl rfl (eqF (k := 2) hs.2)) ?_
  refine wl (ro_pick rfl rfl rfl) ?_
  refine wl_nil (x_then (hK24 _ _ ?_))
  clear hK24 K24
  refine wc_condF rfl ?_
  refine c_skip (x_then (hK23 _ _ ?_))
  clear hK23 K23
  refine forget [(2, _), (10, _), (12, _), (16, _), (17, _), (18, _)] ⟨rfl, rfl, rfl, rfl, rfl, rfl, trivial⟩ (fun e => ?_)
  refine c_seq (fun K25 hK25 => ?_)
  refine c_reg ?_ -- region 36 call.go:73
  refine wl (ro_move rfl) ?_
  refine wl_call rfl en_121 (StatusName121) ?_
  rintro _ u0 ⟨rfl, hw0⟩
  rw [hw0]
  clear hw0 u0
  refine wl (ro_assign rfl) ?_
  refine wl_nil (x_then (hK25 _ _ ?_))
  clear hK25 K25
  refine forget [(2, _), (10, _), (12, _), (16, _), (17, _), (19, _)] ⟨rfl, rfl, rfl, rfl, rfl, rfl, trivial⟩ (fun e => ?_)
  refine c_seq (fun K26 hK26 => ?_)
  refine c_reg ?_ -- region 37 call.go:74
  refine wl (ro_build rfl bld_119_0) ?_
  refine wl_puta rfl rfl ((pvc_one (vBool false))) sz_119 (rfl) h16 ((by simp)) (rfl) (fun w8 h16 F8 => ?_)
  replace h10 := F8.blkO h10 (by first | omega | exact ow_ne (by assumption) (by assumption) (by omega))
  replace h13 := F8.blkO h13 (by first | omega | exact ow_ne (by assumption) (by assumption) (by omega))
  replace hF := hF.thenDrew.thenO F8 (by first | exact .inr (by omega) | exact .inl rfl | exact .inl (by assumption) | assumption)
  replace hR := hR.hbput ((Fram.refl (one b16) _).thenDrew.thenO F8 (.inl rfl))
  replace hB5 := F8.blkO hB5 (by first | omega | exact ow_ne (by assumption) (by assumption) (by omega))
  replace h17 := F8.blkO h17 (by first | omega | exact ow_ne (by assumption) (by assumption) (by omega))
  refine wl_nil (x_then (hK26 _ _ ?_))
  clear hK26 K26
  refine c_reg ?_ -- region 38 call.go:75
  refine wl (ro_move rfl) ?_
  refine wl (ro_build rfl bld_119_0_2) ?_
  refine wl_puta rfl rfl ((pvc_one (vStr _))) sz_119 (rfl) h17 ((by simp)) (rfl) (fun w9 h17 F9 => ?_)
  replace h10 := F9.blkO h10 (by first | omega | exact ow_ne (by assumption) (by assumption) (by omega))
  replace h13 := F9.blkO h13 (by first | omega | exact ow_ne (by assumption) (by assumption) (by omega))
  replace hF := hF.thenDrew.thenO F9 (by first | exact .inr (by omega) | exact .inl rfl | exact .inl (by assumption) | assumption)
  replace hR := hR.hbput ((Fram.refl (one b17) _).thenDrew.thenO F9 (.inl rfl))
  replace hB5 := F9.blkO hB5 (by first | omega | exact ow_ne (by assumption) (by assumption) (by omega))
  replace h16 := F9.blkO h16 (by first | omega | exact ow_ne (by assumption) (by assumption) (by omega))
  refine wl_nil (x_blk (x_then (hK16 _ _ ?_)))
  clear hK16 K16
  refine forget [(2, _), (10, _), (12, _), (16, _), (17, _)] ⟨rfl, rfl, rfl, rfl, rfl, trivial⟩ (fun e => ?_)
  refine c_seq (fun K27 hK27 => ?_)
  obtain ⟨V8, κ8, Vv8, U8, x8, f8, fs8, o8, hn8⟩ := AN.open (a := { a with fuel := a.fuel - 1 }) hR hc
  obtain ⟨sg8, sc8, lT8, hT, l25, hT8, hsc8, law8⟩ := o8.cut ho
  have hln8 := o8.t.ln
  have hq8 : f8.base + g.slots.length + l.length = q := by have h1 : f8.base + g.slots.length + g.ops.length = x8.stack.length := hln8; have h2 : x8.stack.length = x.stack.length := hn8; omega
  have htt8 := o8.v.tt.1
  have hc : ({ a with fuel := a.fuel - 1 } : AS).cur < ({ a with fuel := a.fuel - 1 } : AS).ths.length := hc
  refine c_reg ?_ -- region 62 call.go:103
  refine wl (ro_move rfl) ?_
  refine wl (ro_move rfl) ?_
  refine wl (ro_nilCheck rfl) ?_
  refine wl (ro_fieldAddr (k := 2) rfl fo_269_2) ?_
  refine wl (ro_loadB rfl sc_83 (hT) (hT8)) ?_
  refine wl (ro_move rfl) ?_
  refine wl (ro_sliceH (h := q) rfl rfl se_83 rfl (by have h2 : x8.stack.length = x.stack.length := hn8; omega)) ?_
  refine wl (ro_nilCheck rfl) ?_
  refine wl (ro_fieldAddr (k := 2) rfl fo_269_2) ?_
  refine wl_put rfl rfl rfl sz_83 hT ((by omega)) (rfl) (fun w10 hT F10 => ?_)
  replace h10 := F10.blkO h10 (by first | omega | exact ow_ne (by assumption) (by assumption) (by omega))
  replace h13 := F10.blkO h13 (by first | omega | exact ow_ne (by assumption) (by assumption) (by omega))
  replace hF := hF.thenDrew.thenO F10 (by first | exact .inr (by omega) | exact .inl rfl | exact .inl (by assumption) | assumption)
  replace h16 := F10.blkO h16 (by first | omega | exact ow_ne (by assumption) (by assumption) (by omega))
  replace h17 := F10.blkO h17 (by first | omega | exact ow_ne (by assumption) (by assumption) (by omega))
  have hR := law8 w10 q hq8 F10 hT
  refine wl_nil (x_then (hK27 _ _ ?_))
  clear hK27 K27
  refine forget [(2, _), (10, _), (16, _), (17, _)] ⟨rfl, rfl, rfl, rfl, trivial⟩ (fun e => ?_)
  refine c_seq (fun K28 hK28 => ?_)
  refine c_reg ?_ -- region 63 call.go:104
  refine wl (ro_move rfl) ?_
  refine wl (ro_loadAggB rfl ag_119 (h16) rfl rfl) ?_
  refine wl (ro_loadAggB rfl ag_119 (h17) rfl rfl) ?_
  refine wl_pu (vs := [vBool false, (vStr (stName ((mkA { a with fuel := a.fuel - 1 } y gs { g with pc := g.pc + 1 } vars).ths.getD (zs.getD 0 vNil).N ATh.zero).st))]) (eo_bsV2 rfl rfl se_83 zx_119) rfl hR.dr hc rfl (by show l.length + 2 ≤ 300; omega) ?_
  intro u11 ow11 x11 f11 r11
  obtain ⟨h10, kh10⟩ := vm_loc x11 f11 h10 kh10
  obtain ⟨h13, kh13⟩ := vm_loc x11 f11 h13 kh13
  obtain ⟨h16, kh16⟩ := vm_loc x11 f11 h16 kh16
  obtain ⟨h17, kh17⟩ := vm_loc x11 f11 h17 kh17
  have hs11 := hF.size
  replace hF := vm_trans hX hF f11
  replace hX := hX.trans hs11 x11
  replace hR := r11
  refine wl_nil (x_then (hK28 _ _ ?_))
  clear hK28 K28
  refine forget [(10, _)] ⟨rfl, trivial⟩ (fun e => ?_)
  refine c_seq (fun K29 hK29 => ?_)
  refine c_reg ?_ -- region 64 call.go:105
  refine wl (ro_build rfl bld_211) ?_
  refine wl_puta rfl rfl ((vevc_one 0 0 0 vNil vNil)) sz_211 (rfl) h10 ((by simp)) (rfl) (fun w12 h10 F12 => ?_)
  replace h13 := F12.blkO h13 (by first | omega | exact ow_ne (by assumption) (by assumption) (by omega))
  replace hF := hF.thenDrew.thenO F12 (by first | exact .inr (by omega) | exact .inl rfl | exact .inl (by assumption) | assumption)
  replace h16 := F12.blkO h16 (by first | omega | exact ow_ne (by assumption) (by assumption) (by omega))
  replace h17 := F12.blkO h17 (by first | omega | exact ow_ne (by assumption) (by assumption) (by omega))
  replace hR := hR.hbput ((Fram.refl (one b10) _).thenDrew.thenO F12 (.inl rfl))
  refine wl_nil (x_then (hK29 _ _ ?_))
  clear hK29 K29
  refine c_ret ?_
  refine bqp_ret (res1 Tryz.results245 (rv_c rfl ag_211 (h10) (rfl))) ?_
  exact ⟨_, _, hX, hF, hR.q, rfl, E.sn.d, .inl ⟨rfl, by unfold acall1; rw [if_neg (by omega), if_neg (by omega), if_neg (by omega), if_neg (by omega), if_neg (by omega), if_neg (by omega), if_neg (by omega), if_neg (by omega), if_neg (by omega), if_neg (by omega), if_pos hN, if_neg (show ¬ (zs.getD 0 vNil).T ≠ 7 by omega)]; rw [caS_st]; rw [if_pos hs]; exact (apush2_mk (a := { a with fuel := a.fuel - 1 }) hc _ _).symm⟩⟩
set_option maxHeartbeats 8000000 in
theorem nat_9c (E : PE C fg fc w ow a y gs g vars p ids 26 zs.length) (hf : 0 < a.fuel) (ho : g.ops = zs.reverse ++ fn :: l) (h6 : fn.T = 6) (hN : fn.N = 9) (h7 : (zs.getD 0 vNil).T = 7) (hn9 : (zs.getD 0 vNil).N ≠ a.cur) (hfr : (a.ths.getD (zs.getD 0 vNil).N ATh.zero).frs = []) (hs : ((mkA { a with fuel := a.fuel - 1 } y gs { g with pc := g.pc + 1 } vars).ths.getD (zs.getD 0 vNil).N ATh.zero).st = 1) : RetP Tryz.prog 245 [ptr C.E.mb, i64c a.cur, tptr C a.cur, fpt fg gs.length, i64c zs.length] w (CaR C w ow (kH a) (acall (Psf C.F) zs.length (mkA a y gs g vars))) (AE C (kH a) w ow (acall (Psf C.F) zs.length (mkA a y gs g vars))) := by
  have hR := E.r
  have hc := E.hc
  have hc0 := E.hc
  have hX : Xt w ow ow := Xt.refl _ _
  have hF : Fram (tg ow vtT) w w := Fram.refl _ _
  have hol := E.ol
  have hz3 : zs.length ≤ 3 := E.sn.r.2.2.2.2.2.2.2.2.1 rfl
  have hlo := congrArg List.length ho
  simp only [List.length_append, List.length_reverse, List.length_cons] at hlo
  have hvf : tg ow vtT fg := by
    obtain ⟨V, κ, Vv, U, x, f, fs, o⟩ := hR.open hc
    obtain ⟨lB, hB1, k1, -⟩ := o.pcS
    show vtT (ow fg)
    rw [k1]; left; have := o.lt; unfold vmT; omega
  have hvt0 : tg ow vtT C.E.tb := hR.q.vtb
  rw [acall_mk hc ho hf]
  obtain ⟨hpb, -, -⟩ := E.pcb
  have hvz : ∀ k, VV a.clos.length a.ths.length a.tabs.length (zs.getD k vNil) := fun k => by
    rw [List.getD_eq_getElem?_getD]
    cases hk : zs[k]? with
    | none => exact .nil _ _ _
    | some v => exact E.vo (by rw [ho]; exact List.mem_append.2 (.inl (List.mem_reverse.2 (List.mem_of_getElem? hk))))
  have hn7 : (zs.getD 0 vNil).T = 7 → (zs.getD 0 vNil).N < a.ths.length := (hvz 0).co
  have hnt : a.ths.length ≤ 5 := by have := E.av.nt; rw [show (mkA a y gs g vars).ths.length = a.ths.length from List.length_set] at this; exact this
  have hrs : rsm (Psf C.F) (zs.getD 0 vNil).N (zs.getD 1 vNil) ((caS a y gs g vars l).setT { y with frs := { g with ops := l, pc := g.pc + 1 } :: gs, st := 3 }) = acall1 (Psf C.F) zs fn (caS a y gs g vars l) := by
    have h1 := rsm_mk (Ps := Psf C.F) (s := caS a y gs g vars l) (A := zs.getD 0 vNil) (B := zs.getD 1 vNil) hn9
    rw [show (caS a y gs g vars l).th = { y with frs := { g with ops := l, pc := g.pc + 1 } :: gs } from mk_th (a := { a with fuel := a.fuel - 1 }) hc] at h1
    refine h1.trans ?_
    unfold acall1; rw [if_neg (by omega), if_neg (by omega), if_neg (by omega), if_neg (by omega), if_neg (by omega), if_neg (by omega), if_neg (by omega), if_neg (by omega), if_neg (by omega), if_neg (by omega), if_pos hN, if_neg (show ¬ (zs.getD 0 vNil).T ≠ 7 by omega)]; rw [caS_st, if_neg (by omega)]
  have hst9 : (thA ((caS a y gs g vars l).setT { y with frs := { g with ops := l, pc := g.pc + 1 } :: gs, st := 3 }).ths (zs.getD 0 vNil).N).st = 1 := by rw [thA_c hn9]; exact hs
  refine retp_of Tryz.func245 rfl Tryz.ntmps245 rfl ?_
  refine c_seq (fun K1 hK1 => ?_)
  refine c_reg ?_ -- region 0 call.go:30
  refine wl_new (ze_211) (fun b10 w1 hbb10 h10 F1 => ?_)
  have hbsb10 := Nat.le_trans hF.size hbb10
  have kh10 := hR.df b10 hbb10
  replace hF := hF.thenDrew.thenN F1
  replace hR := hR.thruN ((Fram.refl none' _).thenDrew.thenN F1)
  refine wl_nil (x_then (hK1 _ _ ?_))
  clear hK1 K1
  refine forget [(0, _), (1, _), (2, _), (3, _), (4, _), (10, _)] ⟨rfl, rfl, rfl, rfl, rfl, rfl, trivial⟩ (fun e => ?_)
  refine c_seq (fun K2 hK2 => ?_)
  refine c_reg ?_ -- region 1 call.go:31
  refine wl (ro_move rfl) ?_
  refine wl_call rfl en_258 (burnA hR.dr hf) ?_
  rintro _ u2 ⟨rfl, ow2, x2, f2, r2⟩
  obtain ⟨h10, kh10⟩ := vm_loc x2 f2 h10 kh10
  have hs2 := hF.size
  replace hF := vm_trans hX hF f2
  replace hX := hX.trans hs2 x2
  replace hR := r2
  obtain ⟨V, κ, Vv, U, x, f, fs, o⟩ := AM.open (a := { a with fuel := a.fuel - 1 }) hR hc
  obtain ⟨sg, sc, lS, hU, hB5, ts, hcs, hln, rfn, rzs⟩ := o.cal ho
  have hlt : a.cur < 5 := o.lt
  have hdp := o.dp
  have hsl := o.sl
  have hbb := o.t.bb
  have hgsl := o.t.nl
  obtain ⟨pp, pids, -, -, hns⟩ := o.ns
  obtain ⟨lT, hT, -, -, -, hT2, -⟩ := o.v.thA o.t.hx
  have hT3 := hT2 3 (.inr (.inl rfl))
  have hT2 := hT2 2 (.inl rfl)
  have hU2 := hU
  rw [hln] at hU
  rw [hU] at hT2
  have hT3 : lT[a.cur * 5 + 3]? = some (.slice (some ⟨fg, 0, none⟩) (gs.length + 1) fc) := by rw [← o.hf]; exact hT3
  have hN0 := hR.selfN
  have htt := o.v.tt.1
  have hq9 : f.base + g.slots.length + l.length < 9000 := by omega
  generalize hqd : f.base + g.slots.length + l.length = q at *
  refine wl_nil (x_then (hK2 _ _ ?_))
  clear hK2 K2
  refine forget [(0, _), (1, _), (2, _), (3, _), (4, _), (10, _)] ⟨rfl, rfl, rfl, rfl, rfl, rfl, trivial⟩ (fun e => ?_)
  refine c_seq (fun K3 hK3 => ?_)
  refine c_reg ?_ -- region 2 call.go:32
  refine wl (ro_move rfl) ?_
  refine wl (ro_nilCheck rfl) ?_
  refine wl (ro_fieldAddr (k := 2) rfl fo_269_2) ?_
  refine wl (ro_loadB rfl sc_83 (hT) (hT2)) ?_
  refine wl (ro_lenL rfl se_83) ?_
  refine wl (ro_assign rfl) ?_
  refine wl_nil (x_then (hK3 _ _ ?_))
  clear hK3 K3
  refine forget [(0, _), (1, _), (2, _), (3, _), (4, _), (10, _), (11, _)] ⟨rfl, rfl, rfl, rfl, rfl, rfl, rfl, trivial⟩ (fun e => ?_)
  refine c_seq (fun K4 hK4 => ?_)
  refine c_reg ?_ -- region 3 call.go:33
  refine wl (ro_move rfl) ?_
  refine wl (ro_move rfl) ?_
  refine wl (ro_subN (r := q + 1) rfl rfl (by omega) (by omega)) ?_
  refine wl (ro_subN (r := q) (k := 1) rfl rfl (by omega) (by omega)) ?_
  refine wl (ro_assign rfl) ?_
  refine wl_nil (x_then (hK4 _ _ ?_))
  clear hK4 K4
  refine forget [(0, _), (1, _), (2, _), (3, _), (10, _), (11, _), (12, _)] ⟨rfl, rfl, rfl, rfl, rfl, rfl, rfl, trivial⟩ (fun e => ?_)
  refine c_seq (fun K5 hK5 => ?_)
  refine c_reg ?_ -- region 4 call.go:34
  refine wl (ro_move rfl) ?_
  refine wl (ro_nilCheck rfl) ?_
  refine wl (ro_fieldAddr (k := 2) rfl fo_269_2) ?_
  refine wl (ro_loadB rfl sc_83 (hT) (hT2)) ?_
  refine wl (ro_move rfl) ?_
  refine wl (ro_indexAddr (et := 119) (k := 3) rfl rfl se_83 (rfl) ((by omega))) ?_
  refine wl (ro_loadAggB rfl ag_119 (hB5) (pvc_len _) ((by rw [Nat.zero_add]; exact rfn))) ?_
  refine wl_new (ze_119) (fun b13 w3 hbb13 h13 F3 => ?_)
  have hbsb13 := Nat.le_trans hF.size hbb13
  have hneb10b13 : b10 < b13 := Nat.lt_of_lt_of_le h10.lt hbb13
  have hneC.E.tbb13 : C.E.tb < b13 := Nat.lt_of_lt_of_le hT.lt hbb13
  have hnesgb13 : sg < b13 := Nat.lt_of_lt_of_le hB5.lt hbb13
  have hbsb13 := Nat.le_trans hN0.size hbb13
  have kh13 := hR.df b13 hbb13
  replace hF := hF.thenDrew.thenN F3
  replace hR := hR.thruN ((Fram.refl none' _).thenDrew.thenN F3)
  replace h10 := F3.blkN h10
  replace hT := F3.blkN hT
  replace hB5 := F3.blkN hB5
  replace hN0 := hN0.thenDrew.thenN F3
  refine wl_puta rfl rfl ((pvc_one fn)) sz_119 (rfl) h13 ((by simp)) (rfl) (fun w4 h13 F4 => ?_)
  replace hF := hF.thenDrew.thenO F4 (by first | exact .inr (by omega) | exact .inl rfl | exact .inl (by assumption) | assumption)
  replace hR := hR.hbput ((Fram.refl (one b13) _).thenDrew.thenO F4 (.inl rfl))
  replace h10 := F4.blkO h10 (by first | omega | exact ow_ne (by assumption) (by assumption) (by omega))
  replace hT := F4.blkO hT (by first | omega | exact ow_ne (by assumption) (by assumption) (by omega))
  replace hB5 := F4.blkO hB5 (by first | omega | exact ow_ne (by assumption) (by assumption) (by omega))
  replace hN0 := hN0.thenDrew.thenO F4 (by first | exact .inr (by omega) | exact .inl rfl | exact .inl (by assumption) | assumption)
  refine wl_nil (x_then (hK5 _ _ ?_))
  clear hK5 K5
  refine forget [(0, _), (1, _), (2, _), (3, _), (10, _), (11, _), (12, _), (13, _)] ⟨rfl, rfl, rfl, rfl, rfl, rfl, rfl, rfl, trivial⟩ (fun e => ?_)
  refine c_seq (fun K6 hK6 => ?_)
  refine c_reg ?_ -- region 5 call.go:35
  refine wl (ro_move rfl) ?_
  refine wl (ro_nilCheck rfl) ?_
  refine wl (ro_fieldAddr (k := 2) rfl fo_269_2) ?_
  refine wl (ro_loadB rfl sc_83 (hT) (hT2)) ?_
  refine wl (ro_move rfl) ?_
  refine wl (ro_addN (k := 1) rfl rfl (by omega)) ?_
  refine wl (ro_move rfl) ?_
  refine wl (ro_move rfl) ?_
  refine wl (ro_slice3 (l := q + 1) (m := zs.length) rfl rfl rfl rfl se_83 (by omega) (by omega)) ?_
  refine wl (ro_assign rfl) ?_
  have o5 := o.thruN hN0
  have hpe := o5.t.pc
  obtain ⟨lB, hB1, k1, q1, q2, hpc⟩ := o5.pcS
  refine wl_nil (x_then (hK6 _ _ ?_))
  clear hK6 K6
  refine forget [(0, _), (1, _), (2, _), (3, _), (10, _), (12, _), (13, _), (14, _)] ⟨rfl, rfl, rfl, rfl, rfl, rfl, rfl, rfl, trivial⟩ (fun e => ?_)
  refine c_seq (fun K7 hK7 => ?_)
  refine c_reg ?_ -- region 6 call.go:36
  refine wl (ro_move rfl) ?_
  refine wl (ro_nilCheck rfl) ?_
  refine wl (ro_fieldAddr (k := 1) rfl fo_331_1) ?_
  refine wl (ro_loadB rfl sc_3 (hB1) (frow_at q1 (by decide))) ?_
  refine wl (ro_addN (k := 1) rfl rfl (by omega)) ?_
  refine wl (ro_nilCheck rfl) ?_
  refine wl (ro_fieldAddr (k := 1) rfl fo_331_1) ?_
  refine wl_put rfl rfl rfl sz_3 hB1 ((by omega)) (rfl) (fun w5 hB1 F5 => ?_)
  replace hF := hF.thenDrew.thenO F5 (by first | exact .inr (by omega) | exact .inl rfl | exact .inl (by assumption) | assumption)
  replace h10 := F5.blkO h10 (by first | omega | exact ow_ne (by assumption) (by assumption) (by omega))
  replace hT := F5.blkO hT (by first | omega | exact ow_ne (by assumption) (by assumption) (by omega))
  replace hB5 := F5.blkO hB5 (by first | omega | exact ow_ne (by assumption) (by assumption) (by omega))
  replace h13 := F5.blkO h13 (by first | omega | exact ow_ne (by assumption) (by assumption) (by omega))
  have o6 := hpc w5 (g.pc + 1) F5 (by rw [← hpe]; exact hB1)
  have hR := o6.am
  have hN6 := hR.selfN
  have hsgt : sg ≠ C.E.tb := fun h ↦ by rw [h, htt] at ts; omega
  have htl9 := hT.lt
  have hdf6 := o6.v.df
  have hwz : (lS.drop (if zs.length = 0 then 0 else 0 + (q + 1) * 3)).take (rws pvc zs).length = rws pvc zs := by
    rw [rws_len pvc_len]
    by_cases h0 : zs.length = 0
    · rw [if_pos h0, h0, Nat.zero_mul, List.take_zero, List.eq_nil_of_length_eq_zero h0]; rfl
    · rw [if_neg h0, Nat.zero_add]; exact rzs
  have hwy : ∀ {ys : List PV}, ys = zs → (lS.drop (if ys.length = 0 then 0 else 0 + (q + 1) * 3)).take (ys.length * 3) = rws pvc ys := fun h ↦ by subst h; rw [← rws_len (enc := pvc) pvc_len]; exact hwz
  refine wl_nil (x_then (hK7 _ _ ?_))
  clear hK7 K7
  refine c_seq (fun K8 hK8 => ?_)
  refine c_seq (fun K9 hK9 => ?_)
  refine c_reg ?_ -- region 7 call.go:37
  refine wl (ro_fieldAddr (k := 0) rfl fo_119_0) ?_
  refine wl (ro_loadB rfl sc_3 (by assumption) rfl) ?_
  refine wl (ro_cmp (r := false) rfl rfl (by rw [h6]; rfl)) ?_
  refine wl_nil (x_then (hK9 _ _ ?_))
  clear hK9 K9
  refine wc_condF rfl ?_
  refine c_skip (x_then (hK8 _ _ ?_))
  clear hK8 K8
  refine c_seq (fun K10 hK10 => ?_)
  refine c_seq (fun K11 hK11 => ?_)
  refine c_reg ?_ -- region 12 call.go:44
  refine wl (ro_fieldAddr (k := 0) rfl fo_119_0) ?_
  refine wl (ro_loadB rfl sc_3 (by assumption) rfl) ?_
  refine wl (ro_cmp (r := false) rfl rfl (by rw [h6]; rfl)) ?_
  refine wl_nil (x_then (hK11 _ _ ?_))
  clear hK11 K11
  refine wc_condF rfl ?_
  refine c_skip (x_then (hK10 _ _ ?_))
  clear hK10 K10
  refine forget [(0, _), (1, _), (2, _), (10, _), (12, _), (13, _), (14, _)] ⟨rfl, rfl, rfl, rfl, rfl, rfl, rfl, trivial⟩ (fun e => ?_)
  refine c_mid (fun b u => ∃ ab ao c, ab ≠ C.E.tb ∧ (ow2 ab = 66 ∨ ao + 9 ≤ x.stack.length * 3) ∧ Fram none' w5 u ∧ WinB u ab ao (rws pvc [zs.getD 0 vNil, zs.getD 1 vNil, zs.getD 2 vNil]) ∧ ∃ e', b = Fr 286 (upds e' [(0, ptr C.E.mb), (1, i64c a.cur), (2, tptr C a.cur), (10, ptr b10), (12, i64c q), (13, ptr b13), (14, .slice (some ⟨ab, ao, none⟩) 3 c)]) []) ?_ ?_
  · skip
    refine c_block ?_
    -- loop@r14: live slots [0, 1, 2, 10, 12, 13, 14]
    refine c_loopG (fun m b u => ∃ (ys : List PV) (v : Value), m = 3 - ys.length ∧ zs.length ≤ ys.length ∧ ys.length ≤ 3 ∧ ys = zs ++ List.replicate (ys.length - zs.length) vNil ∧ Fram none' w5 u ∧ ((ys = zs ∧ v = .slice (some ⟨sg, if zs.length = 0 then 0 else 0 + (q + 1) * 3, none⟩) zs.length zs.length) ∨ (Own u.heap v 119 3 ys.length (rws pvc ys) ∧ ∀ k, v.ownBlock = some k → w5.heap.size ≤ k)) ∧ ∃ e', b = Fr 286 (upds e' [(0, ptr C.E.mb), (1, i64c a.cur), (2, tptr C a.cur), (10, ptr b10), (12, i64c q), (13, ptr b13), (14, v)]) []) _ ⟨zs, _, rfl, Nat.le_refl _, hz3, by rw [Nat.sub_self]; exact (List.append_nil _).symm, hN6, .inl ⟨rfl, rfl⟩, kp _ ⟨rfl, rfl, rfl, rfl, rfl, rfl, rfl, trivial⟩⟩ ?_
    rintro m b u ⟨ys, v, rfl, hyz, hy3, hys, hN7, hLo, e', rfl⟩
    obtain ⟨va, vc, rfl⟩ : ∃ va vc, v = .slice va ys.length vc := by
      rcases hLo with ⟨e1, e2⟩ | ⟨hO, -⟩
      · rw [e1]; exact ⟨_, _, e2⟩
      · exact hO.form
    have hB7 := hN7.blkN hB5
    refine c_seq (fun K12 hK12 => ?_)
    refine c_seq (fun K13 hK13 => ?_)
    refine c_reg ?_ -- region 14 call.go:47
    refine wl (ro_move rfl) ?_
    refine wl (ro_lenL rfl se_83) ?_
    refine wl (ro_cmp rfl rfl rfl) ?_
    refine wl_nil (x_then (hK13 _ _ ?_))
    clear hK13 K13
    refine wc_cond rfl (fun hc80 => ?_) (fun hc80 => ?_)
    · try simp only [decide_eq_true_eq, decide_eq_false_iff_not, Bool.not_eq_true', Bool.not_eq_false', Bool.not_eq_eq_eq_not, Bool.not_true, Bool.not_false, beq_iff_eq, bne_iff_ne, ne_eq, beq_eq_false_iff_ne, bne_eq_false_iff_eq, gt_iff_lt, ge_iff_le, Int.not_lt, Int.not_le] at hc80
      refine c_skip (x_then (hK12 _ _ ?_))
      clear hK12 K12
      refine c_block ?_
      rcases hLo with ⟨e1, e2⟩ | ⟨hO, hob⟩
      · skip
        refine c_reg ?_ -- region 15 call.go:48
        refine wl (ro_move rfl) ?_
        refine wl (ro_build rfl bld_119) ?_
        refine wle (eo_bsV1 (i := vNil) rfl se_83 zx_119) ?_
        have F83 : Fram none' u (u.alloc (.cells (rws pvc [vNil]).toArray 119)) := Fram.alloc none' u _
        subst e1
        refine wl_appN (t := 83) (et := 119) (k := 3) (g := sg) (o := if ys.length = 0 then 0 else 0 + (q + 1) * 3) (m := ys.length) (cap := ys.length) (l := lS) (m2 := 1) (o2 := 0) (news := pvc vNil) (xs := rws pvc ys) (by rw [← e2]; rfl) rfl se_83 zx_119 by_119 rfl (F83.blkN hB7) (hwy rfl) (rws_len pvc_len _) (rws_oneC pvc_one _) (Blk.new u (rws pvc [vNil]) 119) rfl rfl (pvc_one vNil) (by omega) (by omega) (by omega) ?_
        intro v' u9 hO' G9 hob'
        have hN8 : Fram none' w5 u9 := (hN7.thenN F83).thenN G9
        have hsz := hN7.size
        have hsz2 := F83.size
        refine wl (ro_assign rfl) ?_
        refine wl_nil (x_blk (x_then ?_))
        exact ⟨3 - (ys.length + 1), by omega, ys ++ [vNil], _, by simp, by simp, by simp; omega, by simp, hN8, .inr ⟨by rw [rws_app, List.length_append]; exact hO', fun k hk ↦ by have := hob' k hk; omega⟩, kp _ ⟨rfl, rfl, rfl, rfl, rfl, rfl, rfl, trivial⟩⟩
      · skip
        refine c_reg ?_ -- region 15 call.go:48
        refine wl (ro_move rfl) ?_
        refine wl (ro_build rfl bld_119) ?_
        refine wl_bsapp (t := 83) (et := 119) (k := 3) (m := ys.length) (cs := pvc vNil) rfl rfl rfl rfl se_83 zx_119 by_119 rfl rfl rfl (pvc_one _) hO (by omega) (by omega) ?_
        intro v' u9 hO' G9 hnb
        have hN8 : Fram none' w5 u9 := hN7.trans' G9 (fun k hk h ↦ by have := hob k h; omega)
        have hsz := hN7.size
        skip
        refine wl (ro_assign rfl) ?_
        refine wl_nil (x_blk (x_then ?_))
        exact ⟨3 - (ys.length + 1), by omega, ys ++ [vNil], _, by simp, by simp; omega, by simp; omega, (by rw [List.length_append, List.length_singleton, show ys.length + 1 - zs.length = (ys.length - zs.length) + 1 by omega, List.replicate_succ', ← List.append_assoc, ← hys]), hN8, .inr ⟨by rw [rws_app, List.length_append]; exact hO', fun k hk ↦ by rcases hnb k hk with z | z; exact hob k z; omega⟩, kp _ ⟨rfl, rfl, rfl, rfl, rfl, rfl, rfl, trivial⟩⟩
    · try simp only [decide_eq_true_eq, decide_eq_false_iff_not, Bool.not_eq_true', Bool.not_eq_false', Bool.not_eq_eq_eq_not, Bool.not_true, Bool.not_false, beq_iff_eq, bne_iff_ne, ne_eq, beq_eq_false_iff_ne, bne_eq_false_iff_eq, gt_iff_lt, ge_iff_le, Int.not_lt, Int.not_le] at hc80
      refine c_exit (x_thenX (x_thenX (x_blkX (x_then ?_))))
      have hy3 : ys.length = 3 := by omega
      have hbs : ys = [zs.getD 0 vNil, zs.getD 1 vNil, zs.getD 2 vNil] := pad3 hy3 hz3 hys
      rcases hLo with ⟨e1, e2⟩ | ⟨hO, hob⟩
      · injection e2 with f1 f2 f3
        rw [f1, hy3]
        have hz30 : zs.length = 3 := by rw [← e1]; exact hy3
        refine ⟨sg, _, vc, hsgt, .inr (by rw [if_neg (by omega)]; omega), hN7, ⟨lS, 119, hB7, ?_⟩, kp _ ⟨rfl, rfl, rfl, rfl, rfl, rfl, rfl, trivial⟩⟩
        rw [← hbs, e1]
        exact hwz
      · rw [hy3] at hO
        obtain ⟨gg, gcap, gl, e9, b9, -, -, -, q9⟩ := hO.pos (by decide)
        injection e9 with f1 f2 f3
        rw [f1, hy3]
        refine ⟨gg, 0, vc, (by have := hob gg (by rw [f1]; rfl); omega), .inl (hdf6 _ (hob gg (by rw [f1]; rfl))), hN7, ⟨gl, 119, b9, ?_⟩, kp _ ⟨rfl, rfl, rfl, rfl, rfl, rfl, rfl, trivial⟩⟩
        rw [← hbs, rws_len pvc_len, hy3, List.drop_zero]
        exact q9
  rintro b u ⟨ab, ao, ac, hatb, hab9, hN7, ⟨lA, tA, hBA, hWA⟩, e', rfl⟩
  have h10 := hN7.blkN h10
  have h13 := hN7.blkN h13
  have o7 := o6.thruN hN7
  have hR := o7.an
  have hF := hF.thenN hN7
  have hB5 := hBA
  refine c_seq (fun K14 hK14 => ?_)
  refine c_reg ?_ -- region 16 call.go:50
  refine wl (ro_move rfl) ?_
  refine wl (ro_s2ap rfl ar_225 (by decide)) ?_
  refine wl (ro_assign rfl) ?_
  refine wl_nil (x_then (hK14 _ _ ?_))
  clear hK14 K14
  refine forget [(0, _), (1, _), (2, _), (10, _), (12, _), (13, _), (15, _)] ⟨rfl, rfl, rfl, rfl, rfl, rfl, rfl, trivial⟩ (fun e => ?_)
  refine c_seq (fun K15 hK15 => ?_)
  refine c_reg ?_ -- region 17 call.go:51
  refine wl_new (ze_119) (fun b16 w6 hbb16 h16 F6 => ?_)
  have hneb10b16 : b10 < b16 := Nat.lt_of_lt_of_le h10.lt hbb16
  have hneb13b16 : b13 < b16 := Nat.lt_of_lt_of_le h13.lt hbb16
  have hbsb16 := Nat.le_trans hF.size hbb16
  have hneabb16 : ab < b16 := Nat.lt_of_lt_of_le hB5.lt hbb16
  have kh16 := hR.df b16 hbb16
  replace h10 := F6.blkN h10
  replace h13 := F6.blkN h13
  replace hF := hF.thenDrew.thenN F6
  replace hR := hR.thruN ((Fram.refl none' _).thenDrew.thenN F6)
  replace hB5 := F6.blkN hB5
  refine wl_new (ze_119) (fun b17 w7 hbb17 h17 F7 => ?_)
  have hneb10b17 : b10 < b17 := Nat.lt_of_lt_of_le h10.lt hbb17
  have hneb13b17 : b13 < b17 := Nat.lt_of_lt_of_le h13.lt hbb17
  have hbsb17 := Nat.le_trans hF.size hbb17
  have hneabb17 : ab < b17 := Nat.lt_of_lt_of_le hB5.lt hbb17
  have hneb16b17 : b16 < b17 := Nat.lt_of_lt_of_le h16.lt hbb17
  have kh17 := hR.df b17 hbb17
  replace h10 := F7.blkN h10
  replace h13 := F7.blkN h13
  replace hF := hF.thenDrew.thenN F7
  replace hR := hR.thruN ((Fram.refl none' _).thenDrew.thenN F7)
  replace hB5 := F7.blkN hB5
  replace h16 := F7.blkN h16
  refine wl_nil (x_then (hK15 _ _ ?_))
  clear hK15 K15
  refine c_seq (fun K16 hK16 => ?_)
  refine c_seq (fun K17 hK17 => ?_)
  obtain ⟨ra0, ra1, ra2⟩ := win_row hWA
  refine c_reg ?_ -- region 18 call.go:52
  refine wl (ro_fieldAddr (k := 1) rfl fo_119_1) ?_
  refine wl (ro_loadB rfl sc_117 (by assumption) rfl) ?_
  refine wl_nil (x_then (hK17 _ _ ?_))
  clear hK17 K17
  refine c_block ?_
  refine forget [(0, _), (1, _), (2, _), (10, _), (12, _), (15, _), (16, _), (17, _), (88, _)] ⟨rfl, rfl, rfl, rfl, rfl, rfl, rfl, rfl, rfl, trivial⟩ (fun e => ?_)
  refine c_seq (fun K18 hK18 => ?_)
  refine c_reg ?_ -- region 20 call.go:53
  refine wl (ro_cmp (r := false) rfl rfl (by rw [hN]; rfl)) ?_
  refine wl (ro_assign rfl) ?_
  refine wl_nil (x_then (hK18 _ _ ?_))
  clear hK18 K18
  refine wc_condF rfl ?_
  refine c_seq (fun K19 hK19 => ?_)
  refine c_reg ?_ -- region 28 call.go:63
  refine wl (ro_cmp (r := true) rfl rfl (by rw [hN]; rfl)) ?_
  refine wl (ro_assign rfl) ?_
  refine wl_nil (x_then (hK19 _ _ ?_))
  clear hK19 K19
  refine wc_condT rfl ?_
  refine c_seq (fun K20 hK20 => ?_)
  refine c_seq (fun K21 hK21 => ?_)
  refine c_reg ?_ -- region 29 call.go:64
  refine wl (ro_move rfl) ?_
  refine wl (ro_nilCheck rfl) ?_
  refine wl (ro_indexAddrA (et := 119) (k := 3) rfl rfl ar_225 (rfl) ((by decide))) ?_
  refine wl (ro_fieldAddr (k := 0) rfl fo_119_0) ?_
  refine wl (ro_loadB rfl sc_3 (hB5) (row_get ra0 (by decide))) ?_
  refine wl (ro_cmp (r := false) rfl rfl (by rw [h7]; rfl)) ?_
  refine wl_nil (x_then (hK21 _ _ ?_))
  clear hK21 K21
  refine wc_condF rfl ?_
  refine c_skip (x_then (hK20 _ _ ?_))
  clear hK20 K20
  refine forget [(0, _), (2, _), (10, _), (12, _), (15, _), (16, _), (17, _)] ⟨rfl, rfl, rfl, rfl, rfl, rfl, rfl, trivial⟩ (fun e => ?_)
  refine c_seq (fun K22 hK22 => ?_)
  obtain ⟨lM9, lT9, hM, e99, hT, e90⟩ := hR.am.stA (n := (zs.getD 0 vNil).N) (by show _ < (a.ths.set _ _).length; rw [List.length_set]; exact hn7 h7)
  rw [show (mkA { a with fuel := a.fuel - 1 } y gs { g with pc := g.pc + 1 } vars).ths.length = a.ths.length from List.length_set] at e99
  have hlt9 := hn7 h7
  refine c_pi [(0, false), (1, false), (2, false), (3, false), (4, false), (5, false), (6, false), (7, false), (8, false), (9, false), (10, false), (11, false), (12, false)] (SameH _) mixed (by kernel_rfl) rfl (by kernel_rfl) (po_then (po_blk (po_then (po_bpp)))) (sameH_now _ _) ?_ -- region 31 call.go:67
  refine pi_ro rfl (fun w hS => ro_move rfl) ?_
  refine pi_ro rfl (fun w hS => ro_nilCheck rfl) ?_
  refine pi_ro rfl (fun w hS => ro_fieldAddr (k := 9) rfl fo_89_9) ?_
  refine pi_ro rfl (fun w hS => ro_loadB rfl sc_80 (Blk.of_heap hM hS) (e99)) ?_
  refine pi_ro rfl (fun w hS => ro_move rfl) ?_
  refine pi_ro rfl (fun w hS => ro_nilCheck rfl) ?_
  refine pi_ro rfl (fun w hS => ro_indexAddrA (et := 119) (k := 3) rfl rfl ar_225 (rfl) ((by decide))) ?_
  refine pi_ro rfl (fun w hS => ro_fieldAddr (k := 1) rfl fo_119_1) ?_
  refine pi_ro rfl (fun w hS => ro_loadB rfl sc_117 (Blk.of_heap hB5 hS) (row_get ra0 (by decide))) ?_
  refine pi_ro rfl (fun w hS => ro_indexAddr (et := 269) (k := 5) rfl rfl se_80 (rfl) ((by show (zs.getD 0 vNil).N < a.ths.length; omega))) ?_
  refine pi_ro rfl (fun w hS => ro_fieldAddr (k := 0) rfl fo_269_0) ?_
  refine pi_ro rfl (fun w hS => ro_loadB rfl sc_3 (Blk.of_heap hT hS) ((by rw [Nat.zero_add]; exact e90))) ?_
  refine pi_ro rfl (fun w hS => ro_assign rfl) ?_
  refine pi_nil (x_then (hK22 _ _ ?_))
  clear hK22 K22
  refine c_seq (fun K23 hK23 => ?_)
  refine c_seq (fun K24 hK24 => ?_)
  refine c_reg ?_ -- region 32 call.go:68
  refine wl (ro_move rfl) ?_
  refine wl (ro_cmp (r := true) rfl rfl (by rw [hs]; rfl)) ?_
  refine wl (ro_move rfl) ?_
  refine wlg_no rfl ?_
  refine wlg_no rfl ?_
  refine wl (ro_pick rfl rfl rfl) ?_
  refine wl_nil (x_then (hK24 _ _ ?_))
  clear hK24 K24
  refine wc_condT rfl ?_
  refine c_seq (fun K25 hK25 => ?_)
  obtain ⟨V8, κ8, Vv8, U8, x8, f8, fs8, o8, hn8⟩ := AN.open (a := { a with fuel := a.fuel - 1 }) (hR.dr (d := w7.drawn + 1)) hc
  obtain ⟨sg8, sc8, lT8, hT, l25, hT8, hsc8, law8⟩ := o8.cutS ho
  have hln8 := o8.t.ln
  have hq8 : f8.base + g.slots.length + l.length = q := by have h1 : f8.base + g.slots.length + g.ops.length = x8.stack.length := hln8; have h2 : x8.stack.length = x.stack.length := hn8; omega
  have htt8 := o8.v.tt.1
  have hT9 : (lT8.set (a.cur * 5 + 0) (i64c 3))[a.cur * 5 + 2]? = some (.slice (some ⟨sg8, 0, none⟩) x8.stack.length sc8) := by rw [List.getElem?_set_ne (by omega)]; exact hT8
  refine c_reg ?_ -- region 33 call.go:69
  refine wl (ro_move rfl) ?_
  refine wl (ro_nilCheck rfl) ?_
  refine wl (ro_fieldAddr (k := 0) rfl fo_269_0) ?_
  refine wl_put rfl rfl rfl sz_3 hT ((by omega)) (rfl) (fun w8 hT F8 => ?_)
  replace h10 := F8.blkO h10 (by first | omega | exact ow_ne (by assumption) (by assumption) (by omega))
  replace h13 := F8.blkO h13 (by first | omega | exact ow_ne (by assumption) (by assumption) (by omega))
  replace hF := hF.thenDrew.thenO F8 (by first | exact .inr (by omega) | exact .inl rfl | exact .inl (by assumption) | assumption)
  replace hB5 := F8.blkO hB5 (by first | omega | exact ow_ne (by assumption) (by assumption) (by omega))
  replace h16 := F8.blkO h16 (by first | omega | exact ow_ne (by assumption) (by assumption) (by omega))
  replace h17 := F8.blkO h17 (by first | omega | exact ow_ne (by assumption) (by assumption) (by omega))
  have F42 := (F8)
  have hT42 := hT
  refine wl_nil (x_then (hK25 _ _ ?_))
  clear hK25 K25
  refine forget [(2, _), (10, _), (12, _), (15, _)] ⟨rfl, rfl, rfl, rfl, trivial⟩ (fun e => ?_)
  refine c_seq (fun K26 hK26 => ?_)
  refine c_reg ?_ -- region 34 call.go:70
  refine wl (ro_move rfl) ?_
  refine wl (ro_move rfl) ?_
  refine wl (ro_nilCheck rfl) ?_
  refine wl (ro_fieldAddr (k := 2) rfl fo_269_2) ?_
  refine wl (ro_loadB rfl sc_83 (hT) (hT9)) ?_
  refine wl (ro_move rfl) ?_
  refine wl (ro_sliceH (h := q) rfl rfl se_83 rfl (by have h2 : x8.stack.length = x.stack.length := hn8; omega)) ?_
  refine wl (ro_nilCheck rfl) ?_
  refine wl (ro_fieldAddr (k := 2) rfl fo_269_2) ?_
  refine wl_put rfl rfl rfl sz_83 hT ((by rw [List.length_set]; omega)) (rfl) (fun w9 hT F9 => ?_)
  replace h10 := F9.blkO h10 (by first | omega | exact ow_ne (by assumption) (by assumption) (by omega))
  replace h13 := F9.blkO h13 (by first | omega | exact ow_ne (by assumption) (by assumption) (by omega))
  replace hF := hF.thenDrew.thenO F9 (by first | exact .inr (by omega) | exact .inl rfl | exact .inl (by assumption) | assumption)
  replace hB5 := F9.blkO hB5 (by first | omega | exact ow_ne (by assumption) (by assumption) (by omega))
  replace h16 := F9.blkO h16 (by first | omega | exact ow_ne (by assumption) (by assumption) (by omega))
  replace h17 := F9.blkO h17 (by first | omega | exact ow_ne (by assumption) (by assumption) (by omega))
  have hq9 := law8 _ w9 3 q hq8 F42 hT42 F9 hT
  refine wl_nil (x_then (hK26 _ _ ?_))
  clear hK26 K26
  refine forget [(10, _), (15, _)] ⟨rfl, rfl, trivial⟩ (fun e => ?_)
  refine c_seq (fun K27 hK27 => ?_)
  refine c_piL 11 [(0, false), (1, false), (2, false), (3, false), (4, false), (5, false), (6, false), (7, false), (8, false), (9, false), (10, false)] (SameH _) mixed (by kernel_rfl) rfl (by kernel_rfl) (po_then (po_then (po_blk (po_then (po_bpp))))) (sameH_now _ _) ?_ -- region 35 call.go:71
  refine ql_ro rfl (fun w hS => ro_move rfl) ?_
  refine ql_ro rfl (fun w hS => ro_nilCheck rfl) ?_
  refine ql_ro rfl (fun w hS => ro_indexAddrA (et := 119) (k := 3) rfl rfl ar_225 (rfl) ((by decide))) ?_
  refine ql_ro rfl (fun w hS => ro_fieldAddr (k := 1) rfl fo_119_1) ?_
  refine ql_ro rfl (fun w hS => ro_loadB rfl sc_117 (Blk.of_heap hB5 hS) (row_get ra0 (by decide))) ?_
  refine ql_ro rfl (fun w hS => ro_conv (a := ((zs.getD 0 vNil).N : Int)) rfl sc_117 in_3 (Go.IntWalk.i64_in _ (by omega))) ?_
  refine ql_ro rfl (fun w hS => ro_move rfl) ?_
  refine ql_ro rfl (fun w hS => ro_nilCheck rfl) ?_
  refine ql_ro rfl (fun w hS => ro_indexAddrA (et := 119) (k := 3) rfl rfl ar_225 (rfl) ((by decide))) ?_
  refine ql_ro rfl (fun w hS => ro_loadAggB rfl ag_119 (Blk.of_heap hB5 hS) (pvc_len _) (ra1)) ?_
  refine ql_ro rfl (fun w hS => ro_build rfl bld_211_0_1_3) ?_
  refine ql_puta rfl rfl rfl ((vevc_one 4 (zs.getD 0 vNil).N 0 (zs.getD 1 vNil) vNil)) sz_211 (rfl) h10 ((by simp)) (rfl) (fun w10 h10 F10 => ?_)
  replace h13 := F10.blkO h13 (by first | omega | exact ow_ne (by assumption) (by assumption) (by omega))
  replace hF := hF.thenDrew.thenO F10 (by first | exact .inr (by omega) | exact .inl rfl | exact .inl (by assumption) | assumption)
  replace h16 := F10.blkO h16 (by first | omega | exact ow_ne (by assumption) (by assumption) (by omega))
  replace h17 := F10.blkO h17 (by first | omega | exact ow_ne (by assumption) (by assumption) (by omega))
  replace hq9 := hq9.hbput ((Fram.refl (one b10) _).thenDrew.thenO F10 (.inl rfl))
  refine x_then (hK27 _ _ ?_)
  clear hK27 K27
  refine c_ret (x_thenR (x_blkR (x_thenR ?_)))
  refine bqp_ret (res1 Tryz.results245 (rv_c rfl ag_211 (h10) (rfl))) ?_
  exact ⟨_, _, hX, hF, hq9, rfl, E.sn.d, .inr (.inl ⟨_, _, rfl, hrs, by show _ < ((a.ths.set _ _).set _ _).length; rw [List.length_set, List.length_set]; exact hlt9, .inl ⟨hst9, by show (((a.ths.set a.cur _).set a.cur _).getD _ ATh.zero).frs = []; rw [getD_ne hn9, getD_ne hn9]; exact hfr⟩, by show VV a.clos.length ((a.ths.set _ _).set _ _).length a.tabs.length _; rw [List.length_set, List.length_set]; exact E.vz ho 1⟩)⟩
set_option maxHeartbeats 8000000 in
theorem nat_9d (E : PE C fg fc w ow a y gs g vars p ids 26 zs.length) (hf : 0 < a.fuel) (ho : g.ops = zs.reverse ++ fn :: l) (h6 : fn.T = 6) (hN : fn.N = 9) (h7 : (zs.getD 0 vNil).T = 7) (hn9 : (zs.getD 0 vNil).N ≠ a.cur) (hs : ((mkA { a with fuel := a.fuel - 1 } y gs { g with pc := g.pc + 1 } vars).ths.getD (zs.getD 0 vNil).N ATh.zero).st = 2) : RetP Tryz.prog 245 [ptr C.E.mb, i64c a.cur, tptr C a.cur, fpt fg gs.length, i64c zs.length] w (CaR C w ow (kH a) (acall (Psf C.F) zs.length (mkA a y gs g vars))) (AE C (kH a) w ow (acall (Psf C.F) zs.length (mkA a y gs g vars))) := by
  have hR := E.r
  have hc := E.hc
  have hc0 := E.hc
  have hX : Xt w ow ow := Xt.refl _ _
  have hF : Fram (tg ow vtT) w w := Fram.refl _ _
  have hol := E.ol
  have hz3 : zs.length ≤ 3 := E.sn.r.2.2.2.2.2.2.2.2.1 rfl
  have hlo := congrArg List.length ho
  simp only [List.length_append, List.length_reverse, List.length_cons] at hlo
  have hvf : tg ow vtT fg := by
    obtain ⟨V, κ, Vv, U, x, f, fs, o⟩ := hR.open hc
    obtain ⟨lB, hB1, k1, -⟩ := o.pcS
    show vtT (ow fg)
    rw [k1]; left; have := o.lt; unfold vmT; omega
  have hvt0 : tg ow vtT C.E.tb := hR.q.vtb
  rw [acall_mk hc ho hf]
  obtain ⟨hpb, -, -⟩ := E.pcb
  have hvz : ∀ k, VV a.clos.length a.ths.length a.tabs.length (zs.getD k vNil) := fun k => by
    rw [List.getD_eq_getElem?_getD]
    cases hk : zs[k]? with
    | none => exact .nil _ _ _
    | some v => exact E.vo (by rw [ho]; exact List.mem_append.2 (.inl (List.mem_reverse.2 (List.mem_of_getElem? hk))))
  have hn7 : (zs.getD 0 vNil).T = 7 → (zs.getD 0 vNil).N < a.ths.length := (hvz 0).co
  have hnt : a.ths.length ≤ 5 := by have := E.av.nt; rw [show (mkA a y gs g vars).ths.length = a.ths.length from List.length_set] at this; exact this
  have hrs : rsm (Psf C.F) (zs.getD 0 vNil).N (zs.getD 1 vNil) ((caS a y gs g vars l).setT { y with frs := { g with ops := l, pc := g.pc + 1 } :: gs, st := 3 }) = acall1 (Psf C.F) zs fn (caS a y gs g vars l) := by
    have h1 := rsm_mk (Ps := Psf C.F) (s := caS a y gs g vars l) (A := zs.getD 0 vNil) (B := zs.getD 1 vNil) hn9
    rw [show (caS a y gs g vars l).th = { y with frs := { g with ops := l, pc := g.pc + 1 } :: gs } from mk_th (a := { a with fuel := a.fuel - 1 }) hc] at h1
    refine h1.trans ?_
    unfold acall1; rw [if_neg (by omega), if_neg (by omega), if_neg (by omega), if_neg (by omega), if_neg (by omega), if_neg (by omega), if_neg (by omega), if_neg (by omega), if_neg (by omega), if_neg (by omega), if_pos hN, if_neg (show ¬ (zs.getD 0 vNil).T ≠ 7 by omega)]; rw [caS_st, if_neg (by omega)]
  have hst9 : (thA ((caS a y gs g vars l).setT { y with frs := { g with ops := l, pc := g.pc + 1 } :: gs, st := 3 }).ths (zs.getD 0 vNil).N).st = 2 := by rw [thA_c hn9]; exact hs
  refine retp_of Tryz.func245 rfl Tryz.ntmps245 rfl ?_
  refine c_seq (fun K1 hK1 => ?_)
  refine c_reg ?_ -- region 0 call.go:30
  refine wl_new (ze_211) (fun b10 w1 hbb10 h10 F1 => ?_)
  have hbsb10 := Nat.le_trans hF.size hbb10
  have kh10 := hR.df b10 hbb10
  replace hF := hF.thenDrew.thenN F1
  replace hR := hR.thruN ((Fram.refl none' _).thenDrew.thenN F1)
  refine wl_nil (x_then (hK1 _ _ ?_))
  clear hK1 K1
  refine forget [(0, _), (1, _), (2, _), (3, _), (4, _), (10, _)] ⟨rfl, rfl, rfl, rfl, rfl, rfl, trivial⟩ (fun e => ?_)
  refine c_seq (fun K2 hK2 => ?_)
  refine c_reg ?_ -- region 1 call.go:31
  refine wl (ro_move rfl) ?_
  refine wl_call rfl en_258 (burnA hR.dr hf) ?_
  rintro _ u2 ⟨rfl, ow2, x2, f2, r2⟩
  obtain ⟨h10, kh10⟩ := vm_loc x2 f2 h10 kh10
  have hs2 := hF.size
  replace hF := vm_trans hX hF f2
  replace hX := hX.trans hs2 x2
  replace hR := r2
  obtain ⟨V, κ, Vv, U, x, f, fs, o⟩ := AM.open (a := { a with fuel := a.fuel - 1 }) hR hc
  obtain ⟨sg, sc, lS, hU, hB5, ts, hcs, hln, rfn, rzs⟩ := o.cal ho
  have hlt : a.cur < 5 := o.lt
  have hdp := o.dp
  have hsl := o.sl
  have hbb := o.t.bb
  have hgsl := o.t.nl
  obtain ⟨pp, pids, -, -, hns⟩ := o.ns
  obtain ⟨lT, hT, -, -, -, hT2, -⟩ := o.v.thA o.t.hx
  have hT3 := hT2 3 (.inr (.inl rfl))
  have hT2 := hT2 2 (.inl rfl)
  have hU2 := hU
  rw [hln] at hU
  rw [hU] at hT2
  have hT3 : lT[a.cur * 5 + 3]? = some (.slice (some ⟨fg, 0, none⟩) (gs.length + 1) fc) := by rw [← o.hf]; exact hT3
  have hN0 := hR.selfN
  have htt := o.v.tt.1
  have hq9 : f.base + g.slots.length + l.length < 9000 := by omega
  generalize hqd : f.base + g.slots.length + l.length = q at *
  refine wl_nil (x_then (hK2 _ _ ?_))
  clear hK2 K2
  refine forget [(0, _), (1, _), (2, _), (3, _), (4, _), (10, _)] ⟨rfl, rfl, rfl, rfl, rfl, rfl, trivial⟩ (fun e => ?_)
  refine c_seq (fun K3 hK3 => ?_)
  refine c_reg ?_ -- region 2 call.go:32
  refine wl (ro_move rfl) ?_
  refine wl (ro_nilCheck rfl) ?_
  refine wl (ro_fieldAddr (k := 2) rfl fo_269_2) ?_
  refine wl (ro_loadB rfl sc_83 (hT) (hT2)) ?_
  refine wl (ro_lenL rfl se_83) ?_
  refine wl (ro_assign rfl) ?_
  refine wl_nil (x_then (hK3 _ _ ?_))
  clear hK3 K3
  refine forget [(0, _), (1, _), (2, _), (3, _), (4, _), (10, _), (11, _)] ⟨rfl, rfl, rfl, rfl, rfl, rfl, rfl, trivial⟩ (fun e => ?_)
  refine c_seq (fun K4 hK4 => ?_)
  refine c_reg ?_ -- region 3 call.go:33
  refine wl (ro_move rfl) ?_
  refine wl (ro_move rfl) ?_
  refine wl (ro_subN (r := q + 1) rfl rfl (by omega) (by omega)) ?_
  refine wl (ro_subN (r := q) (k := 1) rfl rfl (by omega) (by omega)) ?_
  refine wl (ro_assign rfl) ?_
  refine wl_nil (x_then (hK4 _ _ ?_))
  clear hK4 K4
  refine forget [(0, _), (1, _), (2, _), (3, _), (10, _), (11, _), (12, _)] ⟨rfl, rfl, rfl, rfl, rfl, rfl, rfl, trivial⟩ (fun e => ?_)
  refine c_seq (fun K5 hK5 => ?_)
  refine c_reg ?_ -- region 4 call.go:34
  refine wl (ro_move rfl) ?_
  refine wl (ro_nilCheck rfl) ?_
  refine wl (ro_fieldAddr (k := 2) rfl fo_269_2) ?_
  refine wl (ro_loadB rfl sc_83 (hT) (hT2)) ?_
  refine wl (ro_move rfl) ?_
  refine wl (ro_indexAddr (et := 119) (k := 3) rfl rfl se_83 (rfl) ((by omega))) ?_
  refine wl (ro_loadAggB rfl ag_119 (hB5) (pvc_len _) ((by rw [Nat.zero_add]; exact rfn))) ?_
  refine wl_new (ze_119) (fun b13 w3 hbb13 h13 F3 => ?_)
  have hbsb13 := Nat.le_trans hF.size hbb13
  have hneb10b13 : b10 < b13 := Nat.lt_of_lt_of_le h10.lt hbb13
  have hneC.E.tbb13 : C.E.tb < b13 := Nat.lt_of_lt_of_le hT.lt hbb13
  have hnesgb13 : sg < b13 := Nat.lt_of_lt_of_le hB5.lt hbb13
  have hbsb13 := Nat.le_trans hN0.size hbb13
  have kh13 := hR.df b13 hbb13
  replace hF := hF.thenDrew.thenN F3
  replace hR := hR.thruN ((Fram.refl none' _).thenDrew.thenN F3)
  replace h10 := F3.blkN h10
  replace hT := F3.blkN hT
  replace hB5 := F3.blkN hB5
  replace hN0 := hN0.thenDrew.thenN F3
  refine wl_puta rfl rfl ((pvc_one fn)) sz_119 (rfl) h13 ((by simp)) (rfl) (fun w4 h13 F4 => ?_)
  replace hF := hF.thenDrew.thenO F4 (by first | exact .inr (by omega) | exact .inl rfl | exact .inl (by assumption) | assumption)
  replace hR := hR.hbput ((Fram.refl (one b13) _).thenDrew.thenO F4 (.inl rfl))
  replace h10 := F4.blkO h10 (by first | omega | exact ow_ne (by assumption) (by assumption) (by omega))
  replace hT := F4.blkO hT (by first | omega | exact ow_ne (by assumption) (by assumption) (by omega))
  replace hB5 := F4.blkO hB5 (by first | omega | exact ow_ne (by assumption) (by assumption) (by omega))
  replace hN0 := hN0.thenDrew.thenO F4 (by first | exact .inr (by omega) | exact .inl rfl | exact .inl (by assumption) | assumption)
  refine wl_nil (x_then (hK5 _ _ ?_))
  clear hK5 K5
  refine forget [(0, _), (1, _), (2, _), (3, _), (10, _), (11, _), (12, _), (13, _)] ⟨rfl, rfl, rfl, rfl, rfl, rfl, rfl, rfl, trivial⟩ (fun e => ?_)
  refine c_seq (fun K6 hK6 => ?_)
  refine c_reg ?_ -- region 5 call.go:35
  refine wl (ro_move rfl) ?_
  refine wl (ro_nilCheck rfl) ?_
  refine wl (ro_fieldAddr (k := 2) rfl fo_269_2) ?_
  refine wl (ro_loadB rfl sc_83 (hT) (hT2)) ?_
  refine wl (ro_move rfl) ?_
  refine wl (ro_addN (k := 1) rfl rfl (by omega)) ?_
  refine wl (ro_move rfl) ?_
  refine wl (ro_move rfl) ?_
  refine wl (ro_slice3 (l := q + 1) (m := zs.length) rfl rfl rfl rfl se_83 (by omega) (by omega)) ?_
  refine wl (ro_assign rfl) ?_
  have o5 := o.thruN hN0
  have hpe := o5.t.pc
  obtain ⟨lB, hB1, k1, q1, q2, hpc⟩ := o5.pcS
  refine wl_nil (x_then (hK6 _ _ ?_))
  clear hK6 K6
  refine forget [(0, _), (1, _), (2, _), (3, _), (10, _), (12, _), (13, _), (14, _)] ⟨rfl, rfl, rfl, rfl, rfl, rfl, rfl, rfl, trivial⟩ (fun e => ?_)
  refine c_seq (fun K7 hK7 => ?_)
  refine c_reg ?_ -- region 6 call.go:36
  refine wl (ro_move rfl) ?_
  refine wl (ro_nilCheck rfl) ?_
  refine wl (ro_fieldAddr (k := 1) rfl fo_331_1) ?_
  refine wl (ro_loadB rfl sc_3 (hB1) (frow_at q1 (by decide))) ?_
  refine wl (ro_addN (k := 1) rfl rfl (by omega)) ?_
  refine wl (ro_nilCheck rfl) ?_
  refine wl (ro_fieldAddr (k := 1) rfl fo_331_1) ?_
  refine wl_put rfl rfl rfl sz_3 hB1 ((by omega)) (rfl) (fun w5 hB1 F5 => ?_)
  replace hF := hF.thenDrew.thenO F5 (by first | exact .inr (by omega) | exact .inl rfl | exact .inl (by assumption) | assumption)
  replace h10 := F5.blkO h10 (by first | omega | exact ow_ne (by assumption) (by assumption) (by omega))
  replace hT := F5.blkO hT (by first | omega | exact ow_ne (by assumption) (by assumption) (by omega))
  replace hB5 := F5.blkO hB5 (by first | omega | exact ow_ne (by assumption) (by assumption) (by omega))
  replace h13 := F5.blkO h13 (by first | omega | exact ow_ne (by assumption) (by assumption) (by omega))
  have o6 := hpc w5 (g.pc + 1) F5 (by rw [← hpe]; exact hB1)
  have hR := o6.am
  have hN6 := hR.selfN
  have hsgt : sg ≠ C.E.tb := fun h ↦ by rw [h, htt] at ts; omega
  have htl9 := hT.lt
  have hdf6 := o6.v.df
  have hwz : (lS.drop (if zs.length = 0 then 0 else 0 + (q + 1) * 3)).take (rws pvc zs).length = rws pvc zs := by
    rw [rws_len pvc_len]
    by_cases h0 : zs.length = 0
    · rw [if_pos h0, h0, Nat.zero_mul, List.take_zero, List.eq_nil_of_length_eq_zero h0]; rfl
    · rw [if_neg h0, Nat.zero_add]; exact rzs
  have hwy : ∀ {ys : List PV}, ys = zs → (lS.drop (if ys.length = 0 then 0 else 0 + (q + 1) * 3)).take (ys.length * 3) = rws pvc ys := fun h ↦ by subst h; rw [← rws_len (enc := pvc) pvc_len]; exact hwz
  refine wl_nil (x_then (hK7 _ _ ?_))
  clear hK7 K7
  refine c_seq (fun K8 hK8 => ?_)
  refine c_seq (fun K9 hK9 => ?_)
  refine c_reg ?_ -- region 7 call.go:37
  refine wl (ro_fieldAddr (k := 0) rfl fo_119_0) ?_
  refine wl (ro_loadB rfl sc_3 (by assumption) rfl) ?_
  refine wl (ro_cmp (r := false) rfl rfl (by rw [h6]; rfl)) ?_
  refine wl_nil (x_then (hK9 _ _ ?_))
  clear hK9 K9
  refine wc_condF rfl ?_
  refine c_skip (x_then (hK8 _ _ ?_))
  clear hK8 K8
  refine c_seq (fun K10 hK10 => ?_)
  refine c_seq (fun K11 hK11 => ?_)
  refine c_reg ?_ -- region 12 call.go:44
  refine wl (ro_fieldAddr (k := 0) rfl fo_119_0) ?_
  refine wl (ro_loadB rfl sc_3 (by assumption) rfl) ?_
  refine wl (ro_cmp (r := false) rfl rfl (by rw [h6]; rfl)) ?_
  refine wl_nil (x_then (hK11 _ _ ?_))
  clear hK11 K11
  refine wc_condF rfl ?_
  refine c_skip (x_then (hK10 _ _ ?_))
  clear hK10 K10
  refine forget [(0, _), (1, _), (2, _), (10, _), (12, _), (13, _), (14, _)] ⟨rfl, rfl, rfl, rfl, rfl, rfl, rfl, trivial⟩ (fun e => ?_)
  refine c_mid (fun b u => ∃ ab ao c, ab ≠ C.E.tb ∧ (ow2 ab = 66 ∨ ao + 9 ≤ x.stack.length * 3) ∧ Fram none' w5 u ∧ WinB u ab ao (rws pvc [zs.getD 0 vNil, zs.getD 1 vNil, zs.getD 2 vNil]) ∧ ∃ e', b = Fr 286 (upds e' [(0, ptr C.E.mb), (1, i64c a.cur), (2, tptr C a.cur), (10, ptr b10), (12, i64c q), (13, ptr b13), (14, .slice (some ⟨ab, ao, none⟩) 3 c)]) []) ?_ ?_
  · skip
    refine c_block ?_
    -- loop@r14: live slots [0, 1, 2, 10, 12, 13, 14]
    refine c_loopG (fun m b u => ∃ (ys : List PV) (v : Value), m = 3 - ys.length ∧ zs.length ≤ ys.length ∧ ys.length ≤ 3 ∧ ys = zs ++ List.replicate (ys.length - zs.length) vNil ∧ Fram none' w5 u ∧ ((ys = zs ∧ v = .slice (some ⟨sg, if zs.length = 0 then 0 else 0 + (q + 1) * 3, none⟩) zs.length zs.length) ∨ (Own u.heap v 119 3 ys.length (rws pvc ys) ∧ ∀ k, v.ownBlock = some k → w5.heap.size ≤ k)) ∧ ∃ e', b = Fr 286 (upds e' [(0, ptr C.E.mb), (1, i64c a.cur), (2, tptr C a.cur), (10, ptr b10), (12, i64c q), (13, ptr b13), (14, v)]) []) _ ⟨zs, _, rfl, Nat.le_refl _, hz3, by rw [Nat.sub_self]; exact (List.append_nil _).symm, hN6, .inl ⟨rfl, rfl⟩, kp _ ⟨rfl, rfl, rfl, rfl, rfl, rfl, rfl, trivial⟩⟩ ?_
    rintro m b u ⟨ys, v, rfl, hyz, hy3, hys, hN7, hLo, e', rfl⟩
    obtain ⟨va, vc, rfl⟩ : ∃ va vc, v = .slice va ys.length vc := by
      rcases hLo with ⟨e1, e2⟩ | ⟨hO, -⟩
      · rw [e1]; exact ⟨_, _, e2⟩
      · exact hO.form
    have hB7 := hN7.blkN hB5
    refine c_seq (fun K12 hK12 => ?_)
    refine c_seq (fun K13 hK13 => ?_)
    refine c_reg ?_ -- region 14 call.go:47
    refine wl (ro_move rfl) ?_
    refine wl (ro_lenL rfl se_83) ?_
    refine wl (ro_cmp rfl rfl rfl) ?_
    refine wl_nil (x_then (hK13 _ _ ?_))
    clear hK13 K13
    refine wc_cond rfl (fun hc80 => ?_) (fun hc80 => ?_)
    · try simp only [decide_eq_true_eq, decide_eq_false_iff_not, Bool.not_eq_true', Bool.not_eq_false', Bool.not_eq_eq_eq_not, Bool.not_true, Bool.not_false, beq_iff_eq, bne_iff_ne, ne_eq, beq_eq_false_iff_ne, bne_eq_false_iff_eq, gt_iff_lt, ge_iff_le, Int.not_lt, Int.not_le] at hc80
      refine c_skip (x_then (hK12 _ _ ?_))
      clear hK12 K12
      refine c_block ?_
      rcases hLo with ⟨e1, e2⟩ | ⟨hO, hob⟩
      · skip
        refine c_reg ?_ -- region 15 call.go:48
        refine wl (ro_move rfl) ?_
        refine wl (ro_build rfl bld_119) ?_
        refine wle (eo_bsV1 (i := vNil) rfl se_83 zx_119) ?_
        have F83 : Fram none' u (u.alloc (.cells (rws pvc [vNil]).toArray 119)) := Fram.alloc none' u _
        subst e1
        refine wl_appN (t := 83) (et := 119) (k := 3) (g := sg) (o := if ys.length = 0 then 0 else 0 + (q + 1) * 3) (m := ys.length) (cap := ys.length) (l := lS) (m2 := 1) (o2 := 0) (news := pvc vNil) (xs := rws pvc ys) (by rw [← e2]; rfl) rfl se_83 zx_119 by_119 rfl (F83.blkN hB7) (hwy rfl) (rws_len pvc_len _) (rws_oneC pvc_one _) (Blk.new u (rws pvc [vNil]) 119) rfl rfl (pvc_one vNil) (by omega) (by omega) (by omega) ?_
        intro v' u9 hO' G9 hob'
        have hN8 : Fram none' w5 u9 := (hN7.thenN F83).thenN G9
        have hsz := hN7.size
        have hsz2 := F83.size
        refine wl (ro_assign rfl) ?_
        refine wl_nil (x_blk (x_then ?_))
        exact ⟨3 - (ys.length + 1), by omega, ys ++ [vNil], _, by simp, by simp, by simp; omega, by simp, hN8, .inr ⟨by rw [rws_app, List.length_append]; exact hO', fun k hk ↦ by have := hob' k hk; omega⟩, kp _ ⟨rfl, rfl, rfl, rfl, rfl, rfl, rfl, trivial⟩⟩
      · skip
        refine c_reg ?_ -- region 15 call.go:48
        refine wl (ro_move rfl) ?_
        refine wl (ro_build rfl bld_119) ?_
        refine wl_bsapp (t := 83) (et := 119) (k := 3) (m := ys.length) (cs := pvc vNil) rfl rfl rfl rfl se_83 zx_119 by_119 rfl rfl rfl (pvc_one _) hO (by omega) (by omega) ?_
        intro v' u9 hO' G9 hnb
        have hN8 : Fram none' w5 u9 := hN7.trans' G9 (fun k hk h ↦ by have := hob k h; omega)
        have hsz := hN7.size
        skip
        refine wl (ro_assign rfl) ?_
        refine wl_nil (x_blk (x_then ?_))
        exact ⟨3 - (ys.length + 1), by omega, ys ++ [vNil], _, by simp, by simp; omega, by simp; omega, (by rw [List.length_append, List.length_singleton, show ys.length + 1 - zs.length = (ys.length - zs.length) + 1 by omega, List.replicate_succ', ← List.append_assoc, ← hys]), hN8, .inr ⟨by rw [rws_app, List.length_append]; exact hO', fun k hk ↦ by rcases hnb k hk with z | z; exact hob k z; omega⟩, kp _ ⟨rfl, rfl, rfl, rfl, rfl, rfl, rfl, trivial⟩⟩
    · try simp only [decide_eq_true_eq, decide_eq_false_iff_not, Bool.not_eq_true', Bool.not_eq_false', Bool.not_eq_eq_eq_not, Bool.not_true, Bool.not_false, beq_iff_eq, bne_iff_ne, ne_eq, beq_eq_false_iff_ne, bne_eq_false_iff_eq, gt_iff_lt, ge_iff_le, Int.not_lt, Int.not_le] at hc80
      refine c_exit (x_thenX (x_thenX (x_blkX (x_then ?_))))
      have hy3 : ys.length = 3 := by omega
      have hbs : ys = [zs.getD 0 vNil, zs.getD 1 vNil, zs.getD 2 vNil] := pad3 hy3 hz3 hys
      rcases hLo with ⟨e1, e2⟩ | ⟨hO, hob⟩
      · injection e2 with f1 f2 f3
        rw [f1, hy3]
        have hz30 : zs.length = 3 := by rw [← e1]; exact hy3
        refine ⟨sg, _, vc, hsgt, .inr (by rw [if_neg (by omega)]; omega), hN7, ⟨lS, 119, hB7, ?_⟩, kp _ ⟨rfl, rfl, rfl, rfl, rfl, rfl, rfl, trivial⟩⟩
        rw [← hbs, e1]
        exact hwz
      · rw [hy3] at hO
        obtain ⟨gg, gcap, gl, e9, b9, -, -, -, q9⟩ := hO.pos (by decide)
        injection e9 with f1 f2 f3
        rw [f1, hy3]
        refine ⟨gg, 0, vc, (by have := hob gg (by rw [f1]; rfl); omega), .inl (hdf6 _ (hob gg (by rw [f1]; rfl))), hN7, ⟨gl, 119, b9, ?_⟩, kp _ ⟨rfl, rfl, rfl, rfl, rfl, rfl, rfl, trivial⟩⟩
        rw [← hbs, rws_len pvc_len, hy3, List.drop_zero]
        exact q9
  rintro b u ⟨ab, ao, ac, hatb, hab9, hN7, ⟨lA, tA, hBA, hWA⟩, e', rfl⟩
  have h10 := hN7.blkN h10
  have h13 := hN7.blkN h13
  have o7 := o6.thruN hN7
  have hR := o7.an
  have hF := hF.thenN hN7
  have hB5 := hBA
  refine c_seq (fun K14 hK14 => ?_)
  refine c_reg ?_ -- region 16 call.go:50
  refine wl (ro_move rfl) ?_
  refine wl (ro_s2ap rfl ar_225 (by decide)) ?_
  refine wl (ro_assign rfl) ?_
  refine wl_nil (x_then (hK14 _ _ ?_))
  clear hK14 K14
  refine forget [(0, _), (1, _), (2, _), (10, _), (12, _), (13, _), (15, _)] ⟨rfl, rfl, rfl, rfl, rfl, rfl, rfl, trivial⟩ (fun e => ?_)
  refine c_seq (fun K15 hK15 => ?_)
  refine c_reg ?_ -- region 17 call.go:51
  refine wl_new (ze_119) (fun b16 w6 hbb16 h16 F6 => ?_)
  have hneb10b16 : b10 < b16 := Nat.lt_of_lt_of_le h10.lt hbb16
  have hneb13b16 : b13 < b16 := Nat.lt_of_lt_of_le h13.lt hbb16
  have hbsb16 := Nat.le_trans hF.size hbb16
  have hneabb16 : ab < b16 := Nat.lt_of_lt_of_le hB5.lt hbb16
  have kh16 := hR.df b16 hbb16
  replace h10 := F6.blkN h10
  replace h13 := F6.blkN h13
  replace hF := hF.thenDrew.thenN F6
  replace hR := hR.thruN ((Fram.refl none' _).thenDrew.thenN F6)
  replace hB5 := F6.blkN hB5
  refine wl_new (ze_119) (fun b17 w7 hbb17 h17 F7 => ?_)
  have hneb10b17 : b10 < b17 := Nat.lt_of_lt_of_le h10.lt hbb17
  have hneb13b17 : b13 < b17 := Nat.lt_of_lt_of_le h13.lt hbb17
  have hbsb17 := Nat.le_trans hF.size hbb17
  have hneabb17 : ab < b17 := Nat.lt_of_lt_of_le hB5.lt hbb17
  have hneb16b17 : b16 < b17 := Nat.lt_of_lt_of_le h16.lt hbb17
  have kh17 := hR.df b17 hbb17
  replace h10 := F7.blkN h10
  replace h13 := F7.blkN h13
  replace hF := hF.thenDrew.thenN F7
  replace hR := hR.thruN ((Fram.refl none' _).thenDrew.thenN F7)
  replace hB5 := F7.blkN hB5
  replace h16 := F7.blkN h16
  refine wl_nil (x_then (hK15 _ _ ?_))
  clear hK15 K15
  refine c_seq (fun K16 hK16 => ?_)
  refine c_seq (fun K17 hK17 => ?_)
  obtain ⟨ra0, ra1, ra2⟩ := win_row hWA
  refine c_reg ?_ -- region 18 call.go:52
  refine wl (ro_fieldAddr (k := 1) rfl fo_119_1) ?_
  refine wl (ro_loadB rfl sc_117 (by assumption) rfl) ?_
  refine wl_nil (x_then (hK17 _ _ ?_))
  clear hK17 K17
  refine c_block ?_
  refine forget [(0, _), (1, _), (2, _), (10, _), (12, _), (15, _), (16, _), (17, _), (88, _)] ⟨rfl, rfl, rfl, rfl, rfl, rfl, rfl, rfl, rfl, trivial⟩ (fun e => ?_)
  refine c_seq (fun K18 hK18 => ?_)
  refine c_reg ?_ -- region 20 call.go:53
  refine wl (ro_cmp (r := false) rfl rfl (by rw [hN]; rfl)) ?_
  refine wl (ro_assign rfl) ?_
  refine wl_nil (x_then (hK18 _ _ ?_))
  clear hK18 K18
  refine wc_condF rfl ?_
  refine c_seq (fun K19 hK19 => ?_)
  refine c_reg ?_ -- region 28 call.go:63
  refine wl (ro_cmp (r := true) rfl rfl (by rw [hN]; rfl)) ?_
  refine wl (ro_assign rfl) ?_
  refine wl_nil (x_then (hK19 _ _ ?_))
  clear hK19 K19
  refine wc_condT rfl ?_
  refine c_seq (fun K20 hK20 => ?_)
  refine c_seq (fun K21 hK21 => ?_)
  refine c_reg ?_ -- region 29 call.go:64
  refine wl (ro_move rfl) ?_
  refine wl (ro_nilCheck rfl) ?_
  refine wl (ro_indexAddrA (et := 119) (k := 3) rfl rfl ar_225 (rfl) ((by decide))) ?_
  refine wl (ro_fieldAddr (k := 0) rfl fo_119_0) ?_
  refine wl (ro_loadB rfl sc_3 (hB5) (row_get ra0 (by decide))) ?_
  refine wl (ro_cmp (r := false) rfl rfl (by rw [h7]; rfl)) ?_
  refine wl_nil (x_then (hK21 _ _ ?_))
  clear hK21 K21
  refine wc_condF rfl ?_
  refine c_skip (x_then (hK20 _ _ ?_))
  clear hK20 K20
  refine forget [(0, _), (2, _), (10, _), (12, _), (15, _), (16, _), (17, _)] ⟨rfl, rfl, rfl, rfl, rfl, rfl, rfl, trivial⟩ (fun e => ?_)
  refine c_seq (fun K22 hK22 => ?_)
  obtain ⟨lM9, lT9, hM, e99, hT, e90⟩ := hR.am.stA (n := (zs.getD 0 vNil).N) (by show _ < (a.ths.set _ _).length; rw [List.length_set]; exact hn7 h7)
  rw [show (mkA { a with fuel := a.fuel - 1 } y gs { g with pc := g.pc + 1 } vars).ths.length = a.ths.length from List.length_set] at e99
  have hlt9 := hn7 h7
  refine c_pi [(0, false), (1, false), (2, false), (3, false), (4, false), (5, false), (6, false), (7, false), (8, false), (9, false), (10, false), (11, false), (12, false)] (SameH _) mixed (by kernel_rfl) rfl (by kernel_rfl) (po_then (po_blk (po_then (po_bpp)))) (sameH_now _ _) ?_ -- region 31 call.go:67
  refine pi_ro rfl (fun w hS => ro_move rfl) ?_
  refine pi_ro rfl (fun w hS => ro_nilCheck rfl) ?_
  refine pi_ro rfl (fun w hS => ro_fieldAddr (k := 9) rfl fo_89_9) ?_
  refine pi_ro rfl (fun w hS => ro_loadB rfl sc_80 (Blk.of_heap hM hS) (e99)) ?_
  refine pi_ro rfl (fun w hS => ro_move rfl) ?_
  refine pi_ro rfl (fun w hS => ro_nilCheck rfl) ?_
  refine pi_ro rfl (fun w hS => ro_indexAddrA (et := 119) (k := 3) rfl rfl ar_225 (rfl) ((by decide))) ?_
  refine pi_ro rfl (fun w hS => ro_fieldAddr (k := 1) rfl fo_119_1) ?_
  refine pi_ro rfl (fun w hS => ro_loadB rfl sc_117 (Blk.of_heap hB5 hS) (row_get ra0 (by decide))) ?_
  refine pi_ro rfl (fun w hS => ro_indexAddr (et := 269) (k := 5) rfl rfl se_80 (rfl) ((by show (zs.getD 0 vNil).N < a.ths.length; omega))) ?_
  refine pi_ro rfl (fun w hS => ro_fieldAddr (k := 0) rfl fo_269_0) ?_
  refine pi_ro rfl (fun w hS => ro_loadB rfl sc_3 (Blk.of_heap hT hS) ((by rw [Nat.zero_add]; exact e90))) ?_
  refine pi_ro rfl (fun w hS => ro_assign rfl) ?_
  refine pi_nil (x_then (hK22 _ _ ?_))
  clear hK22 K22
  refine c_seq (fun K23 hK23 => ?_)
  refine c_seq (fun K24 hK24 => ?_)
  refine c_reg ?_ -- region 32 call.go:68
  refine wl (ro_move rfl) ?_
  refine wl (ro_cmp (r := false) rfl rfl (by rw [hs]; rfl)) ?_
  refine wl (ro_move rfl) ?_
  refine wlg_yes rfl (ro_move rfl) ?_
  refine wlg_yes rfl (ro_cmp (r := true) rfl rfl (by rw [hs]; rfl)) ?_
  refine wl (ro_pick rfl rfl rfl) ?_
  refine wl_nil (x_then (hK24 _ _ ?_))
  clear hK24 K24
  refine wc_condT rfl ?_
  refine c_seq (fun K25 hK25 => ?_)
  obtain ⟨V8, κ8, Vv8, U8, x8, f8, fs8, o8, hn8⟩ := AN.open (a := { a with fuel := a.fuel - 1 }) (hR.dr (d := w7.drawn + 1)) hc
  obtain ⟨sg8, sc8, lT8, hT, l25, hT8, hsc8, law8⟩ := o8.cutS ho
  have hln8 := o8.t.ln
  have hq8 : f8.base + g.slots.length + l.length = q := by have h1 : f8.base + g.slots.length + g.ops.length = x8.stack.length := hln8; have h2 : x8.stack.length = x.stack.length := hn8; omega
  have htt8 := o8.v.tt.1
  have hT9 : (lT8.set (a.cur * 5 + 0) (i64c 3))[a.cur * 5 + 2]? = some (.slice (some ⟨sg8, 0, none⟩) x8.stack.length sc8) := by rw [List.getElem?_set_ne (by omega)]; exact hT8
  refine c_reg ?_ -- region 33 call.go:69
  refine wl (ro_move rfl) ?_
  refine wl (ro_nilCheck rfl) ?_
  refine wl (ro_fieldAddr (k := 0) rfl fo_269_0) ?_
  refine wl_put rfl rfl rfl sz_3 hT ((by omega)) (rfl) (fun w8 hT F8 => ?_)
  replace h10 := F8.blkO h10 (by first | omega | exact ow_ne (by assumption) (by assumption) (by omega))
  replace h13 := F8.blkO h13 (by first | omega | exact ow_ne (by assumption) (by assumption) (by omega))
  replace hF := hF.thenDrew.thenO F8 (by first | exact .inr (by omega) | exact .inl rfl | exact .inl (by assumption) | assumption)
  replace hB5 := F8.blkO hB5 (by first | omega | exact ow_ne (by assumption) (by assumption) (by omega))
  replace h16 := F8.blkO h16 (by first | omega | exact ow_ne (by assumption) (by assumption) (by omega))
  replace h17 := F8.blkO h17 (by first | omega | exact ow_ne (by assumption) (by assumption) (by omega))
  have F42 := (F8)
  have hT42 := hT
  refine wl_nil (x_then (hK25 _ _ ?_))
  clear hK25 K25
  refine forget [(2, _), (10, _), (12, _), (15, _)] ⟨rfl, rfl, rfl, rfl, trivial⟩ (fun e => ?_)
  refine c_seq (fun K26 hK26 => ?_)
  refine c_reg ?_ -- region 34 call.go:70
  refine wl (ro_move rfl) ?_
  refine wl (ro_move rfl) ?_
  refine wl (ro_nilCheck rfl) ?_
  refine wl (ro_fieldAddr (k := 2) rfl fo_269_2) ?_
  refine wl (ro_loadB rfl sc_83 (hT) (hT9)) ?_
  refine wl (ro_move rfl) ?_
  refine wl (ro_sliceH (h := q) rfl rfl se_83 rfl (by have h2 : x8.stack.length = x.stack.length := hn8; omega)) ?_
  refine wl (ro_nilCheck rfl) ?_
  refine wl (ro_fieldAddr (k := 2) rfl fo_269_2) ?_
  refine wl_put rfl rfl rfl sz_83 hT ((by rw [List.length_set]; omega)) (rfl) (fun w9 hT F9 => ?_)
  replace h10 := F9.blkO h10 (by first | omega | exact ow_ne (by assumption) (by assumption) (by omega))
  replace h13 := F9.blkO h13 (by first | omega | exact ow_ne (by assumption) (by assumption) (by omega))
  replace hF := hF.thenDrew.thenO F9 (by first | exact .inr (by omega) | exact .inl rfl | exact .inl (by assumption) | assumption)
  replace hB5 := F9.blkO hB5 (by first | omega | exact ow_ne (by assumption) (by assumption) (by omega))
  replace h16 := F9.blkO h16 (by first | omega | exact ow_ne (by assumption) (by assumption) (by omega))
  replace h17 := F9.blkO h17 (by first | omega | exact ow_ne (by assumption) (by assumption) (by omega))
  have hq9 := law8 _ w9 3 q hq8 F42 hT42 F9 hT
  refine wl_nil (x_then (hK26 _ _ ?_))
  clear hK26 K26
  refine forget [(10, _), (15, _)] ⟨rfl, rfl, trivial⟩ (fun e => ?_)
  refine c_seq (fun K27 hK27 => ?_)
  refine c_piL 11 [(0, false), (1, false), (2, false), (3, false), (4, false), (5, false), (6, false), (7, false), (8, false), (9, false), (10, false)] (SameH _) mixed (by kernel_rfl) rfl (by kernel_rfl) (po_then (po_then (po_blk (po_then (po_bpp))))) (sameH_now _ _) ?_ -- region 35 call.go:71
  refine ql_ro rfl (fun w hS => ro_move rfl) ?_
  refine ql_ro rfl (fun w hS => ro_nilCheck rfl) ?_
  refine ql_ro rfl (fun w hS => ro_indexAddrA (et := 119) (k := 3) rfl rfl ar_225 (rfl) ((by decide))) ?_
  refine ql_ro rfl (fun w hS => ro_fieldAddr (k := 1) rfl fo_119_1) ?_
  refine ql_ro rfl (fun w hS => ro_loadB rfl sc_117 (Blk.of_heap hB5 hS) (row_get ra0 (by decide))) ?_
  refine ql_ro rfl (fun w hS => ro_conv (a := ((zs.getD 0 vNil).N : Int)) rfl sc_117 in_3 (Go.IntWalk.i64_in _ (by omega))) ?_
  refine ql_ro rfl (fun w hS => ro_move rfl) ?_
  refine ql_ro rfl (fun w hS => ro_nilCheck rfl) ?_
  refine ql_ro rfl (fun w hS => ro_indexAddrA (et := 119) (k := 3) rfl rfl ar_225 (rfl) ((by decide))) ?_
  refine ql_ro rfl (fun w hS => ro_loadAggB rfl ag_119 (Blk.of_heap hB5 hS) (pvc_len _) (ra1)) ?_
  refine ql_ro rfl (fun w hS => ro_build rfl bld_211_0_1_3) ?_
  refine ql_puta rfl rfl rfl ((vevc_one 4 (zs.getD 0 vNil).N 0 (zs.getD 1 vNil) vNil)) sz_211 (rfl) h10 ((by simp)) (rfl) (fun w10 h10 F10 => ?_)
  replace h13 := F10.blkO h13 (by first | omega | exact ow_ne (by assumption) (by assumption) (by omega))
  replace hF := hF.thenDrew.thenO F10 (by first | exact .inr (by omega) | exact .inl rfl | exact .inl (by assumption) | assumption)
  replace h16 := F10.blkO h16 (by first | omega | exact ow_ne (by assumption) (by assumption) (by omega))
  replace h17 := F10.blkO h17 (by first | omega | exact ow_ne (by assumption) (by assumption) (by omega))
  replace hq9 := hq9.hbput ((Fram.refl (one b10) _).thenDrew.thenO F10 (.inl rfl))
  refine x_then (hK27 _ _ ?_)
  clear hK27 K27
  refine c_ret (x_thenR (x_blkR (x_thenR ?_)))
  refine bqp_ret (res1 Tryz.results245 (rv_c rfl ag_211 (h10) (rfl))) ?_
  exact ⟨_, _, hX, hF, hq9, rfl, E.sn.d, .inr (.inl ⟨_, _, rfl, hrs, by show _ < ((a.ths.set _ _).set _ _).length; rw [List.length_set, List.length_set]; exact hlt9, .inr hst9, by show VV a.clos.length ((a.ths.set _ _).set _ _).length a.tabs.length _; rw [List.length_set, List.length_set]; exact E.vz ho 1⟩)⟩
end
end Go.Proofs.Qxb6500568aGreatDoor
