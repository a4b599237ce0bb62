import Derived.Test.Qxb6500568aGreatDoorKv
/- The machine: operators. -/
namespace Go.Proofs.Qxb6500568aGreatDoor
open Ieee
set_option linter.unusedVariables false
set_option linter.unusedSimpArgs false
set_option linter.unusedSectionVars false

section
variable {a : AS} {y : ATh} {gs : List AFr} {g g' : AFr} {vars : List PV}
/-- an error drops the top frame, whatever it holds. -/
theorem athrow_top (hc : a.cur < a.ths.length) (v : PV) (hp : g'.prot = g.prot) : athrow v (mkA a y gs g' vars) = athrow v (mkA a y gs g vars) := by
  have e1 : unwL (g' :: gs) = unwL (g :: gs) := by unfold unwL; rw [hp]
  unfold athrow
  rw [mk_th hc, mk_th hc]
  dsimp only
  rw [e1]
  cases unwL (g :: gs) with
  | none => simp only [mk_setT hc]
  | some r => simp only [mk_setT hc]
end
section
variable {C : VC} {w : World} {ow : Nat → Nat} {a : AS} {y : ATh} {gs : List AFr} {g : AFr} {vars : List PV} {fg fc : Nat} {c1 c2 c3 : Nat}
theorem tbD_at {T : List Tb} {n : Nat} (h : n < T.length) : T[n]? = some (T.getD n []) := by
  rw [List.getD_eq_getElem?_getD, List.getElem?_eq_getElem h]; rfl
theorem wf_idx {v : PV} (h : wfV v = true) (ht : v.T = 4 ∨ v.T = 5 ∨ v.T = 7) : v.N < 4294967296 := by
  unfold wfV at h
  rw [if_neg (by omega)] at h
  split at h
  · rcases ht with q | q | q <;> simp [q] at h <;> omega
  · cases h
/-- an operator's answer. -/
def OpR (C : VC) (fg fc : Nat) (w : World) (ow : Nat → Nat) (a : AS) (y : ATh) (gs : List AFr) (g : AFr) (vars : List PV) (r : Res) (l : List PV) (v : Value) (w' : World) : Prop := ∃ q, r = .ok q ∧ AR C fg fc w ow (.tuple #[]) (mkA a y gs { g with ops := q :: l } vars) v w'
set_option maxHeartbeats 8000000 in
theorem oper_15 (hR : AM C fg fc w ow (mkA a y gs g vars)) (hc : a.cur < a.ths.length) {x : Nat} {p q : PV} {l : List PV} (hx : 1 ≤ x ∧ x ≤ 6) (ha : VV c1 c2 c3 p) (hb : VV c1 c2 c3 q) (ho : g.ops = q :: p :: l) (hol : g.ops.length ≤ 131) {z : AS} (hz : ∀ m, binV x p q = .error m → z = araise m (mkA a y gs g vars)) :
    RetP Tryz.prog 275 [ptr C.E.mb, tptr C a.cur, u8n 15, i64c x] w (OpR C fg fc w ow a y gs g vars (binV x p q) l) (AE C (kH a) w ow z) := by
  have hX : Xt w ow ow := Xt.refl _ _
  have hF : Fram (tg ow vtT) w w := Fram.refl _ _
  have hze : ∀ {m : Str} {g' : AFr}, binV x p q = .error m → g'.prot = g.prot → athrow (vStr m) (mkA a y gs g' vars) = z := fun h h2 => (athrow_top hc _ h2).trans (hz _ h).symm
  have hll : l.length ≤ 129 := by rw [ho] at hol; simp at hol; omega
  refine retp_of Tryz.func275 rfl Tryz.ntmps275 rfl ?_
  refine c_seq (fun K1 hK1 => ?_)
  refine c_reg ?_ -- region 0 ops.go:99
  refine wl (ro_move rfl) ?_
  refine wl_call rfl en_244 (popA hR.dr hc ho (by omega)) ?_
  rintro _ u1 ⟨rfl, ow1, x1, f1, r1⟩
  have hs1 := hF.size
  replace hF := vm_trans hX hF f1
  replace hX := hX.trans hs1 x1
  replace hR := r1
  refine wl_new (ze_119) (fun b8 w2 hbb8 h8 F2 => ?_)
  have hbsb8 := Nat.le_trans hF.size hbb8
  have kh8 := hR.df b8 hbb8
  replace hF := hF.thenDrew.thenN F2
  replace hR := hR.thruN ((Fram.refl none' _).thenDrew.thenN F2)
  refine wl_puta rfl rfl ((pvc_one _)) sz_119 (rfl) h8 ((by simp)) (rfl) (fun w3 h8 F3 => ?_)
  replace hF := hF.thenDrew.thenO F3 (by first | exact .inr (by omega) | exact .inl rfl | exact .inl (by assumption) | assumption)
  replace hR := hR.hbput ((Fram.refl (one b8) _).thenDrew.thenO F3 (.inl rfl))
  refine wl_nil (x_then (hK1 _ _ ?_))
  clear hK1 K1
  refine forget [(0, _), (1, _), (2, _), (3, _), (8, _)] ⟨rfl, rfl, rfl, rfl, rfl, trivial⟩ (fun e => ?_)
  refine c_seq (fun K2 hK2 => ?_)
  refine c_reg ?_ -- region 1 ops.go:100
  refine wl_new (ze_119) (fun b9 w4 hbb9 h9 F4 => ?_)
  have hbsb9 := Nat.le_trans hF.size hbb9
  have hneb8b9 : b8 < b9 := Nat.lt_of_lt_of_le h8.lt hbb9
  have kh9 := hR.df b9 hbb9
  replace hF := hF.thenDrew.thenN F4
  replace hR := hR.thruN ((Fram.refl none' _).thenDrew.thenN F4)
  replace h8 := F4.blkN h8
  refine wl_nil (x_then (hK2 _ _ ?_))
  clear hK2 K2
  refine c_seq (fun K3 hK3 => ?_)
  refine c_seq (fun K4 hK4 => ?_)
  refine c_reg ?_ -- region 2 ops.go:101
  refine wl (ro_move rfl) ?_
  refine wl_nil (x_then (hK4 _ _ ?_))
  clear hK4 K4
  refine c_block ?_
  refine forget [(0, _), (1, _), (3, _), (8, _), (9, _), (27, _)] ⟨rfl, rfl, rfl, rfl, rfl, rfl, trivial⟩ (fun e => ?_)
  refine c_seq (fun K5 hK5 => ?_)
  refine c_reg ?_ -- region 3 ops.go:102
  refine wl (ro_cmp rfl rfl rfl) ?_
  refine wl (ro_assign rfl) ?_
  refine wl_nil (x_then (hK5 _ _ ?_))
  clear hK5 K5
  refine wc_condT rfl ?_
  refine c_seq (fun K6 hK6 => ?_)
  refine c_reg ?_ -- region 4 ops.go:103
  refine wl (ro_move rfl) ?_
  refine wl_call rfl en_244 (popA hR.dr hc rfl (by show l.length + 1 ≤ 300; omega)) ?_
  rintro _ u5 ⟨rfl, ow5, x5, f5, r5⟩
  obtain ⟨h8, kh8⟩ := vm_loc x5 f5 h8 kh8
  obtain ⟨h9, kh9⟩ := vm_loc x5 f5 h9 kh9
  have hs5 := hF.size
  replace hF := vm_trans hX hF f5
  replace hX := hX.trans hs5 x5
  replace hR := r5
  refine wl_new (ze_119) (fun b10 w6 hbb10 h10 F6 => ?_)
  have hbsb10 := Nat.le_trans hF.size hbb10
  have hneb8b10 : b8 < b10 := Nat.lt_of_lt_of_le h8.lt hbb10
  have hneb9b10 : b9 < b10 := Nat.lt_of_lt_of_le h9.lt hbb10
  have kh10 := hR.df b10 hbb10
  replace hF := hF.thenDrew.thenN F6
  replace hR := hR.thruN ((Fram.refl none' _).thenDrew.thenN F6)
  replace h8 := F6.blkN h8
  replace h9 := F6.blkN h9
  refine wl_puta rfl rfl ((pvc_one _)) sz_119 (rfl) h10 ((by simp)) (rfl) (fun w7 h10 F7 => ?_)
  replace hF := hF.thenDrew.thenO F7 (by first | exact .inr (by omega) | exact .inl rfl | exact .inl (by assumption) | assumption)
  replace hR := hR.hbput ((Fram.refl (one b10) _).thenDrew.thenO F7 (.inl rfl))
  replace h8 := F7.blkO h8 (by first | omega | exact ow_ne (by assumption) (by assumption) (by omega))
  replace h9 := F7.blkO h9 (by first | omega | exact ow_ne (by assumption) (by assumption) (by omega))
  refine wl_nil (x_then (hK6 _ _ ?_))
  clear hK6 K6
  refine forget [(0, _), (1, _), (3, _), (8, _), (9, _), (10, _)] ⟨rfl, rfl, rfl, rfl, rfl, rfl, trivial⟩ (fun e => ?_)
  refine c_seq (fun K7 hK7 => ?_)
  refine c_reg ?_ -- region 5 ops.go:104
  refine wl (ro_loadAggB rfl ag_119 (by assumption) rfl rfl) ?_
  refine wl_callP rfl en_290 (numOf290 (v := p) (s := mArith)) (fun pv w9 hE => bpp_pan (P := Tryz.prog) (fn := Tryz.f275) (AE.thr hX hF hR.q hE.2 (hze (m := mArith) (by unfold binV; rw [if_neg (by omega), if_neg (by omega), if_neg (fun h ↦ hE.1 h.1)]) rfl))) ?_
  rintro _ w8 ⟨rfl, hq8, F8⟩
  replace hF := hF.thenDrew.thenN F8
  replace hR := hR.thruN ((Fram.refl none' _).thenDrew.thenN F8)
  replace h8 := F8.blkN h8
  replace h9 := F8.blkN h9
  replace h10 := F8.blkN h10
  have hp2 := hq8
  refine wl (ro_assign rfl) ?_
  refine wl_nil (x_then (hK7 _ _ ?_))
  clear hK7 K7
  refine forget [(0, _), (1, _), (3, _), (8, _), (9, _), (11, _)] ⟨rfl, rfl, rfl, rfl, rfl, rfl, trivial⟩ (fun e => ?_)
  refine c_seq (fun K8 hK8 => ?_)
  refine c_reg ?_ -- region 6 ops.go:105
  refine wl (ro_loadAggB rfl ag_119 (by assumption) rfl rfl) ?_
  refine wl_callP rfl en_290 (numOf290 (v := q) (s := mArith)) (fun pv w9 hE => bpp_pan (P := Tryz.prog) (fn := Tryz.f275) (AE.thr hX hF hR.q hE.2 (hze (m := mArith) (by unfold binV; rw [if_neg (by omega), if_neg (by omega), if_neg (fun h ↦ hE.1 h.2)]) rfl))) ?_
  rintro _ w9 ⟨rfl, hq9, F9⟩
  replace hF := hF.thenDrew.thenN F9
  replace hR := hR.thruN ((Fram.refl none' _).thenDrew.thenN F9)
  replace h8 := F9.blkN h8
  replace h9 := F9.blkN h9
  replace h10 := F9.blkN h10
  have hq2 := hq9
  refine wl (ro_assign rfl) ?_
  refine wl_nil (x_then (hK8 _ _ ?_))
  clear hK8 K8
  refine forget [(0, _), (1, _), (3, _), (9, _), (11, _), (12, _)] ⟨rfl, rfl, rfl, rfl, rfl, rfl, trivial⟩ (fun e => ?_)
  refine c_seq (fun K9 hK9 => ?_)
  obtain ⟨lM, hM, m0, m1⟩ := hR.rz
  refine c_reg ?_ -- region 7 ops.go:106
  refine wl (ro_move rfl) ?_
  refine wl (ro_nilCheck rfl) ?_
  refine wl (ro_fieldAddr (k := 0) rfl fo_89_0) ?_
  refine wl (ro_loadB rfl sc_36 (hM) (m0)) ?_
  refine wl (ro_move rfl) ?_
  refine wl (ro_move rfl) ?_
  refine wl (ro_move rfl) ?_
  refine wl_call rfl en_291 (Arith291 (op := (x : Int)) ha.w hb.w) ?_
  rintro _ w10 ⟨rfl, F10⟩
  replace hF := hF.thenDrew.thenN F10
  replace hR := hR.thruN ((Fram.refl none' _).thenDrew.thenN F10)
  replace h8 := F10.blkN h8
  replace h9 := F10.blkN h9
  replace h10 := F10.blkN h10
  refine wl (ro_assign rfl) ?_
  refine wl_nil (x_then (hK9 _ _ ?_))
  clear hK9 K9
  refine c_reg ?_ -- region 8 ops.go:107
  refine wl (ro_move rfl) ?_
  refine wl (ro_build rfl bld_119_0_1) ?_
  refine wl_puta rfl rfl ((pvc_one (vNum _))) sz_119 (rfl) h9 ((by simp)) (rfl) (fun w11 h9 F11 => ?_)
  replace hF := hF.thenDrew.thenO F11 (by first | exact .inr (by omega) | exact .inl rfl | exact .inl (by assumption) | assumption)
  replace hR := hR.hbput ((Fram.refl (one b9) _).thenDrew.thenO F11 (.inl rfl))
  replace h8 := F11.blkO h8 (by first | omega | exact ow_ne (by assumption) (by assumption) (by omega))
  replace h10 := F11.blkO h10 (by first | omega | exact ow_ne (by assumption) (by assumption) (by omega))
  refine wl_nil (x_blk (x_then (hK3 _ _ ?_)))
  clear hK3 K3
  refine c_reg ?_ -- region 36 ops.go:139
  refine wl (ro_move rfl) ?_
  refine wl (ro_loadAggB rfl ag_119 (h9) rfl rfl) ?_
  refine wl_pu (vs := [vNum (fAri x p.N q.N)]) (eo_bsV1 rfl se_83 zx_119) rfl hR.dr hc rfl (by show l.length + 1 ≤ 300; omega) ?_
  intro u12 ow12 x12 f12 r12
  obtain ⟨h8, kh8⟩ := vm_loc x12 f12 h8 kh8
  obtain ⟨h9, kh9⟩ := vm_loc x12 f12 h9 kh9
  obtain ⟨h10, kh10⟩ := vm_loc x12 f12 h10 kh10
  have hs12 := hF.size
  replace hF := vm_trans hX hF f12
  replace hX := hX.trans hs12 x12
  replace hR := r12
  refine wl_nil ?_
  refine bpp_end Tryz.results275 rfl ?_
  exact ⟨_, by unfold binV; rw [if_neg (by omega), if_neg (by omega), if_pos ⟨hp2, hq2⟩], rfl, _, hX, hF, hR⟩
set_option maxHeartbeats 8000000 in
theorem oper_16 (hR : AM C fg fc w ow (mkA a y gs g vars)) (hc : a.cur < a.ths.length) {x : Nat} {p q : PV} {l : List PV} (hx : 1 ≤ x ∧ x ≤ 6) (ha : VV c1 c2 c3 p) (hb : VV c1 c2 c3 q) (ho : g.ops = q :: p :: l) (hol : g.ops.length ≤ 131) {z : AS} (hz : ∀ m, binV (x + 10) p q = .error m → z = araise m (mkA a y gs g vars)) :
    RetP Tryz.prog 275 [ptr C.E.mb, tptr C a.cur, u8n 16, i64c x] w (OpR C fg fc w ow a y gs g vars (binV (x + 10) p q) l) (AE C (kH a) w ow z) := by
  have hX : Xt w ow ow := Xt.refl _ _
  have hF : Fram (tg ow vtT) w w := Fram.refl _ _
  have hze : ∀ {m : Str} {g' : AFr}, binV (x + 10) p q = .error m → g'.prot = g.prot → athrow (vStr m) (mkA a y gs g' vars) = z := fun h h2 => (athrow_top hc _ h2).trans (hz _ h).symm
  have hll : l.length ≤ 129 := by rw [ho] at hol; simp at hol; omega
  have hbv : ∀ r, cmpV x p q = r → binV (x + 10) p q = match r with | some b => .ok (vBool b) | none => .error mCompare := fun r h => by unfold binV; rw [if_neg (by omega), if_pos (by omega), show x + 10 - 10 = x by omega, h]; cases r <;> rfl
  refine retp_of Tryz.func275 rfl Tryz.ntmps275 rfl ?_
  refine c_seq (fun K1 hK1 => ?_)
  refine c_reg ?_ -- region 0 ops.go:99
  refine wl (ro_move rfl) ?_
  refine wl_call rfl en_244 (popA hR.dr hc ho (by omega)) ?_
  rintro _ u1 ⟨rfl, ow1, x1, f1, r1⟩
  have hs1 := hF.size
  replace hF := vm_trans hX hF f1
  replace hX := hX.trans hs1 x1
  replace hR := r1
  refine wl_new (ze_119) (fun b8 w2 hbb8 h8 F2 => ?_)
  have hbsb8 := Nat.le_trans hF.size hbb8
  have kh8 := hR.df b8 hbb8
  replace hF := hF.thenDrew.thenN F2
  replace hR := hR.thruN ((Fram.refl none' _).thenDrew.thenN F2)
  refine wl_puta rfl rfl ((pvc_one _)) sz_119 (rfl) h8 ((by simp)) (rfl) (fun w3 h8 F3 => ?_)
  replace hF := hF.thenDrew.thenO F3 (by first | exact .inr (by omega) | exact .inl rfl | exact .inl (by assumption) | assumption)
  replace hR := hR.hbput ((Fram.refl (one b8) _).thenDrew.thenO F3 (.inl rfl))
  refine wl_nil (x_then (hK1 _ _ ?_))
  clear hK1 K1
  refine forget [(0, _), (1, _), (2, _), (3, _), (8, _)] ⟨rfl, rfl, rfl, rfl, rfl, trivial⟩ (fun e => ?_)
  refine c_seq (fun K2 hK2 => ?_)
  refine c_reg ?_ -- region 1 ops.go:100
  refine wl_new (ze_119) (fun b9 w4 hbb9 h9 F4 => ?_)
  have hbsb9 := Nat.le_trans hF.size hbb9
  have hneb8b9 : b8 < b9 := Nat.lt_of_lt_of_le h8.lt hbb9
  have kh9 := hR.df b9 hbb9
  replace hF := hF.thenDrew.thenN F4
  replace hR := hR.thruN ((Fram.refl none' _).thenDrew.thenN F4)
  replace h8 := F4.blkN h8
  refine wl_nil (x_then (hK2 _ _ ?_))
  clear hK2 K2
  refine c_seq (fun K3 hK3 => ?_)
  refine c_seq (fun K4 hK4 => ?_)
  refine c_reg ?_ -- region 2 ops.go:101
  refine wl (ro_move rfl) ?_
  refine wl_nil (x_then (hK4 _ _ ?_))
  clear hK4 K4
  refine c_block ?_
  refine forget [(0, _), (1, _), (3, _), (8, _), (9, _), (27, _)] ⟨rfl, rfl, rfl, rfl, rfl, rfl, trivial⟩ (fun e => ?_)
  refine c_seq (fun K5 hK5 => ?_)
  refine c_reg ?_ -- region 3 ops.go:102
  refine wl (ro_cmp rfl rfl rfl) ?_
  refine wl (ro_assign rfl) ?_
  refine wl_nil (x_then (hK5 _ _ ?_))
  clear hK5 K5
  refine wc_condF rfl ?_
  refine c_seq (fun K6 hK6 => ?_)
  refine c_reg ?_ -- region 9 ops.go:108
  refine wl (ro_cmp rfl rfl rfl) ?_
  refine wl (ro_assign rfl) ?_
  refine wl_nil (x_then (hK6 _ _ ?_))
  clear hK6 K6
  refine wc_condT rfl ?_
  refine c_seq (fun K7 hK7 => ?_)
  refine c_reg ?_ -- region 10 ops.go:109
  refine wl (ro_move rfl) ?_
  refine wl_call rfl en_244 (popA hR.dr hc rfl (by show l.length + 1 ≤ 300; omega)) ?_
  rintro _ u5 ⟨rfl, ow5, x5, f5, r5⟩
  obtain ⟨h8, kh8⟩ := vm_loc x5 f5 h8 kh8
  obtain ⟨h9, kh9⟩ := vm_loc x5 f5 h9 kh9
  have hs5 := hF.size
  replace hF := vm_trans hX hF f5
  replace hX := hX.trans hs5 x5
  replace hR := r5
  refine wl_new (ze_119) (fun b14 w6 hbb14 h14 F6 => ?_)
  have hbsb14 := Nat.le_trans hF.size hbb14
  have hneb8b14 : b8 < b14 := Nat.lt_of_lt_of_le h8.lt hbb14
  have hneb9b14 : b9 < b14 := Nat.lt_of_lt_of_le h9.lt hbb14
  have kh14 := hR.df b14 hbb14
  replace hF := hF.thenDrew.thenN F6
  replace hR := hR.thruN ((Fram.refl none' _).thenDrew.thenN F6)
  replace h8 := F6.blkN h8
  replace h9 := F6.blkN h9
  refine wl_puta rfl rfl ((pvc_one _)) sz_119 (rfl) h14 ((by simp)) (rfl) (fun w7 h14 F7 => ?_)
  replace hF := hF.thenDrew.thenO F7 (by first | exact .inr (by omega) | exact .inl rfl | exact .inl (by assumption) | assumption)
  replace hR := hR.hbput ((Fram.refl (one b14) _).thenDrew.thenO F7 (.inl rfl))
  replace h8 := F7.blkO h8 (by first | omega | exact ow_ne (by assumption) (by assumption) (by omega))
  replace h9 := F7.blkO h9 (by first | omega | exact ow_ne (by assumption) (by assumption) (by omega))
  refine wl_nil (x_then (hK7 _ _ ?_))
  clear hK7 K7
  refine forget [(0, _), (1, _), (3, _), (8, _), (9, _), (14, _)] ⟨rfl, rfl, rfl, rfl, rfl, rfl, trivial⟩ (fun e => ?_)
  refine c_seq (fun K8 hK8 => ?_)
  rcases hcv : cmpV x p q with _ | r0
  · skip
    refine c_reg ?_ -- region 11 ops.go:110
    refine wl (ro_move rfl) ?_
    refine wl (ro_move rfl) ?_
    refine wl (ro_loadAggB rfl ag_119 (by assumption) rfl rfl) ?_
    refine wl (ro_loadAggB rfl ag_119 (by assumption) rfl rfl) ?_
    refine wl_callP rfl en_292 (cmpN292 hR.rz hcv ha.w hb.w hx.1 hx.2) (fun pv w9 hE => bpp_pan (P := Tryz.prog) (fn := Tryz.f275) (AE.thr hX hF hR.q hE (hze (m := mCompare) (hbv _ hcv) rfl))) ?_
    rintro _ _ ⟨⟩
  · skip
    refine c_reg ?_ -- region 11 ops.go:110
    refine wl (ro_move rfl) ?_
    refine wl (ro_move rfl) ?_
    refine wl (ro_loadAggB rfl ag_119 (by assumption) rfl rfl) ?_
    refine wl (ro_loadAggB rfl ag_119 (by assumption) rfl rfl) ?_
    refine wl_call rfl en_292 (cmpS292 hR.rz hcv ha.w hb.w hx.1 hx.2) ?_
    rintro _ w8 ⟨rfl, F8⟩
    replace hF := hF.thenDrew.thenN F8
    replace hR := hR.thruN ((Fram.refl none' _).thenDrew.thenN F8)
    replace h8 := F8.blkN h8
    replace h9 := F8.blkN h9
    replace h14 := F8.blkN h14
    refine wl (ro_assign rfl) ?_
    refine wl_nil (x_then (hK8 _ _ ?_))
    clear hK8 K8
    refine c_reg ?_ -- region 12 ops.go:111
    refine wl (ro_move rfl) ?_
    refine wl_call rfl en_91 (Bool91 (b := r0)) ?_
    rintro _ w9 ⟨rfl, F9⟩
    replace hF := hF.thenDrew.thenN F9
    replace hR := hR.thruN ((Fram.refl none' _).thenDrew.thenN F9)
    replace h8 := F9.blkN h8
    replace h9 := F9.blkN h9
    replace h14 := F9.blkN h14
    refine wl_puta rfl rfl ((pvc_one (vBool r0))) sz_119 (rfl) h9 ((by simp)) (rfl) (fun w10 h9 F10 => ?_)
    replace hF := hF.thenDrew.thenO F10 (by first | exact .inr (by omega) | exact .inl rfl | exact .inl (by assumption) | assumption)
    replace hR := hR.hbput ((Fram.refl (one b9) _).thenDrew.thenO F10 (.inl rfl))
    replace h8 := F10.blkO h8 (by first | omega | exact ow_ne (by assumption) (by assumption) (by omega))
    replace h14 := F10.blkO h14 (by first | omega | exact ow_ne (by assumption) (by assumption) (by omega))
    refine wl_nil (x_blk (x_then (hK3 _ _ ?_)))
    clear hK3 K3
    refine c_reg ?_ -- region 36 ops.go:139
    refine wl (ro_move rfl) ?_
    refine wl (ro_loadAggB rfl ag_119 (h9) rfl rfl) ?_
    refine wl_pu (vs := [vBool r0]) (eo_bsV1 rfl se_83 zx_119) rfl hR.dr hc rfl (by show l.length + 1 ≤ 300; omega) ?_
    intro u11 ow11 x11 f11 r11
    obtain ⟨h8, kh8⟩ := vm_loc x11 f11 h8 kh8
    obtain ⟨h9, kh9⟩ := vm_loc x11 f11 h9 kh9
    obtain ⟨h14, kh14⟩ := vm_loc x11 f11 h14 kh14
    have hs11 := hF.size
    replace hF := vm_trans hX hF f11
    replace hX := hX.trans hs11 x11
    replace hR := r11
    refine wl_nil ?_
    refine bpp_end Tryz.results275 rfl ?_
    exact ⟨_, hbv _ hcv, rfl, _, hX, hF, hR⟩
set_option maxHeartbeats 8000000 in
theorem oper_17 (hR : AM C fg fc w ow (mkA a y gs g vars)) (hc : a.cur < a.ths.length) {x : Nat} {p q : PV} {l : List PV} (ha : VV c1 c2 c3 p) (hb : VV c1 c2 c3 q) (ho : g.ops = q :: p :: l) (hol : g.ops.length ≤ 131) {z : AS} (hz : ∀ m, binV 20 p q = .error m → z = araise m (mkA a y gs g vars)) :
    RetP Tryz.prog 275 [ptr C.E.mb, tptr C a.cur, u8n 17, i64c x] w (OpR C fg fc w ow a y gs g vars (binV 20 p q) l) (AE C (kH a) w ow z) := by
  have hX : Xt w ow ow := Xt.refl _ _
  have hF : Fram (tg ow vtT) w w := Fram.refl _ _
  have hze : ∀ {m : Str} {g' : AFr}, binV 20 p q = .error m → g'.prot = g.prot → athrow (vStr m) (mkA a y gs g' vars) = z := fun h h2 => (athrow_top hc _ h2).trans (hz _ h).symm
  have hll : l.length ≤ 129 := by rw [ho] at hol; simp at hol; omega
  have hpa := wf_f ha.wf ha.w
  have hpb := wf_f hb.wf hb.w
  have la := txV_len ha
  have lb := txV_len hb
  refine retp_of Tryz.func275 rfl Tryz.ntmps275 rfl ?_
  refine c_seq (fun K1 hK1 => ?_)
  refine c_reg ?_ -- region 0 ops.go:99
  refine wl (ro_move rfl) ?_
  refine wl_call rfl en_244 (popA hR.dr hc ho (by omega)) ?_
  rintro _ u1 ⟨rfl, ow1, x1, f1, r1⟩
  have hs1 := hF.size
  replace hF := vm_trans hX hF f1
  replace hX := hX.trans hs1 x1
  replace hR := r1
  refine wl_new (ze_119) (fun b8 w2 hbb8 h8 F2 => ?_)
  have hbsb8 := Nat.le_trans hF.size hbb8
  have kh8 := hR.df b8 hbb8
  replace hF := hF.thenDrew.thenN F2
  replace hR := hR.thruN ((Fram.refl none' _).thenDrew.thenN F2)
  refine wl_puta rfl rfl ((pvc_one _)) sz_119 (rfl) h8 ((by simp)) (rfl) (fun w3 h8 F3 => ?_)
  replace hF := hF.thenDrew.thenO F3 (by first | exact .inr (by omega) | exact .inl rfl | exact .inl (by assumption) | assumption)
  replace hR := hR.hbput ((Fram.refl (one b8) _).thenDrew.thenO F3 (.inl rfl))
  refine wl_nil (x_then (hK1 _ _ ?_))
  clear hK1 K1
  refine forget [(0, _), (1, _), (2, _), (3, _), (8, _)] ⟨rfl, rfl, rfl, rfl, rfl, trivial⟩ (fun e => ?_)
  refine c_seq (fun K2 hK2 => ?_)
  refine c_reg ?_ -- region 1 ops.go:100
  refine wl_new (ze_119) (fun b9 w4 hbb9 h9 F4 => ?_)
  have hbsb9 := Nat.le_trans hF.size hbb9
  have hneb8b9 : b8 < b9 := Nat.lt_of_lt_of_le h8.lt hbb9
  have kh9 := hR.df b9 hbb9
  replace hF := hF.thenDrew.thenN F4
  replace hR := hR.thruN ((Fram.refl none' _).thenDrew.thenN F4)
  replace h8 := F4.blkN h8
  refine wl_nil (x_then (hK2 _ _ ?_))
  clear hK2 K2
  refine c_seq (fun K3 hK3 => ?_)
  refine c_seq (fun K4 hK4 => ?_)
  refine c_reg ?_ -- region 2 ops.go:101
  refine wl (ro_move rfl) ?_
  refine wl_nil (x_then (hK4 _ _ ?_))
  clear hK4 K4
  refine c_block ?_
  refine forget [(0, _), (1, _), (3, _), (8, _), (9, _), (27, _)] ⟨rfl, rfl, rfl, rfl, rfl, rfl, trivial⟩ (fun e => ?_)
  refine c_seq (fun K5 hK5 => ?_)
  refine c_reg ?_ -- region 3 ops.go:102
  refine wl (ro_cmp rfl rfl rfl) ?_
  refine wl (ro_assign rfl) ?_
  refine wl_nil (x_then (hK5 _ _ ?_))
  clear hK5 K5
  refine wc_condF rfl ?_
  refine c_seq (fun K6 hK6 => ?_)
  refine c_reg ?_ -- region 9 ops.go:108
  refine wl (ro_cmp rfl rfl rfl) ?_
  refine wl (ro_assign rfl) ?_
  refine wl_nil (x_then (hK6 _ _ ?_))
  clear hK6 K6
  refine wc_condF rfl ?_
  refine c_seq (fun K7 hK7 => ?_)
  refine c_reg ?_ -- region 13 ops.go:112
  refine wl (ro_cmp rfl rfl rfl) ?_
  refine wl (ro_assign rfl) ?_
  refine wl_nil (x_then (hK7 _ _ ?_))
  clear hK7 K7
  refine wc_condT rfl ?_
  refine c_seq (fun K8 hK8 => ?_)
  refine c_reg ?_ -- region 14 ops.go:113
  refine wl (ro_move rfl) ?_
  refine wl_call rfl en_244 (popA hR.dr hc rfl (by show l.length + 1 ≤ 300; omega)) ?_
  rintro _ u5 ⟨rfl, ow5, x5, f5, r5⟩
  obtain ⟨h8, kh8⟩ := vm_loc x5 f5 h8 kh8
  obtain ⟨h9, kh9⟩ := vm_loc x5 f5 h9 kh9
  have hs5 := hF.size
  replace hF := vm_trans hX hF f5
  replace hX := hX.trans hs5 x5
  replace hR := r5
  refine wl_new (ze_119) (fun b16 w6 hbb16 h16 F6 => ?_)
  have hbsb16 := Nat.le_trans hF.size hbb16
  have hneb8b16 : b8 < b16 := Nat.lt_of_lt_of_le h8.lt hbb16
  have hneb9b16 : b9 < b16 := Nat.lt_of_lt_of_le h9.lt hbb16
  have kh16 := hR.df b16 hbb16
  replace hF := hF.thenDrew.thenN F6
  replace hR := hR.thruN ((Fram.refl none' _).thenDrew.thenN F6)
  replace h8 := F6.blkN h8
  replace h9 := F6.blkN h9
  refine wl_puta rfl rfl ((pvc_one _)) sz_119 (rfl) h16 ((by simp)) (rfl) (fun w7 h16 F7 => ?_)
  replace hF := hF.thenDrew.thenO F7 (by first | exact .inr (by omega) | exact .inl rfl | exact .inl (by assumption) | assumption)
  replace hR := hR.hbput ((Fram.refl (one b16) _).thenDrew.thenO F7 (.inl rfl))
  replace h8 := F7.blkO h8 (by first | omega | exact ow_ne (by assumption) (by assumption) (by omega))
  replace h9 := F7.blkO h9 (by first | omega | exact ow_ne (by assumption) (by assumption) (by omega))
  refine wl_nil (x_then (hK8 _ _ ?_))
  clear hK8 K8
  refine c_seq (fun K9 hK9 => ?_)
  refine c_seq (fun K10 hK10 => ?_)
  refine c_reg ?_ -- region 15 ops.go:114
  refine wl (ro_fieldAddr (k := 0) rfl fo_119_0) ?_
  refine wl (ro_loadB rfl sc_3 (h16) rfl) ?_
  refine wl (ro_cmp rfl rfl rfl) ?_
  refine wl_fork rfl (fun hg64 => ?_) (fun hg64 => ?_)
  · try simp only [decide_eq_true_eq, decide_eq_false_iff_not, Bool.not_eq_true', Bool.not_eq_false', Bool.not_eq_eq_eq_not, Bool.not_true, Bool.not_false, beq_iff_eq, bne_iff_ne, ne_eq, beq_eq_false_iff_ne, bne_eq_false_iff_eq, gt_iff_lt, ge_iff_le, Int.not_lt, Int.not_le] at hg64
    refine wlg_yes rfl (ro_fieldAddr (k := 0) rfl fo_119_0) ?_
    refine wlg_yes rfl (ro_loadB rfl sc_3 (h16) rfl) ?_
    refine wlg_yes rfl (ro_cmp rfl rfl rfl) ?_
    refine wl (ro_pick rfl rfl rfl) ?_
    refine wl_fork rfl (fun hg69 => ?_) (fun hg69 => ?_)
    · try simp only [decide_eq_true_eq, decide_eq_false_iff_not, Bool.not_eq_true', Bool.not_eq_false', Bool.not_eq_eq_eq_not, Bool.not_true, Bool.not_false, beq_iff_eq, bne_iff_ne, ne_eq, beq_eq_false_iff_ne, bne_eq_false_iff_eq, gt_iff_lt, ge_iff_le, Int.not_lt, Int.not_le] at hg69
      refine wlg_no rfl ?_
      refine wlg_no rfl ?_
      refine wlg_no rfl ?_
      refine wlg_no rfl ?_
      refine wlg_no rfl ?_
      refine wlg_no rfl ?_
      refine wlg_no rfl ?_
      refine wlg_no rfl ?_
      refine wl (ro_pick rfl rfl rfl) ?_
      refine wl_nil (x_then (hK10 _ _ ?_))
      clear hK10 K10
      refine wc_condT rfl ?_
      refine c_reg ?_ -- region 16 ops.go:115
      refine wl_callP rfl en_259 (raise259 (s := mConcat)) (fun pv w9 hE => bpp_pan (P := Tryz.prog) (fn := Tryz.f275) (AE.thr hX hF hR.q hE (hze (m := mConcat) (by unfold binV; rw [if_pos rfl, if_neg (by omega)]) rfl))) ?_
      rintro _ _ ⟨⟩
    · try simp only [decide_eq_true_eq, decide_eq_false_iff_not, Bool.not_eq_true', Bool.not_eq_false', Bool.not_eq_eq_eq_not, Bool.not_true, Bool.not_false, beq_iff_eq, bne_iff_ne, ne_eq, beq_eq_false_iff_ne, bne_eq_false_iff_eq, gt_iff_lt, ge_iff_le, Int.not_lt, Int.not_le] at hg69
      refine wlg_yes rfl (ro_fieldAddr (k := 0) rfl fo_119_0) ?_
      refine wlg_yes rfl (ro_loadB rfl sc_3 (h8) rfl) ?_
      refine wlg_yes rfl (ro_cmp rfl rfl rfl) ?_
      refine wlg_fork rfl rfl (fun hg73 => ?_) (fun hg73 => ?_)
      · try simp only [decide_eq_true_eq, decide_eq_false_iff_not, Bool.not_eq_true', Bool.not_eq_false', Bool.not_eq_eq_eq_not, Bool.not_true, Bool.not_false, beq_iff_eq, bne_iff_ne, ne_eq, beq_eq_false_iff_ne, bne_eq_false_iff_eq, gt_iff_lt, ge_iff_le, Int.not_lt, Int.not_le] at hg73
        refine wlg_yes rfl (ro_fieldAddr (k := 0) rfl fo_119_0) ?_
        refine wlg_yes rfl (ro_loadB rfl sc_3 (h8) rfl) ?_
        refine wlg_yes rfl (ro_cmp rfl rfl rfl) ?_
        refine wlg_yes rfl (ro_pick rfl rfl rfl) ?_
        refine wl (ro_pick rfl rfl rfl) ?_
        refine wl_nil (x_then (hK10 _ _ ?_))
        clear hK10 K10
        refine wc_cond rfl (fun hc78 => ?_) (fun hc78 => ?_)
        · try simp only [decide_eq_true_eq, decide_eq_false_iff_not, Bool.not_eq_true', Bool.not_eq_false', Bool.not_eq_eq_eq_not, Bool.not_true, Bool.not_false, beq_iff_eq, bne_iff_ne, ne_eq, beq_eq_false_iff_ne, bne_eq_false_iff_eq, gt_iff_lt, ge_iff_le, Int.not_lt, Int.not_le] at hc78
          refine c_reg ?_ -- region 16 ops.go:115
          refine wl_callP rfl en_259 (raise259 (s := mConcat)) (fun pv w9 hE => bpp_pan (P := Tryz.prog) (fn := Tryz.f275) (AE.thr hX hF hR.q hE (hze (m := mConcat) (by unfold binV; rw [if_pos rfl, if_neg (by omega)]) rfl))) ?_
          rintro _ _ ⟨⟩
        · try simp only [decide_eq_true_eq, decide_eq_false_iff_not, Bool.not_eq_true', Bool.not_eq_false', Bool.not_eq_eq_eq_not, Bool.not_true, Bool.not_false, beq_iff_eq, bne_iff_ne, ne_eq, beq_eq_false_iff_ne, bne_eq_false_iff_eq, gt_iff_lt, ge_iff_le, Int.not_lt, Int.not_le] at hc78
          refine c_skip (x_then (hK9 _ _ ?_))
          clear hK9 K9
          refine forget [(0, _), (1, _), (8, _), (9, _), (16, _)] ⟨rfl, rfl, rfl, rfl, rfl, trivial⟩ (fun e => ?_)
          refine c_seq (fun K11 hK11 => ?_)
          have hty : (p.T = 3 ∨ p.T = 2) ∧ (q.T = 3 ∨ q.T = 2) := by omega
          refine c_reg ?_ -- region 17 ops.go:117
          refine wl (ro_move rfl) ?_
          refine wl (ro_loadAggB rfl ag_119 (by assumption) rfl rfl) ?_
          refine wl_call rfl en_286 (textA hR.dr hpa (wf6 ha.wf)) ?_
          rintro _ u8 ⟨rfl, ow8, x8, f8, r8⟩
          obtain ⟨h8, kh8⟩ := vm_loc x8 f8 h8 kh8
          obtain ⟨h9, kh9⟩ := vm_loc x8 f8 h9 kh9
          obtain ⟨h16, kh16⟩ := vm_loc x8 f8 h16 kh16
          have hs8 := hF.size
          replace hF := vm_trans hX hF f8
          replace hX := hX.trans hs8 x8
          replace hR := r8
          refine wl (ro_assign rfl) ?_
          refine wl_nil (x_then (hK11 _ _ ?_))
          clear hK11 K11
          refine forget [(0, _), (1, _), (8, _), (9, _), (17, _)] ⟨rfl, rfl, rfl, rfl, rfl, trivial⟩ (fun e => ?_)
          refine c_seq (fun K12 hK12 => ?_)
          refine c_reg ?_ -- region 18 ops.go:118
          refine wl (ro_move rfl) ?_
          refine wl (ro_loadAggB rfl ag_119 (by assumption) rfl rfl) ?_
          refine wl_call rfl en_286 (textA hR.dr hpb (wf6 hb.wf)) ?_
          rintro _ u9 ⟨rfl, ow9, x9, f9, r9⟩
          obtain ⟨h8, kh8⟩ := vm_loc x9 f9 h8 kh8
          obtain ⟨h9, kh9⟩ := vm_loc x9 f9 h9 kh9
          obtain ⟨h16, kh16⟩ := vm_loc x9 f9 h16 kh16
          have hs9 := hF.size
          replace hF := vm_trans hX hF f9
          replace hX := hX.trans hs9 x9
          replace hR := r9
          refine wl (ro_assign rfl) ?_
          refine wl_nil (x_then (hK12 _ _ ?_))
          clear hK12 K12
          refine c_seq (fun K13 hK13 => ?_)
          refine c_seq (fun K14 hK14 => ?_)
          refine c_reg ?_ -- region 19 ops.go:119
          refine wl (ro_move rfl) ?_
          refine wl (ro_lenS rfl st_9) ?_
          refine wl (ro_move rfl) ?_
          refine wl (ro_lenS rfl st_9) ?_
          refine wl (ro_arith rfl rfl rfl (Go.IntWalk.i64_in _ (by omega))) ?_
          refine wl (ro_cmp rfl rfl rfl) ?_
          refine wl_nil (x_then (hK14 _ _ ?_))
          clear hK14 K14
          refine wc_cond rfl (fun hc91 => ?_) (fun hc91 => ?_)
          · try simp only [decide_eq_true_eq, decide_eq_false_iff_not, Bool.not_eq_true', Bool.not_eq_false', Bool.not_eq_eq_eq_not, Bool.not_true, Bool.not_false, beq_iff_eq, bne_iff_ne, ne_eq, beq_eq_false_iff_ne, bne_eq_false_iff_eq, gt_iff_lt, ge_iff_le, Int.not_lt, Int.not_le] at hc91
            refine c_reg ?_ -- region 20 ops.go:120
            refine wl_callP rfl en_259 (raise259 (s := mLong)) (fun pv w9 hE => bpp_pan (P := Tryz.prog) (fn := Tryz.f275) (AE.thr hX hF hR.q hE (hze (m := mLong) (by unfold binV; rw [if_pos rfl, if_pos hty, if_pos (by omega)]) rfl))) ?_
            rintro _ _ ⟨⟩
          · try simp only [decide_eq_true_eq, decide_eq_false_iff_not, Bool.not_eq_true', Bool.not_eq_false', Bool.not_eq_eq_eq_not, Bool.not_true, Bool.not_false, beq_iff_eq, bne_iff_ne, ne_eq, beq_eq_false_iff_ne, bne_eq_false_iff_eq, gt_iff_lt, ge_iff_le, Int.not_lt, Int.not_le] at hc91
            refine c_skip (x_then (hK13 _ _ ?_))
            clear hK13 K13
            refine c_reg ?_ -- region 21 ops.go:122
            refine wl (ro_move rfl) ?_
            refine wl (ro_move rfl) ?_
            refine wl (ro_catS rfl rfl (by omega)) ?_
            refine wl (ro_build rfl bld_119_0_2) ?_
            refine wl_puta rfl rfl ((pvc_one (vStr (txV p ++ txV q)))) sz_119 (rfl) h9 ((by simp)) (rfl) (fun w10 h9 F10 => ?_)
            replace hF := hF.thenDrew.thenO F10 (by first | exact .inr (by omega) | exact .inl rfl | exact .inl (by assumption) | assumption)
            replace hR := hR.hbput ((Fram.refl (one b9) _).thenDrew.thenO F10 (.inl rfl))
            replace h8 := F10.blkO h8 (by first | omega | exact ow_ne (by assumption) (by assumption) (by omega))
            replace h16 := F10.blkO h16 (by first | omega | exact ow_ne (by assumption) (by assumption) (by omega))
            refine wl_nil (x_blk (x_then (hK3 _ _ ?_)))
            clear hK3 K3
            refine c_reg ?_ -- region 36 ops.go:139
            refine wl (ro_move rfl) ?_
            refine wl (ro_loadAggB rfl ag_119 (h9) rfl rfl) ?_
            refine wl_pu (vs := [vStr (txV p ++ txV q)]) (eo_bsV1 rfl se_83 zx_119) rfl hR.dr hc rfl (by show l.length + 1 ≤ 300; omega) ?_
            intro u11 ow11 x11 f11 r11
            obtain ⟨h8, kh8⟩ := vm_loc x11 f11 h8 kh8
            obtain ⟨h9, kh9⟩ := vm_loc x11 f11 h9 kh9
            obtain ⟨h16, kh16⟩ := vm_loc x11 f11 h16 kh16
            have hs11 := hF.size
            replace hF := vm_trans hX hF f11
            replace hX := hX.trans hs11 x11
            replace hR := r11
            refine wl_nil ?_
            refine bpp_end Tryz.results275 rfl ?_
            exact ⟨_, by unfold binV; rw [if_pos rfl, if_pos hty, if_neg (by omega)], rfl, _, hX, hF, hR⟩
      · try simp only [decide_eq_true_eq, decide_eq_false_iff_not, Bool.not_eq_true', Bool.not_eq_false', Bool.not_eq_eq_eq_not, Bool.not_true, Bool.not_false, beq_iff_eq, bne_iff_ne, ne_eq, beq_eq_false_iff_ne, bne_eq_false_iff_eq, gt_iff_lt, ge_iff_le, Int.not_lt, Int.not_le] at hg73
        refine wlg_no rfl ?_
        refine wlg_no rfl ?_
        refine wlg_no rfl ?_
        refine wlg_yes rfl (ro_pick rfl rfl rfl) ?_
        refine wl (ro_pick rfl rfl rfl) ?_
        refine wl_nil (x_then (hK10 _ _ ?_))
        clear hK10 K10
        refine wc_condF rfl ?_
        refine c_skip (x_then (hK9 _ _ ?_))
        clear hK9 K9
        refine forget [(0, _), (1, _), (8, _), (9, _), (16, _)] ⟨rfl, rfl, rfl, rfl, rfl, trivial⟩ (fun e => ?_)
        refine c_seq (fun K15 hK15 => ?_)
        have hty : (p.T = 3 ∨ p.T = 2) ∧ (q.T = 3 ∨ q.T = 2) := by omega
        refine c_reg ?_ -- region 17 ops.go:117
        refine wl (ro_move rfl) ?_
        refine wl (ro_loadAggB rfl ag_119 (by assumption) rfl rfl) ?_
        refine wl_call rfl en_286 (textA hR.dr hpa (wf6 ha.wf)) ?_
        rintro _ u12 ⟨rfl, ow12, x12, f12, r12⟩
        obtain ⟨h8, kh8⟩ := vm_loc x12 f12 h8 kh8
        obtain ⟨h9, kh9⟩ := vm_loc x12 f12 h9 kh9
        obtain ⟨h16, kh16⟩ := vm_loc x12 f12 h16 kh16
        have hs12 := hF.size
        replace hF := vm_trans hX hF f12
        replace hX := hX.trans hs12 x12
        replace hR := r12
        refine wl (ro_assign rfl) ?_
        refine wl_nil (x_then (hK15 _ _ ?_))
        clear hK15 K15
        refine forget [(0, _), (1, _), (8, _), (9, _), (17, _)] ⟨rfl, rfl, rfl, rfl, rfl, trivial⟩ (fun e => ?_)
        refine c_seq (fun K16 hK16 => ?_)
        refine c_reg ?_ -- region 18 ops.go:118
        refine wl (ro_move rfl) ?_
        refine wl (ro_loadAggB rfl ag_119 (by assumption) rfl rfl) ?_
        refine wl_call rfl en_286 (textA hR.dr hpb (wf6 hb.wf)) ?_
        rintro _ u13 ⟨rfl, ow13, x13, f13, r13⟩
        obtain ⟨h8, kh8⟩ := vm_loc x13 f13 h8 kh8
        obtain ⟨h9, kh9⟩ := vm_loc x13 f13 h9 kh9
        obtain ⟨h16, kh16⟩ := vm_loc x13 f13 h16 kh16
        have hs13 := hF.size
        replace hF := vm_trans hX hF f13
        replace hX := hX.trans hs13 x13
        replace hR := r13
        refine wl (ro_assign rfl) ?_
        refine wl_nil (x_then (hK16 _ _ ?_))
        clear hK16 K16
        refine c_seq (fun K17 hK17 => ?_)
        refine c_seq (fun K18 hK18 => ?_)
        refine c_reg ?_ -- region 19 ops.go:119
        refine wl (ro_move rfl) ?_
        refine wl (ro_lenS rfl st_9) ?_
        refine wl (ro_move rfl) ?_
        refine wl (ro_lenS rfl st_9) ?_
        refine wl (ro_arith rfl rfl rfl (Go.IntWalk.i64_in _ (by omega))) ?_
        refine wl (ro_cmp rfl rfl rfl) ?_
        refine wl_nil (x_then (hK18 _ _ ?_))
        clear hK18 K18
        refine wc_cond rfl (fun hc91 => ?_) (fun hc91 => ?_)
        · try simp only [decide_eq_true_eq, decide_eq_false_iff_not, Bool.not_eq_true', Bool.not_eq_false', Bool.not_eq_eq_eq_not, Bool.not_true, Bool.not_false, beq_iff_eq, bne_iff_ne, ne_eq, beq_eq_false_iff_ne, bne_eq_false_iff_eq, gt_iff_lt, ge_iff_le, Int.not_lt, Int.not_le] at hc91
          refine c_reg ?_ -- region 20 ops.go:120
          refine wl_callP rfl en_259 (raise259 (s := mLong)) (fun pv w9 hE => bpp_pan (P := Tryz.prog) (fn := Tryz.f275) (AE.thr hX hF hR.q hE (hze (m := mLong) (by unfold binV; rw [if_pos rfl, if_pos hty, if_pos (by omega)]) rfl))) ?_
          rintro _ _ ⟨⟩
        · try simp only [decide_eq_true_eq, decide_eq_false_iff_not, Bool.not_eq_true', Bool.not_eq_false', Bool.not_eq_eq_eq_not, Bool.not_true, Bool.not_false, beq_iff_eq, bne_iff_ne, ne_eq, beq_eq_false_iff_ne, bne_eq_false_iff_eq, gt_iff_lt, ge_iff_le, Int.not_lt, Int.not_le] at hc91
          refine c_skip (x_then (hK17 _ _ ?_))
          clear hK17 K17
          refine c_reg ?_ -- region 21 ops.go:122
          refine wl (ro_move rfl) ?_
          refine wl (ro_move rfl) ?_
          refine wl (ro_catS rfl rfl (by omega)) ?_
          refine wl (ro_build rfl bld_119_0_2) ?_
          refine wl_puta rfl rfl ((pvc_one (vStr (txV p ++ txV q)))) sz_119 (rfl) h9 ((by simp)) (rfl) (fun w14 h9 F14 => ?_)
          replace hF := hF.thenDrew.thenO F14 (by first | exact .inr (by omega) | exact .inl rfl | exact .inl (by assumption) | assumption)
          replace hR := hR.hbput ((Fram.refl (one b9) _).thenDrew.thenO F14 (.inl rfl))
          replace h8 := F14.blkO h8 (by first | omega | exact ow_ne (by assumption) (by assumption) (by omega))
          replace h16 := F14.blkO h16 (by first | omega | exact ow_ne (by assumption) (by assumption) (by omega))
          refine wl_nil (x_blk (x_then (hK3 _ _ ?_)))
          clear hK3 K3
          refine c_reg ?_ -- region 36 ops.go:139
          refine wl (ro_move rfl) ?_
          refine wl (ro_loadAggB rfl ag_119 (h9) rfl rfl) ?_
          refine wl_pu (vs := [vStr (txV p ++ txV q)]) (eo_bsV1 rfl se_83 zx_119) rfl hR.dr hc rfl (by show l.length + 1 ≤ 300; omega) ?_
          intro u15 ow15 x15 f15 r15
          obtain ⟨h8, kh8⟩ := vm_loc x15 f15 h8 kh8
          obtain ⟨h9, kh9⟩ := vm_loc x15 f15 h9 kh9
          obtain ⟨h16, kh16⟩ := vm_loc x15 f15 h16 kh16
          have hs15 := hF.size
          replace hF := vm_trans hX hF f15
          replace hX := hX.trans hs15 x15
          replace hR := r15
          refine wl_nil ?_
          refine bpp_end Tryz.results275 rfl ?_
          exact ⟨_, by unfold binV; rw [if_pos rfl, if_pos hty, if_neg (by omega)], rfl, _, hX, hF, hR⟩
  · try simp only [decide_eq_true_eq, decide_eq_false_iff_not, Bool.not_eq_true', Bool.not_eq_false', Bool.not_eq_eq_eq_not, Bool.not_true, Bool.not_false, beq_iff_eq, bne_iff_ne, ne_eq, beq_eq_false_iff_ne, bne_eq_false_iff_eq, gt_iff_lt, ge_iff_le, Int.not_lt, Int.not_le] at hg64
    refine wlg_no rfl ?_
    refine wlg_no rfl ?_
    refine wlg_no rfl ?_
    refine wl (ro_pick rfl rfl rfl) ?_
    refine wl (ro_move rfl) ?_
    refine wlg_yes rfl (ro_fieldAddr (k := 0) rfl fo_119_0) ?_
    refine wlg_yes rfl (ro_loadB rfl sc_3 (h8) rfl) ?_
    refine wlg_yes rfl (ro_cmp rfl rfl rfl) ?_
    refine wlg_fork rfl rfl (fun hg73 => ?_) (fun hg73 => ?_)
    · try simp only [decide_eq_true_eq, decide_eq_false_iff_not, Bool.not_eq_true', Bool.not_eq_false', Bool.not_eq_eq_eq_not, Bool.not_true, Bool.not_false, beq_iff_eq, bne_iff_ne, ne_eq, beq_eq_false_iff_ne, bne_eq_false_iff_eq, gt_iff_lt, ge_iff_le, Int.not_lt, Int.not_le] at hg73
      refine wlg_yes rfl (ro_fieldAddr (k := 0) rfl fo_119_0) ?_
      refine wlg_yes rfl (ro_loadB rfl sc_3 (h8) rfl) ?_
      refine wlg_yes rfl (ro_cmp rfl rfl rfl) ?_
      refine wlg_yes rfl (ro_pick rfl rfl rfl) ?_
      refine wl (ro_pick rfl rfl rfl) ?_
      refine wl_nil (x_then (hK10 _ _ ?_))
      clear hK10 K10
      refine wc_cond rfl (fun hc78 => ?_) (fun hc78 => ?_)
      · try simp only [decide_eq_true_eq, decide_eq_false_iff_not, Bool.not_eq_true', Bool.not_eq_false', Bool.not_eq_eq_eq_not, Bool.not_true, Bool.not_false, beq_iff_eq, bne_iff_ne, ne_eq, beq_eq_false_iff_ne, bne_eq_false_iff_eq, gt_iff_lt, ge_iff_le, Int.not_lt, Int.not_le] at hc78
        refine c_reg ?_ -- region 16 ops.go:115
        refine wl_callP rfl en_259 (raise259 (s := mConcat)) (fun pv w9 hE => bpp_pan (P := Tryz.prog) (fn := Tryz.f275) (AE.thr hX hF hR.q hE (hze (m := mConcat) (by unfold binV; rw [if_pos rfl, if_neg (by omega)]) rfl))) ?_
        rintro _ _ ⟨⟩
      · try simp only [decide_eq_true_eq, decide_eq_false_iff_not, Bool.not_eq_true', Bool.not_eq_false', Bool.not_eq_eq_eq_not, Bool.not_true, Bool.not_false, beq_iff_eq, bne_iff_ne, ne_eq, beq_eq_false_iff_ne, bne_eq_false_iff_eq, gt_iff_lt, ge_iff_le, Int.not_lt, Int.not_le] at hc78
        refine c_skip (x_then (hK9 _ _ ?_))
        clear hK9 K9
        refine forget [(0, _), (1, _), (8, _), (9, _), (16, _)] ⟨rfl, rfl, rfl, rfl, rfl, trivial⟩ (fun e => ?_)
        refine c_seq (fun K19 hK19 => ?_)
        have hty : (p.T = 3 ∨ p.T = 2) ∧ (q.T = 3 ∨ q.T = 2) := by omega
        refine c_reg ?_ -- region 17 ops.go:117
        refine wl (ro_move rfl) ?_
        refine wl (ro_loadAggB rfl ag_119 (by assumption) rfl rfl) ?_
        refine wl_call rfl en_286 (textA hR.dr hpa (wf6 ha.wf)) ?_
        rintro _ u16 ⟨rfl, ow16, x16, f16, r16⟩
        obtain ⟨h8, kh8⟩ := vm_loc x16 f16 h8 kh8
        obtain ⟨h9, kh9⟩ := vm_loc x16 f16 h9 kh9
        obtain ⟨h16, kh16⟩ := vm_loc x16 f16 h16 kh16
        have hs16 := hF.size
        replace hF := vm_trans hX hF f16
        replace hX := hX.trans hs16 x16
        replace hR := r16
        refine wl (ro_assign rfl) ?_
        refine wl_nil (x_then (hK19 _ _ ?_))
        clear hK19 K19
        refine forget [(0, _), (1, _), (8, _), (9, _), (17, _)] ⟨rfl, rfl, rfl, rfl, rfl, trivial⟩ (fun e => ?_)
        refine c_seq (fun K20 hK20 => ?_)
        refine c_reg ?_ -- region 18 ops.go:118
        refine wl (ro_move rfl) ?_
        refine wl (ro_loadAggB rfl ag_119 (by assumption) rfl rfl) ?_
        refine wl_call rfl en_286 (textA hR.dr hpb (wf6 hb.wf)) ?_
        rintro _ u17 ⟨rfl, ow17, x17, f17, r17⟩
        obtain ⟨h8, kh8⟩ := vm_loc x17 f17 h8 kh8
        obtain ⟨h9, kh9⟩ := vm_loc x17 f17 h9 kh9
        obtain ⟨h16, kh16⟩ := vm_loc x17 f17 h16 kh16
        have hs17 := hF.size
        replace hF := vm_trans hX hF f17
        replace hX := hX.trans hs17 x17
        replace hR := r17
        refine wl (ro_assign rfl) ?_
        refine wl_nil (x_then (hK20 _ _ ?_))
        clear hK20 K20
        refine c_seq (fun K21 hK21 => ?_)
        refine c_seq (fun K22 hK22 => ?_)
        refine c_reg ?_ -- region 19 ops.go:119
        refine wl (ro_move rfl) ?_
        refine wl (ro_lenS rfl st_9) ?_
        refine wl (ro_move rfl) ?_
        refine wl (ro_lenS rfl st_9) ?_
        refine wl (ro_arith rfl rfl rfl (Go.IntWalk.i64_in _ (by omega))) ?_
        refine wl (ro_cmp rfl rfl rfl) ?_
        refine wl_nil (x_then (hK22 _ _ ?_))
        clear hK22 K22
        refine wc_cond rfl (fun hc91 => ?_) (fun hc91 => ?_)
        · try simp only [decide_eq_true_eq, decide_eq_false_iff_not, Bool.not_eq_true', Bool.not_eq_false', Bool.not_eq_eq_eq_not, Bool.not_true, Bool.not_false, beq_iff_eq, bne_iff_ne, ne_eq, beq_eq_false_iff_ne, bne_eq_false_iff_eq, gt_iff_lt, ge_iff_le, Int.not_lt, Int.not_le] at hc91
          refine c_reg ?_ -- region 20 ops.go:120
          refine wl_callP rfl en_259 (raise259 (s := mLong)) (fun pv w9 hE => bpp_pan (P := Tryz.prog) (fn := Tryz.f275) (AE.thr hX hF hR.q hE (hze (m := mLong) (by unfold binV; rw [if_pos rfl, if_pos hty, if_pos (by omega)]) rfl))) ?_
          rintro _ _ ⟨⟩
        · try simp only [decide_eq_true_eq, decide_eq_false_iff_not, Bool.not_eq_true', Bool.not_eq_false', Bool.not_eq_eq_eq_not, Bool.not_true, Bool.not_false, beq_iff_eq, bne_iff_ne, ne_eq, beq_eq_false_iff_ne, bne_eq_false_iff_eq, gt_iff_lt, ge_iff_le, Int.not_lt, Int.not_le] at hc91
          refine c_skip (x_then (hK21 _ _ ?_))
          clear hK21 K21
          refine c_reg ?_ -- region 21 ops.go:122
          refine wl (ro_move rfl) ?_
          refine wl (ro_move rfl) ?_
          refine wl (ro_catS rfl rfl (by omega)) ?_
          refine wl (ro_build rfl bld_119_0_2) ?_
          refine wl_puta rfl rfl ((pvc_one (vStr (txV p ++ txV q)))) sz_119 (rfl) h9 ((by simp)) (rfl) (fun w18 h9 F18 => ?_)
          replace hF := hF.thenDrew.thenO F18 (by first | exact .inr (by omega) | exact .inl rfl | exact .inl (by assumption) | assumption)
          replace hR := hR.hbput ((Fram.refl (one b9) _).thenDrew.thenO F18 (.inl rfl))
          replace h8 := F18.blkO h8 (by first | omega | exact ow_ne (by assumption) (by assumption) (by omega))
          replace h16 := F18.blkO h16 (by first | omega | exact ow_ne (by assumption) (by assumption) (by omega))
          refine wl_nil (x_blk (x_then (hK3 _ _ ?_)))
          clear hK3 K3
          refine c_reg ?_ -- region 36 ops.go:139
          refine wl (ro_move rfl) ?_
          refine wl (ro_loadAggB rfl ag_119 (h9) rfl rfl) ?_
          refine wl_pu (vs := [vStr (txV p ++ txV q)]) (eo_bsV1 rfl se_83 zx_119) rfl hR.dr hc rfl (by show l.length + 1 ≤ 300; omega) ?_
          intro u19 ow19 x19 f19 r19
          obtain ⟨h8, kh8⟩ := vm_loc x19 f19 h8 kh8
          obtain ⟨h9, kh9⟩ := vm_loc x19 f19 h9 kh9
          obtain ⟨h16, kh16⟩ := vm_loc x19 f19 h16 kh16
          have hs19 := hF.size
          replace hF := vm_trans hX hF f19
          replace hX := hX.trans hs19 x19
          replace hR := r19
          refine wl_nil ?_
          refine bpp_end Tryz.results275 rfl ?_
          exact ⟨_, by unfold binV; rw [if_pos rfl, if_pos hty, if_neg (by omega)], rfl, _, hX, hF, hR⟩
    · try simp only [decide_eq_true_eq, decide_eq_false_iff_not, Bool.not_eq_true', Bool.not_eq_false', Bool.not_eq_eq_eq_not, Bool.not_true, Bool.not_false, beq_iff_eq, bne_iff_ne, ne_eq, beq_eq_false_iff_ne, bne_eq_false_iff_eq, gt_iff_lt, ge_iff_le, Int.not_lt, Int.not_le] at hg73
      refine wlg_no rfl ?_
      refine wlg_no rfl ?_
      refine wlg_no rfl ?_
      refine wlg_yes rfl (ro_pick rfl rfl rfl) ?_
      refine wl (ro_pick rfl rfl rfl) ?_
      refine wl_nil (x_then (hK10 _ _ ?_))
      clear hK10 K10
      refine wc_condF rfl ?_
      refine c_skip (x_then (hK9 _ _ ?_))
      clear hK9 K9
      refine forget [(0, _), (1, _), (8, _), (9, _), (16, _)] ⟨rfl, rfl, rfl, rfl, rfl, trivial⟩ (fun e => ?_)
      refine c_seq (fun K23 hK23 => ?_)
      have hty : (p.T = 3 ∨ p.T = 2) ∧ (q.T = 3 ∨ q.T = 2) := by omega
      refine c_reg ?_ -- region 17 ops.go:117
      refine wl (ro_move rfl) ?_
      refine wl (ro_loadAggB rfl ag_119 (by assumption) rfl rfl) ?_
      refine wl_call rfl en_286 (textA hR.dr hpa (wf6 ha.wf)) ?_
      rintro _ u20 ⟨rfl, ow20, x20, f20, r20⟩
      obtain ⟨h8, kh8⟩ := vm_loc x20 f20 h8 kh8
      obtain ⟨h9, kh9⟩ := vm_loc x20 f20 h9 kh9
      obtain ⟨h16, kh16⟩ := vm_loc x20 f20 h16 kh16
      have hs20 := hF.size
      replace hF := vm_trans hX hF f20
      replace hX := hX.trans hs20 x20
      replace hR := r20
      refine wl (ro_assign rfl) ?_
      refine wl_nil (x_then (hK23 _ _ ?_))
      clear hK23 K23
      refine forget [(0, _), (1, _), (8, _), (9, _), (17, _)] ⟨rfl, rfl, rfl, rfl, rfl, trivial⟩ (fun e => ?_)
      refine c_seq (fun K24 hK24 => ?_)
      refine c_reg ?_ -- region 18 ops.go:118
      refine wl (ro_move rfl) ?_
      refine wl (ro_loadAggB rfl ag_119 (by assumption) rfl rfl) ?_
      refine wl_call rfl en_286 (textA hR.dr hpb (wf6 hb.wf)) ?_
      rintro _ u21 ⟨rfl, ow21, x21, f21, r21⟩
      obtain ⟨h8, kh8⟩ := vm_loc x21 f21 h8 kh8
      obtain ⟨h9, kh9⟩ := vm_loc x21 f21 h9 kh9
      obtain ⟨h16, kh16⟩ := vm_loc x21 f21 h16 kh16
      have hs21 := hF.size
      replace hF := vm_trans hX hF f21
      replace hX := hX.trans hs21 x21
      replace hR := r21
      refine wl (ro_assign rfl) ?_
      refine wl_nil (x_then (hK24 _ _ ?_))
      clear hK24 K24
      refine c_seq (fun K25 hK25 => ?_)
      refine c_seq (fun K26 hK26 => ?_)
      refine c_reg ?_ -- region 19 ops.go:119
      refine wl (ro_move rfl) ?_
      refine wl (ro_lenS rfl st_9) ?_
      refine wl (ro_move rfl) ?_
      refine wl (ro_lenS rfl st_9) ?_
      refine wl (ro_arith rfl rfl rfl (Go.IntWalk.i64_in _ (by omega))) ?_
      refine wl (ro_cmp rfl rfl rfl) ?_
      refine wl_nil (x_then (hK26 _ _ ?_))
      clear hK26 K26
      refine wc_cond rfl (fun hc91 => ?_) (fun hc91 => ?_)
      · try simp only [decide_eq_true_eq, decide_eq_false_iff_not, Bool.not_eq_true', Bool.not_eq_false', Bool.not_eq_eq_eq_not, Bool.not_true, Bool.not_false, beq_iff_eq, bne_iff_ne, ne_eq, beq_eq_false_iff_ne, bne_eq_false_iff_eq, gt_iff_lt, ge_iff_le, Int.not_lt, Int.not_le] at hc91
        refine c_reg ?_ -- region 20 ops.go:120
        refine wl_callP rfl en_259 (raise259 (s := mLong)) (fun pv w9 hE => bpp_pan (P := Tryz.prog) (fn := Tryz.f275) (AE.thr hX hF hR.q hE (hze (m := mLong) (by unfold binV; rw [if_pos rfl, if_pos hty, if_pos (by omega)]) rfl))) ?_
        rintro _ _ ⟨⟩
      · try simp only [decide_eq_true_eq, decide_eq_false_iff_not, Bool.not_eq_true', Bool.not_eq_false', Bool.not_eq_eq_eq_not, Bool.not_true, Bool.not_false, beq_iff_eq, bne_iff_ne, ne_eq, beq_eq_false_iff_ne, bne_eq_false_iff_eq, gt_iff_lt, ge_iff_le, Int.not_lt, Int.not_le] at hc91
        refine c_skip (x_then (hK25 _ _ ?_))
        clear hK25 K25
        refine c_reg ?_ -- region 21 ops.go:122
        refine wl (ro_move rfl) ?_
        refine wl (ro_move rfl) ?_
        refine wl (ro_catS rfl rfl (by omega)) ?_
        refine wl (ro_build rfl bld_119_0_2) ?_
        refine wl_puta rfl rfl ((pvc_one (vStr (txV p ++ txV q)))) sz_119 (rfl) h9 ((by simp)) (rfl) (fun w22 h9 F22 => ?_)
        replace hF := hF.thenDrew.thenO F22 (by first | exact .inr (by omega) | exact .inl rfl | exact .inl (by assumption) | assumption)
        replace hR := hR.hbput ((Fram.refl (one b9) _).thenDrew.thenO F22 (.inl rfl))
        replace h8 := F22.blkO h8 (by first | omega | exact ow_ne (by assumption) (by assumption) (by omega))
        replace h16 := F22.blkO h16 (by first | omega | exact ow_ne (by assumption) (by assumption) (by omega))
        refine wl_nil (x_blk (x_then (hK3 _ _ ?_)))
        clear hK3 K3
        refine c_reg ?_ -- region 36 ops.go:139
        refine wl (ro_move rfl) ?_
        refine wl (ro_loadAggB rfl ag_119 (h9) rfl rfl) ?_
        refine wl_pu (vs := [vStr (txV p ++ txV q)]) (eo_bsV1 rfl se_83 zx_119) rfl hR.dr hc rfl (by show l.length + 1 ≤ 300; omega) ?_
        intro u23 ow23 x23 f23 r23
        obtain ⟨h8, kh8⟩ := vm_loc x23 f23 h8 kh8
        obtain ⟨h9, kh9⟩ := vm_loc x23 f23 h9 kh9
        obtain ⟨h16, kh16⟩ := vm_loc x23 f23 h16 kh16
        have hs23 := hF.size
        replace hF := vm_trans hX hF f23
        replace hX := hX.trans hs23 x23
        replace hR := r23
        refine wl_nil ?_
        refine bpp_end Tryz.results275 rfl ?_
        exact ⟨_, by unfold binV; rw [if_pos rfl, if_pos hty, if_neg (by omega)], rfl, _, hX, hF, hR⟩
set_option maxHeartbeats 8000000 in
theorem oper_18 (hR : AM C fg fc w ow (mkA a y gs g vars)) (hc : a.cur < a.ths.length) {x : Nat} {q : PV} {l : List PV} (ha : VV c1 c2 a.tabs.length q) (ho : g.ops = q :: l) (hol : g.ops.length ≤ 131) {z : AS} (hz : ∀ m, unV a.tabs 2 q = .error m → z = araise m (mkA a y gs g vars)) :
    RetP Tryz.prog 275 [ptr C.E.mb, tptr C a.cur, u8n 18, i64c x] w (OpR C fg fc w ow a y gs g vars (unV a.tabs 2 q) l) (AE C (kH a) w ow z) := by
  have hX : Xt w ow ow := Xt.refl _ _
  have hF : Fram (tg ow vtT) w w := Fram.refl _ _
  have hze : ∀ {m : Str} {g' : AFr}, unV a.tabs 2 q = .error m → g'.prot = g.prot → athrow (vStr m) (mkA a y gs g' vars) = z := fun h h2 => (athrow_top hc _ h2).trans (hz _ h).symm
  have hll : l.length ≤ 130 := by rw [ho] at hol; simp at hol; omega
  have hpa := wf_f ha.wf ha.w
  refine retp_of Tryz.func275 rfl Tryz.ntmps275 rfl ?_
  refine c_seq (fun K1 hK1 => ?_)
  refine c_reg ?_ -- region 0 ops.go:99
  refine wl (ro_move rfl) ?_
  refine wl_call rfl en_244 (popA hR.dr hc ho (by omega)) ?_
  rintro _ u1 ⟨rfl, ow1, x1, f1, r1⟩
  have hs1 := hF.size
  replace hF := vm_trans hX hF f1
  replace hX := hX.trans hs1 x1
  replace hR := r1
  refine wl_new (ze_119) (fun b8 w2 hbb8 h8 F2 => ?_)
  have hbsb8 := Nat.le_trans hF.size hbb8
  have kh8 := hR.df b8 hbb8
  replace hF := hF.thenDrew.thenN F2
  replace hR := hR.thruN ((Fram.refl none' _).thenDrew.thenN F2)
  refine wl_puta rfl rfl ((pvc_one _)) sz_119 (rfl) h8 ((by simp)) (rfl) (fun w3 h8 F3 => ?_)
  replace hF := hF.thenDrew.thenO F3 (by first | exact .inr (by omega) | exact .inl rfl | exact .inl (by assumption) | assumption)
  replace hR := hR.hbput ((Fram.refl (one b8) _).thenDrew.thenO F3 (.inl rfl))
  refine wl_nil (x_then (hK1 _ _ ?_))
  clear hK1 K1
  refine forget [(0, _), (1, _), (2, _), (3, _), (8, _)] ⟨rfl, rfl, rfl, rfl, rfl, trivial⟩ (fun e => ?_)
  refine c_seq (fun K2 hK2 => ?_)
  refine c_reg ?_ -- region 1 ops.go:100
  refine wl_new (ze_119) (fun b9 w4 hbb9 h9 F4 => ?_)
  have hbsb9 := Nat.le_trans hF.size hbb9
  have hneb8b9 : b8 < b9 := Nat.lt_of_lt_of_le h8.lt hbb9
  have kh9 := hR.df b9 hbb9
  replace hF := hF.thenDrew.thenN F4
  replace hR := hR.thruN ((Fram.refl none' _).thenDrew.thenN F4)
  replace h8 := F4.blkN h8
  refine wl_nil (x_then (hK2 _ _ ?_))
  clear hK2 K2
  refine c_seq (fun K3 hK3 => ?_)
  refine c_seq (fun K4 hK4 => ?_)
  refine c_reg ?_ -- region 2 ops.go:101
  refine wl (ro_move rfl) ?_
  refine wl_nil (x_then (hK4 _ _ ?_))
  clear hK4 K4
  refine c_block ?_
  refine forget [(0, _), (1, _), (3, _), (8, _), (9, _), (27, _)] ⟨rfl, rfl, rfl, rfl, rfl, rfl, trivial⟩ (fun e => ?_)
  refine c_seq (fun K5 hK5 => ?_)
  refine c_reg ?_ -- region 3 ops.go:102
  refine wl (ro_cmp rfl rfl rfl) ?_
  refine wl (ro_assign rfl) ?_
  refine wl_nil (x_then (hK5 _ _ ?_))
  clear hK5 K5
  refine wc_condF rfl ?_
  refine c_seq (fun K6 hK6 => ?_)
  refine c_reg ?_ -- region 9 ops.go:108
  refine wl (ro_cmp rfl rfl rfl) ?_
  refine wl (ro_assign rfl) ?_
  refine wl_nil (x_then (hK6 _ _ ?_))
  clear hK6 K6
  refine wc_condF rfl ?_
  refine c_seq (fun K7 hK7 => ?_)
  refine c_reg ?_ -- region 13 ops.go:112
  refine wl (ro_cmp rfl rfl rfl) ?_
  refine wl (ro_assign rfl) ?_
  refine wl_nil (x_then (hK7 _ _ ?_))
  clear hK7 K7
  refine wc_condF rfl ?_
  refine c_seq (fun K8 hK8 => ?_)
  refine c_reg ?_ -- region 22 ops.go:123
  refine wl (ro_cmp rfl rfl rfl) ?_
  refine wl (ro_assign rfl) ?_
  refine wl_nil (x_then (hK8 _ _ ?_))
  clear hK8 K8
  refine wc_condT rfl ?_
  refine c_seq (fun K9 hK9 => ?_)
  refine c_reg ?_ -- region 23 ops.go:124
  refine wl (ro_loadAggB rfl ag_119 (by assumption) rfl rfl) ?_
  refine wl_call rfl en_62 (Truthy62 hpa) ?_
  rintro _ w5 ⟨rfl, F5⟩
  replace hF := hF.thenDrew.thenN F5
  replace hR := hR.thruN ((Fram.refl none' _).thenDrew.thenN F5)
  replace h8 := F5.blkN h8
  replace h9 := F5.blkN h9
  refine wl (ro_assign rfl) ?_
  refine wl_nil (x_then (hK9 _ _ ?_))
  clear hK9 K9
  refine c_reg ?_ -- region 24 ops.go:125
  refine wl (ro_move rfl) ?_
  refine wl (ro_not rfl) ?_
  refine wl_call rfl en_91 (Bool91 (b := !trV q)) ?_
  rintro _ w6 ⟨rfl, F6⟩
  replace hF := hF.thenDrew.thenN F6
  replace hR := hR.thruN ((Fram.refl none' _).thenDrew.thenN F6)
  replace h8 := F6.blkN h8
  replace h9 := F6.blkN h9
  refine wl_puta rfl rfl ((pvc_one (vBool (!trV q)))) sz_119 (rfl) h9 ((by simp)) (rfl) (fun w7 h9 F7 => ?_)
  replace hF := hF.thenDrew.thenO F7 (by first | exact .inr (by omega) | exact .inl rfl | exact .inl (by assumption) | assumption)
  replace hR := hR.hbput ((Fram.refl (one b9) _).thenDrew.thenO F7 (.inl rfl))
  replace h8 := F7.blkO h8 (by first | omega | exact ow_ne (by assumption) (by assumption) (by omega))
  refine wl_nil (x_blk (x_then (hK3 _ _ ?_)))
  clear hK3 K3
  refine c_reg ?_ -- region 36 ops.go:139
  refine wl (ro_move rfl) ?_
  refine wl (ro_loadAggB rfl ag_119 (h9) rfl rfl) ?_
  refine wl_pu (vs := [vBool (!trV q)]) (eo_bsV1 rfl se_83 zx_119) rfl hR.dr hc rfl (by show l.length + 1 ≤ 300; omega) ?_
  intro u8 ow8 x8 f8 r8
  obtain ⟨h8, kh8⟩ := vm_loc x8 f8 h8 kh8
  obtain ⟨h9, kh9⟩ := vm_loc x8 f8 h9 kh9
  have hs8 := hF.size
  replace hF := vm_trans hX hF f8
  replace hX := hX.trans hs8 x8
  replace hR := r8
  refine wl_nil ?_
  refine bpp_end Tryz.results275 rfl ?_
  exact ⟨_, rfl, rfl, _, hX, hF, hR⟩
set_option maxHeartbeats 8000000 in
theorem oper_19 (hR : AM C fg fc w ow (mkA a y gs g vars)) (hc : a.cur < a.ths.length) {x : Nat} {q : PV} {l : List PV} (ha : VV c1 c2 a.tabs.length q) (ho : g.ops = q :: l) (hol : g.ops.length ≤ 131) {z : AS} (hz : ∀ m, unV a.tabs 1 q = .error m → z = araise m (mkA a y gs g vars)) :
    RetP Tryz.prog 275 [ptr C.E.mb, tptr C a.cur, u8n 19, i64c x] w (OpR C fg fc w ow a y gs g vars (unV a.tabs 1 q) l) (AE C (kH a) w ow z) := by
  have hX : Xt w ow ow := Xt.refl _ _
  have hF : Fram (tg ow vtT) w w := Fram.refl _ _
  have hze : ∀ {m : Str} {g' : AFr}, unV a.tabs 1 q = .error m → g'.prot = g.prot → athrow (vStr m) (mkA a y gs g' vars) = z := fun h h2 => (athrow_top hc _ h2).trans (hz _ h).symm
  have hll : l.length ≤ 130 := by rw [ho] at hol; simp at hol; omega
  have hpa := wf_f ha.wf ha.w
  refine retp_of Tryz.func275 rfl Tryz.ntmps275 rfl ?_
  refine c_seq (fun K1 hK1 => ?_)
  refine c_reg ?_ -- region 0 ops.go:99
  refine wl (ro_move rfl) ?_
  refine wl_call rfl en_244 (popA hR.dr hc ho (by omega)) ?_
  rintro _ u1 ⟨rfl, ow1, x1, f1, r1⟩
  have hs1 := hF.size
  replace hF := vm_trans hX hF f1
  replace hX := hX.trans hs1 x1
  replace hR := r1
  refine wl_new (ze_119) (fun b8 w2 hbb8 h8 F2 => ?_)
  have hbsb8 := Nat.le_trans hF.size hbb8
  have kh8 := hR.df b8 hbb8
  replace hF := hF.thenDrew.thenN F2
  replace hR := hR.thruN ((Fram.refl none' _).thenDrew.thenN F2)
  refine wl_puta rfl rfl ((pvc_one _)) sz_119 (rfl) h8 ((by simp)) (rfl) (fun w3 h8 F3 => ?_)
  replace hF := hF.thenDrew.thenO F3 (by first | exact .inr (by omega) | exact .inl rfl | exact .inl (by assumption) | assumption)
  replace hR := hR.hbput ((Fram.refl (one b8) _).thenDrew.thenO F3 (.inl rfl))
  refine wl_nil (x_then (hK1 _ _ ?_))
  clear hK1 K1
  refine forget [(0, _), (1, _), (2, _), (3, _), (8, _)] ⟨rfl, rfl, rfl, rfl, rfl, trivial⟩ (fun e => ?_)
  refine c_seq (fun K2 hK2 => ?_)
  refine c_reg ?_ -- region 1 ops.go:100
  refine wl_new (ze_119) (fun b9 w4 hbb9 h9 F4 => ?_)
  have hbsb9 := Nat.le_trans hF.size hbb9
  have hneb8b9 : b8 < b9 := Nat.lt_of_lt_of_le h8.lt hbb9
  have kh9 := hR.df b9 hbb9
  replace hF := hF.thenDrew.thenN F4
  replace hR := hR.thruN ((Fram.refl none' _).thenDrew.thenN F4)
  replace h8 := F4.blkN h8
  refine wl_nil (x_then (hK2 _ _ ?_))
  clear hK2 K2
  refine c_seq (fun K3 hK3 => ?_)
  refine c_seq (fun K4 hK4 => ?_)
  refine c_reg ?_ -- region 2 ops.go:101
  refine wl (ro_move rfl) ?_
  refine wl_nil (x_then (hK4 _ _ ?_))
  clear hK4 K4
  refine c_block ?_
  refine forget [(0, _), (1, _), (3, _), (8, _), (9, _), (27, _)] ⟨rfl, rfl, rfl, rfl, rfl, rfl, trivial⟩ (fun e => ?_)
  refine c_seq (fun K5 hK5 => ?_)
  refine c_reg ?_ -- region 3 ops.go:102
  refine wl (ro_cmp rfl rfl rfl) ?_
  refine wl (ro_assign rfl) ?_
  refine wl_nil (x_then (hK5 _ _ ?_))
  clear hK5 K5
  refine wc_condF rfl ?_
  refine c_seq (fun K6 hK6 => ?_)
  refine c_reg ?_ -- region 9 ops.go:108
  refine wl (ro_cmp rfl rfl rfl) ?_
  refine wl (ro_assign rfl) ?_
  refine wl_nil (x_then (hK6 _ _ ?_))
  clear hK6 K6
  refine wc_condF rfl ?_
  refine c_seq (fun K7 hK7 => ?_)
  refine c_reg ?_ -- region 13 ops.go:112
  refine wl (ro_cmp rfl rfl rfl) ?_
  refine wl (ro_assign rfl) ?_
  refine wl_nil (x_then (hK7 _ _ ?_))
  clear hK7 K7
  refine wc_condF rfl ?_
  refine c_seq (fun K8 hK8 => ?_)
  refine c_reg ?_ -- region 22 ops.go:123
  refine wl (ro_cmp rfl rfl rfl) ?_
  refine wl (ro_assign rfl) ?_
  refine wl_nil (x_then (hK8 _ _ ?_))
  clear hK8 K8
  refine wc_condF rfl ?_
  refine c_seq (fun K9 hK9 => ?_)
  refine c_reg ?_ -- region 25 ops.go:126
  refine wl (ro_cmp rfl rfl rfl) ?_
  refine wl (ro_assign rfl) ?_
  refine wl_nil (x_then (hK9 _ _ ?_))
  clear hK9 K9
  refine wc_condT rfl ?_
  refine c_seq (fun K10 hK10 => ?_)
  refine c_reg ?_ -- region 26 ops.go:127
  refine wl (ro_loadAggB rfl ag_119 (by assumption) rfl rfl) ?_
  refine wl_callP rfl en_290 (numOf290 (v := q) (s := mArith)) (fun pv w9 hE => bpp_pan (P := Tryz.prog) (fn := Tryz.f275) (AE.thr hX hF hR.q hE.2 (hze (m := mArith) (by unfold unV; rw [if_neg (by decide), if_pos rfl, if_neg hE.1]) rfl))) ?_
  rintro _ w5 ⟨rfl, hq5, F5⟩
  replace hF := hF.thenDrew.thenN F5
  replace hR := hR.thruN ((Fram.refl none' _).thenDrew.thenN F5)
  replace h8 := F5.blkN h8
  replace h9 := F5.blkN h9
  have hq2 := hq5
  refine wl (ro_assign rfl) ?_
  refine wl_nil (x_then (hK10 _ _ ?_))
  clear hK10 K10
  refine forget [(0, _), (1, _), (9, _), (20, _)] ⟨rfl, rfl, rfl, rfl, trivial⟩ (fun e => ?_)
  refine c_seq (fun K11 hK11 => ?_)
  obtain ⟨lM, hM, m0, m1⟩ := hR.rz
  refine c_reg ?_ -- region 27 ops.go:128
  refine wl (ro_move rfl) ?_
  refine wl (ro_nilCheck rfl) ?_
  refine wl (ro_fieldAddr (k := 0) rfl fo_89_0) ?_
  refine wl (ro_loadB rfl sc_36 (hM) (m0)) ?_
  refine wl (ro_move rfl) ?_
  refine wl_call rfl en_293 (Neg293 ha.w) ?_
  rintro _ u0 ⟨rfl, hw0⟩
  rw [hw0]
  clear hw0 u0
  refine wl (ro_assign rfl) ?_
  refine wl_nil (x_then (hK11 _ _ ?_))
  clear hK11 K11
  refine c_reg ?_ -- region 28 ops.go:129
  refine wl (ro_move rfl) ?_
  refine wl (ro_build rfl bld_119_0_1) ?_
  refine wl_puta rfl rfl ((pvc_one (vNum (fNeg q.N)))) sz_119 (rfl) h9 ((by simp)) (rfl) (fun w6 h9 F6 => ?_)
  replace hF := hF.thenDrew.thenO F6 (by first | exact .inr (by omega) | exact .inl rfl | exact .inl (by assumption) | assumption)
  replace hR := hR.hbput ((Fram.refl (one b9) _).thenDrew.thenO F6 (.inl rfl))
  replace h8 := F6.blkO h8 (by first | omega | exact ow_ne (by assumption) (by assumption) (by omega))
  refine wl_nil (x_blk (x_then (hK3 _ _ ?_)))
  clear hK3 K3
  refine c_reg ?_ -- region 36 ops.go:139
  refine wl (ro_move rfl) ?_
  refine wl (ro_loadAggB rfl ag_119 (h9) rfl rfl) ?_
  refine wl_pu (vs := [vNum (fNeg q.N)]) (eo_bsV1 rfl se_83 zx_119) rfl hR.dr hc rfl (by show l.length + 1 ≤ 300; omega) ?_
  intro u7 ow7 x7 f7 r7
  obtain ⟨h8, kh8⟩ := vm_loc x7 f7 h8 kh8
  obtain ⟨h9, kh9⟩ := vm_loc x7 f7 h9 kh9
  have hs7 := hF.size
  replace hF := vm_trans hX hF f7
  replace hX := hX.trans hs7 x7
  replace hR := r7
  refine wl_nil ?_
  refine bpp_end Tryz.results275 rfl ?_
  exact ⟨_, by unfold unV; rw [if_neg (by decide), if_pos rfl, if_pos hq2], rfl, _, hX, hF, hR⟩
set_option maxHeartbeats 8000000 in
theorem oper_20 (hR : AM C fg fc w ow (mkA a y gs g vars)) (hc : a.cur < a.ths.length) {x : Nat} {q : PV} {l : List PV} (ha : VV c1 c2 a.tabs.length q) (ho : g.ops = q :: l) (hol : g.ops.length ≤ 131) {z : AS} (hz : ∀ m, unV a.tabs 3 q = .error m → z = araise m (mkA a y gs g vars)) :
    RetP Tryz.prog 275 [ptr C.E.mb, tptr C a.cur, u8n 20, i64c x] w (OpR C fg fc w ow a y gs g vars (unV a.tabs 3 q) l) (AE C (kH a) w ow z) := by
  have hX : Xt w ow ow := Xt.refl _ _
  have hF : Fram (tg ow vtT) w w := Fram.refl _ _
  have hze : ∀ {m : Str} {g' : AFr}, unV a.tabs 3 q = .error m → g'.prot = g.prot → athrow (vStr m) (mkA a y gs g' vars) = z := fun h h2 => (athrow_top hc _ h2).trans (hz _ h).symm
  have hll : l.length ≤ 130 := by rw [ho] at hol; simp at hol; omega
  have hpa := wf_f ha.wf ha.w
  have hwl := wf_len ha.wf
  have htN : q.T = 4 → q.N < a.tabs.length := ha.tb
  have ht32 : q.T = 4 → q.N < 4294967296 := fun h => wf_idx ha.wf (.inl h)
  refine retp_of Tryz.func275 rfl Tryz.ntmps275 rfl ?_
  refine c_seq (fun K1 hK1 => ?_)
  refine c_reg ?_ -- region 0 ops.go:99
  refine wl (ro_move rfl) ?_
  refine wl_call rfl en_244 (popA hR.dr hc ho (by omega)) ?_
  rintro _ u1 ⟨rfl, ow1, x1, f1, r1⟩
  have hs1 := hF.size
  replace hF := vm_trans hX hF f1
  replace hX := hX.trans hs1 x1
  replace hR := r1
  refine wl_new (ze_119) (fun b8 w2 hbb8 h8 F2 => ?_)
  have hbsb8 := Nat.le_trans hF.size hbb8
  have kh8 := hR.df b8 hbb8
  replace hF := hF.thenDrew.thenN F2
  replace hR := hR.thruN ((Fram.refl none' _).thenDrew.thenN F2)
  refine wl_puta rfl rfl ((pvc_one _)) sz_119 (rfl) h8 ((by simp)) (rfl) (fun w3 h8 F3 => ?_)
  replace hF := hF.thenDrew.thenO F3 (by first | exact .inr (by omega) | exact .inl rfl | exact .inl (by assumption) | assumption)
  replace hR := hR.hbput ((Fram.refl (one b8) _).thenDrew.thenO F3 (.inl rfl))
  refine wl_nil (x_then (hK1 _ _ ?_))
  clear hK1 K1
  refine forget [(0, _), (1, _), (2, _), (3, _), (8, _)] ⟨rfl, rfl, rfl, rfl, rfl, trivial⟩ (fun e => ?_)
  refine c_seq (fun K2 hK2 => ?_)
  refine c_reg ?_ -- region 1 ops.go:100
  refine wl_new (ze_119) (fun b9 w4 hbb9 h9 F4 => ?_)
  have hbsb9 := Nat.le_trans hF.size hbb9
  have hneb8b9 : b8 < b9 := Nat.lt_of_lt_of_le h8.lt hbb9
  have kh9 := hR.df b9 hbb9
  replace hF := hF.thenDrew.thenN F4
  replace hR := hR.thruN ((Fram.refl none' _).thenDrew.thenN F4)
  replace h8 := F4.blkN h8
  refine wl_nil (x_then (hK2 _ _ ?_))
  clear hK2 K2
  refine c_seq (fun K3 hK3 => ?_)
  refine c_seq (fun K4 hK4 => ?_)
  refine c_reg ?_ -- region 2 ops.go:101
  refine wl (ro_move rfl) ?_
  refine wl_nil (x_then (hK4 _ _ ?_))
  clear hK4 K4
  refine c_block ?_
  refine forget [(0, _), (1, _), (3, _), (8, _), (9, _), (27, _)] ⟨rfl, rfl, rfl, rfl, rfl, rfl, trivial⟩ (fun e => ?_)
  refine c_seq (fun K5 hK5 => ?_)
  refine c_reg ?_ -- region 3 ops.go:102
  refine wl (ro_cmp rfl rfl rfl) ?_
  refine wl (ro_assign rfl) ?_
  refine wl_nil (x_then (hK5 _ _ ?_))
  clear hK5 K5
  refine wc_condF rfl ?_
  refine c_seq (fun K6 hK6 => ?_)
  refine c_reg ?_ -- region 9 ops.go:108
  refine wl (ro_cmp rfl rfl rfl) ?_
  refine wl (ro_assign rfl) ?_
  refine wl_nil (x_then (hK6 _ _ ?_))
  clear hK6 K6
  refine wc_condF rfl ?_
  refine c_seq (fun K7 hK7 => ?_)
  refine c_reg ?_ -- region 13 ops.go:112
  refine wl (ro_cmp rfl rfl rfl) ?_
  refine wl (ro_assign rfl) ?_
  refine wl_nil (x_then (hK7 _ _ ?_))
  clear hK7 K7
  refine wc_condF rfl ?_
  refine c_seq (fun K8 hK8 => ?_)
  refine c_reg ?_ -- region 22 ops.go:123
  refine wl (ro_cmp rfl rfl rfl) ?_
  refine wl (ro_assign rfl) ?_
  refine wl_nil (x_then (hK8 _ _ ?_))
  clear hK8 K8
  refine wc_condF rfl ?_
  refine c_seq (fun K9 hK9 => ?_)
  refine c_reg ?_ -- region 25 ops.go:126
  refine wl (ro_cmp rfl rfl rfl) ?_
  refine wl (ro_assign rfl) ?_
  refine wl_nil (x_then (hK9 _ _ ?_))
  clear hK9 K9
  refine wc_condF rfl ?_
  refine c_seq (fun K10 hK10 => ?_)
  refine c_reg ?_ -- region 29 ops.go:130
  refine wl (ro_cmp rfl rfl rfl) ?_
  refine wl (ro_assign rfl) ?_
  refine wl_nil (x_then (hK10 _ _ ?_))
  clear hK10 K10
  refine wc_condT rfl ?_
  refine c_seq (fun K11 hK11 => ?_)
  refine c_reg ?_ -- region 30 ops.go:131
  refine wl (ro_fieldAddr (k := 2) rfl fo_119_2) ?_
  refine wl (ro_loadB rfl sc_9 (h8) rfl) ?_
  refine wl (ro_lenS rfl st_9) ?_
  refine wl (ro_assign rfl) ?_
  refine wl_nil (x_then (hK11 _ _ ?_))
  clear hK11 K11
  refine c_mid (fun b u => ∃ ow' n, AM C fg fc u ow' (mkA a y gs { g with ops := l } vars) ∧ Xt w ow ow' ∧ Fram (tg ow vtT) w u ∧ Blk u.heap b9 (pvc vNil) 119 ∧ ow' b9 = 66 ∧ n ≤ 100 ∧ unV a.tabs 3 q = .ok (vNum (fInt n)) ∧ ∃ e', b = Fr 147 (upds e' [(0, ptr C.E.mb), (1, tptr C a.cur), (9, ptr b9), (22, i64c n)]) []) ?_ ?_
  · skip
    refine c_seq (fun K12 hK12 => ?_)
    refine c_reg ?_ -- region 31 ops.go:132
    refine wl (ro_fieldAddr (k := 0) rfl fo_119_0) ?_
    refine wl (ro_loadB rfl sc_3 (h8) rfl) ?_
    refine wl (ro_cmp rfl rfl rfl) ?_
    refine wl_nil (x_then (hK12 _ _ ?_))
    clear hK12 K12
    refine wc_cond rfl (fun hc123 => ?_) (fun hc123 => ?_)
    · try simp only [decide_eq_true_eq, decide_eq_false_iff_not, Bool.not_eq_true', Bool.not_eq_false', Bool.not_eq_eq_eq_not, Bool.not_true, Bool.not_false, beq_iff_eq, bne_iff_ne, ne_eq, beq_eq_false_iff_ne, bne_eq_false_iff_eq, gt_iff_lt, ge_iff_le, Int.not_lt, Int.not_le] at hc123
      refine c_seq (fun K13 hK13 => ?_)
      refine c_reg ?_ -- region 32 ops.go:133
      refine wl (ro_loadAggB rfl ag_119 (by assumption) rfl rfl) ?_
      refine wl_callP rfl en_272 (tabOf272 (v := q) (s := mLen) ht32) (fun pv w9 hE => bpp_pan (P := Tryz.prog) (fn := Tryz.f275) (AE.thr hX hF hR.q hE.2 (hze (m := mLen) (by unfold unV; rw [if_neg (by decide), if_neg (by decide), if_neg hE.1, if_neg (by omega)]) rfl))) ?_
      rintro _ w5 ⟨rfl, hq5, F5⟩
      replace hF := hF.thenDrew.thenN F5
      replace hR := hR.thruN ((Fram.refl none' _).thenDrew.thenN F5)
      replace h8 := F5.blkN h8
      replace h9 := F5.blkN h9
      have hq4 := hq5
      have hlt := htN hq4
      refine wl (ro_assign rfl) ?_
      refine wl_nil (x_then (hK13 _ _ ?_))
      clear hK13 K13
      obtain ⟨lM, hM, m0, m1⟩ := hR.rz
      refine c_reg ?_ -- region 33 ops.go:134
      refine wl (ro_move rfl) ?_
      refine wl (ro_nilCheck rfl) ?_
      refine wl (ro_fieldAddr (k := 1) rfl fo_89_1) ?_
      refine wl (ro_loadB rfl sc_38 (hM) (m1)) ?_
      refine wl (ro_move rfl) ?_
      refine wl_call rfl en_294 (Len294 (h := q.N) (t := a.tabs.getD q.N []) hR.rtab (tbD_at hlt)) ?_
      rintro _ w6 ⟨rfl, F6⟩
      replace hF := hF.thenDrew.thenN F6
      replace hR := hR.thruN ((Fram.refl none' _).thenDrew.thenN F6)
      replace h8 := F6.blkN h8
      replace h9 := F6.blkN h9
      refine wl (ro_move rfl) ?_
      refine wl (ro_extract rfl rfl) ?_
      refine wl (ro_extract rfl rfl) ?_
      refine wl (ro_assign rfl) ?_
      refine wl_nil (x_then ?_)
      exact ⟨_, tLen (a.tabs.getD q.N []), hR, hX, hF, h9, kh9, Nat.le_trans (lenF_le 33 0 (a.tabs.getD q.N [])) (by decide), by unfold unV; rw [if_neg (by decide), if_neg (by decide), if_pos hq4], kp _ ⟨rfl, rfl, rfl, rfl, trivial⟩⟩
    · try simp only [decide_eq_true_eq, decide_eq_false_iff_not, Bool.not_eq_true', Bool.not_eq_false', Bool.not_eq_eq_eq_not, Bool.not_true, Bool.not_false, beq_iff_eq, bne_iff_ne, ne_eq, beq_eq_false_iff_ne, bne_eq_false_iff_eq, gt_iff_lt, ge_iff_le, Int.not_lt, Int.not_le] at hc123
      refine c_skip (x_then ?_)
      exact ⟨_, q.S.length, hR, hX, hF, h9, kh9, by omega, by unfold unV; rw [if_neg (by decide), if_neg (by decide), if_neg (by omega), if_pos (by omega)], kp _ ⟨rfl, rfl, rfl, rfl, trivial⟩⟩
  clear hR hX hF h9 kh9
  rintro b u ⟨ow', n, hR, hX, hF, h9, kh9, hn, hun, e', rfl⟩
  refine c_seq (fun K14 hK14 => ?_)
  obtain ⟨lM, hM, m0, m1⟩ := hR.rz
  refine c_reg ?_ -- region 34 ops.go:136
  refine wl (ro_move rfl) ?_
  refine wl (ro_nilCheck rfl) ?_
  refine wl (ro_fieldAddr (k := 0) rfl fo_89_0) ?_
  refine wl (ro_loadB rfl sc_36 (hM) (m0)) ?_
  refine wl (ro_move rfl) ?_
  refine wl_call rfl en_249 (FromInt249) ?_
  rintro _ u0 ⟨rfl, hw0⟩
  rw [hw0]
  clear hw0 u0
  refine wl (ro_assign rfl) ?_
  refine wl_nil (x_then (hK14 _ _ ?_))
  clear hK14 K14
  refine c_reg ?_ -- region 35 ops.go:137
  refine wl (ro_move rfl) ?_
  refine wl (ro_build rfl bld_119_0_1) ?_
  refine wl_puta rfl rfl ((pvc_one (vNum (fInt n)))) sz_119 (rfl) h9 ((by simp)) (rfl) (fun w7 h9 F7 => ?_)
  replace hF := hF.thenDrew.thenO F7 (by first | exact .inr (by omega) | exact .inl rfl | exact .inl (by assumption) | assumption)
  replace hR := hR.hbput ((Fram.refl (one b9) _).thenDrew.thenO F7 (.inl rfl))
  refine wl_nil (x_blk (x_then (hK3 _ _ ?_)))
  clear hK3 K3
  refine c_reg ?_ -- region 36 ops.go:139
  refine wl (ro_move rfl) ?_
  refine wl (ro_loadAggB rfl ag_119 (h9) rfl rfl) ?_
  refine wl_pu (vs := [vNum (fInt n)]) (eo_bsV1 rfl se_83 zx_119) rfl hR.dr hc rfl (by show l.length + 1 ≤ 300; omega) ?_
  intro u8 ow8 x8 f8 r8
  obtain ⟨h9, kh9⟩ := vm_loc x8 f8 h9 kh9
  have hs8 := hF.size
  replace hF := vm_trans hX hF f8
  replace hX := hX.trans hs8 x8
  replace hR := r8
  refine wl_nil ?_
  refine bpp_end Tryz.results275 rfl ?_
  exact ⟨_, hun, rfl, _, hX, hF, hR⟩
end
end Go.Proofs.Qxb6500568aGreatDoor
