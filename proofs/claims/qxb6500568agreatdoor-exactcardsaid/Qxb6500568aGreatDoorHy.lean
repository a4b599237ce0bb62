import Derived.Test.Qxb6500568aGreatDoorHx
/- The machine: builtins, the stack's length told. -/
namespace Go.Proofs.Qxb6500568aGreatDoor
open Ieee
set_option linter.unusedVariables false
set_option linter.unusedSimpArgs false
set_option linter.unusedSectionVars false

section
variable {C : VC} {w u1 u2 : World} {ow : Nat → Nat} {s : AS} {fg fc n : Nat} {a0 a1 a2 : PV} {ab ao : Nat} {V : VS} {κ : List Nat} {e fuel : Nat} {out : Str} {T : List Tb} {Vv : Nat → Value} {U : Nat → Nat → Value} {L : VL}
theorem spawnN {fn : Nat} (hR : AN C fg fc n w ow s) (hc : s.cur < s.ths.length) (h5 : s.ths.length < 5) : Ret Tryz.prog 88 [ptr C.E.mb, i64c fn] w (NR C fg fc n w ow (i64c s.ths.length) { s with ths := s.ths ++ [⟨1, fn, []⟩] }) := by
  obtain ⟨V, κ, Vv, U, h1, h2, h3, x, hx, hxn⟩ := hR
  have hl := h2.r.tlen
  refine (spawnV (fn := fn) h1 (by omega)).mono ?_
  rintro r w' ⟨rfl, fr, U', h4, h5⟩
  obtain ⟨L, op, vl⟩ := h1.ex
  refine ⟨by rw [hl], ow, Xt.refl _ _, fr.mono (fun b _ z => ?_), _, κ, Vv, U', h4, h2.spawn fn, ?_, x, ?_, hxn⟩
  · left
    show vmT (ow b)
    rcases z with z | z
    · rw [z, op.tm]; unfold vmT; omega
    · rw [z, op.tt]; unfold vmT; omega
  · show U' s.cur 3 = _
    rw [h5 s.cur (by omega), h3]
    unfold AS.th
    rw [List.getD_eq_getElem?_getD, List.getD_eq_getElem?_getD, List.getElem?_append_left hc]
  · show (V.ths ++ _)[s.cur]? = _
    rw [List.getElem?_append_left (by omega)]
    exact hx
theorem outN (h1 : VW C w ow V 0 s.fuel s.out s.tabs Vv U) (z1 : RZ (Psf C.F) V s κ) (q1 : U s.cur 3 = .slice (some ⟨fg, 0, none⟩) s.th.frs.length fc) (xk : ∃ x, V.ths[s.cur]? = some x ∧ x.stack.length = n) (op : VOp C.E w ow L Vv U) (vl : VSL C.F L V s.fuel s.out 0) {o' : Str} {v' : Value} (hon : Own u1.heap v' 5 1 o'.length (o'.map u8c)) (G1 : Fram (own1 (Vv 11)) w u1) (hnb : nob (Vv 11) v' w) (fr : Fram (one C.E.mb) u1 u2) (hB : Blk u2.heap C.E.mb (mbc C.E (up1 Vv 11 v') L) 89) :
    ∃ ow', Xt w ow ow' ∧ Fram (tg ow vtT) w u2 ∧ AN C fg fc n u2 ow' { s with out := o' } := by
  obtain ⟨ow1, x1, f1, hv1⟩ := h1.grA op (i := 11) (.inr rfl) (by decide) hon G1 hnb fr hB (vl.outT o') h1.cb h1.eb
  refine ⟨ow1, x1, f1.mono (fun b _ z => ?_), V, κ, _, U, hv1, z1.same rfl rfl rfl, q1, xk⟩
  left
  show vmT (ow b)
  rcases z with z | z
  · rw [z, op.tm]; unfold vmT; omega
  · rw [z]; unfold vmT; omega
set_option maxHeartbeats 4000000 in
theorem nSta (hR : AN C fg fc n w ow s) (hA : WinB w ab ao (rws pvc [a0, a1, a2])) (hn : a0.T = 7 → a0.N < s.ths.length) (h5 : s.ths.length ≤ 5) {z : AS} (hz : a0.T ≠ 7 → z = araise mCo s) :
    RetP Tryz.prog 267 [ptr C.E.mb, apt ab ao] w (fun r w' => a0.T = 7 ∧ NR C fg fc n w ow (.tuple #[pv (vStr (stName (s.ths.getD a0.N ATh.zero).st)), pv vNil]) s r w') (AE C (kH s) w ow z) := by
  have hlt := hR.lt
  have hX : Xt w ow ow := Xt.refl _ _
  have hF : Fram (tg ow vtT) w w := Fram.refl _ _
  obtain ⟨l, lt, hB5, hA⟩ := hA
  obtain ⟨r0, r1, r2⟩ := win_row hA
  by_cases h7 : a0.T = 7
  · have hn := hn h7
    obtain ⟨lM, lT, hM, e9, hT, e0⟩ := hR.am.stA hn
    refine retp_of Tryz.func267 rfl Tryz.ntmps267 rfl ?_
    refine c_seq (fun K1 hK1 => ?_)
    refine c_reg ?_ -- region 0 call.go:166
    refine wl_new (ze_119) (fun b4 w1 hbb4 h4 F1 => ?_)
    have hneabb4 : ab < b4 := Nat.lt_of_lt_of_le hB5.lt hbb4
    have hneC.E.mbb4 : C.E.mb < b4 := Nat.lt_of_lt_of_le hM.lt hbb4
    have hneC.E.tbb4 : C.E.tb < b4 := Nat.lt_of_lt_of_le hT.lt hbb4
    have hbsb4 := Nat.le_trans hF.size hbb4
    have kh4 := hR.df b4 hbb4
    replace hB5 := F1.blkN hB5
    replace hM := F1.blkN hM
    replace hT := F1.blkN hT
    replace hF := hF.thenDrew.thenN F1
    replace hR := hR.thruN ((Fram.refl none' _).thenDrew.thenN F1)
    refine wl_new (ze_119) (fun b5 w2 hbb5 h5 F2 => ?_)
    have hneabb5 : ab < b5 := Nat.lt_of_lt_of_le hB5.lt hbb5
    have hneC.E.mbb5 : C.E.mb < b5 := Nat.lt_of_lt_of_le hM.lt hbb5
    have hneC.E.tbb5 : C.E.tb < b5 := Nat.lt_of_lt_of_le hT.lt hbb5
    have hbsb5 := Nat.le_trans hF.size hbb5
    have hneb4b5 : b4 < b5 := Nat.lt_of_lt_of_le h4.lt hbb5
    have kh5 := hR.df b5 hbb5
    replace hB5 := F2.blkN hB5
    replace hM := F2.blkN hM
    replace hT := F2.blkN hT
    replace hF := hF.thenDrew.thenN F2
    replace hR := hR.thruN ((Fram.refl none' _).thenDrew.thenN F2)
    replace h4 := F2.blkN h4
    refine wl_nil (x_then (hK1 _ _ ?_))
    clear hK1 K1
    refine c_seq (fun K2 hK2 => ?_)
    refine c_seq (fun K3 hK3 => ?_)
    refine c_reg ?_ -- region 1 call.go:167
    refine wl (ro_move rfl) ?_
    refine wl (ro_nilCheck rfl) ?_
    refine wl (ro_indexAddrA (et := 119) (k := 3) rfl rfl ar_225 (rfl) ((by decide))) ?_
    refine wl (ro_fieldAddr (k := 0) rfl fo_119_0) ?_
    refine wl (ro_loadB rfl sc_3 (hB5) (row_get r0 (by decide))) ?_
    refine wl (ro_cmp (r := false) rfl rfl (by rw [h7]; rfl)) ?_
    refine wl_nil (x_then (hK3 _ _ ?_))
    clear hK3 K3
    refine wc_condF rfl ?_
    refine c_skip (x_then (hK2 _ _ ?_))
    clear hK2 K2
    refine forget [(0, _), (1, _), (4, _), (5, _)] ⟨rfl, rfl, rfl, rfl, trivial⟩ (fun e => ?_)
    refine c_seq (fun K4 hK4 => ?_)
    refine c_pi [(0, false), (1, false), (2, false), (3, false), (4, false), (5, false), (6, false), (7, false), (8, false), (9, false), (10, false), (11, false), (12, true), (13, false)] (La ab _ _ (La C.E.mb _ _ (La C.E.tb _ _ (La b4 _ _ (La b5 _ _ (Mz C)))))) mixed (by kernel_rfl) rfl (by kernel_rfl) (po_then (po_bpp)) (⟨hB5, hM, hT, h4, h5, hR.rz⟩) ?_ -- region 3 call.go:170
    refine pi_ro rfl (fun w hS => ro_move rfl) ?_
    refine pi_ro rfl (fun w hS => ro_nilCheck rfl) ?_
    refine pi_ro rfl (fun w hS => ro_fieldAddr (k := 9) rfl fo_89_9) ?_
    refine pi_ro rfl (fun w hS => ro_loadB rfl sc_80 (hS.2.1) (e9)) ?_
    refine pi_ro rfl (fun w hS => ro_move rfl) ?_
    refine pi_ro rfl (fun w hS => ro_nilCheck rfl) ?_
    refine pi_ro rfl (fun w hS => ro_indexAddrA (et := 119) (k := 3) rfl rfl ar_225 (rfl) ((by decide))) ?_
    refine pi_ro rfl (fun w hS => ro_fieldAddr (k := 1) rfl fo_119_1) ?_
    refine pi_ro rfl (fun w hS => ro_loadB rfl sc_117 (hS.1) (row_get r0 (by decide))) ?_
    refine pi_ro rfl (fun w hS => ro_indexAddr (et := 269) (k := 5) rfl rfl se_80 (rfl) ((by show a0.N < s.ths.length; omega))) ?_
    refine pi_ro rfl (fun w hS => ro_fieldAddr (k := 0) rfl fo_269_0) ?_
    refine pi_ro rfl (fun w hS => ro_loadB rfl sc_3 (hS.2.2.1) ((by rw [Nat.zero_add]; exact e0))) ?_
    refine pi_call rfl rfl en_121 (StatusName121) ?_
    rintro _ _ ⟨rfl, rfl⟩
    refine ⟨⟨hB5, hM, hT, h4, h5, hR.rz⟩, ?_⟩
    refine pi_ro rfl (fun w hS => ro_assign rfl) ?_
    refine pi_nil (x_then (hK4 _ _ ?_))
    clear hK4 K4
    refine forget [(4, _), (5, _), (6, _)] ⟨rfl, rfl, rfl, trivial⟩ (fun e => ?_)
    refine c_seq (fun K5 hK5 => ?_)
    refine c_reg ?_ -- region 4 call.go:171
    refine wl (ro_move rfl) ?_
    refine wl (ro_build rfl bld_119_0_2) ?_
    refine wl (ro_build rfl bld_119) ?_
    refine wl_puta rfl rfl ((pvc_one (vStr _))) sz_119 (rfl) h4 ((by simp)) (rfl) (fun w3 h4 F3 => ?_)
    replace hB5 := F3.blkO hB5 (by first | omega | exact ow_ne (by assumption) (by assumption) (by omega))
    replace hM := F3.blkO hM (by first | omega | exact ow_ne (by assumption) (by assumption) (by omega))
    replace hT := F3.blkO hT (by first | omega | exact ow_ne (by assumption) (by assumption) (by omega))
    replace hF := hF.thenDrew.thenO F3 (by first | exact .inr (by omega) | exact .inl rfl | exact .inl (by assumption) | assumption)
    replace hR := hR.hbput ((Fram.refl (one b4) _).thenDrew.thenO F3 (.inl rfl))
    replace h5 := F3.blkO h5 (by first | omega | exact ow_ne (by assumption) (by assumption) (by omega))
    refine wl_puta rfl rfl ((pvc_one vNil)) sz_119 (rfl) h5 ((by simp)) (rfl) (fun w4 h5 F4 => ?_)
    replace hB5 := F4.blkO hB5 (by first | omega | exact ow_ne (by assumption) (by assumption) (by omega))
    replace hM := F4.blkO hM (by first | omega | exact ow_ne (by assumption) (by assumption) (by omega))
    replace hT := F4.blkO hT (by first | omega | exact ow_ne (by assumption) (by assumption) (by omega))
    replace hF := hF.thenDrew.thenO F4 (by first | exact .inr (by omega) | exact .inl rfl | exact .inl (by assumption) | assumption)
    replace hR := hR.hbput ((Fram.refl (one b5) _).thenDrew.thenO F4 (.inl rfl))
    replace h4 := F4.blkO h4 (by first | omega | exact ow_ne (by assumption) (by assumption) (by omega))
    refine wl_nil (x_then (hK5 _ _ ?_))
    clear hK5 K5
    refine c_ret ?_
    refine bqp_ret (res2 Tryz.results267 (rv_c rfl ag_119 (h4) (rfl)) (rv_c rfl ag_119 (h5) (rfl))) ?_
    exact ⟨h7, rfl, _, hX, hF, hR⟩
  · have hp0 := h7
    refine retp_of Tryz.func267 rfl Tryz.ntmps267 rfl ?_
    refine c_seq (fun K1 hK1 => ?_)
    refine c_reg ?_ -- region 0 call.go:166
    refine wl_new (ze_119) (fun b4 w1 hbb4 h4 F1 => ?_)
    have hneabb4 : ab < b4 := Nat.lt_of_lt_of_le hB5.lt hbb4
    have hbsb4 := Nat.le_trans hF.size hbb4
    have kh4 := hR.df b4 hbb4
    replace hB5 := F1.blkN hB5
    replace hF := hF.thenDrew.thenN F1
    replace hR := hR.thruN ((Fram.refl none' _).thenDrew.thenN F1)
    refine wl_new (ze_119) (fun b5 w2 hbb5 h5 F2 => ?_)
    have hneabb5 : ab < b5 := Nat.lt_of_lt_of_le hB5.lt hbb5
    have hbsb5 := Nat.le_trans hF.size hbb5
    have hneb4b5 : b4 < b5 := Nat.lt_of_lt_of_le h4.lt hbb5
    have kh5 := hR.df b5 hbb5
    replace hB5 := F2.blkN hB5
    replace hF := hF.thenDrew.thenN F2
    replace hR := hR.thruN ((Fram.refl none' _).thenDrew.thenN F2)
    replace h4 := F2.blkN h4
    refine wl_nil (x_then (hK1 _ _ ?_))
    clear hK1 K1
    refine c_seq (fun K2 hK2 => ?_)
    refine c_seq (fun K3 hK3 => ?_)
    refine c_reg ?_ -- region 1 call.go:167
    refine wl (ro_move rfl) ?_
    refine wl (ro_nilCheck rfl) ?_
    refine wl (ro_indexAddrA (et := 119) (k := 3) rfl rfl ar_225 (rfl) ((by decide))) ?_
    refine wl (ro_fieldAddr (k := 0) rfl fo_119_0) ?_
    refine wl (ro_loadB rfl sc_3 (hB5) (row_get r0 (by decide))) ?_
    refine wl (ro_cmp (r := true) rfl rfl (congrArg some (by simpa using fun h ↦ h7 (by omega)))) ?_
    refine wl_nil (x_then (hK3 _ _ ?_))
    clear hK3 K3
    refine wc_condT rfl ?_
    refine c_reg ?_ -- region 2 call.go:168
    refine wl_callP rfl en_259 (raise259 (s := mCo)) (fun pv w9 hE => bpp_pan (P := Tryz.prog) (fn := Tryz.f267) (AE.thr hX hF hR.q hE ((hz h7).symm))) ?_
    rintro _ _ ⟨⟩
set_option maxHeartbeats 4000000 in
theorem nCre (hR : AN C fg fc n w ow s) (hc : s.cur < s.ths.length) (hA : WinB w ab ao (rws pvc [a0, a1, a2])) (h5 : s.ths.length ≤ 5) (hN : a0.T = 5 → a0.N < 4294967296) {z : AS} (hz : a0.T ≠ 5 → z = araise mCall s) (hz8 : a0.T = 5 → 5 ≤ s.ths.length → ATr 8 s z) :
    RetP Tryz.prog 266 [ptr C.E.mb, apt ab ao] w (fun r w' => (a0.T = 5 ∧ s.ths.length < 5) ∧ NR C fg fc n w ow (.tuple #[pv (vCo s.ths.length), pv vNil]) { s with ths := s.ths ++ [⟨1, a0.N, []⟩] } r w') (AE C (kH s) w ow z) := by
  have hlt := hR.lt
  have hX : Xt w ow ow := Xt.refl _ _
  have hF : Fram (tg ow vtT) w w := Fram.refl _ _
  obtain ⟨l, lt, hB5, hA⟩ := hA
  obtain ⟨r0, r1, r2⟩ := win_row hA
  rcases (by omega : a0.T ≠ 5 ∨ (a0.T = 5 ∧ 5 ≤ s.ths.length) ∨ (a0.T = 5 ∧ s.ths.length < 5)) with h7 | h7 | h7
  · have hp0 := h7
    refine retp_of Tryz.func266 rfl Tryz.ntmps266 rfl ?_
    refine c_seq (fun K1 hK1 => ?_)
    refine c_reg ?_ -- region 0 call.go:155
    refine wl_new (ze_119) (fun b4 w1 hbb4 h4 F1 => ?_)
    have hneabb4 : ab < b4 := Nat.lt_of_lt_of_le hB5.lt hbb4
    have hbsb4 := Nat.le_trans hF.size hbb4
    have kh4 := hR.df b4 hbb4
    replace hB5 := F1.blkN hB5
    replace hF := hF.thenDrew.thenN F1
    replace hR := hR.thruN ((Fram.refl none' _).thenDrew.thenN F1)
    refine wl_new (ze_119) (fun b5 w2 hbb5 h5 F2 => ?_)
    have hneabb5 : ab < b5 := Nat.lt_of_lt_of_le hB5.lt hbb5
    have hbsb5 := Nat.le_trans hF.size hbb5
    have hneb4b5 : b4 < b5 := Nat.lt_of_lt_of_le h4.lt hbb5
    have kh5 := hR.df b5 hbb5
    replace hB5 := F2.blkN hB5
    replace hF := hF.thenDrew.thenN F2
    replace hR := hR.thruN ((Fram.refl none' _).thenDrew.thenN F2)
    replace h4 := F2.blkN h4
    refine wl_nil (x_then (hK1 _ _ ?_))
    clear hK1 K1
    refine c_seq (fun K2 hK2 => ?_)
    refine c_seq (fun K3 hK3 => ?_)
    refine c_reg ?_ -- region 1 call.go:156
    refine wl (ro_move rfl) ?_
    refine wl (ro_nilCheck rfl) ?_
    refine wl (ro_indexAddrA (et := 119) (k := 3) rfl rfl ar_225 (rfl) ((by decide))) ?_
    refine wl (ro_fieldAddr (k := 0) rfl fo_119_0) ?_
    refine wl (ro_loadB rfl sc_3 (hB5) (row_get r0 (by decide))) ?_
    refine wl (ro_cmp (r := true) rfl rfl (congrArg some (by simpa using fun h ↦ h7 (by omega)))) ?_
    refine wl_nil (x_then (hK3 _ _ ?_))
    clear hK3 K3
    refine wc_condT rfl ?_
    refine c_reg ?_ -- region 2 call.go:157
    refine wl_callP rfl en_259 (raise259 (s := mCall)) (fun pv w9 hE => bpp_pan (P := Tryz.prog) (fn := Tryz.f266) (AE.thr hX hF hR.q hE ((hz h7).symm))) ?_
    rintro _ _ ⟨⟩
  · obtain ⟨lM, hM, e9⟩ := hR.am.nt
    refine retp_of Tryz.func266 rfl Tryz.ntmps266 rfl ?_
    refine c_seq (fun K1 hK1 => ?_)
    refine c_reg ?_ -- region 0 call.go:155
    refine wl_new (ze_119) (fun b4 w1 hbb4 h4 F1 => ?_)
    have hneabb4 : ab < b4 := Nat.lt_of_lt_of_le hB5.lt hbb4
    have hneC.E.mbb4 : C.E.mb < b4 := Nat.lt_of_lt_of_le hM.lt hbb4
    have hbsb4 := Nat.le_trans hF.size hbb4
    have kh4 := hR.df b4 hbb4
    replace hB5 := F1.blkN hB5
    replace hM := F1.blkN hM
    replace hF := hF.thenDrew.thenN F1
    replace hR := hR.thruN ((Fram.refl none' _).thenDrew.thenN F1)
    refine wl_new (ze_119) (fun b5 w2 hbb5 h5 F2 => ?_)
    have hneabb5 : ab < b5 := Nat.lt_of_lt_of_le hB5.lt hbb5
    have hneC.E.mbb5 : C.E.mb < b5 := Nat.lt_of_lt_of_le hM.lt hbb5
    have hbsb5 := Nat.le_trans hF.size hbb5
    have hneb4b5 : b4 < b5 := Nat.lt_of_lt_of_le h4.lt hbb5
    have kh5 := hR.df b5 hbb5
    replace hB5 := F2.blkN hB5
    replace hM := F2.blkN hM
    replace hF := hF.thenDrew.thenN F2
    replace hR := hR.thruN ((Fram.refl none' _).thenDrew.thenN F2)
    replace h4 := F2.blkN h4
    refine wl_nil (x_then (hK1 _ _ ?_))
    clear hK1 K1
    refine c_seq (fun K2 hK2 => ?_)
    refine c_seq (fun K3 hK3 => ?_)
    refine c_reg ?_ -- region 1 call.go:156
    refine wl (ro_move rfl) ?_
    refine wl (ro_nilCheck rfl) ?_
    refine wl (ro_indexAddrA (et := 119) (k := 3) rfl rfl ar_225 (rfl) ((by decide))) ?_
    refine wl (ro_fieldAddr (k := 0) rfl fo_119_0) ?_
    refine wl (ro_loadB rfl sc_3 (hB5) (row_get r0 (by decide))) ?_
    refine wl (ro_cmp (r := false) rfl rfl (by rw [h7.1]; rfl)) ?_
    refine wl_nil (x_then (hK3 _ _ ?_))
    clear hK3 K3
    refine wc_condF rfl ?_
    refine c_skip (x_then (hK2 _ _ ?_))
    clear hK2 K2
    refine c_seq (fun K4 hK4 => ?_)
    refine c_seq (fun K5 hK5 => ?_)
    refine c_reg ?_ -- region 3 call.go:159
    refine wl (ro_move rfl) ?_
    refine wl (ro_nilCheck rfl) ?_
    refine wl (ro_fieldAddr (k := 9) rfl fo_89_9) ?_
    refine wl (ro_loadB rfl sc_80 (hM) (e9)) ?_
    refine wl (ro_lenL rfl se_80) ?_
    refine wl (ro_cmp (r := true) rfl rfl (congrArg some (decide_eq_true (by omega)))) ?_
    refine wl_nil (x_then (hK5 _ _ ?_))
    clear hK5 K5
    refine wc_condT rfl ?_
    refine c_reg ?_ -- region 4 call.go:160
    refine wl_callP rfl en_240 (stop240 (e := 8)) (fun pv w9 hE => bpp_pan (P := Tryz.prog) (fn := Tryz.f266) (AE.stop hX hF hR.q hE (hz8 h7.1 h7.2))) ?_
    rintro _ _ ⟨⟩
  · have hN := hN h7.1
    obtain ⟨lM, hM, e9⟩ := hR.am.nt
    have h55 := h5
    refine retp_of Tryz.func266 rfl Tryz.ntmps266 rfl ?_
    refine c_seq (fun K1 hK1 => ?_)
    refine c_reg ?_ -- region 0 call.go:155
    refine wl_new (ze_119) (fun b4 w1 hbb4 h4 F1 => ?_)
    have hneabb4 : ab < b4 := Nat.lt_of_lt_of_le hB5.lt hbb4
    have hneC.E.mbb4 : C.E.mb < b4 := Nat.lt_of_lt_of_le hM.lt hbb4
    have hbsb4 := Nat.le_trans hF.size hbb4
    have kh4 := hR.df b4 hbb4
    replace hB5 := F1.blkN hB5
    replace hM := F1.blkN hM
    replace hF := hF.thenDrew.thenN F1
    replace hR := hR.thruN ((Fram.refl none' _).thenDrew.thenN F1)
    refine wl_new (ze_119) (fun b5 w2 hbb5 h5 F2 => ?_)
    have hneabb5 : ab < b5 := Nat.lt_of_lt_of_le hB5.lt hbb5
    have hneC.E.mbb5 : C.E.mb < b5 := Nat.lt_of_lt_of_le hM.lt hbb5
    have hbsb5 := Nat.le_trans hF.size hbb5
    have hneb4b5 : b4 < b5 := Nat.lt_of_lt_of_le h4.lt hbb5
    have kh5 := hR.df b5 hbb5
    replace hB5 := F2.blkN hB5
    replace hM := F2.blkN hM
    replace hF := hF.thenDrew.thenN F2
    replace hR := hR.thruN ((Fram.refl none' _).thenDrew.thenN F2)
    replace h4 := F2.blkN h4
    refine wl_nil (x_then (hK1 _ _ ?_))
    clear hK1 K1
    refine c_seq (fun K2 hK2 => ?_)
    refine c_seq (fun K3 hK3 => ?_)
    refine c_reg ?_ -- region 1 call.go:156
    refine wl (ro_move rfl) ?_
    refine wl (ro_nilCheck rfl) ?_
    refine wl (ro_indexAddrA (et := 119) (k := 3) rfl rfl ar_225 (rfl) ((by decide))) ?_
    refine wl (ro_fieldAddr (k := 0) rfl fo_119_0) ?_
    refine wl (ro_loadB rfl sc_3 (hB5) (row_get r0 (by decide))) ?_
    refine wl (ro_cmp (r := false) rfl rfl (by rw [h7.1]; rfl)) ?_
    refine wl_nil (x_then (hK3 _ _ ?_))
    clear hK3 K3
    refine wc_condF rfl ?_
    refine c_skip (x_then (hK2 _ _ ?_))
    clear hK2 K2
    refine c_seq (fun K4 hK4 => ?_)
    refine c_seq (fun K5 hK5 => ?_)
    refine c_reg ?_ -- region 3 call.go:159
    refine wl (ro_move rfl) ?_
    refine wl (ro_nilCheck rfl) ?_
    refine wl (ro_fieldAddr (k := 9) rfl fo_89_9) ?_
    refine wl (ro_loadB rfl sc_80 (hM) (e9)) ?_
    refine wl (ro_lenL rfl se_80) ?_
    refine wl (ro_cmp (r := false) rfl rfl (congrArg some (decide_eq_false (by omega)))) ?_
    refine wl_nil (x_then (hK5 _ _ ?_))
    clear hK5 K5
    refine wc_condF rfl ?_
    refine c_skip (x_then (hK4 _ _ ?_))
    clear hK4 K4
    refine forget [(0, _), (1, _), (4, _), (5, _)] ⟨rfl, rfl, rfl, rfl, trivial⟩ (fun e => ?_)
    refine c_seq (fun K6 hK6 => ?_)
    refine c_reg ?_ -- region 5 call.go:162
    refine wl (ro_move rfl) ?_
    refine wl (ro_move rfl) ?_
    refine wl (ro_nilCheck rfl) ?_
    refine wl (ro_indexAddrA (et := 119) (k := 3) rfl rfl ar_225 (rfl) ((by decide))) ?_
    refine wl (ro_fieldAddr (k := 1) rfl fo_119_1) ?_
    refine wl (ro_loadB rfl sc_117 (hB5) (row_get r0 (by decide))) ?_
    refine wl (ro_conv (a := (a0.N : Int)) rfl sc_117 in_3 (Go.IntWalk.i64_in _ (by omega))) ?_
    refine wl_call rfl en_88 (spawnN hR.dr hc h7.2) ?_
    rintro _ u3 ⟨rfl, ow3, x3, f3, r3⟩
    obtain ⟨h4, kh4⟩ := vm_loc x3 f3 h4 kh4
    obtain ⟨h5, kh5⟩ := vm_loc x3 f3 h5 kh5
    have hs3 := hF.size
    replace hF := vm_trans hX hF f3
    replace hX := hX.trans hs3 x3
    replace hR := r3
    refine wl (ro_assign rfl) ?_
    refine wl_nil (x_then (hK6 _ _ ?_))
    clear hK6 K6
    refine forget [(4, _), (5, _), (6, _)] ⟨rfl, rfl, rfl, trivial⟩ (fun e => ?_)
    refine c_seq (fun K7 hK7 => ?_)
    refine c_reg ?_ -- region 6 call.go:163
    refine wl (ro_move rfl) ?_
    refine wl (ro_conv (a := (s.ths.length : Int)) rfl sc_3 in_117 (Go.IntWalk.u64_in _ (by omega))) ?_
    refine wl (ro_build rfl bld_119_0_1) ?_
    refine wl (ro_build rfl bld_119) ?_
    refine wl_puta rfl rfl ((pvc_one (vCo _))) sz_119 (rfl) h4 ((by simp)) (rfl) (fun w4 h4 F4 => ?_)
    replace hF := hF.thenDrew.thenO F4 (by first | exact .inr (by omega) | exact .inl rfl | exact .inl (by assumption) | assumption)
    replace hR := hR.hbput ((Fram.refl (one b4) _).thenDrew.thenO F4 (.inl rfl))
    replace h5 := F4.blkO h5 (by first | omega | exact ow_ne (by assumption) (by assumption) (by omega))
    refine wl_puta rfl rfl ((pvc_one vNil)) sz_119 (rfl) h5 ((by simp)) (rfl) (fun w5 h5 F5 => ?_)
    replace hF := hF.thenDrew.thenO F5 (by first | exact .inr (by omega) | exact .inl rfl | exact .inl (by assumption) | assumption)
    replace hR := hR.hbput ((Fram.refl (one b5) _).thenDrew.thenO F5 (.inl rfl))
    replace h4 := F5.blkO h4 (by first | omega | exact ow_ne (by assumption) (by assumption) (by omega))
    refine wl_nil (x_then (hK7 _ _ ?_))
    clear hK7 K7
    refine c_ret ?_
    refine bqp_ret (res2 Tryz.results266 (rv_c rfl ag_119 (h4) (rfl)) (rv_c rfl ag_119 (h5) (rfl))) ?_
    exact ⟨h7, rfl, _, hX, hF, hR⟩
set_option maxHeartbeats 4000000 in
theorem nNxt (hR : AN C fg fc n w ow s) (hA : WinB w ab ao (rws pvc [a0, a1, a2])) (hn : a0.T = 4 → a0.N < s.tabs.length) (h12 : s.tabs.length ≤ 12) (hk : wfV a1 = true) (hN : W64 a1.N) {z : AS} (hz : a0.T ≠ 4 → z = araise mNext s) (hz2 : a0.T = 4 → tNext (s.tabs.getD a0.N []) a1 = none → z = araise mNext s) :
    RetP Tryz.prog 265 [ptr C.E.mb, apt ab ao] w (fun r w' => ∃ k v, (a0.T = 4 ∧ tNext (s.tabs.getD a0.N []) a1 = some (k, v)) ∧ NR C fg fc n w ow (.tuple #[pv k, pv v]) s r w') (AE C (kH s) w ow z) := by
  have hlt := hR.lt
  have hX : Xt w ow ow := Xt.refl _ _
  have hF : Fram (tg ow vtT) w w := Fram.refl _ _
  obtain ⟨l, lt, hB5, hA⟩ := hA
  obtain ⟨r0, r1, r2⟩ := win_row hA
  have hnx : a0.T = 4 → ∀ {w : World}, AN C fg fc n w ow s → Ret Tryz.prog 288 [ptr C.xb, i64c a0.N, pv a1] w (fun r w' => r = .tuple #[pv ((tNext (s.tabs.getD a0.N []) a1).getD (vNil, vNil)).1, pv ((tNext (s.tabs.getD a0.N []) a1).getD (vNil, vNil)).2, icv (if (tNext (s.tabs.getD a0.N []) a1).isSome then 0 else 7)] ∧ Fram none' w w') := fun q _ h => h.am.next288' (hn q) hk hN
  rcases hq : tNext (s.tabs.getD a0.N []) a1 with _ | ⟨k, v⟩
  · rw [hq] at hnx
    refine retp_of Tryz.func265 rfl Tryz.ntmps265 rfl ?_
    refine c_seq (fun K1 hK1 => ?_)
    refine c_reg ?_ -- region 0 call.go:146
    refine wl_new (ze_119) (fun b4 w1 hbb4 h4 F1 => ?_)
    have hneabb4 : ab < b4 := Nat.lt_of_lt_of_le hB5.lt hbb4
    have hbsb4 := Nat.le_trans hF.size hbb4
    have kh4 := hR.df b4 hbb4
    replace hB5 := F1.blkN hB5
    replace hF := hF.thenDrew.thenN F1
    replace hR := hR.thruN ((Fram.refl none' _).thenDrew.thenN F1)
    refine wl_new (ze_119) (fun b5 w2 hbb5 h5 F2 => ?_)
    have hneabb5 : ab < b5 := Nat.lt_of_lt_of_le hB5.lt hbb5
    have hbsb5 := Nat.le_trans hF.size hbb5
    have hneb4b5 : b4 < b5 := Nat.lt_of_lt_of_le h4.lt hbb5
    have kh5 := hR.df b5 hbb5
    replace hB5 := F2.blkN hB5
    replace hF := hF.thenDrew.thenN F2
    replace hR := hR.thruN ((Fram.refl none' _).thenDrew.thenN F2)
    replace h4 := F2.blkN h4
    refine wl_nil (x_then (hK1 _ _ ?_))
    clear hK1 K1
    refine forget [(0, _), (1, _), (4, _), (5, _)] ⟨rfl, rfl, rfl, rfl, trivial⟩ (fun e => ?_)
    refine c_seq (fun K2 hK2 => ?_)
    refine c_reg ?_ -- region 1 call.go:147
    refine wl (ro_move rfl) ?_
    refine wl (ro_nilCheck rfl) ?_
    refine wl (ro_indexAddrA (et := 119) (k := 3) rfl rfl ar_225 (rfl) ((by decide))) ?_
    refine wl (ro_loadAggB rfl ag_119 (hB5) (pvc_len _) (r0)) ?_
    refine wl_callP rfl en_272 (tabOf272 (s := mNext) (fun q ↦ by have := hn q; omega)) (fun pv w9 hE => bpp_pan (P := Tryz.prog) (fn := Tryz.f265) (AE.thr hX hF hR.q hE.2 ((hz hE.1).symm))) ?_
    rintro _ w3 ⟨rfl, hq3, F3⟩
    replace hB5 := F3.blkN hB5
    replace hF := hF.thenDrew.thenN F3
    replace hR := hR.thruN ((Fram.refl none' _).thenDrew.thenN F3)
    replace h4 := F3.blkN h4
    replace h5 := F3.blkN h5
    refine wl (ro_assign rfl) ?_
    refine wl_nil (x_then (hK2 _ _ ?_))
    clear hK2 K2
    refine forget [(0, _), (1, _), (4, _), (5, _), (6, _)] ⟨rfl, rfl, rfl, rfl, rfl, trivial⟩ (fun e => ?_)
    refine c_seq (fun K3 hK3 => ?_)
    refine c_piH 18 9 14 15 [0, 1, 2, 3, 4, 5, 6, 7, 8] [10, 11, 12, 13] [(16, true), (17, true)] (La ab _ _ (La b4 _ _ (La b5 _ _ (Mz C)))) mixed (by kernel_rfl) rfl (by kernel_rfl) (po_then (po_bpp)) (⟨hB5, h4, h5, hR.rz⟩) ?_ -- region 2 call.go:148
    refine wh_ro rfl (fun w hS => ro_move rfl) ?_
    refine wh_ro rfl (fun w hS => ro_nilCheck rfl) ?_
    refine wh_ro rfl (fun w hS => ro_fieldAddr (k := 1) rfl fo_89_1) ?_
    refine wh_ro rfl (fun w hS => let ⟨_, hc, h0, h1⟩ := hS.2.2.2; ro_loadB rfl sc_38 hc (h1)) ?_
    refine wh_ro rfl (fun w hS => ro_move rfl) ?_
    refine wh_ro rfl (fun w hS => ro_move rfl) ?_
    refine wh_ro rfl (fun w hS => ro_nilCheck rfl) ?_
    refine wh_ro rfl (fun w hS => ro_indexAddrA (et := 119) (k := 3) rfl rfl ar_225 (rfl) ((by decide))) ?_
    refine wh_ro rfl (fun w hS => ro_loadAggB rfl ag_119 (hS.1) (pvc_len _) (r1)) ?_
    refine wh_nx (.tuple #[pv vNil, pv vNil, icv 7]) (pvc vNil) (pvc vNil) (icv 7) rfl rfl rfl rfl rfl rfl rfl rfl rfl rfl rfl (by decide) (by decide) rfl (fun _ => rfl) (fun _ => rfl) (fun _ _ => rfl) (fun _ _ => rfl) en_288 ze_119 sz_119 rfl rfl rfl (pvc_one _) (pvc_one _) (fun w1 F => hnx ‹a0.T = 4› (hR.dr.thruN F)) (fun u F => ⟨F.blkN hB5, F.blkN h4, F.blkN h5, (hR.dr.thruN F).rz⟩) ?_
    intro b7 b8 w4 hbb7 hbb8 hneb7b8 h7 h8 F4
    have hneabb7 : ab < b7 := Nat.lt_of_lt_of_le hB5.lt hbb7
    have hbsb7 := Nat.le_trans hF.size hbb7
    have hneb4b7 : b4 < b7 := Nat.lt_of_lt_of_le h4.lt hbb7
    have hneb5b7 : b5 < b7 := Nat.lt_of_lt_of_le h5.lt hbb7
    have hneabb8 : ab < b8 := Nat.lt_of_lt_of_le hB5.lt hbb8
    have hbsb8 := Nat.le_trans hF.size hbb8
    have hneb4b8 : b4 < b8 := Nat.lt_of_lt_of_le h4.lt hbb8
    have hneb5b8 : b5 < b8 := Nat.lt_of_lt_of_le h5.lt hbb8
    have kh7 := hR.df b7 hbb7
    have kh8 := hR.df b8 hbb8
    replace hB5 := F4.blkN hB5
    replace hF := hF.thenDrew.thenN F4
    replace hR := hR.thruN ((Fram.refl none' _).thenDrew.thenN F4)
    replace h4 := F4.blkN h4
    replace h5 := F4.blkN h5
    refine x_then (hK3 _ _ ?_)
    clear hK3 K3
    refine c_seq (fun K4 hK4 => ?_)
    refine c_seq (fun K5 hK5 => ?_)
    refine c_reg ?_ -- region 3 call.go:149
    refine wl (ro_move rfl) ?_
    refine wl (ro_cmp rfl rfl rfl) ?_
    refine wl_nil (x_then (hK5 _ _ ?_))
    clear hK5 K5
    refine wc_condT rfl ?_
    refine c_reg ?_ -- region 4 call.go:150
    refine wl_callP rfl en_259 (raise259 (s := mNext)) (fun pv w9 hE => bpp_pan (P := Tryz.prog) (fn := Tryz.f265) (AE.thr hX hF hR.q hE ((hz2 ‹a0.T = 4› hq).symm))) ?_
    rintro _ _ ⟨⟩
  · rw [hq] at hnx
    refine retp_of Tryz.func265 rfl Tryz.ntmps265 rfl ?_
    refine c_seq (fun K1 hK1 => ?_)
    refine c_reg ?_ -- region 0 call.go:146
    refine wl_new (ze_119) (fun b4 w1 hbb4 h4 F1 => ?_)
    have hneabb4 : ab < b4 := Nat.lt_of_lt_of_le hB5.lt hbb4
    have hbsb4 := Nat.le_trans hF.size hbb4
    have kh4 := hR.df b4 hbb4
    replace hB5 := F1.blkN hB5
    replace hF := hF.thenDrew.thenN F1
    replace hR := hR.thruN ((Fram.refl none' _).thenDrew.thenN F1)
    refine wl_new (ze_119) (fun b5 w2 hbb5 h5 F2 => ?_)
    have hneabb5 : ab < b5 := Nat.lt_of_lt_of_le hB5.lt hbb5
    have hbsb5 := Nat.le_trans hF.size hbb5
    have hneb4b5 : b4 < b5 := Nat.lt_of_lt_of_le h4.lt hbb5
    have kh5 := hR.df b5 hbb5
    replace hB5 := F2.blkN hB5
    replace hF := hF.thenDrew.thenN F2
    replace hR := hR.thruN ((Fram.refl none' _).thenDrew.thenN F2)
    replace h4 := F2.blkN h4
    refine wl_nil (x_then (hK1 _ _ ?_))
    clear hK1 K1
    refine forget [(0, _), (1, _), (4, _), (5, _)] ⟨rfl, rfl, rfl, rfl, trivial⟩ (fun e => ?_)
    refine c_seq (fun K2 hK2 => ?_)
    refine c_reg ?_ -- region 1 call.go:147
    refine wl (ro_move rfl) ?_
    refine wl (ro_nilCheck rfl) ?_
    refine wl (ro_indexAddrA (et := 119) (k := 3) rfl rfl ar_225 (rfl) ((by decide))) ?_
    refine wl (ro_loadAggB rfl ag_119 (hB5) (pvc_len _) (r0)) ?_
    refine wl_callP rfl en_272 (tabOf272 (s := mNext) (fun q ↦ by have := hn q; omega)) (fun pv w9 hE => bpp_pan (P := Tryz.prog) (fn := Tryz.f265) (AE.thr hX hF hR.q hE.2 ((hz hE.1).symm))) ?_
    rintro _ w3 ⟨rfl, hq3, F3⟩
    replace hB5 := F3.blkN hB5
    replace hF := hF.thenDrew.thenN F3
    replace hR := hR.thruN ((Fram.refl none' _).thenDrew.thenN F3)
    replace h4 := F3.blkN h4
    replace h5 := F3.blkN h5
    refine wl (ro_assign rfl) ?_
    refine wl_nil (x_then (hK2 _ _ ?_))
    clear hK2 K2
    refine forget [(0, _), (1, _), (4, _), (5, _), (6, _)] ⟨rfl, rfl, rfl, rfl, rfl, trivial⟩ (fun e => ?_)
    refine c_seq (fun K3 hK3 => ?_)
    refine c_piH 18 9 14 15 [0, 1, 2, 3, 4, 5, 6, 7, 8] [10, 11, 12, 13] [(16, true), (17, true)] (La ab _ _ (La b4 _ _ (La b5 _ _ (Mz C)))) mixed (by kernel_rfl) rfl (by kernel_rfl) (po_then (po_bpp)) (⟨hB5, h4, h5, hR.rz⟩) ?_ -- region 2 call.go:148
    refine wh_ro rfl (fun w hS => ro_move rfl) ?_
    refine wh_ro rfl (fun w hS => ro_nilCheck rfl) ?_
    refine wh_ro rfl (fun w hS => ro_fieldAddr (k := 1) rfl fo_89_1) ?_
    refine wh_ro rfl (fun w hS => let ⟨_, hc, h0, h1⟩ := hS.2.2.2; ro_loadB rfl sc_38 hc (h1)) ?_
    refine wh_ro rfl (fun w hS => ro_move rfl) ?_
    refine wh_ro rfl (fun w hS => ro_move rfl) ?_
    refine wh_ro rfl (fun w hS => ro_nilCheck rfl) ?_
    refine wh_ro rfl (fun w hS => ro_indexAddrA (et := 119) (k := 3) rfl rfl ar_225 (rfl) ((by decide))) ?_
    refine wh_ro rfl (fun w hS => ro_loadAggB rfl ag_119 (hS.1) (pvc_len _) (r1)) ?_
    refine wh_nx (.tuple #[pv k, pv v, icv 0]) (pvc k) (pvc v) (icv 0) rfl rfl rfl rfl rfl rfl rfl rfl rfl rfl rfl (by decide) (by decide) rfl (fun _ => rfl) (fun _ => rfl) (fun _ _ => rfl) (fun _ _ => rfl) en_288 ze_119 sz_119 rfl rfl rfl (pvc_one _) (pvc_one _) (fun w1 F => hnx ‹a0.T = 4› (hR.dr.thruN F)) (fun u F => ⟨F.blkN hB5, F.blkN h4, F.blkN h5, (hR.dr.thruN F).rz⟩) ?_
    intro b7 b8 w4 hbb7 hbb8 hneb7b8 h7 h8 F4
    have hneabb7 : ab < b7 := Nat.lt_of_lt_of_le hB5.lt hbb7
    have hbsb7 := Nat.le_trans hF.size hbb7
    have hneb4b7 : b4 < b7 := Nat.lt_of_lt_of_le h4.lt hbb7
    have hneb5b7 : b5 < b7 := Nat.lt_of_lt_of_le h5.lt hbb7
    have hneabb8 : ab < b8 := Nat.lt_of_lt_of_le hB5.lt hbb8
    have hbsb8 := Nat.le_trans hF.size hbb8
    have hneb4b8 : b4 < b8 := Nat.lt_of_lt_of_le h4.lt hbb8
    have hneb5b8 : b5 < b8 := Nat.lt_of_lt_of_le h5.lt hbb8
    have kh7 := hR.df b7 hbb7
    have kh8 := hR.df b8 hbb8
    replace hB5 := F4.blkN hB5
    replace hF := hF.thenDrew.thenN F4
    replace hR := hR.thruN ((Fram.refl none' _).thenDrew.thenN F4)
    replace h4 := F4.blkN h4
    replace h5 := F4.blkN h5
    refine x_then (hK3 _ _ ?_)
    clear hK3 K3
    refine c_seq (fun K4 hK4 => ?_)
    refine c_seq (fun K5 hK5 => ?_)
    refine c_reg ?_ -- region 3 call.go:149
    refine wl (ro_move rfl) ?_
    refine wl (ro_cmp rfl rfl rfl) ?_
    refine wl_nil (x_then (hK5 _ _ ?_))
    clear hK5 K5
    refine wc_condF rfl ?_
    refine c_skip (x_then (hK4 _ _ ?_))
    clear hK4 K4
    refine forget [(4, _), (5, _), (7, _), (8, _)] ⟨rfl, rfl, rfl, rfl, trivial⟩ (fun e => ?_)
    refine c_seq (fun K6 hK6 => ?_)
    refine c_piL 3 [(0, false), (1, false), (2, true)] (fun w ↦ Blk w.heap b7 (pvc k) 119 ∧ Blk w.heap b8 (pvc v) 119) mixed (by kernel_rfl) rfl (by kernel_rfl) (po_then (po_bpp)) (⟨h7, h8⟩) ?_ -- region 5 call.go:152
    refine ql_ro rfl (fun w hS => ro_loadAggB rfl ag_119 (hS.1) rfl rfl) ?_
    refine ql_ro rfl (fun w hS => ro_loadAggB rfl ag_119 (hS.2) rfl rfl) ?_
    refine ql_putam rfl rfl rfl ((pvc_one k)) sz_119 (rfl) h4 ((by simp)) (rfl) (fun w1 hB1 F ↦ ⟨F.blkO h7 (by omega), F.blkO h8 (by omega)⟩) (fun w5 h4 F5 => ?_)
    replace hB5 := F5.blkO hB5 (by first | omega | exact ow_ne (by assumption) (by assumption) (by omega))
    replace hF := hF.thenDrew.thenO F5 (by first | exact .inr (by omega) | exact .inl rfl | exact .inl (by assumption) | assumption)
    replace hR := hR.hbput ((Fram.refl (one b4) _).thenDrew.thenO F5 (.inl rfl))
    replace h5 := F5.blkO h5 (by first | omega | exact ow_ne (by assumption) (by assumption) (by omega))
    replace h7 := F5.blkO h7 (by first | omega | exact ow_ne (by assumption) (by assumption) (by omega))
    replace h8 := F5.blkO h8 (by first | omega | exact ow_ne (by assumption) (by assumption) (by omega))
    refine ql_puta rfl rfl rfl ((pvc_one v)) sz_119 (rfl) h5 ((by simp)) (rfl) (fun w6 h5 F6 => ?_)
    replace hB5 := F6.blkO hB5 (by first | omega | exact ow_ne (by assumption) (by assumption) (by omega))
    replace hF := hF.thenDrew.thenO F6 (by first | exact .inr (by omega) | exact .inl rfl | exact .inl (by assumption) | assumption)
    replace hR := hR.hbput ((Fram.refl (one b5) _).thenDrew.thenO F6 (.inl rfl))
    replace h4 := F6.blkO h4 (by first | omega | exact ow_ne (by assumption) (by assumption) (by omega))
    replace h7 := F6.blkO h7 (by first | omega | exact ow_ne (by assumption) (by assumption) (by omega))
    replace h8 := F6.blkO h8 (by first | omega | exact ow_ne (by assumption) (by assumption) (by omega))
    refine x_then (hK6 _ _ ?_)
    clear hK6 K6
    refine c_ret ?_
    refine bqp_ret (res2 Tryz.results265 (rv_c rfl ag_119 (h4) (rfl)) (rv_c rfl ag_119 (h5) (rfl))) ?_
    exact ⟨k, v, ⟨‹a0.T = 4›, rfl⟩, rfl, _, hX, hF, hR⟩
set_option maxHeartbeats 4000000 in
theorem nPrt (hR : AN C fg fc n w ow s) (hA : WinB w ab ao (rws pvc [a0, a1, a2])) (hv : PVf a0) (h6 : a0.T = 6 → a0.N < 1000) (hol : s.out.length ≤ 200) (htx : (txV a0).length ≤ 100000) {z : AS} (hz : 200 < s.out.length + (txV a0).length + 1 → ATr 10 s z) :
    RetP Tryz.prog 260 [ptr C.E.mb, apt ab ao] w (fun r w' => ¬ 200 < s.out.length + (txV a0).length + 1 ∧ NR C fg fc n w ow (.tuple #[pv vNil, pv vNil]) { s with out := s.out ++ txV a0 ++ [10] } r w') (AE C (kH s) w ow z) := by
  have hlt := hR.lt
  have hX : Xt w ow ow := Xt.refl _ _
  have hF : Fram (tg ow vtT) w w := Fram.refl _ _
  obtain ⟨l, lt, hB5, hA⟩ := hA
  obtain ⟨r0, r1, r2⟩ := win_row hA
  rcases Nat.lt_or_ge 200 (s.out.length + (txV a0).length + 1) with h9 | h9
  · have hp0 := h9
    refine retp_of Tryz.func260 rfl Tryz.ntmps260 rfl ?_
    refine c_seq (fun K1 hK1 => ?_)
    refine c_reg ?_ -- region 0 call.go:108
    refine wl_new (ze_119) (fun b4 w1 hbb4 h4 F1 => ?_)
    have hneabb4 : ab < b4 := Nat.lt_of_lt_of_le hB5.lt hbb4
    have hbsb4 := Nat.le_trans hF.size hbb4
    have kh4 := hR.df b4 hbb4
    replace hB5 := F1.blkN hB5
    replace hF := hF.thenDrew.thenN F1
    replace hR := hR.thruN ((Fram.refl none' _).thenDrew.thenN F1)
    refine wl_new (ze_119) (fun b5 w2 hbb5 h5 F2 => ?_)
    have hneabb5 : ab < b5 := Nat.lt_of_lt_of_le hB5.lt hbb5
    have hbsb5 := Nat.le_trans hF.size hbb5
    have hneb4b5 : b4 < b5 := Nat.lt_of_lt_of_le h4.lt hbb5
    have kh5 := hR.df b5 hbb5
    replace hB5 := F2.blkN hB5
    replace hF := hF.thenDrew.thenN F2
    replace hR := hR.thruN ((Fram.refl none' _).thenDrew.thenN F2)
    replace h4 := F2.blkN h4
    refine wl_nil (x_then (hK1 _ _ ?_))
    clear hK1 K1
    refine forget [(0, _), (1, _), (4, _), (5, _)] ⟨rfl, rfl, rfl, rfl, trivial⟩ (fun e => ?_)
    refine c_seq (fun K2 hK2 => ?_)
    refine c_reg ?_ -- region 1 call.go:109
    refine wl (ro_move rfl) ?_
    refine wl (ro_move rfl) ?_
    refine wl (ro_nilCheck rfl) ?_
    refine wl (ro_indexAddrA (et := 119) (k := 3) rfl rfl ar_225 (rfl) ((by decide))) ?_
    refine wl (ro_loadAggB rfl ag_119 (hB5) (pvc_len _) (r0)) ?_
    refine wl_call rfl en_286 (textN hR.dr hv h6) ?_
    rintro _ u3 ⟨rfl, ow3, x3, f3, r3⟩
    obtain ⟨h4, kh4⟩ := vm_loc x3 f3 h4 kh4
    obtain ⟨h5, kh5⟩ := vm_loc x3 f3 h5 kh5
    have hs3 := hF.size
    replace hF := vm_trans hX hF f3
    replace hX := hX.trans hs3 x3
    replace hR := r3
    obtain ⟨V, κ, Vv, U, v1, z1, k1, xk⟩ := id hR
    obtain ⟨L, op, vl⟩ := v1.ex
    have hA11 := op.a 11 (.inr rfl)
    rw [vl.o] at hA11
    obtain ⟨og, oc, e11⟩ := hA11.form
    have hM := op.m
    unfold mbc at hM
    rw [e11] at hM
    refine wl (ro_assign rfl) ?_
    refine wl_nil (x_then (hK2 _ _ ?_))
    clear hK2 K2
    refine c_seq (fun K3 hK3 => ?_)
    refine c_seq (fun K4 hK4 => ?_)
    refine c_reg ?_ -- region 2 call.go:110
    refine wl (ro_move rfl) ?_
    refine wl (ro_nilCheck rfl) ?_
    refine wl (ro_fieldAddr (k := 11) rfl fo_89_11) ?_
    refine wl (ro_loadB rfl sc_70 (hM) rfl) ?_
    refine wl (ro_lenL rfl se_70) ?_
    refine wl (ro_move rfl) ?_
    refine wl (ro_lenS rfl st_9) ?_
    refine wl (ro_addN rfl rfl (by omega)) ?_
    refine wl (ro_addN (k := 1) rfl rfl (by omega)) ?_
    refine wl (ro_cmp (r := true) rfl rfl (congrArg some (decide_eq_true (by omega)))) ?_
    refine wl_nil (x_then (hK4 _ _ ?_))
    clear hK4 K4
    refine wc_condT rfl ?_
    refine c_reg ?_ -- region 3 call.go:111
    refine wl_callP rfl en_240 (stop240 (e := 10)) (fun pv w9 hE => bpp_pan (P := Tryz.prog) (fn := Tryz.f260) (AE.stop hX hF hR.q hE (hz h9))) ?_
    rintro _ _ ⟨⟩
  · have hp0 := h9
    refine retp_of Tryz.func260 rfl Tryz.ntmps260 rfl ?_
    refine c_seq (fun K1 hK1 => ?_)
    refine c_reg ?_ -- region 0 call.go:108
    refine wl_new (ze_119) (fun b4 w1 hbb4 h4 F1 => ?_)
    have hneabb4 : ab < b4 := Nat.lt_of_lt_of_le hB5.lt hbb4
    have hbsb4 := Nat.le_trans hF.size hbb4
    have kh4 := hR.df b4 hbb4
    replace hB5 := F1.blkN hB5
    replace hF := hF.thenDrew.thenN F1
    replace hR := hR.thruN ((Fram.refl none' _).thenDrew.thenN F1)
    refine wl_new (ze_119) (fun b5 w2 hbb5 h5 F2 => ?_)
    have hneabb5 : ab < b5 := Nat.lt_of_lt_of_le hB5.lt hbb5
    have hbsb5 := Nat.le_trans hF.size hbb5
    have hneb4b5 : b4 < b5 := Nat.lt_of_lt_of_le h4.lt hbb5
    have kh5 := hR.df b5 hbb5
    replace hB5 := F2.blkN hB5
    replace hF := hF.thenDrew.thenN F2
    replace hR := hR.thruN ((Fram.refl none' _).thenDrew.thenN F2)
    replace h4 := F2.blkN h4
    refine wl_nil (x_then (hK1 _ _ ?_))
    clear hK1 K1
    refine forget [(0, _), (1, _), (4, _), (5, _)] ⟨rfl, rfl, rfl, rfl, trivial⟩ (fun e => ?_)
    refine c_seq (fun K2 hK2 => ?_)
    refine c_reg ?_ -- region 1 call.go:109
    refine wl (ro_move rfl) ?_
    refine wl (ro_move rfl) ?_
    refine wl (ro_nilCheck rfl) ?_
    refine wl (ro_indexAddrA (et := 119) (k := 3) rfl rfl ar_225 (rfl) ((by decide))) ?_
    refine wl (ro_loadAggB rfl ag_119 (hB5) (pvc_len _) (r0)) ?_
    refine wl_call rfl en_286 (textN hR.dr hv h6) ?_
    rintro _ u3 ⟨rfl, ow3, x3, f3, r3⟩
    obtain ⟨h4, kh4⟩ := vm_loc x3 f3 h4 kh4
    obtain ⟨h5, kh5⟩ := vm_loc x3 f3 h5 kh5
    have hs3 := hF.size
    replace hF := vm_trans hX hF f3
    replace hX := hX.trans hs3 x3
    replace hR := r3
    obtain ⟨V, κ, Vv, U, v1, z1, k1, xk⟩ := id hR
    obtain ⟨L, op, vl⟩ := v1.ex
    have hA11 := op.a 11 (.inr rfl)
    rw [vl.o] at hA11
    obtain ⟨og, oc, e11⟩ := hA11.form
    have hM := op.m
    unfold mbc at hM
    rw [e11] at hM
    have htm := op.tm
    have hM3 : ¬ own1 (Vv 11) C.E.mb := fun y ↦ by have := hA11.t _ y; rw [htm] at this; omega
    refine wl (ro_assign rfl) ?_
    refine wl_nil (x_then (hK2 _ _ ?_))
    clear hK2 K2
    refine c_seq (fun K3 hK3 => ?_)
    refine c_seq (fun K4 hK4 => ?_)
    refine c_reg ?_ -- region 2 call.go:110
    refine wl (ro_move rfl) ?_
    refine wl (ro_nilCheck rfl) ?_
    refine wl (ro_fieldAddr (k := 11) rfl fo_89_11) ?_
    refine wl (ro_loadB rfl sc_70 (hM) rfl) ?_
    refine wl (ro_lenL rfl se_70) ?_
    refine wl (ro_move rfl) ?_
    refine wl (ro_lenS rfl st_9) ?_
    refine wl (ro_addN rfl rfl (by omega)) ?_
    refine wl (ro_addN (k := 1) rfl rfl (by omega)) ?_
    refine wl (ro_cmp (r := false) rfl rfl (congrArg some (decide_eq_false (by omega)))) ?_
    refine wl_nil (x_then (hK4 _ _ ?_))
    clear hK4 K4
    refine wc_condF rfl ?_
    refine c_skip (x_then (hK3 _ _ ?_))
    clear hK3 K3
    refine forget [(0, _), (4, _), (5, _), (6, _)] ⟨rfl, rfl, rfl, rfl, trivial⟩ (fun e => ?_)
    refine c_seq (fun K5 hK5 => ?_)
    refine c_reg ?_ -- region 4 call.go:113
    refine wl (ro_move rfl) ?_
    refine wl (ro_move rfl) ?_
    refine wl (ro_nilCheck rfl) ?_
    refine wl (ro_fieldAddr (k := 11) rfl fo_89_11) ?_
    refine wl (ro_loadB rfl sc_70 (hM) rfl) ?_
    refine wl (ro_move rfl) ?_
    refine wl_appS (t := 70) (et := 5) (m := s.out.length) (s := txV a0) (v := Vv 11) (by rw [e11]; rfl) rfl se_70 st_9 (by kernel_rfl) by_5 hA11.o (by omega) ?_
    intro v' u8 hon G1 hnb
    obtain ⟨wa, wc, rfl⟩ := hon.form
    replace hM := G1.blkF hM hM3
    refine wl (ro_nilCheck rfl) ?_
    refine wl (ro_fieldAddr (k := 11) rfl fo_89_11) ?_
    refine wl_put rfl rfl rfl sz_70 hM (by simp) (rfl) (fun w4 hM F4 => ?_)
    have hF9 := (F4)
    obtain ⟨ow7, x7, f7, r7⟩ := outN (o' := s.out ++ txV a0) v1 z1 k1 xk op vl (by rw [List.length_append, List.map_append]; exact hon) G1 hnb hF9 (by unfold mbc; exact hM)
    obtain ⟨h4, kh4⟩ := vm_loc x7 f7 h4 kh4
    obtain ⟨h5, kh5⟩ := vm_loc x7 f7 h5 kh5
    have hs7 := hF.size
    replace hF := vm_trans hX hF f7
    replace hX := hX.trans hs7 x7
    replace hR := r7
    obtain ⟨V2, κ2, Vv2, U2, v2, z2, k2, xk2⟩ := id hR
    obtain ⟨L2, op2, vl2⟩ := v2.ex
    have hA12 := op2.a 11 (.inr rfl)
    rw [vl2.o] at hA12
    obtain ⟨og2, oc2, e12⟩ := hA12.form
    have hM := op2.m
    unfold mbc at hM
    rw [e12] at hM
    have htm2 := op2.tm
    have hM4 : ¬ own1 (Vv2 11) C.E.mb := fun y ↦ by have := hA12.t _ y; rw [htm2] at this; omega
    have hl2 : (s.out ++ txV a0).length ≤ 300 := by rw [List.length_append]; omega
    refine wl_nil (x_then (hK5 _ _ ?_))
    clear hK5 K5
    refine forget [(0, _), (4, _), (5, _)] ⟨rfl, rfl, rfl, trivial⟩ (fun e => ?_)
    refine c_seq (fun K6 hK6 => ?_)
    refine c_reg ?_ -- region 5 call.go:114
    refine wl (ro_move rfl) ?_
    refine wl (ro_move rfl) ?_
    refine wl (ro_nilCheck rfl) ?_
    refine wl (ro_fieldAddr (k := 11) rfl fo_89_11) ?_
    refine wl (ro_loadB rfl sc_70 (hM) rfl) ?_
    refine wl_bsapp (t := 70) (et := 5) (k := 1) (m := (s.out ++ txV a0).length) (cs := [u8c 10]) rfl rfl (by rw [← e12]; rfl) rfl se_70 zx_5 by_5 rfl rfl rfl (by simp [Value.oneCell', u8c]) hA12.o (by omega) (by omega) ?_
    intro v' u9 hon2 G2 hnb2
    obtain ⟨wa2, wc2, rfl⟩ := hon2.form
    replace hM := G2.blkF hM hM4
    skip
    refine wl (ro_nilCheck rfl) ?_
    refine wl (ro_fieldAddr (k := 11) rfl fo_89_11) ?_
    refine wl_put rfl rfl rfl sz_70 hM (by simp) (rfl) (fun w5 hM F5 => ?_)
    have hF9 := (F5)
    have hon3 : Own u9.heap (.slice wa2 ((s.out ++ txV a0).length + 1) wc2) 5 1 (s.out ++ txV a0 ++ [10]).length ((s.out ++ txV a0 ++ [10]).map u8c) := by
      have e9 : (s.out ++ txV a0 ++ [10]).length = (s.out ++ txV a0).length + 1 := by rw [List.length_append]; rfl
      rw [List.map_append, e9]; exact hon2
    obtain ⟨ow8, x8, f8, r8⟩ := outN (o' := s.out ++ txV a0 ++ [10]) v2 z2 k2 xk2 op2 vl2 hon3 G2 hnb2 hF9 (by unfold mbc; exact hM)
    obtain ⟨h4, kh4⟩ := vm_loc x8 f8 h4 kh4
    obtain ⟨h5, kh5⟩ := vm_loc x8 f8 h5 kh5
    have hs8 := hF.size
    replace hF := vm_trans hX hF f8
    replace hX := hX.trans hs8 x8
    replace hR := r8
    refine wl_nil (x_then (hK6 _ _ ?_))
    clear hK6 K6
    refine forget [(4, _), (5, _)] ⟨rfl, rfl, trivial⟩ (fun e => ?_)
    refine c_seq (fun K7 hK7 => ?_)
    refine c_reg ?_ -- region 6 call.go:115
    refine wl (ro_build rfl bld_119) ?_
    refine wl (ro_build rfl bld_119) ?_
    refine wl_puta rfl rfl ((pvc_one vNil)) sz_119 (rfl) h4 ((by simp)) (rfl) (fun w6 h4 F6 => ?_)
    replace h5 := F6.blkO h5 (by first | omega | exact ow_ne (by assumption) (by assumption) (by omega))
    replace hF := hF.thenDrew.thenO F6 (by first | exact .inr (by omega) | exact .inl rfl | exact .inl (by assumption) | assumption)
    replace hR := hR.hbput ((Fram.refl (one b4) _).thenDrew.thenO F6 (.inl rfl))
    refine wl_puta rfl rfl ((pvc_one vNil)) sz_119 (rfl) h5 ((by simp)) (rfl) (fun w7 h5 F7 => ?_)
    replace h4 := F7.blkO h4 (by first | omega | exact ow_ne (by assumption) (by assumption) (by omega))
    replace hF := hF.thenDrew.thenO F7 (by first | exact .inr (by omega) | exact .inl rfl | exact .inl (by assumption) | assumption)
    replace hR := hR.hbput ((Fram.refl (one b5) _).thenDrew.thenO F7 (.inl rfl))
    refine wl_nil (x_then (hK7 _ _ ?_))
    clear hK7 K7
    refine c_ret ?_
    refine bqp_ret (res2 Tryz.results260 (rv_c rfl ag_119 (h4) (rfl)) (rv_c rfl ag_119 (h5) (rfl))) ?_
    exact ⟨by omega, rfl, _, hX, hF, hR⟩
end
end Go.Proofs.Qxb6500568aGreatDoor
