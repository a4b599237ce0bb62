import Derived.Test.Qxb6500568aGreatDoorHr
/- The machine: builtins. -/
namespace Go.Proofs.Qxb6500568aGreatDoor
open Ieee
set_option linter.unusedVariables false
set_option linter.unusedSimpArgs false
set_option linter.unusedSectionVars false

section
variable {C : VC} {w : World} {ow : Nat → Nat} {s : AS} {fg fc : Nat} {a0 a1 a2 : PV} {ab ao : Nat}
def apt (ab ao : Nat) : Value := .pointer (some ⟨ab, ao, none⟩)
theorem win_row {l : List Value} (h : (l.drop ao).take 9 = rws pvc [a0, a1, a2]) : (l.drop (ao + 0 * 3)).take 3 = pvc a0 ∧ (l.drop (ao + 1 * 3)).take 3 = pvc a1 ∧ (l.drop (ao + 2 * 3)).take 3 = pvc a2 := by
  refine ⟨?_, ?_, ?_⟩
  · exact (row_seg (j := 0) (m := 3) h (by decide)).trans rfl
  · exact (row_seg (j := 3) (m := 3) h (by decide)).trans rfl
  · exact (row_seg (j := 6) (m := 3) h (by decide)).trans rfl
set_option maxHeartbeats 4000000 in
theorem bStr (hR : AM C fg fc w ow s) (hA : WinB w ab ao (rws pvc [a0, a1, a2])) (hv : PVf a0) (h6 : a0.T = 6 → a0.N < 1000) :
    Ret Tryz.prog 261 [ptr C.E.mb, apt ab ao] w (AR C fg fc w ow (.tuple #[pv (vStr (txV a0)), pv vNil]) s) := by
  have hX : Xt w ow ow := Xt.refl _ _
  have hF : Fram (tg ow vtT) w w := Fram.refl _ _
  obtain ⟨l, lt, hB5, hA⟩ := hA
  obtain ⟨r0, r1, r2⟩ := win_row hA
  refine ret_of Tryz.func261 rfl Tryz.ntmps261 rfl ?_
  refine c_seq (fun K1 hK1 => ?_)
  refine c_reg ?_ -- region 0 call.go:118
  refine wl_new (ze_119) (fun b4 w1 hbb4 h4 F1 => ?_)
  have hneabb4 : ab < b4 := Nat.lt_of_lt_of_le hB5.lt hbb4
  have hbsb4 := Nat.le_trans hF.size hbb4
  have kh4 := hR.df b4 hbb4
  replace hB5 := F1.blkN hB5
  replace hF := hF.thenDrew.thenN F1
  replace hR := hR.thruN ((Fram.refl none' _).thenDrew.thenN F1)
  refine wl_new (ze_119) (fun b5 w2 hbb5 h5 F2 => ?_)
  have hneabb5 : ab < b5 := Nat.lt_of_lt_of_le hB5.lt hbb5
  have hbsb5 := Nat.le_trans hF.size hbb5
  have hneb4b5 : b4 < b5 := Nat.lt_of_lt_of_le h4.lt hbb5
  have kh5 := hR.df b5 hbb5
  replace hB5 := F2.blkN hB5
  replace hF := hF.thenDrew.thenN F2
  replace hR := hR.thruN ((Fram.refl none' _).thenDrew.thenN F2)
  replace h4 := F2.blkN h4
  refine wl_nil (x_then (hK1 _ _ ?_))
  clear hK1 K1
  refine forget [(0, _), (1, _), (4, _), (5, _)] ⟨rfl, rfl, rfl, rfl, trivial⟩ (fun e => ?_)
  refine c_seq (fun K2 hK2 => ?_)
  refine c_reg ?_ -- region 1 call.go:119
  refine wl (ro_move rfl) ?_
  refine wl (ro_move rfl) ?_
  refine wl (ro_nilCheck rfl) ?_
  refine wl (ro_indexAddrA (et := 119) (k := 3) rfl rfl ar_225 (rfl) ((by decide))) ?_
  refine wl (ro_loadAggB rfl ag_119 (hB5) (pvc_len _) (r0)) ?_
  refine wl_call rfl en_286 (textA hR.dr hv h6) ?_
  rintro _ u3 ⟨rfl, ow3, x3, f3, r3⟩
  obtain ⟨h4, kh4⟩ := vm_loc x3 f3 h4 kh4
  obtain ⟨h5, kh5⟩ := vm_loc x3 f3 h5 kh5
  have hs3 := hF.size
  replace hF := vm_trans hX hF f3
  replace hX := hX.trans hs3 x3
  replace hR := r3
  refine wl (ro_assign rfl) ?_
  refine wl_nil (x_then (hK2 _ _ ?_))
  clear hK2 K2
  refine forget [(4, _), (5, _), (6, _)] ⟨rfl, rfl, rfl, trivial⟩ (fun e => ?_)
  refine c_seq (fun K3 hK3 => ?_)
  refine c_reg ?_ -- region 2 call.go:120
  refine wl (ro_move rfl) ?_
  refine wl (ro_build rfl bld_119_0_2) ?_
  refine wl (ro_build rfl bld_119) ?_
  refine wl_puta rfl rfl ((pvc_one (vStr _))) sz_119 (rfl) h4 ((by simp)) (rfl) (fun w4 h4 F4 => ?_)
  replace hF := hF.thenDrew.thenO F4 (by first | exact .inr (by omega) | exact .inl rfl | exact .inl (by assumption) | assumption)
  replace hR := hR.hbput ((Fram.refl (one b4) _).thenDrew.thenO F4 (.inl rfl))
  replace h5 := F4.blkO h5 (by first | omega | exact ow_ne (by assumption) (by assumption) (by omega))
  refine wl_puta rfl rfl ((pvc_one vNil)) sz_119 (rfl) h5 ((by simp)) (rfl) (fun w5 h5 F5 => ?_)
  replace hF := hF.thenDrew.thenO F5 (by first | exact .inr (by omega) | exact .inl rfl | exact .inl (by assumption) | assumption)
  replace hR := hR.hbput ((Fram.refl (one b5) _).thenDrew.thenO F5 (.inl rfl))
  replace h4 := F5.blkO h4 (by first | omega | exact ow_ne (by assumption) (by assumption) (by omega))
  refine wl_nil (x_then (hK3 _ _ ?_))
  clear hK3 K3
  refine c_ret ?_
  refine bq_ret (res2 Tryz.results261 (rv_c rfl ag_119 (h4) (rfl)) (rv_c rfl ag_119 (h5) (rfl))) ?_
  exact ⟨rfl, _, hX, hF, hR⟩
set_option maxHeartbeats 4000000 in
theorem bTyp (hR : AM C fg fc w ow s) (hA : WinB w ab ao (rws pvc [a0, a1, a2])) :
    Ret Tryz.prog 263 [ptr C.E.mb, apt ab ao] w (AR C fg fc w ow (.tuple #[pv (vStr (tyName a0)), pv vNil]) s) := by
  have hX : Xt w ow ow := Xt.refl _ _
  have hF : Fram (tg ow vtT) w w := Fram.refl _ _
  obtain ⟨l, lt, hB5, hA⟩ := hA
  obtain ⟨r0, r1, r2⟩ := win_row hA
  refine ret_of Tryz.func263 rfl Tryz.ntmps263 rfl ?_
  refine c_seq (fun K1 hK1 => ?_)
  refine c_reg ?_ -- region 0 call.go:136
  refine wl_new (ze_119) (fun b4 w1 hbb4 h4 F1 => ?_)
  have hneabb4 : ab < b4 := Nat.lt_of_lt_of_le hB5.lt hbb4
  have hbsb4 := Nat.le_trans hF.size hbb4
  have kh4 := hR.df b4 hbb4
  replace hB5 := F1.blkN hB5
  replace hF := hF.thenDrew.thenN F1
  replace hR := hR.thruN ((Fram.refl none' _).thenDrew.thenN F1)
  refine wl_new (ze_119) (fun b5 w2 hbb5 h5 F2 => ?_)
  have hneabb5 : ab < b5 := Nat.lt_of_lt_of_le hB5.lt hbb5
  have hbsb5 := Nat.le_trans hF.size hbb5
  have hneb4b5 : b4 < b5 := Nat.lt_of_lt_of_le h4.lt hbb5
  have kh5 := hR.df b5 hbb5
  replace hB5 := F2.blkN hB5
  replace hF := hF.thenDrew.thenN F2
  replace hR := hR.thruN ((Fram.refl none' _).thenDrew.thenN F2)
  replace h4 := F2.blkN h4
  refine wl_nil (x_then (hK1 _ _ ?_))
  clear hK1 K1
  refine forget [(1, _), (4, _), (5, _)] ⟨rfl, rfl, rfl, trivial⟩ (fun e => ?_)
  refine c_seq (fun K2 hK2 => ?_)
  refine c_reg ?_ -- region 1 call.go:137
  refine wl (ro_move rfl) ?_
  refine wl (ro_nilCheck rfl) ?_
  refine wl (ro_indexAddrA (et := 119) (k := 3) rfl rfl ar_225 (rfl) ((by decide))) ?_
  refine wl (ro_loadAggB rfl ag_119 (hB5) (pvc_len _) (r0)) ?_
  refine wl_call rfl en_120 (TypeName120) ?_
  rintro _ w3 ⟨rfl, F3⟩
  replace hB5 := F3.blkN hB5
  replace hF := hF.thenDrew.thenN F3
  replace hR := hR.thruN ((Fram.refl none' _).thenDrew.thenN F3)
  replace h4 := F3.blkN h4
  replace h5 := F3.blkN h5
  refine wl (ro_assign rfl) ?_
  refine wl_nil (x_then (hK2 _ _ ?_))
  clear hK2 K2
  refine forget [(4, _), (5, _), (6, _)] ⟨rfl, rfl, rfl, trivial⟩ (fun e => ?_)
  refine c_seq (fun K3 hK3 => ?_)
  refine c_reg ?_ -- region 2 call.go:138
  refine wl (ro_move rfl) ?_
  refine wl (ro_build rfl bld_119_0_2) ?_
  refine wl (ro_build rfl bld_119) ?_
  refine wl_puta rfl rfl ((pvc_one (vStr _))) sz_119 (rfl) h4 ((by simp)) (rfl) (fun w4 h4 F4 => ?_)
  replace hB5 := F4.blkO hB5 (by first | omega | exact ow_ne (by assumption) (by assumption) (by omega))
  replace hF := hF.thenDrew.thenO F4 (by first | exact .inr (by omega) | exact .inl rfl | exact .inl (by assumption) | assumption)
  replace hR := hR.hbput ((Fram.refl (one b4) _).thenDrew.thenO F4 (.inl rfl))
  replace h5 := F4.blkO h5 (by first | omega | exact ow_ne (by assumption) (by assumption) (by omega))
  refine wl_puta rfl rfl ((pvc_one vNil)) sz_119 (rfl) h5 ((by simp)) (rfl) (fun w5 h5 F5 => ?_)
  replace hB5 := F5.blkO hB5 (by first | omega | exact ow_ne (by assumption) (by assumption) (by omega))
  replace hF := hF.thenDrew.thenO F5 (by first | exact .inr (by omega) | exact .inl rfl | exact .inl (by assumption) | assumption)
  replace hR := hR.hbput ((Fram.refl (one b5) _).thenDrew.thenO F5 (.inl rfl))
  replace h4 := F5.blkO h4 (by first | omega | exact ow_ne (by assumption) (by assumption) (by omega))
  refine wl_nil (x_then (hK3 _ _ ?_))
  clear hK3 K3
  refine c_ret ?_
  refine bq_ret (res2 Tryz.results263 (rv_c rfl ag_119 (h4) (rfl)) (rv_c rfl ag_119 (h5) (rfl))) ?_
  exact ⟨rfl, _, hX, hF, hR⟩
set_option maxHeartbeats 4000000 in
theorem bErr (hR : AM C fg fc w ow s) (hlt : s.cur < s.ths.length) (hA : WinB w ab ao (rws pvc [a0, a1, a2])) {z : AS} (hz : athrow a0 s = z) (hvw : wfV a0 = true ∧ W64 a0.N) :
    RetP Tryz.prog 264 [ptr C.E.mb, apt ab ao] w (fun r w' => False) (AE C (kH s) w ow z) := by
  have hX : Xt w ow ow := Xt.refl _ _
  have hF : Fram (tg ow vtT) w w := Fram.refl _ _
  obtain ⟨l, lt, hB5, hA⟩ := hA
  obtain ⟨r0, r1, r2⟩ := win_row hA
  refine retp_of Tryz.func264 rfl Tryz.ntmps264 rfl ?_
  refine c_seq (fun K1 hK1 => ?_)
  refine c_reg ?_ -- region 0 call.go:141
  refine wl_new (ze_119) (fun b4 w1 hbb4 h4 F1 => ?_)
  have hneabb4 : ab < b4 := Nat.lt_of_lt_of_le hB5.lt hbb4
  have hbsb4 := Nat.le_trans hF.size hbb4
  have kh4 := hR.df b4 hbb4
  replace hB5 := F1.blkN hB5
  replace hF := hF.thenDrew.thenN F1
  replace hR := hR.thruN ((Fram.refl none' _).thenDrew.thenN F1)
  refine wl_new (ze_119) (fun b5 w2 hbb5 h5 F2 => ?_)
  have hneabb5 : ab < b5 := Nat.lt_of_lt_of_le hB5.lt hbb5
  have hbsb5 := Nat.le_trans hF.size hbb5
  have hneb4b5 : b4 < b5 := Nat.lt_of_lt_of_le h4.lt hbb5
  have kh5 := hR.df b5 hbb5
  replace hB5 := F2.blkN hB5
  replace hF := hF.thenDrew.thenN F2
  replace hR := hR.thruN ((Fram.refl none' _).thenDrew.thenN F2)
  replace h4 := F2.blkN h4
  refine wl_nil (x_then (hK1 _ _ ?_))
  clear hK1 K1
  refine forget [(1, _), (4, _), (5, _)] ⟨rfl, rfl, rfl, trivial⟩ (fun e => ?_)
  refine c_seq (fun K2 hK2 => ?_)
  refine c_reg ?_ -- region 1 call.go:142
  refine wl (ro_move rfl) ?_
  refine wl (ro_nilCheck rfl) ?_
  refine wl (ro_indexAddrA (et := 119) (k := 3) rfl rfl ar_225 (rfl) ((by decide))) ?_
  refine wl (ro_loadAggB rfl ag_119 (hB5) (pvc_len _) (r0)) ?_
  refine wl_callP rfl en_287 (throw287) (fun pv w9 hE => bpp_pan (P := Tryz.prog) (fn := Tryz.f264) (AE.thr hX hF hR.q hE (hz))) ?_
  rintro _ _ ⟨⟩
set_option maxHeartbeats 4000000 in
theorem bNum (hR : AM C fg fc w ow s) (hA : WinB w ab ao (rws pvc [a0, a1, a2])) (hl : a0.S.length < 4611686018427387904) :
    Ret Tryz.prog 262 [ptr C.E.mb, apt ab ao] w (AR C fg fc w ow (.tuple #[pv (if a0.T = 2 then a0 else if a0.T = 3 then (match parN a0.S with | some x => vNum x | none => vNil) else vNil), pv vNil]) s) := by
  have hX : Xt w ow ow := Xt.refl _ _
  have hF : Fram (tg ow vtT) w w := Fram.refl _ _
  obtain ⟨l, lt, hB5, hA⟩ := hA
  obtain ⟨r0, r1, r2⟩ := win_row hA
  rcases (by omega : a0.T = 2 ∨ a0.T = 3 ∨ (a0.T ≠ 2 ∧ a0.T ≠ 3)) with ht | ht | ht
  · rw [if_pos ht]
    refine ret_of Tryz.func262 rfl Tryz.ntmps262 rfl ?_
    refine c_seq (fun K1 hK1 => ?_)
    refine c_reg ?_ -- region 0 call.go:123
    refine wl_new (ze_119) (fun b4 w1 hbb4 h4 F1 => ?_)
    have hneabb4 : ab < b4 := Nat.lt_of_lt_of_le hB5.lt hbb4
    have hbsb4 := Nat.le_trans hF.size hbb4
    have kh4 := hR.df b4 hbb4
    replace hB5 := F1.blkN hB5
    replace hF := hF.thenDrew.thenN F1
    replace hR := hR.thruN ((Fram.refl none' _).thenDrew.thenN F1)
    refine wl_new (ze_119) (fun b5 w2 hbb5 h5 F2 => ?_)
    have hneabb5 : ab < b5 := Nat.lt_of_lt_of_le hB5.lt hbb5
    have hbsb5 := Nat.le_trans hF.size hbb5
    have hneb4b5 : b4 < b5 := Nat.lt_of_lt_of_le h4.lt hbb5
    have kh5 := hR.df b5 hbb5
    replace hB5 := F2.blkN hB5
    replace hF := hF.thenDrew.thenN F2
    replace hR := hR.thruN ((Fram.refl none' _).thenDrew.thenN F2)
    replace h4 := F2.blkN h4
    refine wl_nil (x_then (hK1 _ _ ?_))
    clear hK1 K1
    refine c_seq (fun K2 hK2 => ?_)
    refine c_seq (fun K3 hK3 => ?_)
    refine c_reg ?_ -- region 1 call.go:124
    refine wl (ro_move rfl) ?_
    refine wl (ro_nilCheck rfl) ?_
    refine wl (ro_indexAddrA (et := 119) (k := 3) rfl rfl ar_225 (rfl) ((by decide))) ?_
    refine wl (ro_fieldAddr (k := 0) rfl fo_119_0) ?_
    refine wl (ro_loadB rfl sc_3 (hB5) (row_get r0 (by decide))) ?_
    refine wl_nil (x_then (hK3 _ _ ?_))
    clear hK3 K3
    refine c_block ?_
    refine forget [(0, _), (1, _), (4, _), (5, _), (12, _)] ⟨rfl, rfl, rfl, rfl, rfl, trivial⟩ (fun e => ?_)
    refine c_seq (fun K4 hK4 => ?_)
    refine c_reg ?_ -- region 2 call.go:125
    refine wl (ro_cmp (r := true) rfl rfl (by rw [ht]; rfl)) ?_
    refine wl (ro_assign rfl) ?_
    refine wl_nil (x_then (hK4 _ _ ?_))
    clear hK4 K4
    refine wc_condT rfl ?_
    refine c_seq (fun K5 hK5 => ?_)
    refine c_reg ?_ -- region 3 call.go:126
    refine wl (ro_move rfl) ?_
    refine wl (ro_nilCheck rfl) ?_
    refine wl (ro_indexAddrA (et := 119) (k := 3) rfl rfl ar_225 (rfl) ((by decide))) ?_
    refine wl (ro_loadAggB rfl ag_119 (hB5) (pvc_len _) (r0)) ?_
    refine wl (ro_build rfl bld_119) ?_
    refine wl_puta rfl rfl ((pvc_one a0)) sz_119 (rfl) h4 ((by simp)) (rfl) (fun w3 h4 F3 => ?_)
    replace hB5 := F3.blkO hB5 (by first | omega | exact ow_ne (by assumption) (by assumption) (by omega))
    replace hF := hF.thenDrew.thenO F3 (by first | exact .inr (by omega) | exact .inl rfl | exact .inl (by assumption) | assumption)
    replace hR := hR.hbput ((Fram.refl (one b4) _).thenDrew.thenO F3 (.inl rfl))
    replace h5 := F3.blkO h5 (by first | omega | exact ow_ne (by assumption) (by assumption) (by omega))
    refine wl_puta rfl rfl ((pvc_one vNil)) sz_119 (rfl) h5 ((by simp)) (rfl) (fun w4 h5 F4 => ?_)
    replace hB5 := F4.blkO hB5 (by first | omega | exact ow_ne (by assumption) (by assumption) (by omega))
    replace hF := hF.thenDrew.thenO F4 (by first | exact .inr (by omega) | exact .inl rfl | exact .inl (by assumption) | assumption)
    replace hR := hR.hbput ((Fram.refl (one b5) _).thenDrew.thenO F4 (.inl rfl))
    replace h4 := F4.blkO h4 (by first | omega | exact ow_ne (by assumption) (by assumption) (by omega))
    refine wl_nil (x_then (hK5 _ _ ?_))
    clear hK5 K5
    refine c_ret (x_blkR (x_thenR ?_))
    refine bq_ret (res2 Tryz.results262 (rv_c rfl ag_119 (h4) (rfl)) (rv_c rfl ag_119 (h5) (rfl))) ?_
    exact ⟨rfl, _, hX, hF, hR⟩
  · rw [if_neg (by omega), if_pos ht]
    rcases hp : parN a0.S with _ | x9
    · have hp0 := hp
      refine ret_of Tryz.func262 rfl Tryz.ntmps262 rfl ?_
      refine c_seq (fun K1 hK1 => ?_)
      refine c_reg ?_ -- region 0 call.go:123
      refine wl_new (ze_119) (fun b4 w1 hbb4 h4 F1 => ?_)
      have hneabb4 : ab < b4 := Nat.lt_of_lt_of_le hB5.lt hbb4
      have hbsb4 := Nat.le_trans hF.size hbb4
      have kh4 := hR.df b4 hbb4
      replace hB5 := F1.blkN hB5
      replace hF := hF.thenDrew.thenN F1
      replace hR := hR.thruN ((Fram.refl none' _).thenDrew.thenN F1)
      refine wl_new (ze_119) (fun b5 w2 hbb5 h5 F2 => ?_)
      have hneabb5 : ab < b5 := Nat.lt_of_lt_of_le hB5.lt hbb5
      have hbsb5 := Nat.le_trans hF.size hbb5
      have hneb4b5 : b4 < b5 := Nat.lt_of_lt_of_le h4.lt hbb5
      have kh5 := hR.df b5 hbb5
      replace hB5 := F2.blkN hB5
      replace hF := hF.thenDrew.thenN F2
      replace hR := hR.thruN ((Fram.refl none' _).thenDrew.thenN F2)
      replace h4 := F2.blkN h4
      refine wl_nil (x_then (hK1 _ _ ?_))
      clear hK1 K1
      refine c_seq (fun K2 hK2 => ?_)
      refine c_seq (fun K3 hK3 => ?_)
      refine c_reg ?_ -- region 1 call.go:124
      refine wl (ro_move rfl) ?_
      refine wl (ro_nilCheck rfl) ?_
      refine wl (ro_indexAddrA (et := 119) (k := 3) rfl rfl ar_225 (rfl) ((by decide))) ?_
      refine wl (ro_fieldAddr (k := 0) rfl fo_119_0) ?_
      refine wl (ro_loadB rfl sc_3 (hB5) (row_get r0 (by decide))) ?_
      refine wl_nil (x_then (hK3 _ _ ?_))
      clear hK3 K3
      refine c_block ?_
      refine forget [(0, _), (1, _), (4, _), (5, _), (12, _)] ⟨rfl, rfl, rfl, rfl, rfl, trivial⟩ (fun e => ?_)
      refine c_seq (fun K4 hK4 => ?_)
      refine c_reg ?_ -- region 2 call.go:125
      refine wl (ro_cmp (r := false) rfl rfl (by rw [ht]; rfl)) ?_
      refine wl (ro_assign rfl) ?_
      refine wl_nil (x_then (hK4 _ _ ?_))
      clear hK4 K4
      refine wc_condF rfl ?_
      refine c_seq (fun K5 hK5 => ?_)
      refine c_reg ?_ -- region 4 call.go:127
      refine wl (ro_cmp (r := true) rfl rfl (by rw [ht]; rfl)) ?_
      refine wl (ro_assign rfl) ?_
      refine wl_nil (x_then (hK5 _ _ ?_))
      clear hK5 K5
      refine wc_condT rfl ?_
      refine c_seq (fun K6 hK6 => ?_)
      refine c_pi [(0, false), (1, false), (2, false), (3, false), (4, false), (5, false), (6, false), (7, false), (8, false), (9, true), (10, false), (11, false), (12, false), (13, false), (14, false)] (La ab _ _ (La b4 _ _ (La b5 _ _ (Mz C)))) mixed (by kernel_rfl) rfl (by kernel_rfl) (po_then (po_blk (po_then (po_bp)))) (⟨hB5, h4, h5, hR.rz⟩) ?_ -- region 5 call.go:128
      refine pi_ro rfl (fun w hS => ro_move rfl) ?_
      refine pi_ro rfl (fun w hS => ro_nilCheck rfl) ?_
      refine pi_ro rfl (fun w hS => ro_fieldAddr (k := 0) rfl fo_89_0) ?_
      refine pi_ro rfl (fun w hS => let ⟨_, hc, h0, h1⟩ := hS.2.2.2; ro_loadB rfl sc_36 hc (h0)) ?_
      refine pi_ro rfl (fun w hS => ro_move rfl) ?_
      refine pi_ro rfl (fun w hS => ro_nilCheck rfl) ?_
      refine pi_ro rfl (fun w hS => ro_indexAddrA (et := 119) (k := 3) rfl rfl ar_225 (rfl) ((by decide))) ?_
      refine pi_ro rfl (fun w hS => ro_fieldAddr (k := 2) rfl fo_119_2) ?_
      refine pi_ro rfl (fun w hS => ro_loadB rfl sc_9 (hS.1) (row_get r0 (by decide))) ?_
      refine pi_call rfl rfl en_132 (Parse132 hl) ?_
      rintro v9 w9 ⟨hq9, F9⟩
      replace hB5 := F9.blkN hB5
      replace hF := hF.thenDrew.thenN F9
      replace hR := hR.thruN ((Fram.refl none' _).thenDrew.thenN F9)
      replace h4 := F9.blkN h4
      replace h5 := F9.blkN h5
      refine ⟨⟨hB5, h4, h5, hR.rz⟩, ?_⟩
      obtain ⟨e9, he9, rfl⟩ : ∃ e : Int, e ≠ 0 ∧ v9 = .tuple #[u64c 0, icv e] := by
        rcases hq9 with ⟨x9, hp9, rfl⟩ | ⟨hp9, e9, he9, rfl⟩
        · rw [hp] at hp9; cases hp9
        · exact ⟨e9, he9, rfl⟩
      refine pi_ro rfl (fun w hS => ro_move rfl) ?_
      refine pi_ro rfl (fun w hS => ro_extract rfl rfl) ?_
      refine pi_ro rfl (fun w hS => ro_extract rfl rfl) ?_
      refine pi_ro rfl (fun w hS => ro_assign rfl) ?_
      refine pi_ro rfl (fun w hS => ro_assign rfl) ?_
      refine pi_nil (x_then (hK6 _ _ ?_))
      clear hK6 K6
      refine forget [(4, _), (5, _), (6, _), (7, _)] ⟨rfl, rfl, rfl, rfl, trivial⟩ (fun e => ?_)
      refine c_seq (fun K7 hK7 => ?_)
      refine c_reg ?_ -- region 6 call.go:129
      refine wl (ro_move rfl) ?_
      refine wl (ro_cmp (r := false) rfl rfl (congrArg some (by simpa using he9))) ?_
      refine wl_nil (x_then (hK7 _ _ ?_))
      clear hK7 K7
      refine wc_condF rfl ?_
      refine c_skip (x_blk (x_then (hK2 _ _ ?_)))
      clear hK2 K2
      refine forget [(4, _), (5, _)] ⟨rfl, rfl, trivial⟩ (fun e => ?_)
      refine c_seq (fun K8 hK8 => ?_)
      refine c_reg ?_ -- region 8 call.go:133
      refine wl (ro_build rfl bld_119) ?_
      refine wl (ro_build rfl bld_119) ?_
      refine wl_puta rfl rfl ((pvc_one vNil)) sz_119 (rfl) h4 ((by simp)) (rfl) (fun w3 h4 F3 => ?_)
      replace hB5 := F3.blkO hB5 (by first | omega | exact ow_ne (by assumption) (by assumption) (by omega))
      replace hF := hF.thenDrew.thenO F3 (by first | exact .inr (by omega) | exact .inl rfl | exact .inl (by assumption) | assumption)
      replace hR := hR.hbput ((Fram.refl (one b4) _).thenDrew.thenO F3 (.inl rfl))
      replace h5 := F3.blkO h5 (by first | omega | exact ow_ne (by assumption) (by assumption) (by omega))
      refine wl_puta rfl rfl ((pvc_one vNil)) sz_119 (rfl) h5 ((by simp)) (rfl) (fun w4 h5 F4 => ?_)
      replace hB5 := F4.blkO hB5 (by first | omega | exact ow_ne (by assumption) (by assumption) (by omega))
      replace hF := hF.thenDrew.thenO F4 (by first | exact .inr (by omega) | exact .inl rfl | exact .inl (by assumption) | assumption)
      replace hR := hR.hbput ((Fram.refl (one b5) _).thenDrew.thenO F4 (.inl rfl))
      replace h4 := F4.blkO h4 (by first | omega | exact ow_ne (by assumption) (by assumption) (by omega))
      refine wl_nil (x_then (hK8 _ _ ?_))
      clear hK8 K8
      refine c_ret ?_
      refine bq_ret (res2 Tryz.results262 (rv_c rfl ag_119 (h4) (rfl)) (rv_c rfl ag_119 (h5) (rfl))) ?_
      exact ⟨rfl, _, hX, hF, hR⟩
    · have hp0 := hp
      refine ret_of Tryz.func262 rfl Tryz.ntmps262 rfl ?_
      refine c_seq (fun K1 hK1 => ?_)
      refine c_reg ?_ -- region 0 call.go:123
      refine wl_new (ze_119) (fun b4 w1 hbb4 h4 F1 => ?_)
      have hneabb4 : ab < b4 := Nat.lt_of_lt_of_le hB5.lt hbb4
      have hbsb4 := Nat.le_trans hF.size hbb4
      have kh4 := hR.df b4 hbb4
      replace hB5 := F1.blkN hB5
      replace hF := hF.thenDrew.thenN F1
      replace hR := hR.thruN ((Fram.refl none' _).thenDrew.thenN F1)
      refine wl_new (ze_119) (fun b5 w2 hbb5 h5 F2 => ?_)
      have hneabb5 : ab < b5 := Nat.lt_of_lt_of_le hB5.lt hbb5
      have hbsb5 := Nat.le_trans hF.size hbb5
      have hneb4b5 : b4 < b5 := Nat.lt_of_lt_of_le h4.lt hbb5
      have kh5 := hR.df b5 hbb5
      replace hB5 := F2.blkN hB5
      replace hF := hF.thenDrew.thenN F2
      replace hR := hR.thruN ((Fram.refl none' _).thenDrew.thenN F2)
      replace h4 := F2.blkN h4
      refine wl_nil (x_then (hK1 _ _ ?_))
      clear hK1 K1
      refine c_seq (fun K2 hK2 => ?_)
      refine c_seq (fun K3 hK3 => ?_)
      refine c_reg ?_ -- region 1 call.go:124
      refine wl (ro_move rfl) ?_
      refine wl (ro_nilCheck rfl) ?_
      refine wl (ro_indexAddrA (et := 119) (k := 3) rfl rfl ar_225 (rfl) ((by decide))) ?_
      refine wl (ro_fieldAddr (k := 0) rfl fo_119_0) ?_
      refine wl (ro_loadB rfl sc_3 (hB5) (row_get r0 (by decide))) ?_
      refine wl_nil (x_then (hK3 _ _ ?_))
      clear hK3 K3
      refine c_block ?_
      refine forget [(0, _), (1, _), (4, _), (5, _), (12, _)] ⟨rfl, rfl, rfl, rfl, rfl, trivial⟩ (fun e => ?_)
      refine c_seq (fun K4 hK4 => ?_)
      refine c_reg ?_ -- region 2 call.go:125
      refine wl (ro_cmp (r := false) rfl rfl (by rw [ht]; rfl)) ?_
      refine wl (ro_assign rfl) ?_
      refine wl_nil (x_then (hK4 _ _ ?_))
      clear hK4 K4
      refine wc_condF rfl ?_
      refine c_seq (fun K5 hK5 => ?_)
      refine c_reg ?_ -- region 4 call.go:127
      refine wl (ro_cmp (r := true) rfl rfl (by rw [ht]; rfl)) ?_
      refine wl (ro_assign rfl) ?_
      refine wl_nil (x_then (hK5 _ _ ?_))
      clear hK5 K5
      refine wc_condT rfl ?_
      refine c_seq (fun K6 hK6 => ?_)
      refine c_pi [(0, false), (1, false), (2, false), (3, false), (4, false), (5, false), (6, false), (7, false), (8, false), (9, true), (10, false), (11, false), (12, false), (13, false), (14, false)] (La ab _ _ (La b4 _ _ (La b5 _ _ (Mz C)))) mixed (by kernel_rfl) rfl (by kernel_rfl) (po_then (po_blk (po_then (po_bp)))) (⟨hB5, h4, h5, hR.rz⟩) ?_ -- region 5 call.go:128
      refine pi_ro rfl (fun w hS => ro_move rfl) ?_
      refine pi_ro rfl (fun w hS => ro_nilCheck rfl) ?_
      refine pi_ro rfl (fun w hS => ro_fieldAddr (k := 0) rfl fo_89_0) ?_
      refine pi_ro rfl (fun w hS => let ⟨_, hc, h0, h1⟩ := hS.2.2.2; ro_loadB rfl sc_36 hc (h0)) ?_
      refine pi_ro rfl (fun w hS => ro_move rfl) ?_
      refine pi_ro rfl (fun w hS => ro_nilCheck rfl) ?_
      refine pi_ro rfl (fun w hS => ro_indexAddrA (et := 119) (k := 3) rfl rfl ar_225 (rfl) ((by decide))) ?_
      refine pi_ro rfl (fun w hS => ro_fieldAddr (k := 2) rfl fo_119_2) ?_
      refine pi_ro rfl (fun w hS => ro_loadB rfl sc_9 (hS.1) (row_get r0 (by decide))) ?_
      refine pi_call rfl rfl en_132 (Parse132 hl) ?_
      rintro v9 w9 ⟨hq9, F9⟩
      replace hB5 := F9.blkN hB5
      replace hF := hF.thenDrew.thenN F9
      replace hR := hR.thruN ((Fram.refl none' _).thenDrew.thenN F9)
      replace h4 := F9.blkN h4
      replace h5 := F9.blkN h5
      refine ⟨⟨hB5, h4, h5, hR.rz⟩, ?_⟩
      obtain rfl : v9 = .tuple #[u64c x9, icv 0] := by
        rcases hq9 with ⟨x9, hp9, rfl⟩ | ⟨hp9, e9, he9, rfl⟩
        · rw [hp] at hp9; injection hp9 with hp9; rw [hp9]
        · rw [hp] at hp9; cases hp9
      refine pi_ro rfl (fun w hS => ro_move rfl) ?_
      refine pi_ro rfl (fun w hS => ro_extract rfl rfl) ?_
      refine pi_ro rfl (fun w hS => ro_extract rfl rfl) ?_
      refine pi_ro rfl (fun w hS => ro_assign rfl) ?_
      refine pi_ro rfl (fun w hS => ro_assign rfl) ?_
      refine pi_nil (x_then (hK6 _ _ ?_))
      clear hK6 K6
      refine forget [(4, _), (5, _), (6, _), (7, _)] ⟨rfl, rfl, rfl, rfl, trivial⟩ (fun e => ?_)
      refine c_seq (fun K7 hK7 => ?_)
      refine c_reg ?_ -- region 6 call.go:129
      refine wl (ro_move rfl) ?_
      refine wl (ro_cmp rfl rfl rfl) ?_
      refine wl_nil (x_then (hK7 _ _ ?_))
      clear hK7 K7
      refine wc_condT rfl ?_
      refine c_seq (fun K8 hK8 => ?_)
      refine c_reg ?_ -- region 7 call.go:130
      refine wl (ro_move rfl) ?_
      refine wl (ro_build rfl bld_119_0_1) ?_
      refine wl (ro_build rfl bld_119) ?_
      refine wl_puta rfl rfl ((pvc_one (vNum x9))) sz_119 (rfl) h4 ((by simp)) (rfl) (fun w3 h4 F3 => ?_)
      replace hB5 := F3.blkO hB5 (by first | omega | exact ow_ne (by assumption) (by assumption) (by omega))
      replace hF := hF.thenDrew.thenO F3 (by first | exact .inr (by omega) | exact .inl rfl | exact .inl (by assumption) | assumption)
      replace hR := hR.hbput ((Fram.refl (one b4) _).thenDrew.thenO F3 (.inl rfl))
      replace h5 := F3.blkO h5 (by first | omega | exact ow_ne (by assumption) (by assumption) (by omega))
      refine wl_puta rfl rfl ((pvc_one vNil)) sz_119 (rfl) h5 ((by simp)) (rfl) (fun w4 h5 F4 => ?_)
      replace hB5 := F4.blkO hB5 (by first | omega | exact ow_ne (by assumption) (by assumption) (by omega))
      replace hF := hF.thenDrew.thenO F4 (by first | exact .inr (by omega) | exact .inl rfl | exact .inl (by assumption) | assumption)
      replace hR := hR.hbput ((Fram.refl (one b5) _).thenDrew.thenO F4 (.inl rfl))
      replace h4 := F4.blkO h4 (by first | omega | exact ow_ne (by assumption) (by assumption) (by omega))
      refine wl_nil (x_then (hK8 _ _ ?_))
      clear hK8 K8
      refine c_ret (x_blkR (x_thenR ?_))
      refine bq_ret (res2 Tryz.results262 (rv_c rfl ag_119 (h4) (rfl)) (rv_c rfl ag_119 (h5) (rfl))) ?_
      exact ⟨rfl, _, hX, hF, hR⟩
  · rw [if_neg (by omega), if_neg (by omega)]
    refine ret_of Tryz.func262 rfl Tryz.ntmps262 rfl ?_
    refine c_seq (fun K1 hK1 => ?_)
    refine c_reg ?_ -- region 0 call.go:123
    refine wl_new (ze_119) (fun b4 w1 hbb4 h4 F1 => ?_)
    have hneabb4 : ab < b4 := Nat.lt_of_lt_of_le hB5.lt hbb4
    have hbsb4 := Nat.le_trans hF.size hbb4
    have kh4 := hR.df b4 hbb4
    replace hB5 := F1.blkN hB5
    replace hF := hF.thenDrew.thenN F1
    replace hR := hR.thruN ((Fram.refl none' _).thenDrew.thenN F1)
    refine wl_new (ze_119) (fun b5 w2 hbb5 h5 F2 => ?_)
    have hneabb5 : ab < b5 := Nat.lt_of_lt_of_le hB5.lt hbb5
    have hbsb5 := Nat.le_trans hF.size hbb5
    have hneb4b5 : b4 < b5 := Nat.lt_of_lt_of_le h4.lt hbb5
    have kh5 := hR.df b5 hbb5
    replace hB5 := F2.blkN hB5
    replace hF := hF.thenDrew.thenN F2
    replace hR := hR.thruN ((Fram.refl none' _).thenDrew.thenN F2)
    replace h4 := F2.blkN h4
    refine wl_nil (x_then (hK1 _ _ ?_))
    clear hK1 K1
    refine c_seq (fun K2 hK2 => ?_)
    refine c_seq (fun K3 hK3 => ?_)
    refine c_reg ?_ -- region 1 call.go:124
    refine wl (ro_move rfl) ?_
    refine wl (ro_nilCheck rfl) ?_
    refine wl (ro_indexAddrA (et := 119) (k := 3) rfl rfl ar_225 (rfl) ((by decide))) ?_
    refine wl (ro_fieldAddr (k := 0) rfl fo_119_0) ?_
    refine wl (ro_loadB rfl sc_3 (hB5) (row_get r0 (by decide))) ?_
    refine wl_nil (x_then (hK3 _ _ ?_))
    clear hK3 K3
    refine c_block ?_
    refine forget [(0, _), (1, _), (4, _), (5, _), (12, _)] ⟨rfl, rfl, rfl, rfl, rfl, trivial⟩ (fun e => ?_)
    refine c_seq (fun K4 hK4 => ?_)
    refine c_reg ?_ -- region 2 call.go:125
    refine wl (ro_cmp (r := false) rfl rfl (congrArg some (by simp; omega))) ?_
    refine wl (ro_assign rfl) ?_
    refine wl_nil (x_then (hK4 _ _ ?_))
    clear hK4 K4
    refine wc_condF rfl ?_
    refine c_seq (fun K5 hK5 => ?_)
    refine c_reg ?_ -- region 4 call.go:127
    refine wl (ro_cmp (r := false) rfl rfl (congrArg some (by simp; omega))) ?_
    refine wl (ro_assign rfl) ?_
    refine wl_nil (x_then (hK5 _ _ ?_))
    clear hK5 K5
    refine wc_condF rfl ?_
    refine c_skip (x_blk (x_then (hK2 _ _ ?_)))
    clear hK2 K2
    refine forget [(4, _), (5, _)] ⟨rfl, rfl, trivial⟩ (fun e => ?_)
    refine c_seq (fun K6 hK6 => ?_)
    refine c_reg ?_ -- region 8 call.go:133
    refine wl (ro_build rfl bld_119) ?_
    refine wl (ro_build rfl bld_119) ?_
    refine wl_puta rfl rfl ((pvc_one vNil)) sz_119 (rfl) h4 ((by simp)) (rfl) (fun w3 h4 F3 => ?_)
    replace hB5 := F3.blkO hB5 (by first | omega | exact ow_ne (by assumption) (by assumption) (by omega))
    replace hF := hF.thenDrew.thenO F3 (by first | exact .inr (by omega) | exact .inl rfl | exact .inl (by assumption) | assumption)
    replace hR := hR.hbput ((Fram.refl (one b4) _).thenDrew.thenO F3 (.inl rfl))
    replace h5 := F3.blkO h5 (by first | omega | exact ow_ne (by assumption) (by assumption) (by omega))
    refine wl_puta rfl rfl ((pvc_one vNil)) sz_119 (rfl) h5 ((by simp)) (rfl) (fun w4 h5 F4 => ?_)
    replace hB5 := F4.blkO hB5 (by first | omega | exact ow_ne (by assumption) (by assumption) (by omega))
    replace hF := hF.thenDrew.thenO F4 (by first | exact .inr (by omega) | exact .inl rfl | exact .inl (by assumption) | assumption)
    replace hR := hR.hbput ((Fram.refl (one b5) _).thenDrew.thenO F4 (.inl rfl))
    replace h4 := F4.blkO h4 (by first | omega | exact ow_ne (by assumption) (by assumption) (by omega))
    refine wl_nil (x_then (hK6 _ _ ?_))
    clear hK6 K6
    refine c_ret ?_
    refine bq_ret (res2 Tryz.results262 (rv_c rfl ag_119 (h4) (rfl)) (rv_c rfl ag_119 (h5) (rfl))) ?_
    exact ⟨rfl, _, hX, hF, hR⟩
end
end Go.Proofs.Qxb6500568aGreatDoor
