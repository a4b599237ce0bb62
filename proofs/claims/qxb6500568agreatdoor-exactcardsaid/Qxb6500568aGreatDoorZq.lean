import Derived.Test.Qxb6500568aGreatDoorZp
/- The compiler: short cuts, calls (written by tools/mk_zx.py). -/
namespace Go.Proofs.Qxb6500568aGreatDoor
open Ieee
set_option linter.unusedVariables false
set_option linter.unusedSimpArgs false
set_option linter.unusedSectionVars false

theorem setX_mid {c d : Cod} {o y x : Nat} : setX (c ++ [(o, y)] ++ d) c.length x = c ++ [(o, x)] ++ d := by
  unfold setX
  rw [modify_setL (x := (o, y)) (by simp) (fun i => (i.1, x)), List.append_assoc, List.set_append_right _ _ (Nat.le_refl _), Nat.sub_self]
  simp
set_option maxHeartbeats 16000000 in
theorem xe_land {a b : Tr} (ha : XE a) (hb : XE b) : XE (Ex.land a b) := by
  intro E w ow O S f q n hR hi hw hpa hx
  obtain ⟨hn0, hK, hi1, hi2⟩ := IsE_land.1 hi
  have hn : n < E.G.length := nd_lt (by rw [hK]; decide)
  obtain ⟨hw1, hw2⟩ : W a false f.L.length ∧ W b false f.L.length := hw
  obtain ⟨hp1, hp2⟩ : PaT E.pa a f.j ∧ PaT E.pa b f.j := hpa
  have hx0 : FX E S f q (numsT a ++ (numsT b ++ [])) (100 * ndT a + (100 * ndT b + 100)) := by
    have hx : FX E S f q (numsT a ++ numsT b) (100 * (1 + ndT a + ndT b)) := hx
    rw [List.append_nil]
    exact hx.le (by omega)
  have hF : Fram (tg ow cpT) w w := Fram.refl _ _
  have hX : Xt w ow ow := Xt.refl _ _
  obtain ⟨gn, capn, ln_, env, hN, khN, hcapn, hrow⟩ := hR.nodes (by omega)
  obtain ⟨pn, hpn⟩ := hrow n hn
  have hcl : 3 * f.code.length ≤ 31000 := hx.clen
  refine ret_of Tryz.func186 rfl Tryz.ntmps186 rfl ?_
  refine c_seq (fun K1 hK1 => ?_)
  refine c_reg ?_ -- region 0 expr.go:6
  refine wl_box rfl rfl (fun b2 w1 hbb2 h2 F1 => ?_)
  have hbsb2 := Nat.le_trans hF.size hbb2
  have hnegnb2 : gn < b2 := Nat.lt_of_lt_of_le hN.lt hbb2
  have kh2 := hR.df b2 hbb2
  replace hF := hF.thenDrew.thenN F1
  replace hR := hR.thruN ((Fram.refl none' _).thenDrew.thenN F1)
  replace hN := F1.blkN hN
  refine wl_nil (x_then (hK1 _ _ ?_))
  clear hK1 K1
  refine forget [(1, _), (2, _)] ⟨rfl, rfl, trivial⟩ (fun e => ?_)
  refine c_seq (fun K2 hK2 => ?_)
  obtain ⟨R_, z_, op⟩ := hR.open (f := f) (by simp)
  have hG := op.B
  have hC := hR.cb
  have khG := hR.ta
  have khC := hR.tc
  rw [env] at hC
  refine c_reg ?_ -- region 1 expr.go:7
  refine wl (ro_loadB rfl sc_128 (by assumption) rfl) ?_
  refine wl (ro_nilCheck rfl) ?_
  refine wl (ro_fieldAddr (k := 0) rfl fo_199_0) ?_
  refine wl (ro_loadB rfl sc_22 hG (op.row 0 (by decide))) ?_
  refine wl (ro_nilCheck rfl) ?_
  refine wl (ro_fieldAddr (k := 2) rfl fo_94_2) ?_
  refine wl (ro_loadB rfl sc_77 (hC) rfl) ?_
  refine wl (ro_move rfl) ?_
  refine wl (ro_indexAddr (et := 148) (k := 8) rfl rfl se_77 (rfl) (hn)) ?_
  refine wl (ro_loadAggB rfl ag_148 (hN) (rfl) (hpn)) ?_
  refine wl_new (ze_148) (fun b4 w2 hbb4 h4 F2 => ?_)
  have hbsb4 := Nat.le_trans hF.size hbb4
  have hnegnb4 : gn < b4 := Nat.lt_of_lt_of_le hN.lt hbb4
  have hneb2b4 : b2 < b4 := Nat.lt_of_lt_of_le h2.lt hbb4
  have hneE.gbb4 : E.gb < b4 := Nat.lt_of_lt_of_le hG.lt hbb4
  have hneE.cbb4 : E.cb < b4 := Nat.lt_of_lt_of_le hC.lt hbb4
  have kh4 := hR.df b4 hbb4
  replace hF := hF.thenDrew.thenN F2
  replace hR := hR.thruN ((Fram.refl none' _).thenDrew.thenN F2)
  replace hN := F2.blkN hN
  replace h2 := F2.blkN h2
  replace hG := F2.blkN hG
  replace hC := F2.blkN hC
  refine wl_puta rfl rfl ((ndc_one _)) sz_148 (rfl) h4 ((by simp)) (rfl) (fun w3 h4 F3 => ?_)
  replace hF := hF.thenDrew.thenO F3 (by first | exact .inr (by omega) | exact .inl rfl | exact .inl (by assumption) | assumption)
  replace hR := hR.hbput ((Fram.refl (one b4) _).thenDrew.thenO F3 (.inl rfl))
  replace hN := F3.blkO hN (by first | omega | exact ow_ne (by assumption) (by assumption) (by omega))
  replace h2 := F3.blkO h2 (by first | omega | exact ow_ne (by assumption) (by assumption) (by omega))
  replace hG := F3.blkO hG (by first | omega | exact ow_ne (by assumption) (by assumption) (by omega))
  replace hC := F3.blkO hC (by first | omega | exact ow_ne (by assumption) (by assumption) (by omega))
  have h4 : Blk (w3).heap b4 [i64c 24, i64c (nd E.G n).A, i64c (nd E.G n).B, i64c (nd E.G n).C, i64c (nd E.G n).Nx, u64c (nd E.G n).N, Go.Proofs.Qxb6500568aGreatDoor.S (nd E.G n).S, i64c pn] 148 := by rw [← hK]; exact h4
  refine wl_nil (x_then (hK2 _ _ ?_))
  clear hK2 K2
  refine forget [(1, _), (2, _), (4, _)] ⟨rfl, rfl, rfl, trivial⟩ (fun e => ?_)
  refine c_seq (fun K3 hK3 => ?_)
  refine c_reg ?_ -- region 2 expr.go:8
  refine wl (ro_fieldAddr (k := 0) rfl fo_148_0) ?_
  refine wl (ro_loadB rfl sc_3 (by assumption) rfl) ?_
  refine wl_nil (x_then (hK3 _ _ ?_))
  clear hK3 K3
  refine c_block ?_
  refine c_seq (fun K4 hK4 => ?_)
  refine c_seq (fun K5 hK5 => ?_)
  refine c_reg ?_ -- region 3 expr.go:9
  refine wl (ro_cmp rfl rfl rfl) ?_
  refine wl (ro_assign rfl) ?_
  refine wl_nil (x_then (hK5 _ _ ?_))
  clear hK5 K5
  refine wc_condF rfl ?_
  refine c_reg ?_ -- region 4 expr.go:9
  refine wl (ro_cmp rfl rfl rfl) ?_
  refine wl (ro_assign rfl) ?_
  refine wl_nil (x_then (hK4 _ _ ?_))
  clear hK4 K4
  refine wc_condF rfl ?_
  refine c_seq (fun K6 hK6 => ?_)
  refine c_reg ?_ -- region 6 expr.go:11
  refine wl (ro_cmp rfl rfl rfl) ?_
  refine wl (ro_assign rfl) ?_
  refine wl_nil (x_then (hK6 _ _ ?_))
  clear hK6 K6
  refine wc_condF rfl ?_
  refine c_seq (fun K7 hK7 => ?_)
  refine c_reg ?_ -- region 8 expr.go:13
  refine wl (ro_cmp rfl rfl rfl) ?_
  refine wl (ro_assign rfl) ?_
  refine wl_nil (x_then (hK7 _ _ ?_))
  clear hK7 K7
  refine wc_condF rfl ?_
  refine c_seq (fun K8 hK8 => ?_)
  refine c_reg ?_ -- region 10 expr.go:15
  refine wl (ro_cmp rfl rfl rfl) ?_
  refine wl (ro_assign rfl) ?_
  refine wl_nil (x_then (hK8 _ _ ?_))
  clear hK8 K8
  refine wc_condF rfl ?_
  refine c_seq (fun K9 hK9 => ?_)
  refine c_reg ?_ -- region 13 expr.go:18
  refine wl (ro_cmp rfl rfl rfl) ?_
  refine wl (ro_assign rfl) ?_
  refine wl_nil (x_then (hK9 _ _ ?_))
  clear hK9 K9
  refine wc_condF rfl ?_
  refine c_seq (fun K10 hK10 => ?_)
  refine c_reg ?_ -- region 16 expr.go:21
  refine wl (ro_cmp rfl rfl rfl) ?_
  refine wl (ro_assign rfl) ?_
  refine wl_nil (x_then (hK10 _ _ ?_))
  clear hK10 K10
  refine wc_condF rfl ?_
  refine c_seq (fun K11 hK11 => ?_)
  refine c_reg ?_ -- region 18 expr.go:23
  refine wl (ro_cmp rfl rfl rfl) ?_
  refine wl (ro_assign rfl) ?_
  refine wl_nil (x_then (hK11 _ _ ?_))
  clear hK11 K11
  refine wc_condF rfl ?_
  refine c_seq (fun K12 hK12 => ?_)
  refine c_reg ?_ -- region 22 expr.go:27
  refine wl (ro_cmp rfl rfl rfl) ?_
  refine wl (ro_assign rfl) ?_
  refine wl_nil (x_then (hK12 _ _ ?_))
  clear hK12 K12
  refine wc_condF rfl ?_
  refine c_seq (fun K13 hK13 => ?_)
  refine c_reg ?_ -- region 25 expr.go:30
  refine wl (ro_cmp rfl rfl rfl) ?_
  refine wl (ro_assign rfl) ?_
  refine wl_nil (x_then (hK13 _ _ ?_))
  clear hK13 K13
  refine wc_condF rfl ?_
  refine c_seq (fun K14 hK14 => ?_)
  refine c_reg ?_ -- region 27 expr.go:32
  refine wl (ro_cmp rfl rfl rfl) ?_
  refine wl (ro_assign rfl) ?_
  refine wl_nil (x_then (hK14 _ _ ?_))
  clear hK14 K14
  refine wc_condF rfl ?_
  refine c_seq (fun K15 hK15 => ?_)
  refine c_reg ?_ -- region 31 expr.go:40
  refine wl (ro_cmp rfl rfl rfl) ?_
  refine wl (ro_assign rfl) ?_
  refine wl_nil (x_then (hK15 _ _ ?_))
  clear hK15 K15
  refine wc_condF rfl ?_
  refine c_seq (fun K16 hK16 => ?_)
  refine c_reg ?_ -- region 36 expr.go:45
  refine wl (ro_cmp rfl rfl rfl) ?_
  refine wl (ro_assign rfl) ?_
  refine wl_nil (x_then (hK16 _ _ ?_))
  clear hK16 K16
  refine wc_condF rfl ?_
  refine c_seq (fun K17 hK17 => ?_)
  refine c_seq (fun K18 hK18 => ?_)
  refine c_reg ?_ -- region 40 expr.go:49
  refine wl (ro_cmp rfl rfl rfl) ?_
  refine wl (ro_assign rfl) ?_
  refine wl_nil (x_then (hK18 _ _ ?_))
  clear hK18 K18
  refine wc_condT rfl ?_
  refine c_skip (x_then (hK17 _ _ ?_))
  clear hK17 K17
  refine wc_condT rfl ?_
  refine c_seq (fun K19 hK19 => ?_)
  refine c_reg ?_ -- region 42 expr.go:50
  refine wl (ro_loadB rfl sc_128 (by assumption) rfl) ?_
  refine wl (ro_fieldAddr (k := 1) rfl fo_148_1) ?_
  refine wl (ro_loadB rfl sc_3 (by assumption) rfl) ?_
  refine wl_call rfl en_186 (ha E _ _ _ _ f q _ hR.dr hi1 hw1 hp1 (hx0.left.le (by omega))) ?_
  rintro _ u4 ⟨rfl, ow4, x4, f4, r4⟩
  obtain ⟨hN, khN⟩ := cp_loc x4 f4 hN khN
  obtain ⟨h2, kh2⟩ := cp_loc x4 f4 h2 kh2
  obtain ⟨h4, kh4⟩ := cp_loc x4 f4 h4 kh4
  have hs4 := hF.size
  replace hF := cp_trans hX hF f4
  replace hX := hX.trans hs4 x4
  replace hR := r4
  have hx1 := hx0.eE hi1 hw1
  obtain ⟨S1, hS1⟩ : ∃ z9, z9 = (cmp a 0 (chn (f :: q)) 0 f.code.length S).2 := ⟨_, rfl⟩
  obtain ⟨c1, hc1⟩ : ∃ z9, z9 = f.code ++ (cmp a 0 (chn (f :: q)) 0 f.code.length S).1 65535 := ⟨_, rfl⟩
  have hl1 : c1.length = f.code.length + ln (cmp a 0 (chn (f :: q)) 0 f.code.length S) := by rw [hc1, List.length_append]; congr 1; exact hx0.ln
  replace hx1 : FX E (cmp a 0 (chn (f :: q)) 0 f.code.length S).2 { f with code := f.code ++ (cmp a 0 (chn (f :: q)) 0 f.code.length S).1 65535 } q _ _ := hx1
  have hR : CM E _ _ _ (cmp a 0 (chn (f :: q)) 0 f.code.length S).2 ({ f with code := f.code ++ (cmp a 0 (chn (f :: q)) 0 f.code.length S).1 65535 } :: q) := hR
  rw [← hS1, ← hc1] at hR hx1
  have hk1 : 3 * c1.length ≤ 31000 := hx1.clen
  refine wl_nil (x_then (hK19 _ _ ?_))
  clear hK19 K19
  refine forget [(2, _), (4, _)] ⟨rfl, rfl, trivial⟩ (fun e => ?_)
  refine c_seq (fun K20 hK20 => ?_)
  refine c_reg ?_ -- region 43 expr.go:51
  refine wl (ro_assign rfl) ?_
  refine wl_nil (x_then (hK20 _ _ ?_))
  clear hK20 K20
  refine c_seq (fun K21 hK21 => ?_)
  refine c_seq (fun K22 hK22 => ?_)
  refine c_reg ?_ -- region 44 expr.go:52
  refine wl (ro_fieldAddr (k := 0) rfl fo_148_0) ?_
  refine wl (ro_loadB rfl sc_3 (by assumption) rfl) ?_
  refine wl (ro_cmp rfl rfl rfl) ?_
  refine wl_nil (x_then (hK22 _ _ ?_))
  clear hK22 K22
  refine wc_condF rfl ?_
  refine c_skip (x_then (hK21 _ _ ?_))
  clear hK21 K21
  refine forget [(2, _), (4, _), (10, _)] ⟨rfl, rfl, rfl, trivial⟩ (fun e => ?_)
  refine c_seq (fun K23 hK23 => ?_)
  refine c_reg ?_ -- region 46 expr.go:55
  refine wl (ro_loadB rfl sc_128 (by assumption) rfl) ?_
  refine wl (ro_move rfl) ?_
  refine wl_call rfl en_195 (jump195 (oc := 23) hR (by simp only; omega)) ?_
  rintro v9 u9 ⟨ow9, x9, f9, r9, ⟨p2, p5, rfl, hq2, khq2, hq5, khq5⟩⟩
  obtain ⟨hN, khN⟩ := cp_loc x9 f9 hN khN
  obtain ⟨h2, kh2⟩ := cp_loc x9 f9 h2 kh2
  obtain ⟨h4, kh4⟩ := cp_loc x9 f9 h4 kh4
  have hs9 := hF.size
  replace hF := cp_trans hX hF f9
  replace hX := hX.trans hs9 x9
  replace hR := r9
  obtain ⟨c1m, hc1m⟩ : ∃ z9, z9 = c1 ++ [(23, 65535)] := ⟨_, rfl⟩
  have hlc1m : c1m.length = c1.length + 1 := by rw [hc1m, List.length_append]; rfl
  have hx1m : FX E _ { f with code := c1 ++ [(23, 65535)] } q _ (100 * ndT b + 90) := FX.emit (B' := 100 * ndT b + 90) hx1 (by simp; omega)
  have hR : CM E _ _ _ _ ({ f with code := c1 ++ [(23, 65535)] } :: q) := hR
  rw [← hc1m] at hR hx1m
  have hkc1m : 3 * c1m.length ≤ 31000 := hx1m.clen
  refine wl (ro_assign rfl) ?_
  refine wl_nil (x_then (hK23 _ _ ?_))
  clear hK23 K23
  refine forget [(2, _), (4, _), (11, _)] ⟨rfl, rfl, rfl, trivial⟩ (fun e => ?_)
  refine c_seq (fun K24 hK24 => ?_)
  refine c_reg ?_ -- region 47 expr.go:56
  refine wl (ro_loadB rfl sc_128 (by assumption) rfl) ?_
  refine wl (ro_fieldAddr (k := 2) rfl fo_148_2) ?_
  refine wl (ro_loadB rfl sc_3 (by assumption) rfl) ?_
  refine wl_call rfl en_186 (hb E _ _ _ _ { f with code := c1m } q _ hR.dr hi2 hw2 hp2 (hx1m.left.le (by omega))) ?_
  rintro _ u5 ⟨rfl, ow5, x5, f5, r5⟩
  obtain ⟨hN, khN⟩ := cp_loc x5 f5 hN khN
  obtain ⟨h2, kh2⟩ := cp_loc x5 f5 h2 kh2
  obtain ⟨h4, kh4⟩ := cp_loc x5 f5 h4 kh4
  obtain ⟨hq2, khq2⟩ := cp_loc x5 f5 hq2 khq2
  obtain ⟨hq5, khq5⟩ := cp_loc x5 f5 hq5 khq5
  have hs5 := hF.size
  replace hF := cp_trans hX hF f5
  replace hX := hX.trans hs5 x5
  replace hR := r5
  have hx2 := hx1m.eE hi2 hw2
  obtain ⟨S2, hS2⟩ : ∃ z9, z9 = (cmp b 0 (chn (f :: q)) 0 c1m.length S1).2 := ⟨_, rfl⟩
  obtain ⟨c2, hc2⟩ : ∃ z9, z9 = c1m ++ (cmp b 0 (chn (f :: q)) 0 c1m.length S1).1 65535 := ⟨_, rfl⟩
  have hl2 : c2.length = c1m.length + ln (cmp b 0 (chn (f :: q)) 0 c1m.length S1) := by rw [hc2, List.length_append]; congr 1; exact hx1m.ln
  replace hx2 : FX E (cmp b 0 (chn (f :: q)) 0 c1m.length S1).2 { f with code := c1m ++ (cmp b 0 (chn (f :: q)) 0 c1m.length S1).1 65535 } q _ _ := hx2
  have hR : CM E _ _ _ (cmp b 0 (chn (f :: q)) 0 c1m.length S1).2 ({ f with code := c1m ++ (cmp b 0 (chn (f :: q)) 0 c1m.length S1).1 65535 } :: q) := hR
  rw [← hS2, ← hc2] at hR hx2
  have hk2 : 3 * c2.length ≤ 31000 := hx2.clen
  refine wl_nil (x_then (hK24 _ _ ?_))
  clear hK24 K24
  refine c_reg ?_ -- region 48 expr.go:57
  refine wl (ro_move rfl) ?_
  refine wl_callV rfl rfl (patch237 (p := c1.length) hR ⟨p2, p5, rfl, hq2, khq2, hq5, khq5⟩ (by show c1.length < c2.length; omega) (by show c2.length ≤ _; omega)) ?_
  rintro _ u8 ⟨rfl, ow8, x8, f8, r8⟩
  obtain ⟨hN, khN⟩ := cp_loc x8 f8 hN khN
  obtain ⟨h2, kh2⟩ := cp_loc x8 f8 h2 kh2
  obtain ⟨h4, kh4⟩ := cp_loc x8 f8 h4 kh4
  obtain ⟨hq2, khq2⟩ := cp_loc x8 f8 hq2 khq2
  obtain ⟨hq5, khq5⟩ := cp_loc x8 f8 hq5 khq5
  have hs8 := hF.size
  replace hF := cp_trans hX hF f8
  replace hX := hX.trans hs8 x8
  replace hR := r8
  refine wl_nil (x_blk ?_)
  refine bp_end Tryz.results186 rfl ?_
  refine ⟨rfl, _, hX, hF, ?_⟩
  rw [List.append_assoc] at hR
  have hR : CM E _ _ (O ++ (numsT a ++ numsT b)) S2 ({ f with code := setX c2 c1.length c2.length } :: q) := hR
  show CM E _ _ (O ++ (numsT a ++ numsT b)) (cmp b 0 (chn (f :: q)) 0 (f.code.length + ln (cmp a 0 (chn (f :: q)) 0 f.code.length S) + 1) (cmp a 0 (chn (f :: q)) 0 f.code.length S).2).2 ({ f with code := f.code ++ ((cmp a 0 (chn (f :: q)) 0 f.code.length S).1 65535 ++ [(23, f.code.length + ln (cmp a 0 (chn (f :: q)) 0 f.code.length S) + 1 + ln (cmp b 0 (chn (f :: q)) 0 (f.code.length + ln (cmp a 0 (chn (f :: q)) 0 f.code.length S) + 1) (cmp a 0 (chn (f :: q)) 0 f.code.length S).2))] ++ (cmp b 0 (chn (f :: q)) 0 (f.code.length + ln (cmp a 0 (chn (f :: q)) 0 f.code.length S) + 1) (cmp a 0 (chn (f :: q)) 0 f.code.length S).2).1 65535) } :: q)
  rw [← hl1, ← hlc1m, ← hS1, ← hS2, ← hl2]
  rw [show f.code ++ ((cmp a 0 (chn (f :: q)) 0 f.code.length S).1 65535 ++ [(23, c2.length)] ++ (cmp b 0 (chn (f :: q)) 0 c1m.length S1).1 65535) = setX c2 c1.length c2.length by
    have e : c2 = c1 ++ [(23, 65535)] ++ (cmp b 0 (chn (f :: q)) 0 c1m.length S1).1 65535 := by rw [hc2, hc1m]
    rw [show setX c2 c1.length c2.length = setX (c1 ++ [(23, 65535)] ++ (cmp b 0 (chn (f :: q)) 0 c1m.length S1).1 65535) c1.length c2.length by rw [← e], setX_mid, hc1]
    simp only [List.append_assoc]]
  exact hR
set_option maxHeartbeats 16000000 in
theorem xe_lor {a b : Tr} (ha : XE a) (hb : XE b) : XE (Ex.lor a b) := by
  intro E w ow O S f q n hR hi hw hpa hx
  obtain ⟨hn0, hK, hi1, hi2⟩ := IsE_lor.1 hi
  have hn : n < E.G.length := nd_lt (by rw [hK]; decide)
  obtain ⟨hw1, hw2⟩ : W a false f.L.length ∧ W b false f.L.length := hw
  obtain ⟨hp1, hp2⟩ : PaT E.pa a f.j ∧ PaT E.pa b f.j := hpa
  have hx0 : FX E S f q (numsT a ++ (numsT b ++ [])) (100 * ndT a + (100 * ndT b + 100)) := by
    have hx : FX E S f q (numsT a ++ numsT b) (100 * (1 + ndT a + ndT b)) := hx
    rw [List.append_nil]
    exact hx.le (by omega)
  have hF : Fram (tg ow cpT) w w := Fram.refl _ _
  have hX : Xt w ow ow := Xt.refl _ _
  obtain ⟨gn, capn, ln_, env, hN, khN, hcapn, hrow⟩ := hR.nodes (by omega)
  obtain ⟨pn, hpn⟩ := hrow n hn
  have hcl : 3 * f.code.length ≤ 31000 := hx.clen
  refine ret_of Tryz.func186 rfl Tryz.ntmps186 rfl ?_
  refine c_seq (fun K1 hK1 => ?_)
  refine c_reg ?_ -- region 0 expr.go:6
  refine wl_box rfl rfl (fun b2 w1 hbb2 h2 F1 => ?_)
  have hbsb2 := Nat.le_trans hF.size hbb2
  have hnegnb2 : gn < b2 := Nat.lt_of_lt_of_le hN.lt hbb2
  have kh2 := hR.df b2 hbb2
  replace hF := hF.thenDrew.thenN F1
  replace hR := hR.thruN ((Fram.refl none' _).thenDrew.thenN F1)
  replace hN := F1.blkN hN
  refine wl_nil (x_then (hK1 _ _ ?_))
  clear hK1 K1
  refine forget [(1, _), (2, _)] ⟨rfl, rfl, trivial⟩ (fun e => ?_)
  refine c_seq (fun K2 hK2 => ?_)
  obtain ⟨R_, z_, op⟩ := hR.open (f := f) (by simp)
  have hG := op.B
  have hC := hR.cb
  have khG := hR.ta
  have khC := hR.tc
  rw [env] at hC
  refine c_reg ?_ -- region 1 expr.go:7
  refine wl (ro_loadB rfl sc_128 (by assumption) rfl) ?_
  refine wl (ro_nilCheck rfl) ?_
  refine wl (ro_fieldAddr (k := 0) rfl fo_199_0) ?_
  refine wl (ro_loadB rfl sc_22 hG (op.row 0 (by decide))) ?_
  refine wl (ro_nilCheck rfl) ?_
  refine wl (ro_fieldAddr (k := 2) rfl fo_94_2) ?_
  refine wl (ro_loadB rfl sc_77 (hC) rfl) ?_
  refine wl (ro_move rfl) ?_
  refine wl (ro_indexAddr (et := 148) (k := 8) rfl rfl se_77 (rfl) (hn)) ?_
  refine wl (ro_loadAggB rfl ag_148 (hN) (rfl) (hpn)) ?_
  refine wl_new (ze_148) (fun b4 w2 hbb4 h4 F2 => ?_)
  have hbsb4 := Nat.le_trans hF.size hbb4
  have hnegnb4 : gn < b4 := Nat.lt_of_lt_of_le hN.lt hbb4
  have hneb2b4 : b2 < b4 := Nat.lt_of_lt_of_le h2.lt hbb4
  have hneE.gbb4 : E.gb < b4 := Nat.lt_of_lt_of_le hG.lt hbb4
  have hneE.cbb4 : E.cb < b4 := Nat.lt_of_lt_of_le hC.lt hbb4
  have kh4 := hR.df b4 hbb4
  replace hF := hF.thenDrew.thenN F2
  replace hR := hR.thruN ((Fram.refl none' _).thenDrew.thenN F2)
  replace hN := F2.blkN hN
  replace h2 := F2.blkN h2
  replace hG := F2.blkN hG
  replace hC := F2.blkN hC
  refine wl_puta rfl rfl ((ndc_one _)) sz_148 (rfl) h4 ((by simp)) (rfl) (fun w3 h4 F3 => ?_)
  replace hF := hF.thenDrew.thenO F3 (by first | exact .inr (by omega) | exact .inl rfl | exact .inl (by assumption) | assumption)
  replace hR := hR.hbput ((Fram.refl (one b4) _).thenDrew.thenO F3 (.inl rfl))
  replace hN := F3.blkO hN (by first | omega | exact ow_ne (by assumption) (by assumption) (by omega))
  replace h2 := F3.blkO h2 (by first | omega | exact ow_ne (by assumption) (by assumption) (by omega))
  replace hG := F3.blkO hG (by first | omega | exact ow_ne (by assumption) (by assumption) (by omega))
  replace hC := F3.blkO hC (by first | omega | exact ow_ne (by assumption) (by assumption) (by omega))
  have h4 : Blk (w3).heap b4 [i64c 25, i64c (nd E.G n).A, i64c (nd E.G n).B, i64c (nd E.G n).C, i64c (nd E.G n).Nx, u64c (nd E.G n).N, Go.Proofs.Qxb6500568aGreatDoor.S (nd E.G n).S, i64c pn] 148 := by rw [← hK]; exact h4
  refine wl_nil (x_then (hK2 _ _ ?_))
  clear hK2 K2
  refine forget [(1, _), (2, _), (4, _)] ⟨rfl, rfl, rfl, trivial⟩ (fun e => ?_)
  refine c_seq (fun K3 hK3 => ?_)
  refine c_reg ?_ -- region 2 expr.go:8
  refine wl (ro_fieldAddr (k := 0) rfl fo_148_0) ?_
  refine wl (ro_loadB rfl sc_3 (by assumption) rfl) ?_
  refine wl_nil (x_then (hK3 _ _ ?_))
  clear hK3 K3
  refine c_block ?_
  refine c_seq (fun K4 hK4 => ?_)
  refine c_seq (fun K5 hK5 => ?_)
  refine c_reg ?_ -- region 3 expr.go:9
  refine wl (ro_cmp rfl rfl rfl) ?_
  refine wl (ro_assign rfl) ?_
  refine wl_nil (x_then (hK5 _ _ ?_))
  clear hK5 K5
  refine wc_condF rfl ?_
  refine c_reg ?_ -- region 4 expr.go:9
  refine wl (ro_cmp rfl rfl rfl) ?_
  refine wl (ro_assign rfl) ?_
  refine wl_nil (x_then (hK4 _ _ ?_))
  clear hK4 K4
  refine wc_condF rfl ?_
  refine c_seq (fun K6 hK6 => ?_)
  refine c_reg ?_ -- region 6 expr.go:11
  refine wl (ro_cmp rfl rfl rfl) ?_
  refine wl (ro_assign rfl) ?_
  refine wl_nil (x_then (hK6 _ _ ?_))
  clear hK6 K6
  refine wc_condF rfl ?_
  refine c_seq (fun K7 hK7 => ?_)
  refine c_reg ?_ -- region 8 expr.go:13
  refine wl (ro_cmp rfl rfl rfl) ?_
  refine wl (ro_assign rfl) ?_
  refine wl_nil (x_then (hK7 _ _ ?_))
  clear hK7 K7
  refine wc_condF rfl ?_
  refine c_seq (fun K8 hK8 => ?_)
  refine c_reg ?_ -- region 10 expr.go:15
  refine wl (ro_cmp rfl rfl rfl) ?_
  refine wl (ro_assign rfl) ?_
  refine wl_nil (x_then (hK8 _ _ ?_))
  clear hK8 K8
  refine wc_condF rfl ?_
  refine c_seq (fun K9 hK9 => ?_)
  refine c_reg ?_ -- region 13 expr.go:18
  refine wl (ro_cmp rfl rfl rfl) ?_
  refine wl (ro_assign rfl) ?_
  refine wl_nil (x_then (hK9 _ _ ?_))
  clear hK9 K9
  refine wc_condF rfl ?_
  refine c_seq (fun K10 hK10 => ?_)
  refine c_reg ?_ -- region 16 expr.go:21
  refine wl (ro_cmp rfl rfl rfl) ?_
  refine wl (ro_assign rfl) ?_
  refine wl_nil (x_then (hK10 _ _ ?_))
  clear hK10 K10
  refine wc_condF rfl ?_
  refine c_seq (fun K11 hK11 => ?_)
  refine c_reg ?_ -- region 18 expr.go:23
  refine wl (ro_cmp rfl rfl rfl) ?_
  refine wl (ro_assign rfl) ?_
  refine wl_nil (x_then (hK11 _ _ ?_))
  clear hK11 K11
  refine wc_condF rfl ?_
  refine c_seq (fun K12 hK12 => ?_)
  refine c_reg ?_ -- region 22 expr.go:27
  refine wl (ro_cmp rfl rfl rfl) ?_
  refine wl (ro_assign rfl) ?_
  refine wl_nil (x_then (hK12 _ _ ?_))
  clear hK12 K12
  refine wc_condF rfl ?_
  refine c_seq (fun K13 hK13 => ?_)
  refine c_reg ?_ -- region 25 expr.go:30
  refine wl (ro_cmp rfl rfl rfl) ?_
  refine wl (ro_assign rfl) ?_
  refine wl_nil (x_then (hK13 _ _ ?_))
  clear hK13 K13
  refine wc_condF rfl ?_
  refine c_seq (fun K14 hK14 => ?_)
  refine c_reg ?_ -- region 27 expr.go:32
  refine wl (ro_cmp rfl rfl rfl) ?_
  refine wl (ro_assign rfl) ?_
  refine wl_nil (x_then (hK14 _ _ ?_))
  clear hK14 K14
  refine wc_condF rfl ?_
  refine c_seq (fun K15 hK15 => ?_)
  refine c_reg ?_ -- region 31 expr.go:40
  refine wl (ro_cmp rfl rfl rfl) ?_
  refine wl (ro_assign rfl) ?_
  refine wl_nil (x_then (hK15 _ _ ?_))
  clear hK15 K15
  refine wc_condF rfl ?_
  refine c_seq (fun K16 hK16 => ?_)
  refine c_reg ?_ -- region 36 expr.go:45
  refine wl (ro_cmp rfl rfl rfl) ?_
  refine wl (ro_assign rfl) ?_
  refine wl_nil (x_then (hK16 _ _ ?_))
  clear hK16 K16
  refine wc_condF rfl ?_
  refine c_seq (fun K17 hK17 => ?_)
  refine c_seq (fun K18 hK18 => ?_)
  refine c_reg ?_ -- region 40 expr.go:49
  refine wl (ro_cmp rfl rfl rfl) ?_
  refine wl (ro_assign rfl) ?_
  refine wl_nil (x_then (hK18 _ _ ?_))
  clear hK18 K18
  refine wc_condF rfl ?_
  refine c_reg ?_ -- region 41 expr.go:49
  refine wl (ro_cmp rfl rfl rfl) ?_
  refine wl (ro_assign rfl) ?_
  refine wl_nil (x_then (hK17 _ _ ?_))
  clear hK17 K17
  refine wc_condT rfl ?_
  refine c_seq (fun K19 hK19 => ?_)
  refine c_reg ?_ -- region 42 expr.go:50
  refine wl (ro_loadB rfl sc_128 (by assumption) rfl) ?_
  refine wl (ro_fieldAddr (k := 1) rfl fo_148_1) ?_
  refine wl (ro_loadB rfl sc_3 (by assumption) rfl) ?_
  refine wl_call rfl en_186 (ha E _ _ _ _ f q _ hR.dr hi1 hw1 hp1 (hx0.left.le (by omega))) ?_
  rintro _ u4 ⟨rfl, ow4, x4, f4, r4⟩
  obtain ⟨hN, khN⟩ := cp_loc x4 f4 hN khN
  obtain ⟨h2, kh2⟩ := cp_loc x4 f4 h2 kh2
  obtain ⟨h4, kh4⟩ := cp_loc x4 f4 h4 kh4
  have hs4 := hF.size
  replace hF := cp_trans hX hF f4
  replace hX := hX.trans hs4 x4
  replace hR := r4
  have hx1 := hx0.eE hi1 hw1
  obtain ⟨S1, hS1⟩ : ∃ z9, z9 = (cmp a 0 (chn (f :: q)) 0 f.code.length S).2 := ⟨_, rfl⟩
  obtain ⟨c1, hc1⟩ : ∃ z9, z9 = f.code ++ (cmp a 0 (chn (f :: q)) 0 f.code.length S).1 65535 := ⟨_, rfl⟩
  have hl1 : c1.length = f.code.length + ln (cmp a 0 (chn (f :: q)) 0 f.code.length S) := by rw [hc1, List.length_append]; congr 1; exact hx0.ln
  replace hx1 : FX E (cmp a 0 (chn (f :: q)) 0 f.code.length S).2 { f with code := f.code ++ (cmp a 0 (chn (f :: q)) 0 f.code.length S).1 65535 } q _ _ := hx1
  have hR : CM E _ _ _ (cmp a 0 (chn (f :: q)) 0 f.code.length S).2 ({ f with code := f.code ++ (cmp a 0 (chn (f :: q)) 0 f.code.length S).1 65535 } :: q) := hR
  rw [← hS1, ← hc1] at hR hx1
  have hk1 : 3 * c1.length ≤ 31000 := hx1.clen
  refine wl_nil (x_then (hK19 _ _ ?_))
  clear hK19 K19
  refine forget [(2, _), (4, _)] ⟨rfl, rfl, trivial⟩ (fun e => ?_)
  refine c_seq (fun K20 hK20 => ?_)
  refine c_reg ?_ -- region 43 expr.go:51
  refine wl (ro_assign rfl) ?_
  refine wl_nil (x_then (hK20 _ _ ?_))
  clear hK20 K20
  refine c_seq (fun K21 hK21 => ?_)
  refine c_seq (fun K22 hK22 => ?_)
  refine c_reg ?_ -- region 44 expr.go:52
  refine wl (ro_fieldAddr (k := 0) rfl fo_148_0) ?_
  refine wl (ro_loadB rfl sc_3 (by assumption) rfl) ?_
  refine wl (ro_cmp rfl rfl rfl) ?_
  refine wl_nil (x_then (hK22 _ _ ?_))
  clear hK22 K22
  refine wc_condT rfl ?_
  refine c_reg ?_ -- region 45 expr.go:53
  refine wl (ro_assign rfl) ?_
  refine wl_nil (x_then (hK21 _ _ ?_))
  clear hK21 K21
  refine forget [(2, _), (4, _), (10, _)] ⟨rfl, rfl, rfl, trivial⟩ (fun e => ?_)
  refine c_seq (fun K23 hK23 => ?_)
  refine c_reg ?_ -- region 46 expr.go:55
  refine wl (ro_loadB rfl sc_128 (by assumption) rfl) ?_
  refine wl (ro_move rfl) ?_
  refine wl_call rfl en_195 (jump195 (oc := 24) hR (by simp only; omega)) ?_
  rintro v9 u9 ⟨ow9, x9, f9, r9, ⟨p2, p5, rfl, hq2, khq2, hq5, khq5⟩⟩
  obtain ⟨hN, khN⟩ := cp_loc x9 f9 hN khN
  obtain ⟨h2, kh2⟩ := cp_loc x9 f9 h2 kh2
  obtain ⟨h4, kh4⟩ := cp_loc x9 f9 h4 kh4
  have hs9 := hF.size
  replace hF := cp_trans hX hF f9
  replace hX := hX.trans hs9 x9
  replace hR := r9
  obtain ⟨c1m, hc1m⟩ : ∃ z9, z9 = c1 ++ [(24, 65535)] := ⟨_, rfl⟩
  have hlc1m : c1m.length = c1.length + 1 := by rw [hc1m, List.length_append]; rfl
  have hx1m : FX E _ { f with code := c1 ++ [(24, 65535)] } q _ (100 * ndT b + 90) := FX.emit (B' := 100 * ndT b + 90) hx1 (by simp; omega)
  have hR : CM E _ _ _ _ ({ f with code := c1 ++ [(24, 65535)] } :: q) := hR
  rw [← hc1m] at hR hx1m
  have hkc1m : 3 * c1m.length ≤ 31000 := hx1m.clen
  refine wl (ro_assign rfl) ?_
  refine wl_nil (x_then (hK23 _ _ ?_))
  clear hK23 K23
  refine forget [(2, _), (4, _), (11, _)] ⟨rfl, rfl, rfl, trivial⟩ (fun e => ?_)
  refine c_seq (fun K24 hK24 => ?_)
  refine c_reg ?_ -- region 47 expr.go:56
  refine wl (ro_loadB rfl sc_128 (by assumption) rfl) ?_
  refine wl (ro_fieldAddr (k := 2) rfl fo_148_2) ?_
  refine wl (ro_loadB rfl sc_3 (by assumption) rfl) ?_
  refine wl_call rfl en_186 (hb E _ _ _ _ { f with code := c1m } q _ hR.dr hi2 hw2 hp2 (hx1m.left.le (by omega))) ?_
  rintro _ u5 ⟨rfl, ow5, x5, f5, r5⟩
  obtain ⟨hN, khN⟩ := cp_loc x5 f5 hN khN
  obtain ⟨h2, kh2⟩ := cp_loc x5 f5 h2 kh2
  obtain ⟨h4, kh4⟩ := cp_loc x5 f5 h4 kh4
  obtain ⟨hq2, khq2⟩ := cp_loc x5 f5 hq2 khq2
  obtain ⟨hq5, khq5⟩ := cp_loc x5 f5 hq5 khq5
  have hs5 := hF.size
  replace hF := cp_trans hX hF f5
  replace hX := hX.trans hs5 x5
  replace hR := r5
  have hx2 := hx1m.eE hi2 hw2
  obtain ⟨S2, hS2⟩ : ∃ z9, z9 = (cmp b 0 (chn (f :: q)) 0 c1m.length S1).2 := ⟨_, rfl⟩
  obtain ⟨c2, hc2⟩ : ∃ z9, z9 = c1m ++ (cmp b 0 (chn (f :: q)) 0 c1m.length S1).1 65535 := ⟨_, rfl⟩
  have hl2 : c2.length = c1m.length + ln (cmp b 0 (chn (f :: q)) 0 c1m.length S1) := by rw [hc2, List.length_append]; congr 1; exact hx1m.ln
  replace hx2 : FX E (cmp b 0 (chn (f :: q)) 0 c1m.length S1).2 { f with code := c1m ++ (cmp b 0 (chn (f :: q)) 0 c1m.length S1).1 65535 } q _ _ := hx2
  have hR : CM E _ _ _ (cmp b 0 (chn (f :: q)) 0 c1m.length S1).2 ({ f with code := c1m ++ (cmp b 0 (chn (f :: q)) 0 c1m.length S1).1 65535 } :: q) := hR
  rw [← hS2, ← hc2] at hR hx2
  have hk2 : 3 * c2.length ≤ 31000 := hx2.clen
  refine wl_nil (x_then (hK24 _ _ ?_))
  clear hK24 K24
  refine c_reg ?_ -- region 48 expr.go:57
  refine wl (ro_move rfl) ?_
  refine wl_callV rfl rfl (patch237 (p := c1.length) hR ⟨p2, p5, rfl, hq2, khq2, hq5, khq5⟩ (by show c1.length < c2.length; omega) (by show c2.length ≤ _; omega)) ?_
  rintro _ u8 ⟨rfl, ow8, x8, f8, r8⟩
  obtain ⟨hN, khN⟩ := cp_loc x8 f8 hN khN
  obtain ⟨h2, kh2⟩ := cp_loc x8 f8 h2 kh2
  obtain ⟨h4, kh4⟩ := cp_loc x8 f8 h4 kh4
  obtain ⟨hq2, khq2⟩ := cp_loc x8 f8 hq2 khq2
  obtain ⟨hq5, khq5⟩ := cp_loc x8 f8 hq5 khq5
  have hs8 := hF.size
  replace hF := cp_trans hX hF f8
  replace hX := hX.trans hs8 x8
  replace hR := r8
  refine wl_nil (x_blk ?_)
  refine bp_end Tryz.results186 rfl ?_
  refine ⟨rfl, _, hX, hF, ?_⟩
  rw [List.append_assoc] at hR
  have hR : CM E _ _ (O ++ (numsT a ++ numsT b)) S2 ({ f with code := setX c2 c1.length c2.length } :: q) := hR
  show CM E _ _ (O ++ (numsT a ++ numsT b)) (cmp b 0 (chn (f :: q)) 0 (f.code.length + ln (cmp a 0 (chn (f :: q)) 0 f.code.length S) + 1) (cmp a 0 (chn (f :: q)) 0 f.code.length S).2).2 ({ f with code := f.code ++ ((cmp a 0 (chn (f :: q)) 0 f.code.length S).1 65535 ++ [(24, f.code.length + ln (cmp a 0 (chn (f :: q)) 0 f.code.length S) + 1 + ln (cmp b 0 (chn (f :: q)) 0 (f.code.length + ln (cmp a 0 (chn (f :: q)) 0 f.code.length S) + 1) (cmp a 0 (chn (f :: q)) 0 f.code.length S).2))] ++ (cmp b 0 (chn (f :: q)) 0 (f.code.length + ln (cmp a 0 (chn (f :: q)) 0 f.code.length S) + 1) (cmp a 0 (chn (f :: q)) 0 f.code.length S).2).1 65535) } :: q)
  rw [← hl1, ← hlc1m, ← hS1, ← hS2, ← hl2]
  rw [show f.code ++ ((cmp a 0 (chn (f :: q)) 0 f.code.length S).1 65535 ++ [(24, c2.length)] ++ (cmp b 0 (chn (f :: q)) 0 c1m.length S1).1 65535) = setX c2 c1.length c2.length by
    have e : c2 = c1 ++ [(24, 65535)] ++ (cmp b 0 (chn (f :: q)) 0 c1m.length S1).1 65535 := by rw [hc2, hc1m]
    rw [show setX c2 c1.length c2.length = setX (c1 ++ [(24, 65535)] ++ (cmp b 0 (chn (f :: q)) 0 c1m.length S1).1 65535) c1.length c2.length by rw [← e], setX_mid, hc1]
    simp only [List.append_assoc]]
  exact hR
end Go.Proofs.Qxb6500568aGreatDoor
