import Derived.Test.Qxb6500568aGreatDoorZr
/- The compiler: calls (written by tools/mk_zx.py). -/
namespace Go.Proofs.Qxb6500568aGreatDoor
open Ieee
set_option linter.unusedVariables false
set_option linter.unusedSimpArgs false
set_option linter.unusedSectionVars false

section
variable {E : ZEnv} {w : World} {ow : Nat → Nat} {O : List Nat} {S : Fns} {f : ZAct} {q : List ZAct}
/-- behind a call. -/
theorem fx_call {a zs : Tr} {N : List Nat} {B n m : Nat} (h : FX E S f q (numsT a ++ (numsT zs ++ N)) (100 * ndT a + (100 * ndT zs + (B + 3)))) (hi1 : IsE E.G n a) (hi2 : IsEL E.G m zs) (hw1 : W a false f.L.length) (hw2 : W zs false f.L.length) :
    FX E (cmp zs 0 (chn (f :: q)) 0 (f.code.length + ln (cmp a 0 (chn (f :: q)) 0 f.code.length S)) (cmp a 0 (chn (f :: q)) 0 f.code.length S).2).2 { f with code := f.code ++ ((cmp a 0 (chn (f :: q)) 0 f.code.length S).1 65535 ++ (cmp zs 0 (chn (f :: q)) 0 (f.code.length + ln (cmp a 0 (chn (f :: q)) 0 f.code.length S)) (cmp a 0 (chn (f :: q)) 0 f.code.length S).2).1 65535 ++ [(26, lenE zs)]) } q N B := by
  have h1 := h.eE hi1 hw1
  have hln : ((cmp a 0 (chn (f :: q)) 0 f.code.length S).1 65535).length = ln (cmp a 0 (chn (f :: q)) 0 f.code.length S) := h.ln
  have h2 := h1.eA hi2 hw2 (md := 0) (Nat.zero_le _)
  have h3 := FX.emit (B' := B) (is := [(26, lenE zs)]) h2 (by simp; omega)
  have e1 : (f.code ++ (cmp a 0 (chn (f :: q)) 0 f.code.length S).1 65535).length = f.code.length + ln (cmp a 0 (chn (f :: q)) 0 f.code.length S) := by rw [List.length_append, hln]
  have h3 : FX E (cmp zs 0 (chn (f :: q)) 0 (f.code ++ (cmp a 0 (chn (f :: q)) 0 f.code.length S).1 65535).length (cmp a 0 (chn (f :: q)) 0 f.code.length S).2).2 { f with code := f.code ++ (cmp a 0 (chn (f :: q)) 0 f.code.length S).1 65535 ++ (cmp zs 0 (chn (f :: q)) 0 (f.code ++ (cmp a 0 (chn (f :: q)) 0 f.code.length S).1 65535).length (cmp a 0 (chn (f :: q)) 0 f.code.length S).2).1 65535 ++ [(26, lenE zs)] } q N B := h3
  rw [e1] at h3
  rw [← List.append_assoc, ← List.append_assoc]
  exact h3
set_option maxHeartbeats 16000000 in
theorem call188 {k : Nat} (hk : ∀ t, szT t ≤ k → XE t) {a zs : Tr} {n : Nat} (hR : CM E w ow O S (f :: q)) (hK : (nd E.G n).K = 19) (hi1 : IsE E.G (nd E.G n).A a) (hi2 : IsEL E.G (nd E.G n).B zs) (hza : szT a ≤ k) (hzz : szT zs ≤ k) (hw1 : W a false f.L.length) (hw2 : W zs false f.L.length) (hp1 : PaT E.pa a f.j) (hp2 : PaT E.pa zs f.j) (hle : lenE zs ≤ 3) (hx : FX E S f q (numsT a ++ numsT zs) (100 * ndT a + (100 * ndT zs + 3))) :
    Ret Tryz.prog 188 [fptr E f.j, i64c n] w (fun r w' => r = .tuple #[] ∧ ZP E w ow (O ++ (numsT a ++ numsT zs)) (cmp zs 0 (chn (f :: q)) 0 (f.code.length + ln (cmp a 0 (chn (f :: q)) 0 f.code.length S)) (cmp a 0 (chn (f :: q)) 0 f.code.length S).2).2 ({ f with code := f.code ++ ((cmp a 0 (chn (f :: q)) 0 f.code.length S).1 65535 ++ (cmp zs 0 (chn (f :: q)) 0 (f.code.length + ln (cmp a 0 (chn (f :: q)) 0 f.code.length S)) (cmp a 0 (chn (f :: q)) 0 f.code.length S).2).1 65535 ++ [(26, lenE zs)]) } :: q) w') := by
  have hn : n < E.G.length := nd_lt (by rw [hK]; decide)
  have hF : Fram (tg ow cpT) w w := Fram.refl _ _
  have hX : Xt w ow ow := Xt.refl _ _
  obtain ⟨gn, capn, ln_, env, hN, khN, hcapn, hrow⟩ := hR.nodes (by omega)
  obtain ⟨pn, hpn⟩ := hrow n hn
  have hx0 : FX E S f q (numsT a ++ (numsT zs ++ [])) (100 * ndT a + (100 * ndT zs + 3)) := by rw [List.append_nil]; exact hx
  refine ret_of Tryz.func188 rfl Tryz.ntmps188 rfl ?_
  refine c_seq (fun K1 hK1 => ?_)
  obtain ⟨R_, z_, op⟩ := hR.open (f := f) (by simp)
  have hG := op.B
  have hC := hR.cb
  have khG := hR.ta
  have khC := hR.tc
  rw [env] at hC
  refine c_reg ?_ -- region 0 expr.go:85
  refine wl (ro_move rfl) ?_
  refine wl (ro_nilCheck rfl) ?_
  refine wl (ro_fieldAddr (k := 0) rfl fo_199_0) ?_
  refine wl (ro_loadB rfl sc_22 hG (op.row 0 (by decide))) ?_
  refine wl (ro_nilCheck rfl) ?_
  refine wl (ro_fieldAddr (k := 2) rfl fo_94_2) ?_
  refine wl (ro_loadB rfl sc_77 (hC) rfl) ?_
  refine wl (ro_move rfl) ?_
  refine wl (ro_indexAddr (et := 148) (k := 8) rfl rfl se_77 (rfl) (hn)) ?_
  refine wl (ro_loadAggB rfl ag_148 (hN) (rfl) (hpn)) ?_
  refine wl_new (ze_148) (fun b4 w1 hbb4 h4 F1 => ?_)
  have hbsb4 := Nat.le_trans hF.size hbb4
  have hnegnb4 : gn < b4 := Nat.lt_of_lt_of_le hN.lt hbb4
  have hneE.gbb4 : E.gb < b4 := Nat.lt_of_lt_of_le hG.lt hbb4
  have hneE.cbb4 : E.cb < b4 := Nat.lt_of_lt_of_le hC.lt hbb4
  have kh4 := hR.df b4 hbb4
  replace hF := hF.thenDrew.thenN F1
  replace hR := hR.thruN ((Fram.refl none' _).thenDrew.thenN F1)
  replace hN := F1.blkN hN
  replace hG := F1.blkN hG
  replace hC := F1.blkN hC
  refine wl_puta rfl rfl ((ndc_one _)) sz_148 (rfl) h4 ((by simp)) (rfl) (fun w2 h4 F2 => ?_)
  replace hF := hF.thenDrew.thenO F2 (by first | exact .inr (by omega) | exact .inl rfl | exact .inl (by assumption) | assumption)
  replace hR := hR.hbput ((Fram.refl (one b4) _).thenDrew.thenO F2 (.inl rfl))
  replace hN := F2.blkO hN (by first | omega | exact ow_ne (by assumption) (by assumption) (by omega))
  replace hG := F2.blkO hG (by first | omega | exact ow_ne (by assumption) (by assumption) (by omega))
  replace hC := F2.blkO hC (by first | omega | exact ow_ne (by assumption) (by assumption) (by omega))
  have h4 : Blk (w2).heap b4 (ndc (nd E.G n, pn)) 148 := h4
  unfold ndc at h4
  refine wl_nil (x_then (hK1 _ _ ?_))
  clear hK1 K1
  refine forget [(0, _), (4, _)] ⟨rfl, rfl, trivial⟩ (fun e => ?_)
  refine c_seq (fun K2 hK2 => ?_)
  refine c_reg ?_ -- region 1 expr.go:86
  refine wl (ro_move rfl) ?_
  refine wl (ro_fieldAddr (k := 1) rfl fo_148_1) ?_
  refine wl (ro_loadB rfl sc_3 (by assumption) rfl) ?_
  refine wl_call rfl en_186 (hk a hza E _ _ _ _ f q _ hR.dr hi1 hw1 hp1 (hx0.left.le (by omega))) ?_
  rintro _ u3 ⟨rfl, ow3, x3, f3, r3⟩
  obtain ⟨hN, khN⟩ := cp_loc x3 f3 hN khN
  obtain ⟨h4, kh4⟩ := cp_loc x3 f3 h4 kh4
  have hs3 := hF.size
  replace hF := cp_trans hX hF f3
  replace hX := hX.trans hs3 x3
  replace hR := r3
  have hx1 := hx0.eE hi1 hw1
  obtain ⟨S1, hS1⟩ : ∃ z9, z9 = (cmp a 0 (chn (f :: q)) 0 f.code.length S).2 := ⟨_, rfl⟩
  obtain ⟨c1, hc1⟩ : ∃ z9, z9 = f.code ++ (cmp a 0 (chn (f :: q)) 0 f.code.length S).1 65535 := ⟨_, rfl⟩
  have hl1 : c1.length = f.code.length + ln (cmp a 0 (chn (f :: q)) 0 f.code.length S) := by rw [hc1, List.length_append]; congr 1; exact hx0.ln
  replace hx1 : FX E (cmp a 0 (chn (f :: q)) 0 f.code.length S).2 { f with code := f.code ++ (cmp a 0 (chn (f :: q)) 0 f.code.length S).1 65535 } q _ _ := hx1
  have hR : CM E _ _ _ (cmp a 0 (chn (f :: q)) 0 f.code.length S).2 ({ f with code := f.code ++ (cmp a 0 (chn (f :: q)) 0 f.code.length S).1 65535 } :: q) := hR
  rw [← hS1, ← hc1] at hR hx1
  have hk1 : 3 * c1.length ≤ 31000 := hx1.clen
  refine wl_nil (x_then (hK2 _ _ ?_))
  clear hK2 K2
  refine forget [(0, _), (4, _)] ⟨rfl, rfl, trivial⟩ (fun e => ?_)
  refine c_seq (fun K3 hK3 => ?_)
  refine c_reg ?_ -- region 2 expr.go:87
  refine wl (ro_move rfl) ?_
  refine wl (ro_fieldAddr (k := 2) rfl fo_148_2) ?_
  refine wl (ro_loadB rfl sc_3 (by assumption) rfl) ?_
  refine wl (ro_move rfl) ?_
  refine wl (ro_makeBound rfl) ?_
  refine wl_call rfl en_138 (args138 (f := { f with code := c1 }) hk hR.dr hi2 hzz hw2 hp2 (hx1.left.le (by omega)) (by omega) hle) ?_
  rintro _ u4 ⟨rfl, ow4, x4, f4, r4⟩
  obtain ⟨hN, khN⟩ := cp_loc x4 f4 hN khN
  obtain ⟨h4, kh4⟩ := cp_loc x4 f4 h4 kh4
  have hs4 := hF.size
  replace hF := cp_trans hX hF f4
  replace hX := hX.trans hs4 x4
  replace hR := r4
  have hx2 := hx1.eA hi2 hw2 (md := 0) (Nat.zero_le _)
  obtain ⟨S2, hS2⟩ : ∃ z9, z9 = (cmp zs 0 (chn (f :: q)) 0 c1.length S1).2 := ⟨_, rfl⟩
  obtain ⟨c2, hc2⟩ : ∃ z9, z9 = c1 ++ (cmp zs 0 (chn (f :: q)) 0 c1.length S1).1 65535 := ⟨_, rfl⟩
  have hl2 : c2.length = c1.length + ln (cmp zs 0 (chn (f :: q)) 0 c1.length S1) := by rw [hc2, List.length_append]; congr 1; exact hx1.ln
  replace hx2 : FX E (cmp zs 0 (chn (f :: q)) 0 c1.length S1).2 { f with code := c1 ++ (cmp zs 0 (chn (f :: q)) 0 c1.length S1).1 65535 } q _ _ := hx2
  have hR : CM E _ _ _ (cmp zs 0 (chn (f :: q)) 0 c1.length S1).2 ({ f with code := c1 ++ (cmp zs 0 (chn (f :: q)) 0 c1.length S1).1 65535 } :: q) := hR
  rw [← hS2, ← hc2] at hR hx2
  have hk2 : 3 * c2.length ≤ 31000 := hx2.clen
  refine wl (ro_assign rfl) ?_
  refine wl_nil (x_then (hK3 _ _ ?_))
  clear hK3 K3
  refine c_reg ?_ -- region 3 expr.go:88
  refine wl (ro_move rfl) ?_
  refine wl (ro_move rfl) ?_
  refine wl (ro_conv rfl sc_3 in_201 (Go.IntWalk.u16_in _ (by omega))) ?_
  refine wl (ro_build rfl bld_203_0_1) ?_
  refine wl_em (is := [(26, lenE zs)]) (eo_bsI1 rfl se_196 zx_203) rfl hR rfl (by simp; omega) ?_
  intro u5 ow5 x5 f5 r5
  obtain ⟨hN, khN⟩ := cp_loc' x5 f5 hN khN
  obtain ⟨h4, kh4⟩ := cp_loc' x5 f5 h4 kh4
  have hs5 := hF.size
  replace hF := cp_trans' hX hF f5
  replace hX := hX.trans hs5 x5
  replace hR := r5
  refine wl_nil ?_
  refine bp_end Tryz.results188 rfl ?_
  refine ⟨rfl, _, hX, hF, ?_⟩
  rw [List.append_assoc] at hR
  rw [← hl1, ← hS1, ← hS2, show f.code ++ ((cmp a 0 (chn (f :: q)) 0 f.code.length S).1 65535 ++ (cmp zs 0 (chn (f :: q)) 0 c1.length S1).1 65535 ++ [(26, lenE zs)]) = c2 ++ [(26, lenE zs)] by rw [hc2, hc1]; simp only [List.append_assoc]]
  exact hR
end
set_option maxHeartbeats 16000000 in
theorem xe_call {k : Nat} (hk : ∀ t, szT t ≤ k → XE t) {a zs : Tr} (hza : szT a ≤ k) (hzz : szT zs ≤ k) : XE (Ex.call a zs) := by
  intro E w ow O S f q n hR hi hw hpa hx
  obtain ⟨hn0, hK, hi1, hi2⟩ := IsE_call.1 hi
  have hn : n < E.G.length := nd_lt (by rw [hK]; decide)
  obtain ⟨hle, hw1, hw2⟩ : lenE zs ≤ 3 ∧ W a false f.L.length ∧ W zs false f.L.length := hw
  obtain ⟨hp1, hp2⟩ : PaT E.pa a f.j ∧ PaT E.pa zs f.j := hpa
  have hx0 : FX E S f q (numsT a ++ numsT zs) (100 * ndT a + (100 * ndT zs + (90 + 3))) := by
    have hx : FX E S f q (numsT a ++ numsT zs) (100 * (1 + ndT a + ndT zs)) := hx
    exact hx.le (by omega)
  have hF : Fram (tg ow cpT) w w := Fram.refl _ _
  have hX : Xt w ow ow := Xt.refl _ _
  obtain ⟨gn, capn, ln_, env, hN, khN, hcapn, hrow⟩ := hR.nodes (by omega)
  obtain ⟨pn, hpn⟩ := hrow n hn
  have hcl : 3 * f.code.length ≤ 31000 := hx.clen
  refine ret_of Tryz.func186 rfl Tryz.ntmps186 rfl ?_
  refine c_seq (fun K1 hK1 => ?_)
  refine c_reg ?_ -- region 0 expr.go:6
  refine wl_box rfl rfl (fun b2 w1 hbb2 h2 F1 => ?_)
  have hbsb2 := Nat.le_trans hF.size hbb2
  have hnegnb2 : gn < b2 := Nat.lt_of_lt_of_le hN.lt hbb2
  have kh2 := hR.df b2 hbb2
  replace hF := hF.thenDrew.thenN F1
  replace hR := hR.thruN ((Fram.refl none' _).thenDrew.thenN F1)
  replace hN := F1.blkN hN
  refine wl_nil (x_then (hK1 _ _ ?_))
  clear hK1 K1
  refine forget [(1, _), (2, _)] ⟨rfl, rfl, trivial⟩ (fun e => ?_)
  refine c_seq (fun K2 hK2 => ?_)
  obtain ⟨R_, z_, op⟩ := hR.open (f := f) (by simp)
  have hG := op.B
  have hC := hR.cb
  have khG := hR.ta
  have khC := hR.tc
  rw [env] at hC
  refine c_reg ?_ -- region 1 expr.go:7
  refine wl (ro_loadB rfl sc_128 (by assumption) rfl) ?_
  refine wl (ro_nilCheck rfl) ?_
  refine wl (ro_fieldAddr (k := 0) rfl fo_199_0) ?_
  refine wl (ro_loadB rfl sc_22 hG (op.row 0 (by decide))) ?_
  refine wl (ro_nilCheck rfl) ?_
  refine wl (ro_fieldAddr (k := 2) rfl fo_94_2) ?_
  refine wl (ro_loadB rfl sc_77 (hC) rfl) ?_
  refine wl (ro_move rfl) ?_
  refine wl (ro_indexAddr (et := 148) (k := 8) rfl rfl se_77 (rfl) (hn)) ?_
  refine wl (ro_loadAggB rfl ag_148 (hN) (rfl) (hpn)) ?_
  refine wl_new (ze_148) (fun b4 w2 hbb4 h4 F2 => ?_)
  have hbsb4 := Nat.le_trans hF.size hbb4
  have hnegnb4 : gn < b4 := Nat.lt_of_lt_of_le hN.lt hbb4
  have hneb2b4 : b2 < b4 := Nat.lt_of_lt_of_le h2.lt hbb4
  have hneE.gbb4 : E.gb < b4 := Nat.lt_of_lt_of_le hG.lt hbb4
  have hneE.cbb4 : E.cb < b4 := Nat.lt_of_lt_of_le hC.lt hbb4
  have kh4 := hR.df b4 hbb4
  replace hF := hF.thenDrew.thenN F2
  replace hR := hR.thruN ((Fram.refl none' _).thenDrew.thenN F2)
  replace hN := F2.blkN hN
  replace h2 := F2.blkN h2
  replace hG := F2.blkN hG
  replace hC := F2.blkN hC
  refine wl_puta rfl rfl ((ndc_one _)) sz_148 (rfl) h4 ((by simp)) (rfl) (fun w3 h4 F3 => ?_)
  replace hF := hF.thenDrew.thenO F3 (by first | exact .inr (by omega) | exact .inl rfl | exact .inl (by assumption) | assumption)
  replace hR := hR.hbput ((Fram.refl (one b4) _).thenDrew.thenO F3 (.inl rfl))
  replace hN := F3.blkO hN (by first | omega | exact ow_ne (by assumption) (by assumption) (by omega))
  replace h2 := F3.blkO h2 (by first | omega | exact ow_ne (by assumption) (by assumption) (by omega))
  replace hG := F3.blkO hG (by first | omega | exact ow_ne (by assumption) (by assumption) (by omega))
  replace hC := F3.blkO hC (by first | omega | exact ow_ne (by assumption) (by assumption) (by omega))
  have h4 : Blk (w3).heap b4 [i64c 19, i64c (nd E.G n).A, i64c (nd E.G n).B, i64c (nd E.G n).C, i64c (nd E.G n).Nx, u64c (nd E.G n).N, Go.Proofs.Qxb6500568aGreatDoor.S (nd E.G n).S, i64c pn] 148 := by rw [← hK]; exact h4
  refine wl_nil (x_then (hK2 _ _ ?_))
  clear hK2 K2
  refine forget [(1, _), (2, _), (4, _)] ⟨rfl, rfl, rfl, trivial⟩ (fun e => ?_)
  refine c_seq (fun K3 hK3 => ?_)
  refine c_reg ?_ -- region 2 expr.go:8
  refine wl (ro_fieldAddr (k := 0) rfl fo_148_0) ?_
  refine wl (ro_loadB rfl sc_3 (by assumption) rfl) ?_
  refine wl_nil (x_then (hK3 _ _ ?_))
  clear hK3 K3
  refine c_block ?_
  refine c_seq (fun K4 hK4 => ?_)
  refine c_seq (fun K5 hK5 => ?_)
  refine c_reg ?_ -- region 3 expr.go:9
  refine wl (ro_cmp rfl rfl rfl) ?_
  refine wl (ro_assign rfl) ?_
  refine wl_nil (x_then (hK5 _ _ ?_))
  clear hK5 K5
  refine wc_condF rfl ?_
  refine c_reg ?_ -- region 4 expr.go:9
  refine wl (ro_cmp rfl rfl rfl) ?_
  refine wl (ro_assign rfl) ?_
  refine wl_nil (x_then (hK4 _ _ ?_))
  clear hK4 K4
  refine wc_condF rfl ?_
  refine c_seq (fun K6 hK6 => ?_)
  refine c_reg ?_ -- region 6 expr.go:11
  refine wl (ro_cmp rfl rfl rfl) ?_
  refine wl (ro_assign rfl) ?_
  refine wl_nil (x_then (hK6 _ _ ?_))
  clear hK6 K6
  refine wc_condF rfl ?_
  refine c_seq (fun K7 hK7 => ?_)
  refine c_reg ?_ -- region 8 expr.go:13
  refine wl (ro_cmp rfl rfl rfl) ?_
  refine wl (ro_assign rfl) ?_
  refine wl_nil (x_then (hK7 _ _ ?_))
  clear hK7 K7
  refine wc_condF rfl ?_
  refine c_seq (fun K8 hK8 => ?_)
  refine c_reg ?_ -- region 10 expr.go:15
  refine wl (ro_cmp rfl rfl rfl) ?_
  refine wl (ro_assign rfl) ?_
  refine wl_nil (x_then (hK8 _ _ ?_))
  clear hK8 K8
  refine wc_condF rfl ?_
  refine c_seq (fun K9 hK9 => ?_)
  refine c_reg ?_ -- region 13 expr.go:18
  refine wl (ro_cmp rfl rfl rfl) ?_
  refine wl (ro_assign rfl) ?_
  refine wl_nil (x_then (hK9 _ _ ?_))
  clear hK9 K9
  refine wc_condF rfl ?_
  refine c_seq (fun K10 hK10 => ?_)
  refine c_reg ?_ -- region 16 expr.go:21
  refine wl (ro_cmp rfl rfl rfl) ?_
  refine wl (ro_assign rfl) ?_
  refine wl_nil (x_then (hK10 _ _ ?_))
  clear hK10 K10
  refine wc_condF rfl ?_
  refine c_seq (fun K11 hK11 => ?_)
  refine c_reg ?_ -- region 18 expr.go:23
  refine wl (ro_cmp rfl rfl rfl) ?_
  refine wl (ro_assign rfl) ?_
  refine wl_nil (x_then (hK11 _ _ ?_))
  clear hK11 K11
  refine wc_condF rfl ?_
  refine c_seq (fun K12 hK12 => ?_)
  refine c_reg ?_ -- region 22 expr.go:27
  refine wl (ro_cmp rfl rfl rfl) ?_
  refine wl (ro_assign rfl) ?_
  refine wl_nil (x_then (hK12 _ _ ?_))
  clear hK12 K12
  refine wc_condT rfl ?_
  refine c_seq (fun K13 hK13 => ?_)
  refine c_reg ?_ -- region 23 expr.go:28
  refine wl (ro_loadB rfl sc_128 (by assumption) rfl) ?_
  refine wl (ro_move rfl) ?_
  refine wl_call rfl en_188 (call188 hk hR.dr hK hi1 hi2 hza hzz hw1 hw2 hp1 hp2 hle (hx0.le (by omega))) ?_
  rintro _ u4 ⟨rfl, ow4, x4, f4, r4⟩
  obtain ⟨hN, khN⟩ := cp_loc x4 f4 hN khN
  obtain ⟨h2, kh2⟩ := cp_loc x4 f4 h2 kh2
  obtain ⟨h4, kh4⟩ := cp_loc x4 f4 h4 kh4
  have hs4 := hF.size
  replace hF := cp_trans hX hF f4
  replace hX := hX.trans hs4 x4
  replace hR := r4
  have hx1 := fx_call (N := []) (B := 90) (by rw [List.append_nil]; exact hx0) hi1 hi2 hw1 hw2
  obtain ⟨c1, hc1⟩ : ∃ z9, z9 = f.code ++ ((cmp a 0 (chn (f :: q)) 0 f.code.length S).1 65535 ++ (cmp zs 0 (chn (f :: q)) 0 (f.code.length + ln (cmp a 0 (chn (f :: q)) 0 f.code.length S)) (cmp a 0 (chn (f :: q)) 0 f.code.length S).2).1 65535 ++ [(26, lenE zs)]) := ⟨_, rfl⟩
  rw [← hc1] at hR hx1
  have hk1 : 3 * c1.length ≤ 31000 := hx1.clen
  refine wl_nil (x_then (hK13 _ _ ?_))
  clear hK13 K13
  refine c_reg ?_ -- region 24 expr.go:29
  refine wl (ro_loadB rfl sc_128 (by assumption) rfl) ?_
  refine wl (ro_build rfl bld_203_0) ?_
  refine wl_em (is := [(25, 0)]) (eo_bsI1 rfl se_196 zx_203) rfl hR rfl (by simp; omega) ?_
  intro u5 ow5 x5 f5 r5
  obtain ⟨hN, khN⟩ := cp_loc' x5 f5 hN khN
  obtain ⟨h2, kh2⟩ := cp_loc' x5 f5 h2 kh2
  obtain ⟨h4, kh4⟩ := cp_loc' x5 f5 h4 kh4
  have hs5 := hF.size
  replace hF := cp_trans' hX hF f5
  replace hX := hX.trans hs5 x5
  replace hR := r5
  refine wl_nil (x_blk ?_)
  refine bp_end Tryz.results186 rfl ?_
  refine ⟨rfl, _, hX, hF, ?_⟩
  show CM E _ _ (O ++ (numsT a ++ numsT zs)) (cmp zs 0 (chn (f :: q)) 0 (f.code.length + ln (cmp a 0 (chn (f :: q)) 0 f.code.length S)) (cmp a 0 (chn (f :: q)) 0 f.code.length S).2).2 ({ f with code := f.code ++ ((cmp a 0 (chn (f :: q)) 0 f.code.length S).1 65535 ++ (cmp zs 0 (chn (f :: q)) 0 (f.code.length + ln (cmp a 0 (chn (f :: q)) 0 f.code.length S)) (cmp a 0 (chn (f :: q)) 0 f.code.length S).2).1 65535 ++ [(26, lenE zs), (25, 0)]) } :: q)
  rw [show f.code ++ ((cmp a 0 (chn (f :: q)) 0 f.code.length S).1 65535 ++ (cmp zs 0 (chn (f :: q)) 0 (f.code.length + ln (cmp a 0 (chn (f :: q)) 0 f.code.length S)) (cmp a 0 (chn (f :: q)) 0 f.code.length S).2).1 65535 ++ [(26, lenE zs), (25, 0)]) = c1 ++ [(25, 0)] by rw [hc1]; simp only [List.append_assoc, List.cons_append, List.nil_append]]
  exact hR
end Go.Proofs.Qxb6500568aGreatDoor
