import Derived.Test.Qxb6500568aGreatDoorJc
/- The compiler: loops over tables (written by tools/mk_zs.py). -/
namespace Go.Proofs.Qxb6500568aGreatDoor
open Ieee
set_option linter.unusedVariables false
set_option linter.unusedSimpArgs false
set_option linter.unusedSectionVars false

/-- the code of a loop over a table. -/
theorem in_code {c1 d2 c4 c4j B1 c6 c7 c8 : Cod} {b : Nat} (hd : d2 = c1 ++ [(6, b)] ++ [(2, 0)] ++ [(6, b + 1)]) (h4 : c4 = d2 ++ [(32, b)]) (h4j : c4j = c4 ++ [(22, 65535)]) (h6 : c6 = c4j ++ B1) (h7 : c7 = c6 ++ [(29, b + 2)] ++ [(21, c1.length + 3)]) (h8 : c8 = setX c7 c4.length c7.length) : pch c8 (hp c4j.length B1) c8.length ++ [(29, b)] = c1 ++ ([(6, b), (2, 0), (6, b + 1), (32, b), (22, c1.length + 5 + B1.length + 2)] ++ B1.map (holeF (c1.length + 5 + B1.length + 2)) ++ [(29, b + 2), (21, c1.length + 3), (29, b)]) := by
  have e1 : ∀ K, setX c7 c4.length K = c4 ++ [(22, K)] ++ (B1 ++ [(29, b + 2), (21, c1.length + 3)]) := fun K => by
    rw [h7, h6, h4j, show c4 ++ [(22, 65535)] ++ B1 ++ [(29, b + 2)] ++ [(21, c1.length + 3)] = c4 ++ [(22, 65535)] ++ (B1 ++ [(29, b + 2), (21, c1.length + 3)]) by simp]
    exact setX_mid
  have hl7 : c7.length = c1.length + 5 + B1.length + 2 := by rw [h7, h6, h4j, h4, hd]; simp; omega
  have hl8 : c8.length = c7.length := by rw [h8, setX_len]
  have hl5 : c4j.length = (c4 ++ [(22, c7.length)]).length := by rw [h4j]; simp
  rw [hl8, hl5, hl7]
  rw [e1, hl7] at h8
  have e2 : ∀ K, pch c8 (hp (c4 ++ [(22, c1.length + 5 + B1.length + 2)]).length B1) K = c4 ++ [(22, c1.length + 5 + B1.length + 2)] ++ B1.map (holeF K) ++ [(29, b + 2), (21, c1.length + 3)] := fun K => by
    rw [h8, ← pch_hp K [(29, b + 2), (21, c1.length + 3)] B1 (c4 ++ [(22, c1.length + 5 + B1.length + 2)])]
    congr 1
    simp
  rw [e2, h4, hd]
  simp
section
variable {E : ZEnv} {w : World} {ow : Nat → Nat} {O : List Nat} {S : Fns} {f : ZAct} {q : List ZAct}
set_option maxHeartbeats 32000000 in
theorem walk194 {s t : Str} {a b : Tr} (ha : XE a) (hb : XB b true) {n pn : Nat} {cs : List Value} (hcs : cs = ndc (nd E.G n, pn)) (hR : CM E w ow O S (f :: q)) (hiN : IsNm E.G (nd E.G n).A [s, t]) (hi1 : IsE E.G (nd E.G n).B a) (hi4 : IsSL E.G (nd E.G n).C b) (hw4 : f.L.length + 4 ≤ 12) (hw1 : W a false f.L.length) (hwb : W b true (f.L.length + 4)) (hp1 : PaT E.pa a f.j) (hp4 : PaT E.pa b f.j) (hx0 : FX E S f q (numsT a ++ (numsT b ++ [])) (100 * ndT a + (100 * ndT b + 90))) :
    Ret Tryz.prog 194 [fptr E f.j, .agg cs.toArray] w (fun r w' => r = .tuple #[] ∧ ZP E w ow (O ++ numsT (St.forIn s t a b)) (cmp (St.forIn s t a b) 0 (chn (f :: q)) (lpB f.lps) f.code.length S).2 (⟨f.j, f.L, f.code ++ (cmp (St.forIn s t a b) 0 (chn (f :: q)) (lpB f.lps) f.code.length S).1 65535, f.lps⟩ :: q) w') := by
  obtain ⟨hm0, hmK, hms, hm20, hm2K, hm2s, -⟩ := hiN
  have hml : (nd E.G n).A < E.G.length := nd_lt (by rw [hmK]; decide)
  have hm2l : (nd E.G (nd E.G n).A).Nx < E.G.length := nd_lt (by rw [hm2K]; decide)
  have hF : Fram (tg ow cpT) w w := Fram.refl _ _
  have hX : Xt w ow ow := Xt.refl _ _
  subst hcs
  obtain ⟨gn, capn, ln_, env, hN, khN, hcapn, hrow⟩ := hR.nodes hx0.g0.1
  have hcl : 3 * f.code.length ≤ 31000 := hx0.clen
  have hL12 := hx0.L
  have hjl := hx0.jl
  have hjl9 := hjl
  refine retd_of Tryz.func194 rfl Tryz.ntmps194 rfl ?_
  refine c_np ?_
  refine c_seq (fun K1 hK1 => ?_)
  refine c_reg ?_ -- region 0 stmt.go:131
  refine wl_box rfl rfl (fun b3 w1 hbb3 h3 F1 => ?_)
  have hbsb3 := Nat.le_trans hF.size hbb3
  have hnegnb3 : gn < b3 := Nat.lt_of_lt_of_le hN.lt hbb3
  have kh3 := hR.df b3 hbb3
  replace hF := hF.thenDrew.thenN F1
  replace hR := hR.thruN ((Fram.refl none' _).thenDrew.thenN F1)
  replace hN := F1.blkN hN
  have h3 : Blk (w1).heap b3 (ndc (nd E.G n, pn)) 148 := h3
  unfold ndc at h3
  refine wl_nil (x_then (hK1 _ _ ?_))
  clear hK1 K1
  refine forget [(0, _), (3, _)] ⟨rfl, rfl, trivial⟩ (fun e => ?_)
  refine c_seq (fun K2 hK2 => ?_)
  obtain ⟨R_, z_, op⟩ := hR.open (f := f) (by simp)
  have hG := op.B
  have hC := hR.cb
  have khG := hR.ta
  have khC := hR.tc
  refine c_reg ?_ -- region 1 stmt.go:132
  refine wl (ro_move rfl) ?_
  refine wl (ro_nilCheck rfl) ?_
  refine wl (ro_fieldAddr (k := 3) rfl fo_199_3) ?_
  refine wl (ro_loadB rfl sc_192 hG (op.row 3 (by decide))) ?_
  refine wl (ro_lenL rfl se_192) ?_
  refine wl (ro_assign rfl) ?_
  have hG9 := hG
  refine wl_nil (x_then (hK2 _ _ ?_))
  clear hK2 K2
  refine forget [(0, _), (3, _), (4, _)] ⟨rfl, rfl, rfl, trivial⟩ (fun e => ?_)
  refine c_seq (fun K3 hK3 => ?_)
  refine c_reg ?_ -- region 2 stmt.go:133
  refine wl (ro_move rfl) ?_
  refine wl (ro_move rfl) ?_
  refine wl_deferA rfl ?_
  refine wl_nil (x_then (hK3 _ _ ?_))
  clear hK3 K3
  refine forget [(0, _), (3, _), (4, _)] ⟨rfl, rfl, rfl, trivial⟩ (fun e => ?_)
  refine c_seq (fun K4 hK4 => ?_)
  obtain ⟨pm, hpm⟩ := hrow _ hml
  obtain ⟨R_, z_, op⟩ := hR.open (f := f) (by simp)
  have hG := op.B
  have hC := hR.cb
  have khG := hR.ta
  have khC := hR.tc
  rw [env] at hC
  refine c_piL 12 [(0, false), (1, false), (2, false), (3, false), (4, false), (5, false), (6, false), (7, false), (8, false), (9, false), (10, false), (11, true)] (La gn _ _ (La b3 _ _ (La E.gb _ _ (La E.cb _ _ ((fun _ => True)))))) mixed (by kernel_rfl) rfl (by kernel_rfl) (po_then (po_np)) (⟨hN, h3, hG, hC, trivial⟩) ?_ -- region 3 stmt.go:134
  refine ql_ro rfl (fun w hS => ro_move rfl) ?_
  refine ql_ro rfl (fun w hS => ro_nilCheck rfl) ?_
  refine ql_ro rfl (fun w hS => ro_fieldAddr (k := 0) rfl fo_199_0) ?_
  refine ql_ro rfl (fun w hS => ro_loadB rfl sc_22 (hS.2.2.1) (op.row 0 (by decide))) ?_
  refine ql_ro rfl (fun w hS => ro_nilCheck rfl) ?_
  refine ql_ro rfl (fun w hS => ro_fieldAddr (k := 2) rfl fo_94_2) ?_
  refine ql_ro rfl (fun w hS => ro_loadB rfl sc_77 (hS.2.2.2.1) (rfl)) ?_
  refine ql_ro rfl (fun w hS => ro_fieldAddr (k := 1) rfl fo_148_1) ?_
  refine ql_ro rfl (fun w hS => ro_loadB rfl sc_3 (hS.2.1) rfl) ?_
  refine ql_ro rfl (fun w hS => ro_indexAddr (et := 148) (k := 8) rfl rfl se_77 (rfl) (hml)) ?_
  refine ql_ro rfl (fun w hS => ro_loadAggB rfl ag_148 (hS.1) (rfl) (hpm)) ?_
  refine ql_new rfl ze_148 (fun w1 F ↦ ⟨F.blkN hN, F.blkN h3, F.blkN hG, F.blkN hC, trivial⟩) ?_
  intro b5 w2 hbb5 h5 F2
  have hbsb5 := Nat.le_trans hF.size hbb5
  have hnegnb5 : gn < b5 := Nat.lt_of_lt_of_le hN.lt hbb5
  have hneb3b5 : b3 < b5 := Nat.lt_of_lt_of_le h3.lt hbb5
  have hneE.gbb5 : E.gb < b5 := Nat.lt_of_lt_of_le hG.lt hbb5
  have hneE.cbb5 : E.cb < b5 := Nat.lt_of_lt_of_le hC.lt hbb5
  have kh5 := hR.df b5 hbb5
  replace hF := hF.thenDrew.thenN F2
  replace hR := hR.thruN ((Fram.refl none' _).thenDrew.thenN F2)
  replace hN := F2.blkN hN
  replace h3 := F2.blkN h3
  replace hG := F2.blkN hG
  replace hC := F2.blkN hC
  refine ql_puta rfl rfl rfl ((ndc_one _)) sz_148 (rfl) h5 ((by simp)) (rfl) (fun w3 h5 F3 => ?_)
  replace hF := hF.thenDrew.thenO F3 (by first | exact .inr (by omega) | exact .inl rfl | exact .inl (by assumption) | assumption)
  replace hR := hR.hbput ((Fram.refl (one b5) _).thenDrew.thenO F3 (.inl rfl))
  replace hN := F3.blkO hN (by first | omega | exact ow_ne (by assumption) (by assumption) (by omega))
  replace h3 := F3.blkO h3 (by first | omega | exact ow_ne (by assumption) (by assumption) (by omega))
  replace hG := F3.blkO hG (by first | omega | exact ow_ne (by assumption) (by assumption) (by omega))
  replace hC := F3.blkO hC (by first | omega | exact ow_ne (by assumption) (by assumption) (by omega))
  have h5 : Blk (w3).heap b5 (ndc (nd E.G (nd E.G n).A, pm)) 148 := h5
  unfold ndc at h5
  refine x_then (hK4 _ _ ?_)
  clear hK4 K4
  refine forget [(0, _), (3, _), (4, _), (5, _)] ⟨rfl, rfl, rfl, rfl, trivial⟩ (fun e => ?_)
  refine c_seq (fun K5 hK5 => ?_)
  obtain ⟨pm2, hpm2⟩ := hrow _ hm2l
  refine c_piL 12 [(0, false), (1, false), (2, false), (3, false), (4, false), (5, false), (6, false), (7, false), (8, false), (9, false), (10, false), (11, true)] (La gn _ _ (La b3 _ _ (La E.gb _ _ (La E.cb _ _ (La b5 _ _ ((fun _ => True))))))) mixed (by kernel_rfl) rfl (by kernel_rfl) (po_then (po_np)) (⟨hN, h3, hG, hC, h5, trivial⟩) ?_ -- region 4 stmt.go:135
  refine ql_ro rfl (fun w hS => ro_move rfl) ?_
  refine ql_ro rfl (fun w hS => ro_nilCheck rfl) ?_
  refine ql_ro rfl (fun w hS => ro_fieldAddr (k := 0) rfl fo_199_0) ?_
  refine ql_ro rfl (fun w hS => ro_loadB rfl sc_22 (hS.2.2.1) (op.row 0 (by decide))) ?_
  refine ql_ro rfl (fun w hS => ro_nilCheck rfl) ?_
  refine ql_ro rfl (fun w hS => ro_fieldAddr (k := 2) rfl fo_94_2) ?_
  refine ql_ro rfl (fun w hS => ro_loadB rfl sc_77 (hS.2.2.2.1) (rfl)) ?_
  refine ql_ro rfl (fun w hS => ro_fieldAddr (k := 4) rfl fo_148_4) ?_
  refine ql_ro rfl (fun w hS => ro_loadB rfl sc_3 (hS.2.2.2.2.1) rfl) ?_
  refine ql_ro rfl (fun w hS => ro_indexAddr (et := 148) (k := 8) rfl rfl se_77 (rfl) (hm2l)) ?_
  refine ql_ro rfl (fun w hS => ro_loadAggB rfl ag_148 (hS.1) (rfl) (hpm2)) ?_
  refine ql_new rfl ze_148 (fun w1 F ↦ ⟨F.blkN hN, F.blkN h3, F.blkN hG, F.blkN hC, F.blkN h5, trivial⟩) ?_
  intro b6 w4 hbb6 h6 F4
  have hbsb6 := Nat.le_trans hF.size hbb6
  have hnegnb6 : gn < b6 := Nat.lt_of_lt_of_le hN.lt hbb6
  have hneb3b6 : b3 < b6 := Nat.lt_of_lt_of_le h3.lt hbb6
  have hneE.gbb6 : E.gb < b6 := Nat.lt_of_lt_of_le hG.lt hbb6
  have hneE.cbb6 : E.cb < b6 := Nat.lt_of_lt_of_le hC.lt hbb6
  have hneb5b6 : b5 < b6 := Nat.lt_of_lt_of_le h5.lt hbb6
  have kh6 := hR.df b6 hbb6
  replace hF := hF.thenDrew.thenN F4
  replace hR := hR.thruN ((Fram.refl none' _).thenDrew.thenN F4)
  replace hN := F4.blkN hN
  replace h3 := F4.blkN h3
  replace hG := F4.blkN hG
  replace hC := F4.blkN hC
  replace h5 := F4.blkN h5
  refine ql_puta rfl rfl rfl ((ndc_one _)) sz_148 (rfl) h6 ((by simp)) (rfl) (fun w5 h6 F5 => ?_)
  replace hF := hF.thenDrew.thenO F5 (by first | exact .inr (by omega) | exact .inl rfl | exact .inl (by assumption) | assumption)
  replace hR := hR.hbput ((Fram.refl (one b6) _).thenDrew.thenO F5 (.inl rfl))
  replace hN := F5.blkO hN (by first | omega | exact ow_ne (by assumption) (by assumption) (by omega))
  replace h3 := F5.blkO h3 (by first | omega | exact ow_ne (by assumption) (by assumption) (by omega))
  replace hG := F5.blkO hG (by first | omega | exact ow_ne (by assumption) (by assumption) (by omega))
  replace hC := F5.blkO hC (by first | omega | exact ow_ne (by assumption) (by assumption) (by omega))
  replace h5 := F5.blkO h5 (by first | omega | exact ow_ne (by assumption) (by assumption) (by omega))
  have h6 : Blk (w5).heap b6 (ndc (nd E.G (nd E.G (nd E.G n).A).Nx, pm2)) 148 := h6
  unfold ndc at h6
  rw [hm2s] at h6
  rw [hms] at h5
  refine x_then (hK5 _ _ ?_)
  clear hK5 K5
  refine forget [(0, _), (3, _), (4, _), (5, _), (6, _)] ⟨rfl, rfl, rfl, rfl, rfl, trivial⟩ (fun e => ?_)
  refine c_seq (fun K6 hK6 => ?_)
  refine c_reg ?_ -- region 5 stmt.go:136
  refine wl (ro_move rfl) ?_
  refine wl (ro_fieldAddr (k := 2) rfl fo_148_2) ?_
  refine wl (ro_loadB rfl sc_3 (by assumption) rfl) ?_
  refine wl_call rfl en_186 (ha E _ _ _ _ f q _ hR.dr hi1 hw1 hp1 (hx0.left.le (by omega))) ?_
  rintro _ u6 ⟨rfl, ow6, x6, f6, r6⟩
  obtain ⟨hN, khN⟩ := cp_loc x6 f6 hN khN
  obtain ⟨h3, kh3⟩ := cp_loc x6 f6 h3 kh3
  obtain ⟨h5, kh5⟩ := cp_loc x6 f6 h5 kh5
  obtain ⟨h6, kh6⟩ := cp_loc x6 f6 h6 kh6
  have hs6 := hF.size
  replace hF := cp_trans hX hF f6
  replace hX := hX.trans hs6 x6
  replace hR := r6
  have hx1 := hx0.eE hi1 hw1
  obtain ⟨S1, hS1⟩ : ∃ z9, z9 = (cmp a 0 (chn (f :: q)) 0 f.code.length S).2 := ⟨_, rfl⟩
  obtain ⟨c1, hc1⟩ : ∃ z9, z9 = f.code ++ (cmp a 0 (chn (f :: q)) 0 f.code.length S).1 65535 := ⟨_, rfl⟩
  have hl1 : c1.length = f.code.length + ln (cmp a 0 (chn (f :: q)) 0 f.code.length S) := by rw [hc1, List.length_append]; congr 1; exact hx0.ln
  replace hx1 : FX E (cmp a 0 (chn (f :: q)) 0 f.code.length S).2 { f with code := f.code ++ (cmp a 0 (chn (f :: q)) 0 f.code.length S).1 65535 } q _ _ := hx1
  have hR : CM E _ _ _ (cmp a 0 (chn (f :: q)) 0 f.code.length S).2 ({ f with code := f.code ++ (cmp a 0 (chn (f :: q)) 0 f.code.length S).1 65535 } :: q) := hR
  rw [← hS1, ← hc1] at hR hx1
  have hk1 : 3 * c1.length ≤ 31000 := hx1.clen
  refine wl_nil (x_then (hK6 _ _ ?_))
  clear hK6 K6
  refine forget [(0, _), (3, _), (4, _), (5, _), (6, _)] ⟨rfl, rfl, rfl, rfl, rfl, trivial⟩ (fun e => ?_)
  refine c_seq (fun K7 hK7 => ?_)
  refine c_reg ?_ -- region 6 stmt.go:137
  refine wl (ro_move rfl) ?_
  refine wl_call rfl en_187 (bind187 (f := ⟨f.j, f.L, c1, f.lps⟩) (nm := []) hR.dr (by simp; omega) hx1.jl (by simp only; omega)) ?_
  rintro _ u7 ⟨rfl, ow7, x7, f7, r7⟩
  obtain ⟨hN, khN⟩ := cp_loc x7 f7 hN khN
  obtain ⟨h3, kh3⟩ := cp_loc x7 f7 h3 kh3
  obtain ⟨h5, kh5⟩ := cp_loc x7 f7 h5 kh5
  obtain ⟨h6, kh6⟩ := cp_loc x7 f7 h6 kh6
  have hs7 := hF.size
  replace hF := cp_trans hX hF f7
  replace hX := hX.trans hs7 x7
  replace hR := r7
  have hy1 := FX.emit (B' := 100 * ndT b + 85) (is := [(6, f.L.length + 0)]) (FX.decl hx1 (s := []) (by simp; omega)) (by simp only [List.length_cons, List.length_nil]; omega)
  obtain ⟨T1, hT1⟩ : ∃ z9, z9 = declF f.j (f.L.length + 1) S1 := ⟨_, rfl⟩
  obtain ⟨d1, hd1⟩ : ∃ z9, z9 = c1 ++ [(6, f.L.length + 0)] := ⟨_, rfl⟩
  have hld1 : d1.length = c1.length + 1 := by rw [hd1, List.length_append]; rfl
  have eL1 : f.L ++ [[]] = (f.L ++ [[]]) := by simp
  have eN1 : (f.L).length = f.L.length + 0 := by simp
  have hR : CM E _ _ _ (declF f.j ((f.L).length + 1) S1) (⟨f.j, f.L ++ [[]], c1 ++ [(6, (f.L).length)], f.lps⟩ :: q) := hR
  replace hy1 : FX E (declF f.j ((f.L).length + 1) S1) ⟨f.j, f.L ++ [[]], c1 ++ [(6, f.L.length + 0)], f.lps⟩ q _ _ := hy1
  rw [eL1, eN1] at hR hy1
  rw [← hd1] at hR hy1
  rw [show declF f.j (f.L.length + 0 + 1) S1 = T1 from hT1.symm] at hR hy1
  have hkd1 : 3 * d1.length ≤ 31000 := hy1.clen
  refine wl_nil (x_then (hK7 _ _ ?_))
  clear hK7 K7
  refine forget [(0, _), (3, _), (4, _), (5, _), (6, _)] ⟨rfl, rfl, rfl, rfl, rfl, trivial⟩ (fun e => ?_)
  refine c_seq (fun K8 hK8 => ?_)
  refine c_reg ?_ -- region 7 stmt.go:138
  refine wl (ro_move rfl) ?_
  refine wl (ro_build rfl bld_203_0) ?_
  refine wl_em (is := [(2, 0)]) (eo_bsI1 rfl se_196 zx_203) rfl hR rfl (by simp; omega) ?_
  intro u8 ow8 x8 f8 r8
  obtain ⟨hN, khN⟩ := cp_loc' x8 f8 hN khN
  obtain ⟨h3, kh3⟩ := cp_loc' x8 f8 h3 kh3
  obtain ⟨h5, kh5⟩ := cp_loc' x8 f8 h5 kh5
  obtain ⟨h6, kh6⟩ := cp_loc' x8 f8 h6 kh6
  have hs8 := hF.size
  replace hF := cp_trans' hX hF f8
  replace hX := hX.trans hs8 x8
  replace hR := r8
  obtain ⟨e0, he0⟩ : ∃ z9, z9 = d1 ++ [(2, 0)] := ⟨_, rfl⟩
  have hle0 : e0.length = d1.length + 1 := by rw [he0, List.length_append]; rfl
  have hxe0 : FX E _ ⟨f.j, (f.L ++ [[]]), d1 ++ [(2, 0)], f.lps⟩ q _ (100 * ndT b + 80) := FX.emit (B' := 100 * ndT b + 80) hy1 (by simp only [List.length_cons, List.length_nil]; omega)
  have hR : CM E _ _ _ _ (⟨f.j, (f.L ++ [[]]), d1 ++ [(2, 0)], f.lps⟩ :: q) := hR
  rw [← he0] at hR hxe0
  have hke0 : 3 * e0.length ≤ 31000 := hxe0.clen
  refine wl_nil (x_then (hK8 _ _ ?_))
  clear hK8 K8
  refine forget [(0, _), (3, _), (4, _), (5, _), (6, _)] ⟨rfl, rfl, rfl, rfl, rfl, trivial⟩ (fun e => ?_)
  refine c_seq (fun K9 hK9 => ?_)
  refine c_reg ?_ -- region 8 stmt.go:139
  refine wl (ro_move rfl) ?_
  refine wl_call rfl en_187 (bind187 (f := ⟨f.j, (f.L ++ [[]]), e0, f.lps⟩) (nm := []) hR.dr (by simp; omega) hxe0.jl (by simp only; omega)) ?_
  rintro _ u9 ⟨rfl, ow9, x9, f9, r9⟩
  obtain ⟨hN, khN⟩ := cp_loc x9 f9 hN khN
  obtain ⟨h3, kh3⟩ := cp_loc x9 f9 h3 kh3
  obtain ⟨h5, kh5⟩ := cp_loc x9 f9 h5 kh5
  obtain ⟨h6, kh6⟩ := cp_loc x9 f9 h6 kh6
  have hs9 := hF.size
  replace hF := cp_trans hX hF f9
  replace hX := hX.trans hs9 x9
  replace hR := r9
  have hy2 := FX.emit (B' := 100 * ndT b + 75) (is := [(6, f.L.length + 1)]) (FX.decl hxe0 (s := []) (by simp; omega)) (by simp only [List.length_cons, List.length_nil]; omega)
  obtain ⟨T2, hT2⟩ : ∃ z9, z9 = declF f.j (f.L.length + 2) T1 := ⟨_, rfl⟩
  obtain ⟨d2, hd2⟩ : ∃ z9, z9 = e0 ++ [(6, f.L.length + 1)] := ⟨_, rfl⟩
  have hld2 : d2.length = e0.length + 1 := by rw [hd2, List.length_append]; rfl
  have eL2 : (f.L ++ [[]]) ++ [[]] = (f.L ++ [[], []]) := by simp
  have eN2 : ((f.L ++ [[]])).length = f.L.length + 1 := by simp
  have hR : CM E _ _ _ (declF f.j (((f.L ++ [[]])).length + 1) T1) (⟨f.j, (f.L ++ [[]]) ++ [[]], e0 ++ [(6, ((f.L ++ [[]])).length)], f.lps⟩ :: q) := hR
  replace hy2 : FX E (declF f.j (((f.L ++ [[]])).length + 1) T1) ⟨f.j, (f.L ++ [[]]) ++ [[]], e0 ++ [(6, f.L.length + 1)], f.lps⟩ q _ _ := hy2
  rw [eL2, eN2] at hR hy2
  rw [← hd2] at hR hy2
  rw [show declF f.j (f.L.length + 1 + 1) T1 = T2 from hT2.symm] at hR hy2
  have hkd2 : 3 * d2.length ≤ 31000 := hy2.clen
  refine wl_nil (x_then (hK9 _ _ ?_))
  clear hK9 K9
  refine forget [(0, _), (3, _), (4, _), (5, _), (6, _)] ⟨rfl, rfl, rfl, rfl, rfl, trivial⟩ (fun e => ?_)
  refine c_seq (fun K10 hK10 => ?_)
  obtain ⟨R8, z8, op8⟩ := hR.open (f := ⟨f.j, (f.L ++ [[], []]), d2, f.lps⟩) (by simp)
  have hG8 := op8.B
  refine c_reg ?_ -- region 9 stmt.go:140
  refine wl (ro_move rfl) ?_
  refine wl (ro_nilCheck rfl) ?_
  refine wl (ro_fieldAddr (k := 9) rfl fo_199_9) ?_
  refine wl (ro_loadB rfl sc_196 (hG8) (op8.row 9 (by decide))) ?_
  refine wl (ro_lenL rfl se_196) ?_
  refine wl (ro_assign rfl) ?_
  refine wl_nil (x_then (hK10 _ _ ?_))
  clear hK10 K10
  refine forget [(0, _), (3, _), (4, _), (5, _), (6, _), (7, _)] ⟨rfl, rfl, rfl, rfl, rfl, rfl, trivial⟩ (fun e => ?_)
  refine c_seq (fun K11 hK11 => ?_)
  refine c_reg ?_ -- region 10 stmt.go:141
  refine wl (ro_move rfl) ?_
  refine wl (ro_move rfl) ?_
  refine wl (ro_conv rfl sc_3 in_201 (Go.IntWalk.u16_in _ (by omega))) ?_
  refine wl (ro_build rfl bld_203_0_1) ?_
  refine wl_em (is := [(32, f.L.length)]) (eo_bsI1 rfl se_196 zx_203) rfl hR rfl (by simp; omega) ?_
  intro u10 ow10 x10 f10 r10
  obtain ⟨hN, khN⟩ := cp_loc' x10 f10 hN khN
  obtain ⟨h3, kh3⟩ := cp_loc' x10 f10 h3 kh3
  obtain ⟨h5, kh5⟩ := cp_loc' x10 f10 h5 kh5
  obtain ⟨h6, kh6⟩ := cp_loc' x10 f10 h6 kh6
  have hs10 := hF.size
  replace hF := cp_trans' hX hF f10
  replace hX := hX.trans hs10 x10
  replace hR := r10
  obtain ⟨c4, hc4⟩ : ∃ z9, z9 = d2 ++ [(32, f.L.length)] := ⟨_, rfl⟩
  have hlc4 : c4.length = d2.length + 1 := by rw [hc4, List.length_append]; rfl
  have hxc4 : FX E _ ⟨f.j, (f.L ++ [[], []]), d2 ++ [(32, f.L.length)], f.lps⟩ q _ (100 * ndT b + 70) := FX.emit (B' := 100 * ndT b + 70) hy2 (by simp only [List.length_cons, List.length_nil]; omega)
  have hR : CM E _ _ _ _ (⟨f.j, (f.L ++ [[], []]), d2 ++ [(32, f.L.length)], f.lps⟩ :: q) := hR
  rw [← hc4] at hR hxc4
  have hkc4 : 3 * c4.length ≤ 31000 := hxc4.clen
  refine wl_nil (x_then (hK11 _ _ ?_))
  clear hK11 K11
  refine forget [(0, _), (3, _), (4, _), (5, _), (6, _), (7, _)] ⟨rfl, rfl, rfl, rfl, rfl, rfl, trivial⟩ (fun e => ?_)
  refine c_seq (fun K12 hK12 => ?_)
  refine c_reg ?_ -- region 11 stmt.go:142
  refine wl (ro_move rfl) ?_
  refine wl_call rfl en_195 (jump195 (f := ⟨f.j, (f.L ++ [[], []]), c4, f.lps⟩) (oc := 22) hR (by simp only; omega)) ?_
  rintro v9 u9 ⟨ow9, x9, f9, r9, ⟨p2a, p5a, rfl, hq2a, khq2a, hq5a, khq5a⟩⟩
  obtain ⟨hN, khN⟩ := cp_loc x9 f9 hN khN
  obtain ⟨h3, kh3⟩ := cp_loc x9 f9 h3 kh3
  obtain ⟨h5, kh5⟩ := cp_loc x9 f9 h5 kh5
  obtain ⟨h6, kh6⟩ := cp_loc x9 f9 h6 kh6
  have hs9 := hF.size
  replace hF := cp_trans hX hF f9
  replace hX := hX.trans hs9 x9
  replace hR := r9
  obtain ⟨c4j, hc4j⟩ : ∃ z9, z9 = c4 ++ [(22, 65535)] := ⟨_, rfl⟩
  have hlc4j : c4j.length = c4.length + 1 := by rw [hc4j, List.length_append]; rfl
  have hxc4j : FX E _ ⟨f.j, (f.L ++ [[], []]), c4 ++ [(22, 65535)], f.lps⟩ q _ (100 * ndT b + 65) := FX.emit (B' := 100 * ndT b + 65) hxc4 (by simp only [List.length_cons, List.length_nil]; omega)
  have hR : CM E _ _ _ _ (⟨f.j, (f.L ++ [[], []]), c4 ++ [(22, 65535)], f.lps⟩ :: q) := hR
  rw [← hc4j] at hR hxc4j
  have hkc4j : 3 * c4j.length ≤ 31000 := hxc4j.clen
  refine wl (ro_assign rfl) ?_
  refine wl_nil (x_then (hK12 _ _ ?_))
  clear hK12 K12
  refine forget [(0, _), (3, _), (4, _), (5, _), (6, _), (7, _), (8, _)] ⟨rfl, rfl, rfl, rfl, rfl, rfl, rfl, trivial⟩ (fun e => ?_)
  refine c_seq (fun K13 hK13 => ?_)
  refine c_reg ?_ -- region 12 stmt.go:143
  refine wl (ro_move rfl) ?_
  refine wl (ro_move rfl) ?_
  refine wl_call rfl en_235 (open235 (f := ⟨f.j, (f.L ++ [[], []]), c4j, f.lps⟩) (base := f.L.length) hR.dr (by have := hx0.lq; simp only; omega)) ?_
  rintro _ u11 ⟨rfl, ow11, x11, f11, r11⟩
  obtain ⟨hN, khN⟩ := cp_loc x11 f11 hN khN
  obtain ⟨h3, kh3⟩ := cp_loc x11 f11 h3 kh3
  obtain ⟨h5, kh5⟩ := cp_loc x11 f11 h5 kh5
  obtain ⟨h6, kh6⟩ := cp_loc x11 f11 h6 kh6
  obtain ⟨hq2a, khq2a⟩ := cp_loc x11 f11 hq2a khq2a
  obtain ⟨hq5a, khq5a⟩ := cp_loc x11 f11 hq5a khq5a
  have hs11 := hF.size
  replace hF := cp_trans hX hF f11
  replace hX := hX.trans hs11 x11
  replace hR := r11
  have hxo := FX.opn (b := f.L.length) (B' := 100 * ndT b + 60) hxc4j hL12 (by omega)
  have hxo : FX E _ ⟨f.j, (f.L ++ [[], []]), c4j, (f.L.length, []) :: f.lps⟩ q _ _ := hxo
  refine wl_nil (x_then (hK13 _ _ ?_))
  clear hK13 K13
  refine forget [(0, _), (3, _), (4, _), (5, _), (6, _), (7, _), (8, _)] ⟨rfl, rfl, rfl, rfl, rfl, rfl, rfl, trivial⟩ (fun e => ?_)
  refine c_seq (fun K14 hK14 => ?_)
  refine c_reg ?_ -- region 13 stmt.go:144
  refine wl (ro_move rfl) ?_
  refine wl (ro_fieldAddr (k := 6) rfl fo_148_6) ?_
  refine wl (ro_loadB rfl sc_9 (by assumption) rfl) ?_
  refine wl_call rfl en_189 (declare189 (f := ⟨f.j, (f.L ++ [[], []]), c4j, (f.L.length, []) :: f.lps⟩) (nm := s) hR.dr (by simp; omega) hxo.jl) ?_
  rintro _ u12 ⟨rfl, ow12, x12, f12, r12⟩
  obtain ⟨hN, khN⟩ := cp_loc x12 f12 hN khN
  obtain ⟨h3, kh3⟩ := cp_loc x12 f12 h3 kh3
  obtain ⟨h5, kh5⟩ := cp_loc x12 f12 h5 kh5
  obtain ⟨h6, kh6⟩ := cp_loc x12 f12 h6 kh6
  obtain ⟨hq2a, khq2a⟩ := cp_loc x12 f12 hq2a khq2a
  obtain ⟨hq5a, khq5a⟩ := cp_loc x12 f12 hq5a khq5a
  have hs12 := hF.size
  replace hF := cp_trans hX hF f12
  replace hX := hX.trans hs12 x12
  replace hR := r12
  have hy3 := FX.decl hxo (s := s) (by simp; omega)
  obtain ⟨T3, hT3⟩ : ∃ z9, z9 = declF f.j (f.L.length + 3) T2 := ⟨_, rfl⟩
  have hR : CM E _ _ _ (declF f.j ((f.L ++ [[], []]).length + 1) T2) (⟨f.j, (f.L ++ [[], []]) ++ [s], c4j, (f.L.length, []) :: f.lps⟩ :: q) := hR
  replace hy3 : FX E (declF f.j ((f.L ++ [[], []]).length + 1) T2) ⟨f.j, (f.L ++ [[], []]) ++ [s], c4j, (f.L.length, []) :: f.lps⟩ q _ _ := hy3
  rw [show (f.L ++ [[], []]) ++ [s] = (f.L ++ [[], [], s]) by simp, show List.length (f.L ++ [[], []]) = f.L.length + 2 by simp] at hR hy3
  rw [show declF f.j (f.L.length + 2 + 1) T2 = T3 from hT3.symm] at hR hy3
  refine wl_nil (x_then (hK14 _ _ ?_))
  clear hK14 K14
  refine forget [(0, _), (3, _), (4, _), (6, _), (7, _), (8, _)] ⟨rfl, rfl, rfl, rfl, rfl, rfl, trivial⟩ (fun e => ?_)
  refine c_seq (fun K15 hK15 => ?_)
  refine c_reg ?_ -- region 14 stmt.go:145
  refine wl (ro_move rfl) ?_
  refine wl (ro_fieldAddr (k := 6) rfl fo_148_6) ?_
  refine wl (ro_loadB rfl sc_9 (by assumption) rfl) ?_
  refine wl_call rfl en_189 (declare189 (f := ⟨f.j, (f.L ++ [[], [], s]), c4j, (f.L.length, []) :: f.lps⟩) (nm := t) hR.dr (by simp; omega) hy3.jl) ?_
  rintro _ u13 ⟨rfl, ow13, x13, f13, r13⟩
  obtain ⟨hN, khN⟩ := cp_loc x13 f13 hN khN
  obtain ⟨h3, kh3⟩ := cp_loc x13 f13 h3 kh3
  obtain ⟨h5, kh5⟩ := cp_loc x13 f13 h5 kh5
  obtain ⟨h6, kh6⟩ := cp_loc x13 f13 h6 kh6
  obtain ⟨hq2a, khq2a⟩ := cp_loc x13 f13 hq2a khq2a
  obtain ⟨hq5a, khq5a⟩ := cp_loc x13 f13 hq5a khq5a
  have hs13 := hF.size
  replace hF := cp_trans hX hF f13
  replace hX := hX.trans hs13 x13
  replace hR := r13
  have hy4 := FX.decl hy3 (s := t) (by simp; omega)
  obtain ⟨T4, hT4⟩ : ∃ z9, z9 = declF f.j (f.L.length + 4) T3 := ⟨_, rfl⟩
  have hR : CM E _ _ _ (declF f.j ((f.L ++ [[], [], s]).length + 1) T3) (⟨f.j, (f.L ++ [[], [], s]) ++ [t], c4j, (f.L.length, []) :: f.lps⟩ :: q) := hR
  replace hy4 : FX E (declF f.j ((f.L ++ [[], [], s]).length + 1) T3) ⟨f.j, (f.L ++ [[], [], s]) ++ [t], c4j, (f.L.length, []) :: f.lps⟩ q _ _ := hy4
  rw [show (f.L ++ [[], [], s]) ++ [t] = (f.L ++ [[], [], s, t]) by simp, show List.length (f.L ++ [[], [], s]) = f.L.length + 3 by simp] at hR hy4
  rw [show declF f.j (f.L.length + 3 + 1) T3 = T4 from hT4.symm] at hR hy4
  have eT4 : T4 = declF f.j (f.L.length + 4) S1 := by rw [hT4, hT3, declF_declF (by omega), hT2, declF_declF (by omega), hT1, declF_declF (by omega)]
  refine wl_nil (x_then (hK15 _ _ ?_))
  clear hK15 K15
  refine forget [(0, _), (3, _), (4, _), (7, _), (8, _)] ⟨rfl, rfl, rfl, rfl, rfl, trivial⟩ (fun e => ?_)
  refine c_seq (fun K16 hK16 => ?_)
  refine c_reg ?_ -- region 15 stmt.go:146
  refine wl (ro_move rfl) ?_
  refine wl (ro_fieldAddr (k := 3) rfl fo_148_3) ?_
  refine wl (ro_loadB rfl sc_3 (by assumption) rfl) ?_
  refine wl_call rfl en_79 (hb E _ _ _ _ ⟨f.j, (f.L ++ [[], [], s, t]), c4j, (f.L.length, []) :: f.lps⟩ q _ hR.dr hi4 (by simp only [List.length_append, List.length_cons, List.length_nil]; exact hwb) hp4 (fun _ h ↦ by cases h) (hy4.left.le (by omega))) ?_
  rintro _ u14 ⟨rfl, ow14, x14, f14, r14⟩
  obtain ⟨hN, khN⟩ := cp_loc x14 f14 hN khN
  obtain ⟨h3, kh3⟩ := cp_loc x14 f14 h3 kh3
  obtain ⟨h5, kh5⟩ := cp_loc x14 f14 h5 kh5
  obtain ⟨h6, kh6⟩ := cp_loc x14 f14 h6 kh6
  obtain ⟨hq2a, khq2a⟩ := cp_loc x14 f14 hq2a khq2a
  obtain ⟨hq5a, khq5a⟩ := cp_loc x14 f14 hq5a khq5a
  have hs14 := hF.size
  replace hF := cp_trans hX hF f14
  replace hX := hX.trans hs14 x14
  replace hR := r14
  have hwb9 : W b true (f.L ++ [[], [], s, t]).length := by simp only [List.length_append, List.length_cons, List.length_nil]; exact hwb
  have hx6 := FX.bB (B := 50) (hy4.le (by omega)) hi4 hwb9
  have hho : HoP (cmp b (f.L ++ [[], [], s, t]).length ((f.j, (f.L ++ [[], [], s, t])) :: chn q) f.L.length c4j.length T4) := FX.hoB (B := 50) (hy4.le (by omega)) hi4 hwb9
  obtain ⟨S6, hS6⟩ : ∃ z9, z9 = (cmp b (f.L ++ [[], [], s, t]).length ((f.j, (f.L ++ [[], [], s, t])) :: chn q) f.L.length c4j.length T4).2 := ⟨_, rfl⟩
  obtain ⟨c6, hc6⟩ : ∃ z9, z9 = c4j ++ (cmp b (f.L ++ [[], [], s, t]).length ((f.j, (f.L ++ [[], [], s, t])) :: chn q) f.L.length c4j.length T4).1 65535 := ⟨_, rfl⟩
  obtain ⟨l6, hp6⟩ : ∃ z9, z9 = addB ((f.L.length, []) :: f.lps) (hp c4j.length ((cmp b (f.L ++ [[], [], s, t]).length ((f.j, (f.L ++ [[], [], s, t])) :: chn q) f.L.length c4j.length T4).1 65535)) := ⟨_, rfl⟩
  have hl6 : c6.length = c4j.length + ln (cmp b (f.L ++ [[], [], s, t]).length ((f.j, (f.L ++ [[], [], s, t])) :: chn q) f.L.length c4j.length T4) := by rw [hc6, List.length_append]; congr 1; exact hy4.ln
  replace hx6 : FX E (cmp b (f.L ++ [[], [], s, t]).length ((f.j, (f.L ++ [[], [], s, t])) :: chn q) f.L.length c4j.length T4).2 ⟨f.j, (f.L ++ [[], [], s, t]), c4j ++ (cmp b (f.L ++ [[], [], s, t]).length ((f.j, (f.L ++ [[], [], s, t])) :: chn q) f.L.length c4j.length T4).1 65535, addB ((f.L.length, []) :: f.lps) (hp c4j.length ((cmp b (f.L ++ [[], [], s, t]).length ((f.j, (f.L ++ [[], [], s, t])) :: chn q) f.L.length c4j.length T4).1 65535))⟩ q _ _ := hx6
  have hR : CM E _ _ _ (cmp b (f.L ++ [[], [], s, t]).length ((f.j, (f.L ++ [[], [], s, t])) :: chn q) f.L.length c4j.length T4).2 (⟨f.j, (f.L ++ [[], [], s, t]), c4j ++ (cmp b (f.L ++ [[], [], s, t]).length ((f.j, (f.L ++ [[], [], s, t])) :: chn q) f.L.length c4j.length T4).1 65535, addB ((f.L.length, []) :: f.lps) (hp c4j.length ((cmp b (f.L ++ [[], [], s, t]).length ((f.j, (f.L ++ [[], [], s, t])) :: chn q) f.L.length c4j.length T4).1 65535))⟩ :: q) := hR
  rw [← hp6, ← hc6, ← hS6] at hR hx6
  have hk6 : 3 * c6.length ≤ 31000 := hx6.clen
  refine wl_nil (x_then (hK16 _ _ ?_))
  clear hK16 K16
  refine forget [(0, _), (4, _), (7, _), (8, _)] ⟨rfl, rfl, rfl, rfl, trivial⟩ (fun e => ?_)
  refine c_seq (fun K17 hK17 => ?_)
  refine c_reg ?_ -- region 16 stmt.go:147
  refine wl (ro_move rfl) ?_
  refine wl (ro_move rfl) ?_
  refine wl (ro_arith (r := ((f.L.length + 2 : Nat) : Int)) rfl rfl (congrArg some (by show (f.L.length : Int) + 2 = _; omega)) (Go.IntWalk.i64_in _ (by omega))) ?_
  refine wl_call rfl en_137 (leave137 (f := ⟨f.j, (f.L ++ [[], [], s, t]), c6, l6⟩) (base := f.L.length + 2) hR.dr (by simp; omega) (by simp only; omega)) ?_
  rintro _ u15 ⟨rfl, ow15, x15, f15, r15⟩
  obtain ⟨hN, khN⟩ := cp_loc x15 f15 hN khN
  obtain ⟨h3, kh3⟩ := cp_loc x15 f15 h3 kh3
  obtain ⟨h5, kh5⟩ := cp_loc x15 f15 h5 kh5
  obtain ⟨h6, kh6⟩ := cp_loc x15 f15 h6 kh6
  obtain ⟨hq2a, khq2a⟩ := cp_loc x15 f15 hq2a khq2a
  obtain ⟨hq5a, khq5a⟩ := cp_loc x15 f15 hq5a khq5a
  have hs15 := hF.size
  replace hF := cp_trans hX hF f15
  replace hX := hX.trans hs15 x15
  replace hR := r15
  obtain ⟨e3, he3⟩ : ∃ z9, z9 = c6 ++ [(29, f.L.length + 2)] := ⟨_, rfl⟩
  have hle3 : e3.length = c6.length + 1 := by rw [he3, List.length_append]; rfl
  have hR : CM E _ _ _ _ (⟨f.j, (f.L ++ [[], [], s, t]).take (f.L.length + 2), c6 ++ (if f.L.length + 2 < (f.L ++ [[], [], s, t]).length then [(29, f.L.length + 2)] else []), l6⟩ :: q) := hR
  rw [if_pos (by simp), ← he3, show (f.L ++ [[], [], s, t]).take (f.L.length + 2) = (f.L ++ [[], []]) by rw [List.take_append, List.take_of_length_le (by omega), Nat.add_sub_cancel_left]; rfl] at hR
  refine wl_nil (x_then (hK17 _ _ ?_))
  clear hK17 K17
  refine forget [(0, _), (7, _), (8, _)] ⟨rfl, rfl, rfl, trivial⟩ (fun e => ?_)
  refine c_seq (fun K18 hK18 => ?_)
  refine c_reg ?_ -- region 17 stmt.go:148
  refine wl (ro_move rfl) ?_
  refine wl (ro_move rfl) ?_
  refine wl (ro_conv rfl sc_3 in_201 (Go.IntWalk.u16_in _ (by simp only; omega))) ?_
  refine wl (ro_build rfl bld_203_0_1) ?_
  refine wl_em (is := [(21, d2.length)]) (eo_bsI1 rfl se_196 zx_203) rfl hR rfl (by simp; omega) ?_
  intro u16 ow16 x16 f16 r16
  obtain ⟨hN, khN⟩ := cp_loc' x16 f16 hN khN
  obtain ⟨h3, kh3⟩ := cp_loc' x16 f16 h3 kh3
  obtain ⟨h5, kh5⟩ := cp_loc' x16 f16 h5 kh5
  obtain ⟨h6, kh6⟩ := cp_loc' x16 f16 h6 kh6
  obtain ⟨hq2a, khq2a⟩ := cp_loc' x16 f16 hq2a khq2a
  obtain ⟨hq5a, khq5a⟩ := cp_loc' x16 f16 hq5a khq5a
  have hs16 := hF.size
  replace hF := cp_trans' hX hF f16
  replace hX := hX.trans hs16 x16
  replace hR := r16
  obtain ⟨c7, hc7⟩ : ∃ z9, z9 = e3 ++ [(21, d2.length)] := ⟨_, rfl⟩
  have hlc7 : c7.length = e3.length + 1 := by rw [hc7, List.length_append]; rfl
  have hR : CM E _ _ _ _ (⟨f.j, (f.L ++ [[], []]), e3 ++ [(21, d2.length)], l6⟩ :: q) := hR
  rw [← hc7] at hR
  refine wl_nil (x_then (hK18 _ _ ?_))
  clear hK18 K18
  refine forget [(0, _), (8, _)] ⟨rfl, rfl, trivial⟩ (fun e => ?_)
  refine c_seq (fun K19 hK19 => ?_)
  refine c_reg ?_ -- region 18 stmt.go:149
  refine wl (ro_move rfl) ?_
  refine wl_callV rfl rfl (patch237 (f := ⟨f.j, (f.L ++ [[], []]), c7, l6⟩) (p := c4.length) hR ⟨p2a, p5a, rfl, hq2a, khq2a, hq5a, khq5a⟩ (by show c4.length < c7.length; omega) (by show c7.length ≤ _; omega)) ?_
  rintro _ u8 ⟨rfl, ow8, x8, f8, r8⟩
  obtain ⟨hN, khN⟩ := cp_loc x8 f8 hN khN
  obtain ⟨h3, kh3⟩ := cp_loc x8 f8 h3 kh3
  obtain ⟨h5, kh5⟩ := cp_loc x8 f8 h5 kh5
  obtain ⟨h6, kh6⟩ := cp_loc x8 f8 h6 kh6
  obtain ⟨hq2a, khq2a⟩ := cp_loc x8 f8 hq2a khq2a
  obtain ⟨hq5a, khq5a⟩ := cp_loc x8 f8 hq5a khq5a
  have hs8 := hF.size
  replace hF := cp_trans hX hF f8
  replace hX := hX.trans hs8 x8
  replace hR := r8
  obtain ⟨c8, hc8⟩ : ∃ z9, z9 = setX c7 c4.length c7.length := ⟨_, rfl⟩
  have hlc8 : c8.length = c7.length := by rw [hc8, setX_len]
  have hR : CM E _ _ _ _ (⟨f.j, (f.L ++ [[], []]), setX c7 c4.length c7.length, l6⟩ :: q) := hR
  rw [← hc8] at hR
  refine wl_nil (x_then (hK19 _ _ ?_))
  clear hK19 K19
  refine c_reg ?_ -- region 19 stmt.go:150
  refine wl (ro_move rfl) ?_
  refine wl_call rfl en_236 (shut236 (f := ⟨f.j, (f.L ++ [[], []]), c8, l6⟩) (b := f.L.length) (br := [] ++ hp c4j.length ((cmp b (f.L ++ [[], [], s, t]).length ((f.j, (f.L ++ [[], [], s, t])) :: chn q) f.L.length c4j.length T4).1 65535)) (rest := f.lps) hR.dr hp6 (fun p hp ↦ by have := (hx6.lb _ (by rw [hp6]; exact List.mem_cons_self)).2.2 p hp; simp only at this ⊢; omega) (by simp only; omega) (by have := (hx6.lb _ (by rw [hp6]; exact List.mem_cons_self)).2.1; simp only at this; omega) (by have := hx0.lq; omega)) ?_
  rintro _ u17 ⟨rfl, ow17, x17, f17, r17⟩
  obtain ⟨hN, khN⟩ := cp_loc x17 f17 hN khN
  obtain ⟨h3, kh3⟩ := cp_loc x17 f17 h3 kh3
  obtain ⟨h5, kh5⟩ := cp_loc x17 f17 h5 kh5
  obtain ⟨h6, kh6⟩ := cp_loc x17 f17 h6 kh6
  obtain ⟨hq2a, khq2a⟩ := cp_loc x17 f17 hq2a khq2a
  obtain ⟨hq5a, khq5a⟩ := cp_loc x17 f17 hq5a khq5a
  have hs17 := hF.size
  replace hF := cp_trans hX hF f17
  replace hX := hX.trans hs17 x17
  replace hR := r17
  refine wl_nil ?_
  have hR : CM E _ _ _ S6 (⟨f.j, (f.L ++ [[], []]), pch c8 ([] ++ hp c4j.length ((cmp b (f.L ++ [[], [], s, t]).length ((f.j, (f.L ++ [[], [], s, t])) :: chn q) f.L.length c4j.length T4).1 65535)) c8.length, f.lps⟩ :: q) := hR
  rw [List.nil_append] at hR
  have hlv := leave137W (base := f.L.length) hR (by simp; omega) (by show (pch c8 _ c8.length).length ≤ _; rw [pch_len]; omega)
  refine bpd_one (args := [fptr E f.j, i64c f.L.length]) rfl en_137 hlv (fun v w' hv ↦ ⟨rfl, ZP.tr hX hF ?_⟩)
  have hz := hv.2
  have hz : ZP E _ _ _ S6 (⟨f.j, (f.L ++ [[], []]).take f.L.length, pch c8 (hp c4j.length ((cmp b (f.L ++ [[], [], s, t]).length ((f.j, (f.L ++ [[], [], s, t])) :: chn q) f.L.length c4j.length T4).1 65535)) c8.length ++ (if f.L.length < (f.L ++ [[], []]).length then [(29, f.L.length)] else []), f.lps⟩ :: q) w' := hz
  rw [if_pos (by simp), List.take_left] at hz
  rw [in_code (c1 := c1) (d2 := d2) (c4 := c4) (c4j := c4j) (b := f.L.length) (B1 := (cmp b (f.L ++ [[], [], s, t]).length ((f.j, (f.L ++ [[], [], s, t])) :: chn q) f.L.length c4j.length T4).1 65535) (by rw [hd2, he0, hd1]; rfl) hc4 hc4j hc6 (by rw [hc7, he3, show d2.length = c1.length + 3 by omega]) hc8] at hz
  have hL44 : (f.L ++ [[], [], s, t]).length = f.L.length + 4 := by simp
  rw [hL44] at hz hho hc6 hS6 hl6
  have hBl6 : ((cmp b (f.L.length + 4) ((f.j, (f.L ++ [[], [], s, t])) :: chn q) f.L.length c4j.length T4).1 65535).length = ln (cmp b (f.L.length + 4) ((f.j, (f.L ++ [[], [], s, t])) :: chn q) f.L.length c4j.length T4) := by
    have h9 := hl6
    rw [hc6, List.length_append] at h9
    omega
  have hd46 : c4j.length = c1.length + 5 := by omega
  show ZP E _ _ (O ++ (numsT a ++ numsT b)) (cmp b (f.L.length + 4) ((f.j, (f.L ++ [[], [], s, t])) :: chn q) f.L.length (f.code.length + ln (cmp a 0 (chn (f :: q)) 0 f.code.length S) + 5) (declF f.j (f.L.length + 4) (cmp a 0 (chn (f :: q)) 0 f.code.length S).2)).2 (⟨f.j, f.L, f.code ++ ((cmp a 0 (chn (f :: q)) 0 f.code.length S).1 65535 ++ [(6, f.L.length), (2, 0), (6, f.L.length + 1), (32, f.L.length), (22, f.code.length + ln (cmp a 0 (chn (f :: q)) 0 f.code.length S) + 5 + ln (cmp b (f.L.length + 4) ((f.j, (f.L ++ [[], [], s, t])) :: chn q) f.L.length (f.code.length + ln (cmp a 0 (chn (f :: q)) 0 f.code.length S) + 5) (declF f.j (f.L.length + 4) (cmp a 0 (chn (f :: q)) 0 f.code.length S).2)) + 2)] ++ (cmp b (f.L.length + 4) ((f.j, (f.L ++ [[], [], s, t])) :: chn q) f.L.length (f.code.length + ln (cmp a 0 (chn (f :: q)) 0 f.code.length S) + 5) (declF f.j (f.L.length + 4) (cmp a 0 (chn (f :: q)) 0 f.code.length S).2)).1 (f.code.length + ln (cmp a 0 (chn (f :: q)) 0 f.code.length S) + 5 + ln (cmp b (f.L.length + 4) ((f.j, (f.L ++ [[], [], s, t])) :: chn q) f.L.length (f.code.length + ln (cmp a 0 (chn (f :: q)) 0 f.code.length S) + 5) (declF f.j (f.L.length + 4) (cmp a 0 (chn (f :: q)) 0 f.code.length S).2)) + 2) ++ [(29, f.L.length + 2), (21, f.code.length + ln (cmp a 0 (chn (f :: q)) 0 f.code.length S) + 3), (29, f.L.length)]), f.lps⟩ :: q) _
  rw [← hl1, ← hS1, ← eT4, ← hd46, ← hS6]
  rw [List.append_assoc, ← hho, hBl6, ← hd46] at hz
  have eF : ∀ (Y Z : Cod) (v : Nat × Nat), f.code ++ ((cmp a 0 (chn (f :: q)) 0 f.code.length S).1 65535 ++ [(6, f.L.length), (2, 0), (6, f.L.length + 1), (32, f.L.length), v] ++ Y ++ Z) = c1 ++ ([(6, f.L.length), (2, 0), (6, f.L.length + 1), (32, f.L.length), v] ++ Y ++ Z) := fun Y Z v ↦ by rw [hc1]; simp only [List.append_assoc]
  rw [eF]
  exact hz
end
set_option maxHeartbeats 16000000 in
theorem xs_for2 {s : Str} {a l b : Tr} {lp : Bool} (ha : XE a) (hl : XE l) (hb : XB b true) : XS (St.for2 s a l b) lp := by
  intro E w ow O S f q n hR hi hw hpa hlp hx
  have hw9 := hw
  obtain ⟨hn0, hK, hs, hA0, hi1, hA2, hi2, hn3, hi4⟩ := IsS_for2.1 hi
  have hn : n < E.G.length := nd_lt (by rw [hK]; decide)
  obtain ⟨-, hw4, -, -, hw1, hw2, hwb⟩ : NmW s ∧ f.L.length + 4 ≤ 12 ∧ dE a ≤ 128 ∧ dE l ≤ 128 ∧ W a false f.L.length ∧ W l false (f.L.length + 1) ∧ W b true (f.L.length + 4) := hw
  obtain ⟨hp1, hp2, hp4⟩ : PaT E.pa a f.j ∧ PaT E.pa l f.j ∧ PaT E.pa b f.j := hpa
  have hx0 : FX E S f q (numsT a ++ (numsT l ++ (numsT b ++ []))) (100 * ndT a + (100 * ndT l + (100 * ndT b + 90))) := by
    have hx : FX E S f q (numsT a ++ (numsT l ++ numsT b)) (100 * (1 + ndT a + ndT l + ndT b)) := hx
    rw [List.append_nil]
    exact hx.le (by omega)
  have hF : Fram (tg ow cpT) w w := Fram.refl _ _
  have hX : Xt w ow ow := Xt.refl _ _
  obtain ⟨gn, capn, ln_, env, hN, khN, hcapn, hrow⟩ := hR.nodes hx.g0.1
  obtain ⟨pn, hpn⟩ := hrow n hn
  have hcl : 3 * f.code.length ≤ 31000 := hx.clen
  have hL12 := hx.L
  have hjl := hx.jl
  refine ret_of Tryz.func139 rfl Tryz.ntmps139 rfl ?_
  refine c_seq (fun K1 hK1 => ?_)
  obtain ⟨R_, z_, op⟩ := hR.open (f := f) (by simp)
  have hG := op.B
  have hC := hR.cb
  have khG := hR.ta
  have khC := hR.tc
  rw [env] at hC
  refine c_reg ?_ -- region 0 stmt.go:7
  refine wl (ro_move rfl) ?_
  refine wl (ro_nilCheck rfl) ?_
  refine wl (ro_fieldAddr (k := 0) rfl fo_199_0) ?_
  refine wl (ro_loadB rfl sc_22 hG (op.row 0 (by decide))) ?_
  refine wl (ro_nilCheck rfl) ?_
  refine wl (ro_fieldAddr (k := 2) rfl fo_94_2) ?_
  refine wl (ro_loadB rfl sc_77 (hC) rfl) ?_
  refine wl (ro_move rfl) ?_
  refine wl (ro_indexAddr (et := 148) (k := 8) rfl rfl se_77 (rfl) (hn)) ?_
  refine wl (ro_loadAggB rfl ag_148 (hN) (rfl) (hpn)) ?_
  refine wl_new (ze_148) (fun b4 w1 hbb4 h4 F1 => ?_)
  have hbsb4 := Nat.le_trans hF.size hbb4
  have hnegnb4 : gn < b4 := Nat.lt_of_lt_of_le hN.lt hbb4
  have hneE.gbb4 : E.gb < b4 := Nat.lt_of_lt_of_le hG.lt hbb4
  have hneE.cbb4 : E.cb < b4 := Nat.lt_of_lt_of_le hC.lt hbb4
  have kh4 := hR.df b4 hbb4
  replace hF := hF.thenDrew.thenN F1
  replace hR := hR.thruN ((Fram.refl none' _).thenDrew.thenN F1)
  replace hN := F1.blkN hN
  replace hG := F1.blkN hG
  replace hC := F1.blkN hC
  refine wl_puta rfl rfl ((ndc_one _)) sz_148 (rfl) h4 ((by simp)) (rfl) (fun w2 h4 F2 => ?_)
  replace hF := hF.thenDrew.thenO F2 (by first | exact .inr (by omega) | exact .inl rfl | exact .inl (by assumption) | assumption)
  replace hR := hR.hbput ((Fram.refl (one b4) _).thenDrew.thenO F2 (.inl rfl))
  replace hN := F2.blkO hN (by first | omega | exact ow_ne (by assumption) (by assumption) (by omega))
  replace hG := F2.blkO hG (by first | omega | exact ow_ne (by assumption) (by assumption) (by omega))
  replace hC := F2.blkO hC (by first | omega | exact ow_ne (by assumption) (by assumption) (by omega))
  have h4 : Blk (w2).heap b4 [i64c 8, i64c (nd E.G n).A, i64c (nd E.G n).B, i64c (nd E.G n).C, i64c (nd E.G n).Nx, u64c (nd E.G n).N, Go.Proofs.Qxb6500568aGreatDoor.S (nd E.G n).S, i64c pn] 148 := by rw [← hK]; exact h4
  refine wl_nil (x_then (hK1 _ _ ?_))
  clear hK1 K1
  refine forget [(0, _), (4, _)] ⟨rfl, rfl, trivial⟩ (fun e => ?_)
  refine c_seq (fun K2 hK2 => ?_)
  refine c_reg ?_ -- region 1 stmt.go:8
  refine wl (ro_fieldAddr (k := 0) rfl fo_148_0) ?_
  refine wl (ro_loadB rfl sc_3 (by assumption) rfl) ?_
  refine wl_nil (x_then (hK2 _ _ ?_))
  clear hK2 K2
  refine c_block ?_
  refine forget [(0, _), (4, _), (22, _)] ⟨rfl, rfl, rfl, trivial⟩ (fun e => ?_)
  refine c_seq (fun K3 hK3 => ?_)
  refine c_reg ?_ -- region 2 stmt.go:9
  refine wl (ro_cmp rfl rfl rfl) ?_
  refine wl (ro_assign rfl) ?_
  refine wl_nil (x_then (hK3 _ _ ?_))
  clear hK3 K3
  refine wc_condF rfl ?_
  refine c_seq (fun K4 hK4 => ?_)
  refine c_reg ?_ -- region 5 stmt.go:12
  refine wl (ro_cmp rfl rfl rfl) ?_
  refine wl (ro_assign rfl) ?_
  refine wl_nil (x_then (hK4 _ _ ?_))
  clear hK4 K4
  refine wc_condF rfl ?_
  refine c_seq (fun K5 hK5 => ?_)
  refine c_reg ?_ -- region 12 stmt.go:19
  refine wl (ro_cmp rfl rfl rfl) ?_
  refine wl (ro_assign rfl) ?_
  refine wl_nil (x_then (hK5 _ _ ?_))
  clear hK5 K5
  refine wc_condF rfl ?_
  refine c_seq (fun K6 hK6 => ?_)
  refine c_reg ?_ -- region 16 stmt.go:23
  refine wl (ro_cmp rfl rfl rfl) ?_
  refine wl (ro_assign rfl) ?_
  refine wl_nil (x_then (hK6 _ _ ?_))
  clear hK6 K6
  refine wc_condF rfl ?_
  refine c_seq (fun K7 hK7 => ?_)
  refine c_reg ?_ -- region 18 stmt.go:25
  refine wl (ro_cmp rfl rfl rfl) ?_
  refine wl (ro_assign rfl) ?_
  refine wl_nil (x_then (hK7 _ _ ?_))
  clear hK7 K7
  refine wc_condF rfl ?_
  refine c_seq (fun K8 hK8 => ?_)
  refine c_reg ?_ -- region 21 stmt.go:28
  refine wl (ro_cmp rfl rfl rfl) ?_
  refine wl (ro_assign rfl) ?_
  refine wl_nil (x_then (hK8 _ _ ?_))
  clear hK8 K8
  refine wc_condF rfl ?_
  refine c_seq (fun K9 hK9 => ?_)
  refine c_reg ?_ -- region 23 stmt.go:30
  refine wl (ro_cmp rfl rfl rfl) ?_
  refine wl (ro_assign rfl) ?_
  refine wl_nil (x_then (hK9 _ _ ?_))
  clear hK9 K9
  refine wc_condF rfl ?_
  refine c_seq (fun K10 hK10 => ?_)
  refine c_reg ?_ -- region 25 stmt.go:32
  refine wl (ro_cmp rfl rfl rfl) ?_
  refine wl (ro_assign rfl) ?_
  refine wl_nil (x_then (hK10 _ _ ?_))
  clear hK10 K10
  refine wc_condT rfl ?_
  refine c_reg ?_ -- region 26 stmt.go:33
  refine wl (ro_move rfl) ?_
  refine wl (ro_loadAggB rfl ag_148 (h4) (rfl) (rfl)) ?_
  refine wl_call rfl en_193 (count193b (pn := pn) (n := n) ha hl hb (by unfold ndc; rw [hK]; rfl) hR.dr hs hi1 hi2 hn3 hi4 hw4 hw1 hw2 hwb hp1 hp2 hp4 hx0) ?_
  rintro _ u3 ⟨rfl, ow3, x3, f3, r3⟩
  obtain ⟨hN, khN⟩ := cp_loc x3 f3 hN khN
  obtain ⟨h4, kh4⟩ := cp_loc x3 f3 h4 kh4
  have hs3 := hF.size
  replace hF := cp_trans hX hF f3
  replace hX := hX.trans hs3 x3
  replace hR := r3
  refine wl_nil (x_blk ?_)
  refine bp_end Tryz.results139 rfl ?_
  refine ⟨rfl, _, hX, hF, ?_⟩
  rw [hpS (co_for2 ((co_all E.G (szT a)).1 a _ hi1 (Nat.le_refl _)) ((co_all E.G (szT l)).1 l _ hi2 (Nat.le_refl _))) hx hi hw9]
  exact hR
set_option maxHeartbeats 16000000 in
theorem xs_for3 {s : Str} {a l p b : Tr} {lp : Bool} (ha : XE a) (hl : XE l) (hp : XE p) (hb : XB b true) : XS (St.for3 s a l p b) lp := by
  intro E w ow O S f q n hR hi hw hpa hlp hx
  have hw9 := hw
  obtain ⟨hn0, hK, hs, hA0, hi1, hA2, hi2, hn3, hi3, -, hi4⟩ := IsS_for3.1 hi
  have hn : n < E.G.length := nd_lt (by rw [hK]; decide)
  obtain ⟨-, hw4, -, -, -, hw1, hw2, hw3, hwb⟩ : NmW s ∧ f.L.length + 4 ≤ 12 ∧ dE a ≤ 128 ∧ dE l ≤ 128 ∧ dE p ≤ 128 ∧ W a false f.L.length ∧ W l false (f.L.length + 1) ∧ W p false (f.L.length + 2) ∧ W b true (f.L.length + 4) := hw
  obtain ⟨hp1, hp2, hp3, hp4⟩ : PaT E.pa a f.j ∧ PaT E.pa l f.j ∧ PaT E.pa p f.j ∧ PaT E.pa b f.j := hpa
  have hx0 : FX E S f q (numsT a ++ (numsT l ++ (numsT p ++ (numsT b ++ [])))) (100 * ndT a + (100 * ndT l + (100 * ndT p + (100 * ndT b + 90)))) := by
    have hx : FX E S f q (numsT a ++ (numsT l ++ (numsT p ++ numsT b))) (100 * (1 + ndT a + ndT l + ndT p + ndT b)) := hx
    rw [List.append_nil]
    exact hx.le (by omega)
  have hF : Fram (tg ow cpT) w w := Fram.refl _ _
  have hX : Xt w ow ow := Xt.refl _ _
  obtain ⟨gn, capn, ln_, env, hN, khN, hcapn, hrow⟩ := hR.nodes hx.g0.1
  obtain ⟨pn, hpn⟩ := hrow n hn
  have hcl : 3 * f.code.length ≤ 31000 := hx.clen
  have hL12 := hx.L
  have hjl := hx.jl
  refine ret_of Tryz.func139 rfl Tryz.ntmps139 rfl ?_
  refine c_seq (fun K1 hK1 => ?_)
  obtain ⟨R_, z_, op⟩ := hR.open (f := f) (by simp)
  have hG := op.B
  have hC := hR.cb
  have khG := hR.ta
  have khC := hR.tc
  rw [env] at hC
  refine c_reg ?_ -- region 0 stmt.go:7
  refine wl (ro_move rfl) ?_
  refine wl (ro_nilCheck rfl) ?_
  refine wl (ro_fieldAddr (k := 0) rfl fo_199_0) ?_
  refine wl (ro_loadB rfl sc_22 hG (op.row 0 (by decide))) ?_
  refine wl (ro_nilCheck rfl) ?_
  refine wl (ro_fieldAddr (k := 2) rfl fo_94_2) ?_
  refine wl (ro_loadB rfl sc_77 (hC) rfl) ?_
  refine wl (ro_move rfl) ?_
  refine wl (ro_indexAddr (et := 148) (k := 8) rfl rfl se_77 (rfl) (hn)) ?_
  refine wl (ro_loadAggB rfl ag_148 (hN) (rfl) (hpn)) ?_
  refine wl_new (ze_148) (fun b4 w1 hbb4 h4 F1 => ?_)
  have hbsb4 := Nat.le_trans hF.size hbb4
  have hnegnb4 : gn < b4 := Nat.lt_of_lt_of_le hN.lt hbb4
  have hneE.gbb4 : E.gb < b4 := Nat.lt_of_lt_of_le hG.lt hbb4
  have hneE.cbb4 : E.cb < b4 := Nat.lt_of_lt_of_le hC.lt hbb4
  have kh4 := hR.df b4 hbb4
  replace hF := hF.thenDrew.thenN F1
  replace hR := hR.thruN ((Fram.refl none' _).thenDrew.thenN F1)
  replace hN := F1.blkN hN
  replace hG := F1.blkN hG
  replace hC := F1.blkN hC
  refine wl_puta rfl rfl ((ndc_one _)) sz_148 (rfl) h4 ((by simp)) (rfl) (fun w2 h4 F2 => ?_)
  replace hF := hF.thenDrew.thenO F2 (by first | exact .inr (by omega) | exact .inl rfl | exact .inl (by assumption) | assumption)
  replace hR := hR.hbput ((Fram.refl (one b4) _).thenDrew.thenO F2 (.inl rfl))
  replace hN := F2.blkO hN (by first | omega | exact ow_ne (by assumption) (by assumption) (by omega))
  replace hG := F2.blkO hG (by first | omega | exact ow_ne (by assumption) (by assumption) (by omega))
  replace hC := F2.blkO hC (by first | omega | exact ow_ne (by assumption) (by assumption) (by omega))
  have h4 : Blk (w2).heap b4 [i64c 8, i64c (nd E.G n).A, i64c (nd E.G n).B, i64c (nd E.G n).C, i64c (nd E.G n).Nx, u64c (nd E.G n).N, Go.Proofs.Qxb6500568aGreatDoor.S (nd E.G n).S, i64c pn] 148 := by rw [← hK]; exact h4
  refine wl_nil (x_then (hK1 _ _ ?_))
  clear hK1 K1
  refine forget [(0, _), (4, _)] ⟨rfl, rfl, trivial⟩ (fun e => ?_)
  refine c_seq (fun K2 hK2 => ?_)
  refine c_reg ?_ -- region 1 stmt.go:8
  refine wl (ro_fieldAddr (k := 0) rfl fo_148_0) ?_
  refine wl (ro_loadB rfl sc_3 (by assumption) rfl) ?_
  refine wl_nil (x_then (hK2 _ _ ?_))
  clear hK2 K2
  refine c_block ?_
  refine forget [(0, _), (4, _), (22, _)] ⟨rfl, rfl, rfl, trivial⟩ (fun e => ?_)
  refine c_seq (fun K3 hK3 => ?_)
  refine c_reg ?_ -- region 2 stmt.go:9
  refine wl (ro_cmp rfl rfl rfl) ?_
  refine wl (ro_assign rfl) ?_
  refine wl_nil (x_then (hK3 _ _ ?_))
  clear hK3 K3
  refine wc_condF rfl ?_
  refine c_seq (fun K4 hK4 => ?_)
  refine c_reg ?_ -- region 5 stmt.go:12
  refine wl (ro_cmp rfl rfl rfl) ?_
  refine wl (ro_assign rfl) ?_
  refine wl_nil (x_then (hK4 _ _ ?_))
  clear hK4 K4
  refine wc_condF rfl ?_
  refine c_seq (fun K5 hK5 => ?_)
  refine c_reg ?_ -- region 12 stmt.go:19
  refine wl (ro_cmp rfl rfl rfl) ?_
  refine wl (ro_assign rfl) ?_
  refine wl_nil (x_then (hK5 _ _ ?_))
  clear hK5 K5
  refine wc_condF rfl ?_
  refine c_seq (fun K6 hK6 => ?_)
  refine c_reg ?_ -- region 16 stmt.go:23
  refine wl (ro_cmp rfl rfl rfl) ?_
  refine wl (ro_assign rfl) ?_
  refine wl_nil (x_then (hK6 _ _ ?_))
  clear hK6 K6
  refine wc_condF rfl ?_
  refine c_seq (fun K7 hK7 => ?_)
  refine c_reg ?_ -- region 18 stmt.go:25
  refine wl (ro_cmp rfl rfl rfl) ?_
  refine wl (ro_assign rfl) ?_
  refine wl_nil (x_then (hK7 _ _ ?_))
  clear hK7 K7
  refine wc_condF rfl ?_
  refine c_seq (fun K8 hK8 => ?_)
  refine c_reg ?_ -- region 21 stmt.go:28
  refine wl (ro_cmp rfl rfl rfl) ?_
  refine wl (ro_assign rfl) ?_
  refine wl_nil (x_then (hK8 _ _ ?_))
  clear hK8 K8
  refine wc_condF rfl ?_
  refine c_seq (fun K9 hK9 => ?_)
  refine c_reg ?_ -- region 23 stmt.go:30
  refine wl (ro_cmp rfl rfl rfl) ?_
  refine wl (ro_assign rfl) ?_
  refine wl_nil (x_then (hK9 _ _ ?_))
  clear hK9 K9
  refine wc_condF rfl ?_
  refine c_seq (fun K10 hK10 => ?_)
  refine c_reg ?_ -- region 25 stmt.go:32
  refine wl (ro_cmp rfl rfl rfl) ?_
  refine wl (ro_assign rfl) ?_
  refine wl_nil (x_then (hK10 _ _ ?_))
  clear hK10 K10
  refine wc_condT rfl ?_
  refine c_reg ?_ -- region 26 stmt.go:33
  refine wl (ro_move rfl) ?_
  refine wl (ro_loadAggB rfl ag_148 (h4) (rfl) (rfl)) ?_
  refine wl_call rfl en_193 (count193c (pn := pn) (n := n) ha hl hp hb (by unfold ndc; rw [hK]; rfl) hR.dr hs hi1 hi2 hn3 hi3 hi4 hw4 hw1 hw2 hw3 hwb hp1 hp2 hp3 hp4 hx0) ?_
  rintro _ u3 ⟨rfl, ow3, x3, f3, r3⟩
  obtain ⟨hN, khN⟩ := cp_loc x3 f3 hN khN
  obtain ⟨h4, kh4⟩ := cp_loc x3 f3 h4 kh4
  have hs3 := hF.size
  replace hF := cp_trans hX hF f3
  replace hX := hX.trans hs3 x3
  replace hR := r3
  refine wl_nil (x_blk ?_)
  refine bp_end Tryz.results139 rfl ?_
  refine ⟨rfl, _, hX, hF, ?_⟩
  rw [hpS (co_for3 ((co_all E.G (szT a)).1 a _ hi1 (Nat.le_refl _)) ((co_all E.G (szT l)).1 l _ hi2 (Nat.le_refl _)) ((co_all E.G (szT p)).1 p _ hi3 (Nat.le_refl _))) hx hi hw9]
  exact hR
set_option maxHeartbeats 16000000 in
theorem xs_forIn {s t : Str} {a b : Tr} {lp : Bool} (ha : XE a) (hb : XB b true) : XS (St.forIn s t a b) lp := by
  intro E w ow O S f q n hR hi hw hpa hlp hx
  have hw9 := hw
  obtain ⟨hn0, hK, hiN, hi1, hi4⟩ := IsS_forIn.1 hi
  have hn : n < E.G.length := nd_lt (by rw [hK]; decide)
  obtain ⟨-, -, hw4, -, hw1, hwb⟩ : NmW s ∧ NmW t ∧ f.L.length + 4 ≤ 12 ∧ dE a ≤ 128 ∧ W a false f.L.length ∧ W b true (f.L.length + 4) := hw
  obtain ⟨hp1, hp4⟩ : PaT E.pa a f.j ∧ PaT E.pa b f.j := hpa
  have hx0 : FX E S f q (numsT a ++ (numsT b ++ [])) (100 * ndT a + (100 * ndT b + 90)) := by
    have hx : FX E S f q (numsT a ++ numsT b) (100 * (3 + ndT a + ndT b)) := hx
    rw [List.append_nil]
    exact hx.le (by omega)
  have hF : Fram (tg ow cpT) w w := Fram.refl _ _
  have hX : Xt w ow ow := Xt.refl _ _
  obtain ⟨gn, capn, ln_, env, hN, khN, hcapn, hrow⟩ := hR.nodes hx.g0.1
  obtain ⟨pn, hpn⟩ := hrow n hn
  have hcl : 3 * f.code.length ≤ 31000 := hx.clen
  have hL12 := hx.L
  have hjl := hx.jl
  refine ret_of Tryz.func139 rfl Tryz.ntmps139 rfl ?_
  refine c_seq (fun K1 hK1 => ?_)
  obtain ⟨R_, z_, op⟩ := hR.open (f := f) (by simp)
  have hG := op.B
  have hC := hR.cb
  have khG := hR.ta
  have khC := hR.tc
  rw [env] at hC
  refine c_reg ?_ -- region 0 stmt.go:7
  refine wl (ro_move rfl) ?_
  refine wl (ro_nilCheck rfl) ?_
  refine wl (ro_fieldAddr (k := 0) rfl fo_199_0) ?_
  refine wl (ro_loadB rfl sc_22 hG (op.row 0 (by decide))) ?_
  refine wl (ro_nilCheck rfl) ?_
  refine wl (ro_fieldAddr (k := 2) rfl fo_94_2) ?_
  refine wl (ro_loadB rfl sc_77 (hC) rfl) ?_
  refine wl (ro_move rfl) ?_
  refine wl (ro_indexAddr (et := 148) (k := 8) rfl rfl se_77 (rfl) (hn)) ?_
  refine wl (ro_loadAggB rfl ag_148 (hN) (rfl) (hpn)) ?_
  refine wl_new (ze_148) (fun b4 w1 hbb4 h4 F1 => ?_)
  have hbsb4 := Nat.le_trans hF.size hbb4
  have hnegnb4 : gn < b4 := Nat.lt_of_lt_of_le hN.lt hbb4
  have hneE.gbb4 : E.gb < b4 := Nat.lt_of_lt_of_le hG.lt hbb4
  have hneE.cbb4 : E.cb < b4 := Nat.lt_of_lt_of_le hC.lt hbb4
  have kh4 := hR.df b4 hbb4
  replace hF := hF.thenDrew.thenN F1
  replace hR := hR.thruN ((Fram.refl none' _).thenDrew.thenN F1)
  replace hN := F1.blkN hN
  replace hG := F1.blkN hG
  replace hC := F1.blkN hC
  refine wl_puta rfl rfl ((ndc_one _)) sz_148 (rfl) h4 ((by simp)) (rfl) (fun w2 h4 F2 => ?_)
  replace hF := hF.thenDrew.thenO F2 (by first | exact .inr (by omega) | exact .inl rfl | exact .inl (by assumption) | assumption)
  replace hR := hR.hbput ((Fram.refl (one b4) _).thenDrew.thenO F2 (.inl rfl))
  replace hN := F2.blkO hN (by first | omega | exact ow_ne (by assumption) (by assumption) (by omega))
  replace hG := F2.blkO hG (by first | omega | exact ow_ne (by assumption) (by assumption) (by omega))
  replace hC := F2.blkO hC (by first | omega | exact ow_ne (by assumption) (by assumption) (by omega))
  have h4 : Blk (w2).heap b4 [i64c 9, i64c (nd E.G n).A, i64c (nd E.G n).B, i64c (nd E.G n).C, i64c (nd E.G n).Nx, u64c (nd E.G n).N, Go.Proofs.Qxb6500568aGreatDoor.S (nd E.G n).S, i64c pn] 148 := by rw [← hK]; exact h4
  refine wl_nil (x_then (hK1 _ _ ?_))
  clear hK1 K1
  refine forget [(0, _), (4, _)] ⟨rfl, rfl, trivial⟩ (fun e => ?_)
  refine c_seq (fun K2 hK2 => ?_)
  refine c_reg ?_ -- region 1 stmt.go:8
  refine wl (ro_fieldAddr (k := 0) rfl fo_148_0) ?_
  refine wl (ro_loadB rfl sc_3 (by assumption) rfl) ?_
  refine wl_nil (x_then (hK2 _ _ ?_))
  clear hK2 K2
  refine c_block ?_
  refine forget [(0, _), (4, _), (22, _)] ⟨rfl, rfl, rfl, trivial⟩ (fun e => ?_)
  refine c_seq (fun K3 hK3 => ?_)
  refine c_reg ?_ -- region 2 stmt.go:9
  refine wl (ro_cmp rfl rfl rfl) ?_
  refine wl (ro_assign rfl) ?_
  refine wl_nil (x_then (hK3 _ _ ?_))
  clear hK3 K3
  refine wc_condF rfl ?_
  refine c_seq (fun K4 hK4 => ?_)
  refine c_reg ?_ -- region 5 stmt.go:12
  refine wl (ro_cmp rfl rfl rfl) ?_
  refine wl (ro_assign rfl) ?_
  refine wl_nil (x_then (hK4 _ _ ?_))
  clear hK4 K4
  refine wc_condF rfl ?_
  refine c_seq (fun K5 hK5 => ?_)
  refine c_reg ?_ -- region 12 stmt.go:19
  refine wl (ro_cmp rfl rfl rfl) ?_
  refine wl (ro_assign rfl) ?_
  refine wl_nil (x_then (hK5 _ _ ?_))
  clear hK5 K5
  refine wc_condF rfl ?_
  refine c_seq (fun K6 hK6 => ?_)
  refine c_reg ?_ -- region 16 stmt.go:23
  refine wl (ro_cmp rfl rfl rfl) ?_
  refine wl (ro_assign rfl) ?_
  refine wl_nil (x_then (hK6 _ _ ?_))
  clear hK6 K6
  refine wc_condF rfl ?_
  refine c_seq (fun K7 hK7 => ?_)
  refine c_reg ?_ -- region 18 stmt.go:25
  refine wl (ro_cmp rfl rfl rfl) ?_
  refine wl (ro_assign rfl) ?_
  refine wl_nil (x_then (hK7 _ _ ?_))
  clear hK7 K7
  refine wc_condF rfl ?_
  refine c_seq (fun K8 hK8 => ?_)
  refine c_reg ?_ -- region 21 stmt.go:28
  refine wl (ro_cmp rfl rfl rfl) ?_
  refine wl (ro_assign rfl) ?_
  refine wl_nil (x_then (hK8 _ _ ?_))
  clear hK8 K8
  refine wc_condF rfl ?_
  refine c_seq (fun K9 hK9 => ?_)
  refine c_reg ?_ -- region 23 stmt.go:30
  refine wl (ro_cmp rfl rfl rfl) ?_
  refine wl (ro_assign rfl) ?_
  refine wl_nil (x_then (hK9 _ _ ?_))
  clear hK9 K9
  refine wc_condF rfl ?_
  refine c_seq (fun K10 hK10 => ?_)
  refine c_reg ?_ -- region 25 stmt.go:32
  refine wl (ro_cmp rfl rfl rfl) ?_
  refine wl (ro_assign rfl) ?_
  refine wl_nil (x_then (hK10 _ _ ?_))
  clear hK10 K10
  refine wc_condF rfl ?_
  refine c_seq (fun K11 hK11 => ?_)
  refine c_reg ?_ -- region 27 stmt.go:34
  refine wl (ro_cmp rfl rfl rfl) ?_
  refine wl (ro_assign rfl) ?_
  refine wl_nil (x_then (hK11 _ _ ?_))
  clear hK11 K11
  refine wc_condT rfl ?_
  refine c_reg ?_ -- region 28 stmt.go:35
  refine wl (ro_move rfl) ?_
  refine wl (ro_loadAggB rfl ag_148 (h4) (rfl) (rfl)) ?_
  refine wl_call rfl en_194 (walk194 (pn := pn) (n := n) ha hb (by unfold ndc; rw [hK]; rfl) hR.dr hiN hi1 hi4 hw4 hw1 hwb hp1 hp4 hx0) ?_
  rintro _ u3 ⟨rfl, ow3, x3, f3, r3⟩
  obtain ⟨hN, khN⟩ := cp_loc x3 f3 hN khN
  obtain ⟨h4, kh4⟩ := cp_loc x3 f3 h4 kh4
  have hs3 := hF.size
  replace hF := cp_trans hX hF f3
  replace hX := hX.trans hs3 x3
  replace hR := r3
  refine wl_nil (x_blk ?_)
  refine bp_end Tryz.results139 rfl ?_
  refine ⟨rfl, _, hX, hF, ?_⟩
  rw [hpS (co_forIn ((co_all E.G (szT a)).1 a _ hi1 (Nat.le_refl _))) hx hi hw9]
  exact hR
end Go.Proofs.Qxb6500568aGreatDoor
