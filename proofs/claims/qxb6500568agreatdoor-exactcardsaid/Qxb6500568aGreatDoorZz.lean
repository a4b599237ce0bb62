import Derived.Test.Qxb6500568aGreatDoorZy
/- The compiler: more statements (written by tools/mk_zs.py). -/
namespace Go.Proofs.Qxb6500568aGreatDoor
open Ieee
set_option linter.unusedVariables false
set_option linter.unusedSimpArgs false
set_option linter.unusedSectionVars false

set_option maxHeartbeats 16000000 in
theorem xs_call {a zs : Tr} {lp : Bool} {k : Nat} (hk : ∀ t, szT t ≤ k → XE t) (hza : szT a ≤ k) (hzz : szT zs ≤ k) : XS (St.call a zs) lp := by
  intro E w ow O S f q n hR hi hw hpa hlp hx
  have hw9 := hw
  obtain ⟨hn0, hK, hA0, hKc, hi1, hi2⟩ := IsS_call.1 hi
  have hn : n < E.G.length := nd_lt (by rw [hK]; decide)
  obtain ⟨⟨-, hle⟩, hw1, hw2⟩ : CallW a zs ∧ W a false f.L.length ∧ W zs false f.L.length := hw
  obtain ⟨hp1, hp2⟩ : PaT E.pa a f.j ∧ PaT E.pa zs f.j := hpa
  have hx0 : FX E S f q (numsT a ++ numsT zs) (100 * ndT a + (100 * ndT zs + (90 + 3))) := by
    have hx : FX E S f q (numsT a ++ numsT zs) (100 * (2 + ndT a + ndT zs)) := hx
    exact hx.le (by omega)
  have hF : Fram (tg ow cpT) w w := Fram.refl _ _
  have hX : Xt w ow ow := Xt.refl _ _
  obtain ⟨gn, capn, ln_, env, hN, khN, hcapn, hrow⟩ := hR.nodes hx.g0.1
  obtain ⟨pn, hpn⟩ := hrow n hn
  have hcl : 3 * f.code.length ≤ 31000 := hx.clen
  have hL12 := hx.L
  have hjl := hx.jl
  refine ret_of Tryz.func139 rfl Tryz.ntmps139 rfl ?_
  refine c_seq (fun K1 hK1 => ?_)
  obtain ⟨R_, z_, op⟩ := hR.open (f := f) (by simp)
  have hG := op.B
  have hC := hR.cb
  have khG := hR.ta
  have khC := hR.tc
  rw [env] at hC
  refine c_reg ?_ -- region 0 stmt.go:7
  refine wl (ro_move rfl) ?_
  refine wl (ro_nilCheck rfl) ?_
  refine wl (ro_fieldAddr (k := 0) rfl fo_199_0) ?_
  refine wl (ro_loadB rfl sc_22 hG (op.row 0 (by decide))) ?_
  refine wl (ro_nilCheck rfl) ?_
  refine wl (ro_fieldAddr (k := 2) rfl fo_94_2) ?_
  refine wl (ro_loadB rfl sc_77 (hC) rfl) ?_
  refine wl (ro_move rfl) ?_
  refine wl (ro_indexAddr (et := 148) (k := 8) rfl rfl se_77 (rfl) (hn)) ?_
  refine wl (ro_loadAggB rfl ag_148 (hN) (rfl) (hpn)) ?_
  refine wl_new (ze_148) (fun b4 w1 hbb4 h4 F1 => ?_)
  have hbsb4 := Nat.le_trans hF.size hbb4
  have hnegnb4 : gn < b4 := Nat.lt_of_lt_of_le hN.lt hbb4
  have hneE.gbb4 : E.gb < b4 := Nat.lt_of_lt_of_le hG.lt hbb4
  have hneE.cbb4 : E.cb < b4 := Nat.lt_of_lt_of_le hC.lt hbb4
  have kh4 := hR.df b4 hbb4
  replace hF := hF.thenDrew.thenN F1
  replace hR := hR.thruN ((Fram.refl none' _).thenDrew.thenN F1)
  replace hN := F1.blkN hN
  replace hG := F1.blkN hG
  replace hC := F1.blkN hC
  refine wl_puta rfl rfl ((ndc_one _)) sz_148 (rfl) h4 ((by simp)) (rfl) (fun w2 h4 F2 => ?_)
  replace hF := hF.thenDrew.thenO F2 (by first | exact .inr (by omega) | exact .inl rfl | exact .inl (by assumption) | assumption)
  replace hR := hR.hbput ((Fram.refl (one b4) _).thenDrew.thenO F2 (.inl rfl))
  replace hN := F2.blkO hN (by first | omega | exact ow_ne (by assumption) (by assumption) (by omega))
  replace hG := F2.blkO hG (by first | omega | exact ow_ne (by assumption) (by assumption) (by omega))
  replace hC := F2.blkO hC (by first | omega | exact ow_ne (by assumption) (by assumption) (by omega))
  have h4 : Blk (w2).heap b4 [i64c 5, i64c (nd E.G n).A, i64c (nd E.G n).B, i64c (nd E.G n).C, i64c (nd E.G n).Nx, u64c (nd E.G n).N, Go.Proofs.Qxb6500568aGreatDoor.S (nd E.G n).S, i64c pn] 148 := by rw [← hK]; exact h4
  refine wl_nil (x_then (hK1 _ _ ?_))
  clear hK1 K1
  refine forget [(0, _), (4, _)] ⟨rfl, rfl, trivial⟩ (fun e => ?_)
  refine c_seq (fun K2 hK2 => ?_)
  refine c_reg ?_ -- region 1 stmt.go:8
  refine wl (ro_fieldAddr (k := 0) rfl fo_148_0) ?_
  refine wl (ro_loadB rfl sc_3 (by assumption) rfl) ?_
  refine wl_nil (x_then (hK2 _ _ ?_))
  clear hK2 K2
  refine c_block ?_
  refine forget [(0, _), (4, _), (22, _)] ⟨rfl, rfl, rfl, trivial⟩ (fun e => ?_)
  refine c_seq (fun K3 hK3 => ?_)
  refine c_reg ?_ -- region 2 stmt.go:9
  refine wl (ro_cmp rfl rfl rfl) ?_
  refine wl (ro_assign rfl) ?_
  refine wl_nil (x_then (hK3 _ _ ?_))
  clear hK3 K3
  refine wc_condF rfl ?_
  refine c_seq (fun K4 hK4 => ?_)
  refine c_reg ?_ -- region 5 stmt.go:12
  refine wl (ro_cmp rfl rfl rfl) ?_
  refine wl (ro_assign rfl) ?_
  refine wl_nil (x_then (hK4 _ _ ?_))
  clear hK4 K4
  refine wc_condF rfl ?_
  refine c_seq (fun K5 hK5 => ?_)
  refine c_reg ?_ -- region 12 stmt.go:19
  refine wl (ro_cmp rfl rfl rfl) ?_
  refine wl (ro_assign rfl) ?_
  refine wl_nil (x_then (hK5 _ _ ?_))
  clear hK5 K5
  refine wc_condF rfl ?_
  refine c_seq (fun K6 hK6 => ?_)
  refine c_reg ?_ -- region 16 stmt.go:23
  refine wl (ro_cmp rfl rfl rfl) ?_
  refine wl (ro_assign rfl) ?_
  refine wl_nil (x_then (hK6 _ _ ?_))
  clear hK6 K6
  refine wc_condF rfl ?_
  refine c_seq (fun K7 hK7 => ?_)
  refine c_reg ?_ -- region 18 stmt.go:25
  refine wl (ro_cmp rfl rfl rfl) ?_
  refine wl (ro_assign rfl) ?_
  refine wl_nil (x_then (hK7 _ _ ?_))
  clear hK7 K7
  refine wc_condT rfl ?_
  refine c_seq (fun K8 hK8 => ?_)
  refine c_reg ?_ -- region 19 stmt.go:26
  refine wl (ro_move rfl) ?_
  refine wl (ro_fieldAddr (k := 1) rfl fo_148_1) ?_
  refine wl (ro_loadB rfl sc_3 (by assumption) rfl) ?_
  refine wl_call rfl en_188 (call188 hk hR.dr hKc hi1 hi2 hza hzz hw1 hw2 hp1 hp2 hle (hx0.le (by omega))) ?_
  rintro _ u3 ⟨rfl, ow3, x3, f3, r3⟩
  obtain ⟨hN, khN⟩ := cp_loc x3 f3 hN khN
  obtain ⟨h4, kh4⟩ := cp_loc x3 f3 h4 kh4
  have hs3 := hF.size
  replace hF := cp_trans hX hF f3
  replace hX := hX.trans hs3 x3
  replace hR := r3
  have hx1 := fx_call (N := []) (B := 90) (by rw [List.append_nil]; exact hx0) hi1 hi2 hw1 hw2
  obtain ⟨c1, hc1⟩ : ∃ z9, z9 = f.code ++ ((cmp a 0 (chn (f :: q)) 0 f.code.length S).1 65535 ++ (cmp zs 0 (chn (f :: q)) 0 (f.code.length + ln (cmp a 0 (chn (f :: q)) 0 f.code.length S)) (cmp a 0 (chn (f :: q)) 0 f.code.length S).2).1 65535 ++ [(26, lenE zs)]) := ⟨_, rfl⟩
  obtain ⟨S1, hS1⟩ : ∃ z9, z9 = (cmp zs 0 (chn (f :: q)) 0 (f.code.length + ln (cmp a 0 (chn (f :: q)) 0 f.code.length S)) (cmp a 0 (chn (f :: q)) 0 f.code.length S).2).2 := ⟨_, rfl⟩
  rw [← hc1, ← hS1] at hR hx1
  have hk1 : 3 * c1.length ≤ 31000 := hx1.clen
  refine wl_nil (x_then (hK8 _ _ ?_))
  clear hK8 K8
  refine c_reg ?_ -- region 20 stmt.go:27
  refine wl (ro_move rfl) ?_
  refine wl (ro_build rfl bld_203_0) ?_
  refine wl (ro_build rfl bld_203_0) ?_
  refine wl_em (is := [(25, 0), (25, 0)]) (eo_bsI2 rfl rfl se_196 zx_203) rfl hR rfl (by simp; omega) ?_
  intro u4 ow4 x4 f4 r4
  obtain ⟨hN, khN⟩ := cp_loc' x4 f4 hN khN
  obtain ⟨h4, kh4⟩ := cp_loc' x4 f4 h4 kh4
  have hs4 := hF.size
  replace hF := cp_trans' hX hF f4
  replace hX := hX.trans hs4 x4
  replace hR := r4
  refine wl_nil (x_blk ?_)
  refine bp_end Tryz.results139 rfl ?_
  refine ⟨rfl, _, hX, hF, ?_⟩
  rw [hpS (co_scall ((co_all E.G (szT a)).1 a _ hi1 (Nat.le_refl _)) ((co_all E.G (szT zs)).2 zs _ hi2 (Nat.le_refl _))) hx hi hw9]
  show CM E _ _ (O ++ (numsT a ++ numsT zs)) (cmp zs 0 (chn (f :: q)) 0 (f.code.length + ln (cmp a 0 (chn (f :: q)) 0 f.code.length S)) (cmp a 0 (chn (f :: q)) 0 f.code.length S).2).2 (⟨f.j, f.L, f.code ++ ((cmp a 0 (chn (f :: q)) 0 f.code.length S).1 65535 ++ (cmp zs 0 (chn (f :: q)) 0 (f.code.length + ln (cmp a 0 (chn (f :: q)) 0 f.code.length S)) (cmp a 0 (chn (f :: q)) 0 f.code.length S).2).1 65535 ++ [(26, lenE zs), (25, 0), (25, 0)]), f.lps⟩ :: q)
  rw [← hS1, show f.code ++ ((cmp a 0 (chn (f :: q)) 0 f.code.length S).1 65535 ++ (cmp zs 0 (chn (f :: q)) 0 (f.code.length + ln (cmp a 0 (chn (f :: q)) 0 f.code.length S)) (cmp a 0 (chn (f :: q)) 0 f.code.length S).2).1 65535 ++ [(26, lenE zs), (25, 0), (25, 0)]) = c1 ++ [(25, 0), (25, 0)] by rw [hc1]; simp only [List.append_assoc, List.cons_append, List.nil_append]]
  exact hR
set_option maxHeartbeats 16000000 in
theorem xs_loc2 {s t : Str} {a zs : Tr} {lp : Bool} {k : Nat} (hk : ∀ t, szT t ≤ k → XE t) (hza : szT a ≤ k) (hzz : szT zs ≤ k) : XS (St.loc2 s t a zs) lp := by
  intro E w ow O S f q n hR hi hw hpa hlp hx
  have hw9 := hw
  obtain ⟨hn0, hK, ⟨hm0, hmK, hms, hm20, hm2K, hm2s, -⟩, hB0, hKc, hi1, hi2⟩ := IsS_loc2.1 hi
  have hn : n < E.G.length := nd_lt (by rw [hK]; decide)
  obtain ⟨-, -, hl2, ⟨-, hle⟩, hw1, hw2⟩ : NmW s ∧ NmW t ∧ f.L.length + 2 ≤ 12 ∧ CallW a zs ∧ W a false f.L.length ∧ W zs false f.L.length := hw
  obtain ⟨hp1, hp2⟩ : PaT E.pa a f.j ∧ PaT E.pa zs f.j := hpa
  have hx0 : FX E S f q (numsT a ++ numsT zs) (100 * ndT a + (100 * ndT zs + (90 + 3))) := by
    have hx : FX E S f q (numsT a ++ numsT zs) (100 * (4 + ndT a + ndT zs)) := hx
    exact hx.le (by omega)
  have hml : (nd E.G n).A < E.G.length := nd_lt (by rw [hmK]; decide)
  have hm2l : (nd E.G (nd E.G n).A).Nx < E.G.length := nd_lt (by rw [hm2K]; decide)
  have hF : Fram (tg ow cpT) w w := Fram.refl _ _
  have hX : Xt w ow ow := Xt.refl _ _
  obtain ⟨gn, capn, ln_, env, hN, khN, hcapn, hrow⟩ := hR.nodes hx.g0.1
  obtain ⟨pn, hpn⟩ := hrow n hn
  have hcl : 3 * f.code.length ≤ 31000 := hx.clen
  have hL12 := hx.L
  have hjl := hx.jl
  refine ret_of Tryz.func139 rfl Tryz.ntmps139 rfl ?_
  refine c_seq (fun K1 hK1 => ?_)
  obtain ⟨R_, z_, op⟩ := hR.open (f := f) (by simp)
  have hG := op.B
  have hC := hR.cb
  have khG := hR.ta
  have khC := hR.tc
  rw [env] at hC
  refine c_reg ?_ -- region 0 stmt.go:7
  refine wl (ro_move rfl) ?_
  refine wl (ro_nilCheck rfl) ?_
  refine wl (ro_fieldAddr (k := 0) rfl fo_199_0) ?_
  refine wl (ro_loadB rfl sc_22 hG (op.row 0 (by decide))) ?_
  refine wl (ro_nilCheck rfl) ?_
  refine wl (ro_fieldAddr (k := 2) rfl fo_94_2) ?_
  refine wl (ro_loadB rfl sc_77 (hC) rfl) ?_
  refine wl (ro_move rfl) ?_
  refine wl (ro_indexAddr (et := 148) (k := 8) rfl rfl se_77 (rfl) (hn)) ?_
  refine wl (ro_loadAggB rfl ag_148 (hN) (rfl) (hpn)) ?_
  refine wl_new (ze_148) (fun b4 w1 hbb4 h4 F1 => ?_)
  have hbsb4 := Nat.le_trans hF.size hbb4
  have hnegnb4 : gn < b4 := Nat.lt_of_lt_of_le hN.lt hbb4
  have hneE.gbb4 : E.gb < b4 := Nat.lt_of_lt_of_le hG.lt hbb4
  have hneE.cbb4 : E.cb < b4 := Nat.lt_of_lt_of_le hC.lt hbb4
  have kh4 := hR.df b4 hbb4
  replace hF := hF.thenDrew.thenN F1
  replace hR := hR.thruN ((Fram.refl none' _).thenDrew.thenN F1)
  replace hN := F1.blkN hN
  replace hG := F1.blkN hG
  replace hC := F1.blkN hC
  refine wl_puta rfl rfl ((ndc_one _)) sz_148 (rfl) h4 ((by simp)) (rfl) (fun w2 h4 F2 => ?_)
  replace hF := hF.thenDrew.thenO F2 (by first | exact .inr (by omega) | exact .inl rfl | exact .inl (by assumption) | assumption)
  replace hR := hR.hbput ((Fram.refl (one b4) _).thenDrew.thenO F2 (.inl rfl))
  replace hN := F2.blkO hN (by first | omega | exact ow_ne (by assumption) (by assumption) (by omega))
  replace hG := F2.blkO hG (by first | omega | exact ow_ne (by assumption) (by assumption) (by omega))
  replace hC := F2.blkO hC (by first | omega | exact ow_ne (by assumption) (by assumption) (by omega))
  have h4 : Blk (w2).heap b4 [i64c 2, i64c (nd E.G n).A, i64c (nd E.G n).B, i64c (nd E.G n).C, i64c (nd E.G n).Nx, u64c (nd E.G n).N, Go.Proofs.Qxb6500568aGreatDoor.S (nd E.G n).S, i64c pn] 148 := by rw [← hK]; exact h4
  refine wl_nil (x_then (hK1 _ _ ?_))
  clear hK1 K1
  refine forget [(0, _), (4, _)] ⟨rfl, rfl, trivial⟩ (fun e => ?_)
  refine c_seq (fun K2 hK2 => ?_)
  refine c_reg ?_ -- region 1 stmt.go:8
  refine wl (ro_fieldAddr (k := 0) rfl fo_148_0) ?_
  refine wl (ro_loadB rfl sc_3 (by assumption) rfl) ?_
  refine wl_nil (x_then (hK2 _ _ ?_))
  clear hK2 K2
  refine c_block ?_
  refine forget [(0, _), (4, _), (22, _)] ⟨rfl, rfl, rfl, trivial⟩ (fun e => ?_)
  refine c_seq (fun K3 hK3 => ?_)
  refine c_reg ?_ -- region 2 stmt.go:9
  refine wl (ro_cmp rfl rfl rfl) ?_
  refine wl (ro_assign rfl) ?_
  refine wl_nil (x_then (hK3 _ _ ?_))
  clear hK3 K3
  refine wc_condF rfl ?_
  refine c_seq (fun K4 hK4 => ?_)
  refine c_reg ?_ -- region 5 stmt.go:12
  refine wl (ro_cmp rfl rfl rfl) ?_
  refine wl (ro_assign rfl) ?_
  refine wl_nil (x_then (hK4 _ _ ?_))
  clear hK4 K4
  refine wc_condT rfl ?_
  refine c_seq (fun K5 hK5 => ?_)
  obtain ⟨pm, hpm⟩ := hrow _ hml
  refine c_piL 12 [(0, false), (1, false), (2, false), (3, false), (4, false), (5, false), (6, false), (7, false), (8, false), (9, false), (10, false), (11, true)] (La gn _ _ (La E.gb _ _ (La E.cb _ _ (La b4 _ _ ((fun _ => True)))))) mixed (by kernel_rfl) rfl (by kernel_rfl) (po_then (po_blk (po_bp))) (⟨hN, hG, hC, h4, trivial⟩) ?_ -- region 6 stmt.go:13
  refine ql_ro rfl (fun w hS => ro_move rfl) ?_
  refine ql_ro rfl (fun w hS => ro_nilCheck rfl) ?_
  refine ql_ro rfl (fun w hS => ro_fieldAddr (k := 0) rfl fo_199_0) ?_
  refine ql_ro rfl (fun w hS => ro_loadB rfl sc_22 (hS.2.1) (op.row 0 (by decide))) ?_
  refine ql_ro rfl (fun w hS => ro_nilCheck rfl) ?_
  refine ql_ro rfl (fun w hS => ro_fieldAddr (k := 2) rfl fo_94_2) ?_
  refine ql_ro rfl (fun w hS => ro_loadB rfl sc_77 (hS.2.2.1) (rfl)) ?_
  refine ql_ro rfl (fun w hS => ro_fieldAddr (k := 1) rfl fo_148_1) ?_
  refine ql_ro rfl (fun w hS => ro_loadB rfl sc_3 (hS.2.2.2.1) rfl) ?_
  refine ql_ro rfl (fun w hS => ro_indexAddr (et := 148) (k := 8) rfl rfl se_77 (rfl) (hml)) ?_
  refine ql_ro rfl (fun w hS => ro_loadAggB rfl ag_148 (hS.1) (rfl) (hpm)) ?_
  refine ql_new rfl ze_148 (fun w1 F ↦ ⟨F.blkN hN, F.blkN hG, F.blkN hC, F.blkN h4, trivial⟩) ?_
  intro b5 w3 hbb5 h5 F3
  have hbsb5 := Nat.le_trans hF.size hbb5
  have hnegnb5 : gn < b5 := Nat.lt_of_lt_of_le hN.lt hbb5
  have hneE.gbb5 : E.gb < b5 := Nat.lt_of_lt_of_le hG.lt hbb5
  have hneE.cbb5 : E.cb < b5 := Nat.lt_of_lt_of_le hC.lt hbb5
  have hneb4b5 : b4 < b5 := Nat.lt_of_lt_of_le h4.lt hbb5
  have kh5 := hR.df b5 hbb5
  replace hF := hF.thenDrew.thenN F3
  replace hR := hR.thruN ((Fram.refl none' _).thenDrew.thenN F3)
  replace hN := F3.blkN hN
  replace hG := F3.blkN hG
  replace hC := F3.blkN hC
  replace h4 := F3.blkN h4
  refine ql_puta rfl rfl rfl ((ndc_one _)) sz_148 (rfl) h5 ((by simp)) (rfl) (fun w4 h5 F4 => ?_)
  replace hF := hF.thenDrew.thenO F4 (by first | exact .inr (by omega) | exact .inl rfl | exact .inl (by assumption) | assumption)
  replace hR := hR.hbput ((Fram.refl (one b5) _).thenDrew.thenO F4 (.inl rfl))
  replace hN := F4.blkO hN (by first | omega | exact ow_ne (by assumption) (by assumption) (by omega))
  replace hG := F4.blkO hG (by first | omega | exact ow_ne (by assumption) (by assumption) (by omega))
  replace hC := F4.blkO hC (by first | omega | exact ow_ne (by assumption) (by assumption) (by omega))
  replace h4 := F4.blkO h4 (by first | omega | exact ow_ne (by assumption) (by assumption) (by omega))
  have h5 : Blk (w4).heap b5 (ndc (nd E.G (nd E.G n).A, pm)) 148 := h5
  unfold ndc at h5
  refine x_then (hK5 _ _ ?_)
  clear hK5 K5
  refine forget [(0, _), (4, _), (5, _)] ⟨rfl, rfl, rfl, trivial⟩ (fun e => ?_)
  refine c_seq (fun K6 hK6 => ?_)
  obtain ⟨pm2, hpm2⟩ := hrow _ hm2l
  refine c_piL 12 [(0, false), (1, false), (2, false), (3, false), (4, false), (5, false), (6, false), (7, false), (8, false), (9, false), (10, false), (11, true)] (La gn _ _ (La E.gb _ _ (La E.cb _ _ (La b4 _ _ (La b5 _ _ ((fun _ => True))))))) mixed (by kernel_rfl) rfl (by kernel_rfl) (po_then (po_blk (po_bp))) (⟨hN, hG, hC, h4, h5, trivial⟩) ?_ -- region 7 stmt.go:14
  refine ql_ro rfl (fun w hS => ro_move rfl) ?_
  refine ql_ro rfl (fun w hS => ro_nilCheck rfl) ?_
  refine ql_ro rfl (fun w hS => ro_fieldAddr (k := 0) rfl fo_199_0) ?_
  refine ql_ro rfl (fun w hS => ro_loadB rfl sc_22 (hS.2.1) (op.row 0 (by decide))) ?_
  refine ql_ro rfl (fun w hS => ro_nilCheck rfl) ?_
  refine ql_ro rfl (fun w hS => ro_fieldAddr (k := 2) rfl fo_94_2) ?_
  refine ql_ro rfl (fun w hS => ro_loadB rfl sc_77 (hS.2.2.1) (rfl)) ?_
  refine ql_ro rfl (fun w hS => ro_fieldAddr (k := 4) rfl fo_148_4) ?_
  refine ql_ro rfl (fun w hS => ro_loadB rfl sc_3 (hS.2.2.2.2.1) rfl) ?_
  refine ql_ro rfl (fun w hS => ro_indexAddr (et := 148) (k := 8) rfl rfl se_77 (rfl) (hm2l)) ?_
  refine ql_ro rfl (fun w hS => ro_loadAggB rfl ag_148 (hS.1) (rfl) (hpm2)) ?_
  refine ql_new rfl ze_148 (fun w1 F ↦ ⟨F.blkN hN, F.blkN hG, F.blkN hC, F.blkN h4, F.blkN h5, trivial⟩) ?_
  intro b6 w5 hbb6 h6 F5
  have hbsb6 := Nat.le_trans hF.size hbb6
  have hnegnb6 : gn < b6 := Nat.lt_of_lt_of_le hN.lt hbb6
  have hneE.gbb6 : E.gb < b6 := Nat.lt_of_lt_of_le hG.lt hbb6
  have hneE.cbb6 : E.cb < b6 := Nat.lt_of_lt_of_le hC.lt hbb6
  have hneb4b6 : b4 < b6 := Nat.lt_of_lt_of_le h4.lt hbb6
  have hneb5b6 : b5 < b6 := Nat.lt_of_lt_of_le h5.lt hbb6
  have kh6 := hR.df b6 hbb6
  replace hF := hF.thenDrew.thenN F5
  replace hR := hR.thruN ((Fram.refl none' _).thenDrew.thenN F5)
  replace hN := F5.blkN hN
  replace hG := F5.blkN hG
  replace hC := F5.blkN hC
  replace h4 := F5.blkN h4
  replace h5 := F5.blkN h5
  refine ql_puta rfl rfl rfl ((ndc_one _)) sz_148 (rfl) h6 ((by simp)) (rfl) (fun w6 h6 F6 => ?_)
  replace hF := hF.thenDrew.thenO F6 (by first | exact .inr (by omega) | exact .inl rfl | exact .inl (by assumption) | assumption)
  replace hR := hR.hbput ((Fram.refl (one b6) _).thenDrew.thenO F6 (.inl rfl))
  replace hN := F6.blkO hN (by first | omega | exact ow_ne (by assumption) (by assumption) (by omega))
  replace hG := F6.blkO hG (by first | omega | exact ow_ne (by assumption) (by assumption) (by omega))
  replace hC := F6.blkO hC (by first | omega | exact ow_ne (by assumption) (by assumption) (by omega))
  replace h4 := F6.blkO h4 (by first | omega | exact ow_ne (by assumption) (by assumption) (by omega))
  replace h5 := F6.blkO h5 (by first | omega | exact ow_ne (by assumption) (by assumption) (by omega))
  have h6 : Blk (w6).heap b6 (ndc (nd E.G (nd E.G (nd E.G n).A).Nx, pm2)) 148 := h6
  unfold ndc at h6
  rw [hm2s] at h6
  rw [hms] at h5
  refine x_then (hK6 _ _ ?_)
  clear hK6 K6
  refine forget [(0, _), (4, _), (5, _), (6, _)] ⟨rfl, rfl, rfl, rfl, trivial⟩ (fun e => ?_)
  refine c_seq (fun K7 hK7 => ?_)
  refine c_reg ?_ -- region 8 stmt.go:15
  refine wl (ro_move rfl) ?_
  refine wl (ro_fieldAddr (k := 2) rfl fo_148_2) ?_
  refine wl (ro_loadB rfl sc_3 (by assumption) rfl) ?_
  refine wl_call rfl en_188 (call188 hk hR.dr hKc hi1 hi2 hza hzz hw1 hw2 hp1 hp2 hle (hx0.le (by omega))) ?_
  rintro _ u7 ⟨rfl, ow7, x7, f7, r7⟩
  obtain ⟨hN, khN⟩ := cp_loc x7 f7 hN khN
  obtain ⟨h4, kh4⟩ := cp_loc x7 f7 h4 kh4
  obtain ⟨h5, kh5⟩ := cp_loc x7 f7 h5 kh5
  obtain ⟨h6, kh6⟩ := cp_loc x7 f7 h6 kh6
  have hs7 := hF.size
  replace hF := cp_trans hX hF f7
  replace hX := hX.trans hs7 x7
  replace hR := r7
  have hx1 := fx_call (N := []) (B := 90) (by rw [List.append_nil]; exact hx0) hi1 hi2 hw1 hw2
  obtain ⟨c1, hc1⟩ : ∃ z9, z9 = f.code ++ ((cmp a 0 (chn (f :: q)) 0 f.code.length S).1 65535 ++ (cmp zs 0 (chn (f :: q)) 0 (f.code.length + ln (cmp a 0 (chn (f :: q)) 0 f.code.length S)) (cmp a 0 (chn (f :: q)) 0 f.code.length S).2).1 65535 ++ [(26, lenE zs)]) := ⟨_, rfl⟩
  obtain ⟨S1, hS1⟩ : ∃ z9, z9 = (cmp zs 0 (chn (f :: q)) 0 (f.code.length + ln (cmp a 0 (chn (f :: q)) 0 f.code.length S)) (cmp a 0 (chn (f :: q)) 0 f.code.length S).2).2 := ⟨_, rfl⟩
  rw [← hc1, ← hS1] at hR hx1
  have hk1 : 3 * c1.length ≤ 31000 := hx1.clen
  refine wl_nil (x_then (hK7 _ _ ?_))
  clear hK7 K7
  refine forget [(0, _), (5, _), (6, _)] ⟨rfl, rfl, rfl, trivial⟩ (fun e => ?_)
  refine c_seq (fun K8 hK8 => ?_)
  refine c_reg ?_ -- region 9 stmt.go:16
  refine wl (ro_move rfl) ?_
  refine wl (ro_fieldAddr (k := 6) rfl fo_148_6) ?_
  refine wl (ro_loadB rfl sc_9 (by assumption) rfl) ?_
  refine wl_call rfl en_189 (declare189 (f := { f with code := c1 }) (nm := s) hR.dr (by simp only; omega) hx1.jl) ?_
  rintro _ u8 ⟨rfl, ow8, x8, f8, r8⟩
  obtain ⟨hN, khN⟩ := cp_loc x8 f8 hN khN
  obtain ⟨h4, kh4⟩ := cp_loc x8 f8 h4 kh4
  obtain ⟨h5, kh5⟩ := cp_loc x8 f8 h5 kh5
  obtain ⟨h6, kh6⟩ := cp_loc x8 f8 h6 kh6
  have hs8 := hF.size
  replace hF := cp_trans hX hF f8
  replace hX := hX.trans hs8 x8
  replace hR := r8
  have hx2 := hx1.decl (s := s) (by simp only; omega)
  refine wl (ro_assign rfl) ?_
  refine wl_nil (x_then (hK8 _ _ ?_))
  clear hK8 K8
  refine forget [(0, _), (6, _), (7, _)] ⟨rfl, rfl, rfl, trivial⟩ (fun e => ?_)
  refine c_seq (fun K9 hK9 => ?_)
  refine c_reg ?_ -- region 10 stmt.go:17
  refine wl (ro_move rfl) ?_
  refine wl (ro_fieldAddr (k := 6) rfl fo_148_6) ?_
  refine wl (ro_loadB rfl sc_9 (by assumption) rfl) ?_
  refine wl_call rfl en_187 (bind187 (f := { f with code := c1, L := f.L ++ [s] }) (nm := t) hR.dr (by simp; omega) hx2.jl (by simp only; omega)) ?_
  rintro _ u9 ⟨rfl, ow9, x9, f9, r9⟩
  obtain ⟨hN, khN⟩ := cp_loc x9 f9 hN khN
  obtain ⟨h4, kh4⟩ := cp_loc x9 f9 h4 kh4
  obtain ⟨h5, kh5⟩ := cp_loc x9 f9 h5 kh5
  obtain ⟨h6, kh6⟩ := cp_loc x9 f9 h6 kh6
  have hs9 := hF.size
  replace hF := cp_trans hX hF f9
  replace hX := hX.trans hs9 x9
  replace hR := r9
  refine wl_nil (x_then (hK9 _ _ ?_))
  clear hK9 K9
  refine c_reg ?_ -- region 11 stmt.go:18
  refine wl (ro_move rfl) ?_
  refine wl (ro_move rfl) ?_
  refine wl (ro_conv rfl sc_3 in_201 (Go.IntWalk.u16_in _ (by simp only; omega))) ?_
  refine wl (ro_build rfl bld_203_0_1) ?_
  refine wl_em (is := [(6, f.L.length)]) (eo_bsI1 rfl se_196 zx_203) rfl hR rfl (by simp; omega) ?_
  intro u10 ow10 x10 f10 r10
  obtain ⟨hN, khN⟩ := cp_loc' x10 f10 hN khN
  obtain ⟨h4, kh4⟩ := cp_loc' x10 f10 h4 kh4
  obtain ⟨h5, kh5⟩ := cp_loc' x10 f10 h5 kh5
  obtain ⟨h6, kh6⟩ := cp_loc' x10 f10 h6 kh6
  have hs10 := hF.size
  replace hF := cp_trans' hX hF f10
  replace hX := hX.trans hs10 x10
  replace hR := r10
  refine wl_nil (x_blk ?_)
  refine bp_end Tryz.results139 rfl ?_
  refine ⟨rfl, _, hX, hF, ?_⟩
  rw [hpS (co_loc2 ((co_all E.G (szT a)).1 a _ hi1 (Nat.le_refl _)) ((co_all E.G (szT zs)).2 zs _ hi2 (Nat.le_refl _))) hx hi hw9]
  show CM E _ _ (O ++ (numsT a ++ numsT zs)) (declF f.j (f.L.length + 2) (cmp zs 0 (chn (f :: q)) 0 (f.code.length + ln (cmp a 0 (chn (f :: q)) 0 f.code.length S)) (cmp a 0 (chn (f :: q)) 0 f.code.length S).2).2) (⟨f.j, f.L ++ [s, t], f.code ++ ((cmp a 0 (chn (f :: q)) 0 f.code.length S).1 65535 ++ (cmp zs 0 (chn (f :: q)) 0 (f.code.length + ln (cmp a 0 (chn (f :: q)) 0 f.code.length S)) (cmp a 0 (chn (f :: q)) 0 f.code.length S).2).1 65535 ++ [(26, lenE zs), (6, f.L.length + 1), (6, f.L.length)]), f.lps⟩ :: q)
  rw [← hS1, show f.code ++ ((cmp a 0 (chn (f :: q)) 0 f.code.length S).1 65535 ++ (cmp zs 0 (chn (f :: q)) 0 (f.code.length + ln (cmp a 0 (chn (f :: q)) 0 f.code.length S)) (cmp a 0 (chn (f :: q)) 0 f.code.length S).2).1 65535 ++ [(26, lenE zs), (6, f.L.length + 1), (6, f.L.length)]) = c1 ++ [(6, f.L.length + 1)] ++ [(6, f.L.length)] by rw [hc1]; simp only [List.append_assoc, List.cons_append, List.nil_append]]
  have hR : CM E _ _ (O ++ (numsT a ++ numsT zs)) (declF f.j ((f.L ++ [s]).length + 1) (declF f.j (f.L.length + 1) S1)) (⟨f.j, f.L ++ [s] ++ [t], c1 ++ [(6, (f.L ++ [s]).length)] ++ [(6, f.L.length)], f.lps⟩ :: q) := hR
  rw [List.append_assoc, declF_declF (by simp), show (f.L ++ [s]).length = f.L.length + 1 by simp] at hR
  exact hR
set_option maxHeartbeats 16000000 in
theorem xs_locFn {s : Str} {k : Nat} {ps : List Str} {b : Tr} {lp : Bool} (hb : XE (Ex.func k ps b)) : XS (St.locFn s k ps b) lp := by
  intro E w ow O S f q n hR hi hw hpa hlp hx
  have hw9 := hw
  obtain ⟨hn0, hK, hs, hA0, hKa, hNa, hia, hib⟩ := IsS_locFn.1 hi
  have hn : n < E.G.length := nd_lt (by rw [hK]; decide)
  obtain ⟨hwn, hl1, hW, hw1⟩ : NmW s ∧ f.L.length + 1 ≤ 12 ∧ FnW k ps ∧ W b false ps.length := hw
  have hp1 : PaT E.pa (Ex.func k ps b) f.j := hpa
  have hx0 : FX E S f q (k :: numsT b) (100 * (1 + ps.length + ndT b) + 100) := by
    have hx : FX E S f q (k :: numsT b) (100 * (2 + ps.length + ndT b)) := hx
    exact hx.le (by omega)
  have hie : IsE E.G (nd E.G n).A (Ex.func k ps b) := IsE_func.2 ⟨hA0, hKa, hNa, hia, hib⟩
  have hF : Fram (tg ow cpT) w w := Fram.refl _ _
  have hX : Xt w ow ow := Xt.refl _ _
  obtain ⟨gn, capn, ln_, env, hN, khN, hcapn, hrow⟩ := hR.nodes hx.g0.1
  obtain ⟨pn, hpn⟩ := hrow n hn
  have hcl : 3 * f.code.length ≤ 31000 := hx.clen
  have hL12 := hx.L
  have hjl := hx.jl
  refine ret_of Tryz.func139 rfl Tryz.ntmps139 rfl ?_
  refine c_seq (fun K1 hK1 => ?_)
  obtain ⟨R_, z_, op⟩ := hR.open (f := f) (by simp)
  have hG := op.B
  have hC := hR.cb
  have khG := hR.ta
  have khC := hR.tc
  rw [env] at hC
  refine c_reg ?_ -- region 0 stmt.go:7
  refine wl (ro_move rfl) ?_
  refine wl (ro_nilCheck rfl) ?_
  refine wl (ro_fieldAddr (k := 0) rfl fo_199_0) ?_
  refine wl (ro_loadB rfl sc_22 hG (op.row 0 (by decide))) ?_
  refine wl (ro_nilCheck rfl) ?_
  refine wl (ro_fieldAddr (k := 2) rfl fo_94_2) ?_
  refine wl (ro_loadB rfl sc_77 (hC) rfl) ?_
  refine wl (ro_move rfl) ?_
  refine wl (ro_indexAddr (et := 148) (k := 8) rfl rfl se_77 (rfl) (hn)) ?_
  refine wl (ro_loadAggB rfl ag_148 (hN) (rfl) (hpn)) ?_
  refine wl_new (ze_148) (fun b4 w1 hbb4 h4 F1 => ?_)
  have hbsb4 := Nat.le_trans hF.size hbb4
  have hnegnb4 : gn < b4 := Nat.lt_of_lt_of_le hN.lt hbb4
  have hneE.gbb4 : E.gb < b4 := Nat.lt_of_lt_of_le hG.lt hbb4
  have hneE.cbb4 : E.cb < b4 := Nat.lt_of_lt_of_le hC.lt hbb4
  have kh4 := hR.df b4 hbb4
  replace hF := hF.thenDrew.thenN F1
  replace hR := hR.thruN ((Fram.refl none' _).thenDrew.thenN F1)
  replace hN := F1.blkN hN
  replace hG := F1.blkN hG
  replace hC := F1.blkN hC
  refine wl_puta rfl rfl ((ndc_one _)) sz_148 (rfl) h4 ((by simp)) (rfl) (fun w2 h4 F2 => ?_)
  replace hF := hF.thenDrew.thenO F2 (by first | exact .inr (by omega) | exact .inl rfl | exact .inl (by assumption) | assumption)
  replace hR := hR.hbput ((Fram.refl (one b4) _).thenDrew.thenO F2 (.inl rfl))
  replace hN := F2.blkO hN (by first | omega | exact ow_ne (by assumption) (by assumption) (by omega))
  replace hG := F2.blkO hG (by first | omega | exact ow_ne (by assumption) (by assumption) (by omega))
  replace hC := F2.blkO hC (by first | omega | exact ow_ne (by assumption) (by assumption) (by omega))
  have h4 : Blk (w2).heap b4 [i64c 3, i64c (nd E.G n).A, i64c (nd E.G n).B, i64c (nd E.G n).C, i64c (nd E.G n).Nx, u64c (nd E.G n).N, Go.Proofs.Qxb6500568aGreatDoor.S (nd E.G n).S, i64c pn] 148 := by rw [← hK]; exact h4
  rw [hs] at h4
  refine wl_nil (x_then (hK1 _ _ ?_))
  clear hK1 K1
  refine forget [(0, _), (4, _)] ⟨rfl, rfl, trivial⟩ (fun e => ?_)
  refine c_seq (fun K2 hK2 => ?_)
  refine c_reg ?_ -- region 1 stmt.go:8
  refine wl (ro_fieldAddr (k := 0) rfl fo_148_0) ?_
  refine wl (ro_loadB rfl sc_3 (by assumption) rfl) ?_
  refine wl_nil (x_then (hK2 _ _ ?_))
  clear hK2 K2
  refine c_block ?_
  refine forget [(0, _), (4, _), (22, _)] ⟨rfl, rfl, rfl, trivial⟩ (fun e => ?_)
  refine c_seq (fun K3 hK3 => ?_)
  refine c_reg ?_ -- region 2 stmt.go:9
  refine wl (ro_cmp rfl rfl rfl) ?_
  refine wl (ro_assign rfl) ?_
  refine wl_nil (x_then (hK3 _ _ ?_))
  clear hK3 K3
  refine wc_condF rfl ?_
  refine c_seq (fun K4 hK4 => ?_)
  refine c_reg ?_ -- region 5 stmt.go:12
  refine wl (ro_cmp rfl rfl rfl) ?_
  refine wl (ro_assign rfl) ?_
  refine wl_nil (x_then (hK4 _ _ ?_))
  clear hK4 K4
  refine wc_condF rfl ?_
  refine c_seq (fun K5 hK5 => ?_)
  refine c_reg ?_ -- region 12 stmt.go:19
  refine wl (ro_cmp rfl rfl rfl) ?_
  refine wl (ro_assign rfl) ?_
  refine wl_nil (x_then (hK5 _ _ ?_))
  clear hK5 K5
  refine wc_condT rfl ?_
  refine c_seq (fun K6 hK6 => ?_)
  refine c_reg ?_ -- region 13 stmt.go:20
  refine wl (ro_move rfl) ?_
  refine wl (ro_fieldAddr (k := 6) rfl fo_148_6) ?_
  refine wl (ro_loadB rfl sc_9 (by assumption) rfl) ?_
  refine wl_call rfl en_189 (declare189 (nm := s) hR.dr (by omega) hjl) ?_
  rintro _ u3 ⟨rfl, ow3, x3, f3, r3⟩
  obtain ⟨hN, khN⟩ := cp_loc x3 f3 hN khN
  obtain ⟨h4, kh4⟩ := cp_loc x3 f3 h4 kh4
  have hs3 := hF.size
  replace hF := cp_trans hX hF f3
  replace hX := hX.trans hs3 x3
  replace hR := r3
  have hx1 := hx0.decl (s := s) hl1
  refine wl (ro_assign rfl) ?_
  refine wl_nil (x_then (hK6 _ _ ?_))
  clear hK6 K6
  refine forget [(0, _), (4, _), (8, _)] ⟨rfl, rfl, rfl, trivial⟩ (fun e => ?_)
  refine c_seq (fun K7 hK7 => ?_)
  refine c_reg ?_ -- region 14 stmt.go:21
  refine wl (ro_move rfl) ?_
  refine wl (ro_fieldAddr (k := 1) rfl fo_148_1) ?_
  refine wl (ro_loadB rfl sc_3 (by assumption) rfl) ?_
  refine wl_call rfl en_186 (hb E _ _ _ _ { f with L := f.L ++ [s] } q _ hR.dr hie ⟨hW, hw1⟩ hp1 (hx1.le (by show 100 * (1 + ps.length + ndT b) ≤ _; omega))) ?_
  rintro _ u4 ⟨rfl, ow4, x4, f4, r4⟩
  obtain ⟨hN, khN⟩ := cp_loc x4 f4 hN khN
  obtain ⟨h4, kh4⟩ := cp_loc x4 f4 h4 kh4
  have hs4 := hF.size
  replace hF := cp_trans hX hF f4
  replace hX := hX.trans hs4 x4
  replace hR := r4
  refine wl_nil (x_then (hK7 _ _ ?_))
  clear hK7 K7
  refine c_reg ?_ -- region 15 stmt.go:22
  refine wl (ro_move rfl) ?_
  refine wl (ro_move rfl) ?_
  refine wl (ro_conv rfl sc_3 in_201 (Go.IntWalk.u16_in _ (by omega))) ?_
  refine wl (ro_build rfl bld_203_0_1) ?_
  refine wl_em (is := [(6, f.L.length)]) (eo_bsI1 rfl se_196 zx_203) rfl hR rfl (by show (f.code ++ [(28, k)]).length + 1 ≤ _; simp; omega) ?_
  intro u5 ow5 x5 f5 r5
  obtain ⟨hN, khN⟩ := cp_loc' x5 f5 hN khN
  obtain ⟨h4, kh4⟩ := cp_loc' x5 f5 h4 kh4
  have hs5 := hF.size
  replace hF := cp_trans' hX hF f5
  replace hX := hX.trans hs5 x5
  replace hR := r5
  refine wl_nil (x_blk ?_)
  refine bp_end Tryz.results139 rfl ?_
  refine ⟨rfl, _, hX, hF, ?_⟩
  rw [hpS co_locFn hx hi hw9]
  have hR : CM E _ _ (O ++ (k :: numsT b)) (fnF k ps (chn (⟨f.j, f.L ++ [s], f.code, f.lps⟩ :: q)) (fun md ch b2 a S => cmp b md ch b2 a S) (declF f.j (f.L.length + 1) S)) (⟨f.j, f.L ++ [s], f.code ++ [(28, k)] ++ [(6, f.L.length)], f.lps⟩ :: q) := hR
  rw [List.append_assoc] at hR
  exact hR
section
variable {E : ZEnv} {w : World} {ow : Nat → Nat} {O : List Nat} {S : Fns} {f : ZAct} {q : List ZAct}
set_option maxHeartbeats 16000000 in
theorem assignN {v : Tr} {s : Str} (hv : XE v) {n pn : Nat} {cs : List Value} (hcs : cs = ndc (nd E.G n, pn)) (hR : CM E w ow O S (f :: q)) (hKa : (nd E.G (nd E.G n).A).K = 17) (hs : (nd E.G (nd E.G n).A).S = s) (hi1 : IsE E.G (nd E.G n).B v) (hwn : NmW s) (hw1 : W v false f.L.length) (hp1 : PaT E.pa v f.j) (hx0 : FX E S f q (numsT v ++ []) (100 * ndT v + 150)) :
    Ret Tryz.prog 190 [fptr E f.j, .agg cs.toArray] w (fun r w' => r = .tuple #[] ∧ ZP E w ow (O ++ numsT v) (varF 6 8 10 (chn (f :: q)) s (cmp v 0 (chn (f :: q)) 0 f.code.length S).2).2 ({ f with code := f.code ++ ((cmp v 0 (chn (f :: q)) 0 f.code.length S).1 65535 ++ [(varF 6 8 10 (chn (f :: q)) s (cmp v 0 (chn (f :: q)) 0 f.code.length S).2).1]) } :: q) w') := by
  have hAl : (nd E.G n).A < E.G.length := nd_lt (by rw [hKa]; decide)
  have hF : Fram (tg ow cpT) w w := Fram.refl _ _
  have hX : Xt w ow ow := Xt.refl _ _
  subst hcs
  obtain ⟨gn, capn, ln_, env, hN, khN, hcapn, hrow⟩ := hR.nodes hx0.g0.1
  have hcl : 3 * f.code.length ≤ 31000 := hx0.clen
  have hL12 := hx0.L
  have hjl := hx0.jl
  have hjl9 := hjl
  refine ret_of Tryz.func190 rfl Tryz.ntmps190 rfl ?_
  refine c_seq (fun K1 hK1 => ?_)
  refine c_reg ?_ -- region 0 stmt.go:51
  refine wl_box rfl rfl (fun b3 w1 hbb3 h3 F1 => ?_)
  have hbsb3 := Nat.le_trans hF.size hbb3
  have hnegnb3 : gn < b3 := Nat.lt_of_lt_of_le hN.lt hbb3
  have kh3 := hR.df b3 hbb3
  replace hF := hF.thenDrew.thenN F1
  replace hR := hR.thruN ((Fram.refl none' _).thenDrew.thenN F1)
  replace hN := F1.blkN hN
  have h3 : Blk (w1).heap b3 (ndc (nd E.G n, pn)) 148 := h3
  unfold ndc at h3
  refine wl_nil (x_then (hK1 _ _ ?_))
  clear hK1 K1
  refine forget [(0, _), (3, _)] ⟨rfl, rfl, trivial⟩ (fun e => ?_)
  refine c_seq (fun K2 hK2 => ?_)
  obtain ⟨pa, hpa9⟩ := hrow _ hAl
  obtain ⟨R_, z_, op⟩ := hR.open (f := f) (by simp)
  have hG := op.B
  have hC := hR.cb
  have khG := hR.ta
  have khC := hR.tc
  rw [env] at hC
  refine c_piL 12 [(0, false), (1, false), (2, false), (3, false), (4, false), (5, false), (6, false), (7, false), (8, false), (9, false), (10, false), (11, true)] (La gn _ _ (La b3 _ _ (La E.gb _ _ (La E.cb _ _ ((fun _ => True)))))) mixed (by kernel_rfl) rfl (by kernel_rfl) (po_then (po_bp)) (⟨hN, h3, hG, hC, trivial⟩) ?_ -- region 1 stmt.go:52
  refine ql_ro rfl (fun w hS => ro_move rfl) ?_
  refine ql_ro rfl (fun w hS => ro_nilCheck rfl) ?_
  refine ql_ro rfl (fun w hS => ro_fieldAddr (k := 0) rfl fo_199_0) ?_
  refine ql_ro rfl (fun w hS => ro_loadB rfl sc_22 (hS.2.2.1) (op.row 0 (by decide))) ?_
  refine ql_ro rfl (fun w hS => ro_nilCheck rfl) ?_
  refine ql_ro rfl (fun w hS => ro_fieldAddr (k := 2) rfl fo_94_2) ?_
  refine ql_ro rfl (fun w hS => ro_loadB rfl sc_77 (hS.2.2.2.1) (rfl)) ?_
  refine ql_ro rfl (fun w hS => ro_fieldAddr (k := 1) rfl fo_148_1) ?_
  refine ql_ro rfl (fun w hS => ro_loadB rfl sc_3 (hS.2.1) rfl) ?_
  refine ql_ro rfl (fun w hS => ro_indexAddr (et := 148) (k := 8) rfl rfl se_77 (rfl) (hAl)) ?_
  refine ql_ro rfl (fun w hS => ro_loadAggB rfl ag_148 (hS.1) (rfl) (hpa9)) ?_
  refine ql_new rfl ze_148 (fun w1 F ↦ ⟨F.blkN hN, F.blkN h3, F.blkN hG, F.blkN hC, trivial⟩) ?_
  intro b4 w2 hbb4 h4 F2
  have hbsb4 := Nat.le_trans hF.size hbb4
  have hnegnb4 : gn < b4 := Nat.lt_of_lt_of_le hN.lt hbb4
  have hneb3b4 : b3 < b4 := Nat.lt_of_lt_of_le h3.lt hbb4
  have hneE.gbb4 : E.gb < b4 := Nat.lt_of_lt_of_le hG.lt hbb4
  have hneE.cbb4 : E.cb < b4 := Nat.lt_of_lt_of_le hC.lt hbb4
  have kh4 := hR.df b4 hbb4
  replace hF := hF.thenDrew.thenN F2
  replace hR := hR.thruN ((Fram.refl none' _).thenDrew.thenN F2)
  replace hN := F2.blkN hN
  replace h3 := F2.blkN h3
  replace hG := F2.blkN hG
  replace hC := F2.blkN hC
  refine ql_puta rfl rfl rfl ((ndc_one _)) sz_148 (rfl) h4 ((by simp)) (rfl) (fun w3 h4 F3 => ?_)
  replace hF := hF.thenDrew.thenO F3 (by first | exact .inr (by omega) | exact .inl rfl | exact .inl (by assumption) | assumption)
  replace hR := hR.hbput ((Fram.refl (one b4) _).thenDrew.thenO F3 (.inl rfl))
  replace hN := F3.blkO hN (by first | omega | exact ow_ne (by assumption) (by assumption) (by omega))
  replace h3 := F3.blkO h3 (by first | omega | exact ow_ne (by assumption) (by assumption) (by omega))
  replace hG := F3.blkO hG (by first | omega | exact ow_ne (by assumption) (by assumption) (by omega))
  replace hC := F3.blkO hC (by first | omega | exact ow_ne (by assumption) (by assumption) (by omega))
  have h4 : Blk (w3).heap b4 (ndc (nd E.G (nd E.G n).A, pa)) 148 := h4
  unfold ndc at h4
  rw [hKa, hs] at h4
  refine x_then (hK2 _ _ ?_)
  clear hK2 K2
  refine c_seq (fun K3 hK3 => ?_)
  refine c_seq (fun K4 hK4 => ?_)
  refine c_reg ?_ -- region 2 stmt.go:53
  refine wl (ro_fieldAddr (k := 0) rfl fo_148_0) ?_
  refine wl (ro_loadB rfl sc_3 (by assumption) rfl) ?_
  refine wl (ro_cmp rfl rfl rfl) ?_
  refine wl_nil (x_then (hK4 _ _ ?_))
  clear hK4 K4
  refine wc_condT rfl ?_
  refine c_seq (fun K5 hK5 => ?_)
  refine c_reg ?_ -- region 3 stmt.go:54
  refine wl (ro_move rfl) ?_
  refine wl (ro_fieldAddr (k := 2) rfl fo_148_2) ?_
  refine wl (ro_loadB rfl sc_3 (by assumption) rfl) ?_
  refine wl_call rfl en_186 (hv E _ _ _ _ f q _ hR.dr hi1 hw1 hp1 (hx0.left.le (by omega))) ?_
  rintro _ u4 ⟨rfl, ow4, x4, f4, r4⟩
  obtain ⟨hN, khN⟩ := cp_loc x4 f4 hN khN
  obtain ⟨h3, kh3⟩ := cp_loc x4 f4 h3 kh3
  obtain ⟨h4, kh4⟩ := cp_loc x4 f4 h4 kh4
  have hs4 := hF.size
  replace hF := cp_trans hX hF f4
  replace hX := hX.trans hs4 x4
  replace hR := r4
  have hx1 := hx0.eE hi1 hw1
  obtain ⟨S1, hS1⟩ : ∃ z9, z9 = (cmp v 0 (chn (f :: q)) 0 f.code.length S).2 := ⟨_, rfl⟩
  obtain ⟨c1, hc1⟩ : ∃ z9, z9 = f.code ++ (cmp v 0 (chn (f :: q)) 0 f.code.length S).1 65535 := ⟨_, rfl⟩
  have hl1 : c1.length = f.code.length + ln (cmp v 0 (chn (f :: q)) 0 f.code.length S) := by rw [hc1, List.length_append]; congr 1; exact hx0.ln
  replace hx1 : FX E (cmp v 0 (chn (f :: q)) 0 f.code.length S).2 { f with code := f.code ++ (cmp v 0 (chn (f :: q)) 0 f.code.length S).1 65535 } q _ _ := hx1
  have hR : CM E _ _ _ (cmp v 0 (chn (f :: q)) 0 f.code.length S).2 ({ f with code := f.code ++ (cmp v 0 (chn (f :: q)) 0 f.code.length S).1 65535 } :: q) := hR
  rw [← hS1, ← hc1] at hR hx1
  have hk1 : 3 * c1.length ≤ 31000 := hx1.clen
  refine wl_nil (x_then (hK5 _ _ ?_))
  clear hK5 K5
  refine forget [(0, _), (4, _)] ⟨rfl, rfl, trivial⟩ (fun e => ?_)
  refine c_seq (fun K6 hK6 => ?_)
  refine c_reg ?_ -- region 4 stmt.go:55
  refine wl (ro_move rfl) ?_
  refine wl (ro_fieldAddr (k := 6) rfl fo_148_6) ?_
  refine wl (ro_loadB rfl sc_9 (by assumption) rfl) ?_
  refine wl_call rfl en_230 (variable230 (f := { f with code := c1 }) (nm := s) (l := 6) (u := 8) (g := 10) hR.dr hwn.1 hx1.cp hx1.ch hx1.fit hx1.bd hx1.L (by simp only; omega) (by have := hx1.tt; omega)) ?_
  rintro _ u5 ⟨rfl, ow5, x5, f5, r5⟩
  obtain ⟨hN, khN⟩ := cp_loc x5 f5 hN khN
  obtain ⟨h3, kh3⟩ := cp_loc x5 f5 h3 kh3
  obtain ⟨h4, kh4⟩ := cp_loc x5 f5 h4 kh4
  have hs5 := hF.size
  replace hF := cp_trans hX hF f5
  replace hX := hX.trans hs5 x5
  replace hR := r5
  refine wl_nil (x_then (hK6 _ _ ?_))
  clear hK6 K6
  refine c_ret (x_thenR ?_)
  refine bp_ret Tryz.results190 rfl ?_
  refine ⟨rfl, _, hX, hF, ?_⟩
  rw [← hS1, ← List.append_assoc, ← hc1]
  exact hR
set_option maxHeartbeats 16000000 in
theorem assignI {a b v : Tr} (ha : XE a) (hb : XE b) (hv : XE v) {n pn : Nat} {cs : List Value} (hcs : cs = ndc (nd E.G n, pn)) (hR : CM E w ow O S (f :: q)) (hKa : (nd E.G (nd E.G n).A).K = 18) (hi1 : IsE E.G (nd E.G (nd E.G n).A).A a) (hi2 : IsE E.G (nd E.G (nd E.G n).A).B b) (hi3 : IsE E.G (nd E.G n).B v) (hw1 : W a false f.L.length) (hw2 : W b false f.L.length) (hw3 : W v false f.L.length) (hp1 : PaT E.pa a f.j) (hp2 : PaT E.pa b f.j) (hp3 : PaT E.pa v f.j) (hx0 : FX E S f q (numsT a ++ (numsT b ++ (numsT v ++ []))) (100 * ndT a + (100 * ndT b + (100 * ndT v + 150)))) :
    Ret Tryz.prog 190 [fptr E f.j, .agg cs.toArray] w (fun r w' => r = .tuple #[] ∧ ZP E w ow (O ++ (numsT a ++ (numsT b ++ numsT v))) (cmp (St.setI a b v) 0 (chn (f :: q)) (lpB f.lps) f.code.length S).2 ({ f with code := f.code ++ (cmp (St.setI a b v) 0 (chn (f :: q)) (lpB f.lps) f.code.length S).1 65535 } :: q) w') := by
  have hAl : (nd E.G n).A < E.G.length := nd_lt (by rw [hKa]; decide)
  have hF : Fram (tg ow cpT) w w := Fram.refl _ _
  have hX : Xt w ow ow := Xt.refl _ _
  subst hcs
  obtain ⟨gn, capn, ln_, env, hN, khN, hcapn, hrow⟩ := hR.nodes hx0.g0.1
  have hcl : 3 * f.code.length ≤ 31000 := hx0.clen
  have hL12 := hx0.L
  have hjl := hx0.jl
  have hjl9 := hjl
  refine ret_of Tryz.func190 rfl Tryz.ntmps190 rfl ?_
  refine c_seq (fun K1 hK1 => ?_)
  refine c_reg ?_ -- region 0 stmt.go:51
  refine wl_box rfl rfl (fun b3 w1 hbb3 h3 F1 => ?_)
  have hbsb3 := Nat.le_trans hF.size hbb3
  have hnegnb3 : gn < b3 := Nat.lt_of_lt_of_le hN.lt hbb3
  have kh3 := hR.df b3 hbb3
  replace hF := hF.thenDrew.thenN F1
  replace hR := hR.thruN ((Fram.refl none' _).thenDrew.thenN F1)
  replace hN := F1.blkN hN
  have h3 : Blk (w1).heap b3 (ndc (nd E.G n, pn)) 148 := h3
  unfold ndc at h3
  refine wl_nil (x_then (hK1 _ _ ?_))
  clear hK1 K1
  refine forget [(0, _), (3, _)] ⟨rfl, rfl, trivial⟩ (fun e => ?_)
  refine c_seq (fun K2 hK2 => ?_)
  obtain ⟨pa, hpa9⟩ := hrow _ hAl
  obtain ⟨R_, z_, op⟩ := hR.open (f := f) (by simp)
  have hG := op.B
  have hC := hR.cb
  have khG := hR.ta
  have khC := hR.tc
  rw [env] at hC
  refine c_piL 12 [(0, false), (1, false), (2, false), (3, false), (4, false), (5, false), (6, false), (7, false), (8, false), (9, false), (10, false), (11, true)] (La gn _ _ (La b3 _ _ (La E.gb _ _ (La E.cb _ _ ((fun _ => True)))))) mixed (by kernel_rfl) rfl (by kernel_rfl) (po_then (po_bp)) (⟨hN, h3, hG, hC, trivial⟩) ?_ -- region 1 stmt.go:52
  refine ql_ro rfl (fun w hS => ro_move rfl) ?_
  refine ql_ro rfl (fun w hS => ro_nilCheck rfl) ?_
  refine ql_ro rfl (fun w hS => ro_fieldAddr (k := 0) rfl fo_199_0) ?_
  refine ql_ro rfl (fun w hS => ro_loadB rfl sc_22 (hS.2.2.1) (op.row 0 (by decide))) ?_
  refine ql_ro rfl (fun w hS => ro_nilCheck rfl) ?_
  refine ql_ro rfl (fun w hS => ro_fieldAddr (k := 2) rfl fo_94_2) ?_
  refine ql_ro rfl (fun w hS => ro_loadB rfl sc_77 (hS.2.2.2.1) (rfl)) ?_
  refine ql_ro rfl (fun w hS => ro_fieldAddr (k := 1) rfl fo_148_1) ?_
  refine ql_ro rfl (fun w hS => ro_loadB rfl sc_3 (hS.2.1) rfl) ?_
  refine ql_ro rfl (fun w hS => ro_indexAddr (et := 148) (k := 8) rfl rfl se_77 (rfl) (hAl)) ?_
  refine ql_ro rfl (fun w hS => ro_loadAggB rfl ag_148 (hS.1) (rfl) (hpa9)) ?_
  refine ql_new rfl ze_148 (fun w1 F ↦ ⟨F.blkN hN, F.blkN h3, F.blkN hG, F.blkN hC, trivial⟩) ?_
  intro b4 w2 hbb4 h4 F2
  have hbsb4 := Nat.le_trans hF.size hbb4
  have hnegnb4 : gn < b4 := Nat.lt_of_lt_of_le hN.lt hbb4
  have hneb3b4 : b3 < b4 := Nat.lt_of_lt_of_le h3.lt hbb4
  have hneE.gbb4 : E.gb < b4 := Nat.lt_of_lt_of_le hG.lt hbb4
  have hneE.cbb4 : E.cb < b4 := Nat.lt_of_lt_of_le hC.lt hbb4
  have kh4 := hR.df b4 hbb4
  replace hF := hF.thenDrew.thenN F2
  replace hR := hR.thruN ((Fram.refl none' _).thenDrew.thenN F2)
  replace hN := F2.blkN hN
  replace h3 := F2.blkN h3
  replace hG := F2.blkN hG
  replace hC := F2.blkN hC
  refine ql_puta rfl rfl rfl ((ndc_one _)) sz_148 (rfl) h4 ((by simp)) (rfl) (fun w3 h4 F3 => ?_)
  replace hF := hF.thenDrew.thenO F3 (by first | exact .inr (by omega) | exact .inl rfl | exact .inl (by assumption) | assumption)
  replace hR := hR.hbput ((Fram.refl (one b4) _).thenDrew.thenO F3 (.inl rfl))
  replace hN := F3.blkO hN (by first | omega | exact ow_ne (by assumption) (by assumption) (by omega))
  replace h3 := F3.blkO h3 (by first | omega | exact ow_ne (by assumption) (by assumption) (by omega))
  replace hG := F3.blkO hG (by first | omega | exact ow_ne (by assumption) (by assumption) (by omega))
  replace hC := F3.blkO hC (by first | omega | exact ow_ne (by assumption) (by assumption) (by omega))
  have h4 : Blk (w3).heap b4 (ndc (nd E.G (nd E.G n).A, pa)) 148 := h4
  unfold ndc at h4
  rw [hKa] at h4
  refine x_then (hK2 _ _ ?_)
  clear hK2 K2
  refine c_seq (fun K3 hK3 => ?_)
  refine c_seq (fun K4 hK4 => ?_)
  refine c_reg ?_ -- region 2 stmt.go:53
  refine wl (ro_fieldAddr (k := 0) rfl fo_148_0) ?_
  refine wl (ro_loadB rfl sc_3 (by assumption) rfl) ?_
  refine wl (ro_cmp rfl rfl rfl) ?_
  refine wl_nil (x_then (hK4 _ _ ?_))
  clear hK4 K4
  refine wc_condF rfl ?_
  refine c_skip (x_then (hK3 _ _ ?_))
  clear hK3 K3
  refine forget [(0, _), (3, _), (4, _)] ⟨rfl, rfl, rfl, trivial⟩ (fun e => ?_)
  refine c_seq (fun K5 hK5 => ?_)
  refine c_reg ?_ -- region 5 stmt.go:58
  refine wl (ro_move rfl) ?_
  refine wl (ro_fieldAddr (k := 1) rfl fo_148_1) ?_
  refine wl (ro_loadB rfl sc_3 (by assumption) rfl) ?_
  refine wl_call rfl en_186 (ha E _ _ _ _ f q _ hR.dr hi1 hw1 hp1 (hx0.left.le (by omega))) ?_
  rintro _ u4 ⟨rfl, ow4, x4, f4, r4⟩
  obtain ⟨hN, khN⟩ := cp_loc x4 f4 hN khN
  obtain ⟨h3, kh3⟩ := cp_loc x4 f4 h3 kh3
  obtain ⟨h4, kh4⟩ := cp_loc x4 f4 h4 kh4
  have hs4 := hF.size
  replace hF := cp_trans hX hF f4
  replace hX := hX.trans hs4 x4
  replace hR := r4
  have hx1 := hx0.eE hi1 hw1
  obtain ⟨S1, hS1⟩ : ∃ z9, z9 = (cmp a 0 (chn (f :: q)) 0 f.code.length S).2 := ⟨_, rfl⟩
  obtain ⟨c1, hc1⟩ : ∃ z9, z9 = f.code ++ (cmp a 0 (chn (f :: q)) 0 f.code.length S).1 65535 := ⟨_, rfl⟩
  have hl1 : c1.length = f.code.length + ln (cmp a 0 (chn (f :: q)) 0 f.code.length S) := by rw [hc1, List.length_append]; congr 1; exact hx0.ln
  replace hx1 : FX E (cmp a 0 (chn (f :: q)) 0 f.code.length S).2 { f with code := f.code ++ (cmp a 0 (chn (f :: q)) 0 f.code.length S).1 65535 } q _ _ := hx1
  have hR : CM E _ _ _ (cmp a 0 (chn (f :: q)) 0 f.code.length S).2 ({ f with code := f.code ++ (cmp a 0 (chn (f :: q)) 0 f.code.length S).1 65535 } :: q) := hR
  rw [← hS1, ← hc1] at hR hx1
  have hk1 : 3 * c1.length ≤ 31000 := hx1.clen
  refine wl_nil (x_then (hK5 _ _ ?_))
  clear hK5 K5
  refine forget [(0, _), (3, _), (4, _)] ⟨rfl, rfl, rfl, trivial⟩ (fun e => ?_)
  refine c_seq (fun K6 hK6 => ?_)
  refine c_reg ?_ -- region 6 stmt.go:59
  refine wl (ro_move rfl) ?_
  refine wl (ro_fieldAddr (k := 2) rfl fo_148_2) ?_
  refine wl (ro_loadB rfl sc_3 (by assumption) rfl) ?_
  refine wl_call rfl en_186 (hb E _ _ _ _ { f with code := c1 } q _ hR.dr hi2 hw2 hp2 (hx1.left.le (by omega))) ?_
  rintro _ u5 ⟨rfl, ow5, x5, f5, r5⟩
  obtain ⟨hN, khN⟩ := cp_loc x5 f5 hN khN
  obtain ⟨h3, kh3⟩ := cp_loc x5 f5 h3 kh3
  obtain ⟨h4, kh4⟩ := cp_loc x5 f5 h4 kh4
  have hs5 := hF.size
  replace hF := cp_trans hX hF f5
  replace hX := hX.trans hs5 x5
  replace hR := r5
  have hx2 := hx1.eE hi2 hw2
  obtain ⟨S2, hS2⟩ : ∃ z9, z9 = (cmp b 0 (chn (f :: q)) 0 c1.length S1).2 := ⟨_, rfl⟩
  obtain ⟨c2, hc2⟩ : ∃ z9, z9 = c1 ++ (cmp b 0 (chn (f :: q)) 0 c1.length S1).1 65535 := ⟨_, rfl⟩
  have hl2 : c2.length = c1.length + ln (cmp b 0 (chn (f :: q)) 0 c1.length S1) := by rw [hc2, List.length_append]; congr 1; exact hx1.ln
  replace hx2 : FX E (cmp b 0 (chn (f :: q)) 0 c1.length S1).2 { f with code := c1 ++ (cmp b 0 (chn (f :: q)) 0 c1.length S1).1 65535 } q _ _ := hx2
  have hR : CM E _ _ _ (cmp b 0 (chn (f :: q)) 0 c1.length S1).2 ({ f with code := c1 ++ (cmp b 0 (chn (f :: q)) 0 c1.length S1).1 65535 } :: q) := hR
  rw [← hS2, ← hc2] at hR hx2
  have hk2 : 3 * c2.length ≤ 31000 := hx2.clen
  refine wl_nil (x_then (hK6 _ _ ?_))
  clear hK6 K6
  refine forget [(0, _), (3, _)] ⟨rfl, rfl, trivial⟩ (fun e => ?_)
  refine c_seq (fun K7 hK7 => ?_)
  refine c_reg ?_ -- region 7 stmt.go:60
  refine wl (ro_move rfl) ?_
  refine wl (ro_fieldAddr (k := 2) rfl fo_148_2) ?_
  refine wl (ro_loadB rfl sc_3 (by assumption) rfl) ?_
  refine wl_call rfl en_186 (hv E _ _ _ _ { f with code := c2 } q _ hR.dr hi3 hw3 hp3 (hx2.left.le (by omega))) ?_
  rintro _ u6 ⟨rfl, ow6, x6, f6, r6⟩
  obtain ⟨hN, khN⟩ := cp_loc x6 f6 hN khN
  obtain ⟨h3, kh3⟩ := cp_loc x6 f6 h3 kh3
  obtain ⟨h4, kh4⟩ := cp_loc x6 f6 h4 kh4
  have hs6 := hF.size
  replace hF := cp_trans hX hF f6
  replace hX := hX.trans hs6 x6
  replace hR := r6
  have hx3 := hx2.eE hi3 hw3
  obtain ⟨S3, hS3⟩ : ∃ z9, z9 = (cmp v 0 (chn (f :: q)) 0 c2.length S2).2 := ⟨_, rfl⟩
  obtain ⟨c3, hc3⟩ : ∃ z9, z9 = c2 ++ (cmp v 0 (chn (f :: q)) 0 c2.length S2).1 65535 := ⟨_, rfl⟩
  have hl3 : c3.length = c2.length + ln (cmp v 0 (chn (f :: q)) 0 c2.length S2) := by rw [hc3, List.length_append]; congr 1; exact hx2.ln
  replace hx3 : FX E (cmp v 0 (chn (f :: q)) 0 c2.length S2).2 { f with code := c2 ++ (cmp v 0 (chn (f :: q)) 0 c2.length S2).1 65535 } q _ _ := hx3
  have hR : CM E _ _ _ (cmp v 0 (chn (f :: q)) 0 c2.length S2).2 ({ f with code := c2 ++ (cmp v 0 (chn (f :: q)) 0 c2.length S2).1 65535 } :: q) := hR
  rw [← hS3, ← hc3] at hR hx3
  have hk3 : 3 * c3.length ≤ 31000 := hx3.clen
  refine wl_nil (x_then (hK7 _ _ ?_))
  clear hK7 K7
  refine c_reg ?_ -- region 8 stmt.go:61
  refine wl (ro_move rfl) ?_
  refine wl (ro_build rfl bld_203_0) ?_
  refine wl_em (is := [(12, 0)]) (eo_bsI1 rfl se_196 zx_203) rfl hR rfl (by simp; omega) ?_
  intro u7 ow7 x7 f7 r7
  obtain ⟨hN, khN⟩ := cp_loc' x7 f7 hN khN
  obtain ⟨h3, kh3⟩ := cp_loc' x7 f7 h3 kh3
  obtain ⟨h4, kh4⟩ := cp_loc' x7 f7 h4 kh4
  have hs7 := hF.size
  replace hF := cp_trans' hX hF f7
  replace hX := hX.trans hs7 x7
  replace hR := r7
  refine wl_nil ?_
  refine bp_end Tryz.results190 rfl ?_
  refine ⟨rfl, _, hX, hF, ?_⟩
  rw [List.append_assoc, List.append_assoc] at hR
  show CM E _ _ (O ++ (numsT a ++ (numsT b ++ numsT v))) (cmp v 0 (chn (f :: q)) 0 (f.code.length + ln (cmp a 0 (chn (f :: q)) 0 f.code.length S) + ln (cmp b 0 (chn (f :: q)) 0 (f.code.length + ln (cmp a 0 (chn (f :: q)) 0 f.code.length S)) (cmp a 0 (chn (f :: q)) 0 f.code.length S).2)) (cmp b 0 (chn (f :: q)) 0 (f.code.length + ln (cmp a 0 (chn (f :: q)) 0 f.code.length S)) (cmp a 0 (chn (f :: q)) 0 f.code.length S).2).2).2 (⟨f.j, f.L, f.code ++ ((cmp a 0 (chn (f :: q)) 0 f.code.length S).1 65535 ++ (cmp b 0 (chn (f :: q)) 0 (f.code.length + ln (cmp a 0 (chn (f :: q)) 0 f.code.length S)) (cmp a 0 (chn (f :: q)) 0 f.code.length S).2).1 65535 ++ (cmp v 0 (chn (f :: q)) 0 (f.code.length + ln (cmp a 0 (chn (f :: q)) 0 f.code.length S) + ln (cmp b 0 (chn (f :: q)) 0 (f.code.length + ln (cmp a 0 (chn (f :: q)) 0 f.code.length S)) (cmp a 0 (chn (f :: q)) 0 f.code.length S).2)) (cmp b 0 (chn (f :: q)) 0 (f.code.length + ln (cmp a 0 (chn (f :: q)) 0 f.code.length S)) (cmp a 0 (chn (f :: q)) 0 f.code.length S).2).2).1 65535 ++ [(12, 0)]), f.lps⟩ :: q)
  rw [← hl1, ← hS1, ← hS2, ← hl2, ← hS3, show f.code ++ ((cmp a 0 (chn (f :: q)) 0 f.code.length S).1 65535 ++ (cmp b 0 (chn (f :: q)) 0 c1.length S1).1 65535 ++ (cmp v 0 (chn (f :: q)) 0 c2.length S2).1 65535 ++ [(12, 0)]) = c3 ++ [(12, 0)] by rw [hc3, hc2, hc1]; simp only [List.append_assoc]]
  exact hR
end
set_option maxHeartbeats 16000000 in
theorem xs_setN {s : Str} {a : Tr} {lp : Bool} (ha : XE a) : XS (St.setN s a) lp := by
  intro E w ow O S f q n hR hi hw hpa hlp hx
  have hw9 := hw
  obtain ⟨hn0, hK, hA0, hKa, hs, hi1⟩ := IsS_setN.1 hi
  have hn : n < E.G.length := nd_lt (by rw [hK]; decide)
  obtain ⟨hwn, -, hw1⟩ : NmW s ∧ dE a ≤ 128 ∧ W a false f.L.length := hw
  have hp1 : PaT E.pa a f.j := hpa
  have hx0 : FX E S f q (numsT a ++ []) (100 * ndT a + 150) := by
    have hx : FX E S f q (numsT a) (100 * (2 + ndT a)) := hx
    rw [List.append_nil]
    exact hx.le (by omega)
  have hF : Fram (tg ow cpT) w w := Fram.refl _ _
  have hX : Xt w ow ow := Xt.refl _ _
  obtain ⟨gn, capn, ln_, env, hN, khN, hcapn, hrow⟩ := hR.nodes hx.g0.1
  obtain ⟨pn, hpn⟩ := hrow n hn
  have hcl : 3 * f.code.length ≤ 31000 := hx.clen
  have hL12 := hx.L
  have hjl := hx.jl
  refine ret_of Tryz.func139 rfl Tryz.ntmps139 rfl ?_
  refine c_seq (fun K1 hK1 => ?_)
  obtain ⟨R_, z_, op⟩ := hR.open (f := f) (by simp)
  have hG := op.B
  have hC := hR.cb
  have khG := hR.ta
  have khC := hR.tc
  rw [env] at hC
  refine c_reg ?_ -- region 0 stmt.go:7
  refine wl (ro_move rfl) ?_
  refine wl (ro_nilCheck rfl) ?_
  refine wl (ro_fieldAddr (k := 0) rfl fo_199_0) ?_
  refine wl (ro_loadB rfl sc_22 hG (op.row 0 (by decide))) ?_
  refine wl (ro_nilCheck rfl) ?_
  refine wl (ro_fieldAddr (k := 2) rfl fo_94_2) ?_
  refine wl (ro_loadB rfl sc_77 (hC) rfl) ?_
  refine wl (ro_move rfl) ?_
  refine wl (ro_indexAddr (et := 148) (k := 8) rfl rfl se_77 (rfl) (hn)) ?_
  refine wl (ro_loadAggB rfl ag_148 (hN) (rfl) (hpn)) ?_
  refine wl_new (ze_148) (fun b4 w1 hbb4 h4 F1 => ?_)
  have hbsb4 := Nat.le_trans hF.size hbb4
  have hnegnb4 : gn < b4 := Nat.lt_of_lt_of_le hN.lt hbb4
  have hneE.gbb4 : E.gb < b4 := Nat.lt_of_lt_of_le hG.lt hbb4
  have hneE.cbb4 : E.cb < b4 := Nat.lt_of_lt_of_le hC.lt hbb4
  have kh4 := hR.df b4 hbb4
  replace hF := hF.thenDrew.thenN F1
  replace hR := hR.thruN ((Fram.refl none' _).thenDrew.thenN F1)
  replace hN := F1.blkN hN
  replace hG := F1.blkN hG
  replace hC := F1.blkN hC
  refine wl_puta rfl rfl ((ndc_one _)) sz_148 (rfl) h4 ((by simp)) (rfl) (fun w2 h4 F2 => ?_)
  replace hF := hF.thenDrew.thenO F2 (by first | exact .inr (by omega) | exact .inl rfl | exact .inl (by assumption) | assumption)
  replace hR := hR.hbput ((Fram.refl (one b4) _).thenDrew.thenO F2 (.inl rfl))
  replace hN := F2.blkO hN (by first | omega | exact ow_ne (by assumption) (by assumption) (by omega))
  replace hG := F2.blkO hG (by first | omega | exact ow_ne (by assumption) (by assumption) (by omega))
  replace hC := F2.blkO hC (by first | omega | exact ow_ne (by assumption) (by assumption) (by omega))
  have h4 : Blk (w2).heap b4 [i64c 4, i64c (nd E.G n).A, i64c (nd E.G n).B, i64c (nd E.G n).C, i64c (nd E.G n).Nx, u64c (nd E.G n).N, Go.Proofs.Qxb6500568aGreatDoor.S (nd E.G n).S, i64c pn] 148 := by rw [← hK]; exact h4
  refine wl_nil (x_then (hK1 _ _ ?_))
  clear hK1 K1
  refine forget [(0, _), (4, _)] ⟨rfl, rfl, trivial⟩ (fun e => ?_)
  refine c_seq (fun K2 hK2 => ?_)
  refine c_reg ?_ -- region 1 stmt.go:8
  refine wl (ro_fieldAddr (k := 0) rfl fo_148_0) ?_
  refine wl (ro_loadB rfl sc_3 (by assumption) rfl) ?_
  refine wl_nil (x_then (hK2 _ _ ?_))
  clear hK2 K2
  refine c_block ?_
  refine forget [(0, _), (4, _), (22, _)] ⟨rfl, rfl, rfl, trivial⟩ (fun e => ?_)
  refine c_seq (fun K3 hK3 => ?_)
  refine c_reg ?_ -- region 2 stmt.go:9
  refine wl (ro_cmp rfl rfl rfl) ?_
  refine wl (ro_assign rfl) ?_
  refine wl_nil (x_then (hK3 _ _ ?_))
  clear hK3 K3
  refine wc_condF rfl ?_
  refine c_seq (fun K4 hK4 => ?_)
  refine c_reg ?_ -- region 5 stmt.go:12
  refine wl (ro_cmp rfl rfl rfl) ?_
  refine wl (ro_assign rfl) ?_
  refine wl_nil (x_then (hK4 _ _ ?_))
  clear hK4 K4
  refine wc_condF rfl ?_
  refine c_seq (fun K5 hK5 => ?_)
  refine c_reg ?_ -- region 12 stmt.go:19
  refine wl (ro_cmp rfl rfl rfl) ?_
  refine wl (ro_assign rfl) ?_
  refine wl_nil (x_then (hK5 _ _ ?_))
  clear hK5 K5
  refine wc_condF rfl ?_
  refine c_seq (fun K6 hK6 => ?_)
  refine c_reg ?_ -- region 16 stmt.go:23
  refine wl (ro_cmp rfl rfl rfl) ?_
  refine wl (ro_assign rfl) ?_
  refine wl_nil (x_then (hK6 _ _ ?_))
  clear hK6 K6
  refine wc_condT rfl ?_
  refine c_reg ?_ -- region 17 stmt.go:24
  refine wl (ro_move rfl) ?_
  refine wl (ro_loadAggB rfl ag_148 (h4) (rfl) (rfl)) ?_
  refine wl_call rfl en_190 (assignN (pn := pn) (n := n) ha (by rw [← hK]; rfl) hR.dr hKa hs hi1 hwn hw1 hp1 hx0) ?_
  rintro _ u3 ⟨rfl, ow3, x3, f3, r3⟩
  obtain ⟨hN, khN⟩ := cp_loc x3 f3 hN khN
  obtain ⟨h4, kh4⟩ := cp_loc x3 f3 h4 kh4
  have hs3 := hF.size
  replace hF := cp_trans hX hF f3
  replace hX := hX.trans hs3 x3
  replace hR := r3
  refine wl_nil (x_blk ?_)
  refine bp_end Tryz.results139 rfl ?_
  refine ⟨rfl, _, hX, hF, ?_⟩
  rw [hpS (co_setN ((co_all E.G (szT a)).1 a _ hi1 (Nat.le_refl _))) hx hi hw9]
  exact hR
set_option maxHeartbeats 16000000 in
theorem xs_setI {a b v : Tr} {lp : Bool} (ha : XE a) (hb : XE b) (hv : XE v) : XS (St.setI a b v) lp := by
  intro E w ow O S f q n hR hi hw hpa hlp hx
  have hw9 := hw
  obtain ⟨hn0, hK, hA0, hKa, hi1, hi2, hi3⟩ := IsS_setI.1 hi
  have hn : n < E.G.length := nd_lt (by rw [hK]; decide)
  obtain ⟨-, -, -, hw1, hw2, hw3⟩ : dE a ≤ 128 ∧ 1 + dE b ≤ 128 ∧ 2 + dE v ≤ 128 ∧ W a false f.L.length ∧ W b false f.L.length ∧ W v false f.L.length := hw
  obtain ⟨hp1, hp2, hp3⟩ : PaT E.pa a f.j ∧ PaT E.pa b f.j ∧ PaT E.pa v f.j := hpa
  have hx0 : FX E S f q (numsT a ++ (numsT b ++ (numsT v ++ []))) (100 * ndT a + (100 * ndT b + (100 * ndT v + 150))) := by
    have hx : FX E S f q (numsT a ++ (numsT b ++ numsT v)) (100 * (2 + ndT a + ndT b + ndT v)) := hx
    rw [List.append_nil]
    exact hx.le (by omega)
  have hF : Fram (tg ow cpT) w w := Fram.refl _ _
  have hX : Xt w ow ow := Xt.refl _ _
  obtain ⟨gn, capn, ln_, env, hN, khN, hcapn, hrow⟩ := hR.nodes hx.g0.1
  obtain ⟨pn, hpn⟩ := hrow n hn
  have hcl : 3 * f.code.length ≤ 31000 := hx.clen
  have hL12 := hx.L
  have hjl := hx.jl
  refine ret_of Tryz.func139 rfl Tryz.ntmps139 rfl ?_
  refine c_seq (fun K1 hK1 => ?_)
  obtain ⟨R_, z_, op⟩ := hR.open (f := f) (by simp)
  have hG := op.B
  have hC := hR.cb
  have khG := hR.ta
  have khC := hR.tc
  rw [env] at hC
  refine c_reg ?_ -- region 0 stmt.go:7
  refine wl (ro_move rfl) ?_
  refine wl (ro_nilCheck rfl) ?_
  refine wl (ro_fieldAddr (k := 0) rfl fo_199_0) ?_
  refine wl (ro_loadB rfl sc_22 hG (op.row 0 (by decide))) ?_
  refine wl (ro_nilCheck rfl) ?_
  refine wl (ro_fieldAddr (k := 2) rfl fo_94_2) ?_
  refine wl (ro_loadB rfl sc_77 (hC) rfl) ?_
  refine wl (ro_move rfl) ?_
  refine wl (ro_indexAddr (et := 148) (k := 8) rfl rfl se_77 (rfl) (hn)) ?_
  refine wl (ro_loadAggB rfl ag_148 (hN) (rfl) (hpn)) ?_
  refine wl_new (ze_148) (fun b4 w1 hbb4 h4 F1 => ?_)
  have hbsb4 := Nat.le_trans hF.size hbb4
  have hnegnb4 : gn < b4 := Nat.lt_of_lt_of_le hN.lt hbb4
  have hneE.gbb4 : E.gb < b4 := Nat.lt_of_lt_of_le hG.lt hbb4
  have hneE.cbb4 : E.cb < b4 := Nat.lt_of_lt_of_le hC.lt hbb4
  have kh4 := hR.df b4 hbb4
  replace hF := hF.thenDrew.thenN F1
  replace hR := hR.thruN ((Fram.refl none' _).thenDrew.thenN F1)
  replace hN := F1.blkN hN
  replace hG := F1.blkN hG
  replace hC := F1.blkN hC
  refine wl_puta rfl rfl ((ndc_one _)) sz_148 (rfl) h4 ((by simp)) (rfl) (fun w2 h4 F2 => ?_)
  replace hF := hF.thenDrew.thenO F2 (by first | exact .inr (by omega) | exact .inl rfl | exact .inl (by assumption) | assumption)
  replace hR := hR.hbput ((Fram.refl (one b4) _).thenDrew.thenO F2 (.inl rfl))
  replace hN := F2.blkO hN (by first | omega | exact ow_ne (by assumption) (by assumption) (by omega))
  replace hG := F2.blkO hG (by first | omega | exact ow_ne (by assumption) (by assumption) (by omega))
  replace hC := F2.blkO hC (by first | omega | exact ow_ne (by assumption) (by assumption) (by omega))
  have h4 : Blk (w2).heap b4 [i64c 4, i64c (nd E.G n).A, i64c (nd E.G n).B, i64c (nd E.G n).C, i64c (nd E.G n).Nx, u64c (nd E.G n).N, Go.Proofs.Qxb6500568aGreatDoor.S (nd E.G n).S, i64c pn] 148 := by rw [← hK]; exact h4
  refine wl_nil (x_then (hK1 _ _ ?_))
  clear hK1 K1
  refine forget [(0, _), (4, _)] ⟨rfl, rfl, trivial⟩ (fun e => ?_)
  refine c_seq (fun K2 hK2 => ?_)
  refine c_reg ?_ -- region 1 stmt.go:8
  refine wl (ro_fieldAddr (k := 0) rfl fo_148_0) ?_
  refine wl (ro_loadB rfl sc_3 (by assumption) rfl) ?_
  refine wl_nil (x_then (hK2 _ _ ?_))
  clear hK2 K2
  refine c_block ?_
  refine forget [(0, _), (4, _), (22, _)] ⟨rfl, rfl, rfl, trivial⟩ (fun e => ?_)
  refine c_seq (fun K3 hK3 => ?_)
  refine c_reg ?_ -- region 2 stmt.go:9
  refine wl (ro_cmp rfl rfl rfl) ?_
  refine wl (ro_assign rfl) ?_
  refine wl_nil (x_then (hK3 _ _ ?_))
  clear hK3 K3
  refine wc_condF rfl ?_
  refine c_seq (fun K4 hK4 => ?_)
  refine c_reg ?_ -- region 5 stmt.go:12
  refine wl (ro_cmp rfl rfl rfl) ?_
  refine wl (ro_assign rfl) ?_
  refine wl_nil (x_then (hK4 _ _ ?_))
  clear hK4 K4
  refine wc_condF rfl ?_
  refine c_seq (fun K5 hK5 => ?_)
  refine c_reg ?_ -- region 12 stmt.go:19
  refine wl (ro_cmp rfl rfl rfl) ?_
  refine wl (ro_assign rfl) ?_
  refine wl_nil (x_then (hK5 _ _ ?_))
  clear hK5 K5
  refine wc_condF rfl ?_
  refine c_seq (fun K6 hK6 => ?_)
  refine c_reg ?_ -- region 16 stmt.go:23
  refine wl (ro_cmp rfl rfl rfl) ?_
  refine wl (ro_assign rfl) ?_
  refine wl_nil (x_then (hK6 _ _ ?_))
  clear hK6 K6
  refine wc_condT rfl ?_
  refine c_reg ?_ -- region 17 stmt.go:24
  refine wl (ro_move rfl) ?_
  refine wl (ro_loadAggB rfl ag_148 (h4) (rfl) (rfl)) ?_
  refine wl_call rfl en_190 (assignI (pn := pn) (n := n) ha hb hv (by rw [← hK]; rfl) hR.dr hKa hi1 hi2 hi3 hw1 hw2 hw3 hp1 hp2 hp3 hx0) ?_
  rintro _ u3 ⟨rfl, ow3, x3, f3, r3⟩
  obtain ⟨hN, khN⟩ := cp_loc x3 f3 hN khN
  obtain ⟨h4, kh4⟩ := cp_loc x3 f3 h4 kh4
  have hs3 := hF.size
  replace hF := cp_trans hX hF f3
  replace hX := hX.trans hs3 x3
  replace hR := r3
  refine wl_nil (x_blk ?_)
  refine bp_end Tryz.results139 rfl ?_
  refine ⟨rfl, _, hX, hF, ?_⟩
  rw [hpS (co_setI ((co_all E.G (szT a)).1 a _ hi1 (Nat.le_refl _)) ((co_all E.G (szT b)).1 b _ hi2 (Nat.le_refl _)) ((co_all E.G (szT v)).1 v _ hi3 (Nat.le_refl _))) hx hi hw9]
  exact hR
end Go.Proofs.Qxb6500568aGreatDoor
