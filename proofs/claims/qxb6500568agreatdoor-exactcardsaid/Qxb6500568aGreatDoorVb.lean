import Derived.Test.Qxb6500568aGreatDoorVa
/- The real flattener: statements. Written by tools/mk_Vb.py. -/
namespace Go.Proofs.Qxb6500568aGreatDoor
open Ieee
set_option linter.unusedVariables false
set_option linter.unusedSimpArgs false

theorem nif_354 : notIf Tryz.prog 354 = true := by kernel_rfl
theorem zi_354 : (Tryz.prog.info? 354).bind (·.zero) = some (.pointer none) := by kernel_rfl
theorem nif_350 : notIf Tryz.prog 350 = true := by kernel_rfl
theorem zi_350 : (Tryz.prog.info? 350).bind (·.zero) = some (.pointer none) := by kernel_rfl
theorem nif_307 : notIf Tryz.prog 307 = true := by kernel_rfl
theorem zi_307 : (Tryz.prog.info? 307).bind (·.zero) = some (.pointer none) := by kernel_rfl
theorem nif_302 : notIf Tryz.prog 302 = true := by kernel_rfl
theorem zi_302 : (Tryz.prog.info? 302).bind (·.zero) = some (.pointer none) := by kernel_rfl
theorem nif_357 : notIf Tryz.prog 357 = true := by kernel_rfl
theorem zi_357 : (Tryz.prog.info? 357).bind (·.zero) = some (.pointer none) := by kernel_rfl
theorem nif_293 : notIf Tryz.prog 293 = true := by kernel_rfl
theorem zi_293 : (Tryz.prog.info? 293).bind (·.zero) = some (.pointer none) := by kernel_rfl
theorem nif_363 : notIf Tryz.prog 363 = true := by kernel_rfl
theorem zi_363 : (Tryz.prog.info? 363).bind (·.zero) = some (.pointer none) := by kernel_rfl
theorem nif_360 : notIf Tryz.prog 360 = true := by kernel_rfl
theorem zi_360 : (Tryz.prog.info? 360).bind (·.zero) = some (.pointer none) := by kernel_rfl
section
variable {n : Nat} {w : World} {ow : Nat → Nat} {sb : Nat} {c0 c1 U V : Value} {G : List (Nd × Nat)}
theorem chainB2 {a a2 : Tr} {x y : Value} (ih : FAll n) (hA : ArV w ow sb c0 c1 U G) (hV : SlM w ow V [x, y]) (h1 : TrM w ow 0 a [x]) (h2 : TrM w ow 0 a2 [y]) (g1 : NmB a) (g2 : NmB a2) (hn : ndT a + ndT a2 ≤ n) (hG : 1 ≤ G.length) (hl : G.length + (ndT a + ndT a2) ≤ 1000000000) :
    Ret Tryz.prog 78 [ptr sb, V] w (ArR w ow sb c0 c1 U G (G.length + ndT a - 1) (nxL (lay a G.length) (rt a2 (G.length + ndT a)) ++ lay a2 (G.length + ndT a)) (ndT a + ndT a2)) := by
  have e1 : ndC [a, a2] = ndT a + ndT a2 := by show ndT a + (ndT a2 + 0) = _; omega
  have := chain78 (ts := [a, a2]) ih hA (.inl rfl) hV ⟨x, _, rfl, h1, y, _, rfl, h2, rfl⟩ (fun z hz => by simp at hz; rcases hz with rfl | rfl; exact g1; exact g2) (by omega) hG (by omega)
  rw [e1] at this
  have e2 : layC [a, a2] G.length = nxL (lay a G.length) (rt a2 (G.length + ndT a)) ++ lay a2 (G.length + ndT a) := by
    show nxL (lay a G.length) (G.length + ndT a + ndT a2 - 1) ++ (nxL (lay a2 (G.length + ndT a)) 0 ++ []) = _
    rw [h2.lx0.rt, h2.lx0.nx0, List.append_nil]
  rw [e2] at this
  exact this
theorem chainB3 {a a2 a3 : Tr} {x y z : Value} (ih : FAll n) (hA : ArV w ow sb c0 c1 U G) (hV : SlM w ow V [x, y, z]) (h1 : TrM w ow 0 a [x]) (h2 : TrM w ow 0 a2 [y]) (h3 : TrM w ow 0 a3 [z]) (g1 : NmB a) (g2 : NmB a2) (g3 : NmB a3) (hn : ndT a + ndT a2 + ndT a3 ≤ n) (hG : 1 ≤ G.length) (hl : G.length + (ndT a + ndT a2 + ndT a3) ≤ 1000000000) :
    Ret Tryz.prog 78 [ptr sb, V] w (ArR w ow sb c0 c1 U G (G.length + ndT a - 1) (nxL (lay a G.length) (rt a2 (G.length + ndT a)) ++ nxL (lay a2 (G.length + ndT a)) (rt a3 (G.length + ndT a + ndT a2)) ++ lay a3 (G.length + ndT a + ndT a2)) (ndT a + ndT a2 + ndT a3)) := by
  have e1 : ndC [a, a2, a3] = ndT a + ndT a2 + ndT a3 := by show ndT a + (ndT a2 + (ndT a3 + 0)) = _; omega
  have := chain78 (ts := [a, a2, a3]) ih hA (.inl rfl) hV ⟨x, _, rfl, h1, y, _, rfl, h2, z, _, rfl, h3, rfl⟩ (fun z hz => by simp at hz; rcases hz with rfl | rfl | rfl; exact g1; exact g2; exact g3) (by omega) hG (by omega)
  rw [e1] at this
  have e2 : layC [a, a2, a3] G.length = nxL (lay a G.length) (rt a2 (G.length + ndT a)) ++ nxL (lay a2 (G.length + ndT a)) (rt a3 (G.length + ndT a + ndT a2)) ++ lay a3 (G.length + ndT a + ndT a2) := by
    show nxL (lay a G.length) (G.length + ndT a + ndT a2 - 1) ++ (nxL (lay a2 (G.length + ndT a)) (G.length + ndT a + ndT a2 + ndT a3 - 1) ++ (nxL (lay a3 (G.length + ndT a + ndT a2)) 0 ++ [])) = _
    rw [h2.lx0.rt, h3.lx0.rt, h3.lx0.nx0, List.append_nil, List.append_assoc]
  rw [e2] at this
  exact this
end
set_option maxHeartbeats 16000000 in
theorem stmt184 {n : Nat} {w : World} {ow : Nat → Nat} {sb : Nat} {c0 c1 U : Value} {G : List (Nd × Nat)} {t : Tr} {v : Value} (ih : FAll n) (hA : ArV w ow sb c0 c1 U G) (hT : TrM w ow 2 t [v]) (hbn : NmB t) (hn : ndT t ≤ n + 1) (hG : 1 ≤ G.length) (hl : G.length + ndT t ≤ 1000000000) : Ret Tryz.prog 184 [ptr sb, v] w (ArR w ow sb c0 c1 U G (G.length + ndT t - 1) (lay t G.length) (ndT t)) := by
  have hF : Fram (arS sb U) w w := Fram.refl _ _
  have hL : Fram none' w w := Fram.refl _ _
  have hnb : nob U U w := fun b q => .inl q
  have hsl := hA.st.lt
  refine ret_of Tryz.func184 rfl Tryz.ntmps184 rfl ?_
  refine c_seq (fun K1 hK1 => ?_)
  rcases hT.invS with ⟨s1, rfl⟩ | ⟨s1, a, rfl⟩ | ⟨s1, s2, a, a2, rfl⟩ | ⟨s1, k, ps1, a, rfl⟩ | ⟨s1, a, rfl⟩ | ⟨a, a2, a3, rfl⟩ | ⟨a, a2, rfl⟩ | ⟨a, a2, a3, rfl⟩ | ⟨a, a2, rfl⟩ | ⟨s1, a, a2, a3, rfl⟩ | ⟨s1, a, a2, a3, a4, rfl⟩ | ⟨s1, s2, a, a2, rfl⟩ | rfl | ⟨a, rfl⟩ | ⟨a, a2, rfl⟩ | rfl
  · skip
    obtain ⟨b, V, ns, e1, hB, hSn, hNm⟩ := TrM_loc.1 hT
    injection e1 with e1 _
    subst e1
    have hposr := posR354 hB.1 hSn hNm
    obtain ⟨b1, p1, r1, rfl, hC, rfl⟩ := hNm
    obtain ⟨g4, vc4, l4, rfl, hD, _, hat4⟩ := hSn.at0 (i := 0) rfl
    replace hC := hC.1
    have hcl := hC.lt
    have hdl := hD.lt
    have hb3 := hB.2
    replace hB := hB.1
    have hbl := hB.lt
    have hnd : ndT (St.loc s1) = 1 := rfl
    refine c_reg ?_ -- region 0 flat.go:44
    refine wl (ro_assign rfl) ?_
    refine wl_nil (x_then (hK1 _ _ ?_))
    clear hK1 K1
    refine forget [(0, _), (1, _)] ⟨rfl, rfl, trivial⟩ (fun e => ?_)
    refine c_seq (fun K2 hK2 => ?_)
    refine c_reg ?_ -- region 1 flat.go:45
    refine wl (ro_move rfl) ?_
    refine wl_pos rfl (hposr) (fun p ↦ ?_)
    refine wl (ro_build rfl bld_148_7) ?_
    refine wl_new (ze_148) (fun b5 w1 hbb5 h5 F1 => ?_)
    have hbsb5 := Nat.le_trans hF.size hbb5
    have hbsb5 := Nat.le_trans hL.size hbb5
    have hnebb5 : b < b5 := Nat.lt_of_lt_of_le hB.lt hbb5
    have hneb1b5 : b1 < b5 := Nat.lt_of_lt_of_le hC.lt hbb5
    have hneg4b5 : g4 < b5 := Nat.lt_of_lt_of_le hD.lt hbb5
    replace hF := hF.thenDrew.thenN F1
    replace hL := hL.thenDrew.thenN F1
    replace hB := F1.blkN hB
    replace hC := F1.blkN hC
    replace hD := F1.blkN hD
    refine wl_puta rfl rfl ((by (try exact vlc_cells _); all_goals simp [Value.oneCell', i64c, icv, u64c, u8c, ptr, S])) sz_148 (rfl) h5 ((by simp)) (rfl) (fun w2 h5 F2 => ?_)
    replace hF := hF.thenDrew.thenO F2 (by first | exact .inr (by omega) | exact .inl rfl | exact .inl (by assumption) | assumption)
    replace hL := hL.thenDrew.thenO F2 (by first | exact .inr (by omega) | exact .inl rfl | exact .inl (by assumption) | assumption)
    replace hB := F2.blkO hB (by omega)
    replace hC := F2.blkO hC (by omega)
    replace hD := F2.blkO hD (by omega)
    refine wl_nil (x_then (hK2 _ _ ?_))
    clear hK2 K2
    refine c_seq (fun K3 hK3 => ?_)
    refine c_seq (fun K4 hK4 => ?_)
    have hAf : ArF b5 _ ow sb c0 c1 U G := ⟨hA.farN hL, fun q => by
      rcases q with q | q
      · omega
      · have := hA.own.lt q; omega⟩
    refine c_reg ?_ -- region 2 flat.go:46
    refine wl (ro_move rfl) ?_
    refine wl_nil (x_then (hK4 _ _ ?_))
    clear hK4 K4
    refine c_block ?_
    refine forget [(0, _), (5, _), (19, _)] ⟨rfl, rfl, rfl, trivial⟩ (fun e => ?_)
    refine c_seq (fun K5 hK5 => ?_)
    refine c_reg ?_ -- region 3 flat.go:46
    refine wl (ro_taY rfl nif_354) ?_
    refine wl (ro_extract rfl rfl) ?_
    refine wl (ro_extract rfl rfl) ?_
    refine wl_nil (x_then (hK5 _ _ ?_))
    clear hK5 K5
    refine wc_condT rfl ?_
    refine c_seq (fun K6 hK6 => ?_)
    refine c_reg ?_ -- region 4 flat.go:46
    refine wl (ro_assign rfl) ?_
    refine wl_nil (x_then (hK6 _ _ ?_))
    clear hK6 K6
    refine forget [(0, _), (5, _), (6, _)] ⟨rfl, rfl, rfl, trivial⟩ (fun e => ?_)
    refine c_seq (fun K7 hK7 => ?_)
    refine c_reg ?_ -- region 5 flat.go:48
    refine wl (ro_move rfl) ?_
    refine wl (ro_nilCheck rfl) ?_
    refine wl (ro_fieldAddr (k := 0) rfl fo_356_0) ?_
    refine wl (ro_loadB rfl sc_188 (by assumption) rfl) ?_
    refine wl (ro_lenL rfl se_188) ?_
    refine wl (ro_cmp rfl rfl rfl) ?_
    refine wl_nil (x_then (hK7 _ _ ?_))
    clear hK7 K7
    refine wc_condT rfl ?_
    refine c_seq (fun K8 hK8 => ?_)
    refine c_reg ?_ -- region 6 flat.go:49
    refine wl (ro_fieldAddr (k := 0) rfl fo_148_0) ?_
    refine wl_put rfl rfl rfl sz_3 h5 (by simp) (rfl) (fun w3 h5 F3 => ?_)
    have hcx_ := trivial
    replace hF := hF.thenDrew.thenO F3 (by first | exact .inr (by omega) | exact .inl rfl | exact .inl (by assumption) | assumption)
    replace hB := F3.blkO hB (by omega)
    replace hC := F3.blkO hC (by omega)
    replace hD := F3.blkO hD (by omega)
    replace hAf := hAf.hbput ((Fram.refl (one b5) _).thenDrew.thenO F3 (.inl rfl))
    refine wl_nil (x_then (hK8 _ _ ?_))
    clear hK8 K8
    refine forget [(0, _), (5, _), (6, _)] ⟨rfl, rfl, rfl, trivial⟩ (fun e => ?_)
    refine c_seq (fun K9 hK9 => ?_)
    refine c_reg ?_ -- region 7 flat.go:50
    refine wl (ro_move rfl) ?_
    refine wl (ro_nilCheck rfl) ?_
    refine wl (ro_fieldAddr (k := 0) rfl fo_356_0) ?_
    refine wl (ro_loadB rfl sc_188 (by assumption) rfl) ?_
    refine wl (ro_indexAddr (et := 242) (k := 1) rfl rfl se_188 (rfl) ((Nat.succ_pos _))) ?_
    refine wl (ro_loadB rfl sc_242 (hD) ((hat4 0 _ rfl))) ?_
    refine wl (ro_taY1 rfl nif_305) ?_
    refine wl (ro_nilCheck rfl) ?_
    refine wl (ro_fieldAddr (k := 1) rfl fo_349_1) ?_
    refine wl (ro_loadB rfl sc_9 (by assumption) rfl) ?_
    refine wl (ro_fieldAddr (k := 6) rfl fo_148_6) ?_
    refine wl_put rfl rfl rfl sz_9 h5 (by simp) (rfl) (fun w4 h5 F4 => ?_)
    have hcx_ := trivial
    replace hF := hF.thenDrew.thenO F4 (by first | exact .inr (by omega) | exact .inl rfl | exact .inl (by assumption) | assumption)
    replace hB := F4.blkO hB (by omega)
    replace hC := F4.blkO hC (by omega)
    replace hD := F4.blkO hD (by omega)
    replace hAf := hAf.hbput ((Fram.refl (one b5) _).thenDrew.thenO F4 (.inl rfl))
    refine wl_nil (x_then (hK9 _ _ ?_))
    clear hK9 K9
    refine c_reg ?_ -- region 8 flat.go:51
    refine wl (ro_move rfl) ?_
    refine wl (ro_move rfl) ?_
    refine wl (ro_nilCheck rfl) ?_
    refine wl (ro_fieldAddr (k := 1) rfl fo_356_1) ?_
    refine wl (ro_loadB rfl sc_290 (by assumption) rfl) ?_
    refine wl_call rfl en_226 (opt226N) ?_
    rintro _ _ ⟨rfl, rfl⟩
    refine wl (ro_fieldAddr (k := 1) rfl fo_148_1) ?_
    refine wl_put rfl rfl rfl sz_3 h5 (by simp) (rfl) (fun w5 h5 F5 => ?_)
    have hcx_ := trivial
    replace hF := hF.thenDrew.thenO F5 (by first | exact .inr (by omega) | exact .inl rfl | exact .inl (by assumption) | assumption)
    replace hB := F5.blkO hB (by omega)
    replace hAf := hAf.hbput ((Fram.refl (one b5) _).thenDrew.thenO F5 (.inl rfl))
    refine wl_nil (x_blk (x_then (hK3 _ _ ?_)))
    clear hK3 K3
    refine forget [(0, _), (5, _)] ⟨rfl, rfl, trivial⟩ (fun e => ?_)
    refine c_seq (fun K10 hK10 => ?_)
    refine c_reg ?_ -- region 57 flat.go:94
    refine wl (ro_move rfl) ?_
    refine wl (ro_loadAggB rfl ag_148 (by assumption) rfl rfl) ?_
    refine wl_call rfl en_227 (add227 (x := (⟨1, 0, 0, 0, 0, 0, s1⟩, p)) hAf.1 (by omega)) ?_
    rintro _ u9 ⟨rfl, U9, G9, hA9, hm9, hl9, hn9, F9⟩
    refine wl (ro_assign rfl) ?_
    refine wl_nil (x_then (hK10 _ _ ?_))
    clear hK10 K10
    refine c_ret ?_
    refine bp_ret Tryz.results184 rfl ?_
    refine ⟨congrArg (fun z : Nat => i64c z) (by omega), U9, G9, hA9, ?_, by omega, nob_trans hnb hF.size hn9, ar_trans hF hnb F9⟩
    show _ = G.map Prod.fst ++ ([⟨1, 0, 0, 0, 0, 0, s1⟩])
    rw [hm9]
    try simp only [List.append_assoc]
  · skip
    obtain ⟨b, V, ns, x, e1, hB, hSn, hNm, hTa⟩ := TrM_locV.1 hT
    injection e1 with e1 _
    subst e1
    have hb1 : NmB a := hbn
    have hposr := posR354 hB.1 hSn hNm
    obtain ⟨b1, p1, r1, rfl, hC, rfl⟩ := hNm
    obtain ⟨g4, vc4, l4, rfl, hD, _, hat4⟩ := hSn.at0 (i := 0) rfl
    replace hC := hC.1
    have hcl := hC.lt
    have hdl := hD.lt
    have hb3 := hB.2
    replace hB := hB.1
    have hbl := hB.lt
    have hnd : ndT (St.locV s1 a) = 1 + ndT a := rfl
    refine c_reg ?_ -- region 0 flat.go:44
    refine wl (ro_assign rfl) ?_
    refine wl_nil (x_then (hK1 _ _ ?_))
    clear hK1 K1
    refine forget [(0, _), (1, _)] ⟨rfl, rfl, trivial⟩ (fun e => ?_)
    refine c_seq (fun K11 hK11 => ?_)
    refine c_reg ?_ -- region 1 flat.go:45
    refine wl (ro_move rfl) ?_
    refine wl_pos rfl (hposr) (fun p ↦ ?_)
    refine wl (ro_build rfl bld_148_7) ?_
    refine wl_new (ze_148) (fun b5 w6 hbb5 h5 F6 => ?_)
    have hbsb5 := Nat.le_trans hF.size hbb5
    have hbsb5 := Nat.le_trans hL.size hbb5
    have hnebb5 : b < b5 := Nat.lt_of_lt_of_le hB.lt hbb5
    have hneb1b5 : b1 < b5 := Nat.lt_of_lt_of_le hC.lt hbb5
    have hneg4b5 : g4 < b5 := Nat.lt_of_lt_of_le hD.lt hbb5
    replace hF := hF.thenDrew.thenN F6
    replace hL := hL.thenDrew.thenN F6
    replace hB := F6.blkN hB
    replace hC := F6.blkN hC
    replace hD := F6.blkN hD
    refine wl_puta rfl rfl ((by (try exact vlc_cells _); all_goals simp [Value.oneCell', i64c, icv, u64c, u8c, ptr, S])) sz_148 (rfl) h5 ((by simp)) (rfl) (fun w7 h5 F7 => ?_)
    replace hF := hF.thenDrew.thenO F7 (by first | exact .inr (by omega) | exact .inl rfl | exact .inl (by assumption) | assumption)
    replace hL := hL.thenDrew.thenO F7 (by first | exact .inr (by omega) | exact .inl rfl | exact .inl (by assumption) | assumption)
    replace hB := F7.blkO hB (by omega)
    replace hC := F7.blkO hC (by omega)
    replace hD := F7.blkO hD (by omega)
    refine wl_nil (x_then (hK11 _ _ ?_))
    clear hK11 K11
    refine c_seq (fun K12 hK12 => ?_)
    refine c_seq (fun K13 hK13 => ?_)
    have hAf : ArF b5 _ ow sb c0 c1 U G := ⟨hA.farN hL, fun q => by
      rcases q with q | q
      · omega
      · have := hA.own.lt q; omega⟩
    have hQ : Cy b5 ow (fun u : World => TrM u ow 0 a [x]) _ := ⟨hTa.far hL (fun _ _ _ h => h) (Xt.refl _ _), hA.n3 b5 hbsb5, fun u u1 S q0 f hn => q0.far f hn (Xt.refl _ _)⟩
    refine c_reg ?_ -- region 2 flat.go:46
    refine wl (ro_move rfl) ?_
    refine wl_nil (x_then (hK13 _ _ ?_))
    clear hK13 K13
    refine c_block ?_
    refine forget [(0, _), (5, _), (19, _)] ⟨rfl, rfl, rfl, trivial⟩ (fun e => ?_)
    refine c_seq (fun K14 hK14 => ?_)
    refine c_reg ?_ -- region 3 flat.go:46
    refine wl (ro_taY rfl nif_354) ?_
    refine wl (ro_extract rfl rfl) ?_
    refine wl (ro_extract rfl rfl) ?_
    refine wl_nil (x_then (hK14 _ _ ?_))
    clear hK14 K14
    refine wc_condT rfl ?_
    refine c_seq (fun K15 hK15 => ?_)
    refine c_reg ?_ -- region 4 flat.go:46
    refine wl (ro_assign rfl) ?_
    refine wl_nil (x_then (hK15 _ _ ?_))
    clear hK15 K15
    refine forget [(0, _), (5, _), (6, _)] ⟨rfl, rfl, rfl, trivial⟩ (fun e => ?_)
    refine c_seq (fun K16 hK16 => ?_)
    refine c_reg ?_ -- region 5 flat.go:48
    refine wl (ro_move rfl) ?_
    refine wl (ro_nilCheck rfl) ?_
    refine wl (ro_fieldAddr (k := 0) rfl fo_356_0) ?_
    refine wl (ro_loadB rfl sc_188 (by assumption) rfl) ?_
    refine wl (ro_lenL rfl se_188) ?_
    refine wl (ro_cmp rfl rfl rfl) ?_
    refine wl_nil (x_then (hK16 _ _ ?_))
    clear hK16 K16
    refine wc_condT rfl ?_
    refine c_seq (fun K17 hK17 => ?_)
    refine c_reg ?_ -- region 6 flat.go:49
    refine wl (ro_fieldAddr (k := 0) rfl fo_148_0) ?_
    refine wl_put rfl rfl rfl sz_3 h5 (by simp) (rfl) (fun w8 h5 F8 => ?_)
    have hcx_ := trivial
    replace hF := hF.thenDrew.thenO F8 (by first | exact .inr (by omega) | exact .inl rfl | exact .inl (by assumption) | assumption)
    replace hB := F8.blkO hB (by omega)
    replace hC := F8.blkO hC (by omega)
    replace hD := F8.blkO hD (by omega)
    replace hAf := hAf.hbput ((Fram.refl (one b5) _).thenDrew.thenO F8 (.inl rfl))
    replace hQ := hQ.hbput ((Fram.refl (one b5) _).thenDrew.thenO F8 (.inl rfl))
    refine wl_nil (x_then (hK17 _ _ ?_))
    clear hK17 K17
    refine forget [(0, _), (5, _), (6, _)] ⟨rfl, rfl, rfl, trivial⟩ (fun e => ?_)
    refine c_seq (fun K18 hK18 => ?_)
    refine c_reg ?_ -- region 7 flat.go:50
    refine wl (ro_move rfl) ?_
    refine wl (ro_nilCheck rfl) ?_
    refine wl (ro_fieldAddr (k := 0) rfl fo_356_0) ?_
    refine wl (ro_loadB rfl sc_188 (by assumption) rfl) ?_
    refine wl (ro_indexAddr (et := 242) (k := 1) rfl rfl se_188 (rfl) ((Nat.succ_pos _))) ?_
    refine wl (ro_loadB rfl sc_242 (hD) ((hat4 0 _ rfl))) ?_
    refine wl (ro_taY1 rfl nif_305) ?_
    refine wl (ro_nilCheck rfl) ?_
    refine wl (ro_fieldAddr (k := 1) rfl fo_349_1) ?_
    refine wl (ro_loadB rfl sc_9 (by assumption) rfl) ?_
    refine wl (ro_fieldAddr (k := 6) rfl fo_148_6) ?_
    refine wl_put rfl rfl rfl sz_9 h5 (by simp) (rfl) (fun w9 h5 F9 => ?_)
    have hcx_ := trivial
    replace hF := hF.thenDrew.thenO F9 (by first | exact .inr (by omega) | exact .inl rfl | exact .inl (by assumption) | assumption)
    replace hB := F9.blkO hB (by omega)
    replace hC := F9.blkO hC (by omega)
    replace hD := F9.blkO hD (by omega)
    replace hAf := hAf.hbput ((Fram.refl (one b5) _).thenDrew.thenO F9 (.inl rfl))
    replace hQ := hQ.hbput ((Fram.refl (one b5) _).thenDrew.thenO F9 (.inl rfl))
    refine wl_nil (x_then (hK18 _ _ ?_))
    clear hK18 K18
    refine c_reg ?_ -- region 8 flat.go:51
    refine wl (ro_move rfl) ?_
    refine wl (ro_move rfl) ?_
    refine wl (ro_nilCheck rfl) ?_
    refine wl (ro_fieldAddr (k := 1) rfl fo_356_1) ?_
    refine wl (ro_loadB rfl sc_290 (by assumption) rfl) ?_
    refine wl_call rfl en_226 (opt226Y ih hAf.1 hQ.1 hb1 (by omega) (by omega) (by omega)) ?_
    rintro _ u1 ⟨rfl, U1, G1, hA1, hm1, hl1, hn1, F9⟩
    have h5l := h5.lt
    replace h5 := h5.fram F9 hAf.2
    replace hB := hB.fram F9 (hAf.1.no hb3)
    replace hQ := hQ.ar hAf F9
    have hz := hF.size
    replace hF := ar_trans hF hnb F9
    replace hnb := nob_trans hnb hz hn1
    replace hAf := hAf.next hA1 hn1 h5l
    refine wl (ro_fieldAddr (k := 1) rfl fo_148_1) ?_
    refine wl_put rfl rfl rfl sz_3 h5 (by simp) (rfl) (fun w10 h5 F10 => ?_)
    have hcx_ := trivial
    replace hF := hF.thenDrew.thenO F10 (by first | exact .inr (by omega) | exact .inl rfl | exact .inl (by assumption) | assumption)
    replace hB := F10.blkO hB (by omega)
    replace hAf := hAf.hbput ((Fram.refl (one b5) _).thenDrew.thenO F10 (.inl rfl))
    replace hQ := hQ.hbput ((Fram.refl (one b5) _).thenDrew.thenO F10 (.inl rfl))
    refine wl_nil (x_blk (x_then (hK12 _ _ ?_)))
    clear hK12 K12
    refine forget [(0, _), (5, _)] ⟨rfl, rfl, trivial⟩ (fun e => ?_)
    refine c_seq (fun K19 hK19 => ?_)
    refine c_reg ?_ -- region 57 flat.go:94
    refine wl (ro_move rfl) ?_
    refine wl (ro_loadAggB rfl ag_148 (by assumption) rfl rfl) ?_
    refine wl_call rfl en_227 (add227 (x := (⟨1, G.length + ndT a - 1, 0, 0, 0, 0, s1⟩, p)) hAf.1 (by omega)) ?_
    rintro _ u9 ⟨rfl, U9, G9, hA9, hm9, hl9, hn9, F9⟩
    refine wl (ro_assign rfl) ?_
    refine wl_nil (x_then (hK19 _ _ ?_))
    clear hK19 K19
    refine c_ret ?_
    refine bp_ret Tryz.results184 rfl ?_
    refine ⟨congrArg (fun z : Nat => i64c z) (by omega), U9, G9, hA9, ?_, by omega, nob_trans hnb hF.size hn9, ar_trans hF hnb F9⟩
    show _ = G.map Prod.fst ++ (lay a G.length ++ [⟨1, rt a G.length, 0, 0, 0, 0, s1⟩])
    rw [hTa.lx0.rt, hm9, hm1]
    try simp only [List.append_assoc]
  · skip
    obtain ⟨b, V, ns, b1, pp, x, W, us, e1, hB, hSn, hNm, hC, hTa, hSl, hTl⟩ := TrM_loc2.1 hT
    injection e1 with e1 _
    subst e1
    have hbc : NmB (Ex.call a a2) := hbn
    have hTc : TrM w ow 0 (Ex.call a a2) [.iface 300 (ptr b1)] := TrM_call.2 ⟨b1, pp, x, W, us, rfl, hC, hTa, hSl, hTl⟩
    have hndc : ndT (Ex.call a a2) = 1 + ndT a + ndT a2 := rfl
    have hposr := posR354 hB.1 hSn hNm
    have hNm0 := hNm
    obtain ⟨b6, p6, r6, rfl, hC6, b7, p7, r7, rfl, hC7, rfl⟩ := hNm0
    obtain ⟨va4, vc4, rfl⟩ := OwT.form hSn
    have hb3 := hB.2
    replace hB := hB.1
    have hbl := hB.lt
    have hnd : ndT (St.loc2 s1 s2 a a2) = 4 + ndT a + ndT a2 := rfl
    refine c_reg ?_ -- region 0 flat.go:44
    refine wl (ro_assign rfl) ?_
    refine wl_nil (x_then (hK1 _ _ ?_))
    clear hK1 K1
    refine forget [(0, _), (1, _)] ⟨rfl, rfl, trivial⟩ (fun e => ?_)
    refine c_seq (fun K20 hK20 => ?_)
    refine c_reg ?_ -- region 1 flat.go:45
    refine wl (ro_move rfl) ?_
    refine wl_pos rfl (hposr) (fun p ↦ ?_)
    refine wl (ro_build rfl bld_148_7) ?_
    refine wl_new (ze_148) (fun b5 w11 hbb5 h5 F11 => ?_)
    have hbsb5 := Nat.le_trans hF.size hbb5
    have hbsb5 := Nat.le_trans hL.size hbb5
    have hnebb5 : b < b5 := Nat.lt_of_lt_of_le hB.lt hbb5
    replace hF := hF.thenDrew.thenN F11
    replace hL := hL.thenDrew.thenN F11
    replace hB := F11.blkN hB
    refine wl_puta rfl rfl ((by (try exact vlc_cells _); all_goals simp [Value.oneCell', i64c, icv, u64c, u8c, ptr, S])) sz_148 (rfl) h5 ((by simp)) (rfl) (fun w12 h5 F12 => ?_)
    replace hF := hF.thenDrew.thenO F12 (by first | exact .inr (by omega) | exact .inl rfl | exact .inl (by assumption) | assumption)
    replace hL := hL.thenDrew.thenO F12 (by first | exact .inr (by omega) | exact .inl rfl | exact .inl (by assumption) | assumption)
    replace hB := F12.blkO hB (by omega)
    refine wl_nil (x_then (hK20 _ _ ?_))
    clear hK20 K20
    refine c_seq (fun K21 hK21 => ?_)
    refine c_seq (fun K22 hK22 => ?_)
    have hAf : ArF b5 _ ow sb c0 c1 U G := ⟨hA.farN hL, fun q => by
      rcases q with q | q
      · omega
      · have := hA.own.lt q; omega⟩
    have hQ : Cy b5 ow (fun u : World => SlM u ow (.slice va4 2 vc4) [.iface 305 (ptr b6), .iface 305 (ptr b7)] ∧ nmM u ow [s1, s2] [.iface 305 (ptr b6), .iface 305 (ptr b7)] ∧ TrM u ow 0 (Ex.call a a2) [.iface 300 (ptr b1)]) _ := ⟨⟨OwT.far hSn hL (fun _ _ _ h => h) (Xt.refl _ _), nmM.farG hL (fun _ _ _ h => h) hNm, hTc.far hL (fun _ _ _ h => h) (Xt.refl _ _)⟩, hA.n3 b5 hbsb5, fun u u1 S ⟨q0, q1, q2⟩ f hn => ⟨OwT.far q0 f hn (Xt.refl _ _), nmM.farG f hn q1, q2.far f hn (Xt.refl _ _)⟩⟩
    refine c_reg ?_ -- region 2 flat.go:46
    refine wl (ro_move rfl) ?_
    refine wl_nil (x_then (hK22 _ _ ?_))
    clear hK22 K22
    refine c_block ?_
    refine forget [(0, _), (5, _), (19, _)] ⟨rfl, rfl, rfl, trivial⟩ (fun e => ?_)
    refine c_seq (fun K23 hK23 => ?_)
    refine c_reg ?_ -- region 3 flat.go:46
    refine wl (ro_taY rfl nif_354) ?_
    refine wl (ro_extract rfl rfl) ?_
    refine wl (ro_extract rfl rfl) ?_
    refine wl_nil (x_then (hK23 _ _ ?_))
    clear hK23 K23
    refine wc_condT rfl ?_
    refine c_seq (fun K24 hK24 => ?_)
    refine c_reg ?_ -- region 4 flat.go:46
    refine wl (ro_assign rfl) ?_
    refine wl_nil (x_then (hK24 _ _ ?_))
    clear hK24 K24
    refine forget [(0, _), (5, _), (6, _)] ⟨rfl, rfl, rfl, trivial⟩ (fun e => ?_)
    refine c_seq (fun K25 hK25 => ?_)
    refine c_reg ?_ -- region 5 flat.go:48
    refine wl (ro_move rfl) ?_
    refine wl (ro_nilCheck rfl) ?_
    refine wl (ro_fieldAddr (k := 0) rfl fo_356_0) ?_
    refine wl (ro_loadB rfl sc_188 (by assumption) rfl) ?_
    refine wl (ro_lenL rfl se_188) ?_
    refine wl (ro_cmp rfl rfl rfl) ?_
    refine wl_nil (x_then (hK25 _ _ ?_))
    clear hK25 K25
    refine wc_condF rfl ?_
    refine c_seq (fun K26 hK26 => ?_)
    refine c_reg ?_ -- region 9 flat.go:53
    refine wl (ro_fieldAddr (k := 0) rfl fo_148_0) ?_
    refine wl_put rfl rfl rfl sz_3 h5 (by simp) (rfl) (fun w13 h5 F13 => ?_)
    have hcx_ := trivial
    replace hF := hF.thenDrew.thenO F13 (by first | exact .inr (by omega) | exact .inl rfl | exact .inl (by assumption) | assumption)
    replace hB := F13.blkO hB (by omega)
    replace hAf := hAf.hbput ((Fram.refl (one b5) _).thenDrew.thenO F13 (.inl rfl))
    replace hQ := hQ.hbput ((Fram.refl (one b5) _).thenDrew.thenO F13 (.inl rfl))
    refine wl_nil (x_then (hK26 _ _ ?_))
    clear hK26 K26
    refine forget [(0, _), (5, _), (6, _)] ⟨rfl, rfl, rfl, trivial⟩ (fun e => ?_)
    refine c_seq (fun K27 hK27 => ?_)
    refine c_reg ?_ -- region 10 flat.go:54
    refine wl (ro_move rfl) ?_
    refine wl (ro_move rfl) ?_
    refine wl (ro_nilCheck rfl) ?_
    refine wl (ro_fieldAddr (k := 0) rfl fo_356_0) ?_
    refine wl (ro_loadB rfl sc_188 (by assumption) rfl) ?_
    refine wl_call rfl en_78 (chainN ih hAf.1 hQ.1.1 hQ.1.2.1 (by show 2 ≤ n; omega) (by omega) (by show G.length + 2 ≤ 1000000000; omega)) ?_
    rintro _ u1 ⟨rfl, U1, G1, hA1, hm1, hl1, hn1, F9⟩
    have h5l := h5.lt
    replace h5 := h5.fram F9 hAf.2
    replace hB := hB.fram F9 (hAf.1.no hb3)
    replace hQ := hQ.ar hAf F9
    have hz := hF.size
    replace hF := ar_trans hF hnb F9
    replace hnb := nob_trans hnb hz hn1
    replace hAf := hAf.next hA1 hn1 h5l
    replace hl1 : G1.length = G.length + 2 := hl1
    refine wl (ro_fieldAddr (k := 1) rfl fo_148_1) ?_
    refine wl_put rfl rfl rfl sz_3 h5 (by simp) (rfl) (fun w14 h5 F14 => ?_)
    have hcx_ := trivial
    replace hF := hF.thenDrew.thenO F14 (by first | exact .inr (by omega) | exact .inl rfl | exact .inl (by assumption) | assumption)
    replace hB := F14.blkO hB (by omega)
    replace hAf := hAf.hbput ((Fram.refl (one b5) _).thenDrew.thenO F14 (.inl rfl))
    replace hQ := hQ.hbput ((Fram.refl (one b5) _).thenDrew.thenO F14 (.inl rfl))
    refine wl_nil (x_then (hK27 _ _ ?_))
    clear hK27 K27
    refine c_reg ?_ -- region 11 flat.go:55
    refine wl (ro_move rfl) ?_
    refine wl (ro_move rfl) ?_
    refine wl (ro_nilCheck rfl) ?_
    refine wl (ro_fieldAddr (k := 1) rfl fo_356_1) ?_
    refine wl (ro_loadB rfl sc_290 (by assumption) rfl) ?_
    refine wl_call rfl en_185 (ih.e hAf.1 hQ.1.2.2 hbc (by omega) (by omega) (by omega)) ?_
    rintro _ u2 ⟨rfl, U2, G2, hA2, hm2, hl2, hn2, F9⟩
    have h5l := h5.lt
    replace h5 := h5.fram F9 hAf.2
    replace hB := hB.fram F9 (hAf.1.no hb3)
    replace hQ := hQ.ar hAf F9
    have hz := hF.size
    replace hF := ar_trans hF hnb F9
    replace hnb := nob_trans hnb hz hn2
    replace hAf := hAf.next hA2 hn2 h5l
    refine wl (ro_fieldAddr (k := 2) rfl fo_148_2) ?_
    refine wl_put rfl rfl rfl sz_3 h5 (by simp) (rfl) (fun w15 h5 F15 => ?_)
    have hcx_ := trivial
    replace hF := hF.thenDrew.thenO F15 (by first | exact .inr (by omega) | exact .inl rfl | exact .inl (by assumption) | assumption)
    replace hB := F15.blkO hB (by omega)
    replace hAf := hAf.hbput ((Fram.refl (one b5) _).thenDrew.thenO F15 (.inl rfl))
    replace hQ := hQ.hbput ((Fram.refl (one b5) _).thenDrew.thenO F15 (.inl rfl))
    refine wl_nil (x_blk (x_then (hK21 _ _ ?_)))
    clear hK21 K21
    refine forget [(0, _), (5, _)] ⟨rfl, rfl, trivial⟩ (fun e => ?_)
    refine c_seq (fun K28 hK28 => ?_)
    refine c_reg ?_ -- region 57 flat.go:94
    refine wl (ro_move rfl) ?_
    refine wl (ro_loadAggB rfl ag_148 (by assumption) rfl rfl) ?_
    refine wl_call rfl en_227 (add227 (x := (⟨2, G.length, G1.length + ndT (Ex.call a a2) - 1, 0, 0, 0, []⟩, p)) hAf.1 (by omega)) ?_
    rintro _ u9 ⟨rfl, U9, G9, hA9, hm9, hl9, hn9, F9⟩
    refine wl (ro_assign rfl) ?_
    refine wl_nil (x_then (hK28 _ _ ?_))
    clear hK28 K28
    refine c_ret ?_
    refine bp_ret Tryz.results184 rfl ?_
    refine ⟨congrArg (fun z : Nat => i64c z) (by omega), U9, G9, hA9, ?_, by omega, nob_trans hnb hF.size hn9, ar_trans hF hnb F9⟩
    show _ = G.map Prod.fst ++ (layN [s1, s2] G.length ++ lay (Ex.call a a2) (G.length + 2) ++ [⟨2, G.length, G.length + 2 + ndT a + ndT a2, 0, 0, 0, []⟩])
    rw [hm9, hm2, hm1]
    rw [show G1.length = G.length + 2 from hl1, hndc, show G.length + 2 + (1 + ndT a + ndT a2) - 1 = G.length + 2 + ndT a + ndT a2 by omega]
    try simp only [List.append_assoc]
  · skip
    obtain ⟨b, b1, p1, b2, pp, V, W, ns, us, e1, hB, hC, hC2, hSn, hNm, hSl, hTl⟩ := TrM_locFn.1 hT
    injection e1 with e1 _
    subst e1
    have hbc : NmB (Ex.func k ps1 a) := hbn
    have hTc : TrM w ow 0 (Ex.func k ps1 a) [.iface 346 (ptr b2)] := TrM_func.2 ⟨b2, pp, V, W, ns, us, rfl, hC2, hSn, hNm, hSl, hTl⟩
    have hndc : ndT (Ex.func k ps1 a) = (1 + ps1.length) + ndT a := rfl
    replace hC := hC.1
    have hcl := hC.lt
    have hb3 := hB.2
    replace hB := hB.1
    have hbl := hB.lt
    have hnd : ndT (St.locFn s1 k ps1 a) = (2 + ps1.length) + ndT a := rfl
    refine c_reg ?_ -- region 0 flat.go:44
    refine wl (ro_assign rfl) ?_
    refine wl_nil (x_then (hK1 _ _ ?_))
    clear hK1 K1
    refine forget [(0, _), (1, _)] ⟨rfl, rfl, trivial⟩ (fun e => ?_)
    refine c_seq (fun K29 hK29 => ?_)
    refine c_reg ?_ -- region 1 flat.go:45
    refine wl (ro_move rfl) ?_
    refine wl_pos rfl (posR350 hB hC) (fun p ↦ ?_)
    refine wl (ro_build rfl bld_148_7) ?_
    refine wl_new (ze_148) (fun b5 w16 hbb5 h5 F16 => ?_)
    have hbsb5 := Nat.le_trans hF.size hbb5
    have hbsb5 := Nat.le_trans hL.size hbb5
    have hnebb5 : b < b5 := Nat.lt_of_lt_of_le hB.lt hbb5
    have hneb1b5 : b1 < b5 := Nat.lt_of_lt_of_le hC.lt hbb5
    replace hF := hF.thenDrew.thenN F16
    replace hL := hL.thenDrew.thenN F16
    replace hB := F16.blkN hB
    replace hC := F16.blkN hC
    refine wl_puta rfl rfl ((by (try exact vlc_cells _); all_goals simp [Value.oneCell', i64c, icv, u64c, u8c, ptr, S])) sz_148 (rfl) h5 ((by simp)) (rfl) (fun w17 h5 F17 => ?_)
    replace hF := hF.thenDrew.thenO F17 (by first | exact .inr (by omega) | exact .inl rfl | exact .inl (by assumption) | assumption)
    replace hL := hL.thenDrew.thenO F17 (by first | exact .inr (by omega) | exact .inl rfl | exact .inl (by assumption) | assumption)
    replace hB := F17.blkO hB (by omega)
    replace hC := F17.blkO hC (by omega)
    refine wl_nil (x_then (hK29 _ _ ?_))
    clear hK29 K29
    refine c_seq (fun K30 hK30 => ?_)
    refine c_seq (fun K31 hK31 => ?_)
    have hAf : ArF b5 _ ow sb c0 c1 U G := ⟨hA.farN hL, fun q => by
      rcases q with q | q
      · omega
      · have := hA.own.lt q; omega⟩
    have hQ : Cy b5 ow (fun u : World => TrM u ow 0 (Ex.func k ps1 a) [.iface 346 (ptr b2)]) _ := ⟨hTc.far hL (fun _ _ _ h => h) (Xt.refl _ _), hA.n3 b5 hbsb5, fun u u1 S q0 f hn => q0.far f hn (Xt.refl _ _)⟩
    refine c_reg ?_ -- region 2 flat.go:46
    refine wl (ro_move rfl) ?_
    refine wl_nil (x_then (hK31 _ _ ?_))
    clear hK31 K31
    refine c_block ?_
    refine forget [(0, _), (5, _), (19, _)] ⟨rfl, rfl, rfl, trivial⟩ (fun e => ?_)
    refine c_seq (fun K32 hK32 => ?_)
    refine c_reg ?_ -- region 3 flat.go:46
    refine wl (ro_taN rfl nif_354 rfl zi_354) ?_
    refine wl (ro_extract rfl rfl) ?_
    refine wl (ro_extract rfl rfl) ?_
    refine wl_nil (x_then (hK32 _ _ ?_))
    clear hK32 K32
    refine wc_condF rfl ?_
    refine c_seq (fun K33 hK33 => ?_)
    refine c_reg ?_ -- region 12 flat.go:46
    refine wl (ro_taY rfl nif_350) ?_
    refine wl (ro_extract rfl rfl) ?_
    refine wl (ro_extract rfl rfl) ?_
    refine wl_nil (x_then (hK33 _ _ ?_))
    clear hK33 K33
    refine wc_condT rfl ?_
    refine c_seq (fun K34 hK34 => ?_)
    refine c_reg ?_ -- region 13 flat.go:46
    refine wl (ro_assign rfl) ?_
    refine wl_nil (x_then (hK34 _ _ ?_))
    clear hK34 K34
    refine forget [(0, _), (5, _), (7, _)] ⟨rfl, rfl, rfl, trivial⟩ (fun e => ?_)
    refine c_seq (fun K35 hK35 => ?_)
    refine c_reg ?_ -- region 14 flat.go:58
    refine wl (ro_fieldAddr (k := 0) rfl fo_148_0) ?_
    refine wl_put rfl rfl rfl sz_3 h5 (by simp) (rfl) (fun w18 h5 F18 => ?_)
    have hcx_ := trivial
    replace hF := hF.thenDrew.thenO F18 (by first | exact .inr (by omega) | exact .inl rfl | exact .inl (by assumption) | assumption)
    replace hB := F18.blkO hB (by omega)
    replace hC := F18.blkO hC (by omega)
    replace hAf := hAf.hbput ((Fram.refl (one b5) _).thenDrew.thenO F18 (.inl rfl))
    replace hQ := hQ.hbput ((Fram.refl (one b5) _).thenDrew.thenO F18 (.inl rfl))
    refine wl_nil (x_then (hK35 _ _ ?_))
    clear hK35 K35
    refine forget [(0, _), (5, _), (7, _)] ⟨rfl, rfl, rfl, trivial⟩ (fun e => ?_)
    refine c_seq (fun K36 hK36 => ?_)
    refine c_reg ?_ -- region 15 flat.go:59
    refine wl (ro_move rfl) ?_
    refine wl (ro_nilCheck rfl) ?_
    refine wl (ro_fieldAddr (k := 0) rfl fo_352_0) ?_
    refine wl (ro_loadB rfl sc_305 (by assumption) rfl) ?_
    refine wl (ro_nilCheck rfl) ?_
    refine wl (ro_fieldAddr (k := 1) rfl fo_349_1) ?_
    refine wl (ro_loadB rfl sc_9 (by assumption) rfl) ?_
    refine wl (ro_fieldAddr (k := 6) rfl fo_148_6) ?_
    refine wl_put rfl rfl rfl sz_9 h5 (by simp) (rfl) (fun w19 h5 F19 => ?_)
    have hcx_ := trivial
    replace hF := hF.thenDrew.thenO F19 (by first | exact .inr (by omega) | exact .inl rfl | exact .inl (by assumption) | assumption)
    replace hB := F19.blkO hB (by omega)
    replace hC := F19.blkO hC (by omega)
    replace hAf := hAf.hbput ((Fram.refl (one b5) _).thenDrew.thenO F19 (.inl rfl))
    replace hQ := hQ.hbput ((Fram.refl (one b5) _).thenDrew.thenO F19 (.inl rfl))
    refine wl_nil (x_then (hK36 _ _ ?_))
    clear hK36 K36
    refine c_reg ?_ -- region 16 flat.go:60
    refine wl (ro_move rfl) ?_
    refine wl (ro_move rfl) ?_
    refine wl (ro_nilCheck rfl) ?_
    refine wl (ro_fieldAddr (k := 1) rfl fo_352_1) ?_
    refine wl (ro_loadB rfl sc_346 (by assumption) rfl) ?_
    refine wl (ro_mkIface rfl (by kernel_rfl)) ?_
    refine wl_call rfl en_185 (ih.e hAf.1 hQ.1 hbc (by omega) (by omega) (by omega)) ?_
    rintro _ u1 ⟨rfl, U1, G1, hA1, hm1, hl1, hn1, F9⟩
    have h5l := h5.lt
    replace h5 := h5.fram F9 hAf.2
    replace hB := hB.fram F9 (hAf.1.no hb3)
    replace hQ := hQ.ar hAf F9
    have hz := hF.size
    replace hF := ar_trans hF hnb F9
    replace hnb := nob_trans hnb hz hn1
    replace hAf := hAf.next hA1 hn1 h5l
    refine wl (ro_fieldAddr (k := 1) rfl fo_148_1) ?_
    refine wl_put rfl rfl rfl sz_3 h5 (by simp) (rfl) (fun w20 h5 F20 => ?_)
    have hcx_ := trivial
    replace hF := hF.thenDrew.thenO F20 (by first | exact .inr (by omega) | exact .inl rfl | exact .inl (by assumption) | assumption)
    replace hB := F20.blkO hB (by omega)
    replace hAf := hAf.hbput ((Fram.refl (one b5) _).thenDrew.thenO F20 (.inl rfl))
    replace hQ := hQ.hbput ((Fram.refl (one b5) _).thenDrew.thenO F20 (.inl rfl))
    refine wl_nil (x_blk (x_then (hK30 _ _ ?_)))
    clear hK30 K30
    refine forget [(0, _), (5, _)] ⟨rfl, rfl, trivial⟩ (fun e => ?_)
    refine c_seq (fun K37 hK37 => ?_)
    refine c_reg ?_ -- region 57 flat.go:94
    refine wl (ro_move rfl) ?_
    refine wl (ro_loadAggB rfl ag_148 (by assumption) rfl rfl) ?_
    refine wl_call rfl en_227 (add227 (x := (⟨3, G.length + ndT (Ex.func k ps1 a) - 1, 0, 0, 0, 0, s1⟩, p)) hAf.1 (by omega)) ?_
    rintro _ u9 ⟨rfl, U9, G9, hA9, hm9, hl9, hn9, F9⟩
    refine wl (ro_assign rfl) ?_
    refine wl_nil (x_then (hK37 _ _ ?_))
    clear hK37 K37
    refine c_ret ?_
    refine bp_ret Tryz.results184 rfl ?_
    refine ⟨congrArg (fun z : Nat => i64c z) (by omega), U9, G9, hA9, ?_, by omega, nob_trans hnb hF.size hn9, ar_trans hF hnb F9⟩
    show _ = G.map Prod.fst ++ (lay (Ex.func k ps1 a) G.length ++ [⟨3, G.length + ps1.length + ndT a, 0, 0, 0, 0, s1⟩])
    rw [hm9, hm1]
    rw [hndc, show G.length + (1 + ps1.length + ndT a) - 1 = G.length + ps1.length + ndT a by omega]
    try simp only [List.append_assoc]
  · skip
    obtain ⟨b, pp, b1, p1, x, e1, hB, hC, hTa⟩ := TrM_setN.1 hT
    injection e1 with e1 _
    subst e1
    have hb1 : NmB a := hbn
    have hb0 : NmB (Ex.name s1) := fun k hk => by cases hk
    have hTc : TrM w ow 0 (Ex.name s1) [.iface 305 (ptr b1)] := TrM_name.2 ⟨b1, p1, rfl, hC⟩
    have hndc : ndT (Ex.name s1) = 1 := rfl
    have hb3 := hB.2
    replace hB := hB.1
    have hbl := hB.lt
    have hnd : ndT (St.setN s1 a) = 2 + ndT a := rfl
    refine c_reg ?_ -- region 0 flat.go:44
    refine wl (ro_assign rfl) ?_
    refine wl_nil (x_then (hK1 _ _ ?_))
    clear hK1 K1
    refine forget [(0, _), (1, _)] ⟨rfl, rfl, trivial⟩ (fun e => ?_)
    refine c_seq (fun K38 hK38 => ?_)
    refine c_reg ?_ -- region 1 flat.go:45
    refine wl (ro_move rfl) ?_
    refine wl_pos rfl (posR307 hB) (fun p ↦ ?_)
    refine wl (ro_build rfl bld_148_7) ?_
    refine wl_new (ze_148) (fun b5 w21 hbb5 h5 F21 => ?_)
    have hbsb5 := Nat.le_trans hF.size hbb5
    have hbsb5 := Nat.le_trans hL.size hbb5
    have hnebb5 : b < b5 := Nat.lt_of_lt_of_le hB.lt hbb5
    replace hF := hF.thenDrew.thenN F21
    replace hL := hL.thenDrew.thenN F21
    replace hB := F21.blkN hB
    refine wl_puta rfl rfl ((by (try exact vlc_cells _); all_goals simp [Value.oneCell', i64c, icv, u64c, u8c, ptr, S])) sz_148 (rfl) h5 ((by simp)) (rfl) (fun w22 h5 F22 => ?_)
    replace hF := hF.thenDrew.thenO F22 (by first | exact .inr (by omega) | exact .inl rfl | exact .inl (by assumption) | assumption)
    replace hL := hL.thenDrew.thenO F22 (by first | exact .inr (by omega) | exact .inl rfl | exact .inl (by assumption) | assumption)
    replace hB := F22.blkO hB (by omega)
    refine wl_nil (x_then (hK38 _ _ ?_))
    clear hK38 K38
    refine c_seq (fun K39 hK39 => ?_)
    refine c_seq (fun K40 hK40 => ?_)
    have hAf : ArF b5 _ ow sb c0 c1 U G := ⟨hA.farN hL, fun q => by
      rcases q with q | q
      · omega
      · have := hA.own.lt q; omega⟩
    have hQ : Cy b5 ow (fun u : World => TrM u ow 0 (Ex.name s1) [.iface 305 (ptr b1)] ∧ TrM u ow 0 a [x]) _ := ⟨⟨hTc.far hL (fun _ _ _ h => h) (Xt.refl _ _), hTa.far hL (fun _ _ _ h => h) (Xt.refl _ _)⟩, hA.n3 b5 hbsb5, fun u u1 S ⟨q0, q1⟩ f hn => ⟨q0.far f hn (Xt.refl _ _), q1.far f hn (Xt.refl _ _)⟩⟩
    refine c_reg ?_ -- region 2 flat.go:46
    refine wl (ro_move rfl) ?_
    refine wl_nil (x_then (hK40 _ _ ?_))
    clear hK40 K40
    refine c_block ?_
    refine forget [(0, _), (5, _), (19, _)] ⟨rfl, rfl, rfl, trivial⟩ (fun e => ?_)
    refine c_seq (fun K41 hK41 => ?_)
    refine c_reg ?_ -- region 3 flat.go:46
    refine wl (ro_taN rfl nif_354 rfl zi_354) ?_
    refine wl (ro_extract rfl rfl) ?_
    refine wl (ro_extract rfl rfl) ?_
    refine wl_nil (x_then (hK41 _ _ ?_))
    clear hK41 K41
    refine wc_condF rfl ?_
    refine c_seq (fun K42 hK42 => ?_)
    refine c_reg ?_ -- region 12 flat.go:46
    refine wl (ro_taN rfl nif_350 rfl zi_350) ?_
    refine wl (ro_extract rfl rfl) ?_
    refine wl (ro_extract rfl rfl) ?_
    refine wl_nil (x_then (hK42 _ _ ?_))
    clear hK42 K42
    refine wc_condF rfl ?_
    refine c_seq (fun K43 hK43 => ?_)
    refine c_reg ?_ -- region 17 flat.go:46
    refine wl (ro_taY rfl nif_307) ?_
    refine wl (ro_extract rfl rfl) ?_
    refine wl (ro_extract rfl rfl) ?_
    refine wl_nil (x_then (hK43 _ _ ?_))
    clear hK43 K43
    refine wc_condT rfl ?_
    refine c_seq (fun K44 hK44 => ?_)
    refine c_reg ?_ -- region 18 flat.go:46
    refine wl (ro_assign rfl) ?_
    refine wl_nil (x_then (hK44 _ _ ?_))
    clear hK44 K44
    refine forget [(0, _), (5, _), (8, _)] ⟨rfl, rfl, rfl, trivial⟩ (fun e => ?_)
    refine c_seq (fun K45 hK45 => ?_)
    refine c_reg ?_ -- region 19 flat.go:62
    refine wl (ro_fieldAddr (k := 0) rfl fo_148_0) ?_
    refine wl_put rfl rfl rfl sz_3 h5 (by simp) (rfl) (fun w23 h5 F23 => ?_)
    have hcx_ := trivial
    replace hF := hF.thenDrew.thenO F23 (by first | exact .inr (by omega) | exact .inl rfl | exact .inl (by assumption) | assumption)
    replace hB := F23.blkO hB (by omega)
    replace hAf := hAf.hbput ((Fram.refl (one b5) _).thenDrew.thenO F23 (.inl rfl))
    replace hQ := hQ.hbput ((Fram.refl (one b5) _).thenDrew.thenO F23 (.inl rfl))
    refine wl_nil (x_then (hK45 _ _ ?_))
    clear hK45 K45
    refine forget [(0, _), (5, _), (8, _)] ⟨rfl, rfl, rfl, trivial⟩ (fun e => ?_)
    refine c_seq (fun K46 hK46 => ?_)
    refine c_reg ?_ -- region 20 flat.go:63
    refine wl (ro_move rfl) ?_
    refine wl (ro_move rfl) ?_
    refine wl (ro_nilCheck rfl) ?_
    refine wl (ro_fieldAddr (k := 1) rfl fo_309_1) ?_
    refine wl (ro_loadB rfl sc_290 (by assumption) rfl) ?_
    refine wl_call rfl en_185 (ih.e hAf.1 hQ.1.1 hb0 (by omega) (by omega) (by omega)) ?_
    rintro _ u1 ⟨rfl, U1, G1, hA1, hm1, hl1, hn1, F9⟩
    have h5l := h5.lt
    replace h5 := h5.fram F9 hAf.2
    replace hB := hB.fram F9 (hAf.1.no hb3)
    replace hQ := hQ.ar hAf F9
    have hz := hF.size
    replace hF := ar_trans hF hnb F9
    replace hnb := nob_trans hnb hz hn1
    replace hAf := hAf.next hA1 hn1 h5l
    refine wl (ro_fieldAddr (k := 1) rfl fo_148_1) ?_
    refine wl_put rfl rfl rfl sz_3 h5 (by simp) (rfl) (fun w24 h5 F24 => ?_)
    have hcx_ := trivial
    replace hF := hF.thenDrew.thenO F24 (by first | exact .inr (by omega) | exact .inl rfl | exact .inl (by assumption) | assumption)
    replace hB := F24.blkO hB (by omega)
    replace hAf := hAf.hbput ((Fram.refl (one b5) _).thenDrew.thenO F24 (.inl rfl))
    replace hQ := hQ.hbput ((Fram.refl (one b5) _).thenDrew.thenO F24 (.inl rfl))
    refine wl_nil (x_then (hK46 _ _ ?_))
    clear hK46 K46
    refine c_reg ?_ -- region 21 flat.go:64
    refine wl (ro_move rfl) ?_
    refine wl (ro_move rfl) ?_
    refine wl (ro_nilCheck rfl) ?_
    refine wl (ro_fieldAddr (k := 2) rfl fo_309_2) ?_
    refine wl (ro_loadB rfl sc_290 (by assumption) rfl) ?_
    refine wl_call rfl en_185 (ih.e hAf.1 hQ.1.2 hb1 (by omega) (by omega) (by omega)) ?_
    rintro _ u2 ⟨rfl, U2, G2, hA2, hm2, hl2, hn2, F9⟩
    have h5l := h5.lt
    replace h5 := h5.fram F9 hAf.2
    replace hB := hB.fram F9 (hAf.1.no hb3)
    replace hQ := hQ.ar hAf F9
    have hz := hF.size
    replace hF := ar_trans hF hnb F9
    replace hnb := nob_trans hnb hz hn2
    replace hAf := hAf.next hA2 hn2 h5l
    refine wl (ro_fieldAddr (k := 2) rfl fo_148_2) ?_
    refine wl_put rfl rfl rfl sz_3 h5 (by simp) (rfl) (fun w25 h5 F25 => ?_)
    have hcx_ := trivial
    replace hF := hF.thenDrew.thenO F25 (by first | exact .inr (by omega) | exact .inl rfl | exact .inl (by assumption) | assumption)
    replace hB := F25.blkO hB (by omega)
    replace hAf := hAf.hbput ((Fram.refl (one b5) _).thenDrew.thenO F25 (.inl rfl))
    replace hQ := hQ.hbput ((Fram.refl (one b5) _).thenDrew.thenO F25 (.inl rfl))
    refine wl_nil (x_blk (x_then (hK39 _ _ ?_)))
    clear hK39 K39
    refine forget [(0, _), (5, _)] ⟨rfl, rfl, trivial⟩ (fun e => ?_)
    refine c_seq (fun K47 hK47 => ?_)
    refine c_reg ?_ -- region 57 flat.go:94
    refine wl (ro_move rfl) ?_
    refine wl (ro_loadAggB rfl ag_148 (by assumption) rfl rfl) ?_
    refine wl_call rfl en_227 (add227 (x := (⟨4, G.length + ndT (Ex.name s1) - 1, G1.length + ndT a - 1, 0, 0, 0, []⟩, p)) hAf.1 (by omega)) ?_
    rintro _ u9 ⟨rfl, U9, G9, hA9, hm9, hl9, hn9, F9⟩
    refine wl (ro_assign rfl) ?_
    refine wl_nil (x_then (hK47 _ _ ?_))
    clear hK47 K47
    refine c_ret ?_
    refine bp_ret Tryz.results184 rfl ?_
    refine ⟨congrArg (fun z : Nat => i64c z) (by omega), U9, G9, hA9, ?_, by omega, nob_trans hnb hF.size hn9, ar_trans hF hnb F9⟩
    show _ = G.map Prod.fst ++ ([⟨17, 0, 0, 0, 0, 0, s1⟩] ++ lay a (G.length + 1) ++ [⟨4, G.length, rt a (G.length + 1), 0, 0, 0, []⟩])
    rw [hTa.lx0.rt, hm9, hm2, hm1]
    rw [show G1.length = G.length + 1 from hl1, hndc, show G.length + 1 - 1 = G.length by omega]
    show G.map Prod.fst ++ [⟨17, 0, 0, 0, 0, 0, s1⟩] ++ _ ++ _ = _
    try simp only [List.append_assoc]
  · skip
    obtain ⟨b, pp, b1, p1, x, y, z, e1, hB, hC, hTa, hTb, hTd⟩ := TrM_setI.1 hT
    injection e1 with e1 _
    subst e1
    have hbn : ∀ k ∈ numsT a ++ (numsT a2 ++ numsT a3), k < 4611686018427387904 := hbn
    have hb1 : NmB a := fun k hk => hbn k (List.mem_append.2 (.inl hk))
    have hb2 : NmB a2 := fun k hk => hbn k (List.mem_append.2 (.inr (List.mem_append.2 (.inl hk))))
    have hb3' : NmB a3 := fun k hk => hbn k (List.mem_append.2 (.inr (List.mem_append.2 (.inr hk))))
    have hbc : NmB (Ex.index a a2) := fun k hk => by have hk : k ∈ numsT a ++ numsT a2 := hk; rcases List.mem_append.1 hk with hk | hk; exact hb1 k hk; exact hb2 k hk
    have hTc : TrM w ow 0 (Ex.index a a2) [.iface 306 (ptr b1)] := TrM_index.2 ⟨b1, p1, x, y, rfl, hC, hTa, hTb⟩
    have hndc : ndT (Ex.index a a2) = 1 + ndT a + ndT a2 := rfl
    have hb3 := hB.2
    replace hB := hB.1
    have hbl := hB.lt
    have hnd : ndT (St.setI a a2 a3) = 2 + ndT a + ndT a2 + ndT a3 := rfl
    refine c_reg ?_ -- region 0 flat.go:44
    refine wl (ro_assign rfl) ?_
    refine wl_nil (x_then (hK1 _ _ ?_))
    clear hK1 K1
    refine forget [(0, _), (1, _)] ⟨rfl, rfl, trivial⟩ (fun e => ?_)
    refine c_seq (fun K48 hK48 => ?_)
    refine c_reg ?_ -- region 1 flat.go:45
    refine wl (ro_move rfl) ?_
    refine wl_pos rfl (posR307 hB) (fun p ↦ ?_)
    refine wl (ro_build rfl bld_148_7) ?_
    refine wl_new (ze_148) (fun b5 w26 hbb5 h5 F26 => ?_)
    have hbsb5 := Nat.le_trans hF.size hbb5
    have hbsb5 := Nat.le_trans hL.size hbb5
    have hnebb5 : b < b5 := Nat.lt_of_lt_of_le hB.lt hbb5
    replace hF := hF.thenDrew.thenN F26
    replace hL := hL.thenDrew.thenN F26
    replace hB := F26.blkN hB
    refine wl_puta rfl rfl ((by (try exact vlc_cells _); all_goals simp [Value.oneCell', i64c, icv, u64c, u8c, ptr, S])) sz_148 (rfl) h5 ((by simp)) (rfl) (fun w27 h5 F27 => ?_)
    replace hF := hF.thenDrew.thenO F27 (by first | exact .inr (by omega) | exact .inl rfl | exact .inl (by assumption) | assumption)
    replace hL := hL.thenDrew.thenO F27 (by first | exact .inr (by omega) | exact .inl rfl | exact .inl (by assumption) | assumption)
    replace hB := F27.blkO hB (by omega)
    refine wl_nil (x_then (hK48 _ _ ?_))
    clear hK48 K48
    refine c_seq (fun K49 hK49 => ?_)
    refine c_seq (fun K50 hK50 => ?_)
    have hAf : ArF b5 _ ow sb c0 c1 U G := ⟨hA.farN hL, fun q => by
      rcases q with q | q
      · omega
      · have := hA.own.lt q; omega⟩
    have hQ : Cy b5 ow (fun u : World => TrM u ow 0 (Ex.index a a2) [.iface 306 (ptr b1)] ∧ TrM u ow 0 a3 [z]) _ := ⟨⟨hTc.far hL (fun _ _ _ h => h) (Xt.refl _ _), hTd.far hL (fun _ _ _ h => h) (Xt.refl _ _)⟩, hA.n3 b5 hbsb5, fun u u1 S ⟨q0, q1⟩ f hn => ⟨q0.far f hn (Xt.refl _ _), q1.far f hn (Xt.refl _ _)⟩⟩
    refine c_reg ?_ -- region 2 flat.go:46
    refine wl (ro_move rfl) ?_
    refine wl_nil (x_then (hK50 _ _ ?_))
    clear hK50 K50
    refine c_block ?_
    refine forget [(0, _), (5, _), (19, _)] ⟨rfl, rfl, rfl, trivial⟩ (fun e => ?_)
    refine c_seq (fun K51 hK51 => ?_)
    refine c_reg ?_ -- region 3 flat.go:46
    refine wl (ro_taN rfl nif_354 rfl zi_354) ?_
    refine wl (ro_extract rfl rfl) ?_
    refine wl (ro_extract rfl rfl) ?_
    refine wl_nil (x_then (hK51 _ _ ?_))
    clear hK51 K51
    refine wc_condF rfl ?_
    refine c_seq (fun K52 hK52 => ?_)
    refine c_reg ?_ -- region 12 flat.go:46
    refine wl (ro_taN rfl nif_350 rfl zi_350) ?_
    refine wl (ro_extract rfl rfl) ?_
    refine wl (ro_extract rfl rfl) ?_
    refine wl_nil (x_then (hK52 _ _ ?_))
    clear hK52 K52
    refine wc_condF rfl ?_
    refine c_seq (fun K53 hK53 => ?_)
    refine c_reg ?_ -- region 17 flat.go:46
    refine wl (ro_taY rfl nif_307) ?_
    refine wl (ro_extract rfl rfl) ?_
    refine wl (ro_extract rfl rfl) ?_
    refine wl_nil (x_then (hK53 _ _ ?_))
    clear hK53 K53
    refine wc_condT rfl ?_
    refine c_seq (fun K54 hK54 => ?_)
    refine c_reg ?_ -- region 18 flat.go:46
    refine wl (ro_assign rfl) ?_
    refine wl_nil (x_then (hK54 _ _ ?_))
    clear hK54 K54
    refine forget [(0, _), (5, _), (8, _)] ⟨rfl, rfl, rfl, trivial⟩ (fun e => ?_)
    refine c_seq (fun K55 hK55 => ?_)
    refine c_reg ?_ -- region 19 flat.go:62
    refine wl (ro_fieldAddr (k := 0) rfl fo_148_0) ?_
    refine wl_put rfl rfl rfl sz_3 h5 (by simp) (rfl) (fun w28 h5 F28 => ?_)
    have hcx_ := trivial
    replace hF := hF.thenDrew.thenO F28 (by first | exact .inr (by omega) | exact .inl rfl | exact .inl (by assumption) | assumption)
    replace hB := F28.blkO hB (by omega)
    replace hAf := hAf.hbput ((Fram.refl (one b5) _).thenDrew.thenO F28 (.inl rfl))
    replace hQ := hQ.hbput ((Fram.refl (one b5) _).thenDrew.thenO F28 (.inl rfl))
    refine wl_nil (x_then (hK55 _ _ ?_))
    clear hK55 K55
    refine forget [(0, _), (5, _), (8, _)] ⟨rfl, rfl, rfl, trivial⟩ (fun e => ?_)
    refine c_seq (fun K56 hK56 => ?_)
    refine c_reg ?_ -- region 20 flat.go:63
    refine wl (ro_move rfl) ?_
    refine wl (ro_move rfl) ?_
    refine wl (ro_nilCheck rfl) ?_
    refine wl (ro_fieldAddr (k := 1) rfl fo_309_1) ?_
    refine wl (ro_loadB rfl sc_290 (by assumption) rfl) ?_
    refine wl_call rfl en_185 (ih.e hAf.1 hQ.1.1 hbc (by omega) (by omega) (by omega)) ?_
    rintro _ u1 ⟨rfl, U1, G1, hA1, hm1, hl1, hn1, F9⟩
    have h5l := h5.lt
    replace h5 := h5.fram F9 hAf.2
    replace hB := hB.fram F9 (hAf.1.no hb3)
    replace hQ := hQ.ar hAf F9
    have hz := hF.size
    replace hF := ar_trans hF hnb F9
    replace hnb := nob_trans hnb hz hn1
    replace hAf := hAf.next hA1 hn1 h5l
    refine wl (ro_fieldAddr (k := 1) rfl fo_148_1) ?_
    refine wl_put rfl rfl rfl sz_3 h5 (by simp) (rfl) (fun w29 h5 F29 => ?_)
    have hcx_ := trivial
    replace hF := hF.thenDrew.thenO F29 (by first | exact .inr (by omega) | exact .inl rfl | exact .inl (by assumption) | assumption)
    replace hB := F29.blkO hB (by omega)
    replace hAf := hAf.hbput ((Fram.refl (one b5) _).thenDrew.thenO F29 (.inl rfl))
    replace hQ := hQ.hbput ((Fram.refl (one b5) _).thenDrew.thenO F29 (.inl rfl))
    refine wl_nil (x_then (hK56 _ _ ?_))
    clear hK56 K56
    refine c_reg ?_ -- region 21 flat.go:64
    refine wl (ro_move rfl) ?_
    refine wl (ro_move rfl) ?_
    refine wl (ro_nilCheck rfl) ?_
    refine wl (ro_fieldAddr (k := 2) rfl fo_309_2) ?_
    refine wl (ro_loadB rfl sc_290 (by assumption) rfl) ?_
    refine wl_call rfl en_185 (ih.e hAf.1 hQ.1.2 hb3' (by omega) (by omega) (by omega)) ?_
    rintro _ u2 ⟨rfl, U2, G2, hA2, hm2, hl2, hn2, F9⟩
    have h5l := h5.lt
    replace h5 := h5.fram F9 hAf.2
    replace hB := hB.fram F9 (hAf.1.no hb3)
    replace hQ := hQ.ar hAf F9
    have hz := hF.size
    replace hF := ar_trans hF hnb F9
    replace hnb := nob_trans hnb hz hn2
    replace hAf := hAf.next hA2 hn2 h5l
    refine wl (ro_fieldAddr (k := 2) rfl fo_148_2) ?_
    refine wl_put rfl rfl rfl sz_3 h5 (by simp) (rfl) (fun w30 h5 F30 => ?_)
    have hcx_ := trivial
    replace hF := hF.thenDrew.thenO F30 (by first | exact .inr (by omega) | exact .inl rfl | exact .inl (by assumption) | assumption)
    replace hB := F30.blkO hB (by omega)
    replace hAf := hAf.hbput ((Fram.refl (one b5) _).thenDrew.thenO F30 (.inl rfl))
    replace hQ := hQ.hbput ((Fram.refl (one b5) _).thenDrew.thenO F30 (.inl rfl))
    refine wl_nil (x_blk (x_then (hK49 _ _ ?_)))
    clear hK49 K49
    refine forget [(0, _), (5, _)] ⟨rfl, rfl, trivial⟩ (fun e => ?_)
    refine c_seq (fun K57 hK57 => ?_)
    refine c_reg ?_ -- region 57 flat.go:94
    refine wl (ro_move rfl) ?_
    refine wl (ro_loadAggB rfl ag_148 (by assumption) rfl rfl) ?_
    refine wl_call rfl en_227 (add227 (x := (⟨4, G.length + ndT (Ex.index a a2) - 1, G1.length + ndT a3 - 1, 0, 0, 0, []⟩, p)) hAf.1 (by omega)) ?_
    rintro _ u9 ⟨rfl, U9, G9, hA9, hm9, hl9, hn9, F9⟩
    refine wl (ro_assign rfl) ?_
    refine wl_nil (x_then (hK57 _ _ ?_))
    clear hK57 K57
    refine c_ret ?_
    refine bp_ret Tryz.results184 rfl ?_
    refine ⟨congrArg (fun z : Nat => i64c z) (by omega), U9, G9, hA9, ?_, by omega, nob_trans hnb hF.size hn9, ar_trans hF hnb F9⟩
    show _ = G.map Prod.fst ++ (lay (Ex.index a a2) G.length ++ lay a3 (G.length + ndT a + ndT a2 + 1) ++ [⟨4, G.length + ndT a + ndT a2, rt a3 (G.length + ndT a + ndT a2 + 1), 0, 0, 0, []⟩])
    rw [hTd.lx0.rt, hm9, hm2, hm1]
    rw [show G1.length = G.length + ndT a + ndT a2 + 1 by omega, hndc, show G.length + (1 + ndT a + ndT a2) - 1 = G.length + ndT a + ndT a2 by omega]
    try simp only [List.append_assoc]
  · skip
    obtain ⟨b, b1, pp, x, W, us, e1, hB, hC, hTa, hSl, hTl⟩ := TrM_scall.1 hT
    injection e1 with e1 _
    subst e1
    have hbc : NmB (Ex.call a a2) := hbn
    have hTc : TrM w ow 0 (Ex.call a a2) [.iface 300 (ptr b1)] := TrM_call.2 ⟨b1, pp, x, W, us, rfl, hC, hTa, hSl, hTl⟩
    have hndc : ndT (Ex.call a a2) = 1 + ndT a + ndT a2 := rfl
    replace hC := hC.1
    have hb3 := hB.2
    replace hB := hB.1
    have hbl := hB.lt
    have hnd : ndT (St.call a a2) = 2 + ndT a + ndT a2 := rfl
    refine c_reg ?_ -- region 0 flat.go:44
    refine wl (ro_assign rfl) ?_
    refine wl_nil (x_then (hK1 _ _ ?_))
    clear hK1 K1
    refine forget [(0, _), (1, _)] ⟨rfl, rfl, trivial⟩ (fun e => ?_)
    refine c_seq (fun K58 hK58 => ?_)
    refine c_reg ?_ -- region 1 flat.go:45
    refine wl (ro_move rfl) ?_
    refine wl_pos rfl (posR302 hB hC) (fun p ↦ ?_)
    refine wl (ro_build rfl bld_148_7) ?_
    refine wl_new (ze_148) (fun b5 w31 hbb5 h5 F31 => ?_)
    have hbsb5 := Nat.le_trans hF.size hbb5
    have hbsb5 := Nat.le_trans hL.size hbb5
    have hnebb5 : b < b5 := Nat.lt_of_lt_of_le hB.lt hbb5
    replace hF := hF.thenDrew.thenN F31
    replace hL := hL.thenDrew.thenN F31
    replace hB := F31.blkN hB
    refine wl_puta rfl rfl ((by (try exact vlc_cells _); all_goals simp [Value.oneCell', i64c, icv, u64c, u8c, ptr, S])) sz_148 (rfl) h5 ((by simp)) (rfl) (fun w32 h5 F32 => ?_)
    replace hF := hF.thenDrew.thenO F32 (by first | exact .inr (by omega) | exact .inl rfl | exact .inl (by assumption) | assumption)
    replace hL := hL.thenDrew.thenO F32 (by first | exact .inr (by omega) | exact .inl rfl | exact .inl (by assumption) | assumption)
    replace hB := F32.blkO hB (by omega)
    refine wl_nil (x_then (hK58 _ _ ?_))
    clear hK58 K58
    refine c_seq (fun K59 hK59 => ?_)
    refine c_seq (fun K60 hK60 => ?_)
    have hAf : ArF b5 _ ow sb c0 c1 U G := ⟨hA.farN hL, fun q => by
      rcases q with q | q
      · omega
      · have := hA.own.lt q; omega⟩
    have hQ : Cy b5 ow (fun u : World => TrM u ow 0 (Ex.call a a2) [.iface 300 (ptr b1)]) _ := ⟨hTc.far hL (fun _ _ _ h => h) (Xt.refl _ _), hA.n3 b5 hbsb5, fun u u1 S q0 f hn => q0.far f hn (Xt.refl _ _)⟩
    refine c_reg ?_ -- region 2 flat.go:46
    refine wl (ro_move rfl) ?_
    refine wl_nil (x_then (hK60 _ _ ?_))
    clear hK60 K60
    refine c_block ?_
    refine forget [(0, _), (5, _), (19, _)] ⟨rfl, rfl, rfl, trivial⟩ (fun e => ?_)
    refine c_seq (fun K61 hK61 => ?_)
    refine c_reg ?_ -- region 3 flat.go:46
    refine wl (ro_taN rfl nif_354 rfl zi_354) ?_
    refine wl (ro_extract rfl rfl) ?_
    refine wl (ro_extract rfl rfl) ?_
    refine wl_nil (x_then (hK61 _ _ ?_))
    clear hK61 K61
    refine wc_condF rfl ?_
    refine c_seq (fun K62 hK62 => ?_)
    refine c_reg ?_ -- region 12 flat.go:46
    refine wl (ro_taN rfl nif_350 rfl zi_350) ?_
    refine wl (ro_extract rfl rfl) ?_
    refine wl (ro_extract rfl rfl) ?_
    refine wl_nil (x_then (hK62 _ _ ?_))
    clear hK62 K62
    refine wc_condF rfl ?_
    refine c_seq (fun K63 hK63 => ?_)
    refine c_reg ?_ -- region 17 flat.go:46
    refine wl (ro_taN rfl nif_307 rfl zi_307) ?_
    refine wl (ro_extract rfl rfl) ?_
    refine wl (ro_extract rfl rfl) ?_
    refine wl_nil (x_then (hK63 _ _ ?_))
    clear hK63 K63
    refine wc_condF rfl ?_
    refine c_seq (fun K64 hK64 => ?_)
    refine c_reg ?_ -- region 22 flat.go:46
    refine wl (ro_taY rfl nif_302) ?_
    refine wl (ro_extract rfl rfl) ?_
    refine wl (ro_extract rfl rfl) ?_
    refine wl_nil (x_then (hK64 _ _ ?_))
    clear hK64 K64
    refine wc_condT rfl ?_
    refine c_seq (fun K65 hK65 => ?_)
    refine c_reg ?_ -- region 23 flat.go:46
    refine wl (ro_assign rfl) ?_
    refine wl_nil (x_then (hK65 _ _ ?_))
    clear hK65 K65
    refine forget [(0, _), (5, _), (9, _)] ⟨rfl, rfl, rfl, trivial⟩ (fun e => ?_)
    refine c_seq (fun K66 hK66 => ?_)
    refine c_reg ?_ -- region 24 flat.go:66
    refine wl (ro_fieldAddr (k := 0) rfl fo_148_0) ?_
    refine wl_put rfl rfl rfl sz_3 h5 (by simp) (rfl) (fun w33 h5 F33 => ?_)
    have hcx_ := trivial
    replace hF := hF.thenDrew.thenO F33 (by first | exact .inr (by omega) | exact .inl rfl | exact .inl (by assumption) | assumption)
    replace hB := F33.blkO hB (by omega)
    replace hAf := hAf.hbput ((Fram.refl (one b5) _).thenDrew.thenO F33 (.inl rfl))
    replace hQ := hQ.hbput ((Fram.refl (one b5) _).thenDrew.thenO F33 (.inl rfl))
    refine wl_nil (x_then (hK66 _ _ ?_))
    clear hK66 K66
    refine c_reg ?_ -- region 25 flat.go:67
    refine wl (ro_move rfl) ?_
    refine wl (ro_move rfl) ?_
    refine wl (ro_nilCheck rfl) ?_
    refine wl (ro_fieldAddr (k := 0) rfl fo_304_0) ?_
    refine wl (ro_loadB rfl sc_300 (by assumption) rfl) ?_
    refine wl (ro_mkIface rfl (by kernel_rfl)) ?_
    refine wl_call rfl en_185 (ih.e hAf.1 hQ.1 hbc (by omega) (by omega) (by omega)) ?_
    rintro _ u1 ⟨rfl, U1, G1, hA1, hm1, hl1, hn1, F9⟩
    have h5l := h5.lt
    replace h5 := h5.fram F9 hAf.2
    replace hB := hB.fram F9 (hAf.1.no hb3)
    replace hQ := hQ.ar hAf F9
    have hz := hF.size
    replace hF := ar_trans hF hnb F9
    replace hnb := nob_trans hnb hz hn1
    replace hAf := hAf.next hA1 hn1 h5l
    refine wl (ro_fieldAddr (k := 1) rfl fo_148_1) ?_
    refine wl_put rfl rfl rfl sz_3 h5 (by simp) (rfl) (fun w34 h5 F34 => ?_)
    have hcx_ := trivial
    replace hF := hF.thenDrew.thenO F34 (by first | exact .inr (by omega) | exact .inl rfl | exact .inl (by assumption) | assumption)
    replace hB := F34.blkO hB (by omega)
    replace hAf := hAf.hbput ((Fram.refl (one b5) _).thenDrew.thenO F34 (.inl rfl))
    replace hQ := hQ.hbput ((Fram.refl (one b5) _).thenDrew.thenO F34 (.inl rfl))
    refine wl_nil (x_blk (x_then (hK59 _ _ ?_)))
    clear hK59 K59
    refine forget [(0, _), (5, _)] ⟨rfl, rfl, trivial⟩ (fun e => ?_)
    refine c_seq (fun K67 hK67 => ?_)
    refine c_reg ?_ -- region 57 flat.go:94
    refine wl (ro_move rfl) ?_
    refine wl (ro_loadAggB rfl ag_148 (by assumption) rfl rfl) ?_
    refine wl_call rfl en_227 (add227 (x := (⟨5, G.length + ndT (Ex.call a a2) - 1, 0, 0, 0, 0, []⟩, p)) hAf.1 (by omega)) ?_
    rintro _ u9 ⟨rfl, U9, G9, hA9, hm9, hl9, hn9, F9⟩
    refine wl (ro_assign rfl) ?_
    refine wl_nil (x_then (hK67 _ _ ?_))
    clear hK67 K67
    refine c_ret ?_
    refine bp_ret Tryz.results184 rfl ?_
    refine ⟨congrArg (fun z : Nat => i64c z) (by omega), U9, G9, hA9, ?_, by omega, nob_trans hnb hF.size hn9, ar_trans hF hnb F9⟩
    show _ = G.map Prod.fst ++ (lay (Ex.call a a2) G.length ++ [⟨5, G.length + ndT a + ndT a2, 0, 0, 0, 0, []⟩])
    rw [hm9, hm1]
    rw [hndc, show G.length + (1 + ndT a + ndT a2) - 1 = G.length + ndT a + ndT a2 by omega]
    try simp only [List.append_assoc]
  · skip
    obtain ⟨b, pp, x, V, us, W, ns, e1, hB, hTa, hSl, hTl, hSn, hTn⟩ := TrM_iff.1 hT
    injection e1 with e1 _
    subst e1
    have hbn : ∀ k ∈ numsT a ++ (numsT a2 ++ numsT a3), k < 4611686018427387904 := hbn
    have hb1 : NmB a := fun k hk => hbn k (List.mem_append.2 (.inl hk))
    have hb2 : NmB a2 := fun k hk => hbn k (List.mem_append.2 (.inr (List.mem_append.2 (.inl hk))))
    have hb3' : NmB a3 := fun k hk => hbn k (List.mem_append.2 (.inr (List.mem_append.2 (.inr hk))))
    obtain ⟨va5, vc5, rfl⟩ := OwT.form hSl
    obtain ⟨va4, vc4, rfl⟩ := OwT.form hSn
    have hb3 := hB.2
    replace hB := hB.1
    have hbl := hB.lt
    have hnd : ndT (St.iff a a2 a3) = 1 + ndT a + ndT a2 + ndT a3 := rfl
    refine c_reg ?_ -- region 0 flat.go:44
    refine wl (ro_assign rfl) ?_
    refine wl_nil (x_then (hK1 _ _ ?_))
    clear hK1 K1
    refine forget [(0, _), (1, _)] ⟨rfl, rfl, trivial⟩ (fun e => ?_)
    refine c_seq (fun K68 hK68 => ?_)
    refine c_reg ?_ -- region 1 flat.go:45
    refine wl (ro_move rfl) ?_
    refine wl_pos rfl (posR357 hB) (fun p ↦ ?_)
    refine wl (ro_build rfl bld_148_7) ?_
    refine wl_new (ze_148) (fun b5 w35 hbb5 h5 F35 => ?_)
    have hbsb5 := Nat.le_trans hF.size hbb5
    have hbsb5 := Nat.le_trans hL.size hbb5
    have hnebb5 : b < b5 := Nat.lt_of_lt_of_le hB.lt hbb5
    replace hF := hF.thenDrew.thenN F35
    replace hL := hL.thenDrew.thenN F35
    replace hB := F35.blkN hB
    refine wl_puta rfl rfl ((by (try exact vlc_cells _); all_goals simp [Value.oneCell', i64c, icv, u64c, u8c, ptr, S])) sz_148 (rfl) h5 ((by simp)) (rfl) (fun w36 h5 F36 => ?_)
    replace hF := hF.thenDrew.thenO F36 (by first | exact .inr (by omega) | exact .inl rfl | exact .inl (by assumption) | assumption)
    replace hL := hL.thenDrew.thenO F36 (by first | exact .inr (by omega) | exact .inl rfl | exact .inl (by assumption) | assumption)
    replace hB := F36.blkO hB (by omega)
    refine wl_nil (x_then (hK68 _ _ ?_))
    clear hK68 K68
    refine c_seq (fun K69 hK69 => ?_)
    refine c_seq (fun K70 hK70 => ?_)
    have hAf : ArF b5 _ ow sb c0 c1 U G := ⟨hA.farN hL, fun q => by
      rcases q with q | q
      · omega
      · have := hA.own.lt q; omega⟩
    have hQ : Cy b5 ow (fun u : World => TrM u ow 0 a [x] ∧ SlM u ow (.slice va5 us.length vc5) us ∧ TrM u ow 3 a2 us ∧ SlM u ow (.slice va4 ns.length vc4) ns ∧ TrM u ow 3 a3 ns) _ := ⟨⟨hTa.far hL (fun _ _ _ h => h) (Xt.refl _ _), OwT.far hSl hL (fun _ _ _ h => h) (Xt.refl _ _), hTl.far hL (fun _ _ _ h => h) (Xt.refl _ _), OwT.far hSn hL (fun _ _ _ h => h) (Xt.refl _ _), hTn.far hL (fun _ _ _ h => h) (Xt.refl _ _)⟩, hA.n3 b5 hbsb5, fun u u1 S ⟨q0, q1, q2, q3, q4⟩ f hn => ⟨q0.far f hn (Xt.refl _ _), OwT.far q1 f hn (Xt.refl _ _), q2.far f hn (Xt.refl _ _), OwT.far q3 f hn (Xt.refl _ _), q4.far f hn (Xt.refl _ _)⟩⟩
    refine c_reg ?_ -- region 2 flat.go:46
    refine wl (ro_move rfl) ?_
    refine wl_nil (x_then (hK70 _ _ ?_))
    clear hK70 K70
    refine c_block ?_
    refine forget [(0, _), (5, _), (19, _)] ⟨rfl, rfl, rfl, trivial⟩ (fun e => ?_)
    refine c_seq (fun K71 hK71 => ?_)
    refine c_reg ?_ -- region 3 flat.go:46
    refine wl (ro_taN rfl nif_354 rfl zi_354) ?_
    refine wl (ro_extract rfl rfl) ?_
    refine wl (ro_extract rfl rfl) ?_
    refine wl_nil (x_then (hK71 _ _ ?_))
    clear hK71 K71
    refine wc_condF rfl ?_
    refine c_seq (fun K72 hK72 => ?_)
    refine c_reg ?_ -- region 12 flat.go:46
    refine wl (ro_taN rfl nif_350 rfl zi_350) ?_
    refine wl (ro_extract rfl rfl) ?_
    refine wl (ro_extract rfl rfl) ?_
    refine wl_nil (x_then (hK72 _ _ ?_))
    clear hK72 K72
    refine wc_condF rfl ?_
    refine c_seq (fun K73 hK73 => ?_)
    refine c_reg ?_ -- region 17 flat.go:46
    refine wl (ro_taN rfl nif_307 rfl zi_307) ?_
    refine wl (ro_extract rfl rfl) ?_
    refine wl (ro_extract rfl rfl) ?_
    refine wl_nil (x_then (hK73 _ _ ?_))
    clear hK73 K73
    refine wc_condF rfl ?_
    refine c_seq (fun K74 hK74 => ?_)
    refine c_reg ?_ -- region 22 flat.go:46
    refine wl (ro_taN rfl nif_302 rfl zi_302) ?_
    refine wl (ro_extract rfl rfl) ?_
    refine wl (ro_extract rfl rfl) ?_
    refine wl_nil (x_then (hK74 _ _ ?_))
    clear hK74 K74
    refine wc_condF rfl ?_
    refine c_seq (fun K75 hK75 => ?_)
    refine c_reg ?_ -- region 26 flat.go:46
    refine wl (ro_taY rfl nif_357) ?_
    refine wl (ro_extract rfl rfl) ?_
    refine wl (ro_extract rfl rfl) ?_
    refine wl_nil (x_then (hK75 _ _ ?_))
    clear hK75 K75
    refine wc_condT rfl ?_
    refine c_seq (fun K76 hK76 => ?_)
    refine c_reg ?_ -- region 27 flat.go:46
    refine wl (ro_assign rfl) ?_
    refine wl_nil (x_then (hK76 _ _ ?_))
    clear hK76 K76
    refine forget [(0, _), (5, _), (10, _)] ⟨rfl, rfl, rfl, trivial⟩ (fun e => ?_)
    refine c_seq (fun K77 hK77 => ?_)
    refine c_reg ?_ -- region 28 flat.go:69
    refine wl (ro_fieldAddr (k := 0) rfl fo_148_0) ?_
    refine wl_put rfl rfl rfl sz_3 h5 (by simp) (rfl) (fun w37 h5 F37 => ?_)
    have hcx_ := trivial
    replace hF := hF.thenDrew.thenO F37 (by first | exact .inr (by omega) | exact .inl rfl | exact .inl (by assumption) | assumption)
    replace hB := F37.blkO hB (by omega)
    replace hAf := hAf.hbput ((Fram.refl (one b5) _).thenDrew.thenO F37 (.inl rfl))
    replace hQ := hQ.hbput ((Fram.refl (one b5) _).thenDrew.thenO F37 (.inl rfl))
    refine wl_nil (x_then (hK77 _ _ ?_))
    clear hK77 K77
    refine forget [(0, _), (5, _), (10, _)] ⟨rfl, rfl, rfl, trivial⟩ (fun e => ?_)
    refine c_seq (fun K78 hK78 => ?_)
    refine c_reg ?_ -- region 29 flat.go:70
    refine wl (ro_move rfl) ?_
    refine wl (ro_move rfl) ?_
    refine wl (ro_nilCheck rfl) ?_
    refine wl (ro_fieldAddr (k := 1) rfl fo_359_1) ?_
    refine wl (ro_loadB rfl sc_290 (by assumption) rfl) ?_
    refine wl_call rfl en_185 (ih.e hAf.1 hQ.1.1 hb1 (by omega) (by omega) (by omega)) ?_
    rintro _ u1 ⟨rfl, U1, G1, hA1, hm1, hl1, hn1, F9⟩
    have h5l := h5.lt
    replace h5 := h5.fram F9 hAf.2
    replace hB := hB.fram F9 (hAf.1.no hb3)
    replace hQ := hQ.ar hAf F9
    have hz := hF.size
    replace hF := ar_trans hF hnb F9
    replace hnb := nob_trans hnb hz hn1
    replace hAf := hAf.next hA1 hn1 h5l
    refine wl (ro_fieldAddr (k := 1) rfl fo_148_1) ?_
    refine wl_put rfl rfl rfl sz_3 h5 (by simp) (rfl) (fun w38 h5 F38 => ?_)
    have hcx_ := trivial
    replace hF := hF.thenDrew.thenO F38 (by first | exact .inr (by omega) | exact .inl rfl | exact .inl (by assumption) | assumption)
    replace hB := F38.blkO hB (by omega)
    replace hAf := hAf.hbput ((Fram.refl (one b5) _).thenDrew.thenO F38 (.inl rfl))
    replace hQ := hQ.hbput ((Fram.refl (one b5) _).thenDrew.thenO F38 (.inl rfl))
    refine wl_nil (x_then (hK78 _ _ ?_))
    clear hK78 K78
    refine forget [(0, _), (5, _), (10, _)] ⟨rfl, rfl, rfl, trivial⟩ (fun e => ?_)
    refine c_seq (fun K79 hK79 => ?_)
    refine c_reg ?_ -- region 30 flat.go:71
    refine wl (ro_move rfl) ?_
    refine wl (ro_move rfl) ?_
    refine wl (ro_nilCheck rfl) ?_
    refine wl (ro_fieldAddr (k := 2) rfl fo_359_2) ?_
    refine wl (ro_loadB rfl sc_188 (by assumption) rfl) ?_
    refine wl_call rfl en_78 (chain3 ih hAf.1 hQ.1.2.1 hQ.1.2.2.1 hb2 (by omega) (by omega) (by omega)) ?_
    rintro _ u2 ⟨rfl, U2, G2, hA2, hm2, hl2, hn2, F9⟩
    have h5l := h5.lt
    replace h5 := h5.fram F9 hAf.2
    replace hB := hB.fram F9 (hAf.1.no hb3)
    replace hQ := hQ.ar hAf F9
    have hz := hF.size
    replace hF := ar_trans hF hnb F9
    replace hnb := nob_trans hnb hz hn2
    replace hAf := hAf.next hA2 hn2 h5l
    refine wl (ro_fieldAddr (k := 2) rfl fo_148_2) ?_
    refine wl_put rfl rfl rfl sz_3 h5 (by simp) (rfl) (fun w39 h5 F39 => ?_)
    have hcx_ := trivial
    replace hF := hF.thenDrew.thenO F39 (by first | exact .inr (by omega) | exact .inl rfl | exact .inl (by assumption) | assumption)
    replace hB := F39.blkO hB (by omega)
    replace hAf := hAf.hbput ((Fram.refl (one b5) _).thenDrew.thenO F39 (.inl rfl))
    replace hQ := hQ.hbput ((Fram.refl (one b5) _).thenDrew.thenO F39 (.inl rfl))
    refine wl_nil (x_then (hK79 _ _ ?_))
    clear hK79 K79
    refine c_reg ?_ -- region 31 flat.go:72
    refine wl (ro_move rfl) ?_
    refine wl (ro_move rfl) ?_
    refine wl (ro_nilCheck rfl) ?_
    refine wl (ro_fieldAddr (k := 3) rfl fo_359_3) ?_
    refine wl (ro_loadB rfl sc_188 (by assumption) rfl) ?_
    refine wl_call rfl en_78 (chain3 ih hAf.1 hQ.1.2.2.2.1 hQ.1.2.2.2.2 hb3' (by omega) (by omega) (by omega)) ?_
    rintro _ u3 ⟨rfl, U3, G3, hA3, hm3, hl3, hn3, F9⟩
    have h5l := h5.lt
    replace h5 := h5.fram F9 hAf.2
    replace hB := hB.fram F9 (hAf.1.no hb3)
    replace hQ := hQ.ar hAf F9
    have hz := hF.size
    replace hF := ar_trans hF hnb F9
    replace hnb := nob_trans hnb hz hn3
    replace hAf := hAf.next hA3 hn3 h5l
    refine wl (ro_fieldAddr (k := 3) rfl fo_148_3) ?_
    refine wl_put rfl rfl rfl sz_3 h5 (by simp) (rfl) (fun w40 h5 F40 => ?_)
    have hcx_ := trivial
    replace hF := hF.thenDrew.thenO F40 (by first | exact .inr (by omega) | exact .inl rfl | exact .inl (by assumption) | assumption)
    replace hB := F40.blkO hB (by omega)
    replace hAf := hAf.hbput ((Fram.refl (one b5) _).thenDrew.thenO F40 (.inl rfl))
    replace hQ := hQ.hbput ((Fram.refl (one b5) _).thenDrew.thenO F40 (.inl rfl))
    refine wl_nil (x_blk (x_then (hK69 _ _ ?_)))
    clear hK69 K69
    refine forget [(0, _), (5, _)] ⟨rfl, rfl, trivial⟩ (fun e => ?_)
    refine c_seq (fun K80 hK80 => ?_)
    refine c_reg ?_ -- region 57 flat.go:94
    refine wl (ro_move rfl) ?_
    refine wl (ro_loadAggB rfl ag_148 (by assumption) rfl rfl) ?_
    refine wl_call rfl en_227 (add227 (x := (⟨6, G.length + ndT a - 1, rt a2 G1.length, rt a3 G2.length, 0, 0, []⟩, p)) hAf.1 (by omega)) ?_
    rintro _ u9 ⟨rfl, U9, G9, hA9, hm9, hl9, hn9, F9⟩
    refine wl (ro_assign rfl) ?_
    refine wl_nil (x_then (hK80 _ _ ?_))
    clear hK80 K80
    refine c_ret ?_
    refine bp_ret Tryz.results184 rfl ?_
    refine ⟨congrArg (fun z : Nat => i64c z) (by omega), U9, G9, hA9, ?_, by omega, nob_trans hnb hF.size hn9, ar_trans hF hnb F9⟩
    show _ = G.map Prod.fst ++ (lay a G.length ++ lay a2 (G.length + ndT a) ++ lay a3 (G.length + ndT a + ndT a2) ++ [⟨6, rt a G.length, rt a2 (G.length + ndT a), rt a3 (G.length + ndT a + ndT a2), 0, 0, []⟩])
    rw [hTa.lx0.rt, hm9, hm3, hm2, hm1]
    rw [show G2.length = G.length + ndT a + ndT a2 by omega, hl1]
    try simp only [List.append_assoc]
  · skip
    obtain ⟨b, pp, x, V, us, e1, hB, hTa, hSl, hTl⟩ := TrM_whl.1 hT
    injection e1 with e1 _
    subst e1
    have hbn : ∀ k ∈ numsT a ++ numsT a2, k < 4611686018427387904 := hbn
    have hb1 : NmB a := fun k hk => hbn k (List.mem_append.2 (.inl hk))
    have hb2 : NmB a2 := fun k hk => hbn k (List.mem_append.2 (.inr hk))
    obtain ⟨va5, vc5, rfl⟩ := OwT.form hSl
    have hb3 := hB.2
    replace hB := hB.1
    have hbl := hB.lt
    have hnd : ndT (St.whl a a2) = 1 + ndT a + ndT a2 := rfl
    refine c_reg ?_ -- region 0 flat.go:44
    refine wl (ro_assign rfl) ?_
    refine wl_nil (x_then (hK1 _ _ ?_))
    clear hK1 K1
    refine forget [(0, _), (1, _)] ⟨rfl, rfl, trivial⟩ (fun e => ?_)
    refine c_seq (fun K81 hK81 => ?_)
    refine c_reg ?_ -- region 1 flat.go:45
    refine wl (ro_move rfl) ?_
    refine wl_pos rfl (posR293 hB) (fun p ↦ ?_)
    refine wl (ro_build rfl bld_148_7) ?_
    refine wl_new (ze_148) (fun b5 w41 hbb5 h5 F41 => ?_)
    have hbsb5 := Nat.le_trans hF.size hbb5
    have hbsb5 := Nat.le_trans hL.size hbb5
    have hnebb5 : b < b5 := Nat.lt_of_lt_of_le hB.lt hbb5
    replace hF := hF.thenDrew.thenN F41
    replace hL := hL.thenDrew.thenN F41
    replace hB := F41.blkN hB
    refine wl_puta rfl rfl ((by (try exact vlc_cells _); all_goals simp [Value.oneCell', i64c, icv, u64c, u8c, ptr, S])) sz_148 (rfl) h5 ((by simp)) (rfl) (fun w42 h5 F42 => ?_)
    replace hF := hF.thenDrew.thenO F42 (by first | exact .inr (by omega) | exact .inl rfl | exact .inl (by assumption) | assumption)
    replace hL := hL.thenDrew.thenO F42 (by first | exact .inr (by omega) | exact .inl rfl | exact .inl (by assumption) | assumption)
    replace hB := F42.blkO hB (by omega)
    refine wl_nil (x_then (hK81 _ _ ?_))
    clear hK81 K81
    refine c_seq (fun K82 hK82 => ?_)
    refine c_seq (fun K83 hK83 => ?_)
    have hAf : ArF b5 _ ow sb c0 c1 U G := ⟨hA.farN hL, fun q => by
      rcases q with q | q
      · omega
      · have := hA.own.lt q; omega⟩
    have hQ : Cy b5 ow (fun u : World => TrM u ow 0 a [x] ∧ SlM u ow (.slice va5 us.length vc5) us ∧ TrM u ow 3 a2 us) _ := ⟨⟨hTa.far hL (fun _ _ _ h => h) (Xt.refl _ _), OwT.far hSl hL (fun _ _ _ h => h) (Xt.refl _ _), hTl.far hL (fun _ _ _ h => h) (Xt.refl _ _)⟩, hA.n3 b5 hbsb5, fun u u1 S ⟨q0, q1, q2⟩ f hn => ⟨q0.far f hn (Xt.refl _ _), OwT.far q1 f hn (Xt.refl _ _), q2.far f hn (Xt.refl _ _)⟩⟩
    refine c_reg ?_ -- region 2 flat.go:46
    refine wl (ro_move rfl) ?_
    refine wl_nil (x_then (hK83 _ _ ?_))
    clear hK83 K83
    refine c_block ?_
    refine forget [(0, _), (5, _), (19, _)] ⟨rfl, rfl, rfl, trivial⟩ (fun e => ?_)
    refine c_seq (fun K84 hK84 => ?_)
    refine c_reg ?_ -- region 3 flat.go:46
    refine wl (ro_taN rfl nif_354 rfl zi_354) ?_
    refine wl (ro_extract rfl rfl) ?_
    refine wl (ro_extract rfl rfl) ?_
    refine wl_nil (x_then (hK84 _ _ ?_))
    clear hK84 K84
    refine wc_condF rfl ?_
    refine c_seq (fun K85 hK85 => ?_)
    refine c_reg ?_ -- region 12 flat.go:46
    refine wl (ro_taN rfl nif_350 rfl zi_350) ?_
    refine wl (ro_extract rfl rfl) ?_
    refine wl (ro_extract rfl rfl) ?_
    refine wl_nil (x_then (hK85 _ _ ?_))
    clear hK85 K85
    refine wc_condF rfl ?_
    refine c_seq (fun K86 hK86 => ?_)
    refine c_reg ?_ -- region 17 flat.go:46
    refine wl (ro_taN rfl nif_307 rfl zi_307) ?_
    refine wl (ro_extract rfl rfl) ?_
    refine wl (ro_extract rfl rfl) ?_
    refine wl_nil (x_then (hK86 _ _ ?_))
    clear hK86 K86
    refine wc_condF rfl ?_
    refine c_seq (fun K87 hK87 => ?_)
    refine c_reg ?_ -- region 22 flat.go:46
    refine wl (ro_taN rfl nif_302 rfl zi_302) ?_
    refine wl (ro_extract rfl rfl) ?_
    refine wl (ro_extract rfl rfl) ?_
    refine wl_nil (x_then (hK87 _ _ ?_))
    clear hK87 K87
    refine wc_condF rfl ?_
    refine c_seq (fun K88 hK88 => ?_)
    refine c_reg ?_ -- region 26 flat.go:46
    refine wl (ro_taN rfl nif_357 rfl zi_357) ?_
    refine wl (ro_extract rfl rfl) ?_
    refine wl (ro_extract rfl rfl) ?_
    refine wl_nil (x_then (hK88 _ _ ?_))
    clear hK88 K88
    refine wc_condF rfl ?_
    refine c_seq (fun K89 hK89 => ?_)
    refine c_reg ?_ -- region 32 flat.go:46
    refine wl (ro_taY rfl nif_293) ?_
    refine wl (ro_extract rfl rfl) ?_
    refine wl (ro_extract rfl rfl) ?_
    refine wl_nil (x_then (hK89 _ _ ?_))
    clear hK89 K89
    refine wc_condT rfl ?_
    refine c_seq (fun K90 hK90 => ?_)
    refine c_reg ?_ -- region 33 flat.go:46
    refine wl (ro_assign rfl) ?_
    refine wl_nil (x_then (hK90 _ _ ?_))
    clear hK90 K90
    refine forget [(0, _), (5, _), (11, _)] ⟨rfl, rfl, rfl, trivial⟩ (fun e => ?_)
    refine c_seq (fun K91 hK91 => ?_)
    refine c_reg ?_ -- region 34 flat.go:74
    refine wl (ro_fieldAddr (k := 0) rfl fo_148_0) ?_
    refine wl_put rfl rfl rfl sz_3 h5 (by simp) (rfl) (fun w43 h5 F43 => ?_)
    have hcx_ := trivial
    replace hF := hF.thenDrew.thenO F43 (by first | exact .inr (by omega) | exact .inl rfl | exact .inl (by assumption) | assumption)
    replace hB := F43.blkO hB (by omega)
    replace hAf := hAf.hbput ((Fram.refl (one b5) _).thenDrew.thenO F43 (.inl rfl))
    replace hQ := hQ.hbput ((Fram.refl (one b5) _).thenDrew.thenO F43 (.inl rfl))
    refine wl_nil (x_then (hK91 _ _ ?_))
    clear hK91 K91
    refine forget [(0, _), (5, _), (11, _)] ⟨rfl, rfl, rfl, trivial⟩ (fun e => ?_)
    refine c_seq (fun K92 hK92 => ?_)
    refine c_reg ?_ -- region 35 flat.go:75
    refine wl (ro_move rfl) ?_
    refine wl (ro_move rfl) ?_
    refine wl (ro_nilCheck rfl) ?_
    refine wl (ro_fieldAddr (k := 1) rfl fo_295_1) ?_
    refine wl (ro_loadB rfl sc_290 (by assumption) rfl) ?_
    refine wl_call rfl en_185 (ih.e hAf.1 hQ.1.1 hb1 (by omega) (by omega) (by omega)) ?_
    rintro _ u1 ⟨rfl, U1, G1, hA1, hm1, hl1, hn1, F9⟩
    have h5l := h5.lt
    replace h5 := h5.fram F9 hAf.2
    replace hB := hB.fram F9 (hAf.1.no hb3)
    replace hQ := hQ.ar hAf F9
    have hz := hF.size
    replace hF := ar_trans hF hnb F9
    replace hnb := nob_trans hnb hz hn1
    replace hAf := hAf.next hA1 hn1 h5l
    refine wl (ro_fieldAddr (k := 1) rfl fo_148_1) ?_
    refine wl_put rfl rfl rfl sz_3 h5 (by simp) (rfl) (fun w44 h5 F44 => ?_)
    have hcx_ := trivial
    replace hF := hF.thenDrew.thenO F44 (by first | exact .inr (by omega) | exact .inl rfl | exact .inl (by assumption) | assumption)
    replace hB := F44.blkO hB (by omega)
    replace hAf := hAf.hbput ((Fram.refl (one b5) _).thenDrew.thenO F44 (.inl rfl))
    replace hQ := hQ.hbput ((Fram.refl (one b5) _).thenDrew.thenO F44 (.inl rfl))
    refine wl_nil (x_then (hK92 _ _ ?_))
    clear hK92 K92
    refine c_reg ?_ -- region 36 flat.go:76
    refine wl (ro_move rfl) ?_
    refine wl (ro_move rfl) ?_
    refine wl (ro_nilCheck rfl) ?_
    refine wl (ro_fieldAddr (k := 2) rfl fo_295_2) ?_
    refine wl (ro_loadB rfl sc_188 (by assumption) rfl) ?_
    refine wl_call rfl en_78 (chain3 ih hAf.1 hQ.1.2.1 hQ.1.2.2 hb2 (by omega) (by omega) (by omega)) ?_
    rintro _ u2 ⟨rfl, U2, G2, hA2, hm2, hl2, hn2, F9⟩
    have h5l := h5.lt
    replace h5 := h5.fram F9 hAf.2
    replace hB := hB.fram F9 (hAf.1.no hb3)
    replace hQ := hQ.ar hAf F9
    have hz := hF.size
    replace hF := ar_trans hF hnb F9
    replace hnb := nob_trans hnb hz hn2
    replace hAf := hAf.next hA2 hn2 h5l
    refine wl (ro_fieldAddr (k := 2) rfl fo_148_2) ?_
    refine wl_put rfl rfl rfl sz_3 h5 (by simp) (rfl) (fun w45 h5 F45 => ?_)
    have hcx_ := trivial
    replace hF := hF.thenDrew.thenO F45 (by first | exact .inr (by omega) | exact .inl rfl | exact .inl (by assumption) | assumption)
    replace hB := F45.blkO hB (by omega)
    replace hAf := hAf.hbput ((Fram.refl (one b5) _).thenDrew.thenO F45 (.inl rfl))
    replace hQ := hQ.hbput ((Fram.refl (one b5) _).thenDrew.thenO F45 (.inl rfl))
    refine wl_nil (x_blk (x_then (hK82 _ _ ?_)))
    clear hK82 K82
    refine forget [(0, _), (5, _)] ⟨rfl, rfl, trivial⟩ (fun e => ?_)
    refine c_seq (fun K93 hK93 => ?_)
    refine c_reg ?_ -- region 57 flat.go:94
    refine wl (ro_move rfl) ?_
    refine wl (ro_loadAggB rfl ag_148 (by assumption) rfl rfl) ?_
    refine wl_call rfl en_227 (add227 (x := (⟨7, G.length + ndT a - 1, rt a2 G1.length, 0, 0, 0, []⟩, p)) hAf.1 (by omega)) ?_
    rintro _ u9 ⟨rfl, U9, G9, hA9, hm9, hl9, hn9, F9⟩
    refine wl (ro_assign rfl) ?_
    refine wl_nil (x_then (hK93 _ _ ?_))
    clear hK93 K93
    refine c_ret ?_
    refine bp_ret Tryz.results184 rfl ?_
    refine ⟨congrArg (fun z : Nat => i64c z) (by omega), U9, G9, hA9, ?_, by omega, nob_trans hnb hF.size hn9, ar_trans hF hnb F9⟩
    show _ = G.map Prod.fst ++ (lay a G.length ++ lay a2 (G.length + ndT a) ++ [⟨7, rt a G.length, rt a2 (G.length + ndT a), 0, 0, 0, []⟩])
    rw [hTa.lx0.rt, hm9, hm2, hm1]
    rw [hl1]
    try simp only [List.append_assoc]
  · skip
    obtain ⟨b, b1, p1, V, W, us, x, y, e1, hB, hC, hSn, hTa, hTb, hSl, hTl⟩ := TrM_for2.1 hT
    injection e1 with e1 _
    subst e1
    have hbn : ∀ k ∈ numsT a ++ (numsT a2 ++ numsT a3), k < 4611686018427387904 := hbn
    have hb1 : NmB a := fun k hk => hbn k (List.mem_append.2 (.inl hk))
    have hb2 : NmB a2 := fun k hk => hbn k (List.mem_append.2 (.inr (List.mem_append.2 (.inl hk))))
    have hb3' : NmB a3 := fun k hk => hbn k (List.mem_append.2 (.inr (List.mem_append.2 (.inr hk))))
    obtain ⟨va5, vc5, rfl⟩ := OwT.form hSl
    obtain ⟨va4, vc4, rfl⟩ := OwT.form hSn
    replace hC := hC.1
    have hcl := hC.lt
    have hb3 := hB.2
    replace hB := hB.1
    have hbl := hB.lt
    have hnd : ndT (St.for2 s1 a a2 a3) = 1 + ndT a + ndT a2 + ndT a3 := rfl
    refine c_reg ?_ -- region 0 flat.go:44
    refine wl (ro_assign rfl) ?_
    refine wl_nil (x_then (hK1 _ _ ?_))
    clear hK1 K1
    refine forget [(0, _), (1, _)] ⟨rfl, rfl, trivial⟩ (fun e => ?_)
    refine c_seq (fun K94 hK94 => ?_)
    refine c_reg ?_ -- region 1 flat.go:45
    refine wl (ro_move rfl) ?_
    refine wl_pos rfl (posR363 hB hC) (fun p ↦ ?_)
    refine wl (ro_build rfl bld_148_7) ?_
    refine wl_new (ze_148) (fun b5 w46 hbb5 h5 F46 => ?_)
    have hbsb5 := Nat.le_trans hF.size hbb5
    have hbsb5 := Nat.le_trans hL.size hbb5
    have hnebb5 : b < b5 := Nat.lt_of_lt_of_le hB.lt hbb5
    have hneb1b5 : b1 < b5 := Nat.lt_of_lt_of_le hC.lt hbb5
    replace hF := hF.thenDrew.thenN F46
    replace hL := hL.thenDrew.thenN F46
    replace hB := F46.blkN hB
    replace hC := F46.blkN hC
    refine wl_puta rfl rfl ((by (try exact vlc_cells _); all_goals simp [Value.oneCell', i64c, icv, u64c, u8c, ptr, S])) sz_148 (rfl) h5 ((by simp)) (rfl) (fun w47 h5 F47 => ?_)
    replace hF := hF.thenDrew.thenO F47 (by first | exact .inr (by omega) | exact .inl rfl | exact .inl (by assumption) | assumption)
    replace hL := hL.thenDrew.thenO F47 (by first | exact .inr (by omega) | exact .inl rfl | exact .inl (by assumption) | assumption)
    replace hB := F47.blkO hB (by omega)
    replace hC := F47.blkO hC (by omega)
    refine wl_nil (x_then (hK94 _ _ ?_))
    clear hK94 K94
    refine c_seq (fun K95 hK95 => ?_)
    refine c_seq (fun K96 hK96 => ?_)
    have hAf : ArF b5 _ ow sb c0 c1 U G := ⟨hA.farN hL, fun q => by
      rcases q with q | q
      · omega
      · have := hA.own.lt q; omega⟩
    have hQ : Cy b5 ow (fun u : World => SlM u ow (.slice va4 2 vc4) [x, y] ∧ TrM u ow 0 a [x] ∧ TrM u ow 0 a2 [y] ∧ SlM u ow (.slice va5 us.length vc5) us ∧ TrM u ow 3 a3 us) _ := ⟨⟨OwT.far hSn hL (fun _ _ _ h => h) (Xt.refl _ _), hTa.far hL (fun _ _ _ h => h) (Xt.refl _ _), hTb.far hL (fun _ _ _ h => h) (Xt.refl _ _), OwT.far hSl hL (fun _ _ _ h => h) (Xt.refl _ _), hTl.far hL (fun _ _ _ h => h) (Xt.refl _ _)⟩, hA.n3 b5 hbsb5, fun u u1 S ⟨q0, q1, q2, q3, q4⟩ f hn => ⟨OwT.far q0 f hn (Xt.refl _ _), q1.far f hn (Xt.refl _ _), q2.far f hn (Xt.refl _ _), OwT.far q3 f hn (Xt.refl _ _), q4.far f hn (Xt.refl _ _)⟩⟩
    refine c_reg ?_ -- region 2 flat.go:46
    refine wl (ro_move rfl) ?_
    refine wl_nil (x_then (hK96 _ _ ?_))
    clear hK96 K96
    refine c_block ?_
    refine forget [(0, _), (5, _), (19, _)] ⟨rfl, rfl, rfl, trivial⟩ (fun e => ?_)
    refine c_seq (fun K97 hK97 => ?_)
    refine c_reg ?_ -- region 3 flat.go:46
    refine wl (ro_taN rfl nif_354 rfl zi_354) ?_
    refine wl (ro_extract rfl rfl) ?_
    refine wl (ro_extract rfl rfl) ?_
    refine wl_nil (x_then (hK97 _ _ ?_))
    clear hK97 K97
    refine wc_condF rfl ?_
    refine c_seq (fun K98 hK98 => ?_)
    refine c_reg ?_ -- region 12 flat.go:46
    refine wl (ro_taN rfl nif_350 rfl zi_350) ?_
    refine wl (ro_extract rfl rfl) ?_
    refine wl (ro_extract rfl rfl) ?_
    refine wl_nil (x_then (hK98 _ _ ?_))
    clear hK98 K98
    refine wc_condF rfl ?_
    refine c_seq (fun K99 hK99 => ?_)
    refine c_reg ?_ -- region 17 flat.go:46
    refine wl (ro_taN rfl nif_307 rfl zi_307) ?_
    refine wl (ro_extract rfl rfl) ?_
    refine wl (ro_extract rfl rfl) ?_
    refine wl_nil (x_then (hK99 _ _ ?_))
    clear hK99 K99
    refine wc_condF rfl ?_
    refine c_seq (fun K100 hK100 => ?_)
    refine c_reg ?_ -- region 22 flat.go:46
    refine wl (ro_taN rfl nif_302 rfl zi_302) ?_
    refine wl (ro_extract rfl rfl) ?_
    refine wl (ro_extract rfl rfl) ?_
    refine wl_nil (x_then (hK100 _ _ ?_))
    clear hK100 K100
    refine wc_condF rfl ?_
    refine c_seq (fun K101 hK101 => ?_)
    refine c_reg ?_ -- region 26 flat.go:46
    refine wl (ro_taN rfl nif_357 rfl zi_357) ?_
    refine wl (ro_extract rfl rfl) ?_
    refine wl (ro_extract rfl rfl) ?_
    refine wl_nil (x_then (hK101 _ _ ?_))
    clear hK101 K101
    refine wc_condF rfl ?_
    refine c_seq (fun K102 hK102 => ?_)
    refine c_reg ?_ -- region 32 flat.go:46
    refine wl (ro_taN rfl nif_293 rfl zi_293) ?_
    refine wl (ro_extract rfl rfl) ?_
    refine wl (ro_extract rfl rfl) ?_
    refine wl_nil (x_then (hK102 _ _ ?_))
    clear hK102 K102
    refine wc_condF rfl ?_
    refine c_seq (fun K103 hK103 => ?_)
    refine c_reg ?_ -- region 37 flat.go:46
    refine wl (ro_taY rfl nif_363) ?_
    refine wl (ro_extract rfl rfl) ?_
    refine wl (ro_extract rfl rfl) ?_
    refine wl_nil (x_then (hK103 _ _ ?_))
    clear hK103 K103
    refine wc_condT rfl ?_
    refine c_seq (fun K104 hK104 => ?_)
    refine c_reg ?_ -- region 38 flat.go:46
    refine wl (ro_assign rfl) ?_
    refine wl_nil (x_then (hK104 _ _ ?_))
    clear hK104 K104
    refine forget [(0, _), (5, _), (12, _)] ⟨rfl, rfl, rfl, trivial⟩ (fun e => ?_)
    refine c_seq (fun K105 hK105 => ?_)
    refine c_reg ?_ -- region 39 flat.go:78
    refine wl (ro_fieldAddr (k := 0) rfl fo_148_0) ?_
    refine wl_put rfl rfl rfl sz_3 h5 (by simp) (rfl) (fun w48 h5 F48 => ?_)
    have hcx_ := trivial
    replace hF := hF.thenDrew.thenO F48 (by first | exact .inr (by omega) | exact .inl rfl | exact .inl (by assumption) | assumption)
    replace hB := F48.blkO hB (by omega)
    replace hC := F48.blkO hC (by omega)
    replace hAf := hAf.hbput ((Fram.refl (one b5) _).thenDrew.thenO F48 (.inl rfl))
    replace hQ := hQ.hbput ((Fram.refl (one b5) _).thenDrew.thenO F48 (.inl rfl))
    refine wl_nil (x_then (hK105 _ _ ?_))
    clear hK105 K105
    refine forget [(0, _), (5, _), (12, _)] ⟨rfl, rfl, rfl, trivial⟩ (fun e => ?_)
    refine c_seq (fun K106 hK106 => ?_)
    refine c_reg ?_ -- region 40 flat.go:79
    refine wl (ro_move rfl) ?_
    refine wl (ro_nilCheck rfl) ?_
    refine wl (ro_fieldAddr (k := 0) rfl fo_365_0) ?_
    refine wl (ro_loadB rfl sc_305 (by assumption) rfl) ?_
    refine wl (ro_nilCheck rfl) ?_
    refine wl (ro_fieldAddr (k := 1) rfl fo_349_1) ?_
    refine wl (ro_loadB rfl sc_9 (by assumption) rfl) ?_
    refine wl (ro_fieldAddr (k := 6) rfl fo_148_6) ?_
    refine wl_put rfl rfl rfl sz_9 h5 (by simp) (rfl) (fun w49 h5 F49 => ?_)
    have hcx_ := trivial
    replace hF := hF.thenDrew.thenO F49 (by first | exact .inr (by omega) | exact .inl rfl | exact .inl (by assumption) | assumption)
    replace hB := F49.blkO hB (by omega)
    replace hC := F49.blkO hC (by omega)
    replace hAf := hAf.hbput ((Fram.refl (one b5) _).thenDrew.thenO F49 (.inl rfl))
    replace hQ := hQ.hbput ((Fram.refl (one b5) _).thenDrew.thenO F49 (.inl rfl))
    refine wl_nil (x_then (hK106 _ _ ?_))
    clear hK106 K106
    refine forget [(0, _), (5, _), (12, _)] ⟨rfl, rfl, rfl, trivial⟩ (fun e => ?_)
    refine c_seq (fun K107 hK107 => ?_)
    refine c_reg ?_ -- region 41 flat.go:80
    refine wl (ro_move rfl) ?_
    refine wl (ro_move rfl) ?_
    refine wl (ro_nilCheck rfl) ?_
    refine wl (ro_fieldAddr (k := 1) rfl fo_365_1) ?_
    refine wl (ro_loadB rfl sc_188 (by assumption) rfl) ?_
    refine wl_call rfl en_78 (chainB2 ih hAf.1 hQ.1.1 hQ.1.2.1 hQ.1.2.2.1 hb1 hb2 (by omega) (by omega) (by omega)) ?_
    rintro _ u1 ⟨rfl, U1, G1, hA1, hm1, hl1, hn1, F9⟩
    have h5l := h5.lt
    replace h5 := h5.fram F9 hAf.2
    replace hB := hB.fram F9 (hAf.1.no hb3)
    replace hQ := hQ.ar hAf F9
    have hz := hF.size
    replace hF := ar_trans hF hnb F9
    replace hnb := nob_trans hnb hz hn1
    replace hAf := hAf.next hA1 hn1 h5l
    refine wl (ro_fieldAddr (k := 1) rfl fo_148_1) ?_
    refine wl_put rfl rfl rfl sz_3 h5 (by simp) (rfl) (fun w50 h5 F50 => ?_)
    have hcx_ := trivial
    replace hF := hF.thenDrew.thenO F50 (by first | exact .inr (by omega) | exact .inl rfl | exact .inl (by assumption) | assumption)
    replace hB := F50.blkO hB (by omega)
    replace hAf := hAf.hbput ((Fram.refl (one b5) _).thenDrew.thenO F50 (.inl rfl))
    replace hQ := hQ.hbput ((Fram.refl (one b5) _).thenDrew.thenO F50 (.inl rfl))
    refine wl_nil (x_then (hK107 _ _ ?_))
    clear hK107 K107
    refine c_reg ?_ -- region 42 flat.go:81
    refine wl (ro_move rfl) ?_
    refine wl (ro_move rfl) ?_
    refine wl (ro_nilCheck rfl) ?_
    refine wl (ro_fieldAddr (k := 2) rfl fo_365_2) ?_
    refine wl (ro_loadB rfl sc_188 (by assumption) rfl) ?_
    refine wl_call rfl en_78 (chain3 ih hAf.1 hQ.1.2.2.2.1 hQ.1.2.2.2.2 hb3' (by omega) (by omega) (by omega)) ?_
    rintro _ u2 ⟨rfl, U2, G2, hA2, hm2, hl2, hn2, F9⟩
    have h5l := h5.lt
    replace h5 := h5.fram F9 hAf.2
    replace hB := hB.fram F9 (hAf.1.no hb3)
    replace hQ := hQ.ar hAf F9
    have hz := hF.size
    replace hF := ar_trans hF hnb F9
    replace hnb := nob_trans hnb hz hn2
    replace hAf := hAf.next hA2 hn2 h5l
    refine wl (ro_fieldAddr (k := 2) rfl fo_148_2) ?_
    refine wl_put rfl rfl rfl sz_3 h5 (by simp) (rfl) (fun w51 h5 F51 => ?_)
    have hcx_ := trivial
    replace hF := hF.thenDrew.thenO F51 (by first | exact .inr (by omega) | exact .inl rfl | exact .inl (by assumption) | assumption)
    replace hB := F51.blkO hB (by omega)
    replace hAf := hAf.hbput ((Fram.refl (one b5) _).thenDrew.thenO F51 (.inl rfl))
    replace hQ := hQ.hbput ((Fram.refl (one b5) _).thenDrew.thenO F51 (.inl rfl))
    refine wl_nil (x_blk (x_then (hK95 _ _ ?_)))
    clear hK95 K95
    refine forget [(0, _), (5, _)] ⟨rfl, rfl, trivial⟩ (fun e => ?_)
    refine c_seq (fun K108 hK108 => ?_)
    refine c_reg ?_ -- region 57 flat.go:94
    refine wl (ro_move rfl) ?_
    refine wl (ro_loadAggB rfl ag_148 (by assumption) rfl rfl) ?_
    refine wl_call rfl en_227 (add227 (x := (⟨8, G.length + ndT a - 1, rt a3 G1.length, 0, 0, 0, s1⟩, p)) hAf.1 (by omega)) ?_
    rintro _ u9 ⟨rfl, U9, G9, hA9, hm9, hl9, hn9, F9⟩
    refine wl (ro_assign rfl) ?_
    refine wl_nil (x_then (hK108 _ _ ?_))
    clear hK108 K108
    refine c_ret ?_
    refine bp_ret Tryz.results184 rfl ?_
    refine ⟨congrArg (fun z : Nat => i64c z) (by omega), U9, G9, hA9, ?_, by omega, nob_trans hnb hF.size hn9, ar_trans hF hnb F9⟩
    show _ = G.map Prod.fst ++ (nxL (lay a G.length) (rt a2 (G.length + ndT a)) ++ lay a2 (G.length + ndT a) ++ lay a3 (G.length + ndT a + ndT a2) ++ [⟨8, rt a G.length, rt a3 (G.length + ndT a + ndT a2), 0, 0, 0, s1⟩])
    rw [hTa.lx0.rt, hm9, hm2, hm1]
    rw [show G1.length = G.length + ndT a + ndT a2 by omega]
    try simp only [List.append_assoc]
  · skip
    obtain ⟨b, b1, p1, V, W, us, x, y, z, e1, hB, hC, hSn, hTa, hTb, hTd, hSl, hTl⟩ := TrM_for3.1 hT
    injection e1 with e1 _
    subst e1
    have hbn : ∀ k ∈ numsT a ++ (numsT a2 ++ (numsT a3 ++ numsT a4)), k < 4611686018427387904 := hbn
    have hb1 : NmB a := fun k hk => hbn k (List.mem_append.2 (.inl hk))
    have hb2 : NmB a2 := fun k hk => hbn k (List.mem_append.2 (.inr (List.mem_append.2 (.inl hk))))
    have hb3' : NmB a3 := fun k hk => hbn k (List.mem_append.2 (.inr (List.mem_append.2 (.inr (List.mem_append.2 (.inl hk))))))
    have hb4 : NmB a4 := fun k hk => hbn k (List.mem_append.2 (.inr (List.mem_append.2 (.inr (List.mem_append.2 (.inr hk))))))
    obtain ⟨va5, vc5, rfl⟩ := OwT.form hSl
    obtain ⟨va4, vc4, rfl⟩ := OwT.form hSn
    replace hC := hC.1
    have hcl := hC.lt
    have hb3 := hB.2
    replace hB := hB.1
    have hbl := hB.lt
    have hnd : ndT (St.for3 s1 a a2 a3 a4) = 1 + ndT a + ndT a2 + ndT a3 + ndT a4 := rfl
    refine c_reg ?_ -- region 0 flat.go:44
    refine wl (ro_assign rfl) ?_
    refine wl_nil (x_then (hK1 _ _ ?_))
    clear hK1 K1
    refine forget [(0, _), (1, _)] ⟨rfl, rfl, trivial⟩ (fun e => ?_)
    refine c_seq (fun K109 hK109 => ?_)
    refine c_reg ?_ -- region 1 flat.go:45
    refine wl (ro_move rfl) ?_
    refine wl_pos rfl (posR363 hB hC) (fun p ↦ ?_)
    refine wl (ro_build rfl bld_148_7) ?_
    refine wl_new (ze_148) (fun b5 w52 hbb5 h5 F52 => ?_)
    have hbsb5 := Nat.le_trans hF.size hbb5
    have hbsb5 := Nat.le_trans hL.size hbb5
    have hnebb5 : b < b5 := Nat.lt_of_lt_of_le hB.lt hbb5
    have hneb1b5 : b1 < b5 := Nat.lt_of_lt_of_le hC.lt hbb5
    replace hF := hF.thenDrew.thenN F52
    replace hL := hL.thenDrew.thenN F52
    replace hB := F52.blkN hB
    replace hC := F52.blkN hC
    refine wl_puta rfl rfl ((by (try exact vlc_cells _); all_goals simp [Value.oneCell', i64c, icv, u64c, u8c, ptr, S])) sz_148 (rfl) h5 ((by simp)) (rfl) (fun w53 h5 F53 => ?_)
    replace hF := hF.thenDrew.thenO F53 (by first | exact .inr (by omega) | exact .inl rfl | exact .inl (by assumption) | assumption)
    replace hL := hL.thenDrew.thenO F53 (by first | exact .inr (by omega) | exact .inl rfl | exact .inl (by assumption) | assumption)
    replace hB := F53.blkO hB (by omega)
    replace hC := F53.blkO hC (by omega)
    refine wl_nil (x_then (hK109 _ _ ?_))
    clear hK109 K109
    refine c_seq (fun K110 hK110 => ?_)
    refine c_seq (fun K111 hK111 => ?_)
    have hAf : ArF b5 _ ow sb c0 c1 U G := ⟨hA.farN hL, fun q => by
      rcases q with q | q
      · omega
      · have := hA.own.lt q; omega⟩
    have hQ : Cy b5 ow (fun u : World => SlM u ow (.slice va4 3 vc4) [x, y, z] ∧ TrM u ow 0 a [x] ∧ TrM u ow 0 a2 [y] ∧ TrM u ow 0 a3 [z] ∧ SlM u ow (.slice va5 us.length vc5) us ∧ TrM u ow 3 a4 us) _ := ⟨⟨OwT.far hSn hL (fun _ _ _ h => h) (Xt.refl _ _), hTa.far hL (fun _ _ _ h => h) (Xt.refl _ _), hTb.far hL (fun _ _ _ h => h) (Xt.refl _ _), hTd.far hL (fun _ _ _ h => h) (Xt.refl _ _), OwT.far hSl hL (fun _ _ _ h => h) (Xt.refl _ _), hTl.far hL (fun _ _ _ h => h) (Xt.refl _ _)⟩, hA.n3 b5 hbsb5, fun u u1 S ⟨q0, q1, q2, q3, q4, q5⟩ f hn => ⟨OwT.far q0 f hn (Xt.refl _ _), q1.far f hn (Xt.refl _ _), q2.far f hn (Xt.refl _ _), q3.far f hn (Xt.refl _ _), OwT.far q4 f hn (Xt.refl _ _), q5.far f hn (Xt.refl _ _)⟩⟩
    refine c_reg ?_ -- region 2 flat.go:46
    refine wl (ro_move rfl) ?_
    refine wl_nil (x_then (hK111 _ _ ?_))
    clear hK111 K111
    refine c_block ?_
    refine forget [(0, _), (5, _), (19, _)] ⟨rfl, rfl, rfl, trivial⟩ (fun e => ?_)
    refine c_seq (fun K112 hK112 => ?_)
    refine c_reg ?_ -- region 3 flat.go:46
    refine wl (ro_taN rfl nif_354 rfl zi_354) ?_
    refine wl (ro_extract rfl rfl) ?_
    refine wl (ro_extract rfl rfl) ?_
    refine wl_nil (x_then (hK112 _ _ ?_))
    clear hK112 K112
    refine wc_condF rfl ?_
    refine c_seq (fun K113 hK113 => ?_)
    refine c_reg ?_ -- region 12 flat.go:46
    refine wl (ro_taN rfl nif_350 rfl zi_350) ?_
    refine wl (ro_extract rfl rfl) ?_
    refine wl (ro_extract rfl rfl) ?_
    refine wl_nil (x_then (hK113 _ _ ?_))
    clear hK113 K113
    refine wc_condF rfl ?_
    refine c_seq (fun K114 hK114 => ?_)
    refine c_reg ?_ -- region 17 flat.go:46
    refine wl (ro_taN rfl nif_307 rfl zi_307) ?_
    refine wl (ro_extract rfl rfl) ?_
    refine wl (ro_extract rfl rfl) ?_
    refine wl_nil (x_then (hK114 _ _ ?_))
    clear hK114 K114
    refine wc_condF rfl ?_
    refine c_seq (fun K115 hK115 => ?_)
    refine c_reg ?_ -- region 22 flat.go:46
    refine wl (ro_taN rfl nif_302 rfl zi_302) ?_
    refine wl (ro_extract rfl rfl) ?_
    refine wl (ro_extract rfl rfl) ?_
    refine wl_nil (x_then (hK115 _ _ ?_))
    clear hK115 K115
    refine wc_condF rfl ?_
    refine c_seq (fun K116 hK116 => ?_)
    refine c_reg ?_ -- region 26 flat.go:46
    refine wl (ro_taN rfl nif_357 rfl zi_357) ?_
    refine wl (ro_extract rfl rfl) ?_
    refine wl (ro_extract rfl rfl) ?_
    refine wl_nil (x_then (hK116 _ _ ?_))
    clear hK116 K116
    refine wc_condF rfl ?_
    refine c_seq (fun K117 hK117 => ?_)
    refine c_reg ?_ -- region 32 flat.go:46
    refine wl (ro_taN rfl nif_293 rfl zi_293) ?_
    refine wl (ro_extract rfl rfl) ?_
    refine wl (ro_extract rfl rfl) ?_
    refine wl_nil (x_then (hK117 _ _ ?_))
    clear hK117 K117
    refine wc_condF rfl ?_
    refine c_seq (fun K118 hK118 => ?_)
    refine c_reg ?_ -- region 37 flat.go:46
    refine wl (ro_taY rfl nif_363) ?_
    refine wl (ro_extract rfl rfl) ?_
    refine wl (ro_extract rfl rfl) ?_
    refine wl_nil (x_then (hK118 _ _ ?_))
    clear hK118 K118
    refine wc_condT rfl ?_
    refine c_seq (fun K119 hK119 => ?_)
    refine c_reg ?_ -- region 38 flat.go:46
    refine wl (ro_assign rfl) ?_
    refine wl_nil (x_then (hK119 _ _ ?_))
    clear hK119 K119
    refine forget [(0, _), (5, _), (12, _)] ⟨rfl, rfl, rfl, trivial⟩ (fun e => ?_)
    refine c_seq (fun K120 hK120 => ?_)
    refine c_reg ?_ -- region 39 flat.go:78
    refine wl (ro_fieldAddr (k := 0) rfl fo_148_0) ?_
    refine wl_put rfl rfl rfl sz_3 h5 (by simp) (rfl) (fun w54 h5 F54 => ?_)
    have hcx_ := trivial
    replace hF := hF.thenDrew.thenO F54 (by first | exact .inr (by omega) | exact .inl rfl | exact .inl (by assumption) | assumption)
    replace hB := F54.blkO hB (by omega)
    replace hC := F54.blkO hC (by omega)
    replace hAf := hAf.hbput ((Fram.refl (one b5) _).thenDrew.thenO F54 (.inl rfl))
    replace hQ := hQ.hbput ((Fram.refl (one b5) _).thenDrew.thenO F54 (.inl rfl))
    refine wl_nil (x_then (hK120 _ _ ?_))
    clear hK120 K120
    refine forget [(0, _), (5, _), (12, _)] ⟨rfl, rfl, rfl, trivial⟩ (fun e => ?_)
    refine c_seq (fun K121 hK121 => ?_)
    refine c_reg ?_ -- region 40 flat.go:79
    refine wl (ro_move rfl) ?_
    refine wl (ro_nilCheck rfl) ?_
    refine wl (ro_fieldAddr (k := 0) rfl fo_365_0) ?_
    refine wl (ro_loadB rfl sc_305 (by assumption) rfl) ?_
    refine wl (ro_nilCheck rfl) ?_
    refine wl (ro_fieldAddr (k := 1) rfl fo_349_1) ?_
    refine wl (ro_loadB rfl sc_9 (by assumption) rfl) ?_
    refine wl (ro_fieldAddr (k := 6) rfl fo_148_6) ?_
    refine wl_put rfl rfl rfl sz_9 h5 (by simp) (rfl) (fun w55 h5 F55 => ?_)
    have hcx_ := trivial
    replace hF := hF.thenDrew.thenO F55 (by first | exact .inr (by omega) | exact .inl rfl | exact .inl (by assumption) | assumption)
    replace hB := F55.blkO hB (by omega)
    replace hC := F55.blkO hC (by omega)
    replace hAf := hAf.hbput ((Fram.refl (one b5) _).thenDrew.thenO F55 (.inl rfl))
    replace hQ := hQ.hbput ((Fram.refl (one b5) _).thenDrew.thenO F55 (.inl rfl))
    refine wl_nil (x_then (hK121 _ _ ?_))
    clear hK121 K121
    refine forget [(0, _), (5, _), (12, _)] ⟨rfl, rfl, rfl, trivial⟩ (fun e => ?_)
    refine c_seq (fun K122 hK122 => ?_)
    refine c_reg ?_ -- region 41 flat.go:80
    refine wl (ro_move rfl) ?_
    refine wl (ro_move rfl) ?_
    refine wl (ro_nilCheck rfl) ?_
    refine wl (ro_fieldAddr (k := 1) rfl fo_365_1) ?_
    refine wl (ro_loadB rfl sc_188 (by assumption) rfl) ?_
    refine wl_call rfl en_78 (chainB3 ih hAf.1 hQ.1.1 hQ.1.2.1 hQ.1.2.2.1 hQ.1.2.2.2.1 hb1 hb2 hb3' (by omega) (by omega) (by omega)) ?_
    rintro _ u1 ⟨rfl, U1, G1, hA1, hm1, hl1, hn1, F9⟩
    have h5l := h5.lt
    replace h5 := h5.fram F9 hAf.2
    replace hB := hB.fram F9 (hAf.1.no hb3)
    replace hQ := hQ.ar hAf F9
    have hz := hF.size
    replace hF := ar_trans hF hnb F9
    replace hnb := nob_trans hnb hz hn1
    replace hAf := hAf.next hA1 hn1 h5l
    refine wl (ro_fieldAddr (k := 1) rfl fo_148_1) ?_
    refine wl_put rfl rfl rfl sz_3 h5 (by simp) (rfl) (fun w56 h5 F56 => ?_)
    have hcx_ := trivial
    replace hF := hF.thenDrew.thenO F56 (by first | exact .inr (by omega) | exact .inl rfl | exact .inl (by assumption) | assumption)
    replace hB := F56.blkO hB (by omega)
    replace hAf := hAf.hbput ((Fram.refl (one b5) _).thenDrew.thenO F56 (.inl rfl))
    replace hQ := hQ.hbput ((Fram.refl (one b5) _).thenDrew.thenO F56 (.inl rfl))
    refine wl_nil (x_then (hK122 _ _ ?_))
    clear hK122 K122
    refine c_reg ?_ -- region 42 flat.go:81
    refine wl (ro_move rfl) ?_
    refine wl (ro_move rfl) ?_
    refine wl (ro_nilCheck rfl) ?_
    refine wl (ro_fieldAddr (k := 2) rfl fo_365_2) ?_
    refine wl (ro_loadB rfl sc_188 (by assumption) rfl) ?_
    refine wl_call rfl en_78 (chain3 ih hAf.1 hQ.1.2.2.2.2.1 hQ.1.2.2.2.2.2 hb4 (by omega) (by omega) (by omega)) ?_
    rintro _ u2 ⟨rfl, U2, G2, hA2, hm2, hl2, hn2, F9⟩
    have h5l := h5.lt
    replace h5 := h5.fram F9 hAf.2
    replace hB := hB.fram F9 (hAf.1.no hb3)
    replace hQ := hQ.ar hAf F9
    have hz := hF.size
    replace hF := ar_trans hF hnb F9
    replace hnb := nob_trans hnb hz hn2
    replace hAf := hAf.next hA2 hn2 h5l
    refine wl (ro_fieldAddr (k := 2) rfl fo_148_2) ?_
    refine wl_put rfl rfl rfl sz_3 h5 (by simp) (rfl) (fun w57 h5 F57 => ?_)
    have hcx_ := trivial
    replace hF := hF.thenDrew.thenO F57 (by first | exact .inr (by omega) | exact .inl rfl | exact .inl (by assumption) | assumption)
    replace hB := F57.blkO hB (by omega)
    replace hAf := hAf.hbput ((Fram.refl (one b5) _).thenDrew.thenO F57 (.inl rfl))
    replace hQ := hQ.hbput ((Fram.refl (one b5) _).thenDrew.thenO F57 (.inl rfl))
    refine wl_nil (x_blk (x_then (hK110 _ _ ?_)))
    clear hK110 K110
    refine forget [(0, _), (5, _)] ⟨rfl, rfl, trivial⟩ (fun e => ?_)
    refine c_seq (fun K123 hK123 => ?_)
    refine c_reg ?_ -- region 57 flat.go:94
    refine wl (ro_move rfl) ?_
    refine wl (ro_loadAggB rfl ag_148 (by assumption) rfl rfl) ?_
    refine wl_call rfl en_227 (add227 (x := (⟨8, G.length + ndT a - 1, rt a4 G1.length, 0, 0, 0, s1⟩, p)) hAf.1 (by omega)) ?_
    rintro _ u9 ⟨rfl, U9, G9, hA9, hm9, hl9, hn9, F9⟩
    refine wl (ro_assign rfl) ?_
    refine wl_nil (x_then (hK123 _ _ ?_))
    clear hK123 K123
    refine c_ret ?_
    refine bp_ret Tryz.results184 rfl ?_
    refine ⟨congrArg (fun z : Nat => i64c z) (by omega), U9, G9, hA9, ?_, by omega, nob_trans hnb hF.size hn9, ar_trans hF hnb F9⟩
    show _ = G.map Prod.fst ++ (nxL (lay a G.length) (rt a2 (G.length + ndT a)) ++ nxL (lay a2 (G.length + ndT a)) (rt a3 (G.length + ndT a + ndT a2)) ++ lay a3 (G.length + ndT a + ndT a2) ++ lay a4 (G.length + ndT a + ndT a2 + ndT a3) ++ [⟨8, rt a G.length, rt a4 (G.length + ndT a + ndT a2 + ndT a3), 0, 0, 0, s1⟩])
    rw [hTa.lx0.rt, hm9, hm2, hm1]
    rw [show G1.length = G.length + ndT a + ndT a2 + ndT a3 by omega]
    try simp only [List.append_assoc]
  · skip
    obtain ⟨b, V, ns, x, W, us, e1, hB, hSn, hNm, hTa, hSl, hTl⟩ := TrM_forIn.1 hT
    injection e1 with e1 _
    subst e1
    have hbn : ∀ k ∈ numsT a ++ numsT a2, k < 4611686018427387904 := hbn
    have hb1 : NmB a := fun k hk => hbn k (List.mem_append.2 (.inl hk))
    have hb2 : NmB a2 := fun k hk => hbn k (List.mem_append.2 (.inr hk))
    have hposr := posR360 hB.1 hSn hNm
    have hNm0 := hNm
    obtain ⟨b6, p6, r6, rfl, hC6, b7, p7, r7, rfl, hC7, rfl⟩ := hNm0
    obtain ⟨va4, vc4, rfl⟩ := OwT.form hSn
    obtain ⟨va5, vc5, rfl⟩ := OwT.form hSl
    have hb3 := hB.2
    replace hB := hB.1
    have hbl := hB.lt
    have hnd : ndT (St.forIn s1 s2 a a2) = 3 + ndT a + ndT a2 := rfl
    refine c_reg ?_ -- region 0 flat.go:44
    refine wl (ro_assign rfl) ?_
    refine wl_nil (x_then (hK1 _ _ ?_))
    clear hK1 K1
    refine forget [(0, _), (1, _)] ⟨rfl, rfl, trivial⟩ (fun e => ?_)
    refine c_seq (fun K124 hK124 => ?_)
    refine c_reg ?_ -- region 1 flat.go:45
    refine wl (ro_move rfl) ?_
    refine wl_pos rfl (hposr) (fun p ↦ ?_)
    refine wl (ro_build rfl bld_148_7) ?_
    refine wl_new (ze_148) (fun b5 w58 hbb5 h5 F58 => ?_)
    have hbsb5 := Nat.le_trans hF.size hbb5
    have hbsb5 := Nat.le_trans hL.size hbb5
    have hnebb5 : b < b5 := Nat.lt_of_lt_of_le hB.lt hbb5
    replace hF := hF.thenDrew.thenN F58
    replace hL := hL.thenDrew.thenN F58
    replace hB := F58.blkN hB
    refine wl_puta rfl rfl ((by (try exact vlc_cells _); all_goals simp [Value.oneCell', i64c, icv, u64c, u8c, ptr, S])) sz_148 (rfl) h5 ((by simp)) (rfl) (fun w59 h5 F59 => ?_)
    replace hF := hF.thenDrew.thenO F59 (by first | exact .inr (by omega) | exact .inl rfl | exact .inl (by assumption) | assumption)
    replace hL := hL.thenDrew.thenO F59 (by first | exact .inr (by omega) | exact .inl rfl | exact .inl (by assumption) | assumption)
    replace hB := F59.blkO hB (by omega)
    refine wl_nil (x_then (hK124 _ _ ?_))
    clear hK124 K124
    refine c_seq (fun K125 hK125 => ?_)
    refine c_seq (fun K126 hK126 => ?_)
    have hAf : ArF b5 _ ow sb c0 c1 U G := ⟨hA.farN hL, fun q => by
      rcases q with q | q
      · omega
      · have := hA.own.lt q; omega⟩
    have hQ : Cy b5 ow (fun u : World => SlM u ow (.slice va4 2 vc4) [.iface 305 (ptr b6), .iface 305 (ptr b7)] ∧ nmM u ow [s1, s2] [.iface 305 (ptr b6), .iface 305 (ptr b7)] ∧ TrM u ow 0 a [x] ∧ SlM u ow (.slice va5 us.length vc5) us ∧ TrM u ow 3 a2 us) _ := ⟨⟨OwT.far hSn hL (fun _ _ _ h => h) (Xt.refl _ _), nmM.farG hL (fun _ _ _ h => h) hNm, hTa.far hL (fun _ _ _ h => h) (Xt.refl _ _), OwT.far hSl hL (fun _ _ _ h => h) (Xt.refl _ _), hTl.far hL (fun _ _ _ h => h) (Xt.refl _ _)⟩, hA.n3 b5 hbsb5, fun u u1 S ⟨q0, q1, q2, q3, q4⟩ f hn => ⟨OwT.far q0 f hn (Xt.refl _ _), nmM.farG f hn q1, q2.far f hn (Xt.refl _ _), OwT.far q3 f hn (Xt.refl _ _), q4.far f hn (Xt.refl _ _)⟩⟩
    refine c_reg ?_ -- region 2 flat.go:46
    refine wl (ro_move rfl) ?_
    refine wl_nil (x_then (hK126 _ _ ?_))
    clear hK126 K126
    refine c_block ?_
    refine forget [(0, _), (5, _), (19, _)] ⟨rfl, rfl, rfl, trivial⟩ (fun e => ?_)
    refine c_seq (fun K127 hK127 => ?_)
    refine c_reg ?_ -- region 3 flat.go:46
    refine wl (ro_taN rfl nif_354 rfl zi_354) ?_
    refine wl (ro_extract rfl rfl) ?_
    refine wl (ro_extract rfl rfl) ?_
    refine wl_nil (x_then (hK127 _ _ ?_))
    clear hK127 K127
    refine wc_condF rfl ?_
    refine c_seq (fun K128 hK128 => ?_)
    refine c_reg ?_ -- region 12 flat.go:46
    refine wl (ro_taN rfl nif_350 rfl zi_350) ?_
    refine wl (ro_extract rfl rfl) ?_
    refine wl (ro_extract rfl rfl) ?_
    refine wl_nil (x_then (hK128 _ _ ?_))
    clear hK128 K128
    refine wc_condF rfl ?_
    refine c_seq (fun K129 hK129 => ?_)
    refine c_reg ?_ -- region 17 flat.go:46
    refine wl (ro_taN rfl nif_307 rfl zi_307) ?_
    refine wl (ro_extract rfl rfl) ?_
    refine wl (ro_extract rfl rfl) ?_
    refine wl_nil (x_then (hK129 _ _ ?_))
    clear hK129 K129
    refine wc_condF rfl ?_
    refine c_seq (fun K130 hK130 => ?_)
    refine c_reg ?_ -- region 22 flat.go:46
    refine wl (ro_taN rfl nif_302 rfl zi_302) ?_
    refine wl (ro_extract rfl rfl) ?_
    refine wl (ro_extract rfl rfl) ?_
    refine wl_nil (x_then (hK130 _ _ ?_))
    clear hK130 K130
    refine wc_condF rfl ?_
    refine c_seq (fun K131 hK131 => ?_)
    refine c_reg ?_ -- region 26 flat.go:46
    refine wl (ro_taN rfl nif_357 rfl zi_357) ?_
    refine wl (ro_extract rfl rfl) ?_
    refine wl (ro_extract rfl rfl) ?_
    refine wl_nil (x_then (hK131 _ _ ?_))
    clear hK131 K131
    refine wc_condF rfl ?_
    refine c_seq (fun K132 hK132 => ?_)
    refine c_reg ?_ -- region 32 flat.go:46
    refine wl (ro_taN rfl nif_293 rfl zi_293) ?_
    refine wl (ro_extract rfl rfl) ?_
    refine wl (ro_extract rfl rfl) ?_
    refine wl_nil (x_then (hK132 _ _ ?_))
    clear hK132 K132
    refine wc_condF rfl ?_
    refine c_seq (fun K133 hK133 => ?_)
    refine c_reg ?_ -- region 37 flat.go:46
    refine wl (ro_taN rfl nif_363 rfl zi_363) ?_
    refine wl (ro_extract rfl rfl) ?_
    refine wl (ro_extract rfl rfl) ?_
    refine wl_nil (x_then (hK133 _ _ ?_))
    clear hK133 K133
    refine wc_condF rfl ?_
    refine c_seq (fun K134 hK134 => ?_)
    refine c_reg ?_ -- region 43 flat.go:46
    refine wl (ro_taY rfl nif_360) ?_
    refine wl (ro_extract rfl rfl) ?_
    refine wl (ro_extract rfl rfl) ?_
    refine wl_nil (x_then (hK134 _ _ ?_))
    clear hK134 K134
    refine wc_condT rfl ?_
    refine c_seq (fun K135 hK135 => ?_)
    refine c_reg ?_ -- region 44 flat.go:46
    refine wl (ro_assign rfl) ?_
    refine wl_nil (x_then (hK135 _ _ ?_))
    clear hK135 K135
    refine forget [(0, _), (5, _), (13, _)] ⟨rfl, rfl, rfl, trivial⟩ (fun e => ?_)
    refine c_seq (fun K136 hK136 => ?_)
    refine c_reg ?_ -- region 45 flat.go:83
    refine wl (ro_fieldAddr (k := 0) rfl fo_148_0) ?_
    refine wl_put rfl rfl rfl sz_3 h5 (by simp) (rfl) (fun w60 h5 F60 => ?_)
    have hcx_ := trivial
    replace hF := hF.thenDrew.thenO F60 (by first | exact .inr (by omega) | exact .inl rfl | exact .inl (by assumption) | assumption)
    replace hB := F60.blkO hB (by omega)
    replace hAf := hAf.hbput ((Fram.refl (one b5) _).thenDrew.thenO F60 (.inl rfl))
    replace hQ := hQ.hbput ((Fram.refl (one b5) _).thenDrew.thenO F60 (.inl rfl))
    refine wl_nil (x_then (hK136 _ _ ?_))
    clear hK136 K136
    refine forget [(0, _), (5, _), (13, _)] ⟨rfl, rfl, rfl, trivial⟩ (fun e => ?_)
    refine c_seq (fun K137 hK137 => ?_)
    refine c_reg ?_ -- region 46 flat.go:84
    refine wl (ro_move rfl) ?_
    refine wl (ro_move rfl) ?_
    refine wl (ro_nilCheck rfl) ?_
    refine wl (ro_fieldAddr (k := 0) rfl fo_362_0) ?_
    refine wl (ro_loadB rfl sc_188 (by assumption) rfl) ?_
    refine wl_call rfl en_78 (chainN ih hAf.1 hQ.1.1 hQ.1.2.1 (by show 2 ≤ n; omega) (by omega) (by show G.length + 2 ≤ 1000000000; omega)) ?_
    rintro _ u1 ⟨rfl, U1, G1, hA1, hm1, hl1, hn1, F9⟩
    have h5l := h5.lt
    replace h5 := h5.fram F9 hAf.2
    replace hB := hB.fram F9 (hAf.1.no hb3)
    replace hQ := hQ.ar hAf F9
    have hz := hF.size
    replace hF := ar_trans hF hnb F9
    replace hnb := nob_trans hnb hz hn1
    replace hAf := hAf.next hA1 hn1 h5l
    replace hl1 : G1.length = G.length + 2 := hl1
    refine wl (ro_fieldAddr (k := 1) rfl fo_148_1) ?_
    refine wl_put rfl rfl rfl sz_3 h5 (by simp) (rfl) (fun w61 h5 F61 => ?_)
    have hcx_ := trivial
    replace hF := hF.thenDrew.thenO F61 (by first | exact .inr (by omega) | exact .inl rfl | exact .inl (by assumption) | assumption)
    replace hB := F61.blkO hB (by omega)
    replace hAf := hAf.hbput ((Fram.refl (one b5) _).thenDrew.thenO F61 (.inl rfl))
    replace hQ := hQ.hbput ((Fram.refl (one b5) _).thenDrew.thenO F61 (.inl rfl))
    refine wl_nil (x_then (hK137 _ _ ?_))
    clear hK137 K137
    refine forget [(0, _), (5, _), (13, _)] ⟨rfl, rfl, rfl, trivial⟩ (fun e => ?_)
    refine c_seq (fun K138 hK138 => ?_)
    refine c_reg ?_ -- region 47 flat.go:85
    refine wl (ro_move rfl) ?_
    refine wl (ro_move rfl) ?_
    refine wl (ro_nilCheck rfl) ?_
    refine wl (ro_fieldAddr (k := 1) rfl fo_362_1) ?_
    refine wl (ro_loadB rfl sc_290 (by assumption) rfl) ?_
    refine wl_call rfl en_185 (ih.e hAf.1 hQ.1.2.2.1 hb1 (by omega) (by omega) (by omega)) ?_
    rintro _ u2 ⟨rfl, U2, G2, hA2, hm2, hl2, hn2, F9⟩
    have h5l := h5.lt
    replace h5 := h5.fram F9 hAf.2
    replace hB := hB.fram F9 (hAf.1.no hb3)
    replace hQ := hQ.ar hAf F9
    have hz := hF.size
    replace hF := ar_trans hF hnb F9
    replace hnb := nob_trans hnb hz hn2
    replace hAf := hAf.next hA2 hn2 h5l
    refine wl (ro_fieldAddr (k := 2) rfl fo_148_2) ?_
    refine wl_put rfl rfl rfl sz_3 h5 (by simp) (rfl) (fun w62 h5 F62 => ?_)
    have hcx_ := trivial
    replace hF := hF.thenDrew.thenO F62 (by first | exact .inr (by omega) | exact .inl rfl | exact .inl (by assumption) | assumption)
    replace hB := F62.blkO hB (by omega)
    replace hAf := hAf.hbput ((Fram.refl (one b5) _).thenDrew.thenO F62 (.inl rfl))
    replace hQ := hQ.hbput ((Fram.refl (one b5) _).thenDrew.thenO F62 (.inl rfl))
    refine wl_nil (x_then (hK138 _ _ ?_))
    clear hK138 K138
    refine c_reg ?_ -- region 48 flat.go:86
    refine wl (ro_move rfl) ?_
    refine wl (ro_move rfl) ?_
    refine wl (ro_nilCheck rfl) ?_
    refine wl (ro_fieldAddr (k := 2) rfl fo_362_2) ?_
    refine wl (ro_loadB rfl sc_188 (by assumption) rfl) ?_
    refine wl_call rfl en_78 (chain3 ih hAf.1 hQ.1.2.2.2.1 hQ.1.2.2.2.2 hb2 (by omega) (by omega) (by omega)) ?_
    rintro _ u3 ⟨rfl, U3, G3, hA3, hm3, hl3, hn3, F9⟩
    have h5l := h5.lt
    replace h5 := h5.fram F9 hAf.2
    replace hB := hB.fram F9 (hAf.1.no hb3)
    replace hQ := hQ.ar hAf F9
    have hz := hF.size
    replace hF := ar_trans hF hnb F9
    replace hnb := nob_trans hnb hz hn3
    replace hAf := hAf.next hA3 hn3 h5l
    refine wl (ro_fieldAddr (k := 3) rfl fo_148_3) ?_
    refine wl_put rfl rfl rfl sz_3 h5 (by simp) (rfl) (fun w63 h5 F63 => ?_)
    have hcx_ := trivial
    replace hF := hF.thenDrew.thenO F63 (by first | exact .inr (by omega) | exact .inl rfl | exact .inl (by assumption) | assumption)
    replace hB := F63.blkO hB (by omega)
    replace hAf := hAf.hbput ((Fram.refl (one b5) _).thenDrew.thenO F63 (.inl rfl))
    replace hQ := hQ.hbput ((Fram.refl (one b5) _).thenDrew.thenO F63 (.inl rfl))
    refine wl_nil (x_blk (x_then (hK125 _ _ ?_)))
    clear hK125 K125
    refine forget [(0, _), (5, _)] ⟨rfl, rfl, trivial⟩ (fun e => ?_)
    refine c_seq (fun K139 hK139 => ?_)
    refine c_reg ?_ -- region 57 flat.go:94
    refine wl (ro_move rfl) ?_
    refine wl (ro_loadAggB rfl ag_148 (by assumption) rfl rfl) ?_
    refine wl_call rfl en_227 (add227 (x := (⟨9, G.length, G1.length + ndT a - 1, rt a2 G2.length, 0, 0, []⟩, p)) hAf.1 (by omega)) ?_
    rintro _ u9 ⟨rfl, U9, G9, hA9, hm9, hl9, hn9, F9⟩
    refine wl (ro_assign rfl) ?_
    refine wl_nil (x_then (hK139 _ _ ?_))
    clear hK139 K139
    refine c_ret ?_
    refine bp_ret Tryz.results184 rfl ?_
    refine ⟨congrArg (fun z : Nat => i64c z) (by omega), U9, G9, hA9, ?_, by omega, nob_trans hnb hF.size hn9, ar_trans hF hnb F9⟩
    show _ = G.map Prod.fst ++ (layN [s1, s2] G.length ++ (lay a (G.length + 2) ++ lay a2 (G.length + 2 + ndT a) ++ [⟨9, G.length, rt a (G.length + 2), rt a2 (G.length + 2 + ndT a), 0, 0, []⟩]))
    rw [hTa.lx0.rt, hm9, hm3, hm2, hm1]
    rw [show G2.length = G.length + 2 + ndT a by rw [hl2, hl1], show G1.length = G.length + 2 from hl1]
    try simp only [List.append_assoc]
  · skip
    obtain ⟨b, pp, e1, hB⟩ := TrM_ret0.1 hT
    injection e1 with e1 _
    subst e1
    have hb3 := hB.2
    replace hB := hB.1
    have hbl := hB.lt
    have hnd : ndT (St.ret0) = 1 := rfl
    refine c_reg ?_ -- region 0 flat.go:44
    refine wl (ro_assign rfl) ?_
    refine wl_nil (x_then (hK1 _ _ ?_))
    clear hK1 K1
    refine forget [(0, _), (1, _)] ⟨rfl, rfl, trivial⟩ (fun e => ?_)
    refine c_seq (fun K140 hK140 => ?_)
    refine c_reg ?_ -- region 1 flat.go:45
    refine wl (ro_move rfl) ?_
    refine wl_pos rfl (posR239 hB) (fun p ↦ ?_)
    refine wl (ro_build rfl bld_148_7) ?_
    refine wl_new (ze_148) (fun b5 w64 hbb5 h5 F64 => ?_)
    have hbsb5 := Nat.le_trans hF.size hbb5
    have hbsb5 := Nat.le_trans hL.size hbb5
    have hnebb5 : b < b5 := Nat.lt_of_lt_of_le hB.lt hbb5
    replace hF := hF.thenDrew.thenN F64
    replace hL := hL.thenDrew.thenN F64
    replace hB := F64.blkN hB
    refine wl_puta rfl rfl ((by (try exact vlc_cells _); all_goals simp [Value.oneCell', i64c, icv, u64c, u8c, ptr, S])) sz_148 (rfl) h5 ((by simp)) (rfl) (fun w65 h5 F65 => ?_)
    replace hF := hF.thenDrew.thenO F65 (by first | exact .inr (by omega) | exact .inl rfl | exact .inl (by assumption) | assumption)
    replace hL := hL.thenDrew.thenO F65 (by first | exact .inr (by omega) | exact .inl rfl | exact .inl (by assumption) | assumption)
    replace hB := F65.blkO hB (by omega)
    refine wl_nil (x_then (hK140 _ _ ?_))
    clear hK140 K140
    refine c_seq (fun K141 hK141 => ?_)
    refine c_seq (fun K142 hK142 => ?_)
    have hAf : ArF b5 _ ow sb c0 c1 U G := ⟨hA.farN hL, fun q => by
      rcases q with q | q
      · omega
      · have := hA.own.lt q; omega⟩
    refine c_reg ?_ -- region 2 flat.go:46
    refine wl (ro_move rfl) ?_
    refine wl_nil (x_then (hK142 _ _ ?_))
    clear hK142 K142
    refine c_block ?_
    refine forget [(0, _), (5, _), (19, _)] ⟨rfl, rfl, rfl, trivial⟩ (fun e => ?_)
    refine c_seq (fun K143 hK143 => ?_)
    refine c_reg ?_ -- region 3 flat.go:46
    refine wl (ro_taN rfl nif_354 rfl zi_354) ?_
    refine wl (ro_extract rfl rfl) ?_
    refine wl (ro_extract rfl rfl) ?_
    refine wl_nil (x_then (hK143 _ _ ?_))
    clear hK143 K143
    refine wc_condF rfl ?_
    refine c_seq (fun K144 hK144 => ?_)
    refine c_reg ?_ -- region 12 flat.go:46
    refine wl (ro_taN rfl nif_350 rfl zi_350) ?_
    refine wl (ro_extract rfl rfl) ?_
    refine wl (ro_extract rfl rfl) ?_
    refine wl_nil (x_then (hK144 _ _ ?_))
    clear hK144 K144
    refine wc_condF rfl ?_
    refine c_seq (fun K145 hK145 => ?_)
    refine c_reg ?_ -- region 17 flat.go:46
    refine wl (ro_taN rfl nif_307 rfl zi_307) ?_
    refine wl (ro_extract rfl rfl) ?_
    refine wl (ro_extract rfl rfl) ?_
    refine wl_nil (x_then (hK145 _ _ ?_))
    clear hK145 K145
    refine wc_condF rfl ?_
    refine c_seq (fun K146 hK146 => ?_)
    refine c_reg ?_ -- region 22 flat.go:46
    refine wl (ro_taN rfl nif_302 rfl zi_302) ?_
    refine wl (ro_extract rfl rfl) ?_
    refine wl (ro_extract rfl rfl) ?_
    refine wl_nil (x_then (hK146 _ _ ?_))
    clear hK146 K146
    refine wc_condF rfl ?_
    refine c_seq (fun K147 hK147 => ?_)
    refine c_reg ?_ -- region 26 flat.go:46
    refine wl (ro_taN rfl nif_357 rfl zi_357) ?_
    refine wl (ro_extract rfl rfl) ?_
    refine wl (ro_extract rfl rfl) ?_
    refine wl_nil (x_then (hK147 _ _ ?_))
    clear hK147 K147
    refine wc_condF rfl ?_
    refine c_seq (fun K148 hK148 => ?_)
    refine c_reg ?_ -- region 32 flat.go:46
    refine wl (ro_taN rfl nif_293 rfl zi_293) ?_
    refine wl (ro_extract rfl rfl) ?_
    refine wl (ro_extract rfl rfl) ?_
    refine wl_nil (x_then (hK148 _ _ ?_))
    clear hK148 K148
    refine wc_condF rfl ?_
    refine c_seq (fun K149 hK149 => ?_)
    refine c_reg ?_ -- region 37 flat.go:46
    refine wl (ro_taN rfl nif_363 rfl zi_363) ?_
    refine wl (ro_extract rfl rfl) ?_
    refine wl (ro_extract rfl rfl) ?_
    refine wl_nil (x_then (hK149 _ _ ?_))
    clear hK149 K149
    refine wc_condF rfl ?_
    refine c_seq (fun K150 hK150 => ?_)
    refine c_reg ?_ -- region 43 flat.go:46
    refine wl (ro_taN rfl nif_360 rfl zi_360) ?_
    refine wl (ro_extract rfl rfl) ?_
    refine wl (ro_extract rfl rfl) ?_
    refine wl_nil (x_then (hK150 _ _ ?_))
    clear hK150 K150
    refine wc_condF rfl ?_
    refine c_seq (fun K151 hK151 => ?_)
    refine c_reg ?_ -- region 49 flat.go:46
    refine wl (ro_taY rfl nif_239) ?_
    refine wl (ro_extract rfl rfl) ?_
    refine wl (ro_extract rfl rfl) ?_
    refine wl_nil (x_then (hK151 _ _ ?_))
    clear hK151 K151
    refine wc_condT rfl ?_
    refine c_seq (fun K152 hK152 => ?_)
    refine c_reg ?_ -- region 50 flat.go:46
    refine wl (ro_assign rfl) ?_
    refine wl_nil (x_then (hK152 _ _ ?_))
    clear hK152 K152
    refine forget [(0, _), (5, _), (14, _)] ⟨rfl, rfl, rfl, trivial⟩ (fun e => ?_)
    refine c_seq (fun K153 hK153 => ?_)
    refine c_reg ?_ -- region 51 flat.go:88
    refine wl (ro_fieldAddr (k := 0) rfl fo_148_0) ?_
    refine wl_put rfl rfl rfl sz_3 h5 (by simp) (rfl) (fun w66 h5 F66 => ?_)
    have hcx_ := trivial
    replace hF := hF.thenDrew.thenO F66 (by first | exact .inr (by omega) | exact .inl rfl | exact .inl (by assumption) | assumption)
    replace hB := F66.blkO hB (by omega)
    replace hAf := hAf.hbput ((Fram.refl (one b5) _).thenDrew.thenO F66 (.inl rfl))
    refine wl_nil (x_then (hK153 _ _ ?_))
    clear hK153 K153
    refine forget [(0, _), (5, _), (14, _)] ⟨rfl, rfl, rfl, trivial⟩ (fun e => ?_)
    refine c_seq (fun K154 hK154 => ?_)
    refine c_reg ?_ -- region 52 flat.go:89
    refine wl (ro_move rfl) ?_
    refine wl (ro_move rfl) ?_
    refine wl (ro_nilCheck rfl) ?_
    refine wl (ro_fieldAddr (k := 1) rfl fo_373_1) ?_
    refine wl (ro_loadB rfl sc_290 (by assumption) rfl) ?_
    refine wl_call rfl en_226 (opt226N) ?_
    rintro _ _ ⟨rfl, rfl⟩
    refine wl (ro_fieldAddr (k := 1) rfl fo_148_1) ?_
    refine wl_put rfl rfl rfl sz_3 h5 (by simp) (rfl) (fun w67 h5 F67 => ?_)
    have hcx_ := trivial
    replace hF := hF.thenDrew.thenO F67 (by first | exact .inr (by omega) | exact .inl rfl | exact .inl (by assumption) | assumption)
    replace hB := F67.blkO hB (by omega)
    replace hAf := hAf.hbput ((Fram.refl (one b5) _).thenDrew.thenO F67 (.inl rfl))
    refine wl_nil (x_then (hK154 _ _ ?_))
    clear hK154 K154
    refine c_reg ?_ -- region 53 flat.go:90
    refine wl (ro_move rfl) ?_
    refine wl (ro_move rfl) ?_
    refine wl (ro_nilCheck rfl) ?_
    refine wl (ro_fieldAddr (k := 2) rfl fo_373_2) ?_
    refine wl (ro_loadB rfl sc_290 (by assumption) rfl) ?_
    refine wl_call rfl en_226 (opt226N) ?_
    rintro _ _ ⟨rfl, rfl⟩
    refine wl (ro_fieldAddr (k := 2) rfl fo_148_2) ?_
    refine wl_put rfl rfl rfl sz_3 h5 (by simp) (rfl) (fun w68 h5 F68 => ?_)
    have hcx_ := trivial
    replace hF := hF.thenDrew.thenO F68 (by first | exact .inr (by omega) | exact .inl rfl | exact .inl (by assumption) | assumption)
    replace hB := F68.blkO hB (by omega)
    replace hAf := hAf.hbput ((Fram.refl (one b5) _).thenDrew.thenO F68 (.inl rfl))
    refine wl_nil (x_blk (x_then (hK141 _ _ ?_)))
    clear hK141 K141
    refine forget [(0, _), (5, _)] ⟨rfl, rfl, trivial⟩ (fun e => ?_)
    refine c_seq (fun K155 hK155 => ?_)
    refine c_reg ?_ -- region 57 flat.go:94
    refine wl (ro_move rfl) ?_
    refine wl (ro_loadAggB rfl ag_148 (by assumption) rfl rfl) ?_
    refine wl_call rfl en_227 (add227 (x := (⟨10, 0, 0, 0, 0, 0, []⟩, p)) hAf.1 (by omega)) ?_
    rintro _ u9 ⟨rfl, U9, G9, hA9, hm9, hl9, hn9, F9⟩
    refine wl (ro_assign rfl) ?_
    refine wl_nil (x_then (hK155 _ _ ?_))
    clear hK155 K155
    refine c_ret ?_
    refine bp_ret Tryz.results184 rfl ?_
    refine ⟨congrArg (fun z : Nat => i64c z) (by omega), U9, G9, hA9, ?_, by omega, nob_trans hnb hF.size hn9, ar_trans hF hnb F9⟩
    show _ = G.map Prod.fst ++ ([⟨10, 0, 0, 0, 0, 0, []⟩])
    rw [hm9]
    try simp only [List.append_assoc]
  · skip
    obtain ⟨b, pp, x, e1, hB, hTa⟩ := TrM_ret1.1 hT
    injection e1 with e1 _
    subst e1
    have hb1 : NmB a := hbn
    have hb3 := hB.2
    replace hB := hB.1
    have hbl := hB.lt
    have hnd : ndT (St.ret1 a) = 1 + ndT a := rfl
    refine c_reg ?_ -- region 0 flat.go:44
    refine wl (ro_assign rfl) ?_
    refine wl_nil (x_then (hK1 _ _ ?_))
    clear hK1 K1
    refine forget [(0, _), (1, _)] ⟨rfl, rfl, trivial⟩ (fun e => ?_)
    refine c_seq (fun K156 hK156 => ?_)
    refine c_reg ?_ -- region 1 flat.go:45
    refine wl (ro_move rfl) ?_
    refine wl_pos rfl (posR239 hB) (fun p ↦ ?_)
    refine wl (ro_build rfl bld_148_7) ?_
    refine wl_new (ze_148) (fun b5 w69 hbb5 h5 F69 => ?_)
    have hbsb5 := Nat.le_trans hF.size hbb5
    have hbsb5 := Nat.le_trans hL.size hbb5
    have hnebb5 : b < b5 := Nat.lt_of_lt_of_le hB.lt hbb5
    replace hF := hF.thenDrew.thenN F69
    replace hL := hL.thenDrew.thenN F69
    replace hB := F69.blkN hB
    refine wl_puta rfl rfl ((by (try exact vlc_cells _); all_goals simp [Value.oneCell', i64c, icv, u64c, u8c, ptr, S])) sz_148 (rfl) h5 ((by simp)) (rfl) (fun w70 h5 F70 => ?_)
    replace hF := hF.thenDrew.thenO F70 (by first | exact .inr (by omega) | exact .inl rfl | exact .inl (by assumption) | assumption)
    replace hL := hL.thenDrew.thenO F70 (by first | exact .inr (by omega) | exact .inl rfl | exact .inl (by assumption) | assumption)
    replace hB := F70.blkO hB (by omega)
    refine wl_nil (x_then (hK156 _ _ ?_))
    clear hK156 K156
    refine c_seq (fun K157 hK157 => ?_)
    refine c_seq (fun K158 hK158 => ?_)
    have hAf : ArF b5 _ ow sb c0 c1 U G := ⟨hA.farN hL, fun q => by
      rcases q with q | q
      · omega
      · have := hA.own.lt q; omega⟩
    have hQ : Cy b5 ow (fun u : World => TrM u ow 0 a [x]) _ := ⟨hTa.far hL (fun _ _ _ h => h) (Xt.refl _ _), hA.n3 b5 hbsb5, fun u u1 S q0 f hn => q0.far f hn (Xt.refl _ _)⟩
    refine c_reg ?_ -- region 2 flat.go:46
    refine wl (ro_move rfl) ?_
    refine wl_nil (x_then (hK158 _ _ ?_))
    clear hK158 K158
    refine c_block ?_
    refine forget [(0, _), (5, _), (19, _)] ⟨rfl, rfl, rfl, trivial⟩ (fun e => ?_)
    refine c_seq (fun K159 hK159 => ?_)
    refine c_reg ?_ -- region 3 flat.go:46
    refine wl (ro_taN rfl nif_354 rfl zi_354) ?_
    refine wl (ro_extract rfl rfl) ?_
    refine wl (ro_extract rfl rfl) ?_
    refine wl_nil (x_then (hK159 _ _ ?_))
    clear hK159 K159
    refine wc_condF rfl ?_
    refine c_seq (fun K160 hK160 => ?_)
    refine c_reg ?_ -- region 12 flat.go:46
    refine wl (ro_taN rfl nif_350 rfl zi_350) ?_
    refine wl (ro_extract rfl rfl) ?_
    refine wl (ro_extract rfl rfl) ?_
    refine wl_nil (x_then (hK160 _ _ ?_))
    clear hK160 K160
    refine wc_condF rfl ?_
    refine c_seq (fun K161 hK161 => ?_)
    refine c_reg ?_ -- region 17 flat.go:46
    refine wl (ro_taN rfl nif_307 rfl zi_307) ?_
    refine wl (ro_extract rfl rfl) ?_
    refine wl (ro_extract rfl rfl) ?_
    refine wl_nil (x_then (hK161 _ _ ?_))
    clear hK161 K161
    refine wc_condF rfl ?_
    refine c_seq (fun K162 hK162 => ?_)
    refine c_reg ?_ -- region 22 flat.go:46
    refine wl (ro_taN rfl nif_302 rfl zi_302) ?_
    refine wl (ro_extract rfl rfl) ?_
    refine wl (ro_extract rfl rfl) ?_
    refine wl_nil (x_then (hK162 _ _ ?_))
    clear hK162 K162
    refine wc_condF rfl ?_
    refine c_seq (fun K163 hK163 => ?_)
    refine c_reg ?_ -- region 26 flat.go:46
    refine wl (ro_taN rfl nif_357 rfl zi_357) ?_
    refine wl (ro_extract rfl rfl) ?_
    refine wl (ro_extract rfl rfl) ?_
    refine wl_nil (x_then (hK163 _ _ ?_))
    clear hK163 K163
    refine wc_condF rfl ?_
    refine c_seq (fun K164 hK164 => ?_)
    refine c_reg ?_ -- region 32 flat.go:46
    refine wl (ro_taN rfl nif_293 rfl zi_293) ?_
    refine wl (ro_extract rfl rfl) ?_
    refine wl (ro_extract rfl rfl) ?_
    refine wl_nil (x_then (hK164 _ _ ?_))
    clear hK164 K164
    refine wc_condF rfl ?_
    refine c_seq (fun K165 hK165 => ?_)
    refine c_reg ?_ -- region 37 flat.go:46
    refine wl (ro_taN rfl nif_363 rfl zi_363) ?_
    refine wl (ro_extract rfl rfl) ?_
    refine wl (ro_extract rfl rfl) ?_
    refine wl_nil (x_then (hK165 _ _ ?_))
    clear hK165 K165
    refine wc_condF rfl ?_
    refine c_seq (fun K166 hK166 => ?_)
    refine c_reg ?_ -- region 43 flat.go:46
    refine wl (ro_taN rfl nif_360 rfl zi_360) ?_
    refine wl (ro_extract rfl rfl) ?_
    refine wl (ro_extract rfl rfl) ?_
    refine wl_nil (x_then (hK166 _ _ ?_))
    clear hK166 K166
    refine wc_condF rfl ?_
    refine c_seq (fun K167 hK167 => ?_)
    refine c_reg ?_ -- region 49 flat.go:46
    refine wl (ro_taY rfl nif_239) ?_
    refine wl (ro_extract rfl rfl) ?_
    refine wl (ro_extract rfl rfl) ?_
    refine wl_nil (x_then (hK167 _ _ ?_))
    clear hK167 K167
    refine wc_condT rfl ?_
    refine c_seq (fun K168 hK168 => ?_)
    refine c_reg ?_ -- region 50 flat.go:46
    refine wl (ro_assign rfl) ?_
    refine wl_nil (x_then (hK168 _ _ ?_))
    clear hK168 K168
    refine forget [(0, _), (5, _), (14, _)] ⟨rfl, rfl, rfl, trivial⟩ (fun e => ?_)
    refine c_seq (fun K169 hK169 => ?_)
    refine c_reg ?_ -- region 51 flat.go:88
    refine wl (ro_fieldAddr (k := 0) rfl fo_148_0) ?_
    refine wl_put rfl rfl rfl sz_3 h5 (by simp) (rfl) (fun w71 h5 F71 => ?_)
    have hcx_ := trivial
    replace hF := hF.thenDrew.thenO F71 (by first | exact .inr (by omega) | exact .inl rfl | exact .inl (by assumption) | assumption)
    replace hB := F71.blkO hB (by omega)
    replace hAf := hAf.hbput ((Fram.refl (one b5) _).thenDrew.thenO F71 (.inl rfl))
    replace hQ := hQ.hbput ((Fram.refl (one b5) _).thenDrew.thenO F71 (.inl rfl))
    refine wl_nil (x_then (hK169 _ _ ?_))
    clear hK169 K169
    refine forget [(0, _), (5, _), (14, _)] ⟨rfl, rfl, rfl, trivial⟩ (fun e => ?_)
    refine c_seq (fun K170 hK170 => ?_)
    refine c_reg ?_ -- region 52 flat.go:89
    refine wl (ro_move rfl) ?_
    refine wl (ro_move rfl) ?_
    refine wl (ro_nilCheck rfl) ?_
    refine wl (ro_fieldAddr (k := 1) rfl fo_373_1) ?_
    refine wl (ro_loadB rfl sc_290 (by assumption) rfl) ?_
    refine wl_call rfl en_226 (opt226Y ih hAf.1 hQ.1 hb1 (by omega) (by omega) (by omega)) ?_
    rintro _ u1 ⟨rfl, U1, G1, hA1, hm1, hl1, hn1, F9⟩
    have h5l := h5.lt
    replace h5 := h5.fram F9 hAf.2
    replace hB := hB.fram F9 (hAf.1.no hb3)
    replace hQ := hQ.ar hAf F9
    have hz := hF.size
    replace hF := ar_trans hF hnb F9
    replace hnb := nob_trans hnb hz hn1
    replace hAf := hAf.next hA1 hn1 h5l
    refine wl (ro_fieldAddr (k := 1) rfl fo_148_1) ?_
    refine wl_put rfl rfl rfl sz_3 h5 (by simp) (rfl) (fun w72 h5 F72 => ?_)
    have hcx_ := trivial
    replace hF := hF.thenDrew.thenO F72 (by first | exact .inr (by omega) | exact .inl rfl | exact .inl (by assumption) | assumption)
    replace hB := F72.blkO hB (by omega)
    replace hAf := hAf.hbput ((Fram.refl (one b5) _).thenDrew.thenO F72 (.inl rfl))
    replace hQ := hQ.hbput ((Fram.refl (one b5) _).thenDrew.thenO F72 (.inl rfl))
    refine wl_nil (x_then (hK170 _ _ ?_))
    clear hK170 K170
    refine c_reg ?_ -- region 53 flat.go:90
    refine wl (ro_move rfl) ?_
    refine wl (ro_move rfl) ?_
    refine wl (ro_nilCheck rfl) ?_
    refine wl (ro_fieldAddr (k := 2) rfl fo_373_2) ?_
    refine wl (ro_loadB rfl sc_290 (by assumption) rfl) ?_
    refine wl_call rfl en_226 (opt226N) ?_
    rintro _ _ ⟨rfl, rfl⟩
    refine wl (ro_fieldAddr (k := 2) rfl fo_148_2) ?_
    refine wl_put rfl rfl rfl sz_3 h5 (by simp) (rfl) (fun w73 h5 F73 => ?_)
    have hcx_ := trivial
    replace hF := hF.thenDrew.thenO F73 (by first | exact .inr (by omega) | exact .inl rfl | exact .inl (by assumption) | assumption)
    replace hB := F73.blkO hB (by omega)
    replace hAf := hAf.hbput ((Fram.refl (one b5) _).thenDrew.thenO F73 (.inl rfl))
    replace hQ := hQ.hbput ((Fram.refl (one b5) _).thenDrew.thenO F73 (.inl rfl))
    refine wl_nil (x_blk (x_then (hK157 _ _ ?_)))
    clear hK157 K157
    refine forget [(0, _), (5, _)] ⟨rfl, rfl, trivial⟩ (fun e => ?_)
    refine c_seq (fun K171 hK171 => ?_)
    refine c_reg ?_ -- region 57 flat.go:94
    refine wl (ro_move rfl) ?_
    refine wl (ro_loadAggB rfl ag_148 (by assumption) rfl rfl) ?_
    refine wl_call rfl en_227 (add227 (x := (⟨10, G.length + ndT a - 1, 0, 0, 0, 0, []⟩, p)) hAf.1 (by omega)) ?_
    rintro _ u9 ⟨rfl, U9, G9, hA9, hm9, hl9, hn9, F9⟩
    refine wl (ro_assign rfl) ?_
    refine wl_nil (x_then (hK171 _ _ ?_))
    clear hK171 K171
    refine c_ret ?_
    refine bp_ret Tryz.results184 rfl ?_
    refine ⟨congrArg (fun z : Nat => i64c z) (by omega), U9, G9, hA9, ?_, by omega, nob_trans hnb hF.size hn9, ar_trans hF hnb F9⟩
    show _ = G.map Prod.fst ++ (lay a G.length ++ [⟨10, rt a G.length, 0, 0, 0, 0, []⟩])
    rw [hTa.lx0.rt, hm9, hm1]
    try simp only [List.append_assoc]
  · skip
    obtain ⟨b, pp, x, y, e1, hB, hTa, hTb⟩ := TrM_ret2.1 hT
    injection e1 with e1 _
    subst e1
    have hbn : ∀ k ∈ numsT a ++ numsT a2, k < 4611686018427387904 := hbn
    have hb1 : NmB a := fun k hk => hbn k (List.mem_append.2 (.inl hk))
    have hb2 : NmB a2 := fun k hk => hbn k (List.mem_append.2 (.inr hk))
    have hb3 := hB.2
    replace hB := hB.1
    have hbl := hB.lt
    have hnd : ndT (St.ret2 a a2) = 1 + ndT a + ndT a2 := rfl
    refine c_reg ?_ -- region 0 flat.go:44
    refine wl (ro_assign rfl) ?_
    refine wl_nil (x_then (hK1 _ _ ?_))
    clear hK1 K1
    refine forget [(0, _), (1, _)] ⟨rfl, rfl, trivial⟩ (fun e => ?_)
    refine c_seq (fun K172 hK172 => ?_)
    refine c_reg ?_ -- region 1 flat.go:45
    refine wl (ro_move rfl) ?_
    refine wl_pos rfl (posR239 hB) (fun p ↦ ?_)
    refine wl (ro_build rfl bld_148_7) ?_
    refine wl_new (ze_148) (fun b5 w74 hbb5 h5 F74 => ?_)
    have hbsb5 := Nat.le_trans hF.size hbb5
    have hbsb5 := Nat.le_trans hL.size hbb5
    have hnebb5 : b < b5 := Nat.lt_of_lt_of_le hB.lt hbb5
    replace hF := hF.thenDrew.thenN F74
    replace hL := hL.thenDrew.thenN F74
    replace hB := F74.blkN hB
    refine wl_puta rfl rfl ((by (try exact vlc_cells _); all_goals simp [Value.oneCell', i64c, icv, u64c, u8c, ptr, S])) sz_148 (rfl) h5 ((by simp)) (rfl) (fun w75 h5 F75 => ?_)
    replace hF := hF.thenDrew.thenO F75 (by first | exact .inr (by omega) | exact .inl rfl | exact .inl (by assumption) | assumption)
    replace hL := hL.thenDrew.thenO F75 (by first | exact .inr (by omega) | exact .inl rfl | exact .inl (by assumption) | assumption)
    replace hB := F75.blkO hB (by omega)
    refine wl_nil (x_then (hK172 _ _ ?_))
    clear hK172 K172
    refine c_seq (fun K173 hK173 => ?_)
    refine c_seq (fun K174 hK174 => ?_)
    have hAf : ArF b5 _ ow sb c0 c1 U G := ⟨hA.farN hL, fun q => by
      rcases q with q | q
      · omega
      · have := hA.own.lt q; omega⟩
    have hQ : Cy b5 ow (fun u : World => TrM u ow 0 a [x] ∧ TrM u ow 0 a2 [y]) _ := ⟨⟨hTa.far hL (fun _ _ _ h => h) (Xt.refl _ _), hTb.far hL (fun _ _ _ h => h) (Xt.refl _ _)⟩, hA.n3 b5 hbsb5, fun u u1 S ⟨q0, q1⟩ f hn => ⟨q0.far f hn (Xt.refl _ _), q1.far f hn (Xt.refl _ _)⟩⟩
    refine c_reg ?_ -- region 2 flat.go:46
    refine wl (ro_move rfl) ?_
    refine wl_nil (x_then (hK174 _ _ ?_))
    clear hK174 K174
    refine c_block ?_
    refine forget [(0, _), (5, _), (19, _)] ⟨rfl, rfl, rfl, trivial⟩ (fun e => ?_)
    refine c_seq (fun K175 hK175 => ?_)
    refine c_reg ?_ -- region 3 flat.go:46
    refine wl (ro_taN rfl nif_354 rfl zi_354) ?_
    refine wl (ro_extract rfl rfl) ?_
    refine wl (ro_extract rfl rfl) ?_
    refine wl_nil (x_then (hK175 _ _ ?_))
    clear hK175 K175
    refine wc_condF rfl ?_
    refine c_seq (fun K176 hK176 => ?_)
    refine c_reg ?_ -- region 12 flat.go:46
    refine wl (ro_taN rfl nif_350 rfl zi_350) ?_
    refine wl (ro_extract rfl rfl) ?_
    refine wl (ro_extract rfl rfl) ?_
    refine wl_nil (x_then (hK176 _ _ ?_))
    clear hK176 K176
    refine wc_condF rfl ?_
    refine c_seq (fun K177 hK177 => ?_)
    refine c_reg ?_ -- region 17 flat.go:46
    refine wl (ro_taN rfl nif_307 rfl zi_307) ?_
    refine wl (ro_extract rfl rfl) ?_
    refine wl (ro_extract rfl rfl) ?_
    refine wl_nil (x_then (hK177 _ _ ?_))
    clear hK177 K177
    refine wc_condF rfl ?_
    refine c_seq (fun K178 hK178 => ?_)
    refine c_reg ?_ -- region 22 flat.go:46
    refine wl (ro_taN rfl nif_302 rfl zi_302) ?_
    refine wl (ro_extract rfl rfl) ?_
    refine wl (ro_extract rfl rfl) ?_
    refine wl_nil (x_then (hK178 _ _ ?_))
    clear hK178 K178
    refine wc_condF rfl ?_
    refine c_seq (fun K179 hK179 => ?_)
    refine c_reg ?_ -- region 26 flat.go:46
    refine wl (ro_taN rfl nif_357 rfl zi_357) ?_
    refine wl (ro_extract rfl rfl) ?_
    refine wl (ro_extract rfl rfl) ?_
    refine wl_nil (x_then (hK179 _ _ ?_))
    clear hK179 K179
    refine wc_condF rfl ?_
    refine c_seq (fun K180 hK180 => ?_)
    refine c_reg ?_ -- region 32 flat.go:46
    refine wl (ro_taN rfl nif_293 rfl zi_293) ?_
    refine wl (ro_extract rfl rfl) ?_
    refine wl (ro_extract rfl rfl) ?_
    refine wl_nil (x_then (hK180 _ _ ?_))
    clear hK180 K180
    refine wc_condF rfl ?_
    refine c_seq (fun K181 hK181 => ?_)
    refine c_reg ?_ -- region 37 flat.go:46
    refine wl (ro_taN rfl nif_363 rfl zi_363) ?_
    refine wl (ro_extract rfl rfl) ?_
    refine wl (ro_extract rfl rfl) ?_
    refine wl_nil (x_then (hK181 _ _ ?_))
    clear hK181 K181
    refine wc_condF rfl ?_
    refine c_seq (fun K182 hK182 => ?_)
    refine c_reg ?_ -- region 43 flat.go:46
    refine wl (ro_taN rfl nif_360 rfl zi_360) ?_
    refine wl (ro_extract rfl rfl) ?_
    refine wl (ro_extract rfl rfl) ?_
    refine wl_nil (x_then (hK182 _ _ ?_))
    clear hK182 K182
    refine wc_condF rfl ?_
    refine c_seq (fun K183 hK183 => ?_)
    refine c_reg ?_ -- region 49 flat.go:46
    refine wl (ro_taY rfl nif_239) ?_
    refine wl (ro_extract rfl rfl) ?_
    refine wl (ro_extract rfl rfl) ?_
    refine wl_nil (x_then (hK183 _ _ ?_))
    clear hK183 K183
    refine wc_condT rfl ?_
    refine c_seq (fun K184 hK184 => ?_)
    refine c_reg ?_ -- region 50 flat.go:46
    refine wl (ro_assign rfl) ?_
    refine wl_nil (x_then (hK184 _ _ ?_))
    clear hK184 K184
    refine forget [(0, _), (5, _), (14, _)] ⟨rfl, rfl, rfl, trivial⟩ (fun e => ?_)
    refine c_seq (fun K185 hK185 => ?_)
    refine c_reg ?_ -- region 51 flat.go:88
    refine wl (ro_fieldAddr (k := 0) rfl fo_148_0) ?_
    refine wl_put rfl rfl rfl sz_3 h5 (by simp) (rfl) (fun w76 h5 F76 => ?_)
    have hcx_ := trivial
    replace hF := hF.thenDrew.thenO F76 (by first | exact .inr (by omega) | exact .inl rfl | exact .inl (by assumption) | assumption)
    replace hB := F76.blkO hB (by omega)
    replace hAf := hAf.hbput ((Fram.refl (one b5) _).thenDrew.thenO F76 (.inl rfl))
    replace hQ := hQ.hbput ((Fram.refl (one b5) _).thenDrew.thenO F76 (.inl rfl))
    refine wl_nil (x_then (hK185 _ _ ?_))
    clear hK185 K185
    refine forget [(0, _), (5, _), (14, _)] ⟨rfl, rfl, rfl, trivial⟩ (fun e => ?_)
    refine c_seq (fun K186 hK186 => ?_)
    refine c_reg ?_ -- region 52 flat.go:89
    refine wl (ro_move rfl) ?_
    refine wl (ro_move rfl) ?_
    refine wl (ro_nilCheck rfl) ?_
    refine wl (ro_fieldAddr (k := 1) rfl fo_373_1) ?_
    refine wl (ro_loadB rfl sc_290 (by assumption) rfl) ?_
    refine wl_call rfl en_226 (opt226Y ih hAf.1 hQ.1.1 hb1 (by omega) (by omega) (by omega)) ?_
    rintro _ u1 ⟨rfl, U1, G1, hA1, hm1, hl1, hn1, F9⟩
    have h5l := h5.lt
    replace h5 := h5.fram F9 hAf.2
    replace hB := hB.fram F9 (hAf.1.no hb3)
    replace hQ := hQ.ar hAf F9
    have hz := hF.size
    replace hF := ar_trans hF hnb F9
    replace hnb := nob_trans hnb hz hn1
    replace hAf := hAf.next hA1 hn1 h5l
    refine wl (ro_fieldAddr (k := 1) rfl fo_148_1) ?_
    refine wl_put rfl rfl rfl sz_3 h5 (by simp) (rfl) (fun w77 h5 F77 => ?_)
    have hcx_ := trivial
    replace hF := hF.thenDrew.thenO F77 (by first | exact .inr (by omega) | exact .inl rfl | exact .inl (by assumption) | assumption)
    replace hB := F77.blkO hB (by omega)
    replace hAf := hAf.hbput ((Fram.refl (one b5) _).thenDrew.thenO F77 (.inl rfl))
    replace hQ := hQ.hbput ((Fram.refl (one b5) _).thenDrew.thenO F77 (.inl rfl))
    refine wl_nil (x_then (hK186 _ _ ?_))
    clear hK186 K186
    refine c_reg ?_ -- region 53 flat.go:90
    refine wl (ro_move rfl) ?_
    refine wl (ro_move rfl) ?_
    refine wl (ro_nilCheck rfl) ?_
    refine wl (ro_fieldAddr (k := 2) rfl fo_373_2) ?_
    refine wl (ro_loadB rfl sc_290 (by assumption) rfl) ?_
    refine wl_call rfl en_226 (opt226Y ih hAf.1 hQ.1.2 hb2 (by omega) (by omega) (by omega)) ?_
    rintro _ u2 ⟨rfl, U2, G2, hA2, hm2, hl2, hn2, F9⟩
    have h5l := h5.lt
    replace h5 := h5.fram F9 hAf.2
    replace hB := hB.fram F9 (hAf.1.no hb3)
    replace hQ := hQ.ar hAf F9
    have hz := hF.size
    replace hF := ar_trans hF hnb F9
    replace hnb := nob_trans hnb hz hn2
    replace hAf := hAf.next hA2 hn2 h5l
    refine wl (ro_fieldAddr (k := 2) rfl fo_148_2) ?_
    refine wl_put rfl rfl rfl sz_3 h5 (by simp) (rfl) (fun w78 h5 F78 => ?_)
    have hcx_ := trivial
    replace hF := hF.thenDrew.thenO F78 (by first | exact .inr (by omega) | exact .inl rfl | exact .inl (by assumption) | assumption)
    replace hB := F78.blkO hB (by omega)
    replace hAf := hAf.hbput ((Fram.refl (one b5) _).thenDrew.thenO F78 (.inl rfl))
    replace hQ := hQ.hbput ((Fram.refl (one b5) _).thenDrew.thenO F78 (.inl rfl))
    refine wl_nil (x_blk (x_then (hK173 _ _ ?_)))
    clear hK173 K173
    refine forget [(0, _), (5, _)] ⟨rfl, rfl, trivial⟩ (fun e => ?_)
    refine c_seq (fun K187 hK187 => ?_)
    refine c_reg ?_ -- region 57 flat.go:94
    refine wl (ro_move rfl) ?_
    refine wl (ro_loadAggB rfl ag_148 (by assumption) rfl rfl) ?_
    refine wl_call rfl en_227 (add227 (x := (⟨10, G.length + ndT a - 1, G1.length + ndT a2 - 1, 0, 0, 0, []⟩, p)) hAf.1 (by omega)) ?_
    rintro _ u9 ⟨rfl, U9, G9, hA9, hm9, hl9, hn9, F9⟩
    refine wl (ro_assign rfl) ?_
    refine wl_nil (x_then (hK187 _ _ ?_))
    clear hK187 K187
    refine c_ret ?_
    refine bp_ret Tryz.results184 rfl ?_
    refine ⟨congrArg (fun z : Nat => i64c z) (by omega), U9, G9, hA9, ?_, by omega, nob_trans hnb hF.size hn9, ar_trans hF hnb F9⟩
    show _ = G.map Prod.fst ++ (lay a G.length ++ lay a2 (G.length + ndT a) ++ [⟨10, rt a G.length, rt a2 (G.length + ndT a), 0, 0, 0, []⟩])
    rw [hTa.lx0.rt, hTb.lx0.rt, hm9, hm2, hm1]
    rw [hl1]
    try simp only [List.append_assoc]
  · skip
    obtain ⟨b, pp, e1, hB⟩ := TrM_brk.1 hT
    injection e1 with e1 _
    subst e1
    have hb3 := hB.2
    replace hB := hB.1
    have hbl := hB.lt
    have hnd : ndT (St.brk) = 1 := rfl
    refine c_reg ?_ -- region 0 flat.go:44
    refine wl (ro_assign rfl) ?_
    refine wl_nil (x_then (hK1 _ _ ?_))
    clear hK1 K1
    refine forget [(0, _), (1, _)] ⟨rfl, rfl, trivial⟩ (fun e => ?_)
    refine c_seq (fun K188 hK188 => ?_)
    refine c_reg ?_ -- region 1 flat.go:45
    refine wl (ro_move rfl) ?_
    refine wl_pos rfl (posR240 hB) (fun p ↦ ?_)
    refine wl (ro_build rfl bld_148_7) ?_
    refine wl_new (ze_148) (fun b5 w79 hbb5 h5 F79 => ?_)
    have hbsb5 := Nat.le_trans hF.size hbb5
    have hbsb5 := Nat.le_trans hL.size hbb5
    have hnebb5 : b < b5 := Nat.lt_of_lt_of_le hB.lt hbb5
    replace hF := hF.thenDrew.thenN F79
    replace hL := hL.thenDrew.thenN F79
    replace hB := F79.blkN hB
    refine wl_puta rfl rfl ((by (try exact vlc_cells _); all_goals simp [Value.oneCell', i64c, icv, u64c, u8c, ptr, S])) sz_148 (rfl) h5 ((by simp)) (rfl) (fun w80 h5 F80 => ?_)
    replace hF := hF.thenDrew.thenO F80 (by first | exact .inr (by omega) | exact .inl rfl | exact .inl (by assumption) | assumption)
    replace hL := hL.thenDrew.thenO F80 (by first | exact .inr (by omega) | exact .inl rfl | exact .inl (by assumption) | assumption)
    replace hB := F80.blkO hB (by omega)
    refine wl_nil (x_then (hK188 _ _ ?_))
    clear hK188 K188
    refine c_seq (fun K189 hK189 => ?_)
    refine c_seq (fun K190 hK190 => ?_)
    have hAf : ArF b5 _ ow sb c0 c1 U G := ⟨hA.farN hL, fun q => by
      rcases q with q | q
      · omega
      · have := hA.own.lt q; omega⟩
    refine c_reg ?_ -- region 2 flat.go:46
    refine wl (ro_move rfl) ?_
    refine wl_nil (x_then (hK190 _ _ ?_))
    clear hK190 K190
    refine c_block ?_
    refine forget [(0, _), (5, _), (19, _)] ⟨rfl, rfl, rfl, trivial⟩ (fun e => ?_)
    refine c_seq (fun K191 hK191 => ?_)
    refine c_reg ?_ -- region 3 flat.go:46
    refine wl (ro_taN rfl nif_354 rfl zi_354) ?_
    refine wl (ro_extract rfl rfl) ?_
    refine wl (ro_extract rfl rfl) ?_
    refine wl_nil (x_then (hK191 _ _ ?_))
    clear hK191 K191
    refine wc_condF rfl ?_
    refine c_seq (fun K192 hK192 => ?_)
    refine c_reg ?_ -- region 12 flat.go:46
    refine wl (ro_taN rfl nif_350 rfl zi_350) ?_
    refine wl (ro_extract rfl rfl) ?_
    refine wl (ro_extract rfl rfl) ?_
    refine wl_nil (x_then (hK192 _ _ ?_))
    clear hK192 K192
    refine wc_condF rfl ?_
    refine c_seq (fun K193 hK193 => ?_)
    refine c_reg ?_ -- region 17 flat.go:46
    refine wl (ro_taN rfl nif_307 rfl zi_307) ?_
    refine wl (ro_extract rfl rfl) ?_
    refine wl (ro_extract rfl rfl) ?_
    refine wl_nil (x_then (hK193 _ _ ?_))
    clear hK193 K193
    refine wc_condF rfl ?_
    refine c_seq (fun K194 hK194 => ?_)
    refine c_reg ?_ -- region 22 flat.go:46
    refine wl (ro_taN rfl nif_302 rfl zi_302) ?_
    refine wl (ro_extract rfl rfl) ?_
    refine wl (ro_extract rfl rfl) ?_
    refine wl_nil (x_then (hK194 _ _ ?_))
    clear hK194 K194
    refine wc_condF rfl ?_
    refine c_seq (fun K195 hK195 => ?_)
    refine c_reg ?_ -- region 26 flat.go:46
    refine wl (ro_taN rfl nif_357 rfl zi_357) ?_
    refine wl (ro_extract rfl rfl) ?_
    refine wl (ro_extract rfl rfl) ?_
    refine wl_nil (x_then (hK195 _ _ ?_))
    clear hK195 K195
    refine wc_condF rfl ?_
    refine c_seq (fun K196 hK196 => ?_)
    refine c_reg ?_ -- region 32 flat.go:46
    refine wl (ro_taN rfl nif_293 rfl zi_293) ?_
    refine wl (ro_extract rfl rfl) ?_
    refine wl (ro_extract rfl rfl) ?_
    refine wl_nil (x_then (hK196 _ _ ?_))
    clear hK196 K196
    refine wc_condF rfl ?_
    refine c_seq (fun K197 hK197 => ?_)
    refine c_reg ?_ -- region 37 flat.go:46
    refine wl (ro_taN rfl nif_363 rfl zi_363) ?_
    refine wl (ro_extract rfl rfl) ?_
    refine wl (ro_extract rfl rfl) ?_
    refine wl_nil (x_then (hK197 _ _ ?_))
    clear hK197 K197
    refine wc_condF rfl ?_
    refine c_seq (fun K198 hK198 => ?_)
    refine c_reg ?_ -- region 43 flat.go:46
    refine wl (ro_taN rfl nif_360 rfl zi_360) ?_
    refine wl (ro_extract rfl rfl) ?_
    refine wl (ro_extract rfl rfl) ?_
    refine wl_nil (x_then (hK198 _ _ ?_))
    clear hK198 K198
    refine wc_condF rfl ?_
    refine c_seq (fun K199 hK199 => ?_)
    refine c_reg ?_ -- region 49 flat.go:46
    refine wl (ro_taN rfl nif_239 rfl zi_239) ?_
    refine wl (ro_extract rfl rfl) ?_
    refine wl (ro_extract rfl rfl) ?_
    refine wl_nil (x_then (hK199 _ _ ?_))
    clear hK199 K199
    refine wc_condF rfl ?_
    refine c_seq (fun K200 hK200 => ?_)
    refine c_reg ?_ -- region 54 flat.go:46
    refine wl (ro_taY rfl nif_240) ?_
    refine wl (ro_extract rfl rfl) ?_
    refine wl (ro_extract rfl rfl) ?_
    refine wl_nil (x_then (hK200 _ _ ?_))
    clear hK200 K200
    refine wc_condT rfl ?_
    refine c_seq (fun K201 hK201 => ?_)
    refine c_reg ?_ -- region 55 flat.go:46
    refine wl (ro_assign rfl) ?_
    refine wl_nil (x_then (hK201 _ _ ?_))
    clear hK201 K201
    refine c_reg ?_ -- region 56 flat.go:92
    refine wl (ro_fieldAddr (k := 0) rfl fo_148_0) ?_
    refine wl_put rfl rfl rfl sz_3 h5 (by simp) (rfl) (fun w81 h5 F81 => ?_)
    have hcx_ := trivial
    replace hF := hF.thenDrew.thenO F81 (by first | exact .inr (by omega) | exact .inl rfl | exact .inl (by assumption) | assumption)
    replace hB := F81.blkO hB (by omega)
    replace hAf := hAf.hbput ((Fram.refl (one b5) _).thenDrew.thenO F81 (.inl rfl))
    refine wl_nil (x_blk (x_then (hK189 _ _ ?_)))
    clear hK189 K189
    refine forget [(0, _), (5, _)] ⟨rfl, rfl, trivial⟩ (fun e => ?_)
    refine c_seq (fun K202 hK202 => ?_)
    refine c_reg ?_ -- region 57 flat.go:94
    refine wl (ro_move rfl) ?_
    refine wl (ro_loadAggB rfl ag_148 (by assumption) rfl rfl) ?_
    refine wl_call rfl en_227 (add227 (x := (⟨11, 0, 0, 0, 0, 0, []⟩, p)) hAf.1 (by omega)) ?_
    rintro _ u9 ⟨rfl, U9, G9, hA9, hm9, hl9, hn9, F9⟩
    refine wl (ro_assign rfl) ?_
    refine wl_nil (x_then (hK202 _ _ ?_))
    clear hK202 K202
    refine c_ret ?_
    refine bp_ret Tryz.results184 rfl ?_
    refine ⟨congrArg (fun z : Nat => i64c z) (by omega), U9, G9, hA9, ?_, by omega, nob_trans hnb hF.size hn9, ar_trans hF hnb F9⟩
    show _ = G.map Prod.fst ++ ([⟨11, 0, 0, 0, 0, 0, []⟩])
    rw [hm9]
    try simp only [List.append_assoc]
theorem FAll.zero : FAll 0 where
  e := fun _ hT _ hn _ _ => by have := hT.lx0.pos; omega
  s := fun _ hT _ hn _ _ => by have := hT.lx2.pos; omega
theorem FAll.all : ∀ n : Nat, FAll n
  | 0 => FAll.zero
  | n + 1 => { e := fun hA hT hb hn hG hl => expr185 (FAll.all n) hA hT hb hn hG hl, s := fun hA hT hb hn hG hl => stmt184 (FAll.all n) hA hT hb hn hG hl }
end Go.Proofs.Qxb6500568aGreatDoor
