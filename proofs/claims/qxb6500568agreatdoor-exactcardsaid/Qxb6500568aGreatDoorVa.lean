import Derived.Test.Qxb6500568aGreatDoorEz
/- The real flattener: expressions. Written by tools/mk_Va.py. -/
namespace Go.Proofs.Qxb6500568aGreatDoor
open Ieee
set_option linter.unusedVariables false
set_option linter.unusedSimpArgs false

theorem nif_381 : notIf Tryz.prog 381 = true := by kernel_rfl
theorem zi_381 : (Tryz.prog.info? 381).bind (·.zero) = some (.pointer none) := by kernel_rfl
theorem nif_384 : notIf Tryz.prog 384 = true := by kernel_rfl
theorem zi_384 : (Tryz.prog.info? 384).bind (·.zero) = some (.pointer none) := by kernel_rfl
theorem nif_374 : notIf Tryz.prog 374 = true := by kernel_rfl
theorem zi_374 : (Tryz.prog.info? 374).bind (·.zero) = some (.pointer none) := by kernel_rfl
theorem nif_346 : notIf Tryz.prog 346 = true := by kernel_rfl
theorem zi_346 : (Tryz.prog.info? 346).bind (·.zero) = some (.pointer none) := by kernel_rfl
theorem nif_389 : notIf Tryz.prog 389 = true := by kernel_rfl
theorem zi_389 : (Tryz.prog.info? 389).bind (·.zero) = some (.pointer none) := by kernel_rfl
theorem nif_369 : notIf Tryz.prog 369 = true := by kernel_rfl
theorem zi_369 : (Tryz.prog.info? 369).bind (·.zero) = some (.pointer none) := by kernel_rfl
theorem nif_392 : notIf Tryz.prog 392 = true := by kernel_rfl
theorem zi_392 : (Tryz.prog.info? 392).bind (·.zero) = some (.pointer none) := by kernel_rfl
set_option maxHeartbeats 8000000 in
theorem expr185 {n : Nat} {w : World} {ow : Nat → Nat} {sb : Nat} {c0 c1 U : Value} {G : List (Nd × Nat)} {t : Tr} {v : Value} (ih : FAll n) (hA : ArV w ow sb c0 c1 U G) (hT : TrM w ow 0 t [v]) (hbn : NmB t) (hn : ndT t ≤ n + 1) (hG : 1 ≤ G.length) (hl : G.length + ndT t ≤ 1000000000) : Ret Tryz.prog 185 [ptr sb, v] w (ArR w ow sb c0 c1 U G (G.length + ndT t - 1) (lay t G.length) (ndT t)) := by
  have hF : Fram (arS sb U) w w := Fram.refl _ _
  have hL : Fram none' w w := Fram.refl _ _
  have hnb : nob U U w := fun b q => .inl q
  have hsl := hA.st.lt
  refine ret_of Tryz.func185 rfl Tryz.ntmps185 rfl ?_
  refine c_seq (fun K1 hK1 => ?_)
  rcases hT.invE with ⟨k, rfl⟩ | ⟨k, rfl⟩ | ⟨s1, rfl⟩ | ⟨s1, rfl⟩ | ⟨a, a2, rfl⟩ | ⟨a, a2, rfl⟩ | ⟨k, ps1, a, rfl⟩ | ⟨a, rfl⟩ | ⟨k, a, a2, rfl⟩ | ⟨k, a, rfl⟩ | ⟨a, a2, rfl⟩ | ⟨a, a2, rfl⟩
  · skip
    obtain ⟨b, pp, e1, hB⟩ := TrM_lit.1 hT
    injection e1 with e1 _
    subst e1
    have hb3 := hB.2
    replace hB := hB.1
    have hbl := hB.lt
    have hnd : ndT (Ex.lit k) = 1 := rfl
    refine c_reg ?_ -- region 0 flat.go:97
    refine wl (ro_assign rfl) ?_
    refine wl_nil (x_then (hK1 _ _ ?_))
    clear hK1 K1
    refine forget [(0, _), (1, _)] ⟨rfl, rfl, trivial⟩ (fun e => ?_)
    refine c_seq (fun K2 hK2 => ?_)
    refine c_reg ?_ -- region 1 flat.go:98
    refine wl (ro_move rfl) ?_
    refine wl_pos rfl (posR381 hB) (fun p ↦ ?_)
    refine wl (ro_build rfl bld_148_7) ?_
    refine wl_new (ze_148) (fun b5 w1 hbb5 h5 F1 => ?_)
    have hbsb5 := Nat.le_trans hF.size hbb5
    have hbsb5 := Nat.le_trans hL.size hbb5
    have hnebb5 : b < b5 := Nat.lt_of_lt_of_le hB.lt hbb5
    replace hF := hF.thenDrew.thenN F1
    replace hL := hL.thenDrew.thenN F1
    replace hB := F1.blkN hB
    refine wl_puta rfl rfl ((by (try exact vlc_cells _); all_goals simp [Value.oneCell', i64c, icv, u64c, u8c, ptr, S])) sz_148 (rfl) h5 ((by simp)) (rfl) (fun w2 h5 F2 => ?_)
    replace hF := hF.thenDrew.thenO F2 (by first | exact .inr (by omega) | exact .inl rfl | exact .inl (by assumption) | assumption)
    replace hL := hL.thenDrew.thenO F2 (by first | exact .inr (by omega) | exact .inl rfl | exact .inl (by assumption) | assumption)
    replace hB := F2.blkO hB (by omega)
    refine wl_nil (x_then (hK2 _ _ ?_))
    clear hK2 K2
    refine c_seq (fun K3 hK3 => ?_)
    refine c_seq (fun K4 hK4 => ?_)
    have hAf : ArF b5 _ ow sb c0 c1 U G := ⟨hA.farN hL, fun q => by
      rcases q with q | q
      · omega
      · have := hA.own.lt q; omega⟩
    refine c_reg ?_ -- region 2 flat.go:99
    refine wl (ro_move rfl) ?_
    refine wl_nil (x_then (hK4 _ _ ?_))
    clear hK4 K4
    refine c_block ?_
    refine forget [(0, _), (5, _), (19, _)] ⟨rfl, rfl, rfl, trivial⟩ (fun e => ?_)
    refine c_seq (fun K5 hK5 => ?_)
    refine c_reg ?_ -- region 3 flat.go:99
    refine wl (ro_taY rfl nif_381) ?_
    refine wl (ro_extract rfl rfl) ?_
    refine wl (ro_extract rfl rfl) ?_
    refine wl_nil (x_then (hK5 _ _ ?_))
    clear hK5 K5
    refine wc_condT rfl ?_
    refine c_seq (fun K6 hK6 => ?_)
    refine c_reg ?_ -- region 4 flat.go:99
    refine wl (ro_assign rfl) ?_
    refine wl_nil (x_then (hK6 _ _ ?_))
    clear hK6 K6
    refine c_reg ?_ -- region 5 flat.go:101
    refine wl (ro_move rfl) ?_
    refine wl (ro_nilCheck rfl) ?_
    refine wl (ro_fieldAddr (k := 1) rfl fo_383_1) ?_
    refine wl (ro_loadB rfl sc_3 (by assumption) rfl) ?_
    refine wl (ro_fieldAddr (k := 0) rfl fo_148_0) ?_
    refine wl_put rfl rfl rfl sz_3 h5 (by simp) (rfl) (fun w3 h5 F3 => ?_)
    have hcx_ := trivial
    replace hF := hF.thenDrew.thenO F3 (by first | exact .inr (by omega) | exact .inl rfl | exact .inl (by assumption) | assumption)
    replace hB := F3.blkO hB (by omega)
    replace hAf := hAf.hbput ((Fram.refl (one b5) _).thenDrew.thenO F3 (.inl rfl))
    refine wl_nil (x_blk (x_then (hK3 _ _ ?_)))
    clear hK3 K3
    refine forget [(0, _), (5, _)] ⟨rfl, rfl, trivial⟩ (fun e => ?_)
    refine c_seq (fun K7 hK7 => ?_)
    refine c_reg ?_ -- region 49 flat.go:137
    refine wl (ro_move rfl) ?_
    refine wl (ro_loadAggB rfl ag_148 (by assumption) rfl rfl) ?_
    refine wl_call rfl en_227 (add227 (x := (⟨k, 0, 0, 0, 0, 0, []⟩, p)) hAf.1 (by omega)) ?_
    rintro _ u9 ⟨rfl, U9, G9, hA9, hm9, hl9, hn9, F9⟩
    refine wl (ro_assign rfl) ?_
    refine wl_nil (x_then (hK7 _ _ ?_))
    clear hK7 K7
    refine c_ret ?_
    refine bp_ret Tryz.results185 rfl ?_
    refine ⟨congrArg (fun z : Nat => i64c z) (by omega), U9, G9, hA9, ?_, by omega, nob_trans hnb hF.size hn9, ar_trans hF hnb F9⟩
    show _ = G.map Prod.fst ++ ([⟨k, 0, 0, 0, 0, 0, []⟩])
    rw [hm9]
    try simp only [List.append_assoc]
  · skip
    obtain ⟨b, pp, e1, hB⟩ := TrM_num.1 hT
    injection e1 with e1 _
    subst e1
    have hb3 := hB.2
    replace hB := hB.1
    have hbl := hB.lt
    have hnd : ndT (Ex.num k) = 1 := rfl
    refine c_reg ?_ -- region 0 flat.go:97
    refine wl (ro_assign rfl) ?_
    refine wl_nil (x_then (hK1 _ _ ?_))
    clear hK1 K1
    refine forget [(0, _), (1, _)] ⟨rfl, rfl, trivial⟩ (fun e => ?_)
    refine c_seq (fun K8 hK8 => ?_)
    refine c_reg ?_ -- region 1 flat.go:98
    refine wl (ro_move rfl) ?_
    refine wl_pos rfl (posR384 hB) (fun p ↦ ?_)
    refine wl (ro_build rfl bld_148_7) ?_
    refine wl_new (ze_148) (fun b5 w4 hbb5 h5 F4 => ?_)
    have hbsb5 := Nat.le_trans hF.size hbb5
    have hbsb5 := Nat.le_trans hL.size hbb5
    have hnebb5 : b < b5 := Nat.lt_of_lt_of_le hB.lt hbb5
    replace hF := hF.thenDrew.thenN F4
    replace hL := hL.thenDrew.thenN F4
    replace hB := F4.blkN hB
    refine wl_puta rfl rfl ((by (try exact vlc_cells _); all_goals simp [Value.oneCell', i64c, icv, u64c, u8c, ptr, S])) sz_148 (rfl) h5 ((by simp)) (rfl) (fun w5 h5 F5 => ?_)
    replace hF := hF.thenDrew.thenO F5 (by first | exact .inr (by omega) | exact .inl rfl | exact .inl (by assumption) | assumption)
    replace hL := hL.thenDrew.thenO F5 (by first | exact .inr (by omega) | exact .inl rfl | exact .inl (by assumption) | assumption)
    replace hB := F5.blkO hB (by omega)
    refine wl_nil (x_then (hK8 _ _ ?_))
    clear hK8 K8
    refine c_seq (fun K9 hK9 => ?_)
    refine c_seq (fun K10 hK10 => ?_)
    have hAf : ArF b5 _ ow sb c0 c1 U G := ⟨hA.farN hL, fun q => by
      rcases q with q | q
      · omega
      · have := hA.own.lt q; omega⟩
    refine c_reg ?_ -- region 2 flat.go:99
    refine wl (ro_move rfl) ?_
    refine wl_nil (x_then (hK10 _ _ ?_))
    clear hK10 K10
    refine c_block ?_
    refine forget [(0, _), (5, _), (19, _)] ⟨rfl, rfl, rfl, trivial⟩ (fun e => ?_)
    refine c_seq (fun K11 hK11 => ?_)
    refine c_reg ?_ -- region 3 flat.go:99
    refine wl (ro_taN rfl nif_381 rfl zi_381) ?_
    refine wl (ro_extract rfl rfl) ?_
    refine wl (ro_extract rfl rfl) ?_
    refine wl_nil (x_then (hK11 _ _ ?_))
    clear hK11 K11
    refine wc_condF rfl ?_
    refine c_seq (fun K12 hK12 => ?_)
    refine c_reg ?_ -- region 6 flat.go:99
    refine wl (ro_taY rfl nif_384) ?_
    refine wl (ro_extract rfl rfl) ?_
    refine wl (ro_extract rfl rfl) ?_
    refine wl_nil (x_then (hK12 _ _ ?_))
    clear hK12 K12
    refine wc_condT rfl ?_
    refine c_seq (fun K13 hK13 => ?_)
    refine c_reg ?_ -- region 7 flat.go:99
    refine wl (ro_assign rfl) ?_
    refine wl_nil (x_then (hK13 _ _ ?_))
    clear hK13 K13
    refine forget [(0, _), (5, _), (7, _)] ⟨rfl, rfl, rfl, trivial⟩ (fun e => ?_)
    refine c_seq (fun K14 hK14 => ?_)
    refine c_reg ?_ -- region 8 flat.go:103
    refine wl (ro_fieldAddr (k := 0) rfl fo_148_0) ?_
    refine wl_put rfl rfl rfl sz_3 h5 (by simp) (rfl) (fun w6 h5 F6 => ?_)
    have hcx_ := trivial
    replace hF := hF.thenDrew.thenO F6 (by first | exact .inr (by omega) | exact .inl rfl | exact .inl (by assumption) | assumption)
    replace hB := F6.blkO hB (by omega)
    replace hAf := hAf.hbput ((Fram.refl (one b5) _).thenDrew.thenO F6 (.inl rfl))
    refine wl_nil (x_then (hK14 _ _ ?_))
    clear hK14 K14
    refine c_reg ?_ -- region 9 flat.go:104
    refine wl (ro_move rfl) ?_
    refine wl (ro_nilCheck rfl) ?_
    refine wl (ro_fieldAddr (k := 1) rfl fo_386_1) ?_
    refine wl (ro_loadB rfl sc_117 (by assumption) rfl) ?_
    refine wl (ro_fieldAddr (k := 5) rfl fo_148_5) ?_
    refine wl_put rfl rfl rfl sz_117 h5 (by simp) (rfl) (fun w7 h5 F7 => ?_)
    have hcx_ := trivial
    replace hF := hF.thenDrew.thenO F7 (by first | exact .inr (by omega) | exact .inl rfl | exact .inl (by assumption) | assumption)
    replace hB := F7.blkO hB (by omega)
    replace hAf := hAf.hbput ((Fram.refl (one b5) _).thenDrew.thenO F7 (.inl rfl))
    refine wl_nil (x_blk (x_then (hK9 _ _ ?_)))
    clear hK9 K9
    refine forget [(0, _), (5, _)] ⟨rfl, rfl, trivial⟩ (fun e => ?_)
    refine c_seq (fun K15 hK15 => ?_)
    refine c_reg ?_ -- region 49 flat.go:137
    refine wl (ro_move rfl) ?_
    refine wl (ro_loadAggB rfl ag_148 (by assumption) rfl rfl) ?_
    refine wl_call rfl en_227 (add227 (x := (⟨15, 0, 0, 0, 0, k, []⟩, p)) hAf.1 (by omega)) ?_
    rintro _ u9 ⟨rfl, U9, G9, hA9, hm9, hl9, hn9, F9⟩
    refine wl (ro_assign rfl) ?_
    refine wl_nil (x_then (hK15 _ _ ?_))
    clear hK15 K15
    refine c_ret ?_
    refine bp_ret Tryz.results185 rfl ?_
    refine ⟨congrArg (fun z : Nat => i64c z) (by omega), U9, G9, hA9, ?_, by omega, nob_trans hnb hF.size hn9, ar_trans hF hnb F9⟩
    show _ = G.map Prod.fst ++ ([⟨15, 0, 0, 0, 0, k, []⟩])
    rw [hm9]
    try simp only [List.append_assoc]
  · skip
    obtain ⟨b, pp, e1, hB⟩ := TrM_str.1 hT
    injection e1 with e1 _
    subst e1
    have hb3 := hB.2
    replace hB := hB.1
    have hbl := hB.lt
    have hnd : ndT (Ex.str s1) = 1 := rfl
    refine c_reg ?_ -- region 0 flat.go:97
    refine wl (ro_assign rfl) ?_
    refine wl_nil (x_then (hK1 _ _ ?_))
    clear hK1 K1
    refine forget [(0, _), (1, _)] ⟨rfl, rfl, trivial⟩ (fun e => ?_)
    refine c_seq (fun K16 hK16 => ?_)
    refine c_reg ?_ -- region 1 flat.go:98
    refine wl (ro_move rfl) ?_
    refine wl_pos rfl (posR374 hB) (fun p ↦ ?_)
    refine wl (ro_build rfl bld_148_7) ?_
    refine wl_new (ze_148) (fun b5 w8 hbb5 h5 F8 => ?_)
    have hbsb5 := Nat.le_trans hF.size hbb5
    have hbsb5 := Nat.le_trans hL.size hbb5
    have hnebb5 : b < b5 := Nat.lt_of_lt_of_le hB.lt hbb5
    replace hF := hF.thenDrew.thenN F8
    replace hL := hL.thenDrew.thenN F8
    replace hB := F8.blkN hB
    refine wl_puta rfl rfl ((by (try exact vlc_cells _); all_goals simp [Value.oneCell', i64c, icv, u64c, u8c, ptr, S])) sz_148 (rfl) h5 ((by simp)) (rfl) (fun w9 h5 F9 => ?_)
    replace hF := hF.thenDrew.thenO F9 (by first | exact .inr (by omega) | exact .inl rfl | exact .inl (by assumption) | assumption)
    replace hL := hL.thenDrew.thenO F9 (by first | exact .inr (by omega) | exact .inl rfl | exact .inl (by assumption) | assumption)
    replace hB := F9.blkO hB (by omega)
    refine wl_nil (x_then (hK16 _ _ ?_))
    clear hK16 K16
    refine c_seq (fun K17 hK17 => ?_)
    refine c_seq (fun K18 hK18 => ?_)
    have hAf : ArF b5 _ ow sb c0 c1 U G := ⟨hA.farN hL, fun q => by
      rcases q with q | q
      · omega
      · have := hA.own.lt q; omega⟩
    refine c_reg ?_ -- region 2 flat.go:99
    refine wl (ro_move rfl) ?_
    refine wl_nil (x_then (hK18 _ _ ?_))
    clear hK18 K18
    refine c_block ?_
    refine forget [(0, _), (5, _), (19, _)] ⟨rfl, rfl, rfl, trivial⟩ (fun e => ?_)
    refine c_seq (fun K19 hK19 => ?_)
    refine c_reg ?_ -- region 3 flat.go:99
    refine wl (ro_taN rfl nif_381 rfl zi_381) ?_
    refine wl (ro_extract rfl rfl) ?_
    refine wl (ro_extract rfl rfl) ?_
    refine wl_nil (x_then (hK19 _ _ ?_))
    clear hK19 K19
    refine wc_condF rfl ?_
    refine c_seq (fun K20 hK20 => ?_)
    refine c_reg ?_ -- region 6 flat.go:99
    refine wl (ro_taN rfl nif_384 rfl zi_384) ?_
    refine wl (ro_extract rfl rfl) ?_
    refine wl (ro_extract rfl rfl) ?_
    refine wl_nil (x_then (hK20 _ _ ?_))
    clear hK20 K20
    refine wc_condF rfl ?_
    refine c_seq (fun K21 hK21 => ?_)
    refine c_reg ?_ -- region 10 flat.go:99
    refine wl (ro_taY rfl nif_374) ?_
    refine wl (ro_extract rfl rfl) ?_
    refine wl (ro_extract rfl rfl) ?_
    refine wl_nil (x_then (hK21 _ _ ?_))
    clear hK21 K21
    refine wc_condT rfl ?_
    refine c_seq (fun K22 hK22 => ?_)
    refine c_reg ?_ -- region 11 flat.go:99
    refine wl (ro_assign rfl) ?_
    refine wl_nil (x_then (hK22 _ _ ?_))
    clear hK22 K22
    refine forget [(0, _), (5, _), (8, _)] ⟨rfl, rfl, rfl, trivial⟩ (fun e => ?_)
    refine c_seq (fun K23 hK23 => ?_)
    refine c_reg ?_ -- region 12 flat.go:106
    refine wl (ro_fieldAddr (k := 0) rfl fo_148_0) ?_
    refine wl_put rfl rfl rfl sz_3 h5 (by simp) (rfl) (fun w10 h5 F10 => ?_)
    have hcx_ := trivial
    replace hF := hF.thenDrew.thenO F10 (by first | exact .inr (by omega) | exact .inl rfl | exact .inl (by assumption) | assumption)
    replace hB := F10.blkO hB (by omega)
    replace hAf := hAf.hbput ((Fram.refl (one b5) _).thenDrew.thenO F10 (.inl rfl))
    refine wl_nil (x_then (hK23 _ _ ?_))
    clear hK23 K23
    refine c_reg ?_ -- region 13 flat.go:107
    refine wl (ro_move rfl) ?_
    refine wl (ro_nilCheck rfl) ?_
    refine wl (ro_fieldAddr (k := 1) rfl fo_375_1) ?_
    refine wl (ro_loadB rfl sc_9 (by assumption) rfl) ?_
    refine wl (ro_fieldAddr (k := 6) rfl fo_148_6) ?_
    refine wl_put rfl rfl rfl sz_9 h5 (by simp) (rfl) (fun w11 h5 F11 => ?_)
    have hcx_ := trivial
    replace hF := hF.thenDrew.thenO F11 (by first | exact .inr (by omega) | exact .inl rfl | exact .inl (by assumption) | assumption)
    replace hB := F11.blkO hB (by omega)
    replace hAf := hAf.hbput ((Fram.refl (one b5) _).thenDrew.thenO F11 (.inl rfl))
    refine wl_nil (x_blk (x_then (hK17 _ _ ?_)))
    clear hK17 K17
    refine forget [(0, _), (5, _)] ⟨rfl, rfl, trivial⟩ (fun e => ?_)
    refine c_seq (fun K24 hK24 => ?_)
    refine c_reg ?_ -- region 49 flat.go:137
    refine wl (ro_move rfl) ?_
    refine wl (ro_loadAggB rfl ag_148 (by assumption) rfl rfl) ?_
    refine wl_call rfl en_227 (add227 (x := (⟨16, 0, 0, 0, 0, 0, s1⟩, p)) hAf.1 (by omega)) ?_
    rintro _ u9 ⟨rfl, U9, G9, hA9, hm9, hl9, hn9, F9⟩
    refine wl (ro_assign rfl) ?_
    refine wl_nil (x_then (hK24 _ _ ?_))
    clear hK24 K24
    refine c_ret ?_
    refine bp_ret Tryz.results185 rfl ?_
    refine ⟨congrArg (fun z : Nat => i64c z) (by omega), U9, G9, hA9, ?_, by omega, nob_trans hnb hF.size hn9, ar_trans hF hnb F9⟩
    show _ = G.map Prod.fst ++ ([⟨16, 0, 0, 0, 0, 0, s1⟩])
    rw [hm9]
    try simp only [List.append_assoc]
  · skip
    obtain ⟨b, pp, e1, hB⟩ := TrM_name.1 hT
    injection e1 with e1 _
    subst e1
    have hb3 := hB.2
    replace hB := hB.1
    have hbl := hB.lt
    have hnd : ndT (Ex.name s1) = 1 := rfl
    refine c_reg ?_ -- region 0 flat.go:97
    refine wl (ro_assign rfl) ?_
    refine wl_nil (x_then (hK1 _ _ ?_))
    clear hK1 K1
    refine forget [(0, _), (1, _)] ⟨rfl, rfl, trivial⟩ (fun e => ?_)
    refine c_seq (fun K25 hK25 => ?_)
    refine c_reg ?_ -- region 1 flat.go:98
    refine wl (ro_move rfl) ?_
    refine wl_pos rfl (posR305 hB) (fun p ↦ ?_)
    refine wl (ro_build rfl bld_148_7) ?_
    refine wl_new (ze_148) (fun b5 w12 hbb5 h5 F12 => ?_)
    have hbsb5 := Nat.le_trans hF.size hbb5
    have hbsb5 := Nat.le_trans hL.size hbb5
    have hnebb5 : b < b5 := Nat.lt_of_lt_of_le hB.lt hbb5
    replace hF := hF.thenDrew.thenN F12
    replace hL := hL.thenDrew.thenN F12
    replace hB := F12.blkN hB
    refine wl_puta rfl rfl ((by (try exact vlc_cells _); all_goals simp [Value.oneCell', i64c, icv, u64c, u8c, ptr, S])) sz_148 (rfl) h5 ((by simp)) (rfl) (fun w13 h5 F13 => ?_)
    replace hF := hF.thenDrew.thenO F13 (by first | exact .inr (by omega) | exact .inl rfl | exact .inl (by assumption) | assumption)
    replace hL := hL.thenDrew.thenO F13 (by first | exact .inr (by omega) | exact .inl rfl | exact .inl (by assumption) | assumption)
    replace hB := F13.blkO hB (by omega)
    refine wl_nil (x_then (hK25 _ _ ?_))
    clear hK25 K25
    refine c_seq (fun K26 hK26 => ?_)
    refine c_seq (fun K27 hK27 => ?_)
    have hAf : ArF b5 _ ow sb c0 c1 U G := ⟨hA.farN hL, fun q => by
      rcases q with q | q
      · omega
      · have := hA.own.lt q; omega⟩
    refine c_reg ?_ -- region 2 flat.go:99
    refine wl (ro_move rfl) ?_
    refine wl_nil (x_then (hK27 _ _ ?_))
    clear hK27 K27
    refine c_block ?_
    refine forget [(0, _), (5, _), (19, _)] ⟨rfl, rfl, rfl, trivial⟩ (fun e => ?_)
    refine c_seq (fun K28 hK28 => ?_)
    refine c_reg ?_ -- region 3 flat.go:99
    refine wl (ro_taN rfl nif_381 rfl zi_381) ?_
    refine wl (ro_extract rfl rfl) ?_
    refine wl (ro_extract rfl rfl) ?_
    refine wl_nil (x_then (hK28 _ _ ?_))
    clear hK28 K28
    refine wc_condF rfl ?_
    refine c_seq (fun K29 hK29 => ?_)
    refine c_reg ?_ -- region 6 flat.go:99
    refine wl (ro_taN rfl nif_384 rfl zi_384) ?_
    refine wl (ro_extract rfl rfl) ?_
    refine wl (ro_extract rfl rfl) ?_
    refine wl_nil (x_then (hK29 _ _ ?_))
    clear hK29 K29
    refine wc_condF rfl ?_
    refine c_seq (fun K30 hK30 => ?_)
    refine c_reg ?_ -- region 10 flat.go:99
    refine wl (ro_taN rfl nif_374 rfl zi_374) ?_
    refine wl (ro_extract rfl rfl) ?_
    refine wl (ro_extract rfl rfl) ?_
    refine wl_nil (x_then (hK30 _ _ ?_))
    clear hK30 K30
    refine wc_condF rfl ?_
    refine c_seq (fun K31 hK31 => ?_)
    refine c_reg ?_ -- region 14 flat.go:99
    refine wl (ro_taY rfl nif_305) ?_
    refine wl (ro_extract rfl rfl) ?_
    refine wl (ro_extract rfl rfl) ?_
    refine wl_nil (x_then (hK31 _ _ ?_))
    clear hK31 K31
    refine wc_condT rfl ?_
    refine c_seq (fun K32 hK32 => ?_)
    refine c_reg ?_ -- region 15 flat.go:99
    refine wl (ro_assign rfl) ?_
    refine wl_nil (x_then (hK32 _ _ ?_))
    clear hK32 K32
    refine forget [(0, _), (5, _), (9, _)] ⟨rfl, rfl, rfl, trivial⟩ (fun e => ?_)
    refine c_seq (fun K33 hK33 => ?_)
    refine c_reg ?_ -- region 16 flat.go:109
    refine wl (ro_fieldAddr (k := 0) rfl fo_148_0) ?_
    refine wl_put rfl rfl rfl sz_3 h5 (by simp) (rfl) (fun w14 h5 F14 => ?_)
    have hcx_ := trivial
    replace hF := hF.thenDrew.thenO F14 (by first | exact .inr (by omega) | exact .inl rfl | exact .inl (by assumption) | assumption)
    replace hB := F14.blkO hB (by omega)
    replace hAf := hAf.hbput ((Fram.refl (one b5) _).thenDrew.thenO F14 (.inl rfl))
    refine wl_nil (x_then (hK33 _ _ ?_))
    clear hK33 K33
    refine c_reg ?_ -- region 17 flat.go:110
    refine wl (ro_move rfl) ?_
    refine wl (ro_nilCheck rfl) ?_
    refine wl (ro_fieldAddr (k := 1) rfl fo_349_1) ?_
    refine wl (ro_loadB rfl sc_9 (by assumption) rfl) ?_
    refine wl (ro_fieldAddr (k := 6) rfl fo_148_6) ?_
    refine wl_put rfl rfl rfl sz_9 h5 (by simp) (rfl) (fun w15 h5 F15 => ?_)
    have hcx_ := trivial
    replace hF := hF.thenDrew.thenO F15 (by first | exact .inr (by omega) | exact .inl rfl | exact .inl (by assumption) | assumption)
    replace hB := F15.blkO hB (by omega)
    replace hAf := hAf.hbput ((Fram.refl (one b5) _).thenDrew.thenO F15 (.inl rfl))
    refine wl_nil (x_blk (x_then (hK26 _ _ ?_)))
    clear hK26 K26
    refine forget [(0, _), (5, _)] ⟨rfl, rfl, trivial⟩ (fun e => ?_)
    refine c_seq (fun K34 hK34 => ?_)
    refine c_reg ?_ -- region 49 flat.go:137
    refine wl (ro_move rfl) ?_
    refine wl (ro_loadAggB rfl ag_148 (by assumption) rfl rfl) ?_
    refine wl_call rfl en_227 (add227 (x := (⟨17, 0, 0, 0, 0, 0, s1⟩, p)) hAf.1 (by omega)) ?_
    rintro _ u9 ⟨rfl, U9, G9, hA9, hm9, hl9, hn9, F9⟩
    refine wl (ro_assign rfl) ?_
    refine wl_nil (x_then (hK34 _ _ ?_))
    clear hK34 K34
    refine c_ret ?_
    refine bp_ret Tryz.results185 rfl ?_
    refine ⟨congrArg (fun z : Nat => i64c z) (by omega), U9, G9, hA9, ?_, by omega, nob_trans hnb hF.size hn9, ar_trans hF hnb F9⟩
    show _ = G.map Prod.fst ++ ([⟨17, 0, 0, 0, 0, 0, s1⟩])
    rw [hm9]
    try simp only [List.append_assoc]
  · skip
    obtain ⟨b, pp, x, y, e1, hB, hTa, hTb⟩ := TrM_index.1 hT
    injection e1 with e1 _
    subst e1
    have hb3 := hB.2
    replace hB := hB.1
    have hbl := hB.lt
    have hnd : ndT (Ex.index a a2) = 1 + ndT a + ndT a2 := rfl
    have hbn : ∀ k ∈ numsT a ++ numsT a2, k < 4611686018427387904 := hbn
    have hb1 : NmB a := fun k hk => hbn k (List.mem_append.2 (.inl hk))
    have hb2 : NmB a2 := fun k hk => hbn k (List.mem_append.2 (.inr hk))
    refine c_reg ?_ -- region 0 flat.go:97
    refine wl (ro_assign rfl) ?_
    refine wl_nil (x_then (hK1 _ _ ?_))
    clear hK1 K1
    refine forget [(0, _), (1, _)] ⟨rfl, rfl, trivial⟩ (fun e => ?_)
    refine c_seq (fun K35 hK35 => ?_)
    refine c_reg ?_ -- region 1 flat.go:98
    refine wl (ro_move rfl) ?_
    refine wl_pos rfl (posR306 hB) (fun p ↦ ?_)
    refine wl (ro_build rfl bld_148_7) ?_
    refine wl_new (ze_148) (fun b5 w16 hbb5 h5 F16 => ?_)
    have hbsb5 := Nat.le_trans hF.size hbb5
    have hbsb5 := Nat.le_trans hL.size hbb5
    have hnebb5 : b < b5 := Nat.lt_of_lt_of_le hB.lt hbb5
    replace hF := hF.thenDrew.thenN F16
    replace hL := hL.thenDrew.thenN F16
    replace hB := F16.blkN hB
    refine wl_puta rfl rfl ((by (try exact vlc_cells _); all_goals simp [Value.oneCell', i64c, icv, u64c, u8c, ptr, S])) sz_148 (rfl) h5 ((by simp)) (rfl) (fun w17 h5 F17 => ?_)
    replace hF := hF.thenDrew.thenO F17 (by first | exact .inr (by omega) | exact .inl rfl | exact .inl (by assumption) | assumption)
    replace hL := hL.thenDrew.thenO F17 (by first | exact .inr (by omega) | exact .inl rfl | exact .inl (by assumption) | assumption)
    replace hB := F17.blkO hB (by omega)
    refine wl_nil (x_then (hK35 _ _ ?_))
    clear hK35 K35
    refine c_seq (fun K36 hK36 => ?_)
    refine c_seq (fun K37 hK37 => ?_)
    have hAf : ArF b5 _ ow sb c0 c1 U G := ⟨hA.farN hL, fun q => by
      rcases q with q | q
      · omega
      · have := hA.own.lt q; omega⟩
    have hQ : Cy b5 ow (fun u : World => TrM u ow 0 a [x] ∧ TrM u ow 0 a2 [y]) _ := ⟨⟨hTa.far hL (fun _ _ _ h => h) (Xt.refl _ _), hTb.far hL (fun _ _ _ h => h) (Xt.refl _ _)⟩, hA.n3 b5 hbsb5, fun u u1 S ⟨q0, q1⟩ f hn => ⟨q0.far f hn (Xt.refl _ _), q1.far f hn (Xt.refl _ _)⟩⟩
    refine c_reg ?_ -- region 2 flat.go:99
    refine wl (ro_move rfl) ?_
    refine wl_nil (x_then (hK37 _ _ ?_))
    clear hK37 K37
    refine c_block ?_
    refine forget [(0, _), (5, _), (19, _)] ⟨rfl, rfl, rfl, trivial⟩ (fun e => ?_)
    refine c_seq (fun K38 hK38 => ?_)
    refine c_reg ?_ -- region 3 flat.go:99
    refine wl (ro_taN rfl nif_381 rfl zi_381) ?_
    refine wl (ro_extract rfl rfl) ?_
    refine wl (ro_extract rfl rfl) ?_
    refine wl_nil (x_then (hK38 _ _ ?_))
    clear hK38 K38
    refine wc_condF rfl ?_
    refine c_seq (fun K39 hK39 => ?_)
    refine c_reg ?_ -- region 6 flat.go:99
    refine wl (ro_taN rfl nif_384 rfl zi_384) ?_
    refine wl (ro_extract rfl rfl) ?_
    refine wl (ro_extract rfl rfl) ?_
    refine wl_nil (x_then (hK39 _ _ ?_))
    clear hK39 K39
    refine wc_condF rfl ?_
    refine c_seq (fun K40 hK40 => ?_)
    refine c_reg ?_ -- region 10 flat.go:99
    refine wl (ro_taN rfl nif_374 rfl zi_374) ?_
    refine wl (ro_extract rfl rfl) ?_
    refine wl (ro_extract rfl rfl) ?_
    refine wl_nil (x_then (hK40 _ _ ?_))
    clear hK40 K40
    refine wc_condF rfl ?_
    refine c_seq (fun K41 hK41 => ?_)
    refine c_reg ?_ -- region 14 flat.go:99
    refine wl (ro_taN rfl nif_305 rfl zi_305) ?_
    refine wl (ro_extract rfl rfl) ?_
    refine wl (ro_extract rfl rfl) ?_
    refine wl_nil (x_then (hK41 _ _ ?_))
    clear hK41 K41
    refine wc_condF rfl ?_
    refine c_seq (fun K42 hK42 => ?_)
    refine c_reg ?_ -- region 18 flat.go:99
    refine wl (ro_taY rfl nif_306) ?_
    refine wl (ro_extract rfl rfl) ?_
    refine wl (ro_extract rfl rfl) ?_
    refine wl_nil (x_then (hK42 _ _ ?_))
    clear hK42 K42
    refine wc_condT rfl ?_
    refine c_seq (fun K43 hK43 => ?_)
    refine c_reg ?_ -- region 19 flat.go:99
    refine wl (ro_assign rfl) ?_
    refine wl_nil (x_then (hK43 _ _ ?_))
    clear hK43 K43
    refine forget [(0, _), (5, _), (10, _)] ⟨rfl, rfl, rfl, trivial⟩ (fun e => ?_)
    refine c_seq (fun K44 hK44 => ?_)
    refine c_reg ?_ -- region 20 flat.go:112
    refine wl (ro_fieldAddr (k := 0) rfl fo_148_0) ?_
    refine wl_put rfl rfl rfl sz_3 h5 (by simp) (rfl) (fun w18 h5 F18 => ?_)
    have hcx_ := trivial
    replace hF := hF.thenDrew.thenO F18 (by first | exact .inr (by omega) | exact .inl rfl | exact .inl (by assumption) | assumption)
    replace hB := F18.blkO hB (by omega)
    replace hAf := hAf.hbput ((Fram.refl (one b5) _).thenDrew.thenO F18 (.inl rfl))
    replace hQ := hQ.hbput ((Fram.refl (one b5) _).thenDrew.thenO F18 (.inl rfl))
    refine wl_nil (x_then (hK44 _ _ ?_))
    clear hK44 K44
    refine forget [(0, _), (5, _), (10, _)] ⟨rfl, rfl, rfl, trivial⟩ (fun e => ?_)
    refine c_seq (fun K45 hK45 => ?_)
    refine c_reg ?_ -- region 21 flat.go:113
    refine wl (ro_move rfl) ?_
    refine wl (ro_move rfl) ?_
    refine wl (ro_nilCheck rfl) ?_
    refine wl (ro_fieldAddr (k := 1) rfl fo_377_1) ?_
    refine wl (ro_loadB rfl sc_290 (by assumption) rfl) ?_
    refine wl_call rfl en_185 (ih.e hAf.1 hQ.1.1 hb1 (by omega) (by omega) (by omega)) ?_
    rintro _ u1 ⟨rfl, U1, G1, hA1, hm1, hl1, hn1, F9⟩
    have h5l := h5.lt
    replace h5 := h5.fram F9 hAf.2
    replace hB := hB.fram F9 (hAf.1.no hb3)
    replace hQ := hQ.ar hAf F9
    have hz := hF.size
    replace hF := ar_trans hF hnb F9
    replace hnb := nob_trans hnb hz hn1
    replace hAf := hAf.next hA1 hn1 h5l
    refine wl (ro_fieldAddr (k := 1) rfl fo_148_1) ?_
    refine wl_put rfl rfl rfl sz_3 h5 (by simp) (rfl) (fun w19 h5 F19 => ?_)
    have hcx_ := trivial
    replace hF := hF.thenDrew.thenO F19 (by first | exact .inr (by omega) | exact .inl rfl | exact .inl (by assumption) | assumption)
    replace hB := F19.blkO hB (by omega)
    replace hAf := hAf.hbput ((Fram.refl (one b5) _).thenDrew.thenO F19 (.inl rfl))
    replace hQ := hQ.hbput ((Fram.refl (one b5) _).thenDrew.thenO F19 (.inl rfl))
    refine wl_nil (x_then (hK45 _ _ ?_))
    clear hK45 K45
    refine c_reg ?_ -- region 22 flat.go:114
    refine wl (ro_move rfl) ?_
    refine wl (ro_move rfl) ?_
    refine wl (ro_nilCheck rfl) ?_
    refine wl (ro_fieldAddr (k := 2) rfl fo_377_2) ?_
    refine wl (ro_loadB rfl sc_290 (by assumption) rfl) ?_
    refine wl_call rfl en_185 (ih.e hAf.1 hQ.1.2 hb2 (by omega) (by omega) (by omega)) ?_
    rintro _ u2 ⟨rfl, U2, G2, hA2, hm2, hl2, hn2, F9⟩
    have h5l := h5.lt
    replace h5 := h5.fram F9 hAf.2
    replace hB := hB.fram F9 (hAf.1.no hb3)
    replace hQ := hQ.ar hAf F9
    have hz := hF.size
    replace hF := ar_trans hF hnb F9
    replace hnb := nob_trans hnb hz hn2
    replace hAf := hAf.next hA2 hn2 h5l
    refine wl (ro_fieldAddr (k := 2) rfl fo_148_2) ?_
    refine wl_put rfl rfl rfl sz_3 h5 (by simp) (rfl) (fun w20 h5 F20 => ?_)
    have hcx_ := trivial
    replace hF := hF.thenDrew.thenO F20 (by first | exact .inr (by omega) | exact .inl rfl | exact .inl (by assumption) | assumption)
    replace hB := F20.blkO hB (by omega)
    replace hAf := hAf.hbput ((Fram.refl (one b5) _).thenDrew.thenO F20 (.inl rfl))
    replace hQ := hQ.hbput ((Fram.refl (one b5) _).thenDrew.thenO F20 (.inl rfl))
    refine wl_nil (x_blk (x_then (hK36 _ _ ?_)))
    clear hK36 K36
    refine forget [(0, _), (5, _)] ⟨rfl, rfl, trivial⟩ (fun e => ?_)
    refine c_seq (fun K46 hK46 => ?_)
    refine c_reg ?_ -- region 49 flat.go:137
    refine wl (ro_move rfl) ?_
    refine wl (ro_loadAggB rfl ag_148 (by assumption) rfl rfl) ?_
    refine wl_call rfl en_227 (add227 (x := (⟨18, G.length + ndT a - 1, G1.length + ndT a2 - 1, 0, 0, 0, []⟩, p)) hAf.1 (by omega)) ?_
    rintro _ u9 ⟨rfl, U9, G9, hA9, hm9, hl9, hn9, F9⟩
    refine wl (ro_assign rfl) ?_
    refine wl_nil (x_then (hK46 _ _ ?_))
    clear hK46 K46
    refine c_ret ?_
    refine bp_ret Tryz.results185 rfl ?_
    refine ⟨congrArg (fun z : Nat => i64c z) (by omega), U9, G9, hA9, ?_, by omega, nob_trans hnb hF.size hn9, ar_trans hF hnb F9⟩
    show _ = G.map Prod.fst ++ (lay a G.length ++ lay a2 (G.length + ndT a) ++ [⟨18, rt a G.length, rt a2 (G.length + ndT a), 0, 0, 0, []⟩])
    rw [hTa.lx0.rt, hTb.lx0.rt, hm9, hm2, hm1, hl1]
    try simp only [List.append_assoc]
  · skip
    obtain ⟨b, pp, x, V, us, e1, hB, hTa, hSl, hTl⟩ := TrM_call.1 hT
    injection e1 with e1 _
    subst e1
    have hb3 := hB.2
    replace hB := hB.1
    have hbl := hB.lt
    have hnd : ndT (Ex.call a a2) = 1 + ndT a + ndT a2 := rfl
    have hbn : ∀ k ∈ numsT a ++ numsT a2, k < 4611686018427387904 := hbn
    have hb1 : NmB a := fun k hk => hbn k (List.mem_append.2 (.inl hk))
    have hb2 : NmB a2 := fun k hk => hbn k (List.mem_append.2 (.inr hk))
    obtain ⟨va5, vc5, rfl⟩ := OwT.form hSl
    refine c_reg ?_ -- region 0 flat.go:97
    refine wl (ro_assign rfl) ?_
    refine wl_nil (x_then (hK1 _ _ ?_))
    clear hK1 K1
    refine forget [(0, _), (1, _)] ⟨rfl, rfl, trivial⟩ (fun e => ?_)
    refine c_seq (fun K47 hK47 => ?_)
    refine c_reg ?_ -- region 1 flat.go:98
    refine wl (ro_move rfl) ?_
    refine wl_pos rfl (posR300 hB) (fun p ↦ ?_)
    refine wl (ro_build rfl bld_148_7) ?_
    refine wl_new (ze_148) (fun b5 w21 hbb5 h5 F21 => ?_)
    have hbsb5 := Nat.le_trans hF.size hbb5
    have hbsb5 := Nat.le_trans hL.size hbb5
    have hnebb5 : b < b5 := Nat.lt_of_lt_of_le hB.lt hbb5
    replace hF := hF.thenDrew.thenN F21
    replace hL := hL.thenDrew.thenN F21
    replace hB := F21.blkN hB
    refine wl_puta rfl rfl ((by (try exact vlc_cells _); all_goals simp [Value.oneCell', i64c, icv, u64c, u8c, ptr, S])) sz_148 (rfl) h5 ((by simp)) (rfl) (fun w22 h5 F22 => ?_)
    replace hF := hF.thenDrew.thenO F22 (by first | exact .inr (by omega) | exact .inl rfl | exact .inl (by assumption) | assumption)
    replace hL := hL.thenDrew.thenO F22 (by first | exact .inr (by omega) | exact .inl rfl | exact .inl (by assumption) | assumption)
    replace hB := F22.blkO hB (by omega)
    refine wl_nil (x_then (hK47 _ _ ?_))
    clear hK47 K47
    refine c_seq (fun K48 hK48 => ?_)
    refine c_seq (fun K49 hK49 => ?_)
    have hAf : ArF b5 _ ow sb c0 c1 U G := ⟨hA.farN hL, fun q => by
      rcases q with q | q
      · omega
      · have := hA.own.lt q; omega⟩
    have hQ : Cy b5 ow (fun u : World => TrM u ow 0 a [x] ∧ SlM u ow (.slice va5 us.length vc5) us ∧ TrM u ow 1 a2 us) _ := ⟨⟨hTa.far hL (fun _ _ _ h => h) (Xt.refl _ _), OwT.far hSl hL (fun _ _ _ h => h) (Xt.refl _ _), hTl.far hL (fun _ _ _ h => h) (Xt.refl _ _)⟩, hA.n3 b5 hbsb5, fun u u1 S ⟨q0, q1, q2⟩ f hn => ⟨q0.far f hn (Xt.refl _ _), OwT.far q1 f hn (Xt.refl _ _), q2.far f hn (Xt.refl _ _)⟩⟩
    refine c_reg ?_ -- region 2 flat.go:99
    refine wl (ro_move rfl) ?_
    refine wl_nil (x_then (hK49 _ _ ?_))
    clear hK49 K49
    refine c_block ?_
    refine forget [(0, _), (5, _), (19, _)] ⟨rfl, rfl, rfl, trivial⟩ (fun e => ?_)
    refine c_seq (fun K50 hK50 => ?_)
    refine c_reg ?_ -- region 3 flat.go:99
    refine wl (ro_taN rfl nif_381 rfl zi_381) ?_
    refine wl (ro_extract rfl rfl) ?_
    refine wl (ro_extract rfl rfl) ?_
    refine wl_nil (x_then (hK50 _ _ ?_))
    clear hK50 K50
    refine wc_condF rfl ?_
    refine c_seq (fun K51 hK51 => ?_)
    refine c_reg ?_ -- region 6 flat.go:99
    refine wl (ro_taN rfl nif_384 rfl zi_384) ?_
    refine wl (ro_extract rfl rfl) ?_
    refine wl (ro_extract rfl rfl) ?_
    refine wl_nil (x_then (hK51 _ _ ?_))
    clear hK51 K51
    refine wc_condF rfl ?_
    refine c_seq (fun K52 hK52 => ?_)
    refine c_reg ?_ -- region 10 flat.go:99
    refine wl (ro_taN rfl nif_374 rfl zi_374) ?_
    refine wl (ro_extract rfl rfl) ?_
    refine wl (ro_extract rfl rfl) ?_
    refine wl_nil (x_then (hK52 _ _ ?_))
    clear hK52 K52
    refine wc_condF rfl ?_
    refine c_seq (fun K53 hK53 => ?_)
    refine c_reg ?_ -- region 14 flat.go:99
    refine wl (ro_taN rfl nif_305 rfl zi_305) ?_
    refine wl (ro_extract rfl rfl) ?_
    refine wl (ro_extract rfl rfl) ?_
    refine wl_nil (x_then (hK53 _ _ ?_))
    clear hK53 K53
    refine wc_condF rfl ?_
    refine c_seq (fun K54 hK54 => ?_)
    refine c_reg ?_ -- region 18 flat.go:99
    refine wl (ro_taN rfl nif_306 rfl zi_306) ?_
    refine wl (ro_extract rfl rfl) ?_
    refine wl (ro_extract rfl rfl) ?_
    refine wl_nil (x_then (hK54 _ _ ?_))
    clear hK54 K54
    refine wc_condF rfl ?_
    refine c_seq (fun K55 hK55 => ?_)
    refine c_reg ?_ -- region 23 flat.go:99
    refine wl (ro_taY rfl nif_300) ?_
    refine wl (ro_extract rfl rfl) ?_
    refine wl (ro_extract rfl rfl) ?_
    refine wl_nil (x_then (hK55 _ _ ?_))
    clear hK55 K55
    refine wc_condT rfl ?_
    refine c_seq (fun K56 hK56 => ?_)
    refine c_reg ?_ -- region 24 flat.go:99
    refine wl (ro_assign rfl) ?_
    refine wl_nil (x_then (hK56 _ _ ?_))
    clear hK56 K56
    refine forget [(0, _), (5, _), (11, _)] ⟨rfl, rfl, rfl, trivial⟩ (fun e => ?_)
    refine c_seq (fun K57 hK57 => ?_)
    refine c_reg ?_ -- region 25 flat.go:116
    refine wl (ro_fieldAddr (k := 0) rfl fo_148_0) ?_
    refine wl_put rfl rfl rfl sz_3 h5 (by simp) (rfl) (fun w23 h5 F23 => ?_)
    have hcx_ := trivial
    replace hF := hF.thenDrew.thenO F23 (by first | exact .inr (by omega) | exact .inl rfl | exact .inl (by assumption) | assumption)
    replace hB := F23.blkO hB (by omega)
    replace hAf := hAf.hbput ((Fram.refl (one b5) _).thenDrew.thenO F23 (.inl rfl))
    replace hQ := hQ.hbput ((Fram.refl (one b5) _).thenDrew.thenO F23 (.inl rfl))
    refine wl_nil (x_then (hK57 _ _ ?_))
    clear hK57 K57
    refine forget [(0, _), (5, _), (11, _)] ⟨rfl, rfl, rfl, trivial⟩ (fun e => ?_)
    refine c_seq (fun K58 hK58 => ?_)
    refine c_reg ?_ -- region 26 flat.go:117
    refine wl (ro_move rfl) ?_
    refine wl (ro_move rfl) ?_
    refine wl (ro_nilCheck rfl) ?_
    refine wl (ro_fieldAddr (k := 1) rfl fo_380_1) ?_
    refine wl (ro_loadB rfl sc_290 (by assumption) rfl) ?_
    refine wl_call rfl en_185 (ih.e hAf.1 hQ.1.1 hb1 (by omega) (by omega) (by omega)) ?_
    rintro _ u1 ⟨rfl, U1, G1, hA1, hm1, hl1, hn1, F9⟩
    have h5l := h5.lt
    replace h5 := h5.fram F9 hAf.2
    replace hB := hB.fram F9 (hAf.1.no hb3)
    replace hQ := hQ.ar hAf F9
    have hz := hF.size
    replace hF := ar_trans hF hnb F9
    replace hnb := nob_trans hnb hz hn1
    replace hAf := hAf.next hA1 hn1 h5l
    refine wl (ro_fieldAddr (k := 1) rfl fo_148_1) ?_
    refine wl_put rfl rfl rfl sz_3 h5 (by simp) (rfl) (fun w24 h5 F24 => ?_)
    have hcx_ := trivial
    replace hF := hF.thenDrew.thenO F24 (by first | exact .inr (by omega) | exact .inl rfl | exact .inl (by assumption) | assumption)
    replace hB := F24.blkO hB (by omega)
    replace hAf := hAf.hbput ((Fram.refl (one b5) _).thenDrew.thenO F24 (.inl rfl))
    replace hQ := hQ.hbput ((Fram.refl (one b5) _).thenDrew.thenO F24 (.inl rfl))
    refine wl_nil (x_then (hK58 _ _ ?_))
    clear hK58 K58
    refine c_reg ?_ -- region 27 flat.go:118
    refine wl (ro_move rfl) ?_
    refine wl (ro_move rfl) ?_
    refine wl (ro_nilCheck rfl) ?_
    refine wl (ro_fieldAddr (k := 2) rfl fo_380_2) ?_
    refine wl (ro_loadB rfl sc_188 (by assumption) rfl) ?_
    refine wl_call rfl en_78 (chain1 ih hAf.1 hQ.1.2.1 hQ.1.2.2 hb2 (by omega) (by omega) (by omega)) ?_
    rintro _ u2 ⟨rfl, U2, G2, hA2, hm2, hl2, hn2, F9⟩
    have h5l := h5.lt
    replace h5 := h5.fram F9 hAf.2
    replace hB := hB.fram F9 (hAf.1.no hb3)
    replace hQ := hQ.ar hAf F9
    have hz := hF.size
    replace hF := ar_trans hF hnb F9
    replace hnb := nob_trans hnb hz hn2
    replace hAf := hAf.next hA2 hn2 h5l
    refine wl (ro_fieldAddr (k := 2) rfl fo_148_2) ?_
    refine wl_put rfl rfl rfl sz_3 h5 (by simp) (rfl) (fun w25 h5 F25 => ?_)
    have hcx_ := trivial
    replace hF := hF.thenDrew.thenO F25 (by first | exact .inr (by omega) | exact .inl rfl | exact .inl (by assumption) | assumption)
    replace hB := F25.blkO hB (by omega)
    replace hAf := hAf.hbput ((Fram.refl (one b5) _).thenDrew.thenO F25 (.inl rfl))
    replace hQ := hQ.hbput ((Fram.refl (one b5) _).thenDrew.thenO F25 (.inl rfl))
    refine wl_nil (x_blk (x_then (hK48 _ _ ?_)))
    clear hK48 K48
    refine forget [(0, _), (5, _)] ⟨rfl, rfl, trivial⟩ (fun e => ?_)
    refine c_seq (fun K59 hK59 => ?_)
    refine c_reg ?_ -- region 49 flat.go:137
    refine wl (ro_move rfl) ?_
    refine wl (ro_loadAggB rfl ag_148 (by assumption) rfl rfl) ?_
    refine wl_call rfl en_227 (add227 (x := (⟨19, G.length + ndT a - 1, rt a2 G1.length, 0, 0, 0, []⟩, p)) hAf.1 (by omega)) ?_
    rintro _ u9 ⟨rfl, U9, G9, hA9, hm9, hl9, hn9, F9⟩
    refine wl (ro_assign rfl) ?_
    refine wl_nil (x_then (hK59 _ _ ?_))
    clear hK59 K59
    refine c_ret ?_
    refine bp_ret Tryz.results185 rfl ?_
    refine ⟨congrArg (fun z : Nat => i64c z) (by omega), U9, G9, hA9, ?_, by omega, nob_trans hnb hF.size hn9, ar_trans hF hnb F9⟩
    show _ = G.map Prod.fst ++ (lay a G.length ++ lay a2 (G.length + ndT a) ++ [⟨19, rt a G.length, rt a2 (G.length + ndT a), 0, 0, 0, []⟩])
    rw [hTa.lx0.rt, hm9, hm2, hm1, hl1]
    try simp only [List.append_assoc]
  · skip
    obtain ⟨b, pp, V, W, ns, us, e1, hB, hSn, hNm, hSl, hTl⟩ := TrM_func.1 hT
    injection e1 with e1 _
    subst e1
    have hb3 := hB.2
    replace hB := hB.1
    have hbl := hB.lt
    have hnd : ndT (Ex.func k ps1 a) = (1 + ps1.length) + ndT a := rfl
    have hbn : ∀ j ∈ k :: numsT a, j < 4611686018427387904 := hbn
    have hk4 := hbn k (by simp)
    have hb1 : NmB a := fun j hj => hbn j (List.mem_cons_of_mem _ hj)
    obtain ⟨va4, vc4, rfl⟩ := OwT.form hSn
    obtain ⟨va5, vc5, rfl⟩ := OwT.form hSl
    refine c_reg ?_ -- region 0 flat.go:97
    refine wl (ro_assign rfl) ?_
    refine wl_nil (x_then (hK1 _ _ ?_))
    clear hK1 K1
    refine forget [(0, _), (1, _)] ⟨rfl, rfl, trivial⟩ (fun e => ?_)
    refine c_seq (fun K60 hK60 => ?_)
    refine c_reg ?_ -- region 1 flat.go:98
    refine wl (ro_move rfl) ?_
    refine wl_pos rfl (posR346 hB) (fun p ↦ ?_)
    refine wl (ro_build rfl bld_148_7) ?_
    refine wl_new (ze_148) (fun b5 w26 hbb5 h5 F26 => ?_)
    have hbsb5 := Nat.le_trans hF.size hbb5
    have hbsb5 := Nat.le_trans hL.size hbb5
    have hnebb5 : b < b5 := Nat.lt_of_lt_of_le hB.lt hbb5
    replace hF := hF.thenDrew.thenN F26
    replace hL := hL.thenDrew.thenN F26
    replace hB := F26.blkN hB
    refine wl_puta rfl rfl ((by (try exact vlc_cells _); all_goals simp [Value.oneCell', i64c, icv, u64c, u8c, ptr, S])) sz_148 (rfl) h5 ((by simp)) (rfl) (fun w27 h5 F27 => ?_)
    replace hF := hF.thenDrew.thenO F27 (by first | exact .inr (by omega) | exact .inl rfl | exact .inl (by assumption) | assumption)
    replace hL := hL.thenDrew.thenO F27 (by first | exact .inr (by omega) | exact .inl rfl | exact .inl (by assumption) | assumption)
    replace hB := F27.blkO hB (by omega)
    refine wl_nil (x_then (hK60 _ _ ?_))
    clear hK60 K60
    refine c_seq (fun K61 hK61 => ?_)
    refine c_seq (fun K62 hK62 => ?_)
    have hAf : ArF b5 _ ow sb c0 c1 U G := ⟨hA.farN hL, fun q => by
      rcases q with q | q
      · omega
      · have := hA.own.lt q; omega⟩
    have hQ : Cy b5 ow (fun u : World => SlM u ow (.slice va4 ns.length vc4) ns ∧ nmM u ow ps1 ns ∧ SlM u ow (.slice va5 us.length vc5) us ∧ TrM u ow 3 a us) _ := ⟨⟨OwT.far hSn hL (fun _ _ _ h => h) (Xt.refl _ _), nmM.farG hL (fun _ _ _ h => h) hNm, OwT.far hSl hL (fun _ _ _ h => h) (Xt.refl _ _), hTl.far hL (fun _ _ _ h => h) (Xt.refl _ _)⟩, hA.n3 b5 hbsb5, fun u u1 S ⟨q0, q1, q2, q3⟩ f hn => ⟨OwT.far q0 f hn (Xt.refl _ _), nmM.farG f hn q1, OwT.far q2 f hn (Xt.refl _ _), q3.far f hn (Xt.refl _ _)⟩⟩
    refine c_reg ?_ -- region 2 flat.go:99
    refine wl (ro_move rfl) ?_
    refine wl_nil (x_then (hK62 _ _ ?_))
    clear hK62 K62
    refine c_block ?_
    refine forget [(0, _), (5, _), (19, _)] ⟨rfl, rfl, rfl, trivial⟩ (fun e => ?_)
    refine c_seq (fun K63 hK63 => ?_)
    refine c_reg ?_ -- region 3 flat.go:99
    refine wl (ro_taN rfl nif_381 rfl zi_381) ?_
    refine wl (ro_extract rfl rfl) ?_
    refine wl (ro_extract rfl rfl) ?_
    refine wl_nil (x_then (hK63 _ _ ?_))
    clear hK63 K63
    refine wc_condF rfl ?_
    refine c_seq (fun K64 hK64 => ?_)
    refine c_reg ?_ -- region 6 flat.go:99
    refine wl (ro_taN rfl nif_384 rfl zi_384) ?_
    refine wl (ro_extract rfl rfl) ?_
    refine wl (ro_extract rfl rfl) ?_
    refine wl_nil (x_then (hK64 _ _ ?_))
    clear hK64 K64
    refine wc_condF rfl ?_
    refine c_seq (fun K65 hK65 => ?_)
    refine c_reg ?_ -- region 10 flat.go:99
    refine wl (ro_taN rfl nif_374 rfl zi_374) ?_
    refine wl (ro_extract rfl rfl) ?_
    refine wl (ro_extract rfl rfl) ?_
    refine wl_nil (x_then (hK65 _ _ ?_))
    clear hK65 K65
    refine wc_condF rfl ?_
    refine c_seq (fun K66 hK66 => ?_)
    refine c_reg ?_ -- region 14 flat.go:99
    refine wl (ro_taN rfl nif_305 rfl zi_305) ?_
    refine wl (ro_extract rfl rfl) ?_
    refine wl (ro_extract rfl rfl) ?_
    refine wl_nil (x_then (hK66 _ _ ?_))
    clear hK66 K66
    refine wc_condF rfl ?_
    refine c_seq (fun K67 hK67 => ?_)
    refine c_reg ?_ -- region 18 flat.go:99
    refine wl (ro_taN rfl nif_306 rfl zi_306) ?_
    refine wl (ro_extract rfl rfl) ?_
    refine wl (ro_extract rfl rfl) ?_
    refine wl_nil (x_then (hK67 _ _ ?_))
    clear hK67 K67
    refine wc_condF rfl ?_
    refine c_seq (fun K68 hK68 => ?_)
    refine c_reg ?_ -- region 23 flat.go:99
    refine wl (ro_taN rfl nif_300 rfl zi_300) ?_
    refine wl (ro_extract rfl rfl) ?_
    refine wl (ro_extract rfl rfl) ?_
    refine wl_nil (x_then (hK68 _ _ ?_))
    clear hK68 K68
    refine wc_condF rfl ?_
    refine c_seq (fun K69 hK69 => ?_)
    refine c_reg ?_ -- region 28 flat.go:99
    refine wl (ro_taY rfl nif_346) ?_
    refine wl (ro_extract rfl rfl) ?_
    refine wl (ro_extract rfl rfl) ?_
    refine wl_nil (x_then (hK69 _ _ ?_))
    clear hK69 K69
    refine wc_condT rfl ?_
    refine c_seq (fun K70 hK70 => ?_)
    refine c_reg ?_ -- region 29 flat.go:99
    refine wl (ro_assign rfl) ?_
    refine wl_nil (x_then (hK70 _ _ ?_))
    clear hK70 K70
    refine forget [(0, _), (5, _), (12, _)] ⟨rfl, rfl, rfl, trivial⟩ (fun e => ?_)
    refine c_seq (fun K71 hK71 => ?_)
    refine c_reg ?_ -- region 30 flat.go:120
    refine wl (ro_fieldAddr (k := 0) rfl fo_148_0) ?_
    refine wl_put rfl rfl rfl sz_3 h5 (by simp) (rfl) (fun w28 h5 F28 => ?_)
    have hcx_ := trivial
    replace hF := hF.thenDrew.thenO F28 (by first | exact .inr (by omega) | exact .inl rfl | exact .inl (by assumption) | assumption)
    replace hB := F28.blkO hB (by omega)
    replace hAf := hAf.hbput ((Fram.refl (one b5) _).thenDrew.thenO F28 (.inl rfl))
    replace hQ := hQ.hbput ((Fram.refl (one b5) _).thenDrew.thenO F28 (.inl rfl))
    refine wl_nil (x_then (hK71 _ _ ?_))
    clear hK71 K71
    refine forget [(0, _), (5, _), (12, _)] ⟨rfl, rfl, rfl, trivial⟩ (fun e => ?_)
    refine c_seq (fun K72 hK72 => ?_)
    refine c_reg ?_ -- region 31 flat.go:121
    refine wl (ro_move rfl) ?_
    refine wl (ro_nilCheck rfl) ?_
    refine wl (ro_fieldAddr (k := 1) rfl fo_388_1) ?_
    refine wl (ro_loadB rfl sc_3 (by assumption) rfl) ?_
    refine wl (ro_conv rfl sc_3 in_117 (Go.IntWalk.u64_in _ (by omega))) ?_
    refine wl (ro_fieldAddr (k := 5) rfl fo_148_5) ?_
    refine wl_put rfl rfl rfl sz_117 h5 (by simp) (rfl) (fun w29 h5 F29 => ?_)
    have hcx_ := trivial
    replace hF := hF.thenDrew.thenO F29 (by first | exact .inr (by omega) | exact .inl rfl | exact .inl (by assumption) | assumption)
    replace hB := F29.blkO hB (by omega)
    replace hAf := hAf.hbput ((Fram.refl (one b5) _).thenDrew.thenO F29 (.inl rfl))
    replace hQ := hQ.hbput ((Fram.refl (one b5) _).thenDrew.thenO F29 (.inl rfl))
    refine wl_nil (x_then (hK72 _ _ ?_))
    clear hK72 K72
    refine forget [(0, _), (5, _), (12, _)] ⟨rfl, rfl, rfl, trivial⟩ (fun e => ?_)
    refine c_seq (fun K73 hK73 => ?_)
    refine c_reg ?_ -- region 32 flat.go:122
    refine wl (ro_move rfl) ?_
    refine wl (ro_move rfl) ?_
    refine wl (ro_nilCheck rfl) ?_
    refine wl (ro_fieldAddr (k := 2) rfl fo_388_2) ?_
    refine wl (ro_loadB rfl sc_188 (by assumption) rfl) ?_
    refine wl_call rfl en_78 (chainN ih hAf.1 hQ.1.1 hQ.1.2.1 (by omega) (by omega) (by omega)) ?_
    rintro _ u1 ⟨rfl, U1, G1, hA1, hm1, hl1, hn1, F9⟩
    have h5l := h5.lt
    replace h5 := h5.fram F9 hAf.2
    replace hB := hB.fram F9 (hAf.1.no hb3)
    replace hQ := hQ.ar hAf F9
    have hz := hF.size
    replace hF := ar_trans hF hnb F9
    replace hnb := nob_trans hnb hz hn1
    replace hAf := hAf.next hA1 hn1 h5l
    refine wl (ro_fieldAddr (k := 1) rfl fo_148_1) ?_
    refine wl_put rfl rfl rfl sz_3 h5 (by simp) (rfl) (fun w30 h5 F30 => ?_)
    have hcx_ := trivial
    replace hF := hF.thenDrew.thenO F30 (by first | exact .inr (by omega) | exact .inl rfl | exact .inl (by assumption) | assumption)
    replace hB := F30.blkO hB (by omega)
    replace hAf := hAf.hbput ((Fram.refl (one b5) _).thenDrew.thenO F30 (.inl rfl))
    replace hQ := hQ.hbput ((Fram.refl (one b5) _).thenDrew.thenO F30 (.inl rfl))
    refine wl_nil (x_then (hK73 _ _ ?_))
    clear hK73 K73
    refine c_reg ?_ -- region 33 flat.go:123
    refine wl (ro_move rfl) ?_
    refine wl (ro_move rfl) ?_
    refine wl (ro_nilCheck rfl) ?_
    refine wl (ro_fieldAddr (k := 3) rfl fo_388_3) ?_
    refine wl (ro_loadB rfl sc_188 (by assumption) rfl) ?_
    refine wl_call rfl en_78 (chain3 ih hAf.1 hQ.1.2.2.1 hQ.1.2.2.2 hb1 (by omega) (by omega) (by omega)) ?_
    rintro _ u2 ⟨rfl, U2, G2, hA2, hm2, hl2, hn2, F9⟩
    have h5l := h5.lt
    replace h5 := h5.fram F9 hAf.2
    replace hB := hB.fram F9 (hAf.1.no hb3)
    replace hQ := hQ.ar hAf F9
    have hz := hF.size
    replace hF := ar_trans hF hnb F9
    replace hnb := nob_trans hnb hz hn2
    replace hAf := hAf.next hA2 hn2 h5l
    refine wl (ro_fieldAddr (k := 2) rfl fo_148_2) ?_
    refine wl_put rfl rfl rfl sz_3 h5 (by simp) (rfl) (fun w31 h5 F31 => ?_)
    have hcx_ := trivial
    replace hF := hF.thenDrew.thenO F31 (by first | exact .inr (by omega) | exact .inl rfl | exact .inl (by assumption) | assumption)
    replace hB := F31.blkO hB (by omega)
    replace hAf := hAf.hbput ((Fram.refl (one b5) _).thenDrew.thenO F31 (.inl rfl))
    replace hQ := hQ.hbput ((Fram.refl (one b5) _).thenDrew.thenO F31 (.inl rfl))
    refine wl_nil (x_blk (x_then (hK61 _ _ ?_)))
    clear hK61 K61
    refine forget [(0, _), (5, _)] ⟨rfl, rfl, trivial⟩ (fun e => ?_)
    refine c_seq (fun K74 hK74 => ?_)
    refine c_reg ?_ -- region 49 flat.go:137
    refine wl (ro_move rfl) ?_
    refine wl (ro_loadAggB rfl ag_148 (by assumption) rfl rfl) ?_
    refine wl_call rfl en_227 (add227 (x := (⟨20, if ps1 = [] then 0 else G.length, rt a G1.length, 0, 0, k, []⟩, p)) hAf.1 (by omega)) ?_
    rintro _ u9 ⟨rfl, U9, G9, hA9, hm9, hl9, hn9, F9⟩
    refine wl (ro_assign rfl) ?_
    refine wl_nil (x_then (hK74 _ _ ?_))
    clear hK74 K74
    refine c_ret ?_
    refine bp_ret Tryz.results185 rfl ?_
    refine ⟨congrArg (fun z : Nat => i64c z) (by omega), U9, G9, hA9, ?_, by omega, nob_trans hnb hF.size hn9, ar_trans hF hnb F9⟩
    show _ = G.map Prod.fst ++ (layN ps1 G.length ++ lay a (G.length + ps1.length) ++ [⟨20, if ps1 = [] then 0 else G.length, rt a (G.length + ps1.length), 0, 0, k, []⟩])
    rw [hm9, hm2, hm1, hl1]
    try simp only [List.append_assoc]
  · skip
    obtain ⟨b, pp, V, us, e1, hB, hSl, hTl⟩ := TrM_table.1 hT
    injection e1 with e1 _
    subst e1
    have hb3 := hB.2
    replace hB := hB.1
    have hbl := hB.lt
    have hnd : ndT (Ex.table a) = 1 + ndT a := rfl
    have hb1 : NmB a := hbn
    obtain ⟨va5, vc5, rfl⟩ := OwT.form hSl
    refine c_reg ?_ -- region 0 flat.go:97
    refine wl (ro_assign rfl) ?_
    refine wl_nil (x_then (hK1 _ _ ?_))
    clear hK1 K1
    refine forget [(0, _), (1, _)] ⟨rfl, rfl, trivial⟩ (fun e => ?_)
    refine c_seq (fun K75 hK75 => ?_)
    refine c_reg ?_ -- region 1 flat.go:98
    refine wl (ro_move rfl) ?_
    refine wl_pos rfl (posR389 hB) (fun p ↦ ?_)
    refine wl (ro_build rfl bld_148_7) ?_
    refine wl_new (ze_148) (fun b5 w32 hbb5 h5 F32 => ?_)
    have hbsb5 := Nat.le_trans hF.size hbb5
    have hbsb5 := Nat.le_trans hL.size hbb5
    have hnebb5 : b < b5 := Nat.lt_of_lt_of_le hB.lt hbb5
    replace hF := hF.thenDrew.thenN F32
    replace hL := hL.thenDrew.thenN F32
    replace hB := F32.blkN hB
    refine wl_puta rfl rfl ((by (try exact vlc_cells _); all_goals simp [Value.oneCell', i64c, icv, u64c, u8c, ptr, S])) sz_148 (rfl) h5 ((by simp)) (rfl) (fun w33 h5 F33 => ?_)
    replace hF := hF.thenDrew.thenO F33 (by first | exact .inr (by omega) | exact .inl rfl | exact .inl (by assumption) | assumption)
    replace hL := hL.thenDrew.thenO F33 (by first | exact .inr (by omega) | exact .inl rfl | exact .inl (by assumption) | assumption)
    replace hB := F33.blkO hB (by omega)
    refine wl_nil (x_then (hK75 _ _ ?_))
    clear hK75 K75
    refine c_seq (fun K76 hK76 => ?_)
    refine c_seq (fun K77 hK77 => ?_)
    have hAf : ArF b5 _ ow sb c0 c1 U G := ⟨hA.farN hL, fun q => by
      rcases q with q | q
      · omega
      · have := hA.own.lt q; omega⟩
    have hQ : Cy b5 ow (fun u : World => SlM u ow (.slice va5 us.length vc5) us ∧ TrM u ow 1 a us) _ := ⟨⟨OwT.far hSl hL (fun _ _ _ h => h) (Xt.refl _ _), hTl.far hL (fun _ _ _ h => h) (Xt.refl _ _)⟩, hA.n3 b5 hbsb5, fun u u1 S ⟨q0, q1⟩ f hn => ⟨OwT.far q0 f hn (Xt.refl _ _), q1.far f hn (Xt.refl _ _)⟩⟩
    refine c_reg ?_ -- region 2 flat.go:99
    refine wl (ro_move rfl) ?_
    refine wl_nil (x_then (hK77 _ _ ?_))
    clear hK77 K77
    refine c_block ?_
    refine forget [(0, _), (5, _), (19, _)] ⟨rfl, rfl, rfl, trivial⟩ (fun e => ?_)
    refine c_seq (fun K78 hK78 => ?_)
    refine c_reg ?_ -- region 3 flat.go:99
    refine wl (ro_taN rfl nif_381 rfl zi_381) ?_
    refine wl (ro_extract rfl rfl) ?_
    refine wl (ro_extract rfl rfl) ?_
    refine wl_nil (x_then (hK78 _ _ ?_))
    clear hK78 K78
    refine wc_condF rfl ?_
    refine c_seq (fun K79 hK79 => ?_)
    refine c_reg ?_ -- region 6 flat.go:99
    refine wl (ro_taN rfl nif_384 rfl zi_384) ?_
    refine wl (ro_extract rfl rfl) ?_
    refine wl (ro_extract rfl rfl) ?_
    refine wl_nil (x_then (hK79 _ _ ?_))
    clear hK79 K79
    refine wc_condF rfl ?_
    refine c_seq (fun K80 hK80 => ?_)
    refine c_reg ?_ -- region 10 flat.go:99
    refine wl (ro_taN rfl nif_374 rfl zi_374) ?_
    refine wl (ro_extract rfl rfl) ?_
    refine wl (ro_extract rfl rfl) ?_
    refine wl_nil (x_then (hK80 _ _ ?_))
    clear hK80 K80
    refine wc_condF rfl ?_
    refine c_seq (fun K81 hK81 => ?_)
    refine c_reg ?_ -- region 14 flat.go:99
    refine wl (ro_taN rfl nif_305 rfl zi_305) ?_
    refine wl (ro_extract rfl rfl) ?_
    refine wl (ro_extract rfl rfl) ?_
    refine wl_nil (x_then (hK81 _ _ ?_))
    clear hK81 K81
    refine wc_condF rfl ?_
    refine c_seq (fun K82 hK82 => ?_)
    refine c_reg ?_ -- region 18 flat.go:99
    refine wl (ro_taN rfl nif_306 rfl zi_306) ?_
    refine wl (ro_extract rfl rfl) ?_
    refine wl (ro_extract rfl rfl) ?_
    refine wl_nil (x_then (hK82 _ _ ?_))
    clear hK82 K82
    refine wc_condF rfl ?_
    refine c_seq (fun K83 hK83 => ?_)
    refine c_reg ?_ -- region 23 flat.go:99
    refine wl (ro_taN rfl nif_300 rfl zi_300) ?_
    refine wl (ro_extract rfl rfl) ?_
    refine wl (ro_extract rfl rfl) ?_
    refine wl_nil (x_then (hK83 _ _ ?_))
    clear hK83 K83
    refine wc_condF rfl ?_
    refine c_seq (fun K84 hK84 => ?_)
    refine c_reg ?_ -- region 28 flat.go:99
    refine wl (ro_taN rfl nif_346 rfl zi_346) ?_
    refine wl (ro_extract rfl rfl) ?_
    refine wl (ro_extract rfl rfl) ?_
    refine wl_nil (x_then (hK84 _ _ ?_))
    clear hK84 K84
    refine wc_condF rfl ?_
    refine c_seq (fun K85 hK85 => ?_)
    refine c_reg ?_ -- region 34 flat.go:99
    refine wl (ro_taY rfl nif_389) ?_
    refine wl (ro_extract rfl rfl) ?_
    refine wl (ro_extract rfl rfl) ?_
    refine wl_nil (x_then (hK85 _ _ ?_))
    clear hK85 K85
    refine wc_condT rfl ?_
    refine c_seq (fun K86 hK86 => ?_)
    refine c_reg ?_ -- region 35 flat.go:99
    refine wl (ro_assign rfl) ?_
    refine wl_nil (x_then (hK86 _ _ ?_))
    clear hK86 K86
    refine forget [(0, _), (5, _), (13, _)] ⟨rfl, rfl, rfl, trivial⟩ (fun e => ?_)
    refine c_seq (fun K87 hK87 => ?_)
    refine c_reg ?_ -- region 36 flat.go:125
    refine wl (ro_fieldAddr (k := 0) rfl fo_148_0) ?_
    refine wl_put rfl rfl rfl sz_3 h5 (by simp) (rfl) (fun w34 h5 F34 => ?_)
    have hcx_ := trivial
    replace hF := hF.thenDrew.thenO F34 (by first | exact .inr (by omega) | exact .inl rfl | exact .inl (by assumption) | assumption)
    replace hB := F34.blkO hB (by omega)
    replace hAf := hAf.hbput ((Fram.refl (one b5) _).thenDrew.thenO F34 (.inl rfl))
    replace hQ := hQ.hbput ((Fram.refl (one b5) _).thenDrew.thenO F34 (.inl rfl))
    refine wl_nil (x_then (hK87 _ _ ?_))
    clear hK87 K87
    refine c_reg ?_ -- region 37 flat.go:126
    refine wl (ro_move rfl) ?_
    refine wl (ro_move rfl) ?_
    refine wl (ro_nilCheck rfl) ?_
    refine wl (ro_fieldAddr (k := 1) rfl fo_391_1) ?_
    refine wl (ro_loadB rfl sc_188 (by assumption) rfl) ?_
    refine wl_call rfl en_78 (chain1 ih hAf.1 hQ.1.1 hQ.1.2 hb1 (by omega) (by omega) (by omega)) ?_
    rintro _ u1 ⟨rfl, U1, G1, hA1, hm1, hl1, hn1, F9⟩
    have h5l := h5.lt
    replace h5 := h5.fram F9 hAf.2
    replace hB := hB.fram F9 (hAf.1.no hb3)
    replace hQ := hQ.ar hAf F9
    have hz := hF.size
    replace hF := ar_trans hF hnb F9
    replace hnb := nob_trans hnb hz hn1
    replace hAf := hAf.next hA1 hn1 h5l
    refine wl (ro_fieldAddr (k := 1) rfl fo_148_1) ?_
    refine wl_put rfl rfl rfl sz_3 h5 (by simp) (rfl) (fun w35 h5 F35 => ?_)
    have hcx_ := trivial
    replace hF := hF.thenDrew.thenO F35 (by first | exact .inr (by omega) | exact .inl rfl | exact .inl (by assumption) | assumption)
    replace hB := F35.blkO hB (by omega)
    replace hAf := hAf.hbput ((Fram.refl (one b5) _).thenDrew.thenO F35 (.inl rfl))
    replace hQ := hQ.hbput ((Fram.refl (one b5) _).thenDrew.thenO F35 (.inl rfl))
    refine wl_nil (x_blk (x_then (hK76 _ _ ?_)))
    clear hK76 K76
    refine forget [(0, _), (5, _)] ⟨rfl, rfl, trivial⟩ (fun e => ?_)
    refine c_seq (fun K88 hK88 => ?_)
    refine c_reg ?_ -- region 49 flat.go:137
    refine wl (ro_move rfl) ?_
    refine wl (ro_loadAggB rfl ag_148 (by assumption) rfl rfl) ?_
    refine wl_call rfl en_227 (add227 (x := (⟨21, rt a G.length, 0, 0, 0, 0, []⟩, p)) hAf.1 (by omega)) ?_
    rintro _ u9 ⟨rfl, U9, G9, hA9, hm9, hl9, hn9, F9⟩
    refine wl (ro_assign rfl) ?_
    refine wl_nil (x_then (hK88 _ _ ?_))
    clear hK88 K88
    refine c_ret ?_
    refine bp_ret Tryz.results185 rfl ?_
    refine ⟨congrArg (fun z : Nat => i64c z) (by omega), U9, G9, hA9, ?_, by omega, nob_trans hnb hF.size hn9, ar_trans hF hnb F9⟩
    show _ = G.map Prod.fst ++ (lay a G.length ++ [⟨21, rt a G.length, 0, 0, 0, 0, []⟩])
    rw [hm9, hm1]
    try simp only [List.append_assoc]
  · skip
    obtain ⟨b, pp, x, y, e1, hB, hTa, hTb⟩ := TrM_bin.1 hT
    injection e1 with e1 _
    subst e1
    have hb3 := hB.2
    replace hB := hB.1
    have hbl := hB.lt
    have hnd : ndT (Ex.bin k a a2) = 1 + ndT a + ndT a2 := rfl
    have hbn : ∀ k ∈ numsT a ++ numsT a2, k < 4611686018427387904 := hbn
    have hb1 : NmB a := fun k hk => hbn k (List.mem_append.2 (.inl hk))
    have hb2 : NmB a2 := fun k hk => hbn k (List.mem_append.2 (.inr hk))
    refine c_reg ?_ -- region 0 flat.go:97
    refine wl (ro_assign rfl) ?_
    refine wl_nil (x_then (hK1 _ _ ?_))
    clear hK1 K1
    refine forget [(0, _), (1, _)] ⟨rfl, rfl, trivial⟩ (fun e => ?_)
    refine c_seq (fun K89 hK89 => ?_)
    refine c_reg ?_ -- region 1 flat.go:98
    refine wl (ro_move rfl) ?_
    refine wl_pos rfl (posR369 hB) (fun p ↦ ?_)
    refine wl (ro_build rfl bld_148_7) ?_
    refine wl_new (ze_148) (fun b5 w36 hbb5 h5 F36 => ?_)
    have hbsb5 := Nat.le_trans hF.size hbb5
    have hbsb5 := Nat.le_trans hL.size hbb5
    have hnebb5 : b < b5 := Nat.lt_of_lt_of_le hB.lt hbb5
    replace hF := hF.thenDrew.thenN F36
    replace hL := hL.thenDrew.thenN F36
    replace hB := F36.blkN hB
    refine wl_puta rfl rfl ((by (try exact vlc_cells _); all_goals simp [Value.oneCell', i64c, icv, u64c, u8c, ptr, S])) sz_148 (rfl) h5 ((by simp)) (rfl) (fun w37 h5 F37 => ?_)
    replace hF := hF.thenDrew.thenO F37 (by first | exact .inr (by omega) | exact .inl rfl | exact .inl (by assumption) | assumption)
    replace hL := hL.thenDrew.thenO F37 (by first | exact .inr (by omega) | exact .inl rfl | exact .inl (by assumption) | assumption)
    replace hB := F37.blkO hB (by omega)
    refine wl_nil (x_then (hK89 _ _ ?_))
    clear hK89 K89
    refine c_seq (fun K90 hK90 => ?_)
    refine c_seq (fun K91 hK91 => ?_)
    have hAf : ArF b5 _ ow sb c0 c1 U G := ⟨hA.farN hL, fun q => by
      rcases q with q | q
      · omega
      · have := hA.own.lt q; omega⟩
    have hQ : Cy b5 ow (fun u : World => TrM u ow 0 a [x] ∧ TrM u ow 0 a2 [y]) _ := ⟨⟨hTa.far hL (fun _ _ _ h => h) (Xt.refl _ _), hTb.far hL (fun _ _ _ h => h) (Xt.refl _ _)⟩, hA.n3 b5 hbsb5, fun u u1 S ⟨q0, q1⟩ f hn => ⟨q0.far f hn (Xt.refl _ _), q1.far f hn (Xt.refl _ _)⟩⟩
    refine c_reg ?_ -- region 2 flat.go:99
    refine wl (ro_move rfl) ?_
    refine wl_nil (x_then (hK91 _ _ ?_))
    clear hK91 K91
    refine c_block ?_
    refine forget [(0, _), (5, _), (19, _)] ⟨rfl, rfl, rfl, trivial⟩ (fun e => ?_)
    refine c_seq (fun K92 hK92 => ?_)
    refine c_reg ?_ -- region 3 flat.go:99
    refine wl (ro_taN rfl nif_381 rfl zi_381) ?_
    refine wl (ro_extract rfl rfl) ?_
    refine wl (ro_extract rfl rfl) ?_
    refine wl_nil (x_then (hK92 _ _ ?_))
    clear hK92 K92
    refine wc_condF rfl ?_
    refine c_seq (fun K93 hK93 => ?_)
    refine c_reg ?_ -- region 6 flat.go:99
    refine wl (ro_taN rfl nif_384 rfl zi_384) ?_
    refine wl (ro_extract rfl rfl) ?_
    refine wl (ro_extract rfl rfl) ?_
    refine wl_nil (x_then (hK93 _ _ ?_))
    clear hK93 K93
    refine wc_condF rfl ?_
    refine c_seq (fun K94 hK94 => ?_)
    refine c_reg ?_ -- region 10 flat.go:99
    refine wl (ro_taN rfl nif_374 rfl zi_374) ?_
    refine wl (ro_extract rfl rfl) ?_
    refine wl (ro_extract rfl rfl) ?_
    refine wl_nil (x_then (hK94 _ _ ?_))
    clear hK94 K94
    refine wc_condF rfl ?_
    refine c_seq (fun K95 hK95 => ?_)
    refine c_reg ?_ -- region 14 flat.go:99
    refine wl (ro_taN rfl nif_305 rfl zi_305) ?_
    refine wl (ro_extract rfl rfl) ?_
    refine wl (ro_extract rfl rfl) ?_
    refine wl_nil (x_then (hK95 _ _ ?_))
    clear hK95 K95
    refine wc_condF rfl ?_
    refine c_seq (fun K96 hK96 => ?_)
    refine c_reg ?_ -- region 18 flat.go:99
    refine wl (ro_taN rfl nif_306 rfl zi_306) ?_
    refine wl (ro_extract rfl rfl) ?_
    refine wl (ro_extract rfl rfl) ?_
    refine wl_nil (x_then (hK96 _ _ ?_))
    clear hK96 K96
    refine wc_condF rfl ?_
    refine c_seq (fun K97 hK97 => ?_)
    refine c_reg ?_ -- region 23 flat.go:99
    refine wl (ro_taN rfl nif_300 rfl zi_300) ?_
    refine wl (ro_extract rfl rfl) ?_
    refine wl (ro_extract rfl rfl) ?_
    refine wl_nil (x_then (hK97 _ _ ?_))
    clear hK97 K97
    refine wc_condF rfl ?_
    refine c_seq (fun K98 hK98 => ?_)
    refine c_reg ?_ -- region 28 flat.go:99
    refine wl (ro_taN rfl nif_346 rfl zi_346) ?_
    refine wl (ro_extract rfl rfl) ?_
    refine wl (ro_extract rfl rfl) ?_
    refine wl_nil (x_then (hK98 _ _ ?_))
    clear hK98 K98
    refine wc_condF rfl ?_
    refine c_seq (fun K99 hK99 => ?_)
    refine c_reg ?_ -- region 34 flat.go:99
    refine wl (ro_taN rfl nif_389 rfl zi_389) ?_
    refine wl (ro_extract rfl rfl) ?_
    refine wl (ro_extract rfl rfl) ?_
    refine wl_nil (x_then (hK99 _ _ ?_))
    clear hK99 K99
    refine wc_condF rfl ?_
    refine c_seq (fun K100 hK100 => ?_)
    refine c_reg ?_ -- region 38 flat.go:99
    refine wl (ro_taY rfl nif_369) ?_
    refine wl (ro_extract rfl rfl) ?_
    refine wl (ro_extract rfl rfl) ?_
    refine wl_nil (x_then (hK100 _ _ ?_))
    clear hK100 K100
    refine wc_condT rfl ?_
    refine c_seq (fun K101 hK101 => ?_)
    refine c_reg ?_ -- region 39 flat.go:99
    refine wl (ro_assign rfl) ?_
    refine wl_nil (x_then (hK101 _ _ ?_))
    clear hK101 K101
    refine forget [(0, _), (5, _), (14, _)] ⟨rfl, rfl, rfl, trivial⟩ (fun e => ?_)
    refine c_seq (fun K102 hK102 => ?_)
    refine c_reg ?_ -- region 40 flat.go:128
    refine wl (ro_move rfl) ?_
    refine wl (ro_nilCheck rfl) ?_
    refine wl (ro_fieldAddr (k := 1) rfl fo_371_1) ?_
    refine wl (ro_loadB rfl sc_3 (by assumption) rfl) ?_
    refine wl (ro_fieldAddr (k := 0) rfl fo_148_0) ?_
    refine wl_put rfl rfl rfl sz_3 h5 (by simp) (rfl) (fun w38 h5 F38 => ?_)
    have hcx_ := trivial
    replace hF := hF.thenDrew.thenO F38 (by first | exact .inr (by omega) | exact .inl rfl | exact .inl (by assumption) | assumption)
    replace hB := F38.blkO hB (by omega)
    replace hAf := hAf.hbput ((Fram.refl (one b5) _).thenDrew.thenO F38 (.inl rfl))
    replace hQ := hQ.hbput ((Fram.refl (one b5) _).thenDrew.thenO F38 (.inl rfl))
    refine wl_nil (x_then (hK102 _ _ ?_))
    clear hK102 K102
    refine forget [(0, _), (5, _), (14, _)] ⟨rfl, rfl, rfl, trivial⟩ (fun e => ?_)
    refine c_seq (fun K103 hK103 => ?_)
    refine c_reg ?_ -- region 41 flat.go:129
    refine wl (ro_move rfl) ?_
    refine wl (ro_nilCheck rfl) ?_
    refine wl (ro_fieldAddr (k := 2) rfl fo_371_2) ?_
    refine wl (ro_loadB rfl sc_117 (by assumption) rfl) ?_
    refine wl (ro_fieldAddr (k := 5) rfl fo_148_5) ?_
    refine wl_put rfl rfl rfl sz_117 h5 (by simp) (rfl) (fun w39 h5 F39 => ?_)
    have hcx_ := trivial
    replace hF := hF.thenDrew.thenO F39 (by first | exact .inr (by omega) | exact .inl rfl | exact .inl (by assumption) | assumption)
    replace hB := F39.blkO hB (by omega)
    replace hAf := hAf.hbput ((Fram.refl (one b5) _).thenDrew.thenO F39 (.inl rfl))
    replace hQ := hQ.hbput ((Fram.refl (one b5) _).thenDrew.thenO F39 (.inl rfl))
    refine wl_nil (x_then (hK103 _ _ ?_))
    clear hK103 K103
    refine forget [(0, _), (5, _), (14, _)] ⟨rfl, rfl, rfl, trivial⟩ (fun e => ?_)
    refine c_seq (fun K104 hK104 => ?_)
    refine c_reg ?_ -- region 42 flat.go:130
    refine wl (ro_move rfl) ?_
    refine wl (ro_move rfl) ?_
    refine wl (ro_nilCheck rfl) ?_
    refine wl (ro_fieldAddr (k := 3) rfl fo_371_3) ?_
    refine wl (ro_loadB rfl sc_290 (by assumption) rfl) ?_
    refine wl_call rfl en_185 (ih.e hAf.1 hQ.1.1 hb1 (by omega) (by omega) (by omega)) ?_
    rintro _ u1 ⟨rfl, U1, G1, hA1, hm1, hl1, hn1, F9⟩
    have h5l := h5.lt
    replace h5 := h5.fram F9 hAf.2
    replace hB := hB.fram F9 (hAf.1.no hb3)
    replace hQ := hQ.ar hAf F9
    have hz := hF.size
    replace hF := ar_trans hF hnb F9
    replace hnb := nob_trans hnb hz hn1
    replace hAf := hAf.next hA1 hn1 h5l
    refine wl (ro_fieldAddr (k := 1) rfl fo_148_1) ?_
    refine wl_put rfl rfl rfl sz_3 h5 (by simp) (rfl) (fun w40 h5 F40 => ?_)
    have hcx_ := trivial
    replace hF := hF.thenDrew.thenO F40 (by first | exact .inr (by omega) | exact .inl rfl | exact .inl (by assumption) | assumption)
    replace hB := F40.blkO hB (by omega)
    replace hAf := hAf.hbput ((Fram.refl (one b5) _).thenDrew.thenO F40 (.inl rfl))
    replace hQ := hQ.hbput ((Fram.refl (one b5) _).thenDrew.thenO F40 (.inl rfl))
    refine wl_nil (x_then (hK104 _ _ ?_))
    clear hK104 K104
    refine c_reg ?_ -- region 43 flat.go:131
    refine wl (ro_move rfl) ?_
    refine wl (ro_move rfl) ?_
    refine wl (ro_nilCheck rfl) ?_
    refine wl (ro_fieldAddr (k := 4) rfl fo_371_4) ?_
    refine wl (ro_loadB rfl sc_290 (by assumption) rfl) ?_
    refine wl_call rfl en_185 (ih.e hAf.1 hQ.1.2 hb2 (by omega) (by omega) (by omega)) ?_
    rintro _ u2 ⟨rfl, U2, G2, hA2, hm2, hl2, hn2, F9⟩
    have h5l := h5.lt
    replace h5 := h5.fram F9 hAf.2
    replace hB := hB.fram F9 (hAf.1.no hb3)
    replace hQ := hQ.ar hAf F9
    have hz := hF.size
    replace hF := ar_trans hF hnb F9
    replace hnb := nob_trans hnb hz hn2
    replace hAf := hAf.next hA2 hn2 h5l
    refine wl (ro_fieldAddr (k := 2) rfl fo_148_2) ?_
    refine wl_put rfl rfl rfl sz_3 h5 (by simp) (rfl) (fun w41 h5 F41 => ?_)
    have hcx_ := trivial
    replace hF := hF.thenDrew.thenO F41 (by first | exact .inr (by omega) | exact .inl rfl | exact .inl (by assumption) | assumption)
    replace hB := F41.blkO hB (by omega)
    replace hAf := hAf.hbput ((Fram.refl (one b5) _).thenDrew.thenO F41 (.inl rfl))
    replace hQ := hQ.hbput ((Fram.refl (one b5) _).thenDrew.thenO F41 (.inl rfl))
    refine wl_nil (x_blk (x_then (hK90 _ _ ?_)))
    clear hK90 K90
    refine forget [(0, _), (5, _)] ⟨rfl, rfl, trivial⟩ (fun e => ?_)
    refine c_seq (fun K105 hK105 => ?_)
    refine c_reg ?_ -- region 49 flat.go:137
    refine wl (ro_move rfl) ?_
    refine wl (ro_loadAggB rfl ag_148 (by assumption) rfl rfl) ?_
    refine wl_call rfl en_227 (add227 (x := (⟨22, G.length + ndT a - 1, G1.length + ndT a2 - 1, 0, 0, k, []⟩, p)) hAf.1 (by omega)) ?_
    rintro _ u9 ⟨rfl, U9, G9, hA9, hm9, hl9, hn9, F9⟩
    refine wl (ro_assign rfl) ?_
    refine wl_nil (x_then (hK105 _ _ ?_))
    clear hK105 K105
    refine c_ret ?_
    refine bp_ret Tryz.results185 rfl ?_
    refine ⟨congrArg (fun z : Nat => i64c z) (by omega), U9, G9, hA9, ?_, by omega, nob_trans hnb hF.size hn9, ar_trans hF hnb F9⟩
    show _ = G.map Prod.fst ++ (lay a G.length ++ lay a2 (G.length + ndT a) ++ [⟨22, rt a G.length, rt a2 (G.length + ndT a), 0, 0, k, []⟩])
    rw [hTa.lx0.rt, hTb.lx0.rt, hm9, hm2, hm1, hl1]
    try simp only [List.append_assoc]
  · skip
    obtain ⟨b, pp, x, e1, hB, hTa⟩ := TrM_un.1 hT
    injection e1 with e1 _
    subst e1
    have hb3 := hB.2
    replace hB := hB.1
    have hbl := hB.lt
    have hnd : ndT (Ex.un k a) = 1 + ndT a := rfl
    have hb1 : NmB a := hbn
    refine c_reg ?_ -- region 0 flat.go:97
    refine wl (ro_assign rfl) ?_
    refine wl_nil (x_then (hK1 _ _ ?_))
    clear hK1 K1
    refine forget [(0, _), (1, _)] ⟨rfl, rfl, trivial⟩ (fun e => ?_)
    refine c_seq (fun K106 hK106 => ?_)
    refine c_reg ?_ -- region 1 flat.go:98
    refine wl (ro_move rfl) ?_
    refine wl_pos rfl (posR392 hB) (fun p ↦ ?_)
    refine wl (ro_build rfl bld_148_7) ?_
    refine wl_new (ze_148) (fun b5 w42 hbb5 h5 F42 => ?_)
    have hbsb5 := Nat.le_trans hF.size hbb5
    have hbsb5 := Nat.le_trans hL.size hbb5
    have hnebb5 : b < b5 := Nat.lt_of_lt_of_le hB.lt hbb5
    replace hF := hF.thenDrew.thenN F42
    replace hL := hL.thenDrew.thenN F42
    replace hB := F42.blkN hB
    refine wl_puta rfl rfl ((by (try exact vlc_cells _); all_goals simp [Value.oneCell', i64c, icv, u64c, u8c, ptr, S])) sz_148 (rfl) h5 ((by simp)) (rfl) (fun w43 h5 F43 => ?_)
    replace hF := hF.thenDrew.thenO F43 (by first | exact .inr (by omega) | exact .inl rfl | exact .inl (by assumption) | assumption)
    replace hL := hL.thenDrew.thenO F43 (by first | exact .inr (by omega) | exact .inl rfl | exact .inl (by assumption) | assumption)
    replace hB := F43.blkO hB (by omega)
    refine wl_nil (x_then (hK106 _ _ ?_))
    clear hK106 K106
    refine c_seq (fun K107 hK107 => ?_)
    refine c_seq (fun K108 hK108 => ?_)
    have hAf : ArF b5 _ ow sb c0 c1 U G := ⟨hA.farN hL, fun q => by
      rcases q with q | q
      · omega
      · have := hA.own.lt q; omega⟩
    have hQ : Cy b5 ow (fun u : World => TrM u ow 0 a [x]) _ := ⟨hTa.far hL (fun _ _ _ h => h) (Xt.refl _ _), hA.n3 b5 hbsb5, fun u u1 S q0 f hn => q0.far f hn (Xt.refl _ _)⟩
    refine c_reg ?_ -- region 2 flat.go:99
    refine wl (ro_move rfl) ?_
    refine wl_nil (x_then (hK108 _ _ ?_))
    clear hK108 K108
    refine c_block ?_
    refine forget [(0, _), (5, _), (19, _)] ⟨rfl, rfl, rfl, trivial⟩ (fun e => ?_)
    refine c_seq (fun K109 hK109 => ?_)
    refine c_reg ?_ -- region 3 flat.go:99
    refine wl (ro_taN rfl nif_381 rfl zi_381) ?_
    refine wl (ro_extract rfl rfl) ?_
    refine wl (ro_extract rfl rfl) ?_
    refine wl_nil (x_then (hK109 _ _ ?_))
    clear hK109 K109
    refine wc_condF rfl ?_
    refine c_seq (fun K110 hK110 => ?_)
    refine c_reg ?_ -- region 6 flat.go:99
    refine wl (ro_taN rfl nif_384 rfl zi_384) ?_
    refine wl (ro_extract rfl rfl) ?_
    refine wl (ro_extract rfl rfl) ?_
    refine wl_nil (x_then (hK110 _ _ ?_))
    clear hK110 K110
    refine wc_condF rfl ?_
    refine c_seq (fun K111 hK111 => ?_)
    refine c_reg ?_ -- region 10 flat.go:99
    refine wl (ro_taN rfl nif_374 rfl zi_374) ?_
    refine wl (ro_extract rfl rfl) ?_
    refine wl (ro_extract rfl rfl) ?_
    refine wl_nil (x_then (hK111 _ _ ?_))
    clear hK111 K111
    refine wc_condF rfl ?_
    refine c_seq (fun K112 hK112 => ?_)
    refine c_reg ?_ -- region 14 flat.go:99
    refine wl (ro_taN rfl nif_305 rfl zi_305) ?_
    refine wl (ro_extract rfl rfl) ?_
    refine wl (ro_extract rfl rfl) ?_
    refine wl_nil (x_then (hK112 _ _ ?_))
    clear hK112 K112
    refine wc_condF rfl ?_
    refine c_seq (fun K113 hK113 => ?_)
    refine c_reg ?_ -- region 18 flat.go:99
    refine wl (ro_taN rfl nif_306 rfl zi_306) ?_
    refine wl (ro_extract rfl rfl) ?_
    refine wl (ro_extract rfl rfl) ?_
    refine wl_nil (x_then (hK113 _ _ ?_))
    clear hK113 K113
    refine wc_condF rfl ?_
    refine c_seq (fun K114 hK114 => ?_)
    refine c_reg ?_ -- region 23 flat.go:99
    refine wl (ro_taN rfl nif_300 rfl zi_300) ?_
    refine wl (ro_extract rfl rfl) ?_
    refine wl (ro_extract rfl rfl) ?_
    refine wl_nil (x_then (hK114 _ _ ?_))
    clear hK114 K114
    refine wc_condF rfl ?_
    refine c_seq (fun K115 hK115 => ?_)
    refine c_reg ?_ -- region 28 flat.go:99
    refine wl (ro_taN rfl nif_346 rfl zi_346) ?_
    refine wl (ro_extract rfl rfl) ?_
    refine wl (ro_extract rfl rfl) ?_
    refine wl_nil (x_then (hK115 _ _ ?_))
    clear hK115 K115
    refine wc_condF rfl ?_
    refine c_seq (fun K116 hK116 => ?_)
    refine c_reg ?_ -- region 34 flat.go:99
    refine wl (ro_taN rfl nif_389 rfl zi_389) ?_
    refine wl (ro_extract rfl rfl) ?_
    refine wl (ro_extract rfl rfl) ?_
    refine wl_nil (x_then (hK116 _ _ ?_))
    clear hK116 K116
    refine wc_condF rfl ?_
    refine c_seq (fun K117 hK117 => ?_)
    refine c_reg ?_ -- region 38 flat.go:99
    refine wl (ro_taN rfl nif_369 rfl zi_369) ?_
    refine wl (ro_extract rfl rfl) ?_
    refine wl (ro_extract rfl rfl) ?_
    refine wl_nil (x_then (hK117 _ _ ?_))
    clear hK117 K117
    refine wc_condF rfl ?_
    refine c_seq (fun K118 hK118 => ?_)
    refine c_reg ?_ -- region 44 flat.go:99
    refine wl (ro_taY rfl nif_392) ?_
    refine wl (ro_extract rfl rfl) ?_
    refine wl (ro_extract rfl rfl) ?_
    refine wl_nil (x_then (hK118 _ _ ?_))
    clear hK118 K118
    refine wc_condT rfl ?_
    refine c_seq (fun K119 hK119 => ?_)
    refine c_reg ?_ -- region 45 flat.go:99
    refine wl (ro_assign rfl) ?_
    refine wl_nil (x_then (hK119 _ _ ?_))
    clear hK119 K119
    refine forget [(0, _), (5, _), (15, _)] ⟨rfl, rfl, rfl, trivial⟩ (fun e => ?_)
    refine c_seq (fun K120 hK120 => ?_)
    refine c_reg ?_ -- region 46 flat.go:133
    refine wl (ro_fieldAddr (k := 0) rfl fo_148_0) ?_
    refine wl_put rfl rfl rfl sz_3 h5 (by simp) (rfl) (fun w44 h5 F44 => ?_)
    have hcx_ := trivial
    replace hF := hF.thenDrew.thenO F44 (by first | exact .inr (by omega) | exact .inl rfl | exact .inl (by assumption) | assumption)
    replace hB := F44.blkO hB (by omega)
    replace hAf := hAf.hbput ((Fram.refl (one b5) _).thenDrew.thenO F44 (.inl rfl))
    replace hQ := hQ.hbput ((Fram.refl (one b5) _).thenDrew.thenO F44 (.inl rfl))
    refine wl_nil (x_then (hK120 _ _ ?_))
    clear hK120 K120
    refine forget [(0, _), (5, _), (15, _)] ⟨rfl, rfl, rfl, trivial⟩ (fun e => ?_)
    refine c_seq (fun K121 hK121 => ?_)
    refine c_reg ?_ -- region 47 flat.go:134
    refine wl (ro_move rfl) ?_
    refine wl (ro_nilCheck rfl) ?_
    refine wl (ro_fieldAddr (k := 1) rfl fo_394_1) ?_
    refine wl (ro_loadB rfl sc_117 (by assumption) rfl) ?_
    refine wl (ro_fieldAddr (k := 5) rfl fo_148_5) ?_
    refine wl_put rfl rfl rfl sz_117 h5 (by simp) (rfl) (fun w45 h5 F45 => ?_)
    have hcx_ := trivial
    replace hF := hF.thenDrew.thenO F45 (by first | exact .inr (by omega) | exact .inl rfl | exact .inl (by assumption) | assumption)
    replace hB := F45.blkO hB (by omega)
    replace hAf := hAf.hbput ((Fram.refl (one b5) _).thenDrew.thenO F45 (.inl rfl))
    replace hQ := hQ.hbput ((Fram.refl (one b5) _).thenDrew.thenO F45 (.inl rfl))
    refine wl_nil (x_then (hK121 _ _ ?_))
    clear hK121 K121
    refine c_reg ?_ -- region 48 flat.go:135
    refine wl (ro_move rfl) ?_
    refine wl (ro_move rfl) ?_
    refine wl (ro_nilCheck rfl) ?_
    refine wl (ro_fieldAddr (k := 2) rfl fo_394_2) ?_
    refine wl (ro_loadB rfl sc_290 (by assumption) rfl) ?_
    refine wl_call rfl en_185 (ih.e hAf.1 hQ.1 hb1 (by omega) (by omega) (by omega)) ?_
    rintro _ u1 ⟨rfl, U1, G1, hA1, hm1, hl1, hn1, F9⟩
    have h5l := h5.lt
    replace h5 := h5.fram F9 hAf.2
    replace hB := hB.fram F9 (hAf.1.no hb3)
    replace hQ := hQ.ar hAf F9
    have hz := hF.size
    replace hF := ar_trans hF hnb F9
    replace hnb := nob_trans hnb hz hn1
    replace hAf := hAf.next hA1 hn1 h5l
    refine wl (ro_fieldAddr (k := 1) rfl fo_148_1) ?_
    refine wl_put rfl rfl rfl sz_3 h5 (by simp) (rfl) (fun w46 h5 F46 => ?_)
    have hcx_ := trivial
    replace hF := hF.thenDrew.thenO F46 (by first | exact .inr (by omega) | exact .inl rfl | exact .inl (by assumption) | assumption)
    replace hB := F46.blkO hB (by omega)
    replace hAf := hAf.hbput ((Fram.refl (one b5) _).thenDrew.thenO F46 (.inl rfl))
    replace hQ := hQ.hbput ((Fram.refl (one b5) _).thenDrew.thenO F46 (.inl rfl))
    refine wl_nil (x_blk (x_then (hK107 _ _ ?_)))
    clear hK107 K107
    refine forget [(0, _), (5, _)] ⟨rfl, rfl, trivial⟩ (fun e => ?_)
    refine c_seq (fun K122 hK122 => ?_)
    refine c_reg ?_ -- region 49 flat.go:137
    refine wl (ro_move rfl) ?_
    refine wl (ro_loadAggB rfl ag_148 (by assumption) rfl rfl) ?_
    refine wl_call rfl en_227 (add227 (x := (⟨23, G.length + ndT a - 1, 0, 0, 0, k, []⟩, p)) hAf.1 (by omega)) ?_
    rintro _ u9 ⟨rfl, U9, G9, hA9, hm9, hl9, hn9, F9⟩
    refine wl (ro_assign rfl) ?_
    refine wl_nil (x_then (hK122 _ _ ?_))
    clear hK122 K122
    refine c_ret ?_
    refine bp_ret Tryz.results185 rfl ?_
    refine ⟨congrArg (fun z : Nat => i64c z) (by omega), U9, G9, hA9, ?_, by omega, nob_trans hnb hF.size hn9, ar_trans hF hnb F9⟩
    show _ = G.map Prod.fst ++ (lay a G.length ++ [⟨23, rt a G.length, 0, 0, 0, k, []⟩])
    rw [hTa.lx0.rt, hm9, hm1]
    try simp only [List.append_assoc]
  · skip
    obtain ⟨b, pp, x, y, e1, hB, hTa, hTb⟩ := TrM_land.1 hT
    injection e1 with e1 _
    subst e1
    have hb3 := hB.2
    replace hB := hB.1
    have hbl := hB.lt
    have hnd : ndT (Ex.land a a2) = 1 + ndT a + ndT a2 := rfl
    have hbn : ∀ k ∈ numsT a ++ numsT a2, k < 4611686018427387904 := hbn
    have hb1 : NmB a := fun k hk => hbn k (List.mem_append.2 (.inl hk))
    have hb2 : NmB a2 := fun k hk => hbn k (List.mem_append.2 (.inr hk))
    refine c_reg ?_ -- region 0 flat.go:97
    refine wl (ro_assign rfl) ?_
    refine wl_nil (x_then (hK1 _ _ ?_))
    clear hK1 K1
    refine forget [(0, _), (1, _)] ⟨rfl, rfl, trivial⟩ (fun e => ?_)
    refine c_seq (fun K123 hK123 => ?_)
    refine c_reg ?_ -- region 1 flat.go:98
    refine wl (ro_move rfl) ?_
    refine wl_pos rfl (posR369 hB) (fun p ↦ ?_)
    refine wl (ro_build rfl bld_148_7) ?_
    refine wl_new (ze_148) (fun b5 w47 hbb5 h5 F47 => ?_)
    have hbsb5 := Nat.le_trans hF.size hbb5
    have hbsb5 := Nat.le_trans hL.size hbb5
    have hnebb5 : b < b5 := Nat.lt_of_lt_of_le hB.lt hbb5
    replace hF := hF.thenDrew.thenN F47
    replace hL := hL.thenDrew.thenN F47
    replace hB := F47.blkN hB
    refine wl_puta rfl rfl ((by (try exact vlc_cells _); all_goals simp [Value.oneCell', i64c, icv, u64c, u8c, ptr, S])) sz_148 (rfl) h5 ((by simp)) (rfl) (fun w48 h5 F48 => ?_)
    replace hF := hF.thenDrew.thenO F48 (by first | exact .inr (by omega) | exact .inl rfl | exact .inl (by assumption) | assumption)
    replace hL := hL.thenDrew.thenO F48 (by first | exact .inr (by omega) | exact .inl rfl | exact .inl (by assumption) | assumption)
    replace hB := F48.blkO hB (by omega)
    refine wl_nil (x_then (hK123 _ _ ?_))
    clear hK123 K123
    refine c_seq (fun K124 hK124 => ?_)
    refine c_seq (fun K125 hK125 => ?_)
    have hAf : ArF b5 _ ow sb c0 c1 U G := ⟨hA.farN hL, fun q => by
      rcases q with q | q
      · omega
      · have := hA.own.lt q; omega⟩
    have hQ : Cy b5 ow (fun u : World => TrM u ow 0 a [x] ∧ TrM u ow 0 a2 [y]) _ := ⟨⟨hTa.far hL (fun _ _ _ h => h) (Xt.refl _ _), hTb.far hL (fun _ _ _ h => h) (Xt.refl _ _)⟩, hA.n3 b5 hbsb5, fun u u1 S ⟨q0, q1⟩ f hn => ⟨q0.far f hn (Xt.refl _ _), q1.far f hn (Xt.refl _ _)⟩⟩
    refine c_reg ?_ -- region 2 flat.go:99
    refine wl (ro_move rfl) ?_
    refine wl_nil (x_then (hK125 _ _ ?_))
    clear hK125 K125
    refine c_block ?_
    refine forget [(0, _), (5, _), (19, _)] ⟨rfl, rfl, rfl, trivial⟩ (fun e => ?_)
    refine c_seq (fun K126 hK126 => ?_)
    refine c_reg ?_ -- region 3 flat.go:99
    refine wl (ro_taN rfl nif_381 rfl zi_381) ?_
    refine wl (ro_extract rfl rfl) ?_
    refine wl (ro_extract rfl rfl) ?_
    refine wl_nil (x_then (hK126 _ _ ?_))
    clear hK126 K126
    refine wc_condF rfl ?_
    refine c_seq (fun K127 hK127 => ?_)
    refine c_reg ?_ -- region 6 flat.go:99
    refine wl (ro_taN rfl nif_384 rfl zi_384) ?_
    refine wl (ro_extract rfl rfl) ?_
    refine wl (ro_extract rfl rfl) ?_
    refine wl_nil (x_then (hK127 _ _ ?_))
    clear hK127 K127
    refine wc_condF rfl ?_
    refine c_seq (fun K128 hK128 => ?_)
    refine c_reg ?_ -- region 10 flat.go:99
    refine wl (ro_taN rfl nif_374 rfl zi_374) ?_
    refine wl (ro_extract rfl rfl) ?_
    refine wl (ro_extract rfl rfl) ?_
    refine wl_nil (x_then (hK128 _ _ ?_))
    clear hK128 K128
    refine wc_condF rfl ?_
    refine c_seq (fun K129 hK129 => ?_)
    refine c_reg ?_ -- region 14 flat.go:99
    refine wl (ro_taN rfl nif_305 rfl zi_305) ?_
    refine wl (ro_extract rfl rfl) ?_
    refine wl (ro_extract rfl rfl) ?_
    refine wl_nil (x_then (hK129 _ _ ?_))
    clear hK129 K129
    refine wc_condF rfl ?_
    refine c_seq (fun K130 hK130 => ?_)
    refine c_reg ?_ -- region 18 flat.go:99
    refine wl (ro_taN rfl nif_306 rfl zi_306) ?_
    refine wl (ro_extract rfl rfl) ?_
    refine wl (ro_extract rfl rfl) ?_
    refine wl_nil (x_then (hK130 _ _ ?_))
    clear hK130 K130
    refine wc_condF rfl ?_
    refine c_seq (fun K131 hK131 => ?_)
    refine c_reg ?_ -- region 23 flat.go:99
    refine wl (ro_taN rfl nif_300 rfl zi_300) ?_
    refine wl (ro_extract rfl rfl) ?_
    refine wl (ro_extract rfl rfl) ?_
    refine wl_nil (x_then (hK131 _ _ ?_))
    clear hK131 K131
    refine wc_condF rfl ?_
    refine c_seq (fun K132 hK132 => ?_)
    refine c_reg ?_ -- region 28 flat.go:99
    refine wl (ro_taN rfl nif_346 rfl zi_346) ?_
    refine wl (ro_extract rfl rfl) ?_
    refine wl (ro_extract rfl rfl) ?_
    refine wl_nil (x_then (hK132 _ _ ?_))
    clear hK132 K132
    refine wc_condF rfl ?_
    refine c_seq (fun K133 hK133 => ?_)
    refine c_reg ?_ -- region 34 flat.go:99
    refine wl (ro_taN rfl nif_389 rfl zi_389) ?_
    refine wl (ro_extract rfl rfl) ?_
    refine wl (ro_extract rfl rfl) ?_
    refine wl_nil (x_then (hK133 _ _ ?_))
    clear hK133 K133
    refine wc_condF rfl ?_
    refine c_seq (fun K134 hK134 => ?_)
    refine c_reg ?_ -- region 38 flat.go:99
    refine wl (ro_taY rfl nif_369) ?_
    refine wl (ro_extract rfl rfl) ?_
    refine wl (ro_extract rfl rfl) ?_
    refine wl_nil (x_then (hK134 _ _ ?_))
    clear hK134 K134
    refine wc_condT rfl ?_
    refine c_seq (fun K135 hK135 => ?_)
    refine c_reg ?_ -- region 39 flat.go:99
    refine wl (ro_assign rfl) ?_
    refine wl_nil (x_then (hK135 _ _ ?_))
    clear hK135 K135
    refine forget [(0, _), (5, _), (14, _)] ⟨rfl, rfl, rfl, trivial⟩ (fun e => ?_)
    refine c_seq (fun K136 hK136 => ?_)
    refine c_reg ?_ -- region 40 flat.go:128
    refine wl (ro_move rfl) ?_
    refine wl (ro_nilCheck rfl) ?_
    refine wl (ro_fieldAddr (k := 1) rfl fo_371_1) ?_
    refine wl (ro_loadB rfl sc_3 (by assumption) rfl) ?_
    refine wl (ro_fieldAddr (k := 0) rfl fo_148_0) ?_
    refine wl_put rfl rfl rfl sz_3 h5 (by simp) (rfl) (fun w49 h5 F49 => ?_)
    have hcx_ := trivial
    replace hF := hF.thenDrew.thenO F49 (by first | exact .inr (by omega) | exact .inl rfl | exact .inl (by assumption) | assumption)
    replace hB := F49.blkO hB (by omega)
    replace hAf := hAf.hbput ((Fram.refl (one b5) _).thenDrew.thenO F49 (.inl rfl))
    replace hQ := hQ.hbput ((Fram.refl (one b5) _).thenDrew.thenO F49 (.inl rfl))
    refine wl_nil (x_then (hK136 _ _ ?_))
    clear hK136 K136
    refine forget [(0, _), (5, _), (14, _)] ⟨rfl, rfl, rfl, trivial⟩ (fun e => ?_)
    refine c_seq (fun K137 hK137 => ?_)
    refine c_reg ?_ -- region 41 flat.go:129
    refine wl (ro_move rfl) ?_
    refine wl (ro_nilCheck rfl) ?_
    refine wl (ro_fieldAddr (k := 2) rfl fo_371_2) ?_
    refine wl (ro_loadB rfl sc_117 (by assumption) rfl) ?_
    refine wl (ro_fieldAddr (k := 5) rfl fo_148_5) ?_
    refine wl_put rfl rfl rfl sz_117 h5 (by simp) (rfl) (fun w50 h5 F50 => ?_)
    have hcx_ := trivial
    replace hF := hF.thenDrew.thenO F50 (by first | exact .inr (by omega) | exact .inl rfl | exact .inl (by assumption) | assumption)
    replace hB := F50.blkO hB (by omega)
    replace hAf := hAf.hbput ((Fram.refl (one b5) _).thenDrew.thenO F50 (.inl rfl))
    replace hQ := hQ.hbput ((Fram.refl (one b5) _).thenDrew.thenO F50 (.inl rfl))
    refine wl_nil (x_then (hK137 _ _ ?_))
    clear hK137 K137
    refine forget [(0, _), (5, _), (14, _)] ⟨rfl, rfl, rfl, trivial⟩ (fun e => ?_)
    refine c_seq (fun K138 hK138 => ?_)
    refine c_reg ?_ -- region 42 flat.go:130
    refine wl (ro_move rfl) ?_
    refine wl (ro_move rfl) ?_
    refine wl (ro_nilCheck rfl) ?_
    refine wl (ro_fieldAddr (k := 3) rfl fo_371_3) ?_
    refine wl (ro_loadB rfl sc_290 (by assumption) rfl) ?_
    refine wl_call rfl en_185 (ih.e hAf.1 hQ.1.1 hb1 (by omega) (by omega) (by omega)) ?_
    rintro _ u1 ⟨rfl, U1, G1, hA1, hm1, hl1, hn1, F9⟩
    have h5l := h5.lt
    replace h5 := h5.fram F9 hAf.2
    replace hB := hB.fram F9 (hAf.1.no hb3)
    replace hQ := hQ.ar hAf F9
    have hz := hF.size
    replace hF := ar_trans hF hnb F9
    replace hnb := nob_trans hnb hz hn1
    replace hAf := hAf.next hA1 hn1 h5l
    refine wl (ro_fieldAddr (k := 1) rfl fo_148_1) ?_
    refine wl_put rfl rfl rfl sz_3 h5 (by simp) (rfl) (fun w51 h5 F51 => ?_)
    have hcx_ := trivial
    replace hF := hF.thenDrew.thenO F51 (by first | exact .inr (by omega) | exact .inl rfl | exact .inl (by assumption) | assumption)
    replace hB := F51.blkO hB (by omega)
    replace hAf := hAf.hbput ((Fram.refl (one b5) _).thenDrew.thenO F51 (.inl rfl))
    replace hQ := hQ.hbput ((Fram.refl (one b5) _).thenDrew.thenO F51 (.inl rfl))
    refine wl_nil (x_then (hK138 _ _ ?_))
    clear hK138 K138
    refine c_reg ?_ -- region 43 flat.go:131
    refine wl (ro_move rfl) ?_
    refine wl (ro_move rfl) ?_
    refine wl (ro_nilCheck rfl) ?_
    refine wl (ro_fieldAddr (k := 4) rfl fo_371_4) ?_
    refine wl (ro_loadB rfl sc_290 (by assumption) rfl) ?_
    refine wl_call rfl en_185 (ih.e hAf.1 hQ.1.2 hb2 (by omega) (by omega) (by omega)) ?_
    rintro _ u2 ⟨rfl, U2, G2, hA2, hm2, hl2, hn2, F9⟩
    have h5l := h5.lt
    replace h5 := h5.fram F9 hAf.2
    replace hB := hB.fram F9 (hAf.1.no hb3)
    replace hQ := hQ.ar hAf F9
    have hz := hF.size
    replace hF := ar_trans hF hnb F9
    replace hnb := nob_trans hnb hz hn2
    replace hAf := hAf.next hA2 hn2 h5l
    refine wl (ro_fieldAddr (k := 2) rfl fo_148_2) ?_
    refine wl_put rfl rfl rfl sz_3 h5 (by simp) (rfl) (fun w52 h5 F52 => ?_)
    have hcx_ := trivial
    replace hF := hF.thenDrew.thenO F52 (by first | exact .inr (by omega) | exact .inl rfl | exact .inl (by assumption) | assumption)
    replace hB := F52.blkO hB (by omega)
    replace hAf := hAf.hbput ((Fram.refl (one b5) _).thenDrew.thenO F52 (.inl rfl))
    replace hQ := hQ.hbput ((Fram.refl (one b5) _).thenDrew.thenO F52 (.inl rfl))
    refine wl_nil (x_blk (x_then (hK124 _ _ ?_)))
    clear hK124 K124
    refine forget [(0, _), (5, _)] ⟨rfl, rfl, trivial⟩ (fun e => ?_)
    refine c_seq (fun K139 hK139 => ?_)
    refine c_reg ?_ -- region 49 flat.go:137
    refine wl (ro_move rfl) ?_
    refine wl (ro_loadAggB rfl ag_148 (by assumption) rfl rfl) ?_
    refine wl_call rfl en_227 (add227 (x := (⟨24, G.length + ndT a - 1, G1.length + ndT a2 - 1, 0, 0, 0, []⟩, p)) hAf.1 (by omega)) ?_
    rintro _ u9 ⟨rfl, U9, G9, hA9, hm9, hl9, hn9, F9⟩
    refine wl (ro_assign rfl) ?_
    refine wl_nil (x_then (hK139 _ _ ?_))
    clear hK139 K139
    refine c_ret ?_
    refine bp_ret Tryz.results185 rfl ?_
    refine ⟨congrArg (fun z : Nat => i64c z) (by omega), U9, G9, hA9, ?_, by omega, nob_trans hnb hF.size hn9, ar_trans hF hnb F9⟩
    show _ = G.map Prod.fst ++ (lay a G.length ++ lay a2 (G.length + ndT a) ++ [⟨24, rt a G.length, rt a2 (G.length + ndT a), 0, 0, 0, []⟩])
    rw [hTa.lx0.rt, hTb.lx0.rt, hm9, hm2, hm1, hl1]
    try simp only [List.append_assoc]
  · skip
    obtain ⟨b, pp, x, y, e1, hB, hTa, hTb⟩ := TrM_lor.1 hT
    injection e1 with e1 _
    subst e1
    have hb3 := hB.2
    replace hB := hB.1
    have hbl := hB.lt
    have hnd : ndT (Ex.lor a a2) = 1 + ndT a + ndT a2 := rfl
    have hbn : ∀ k ∈ numsT a ++ numsT a2, k < 4611686018427387904 := hbn
    have hb1 : NmB a := fun k hk => hbn k (List.mem_append.2 (.inl hk))
    have hb2 : NmB a2 := fun k hk => hbn k (List.mem_append.2 (.inr hk))
    refine c_reg ?_ -- region 0 flat.go:97
    refine wl (ro_assign rfl) ?_
    refine wl_nil (x_then (hK1 _ _ ?_))
    clear hK1 K1
    refine forget [(0, _), (1, _)] ⟨rfl, rfl, trivial⟩ (fun e => ?_)
    refine c_seq (fun K140 hK140 => ?_)
    refine c_reg ?_ -- region 1 flat.go:98
    refine wl (ro_move rfl) ?_
    refine wl_pos rfl (posR369 hB) (fun p ↦ ?_)
    refine wl (ro_build rfl bld_148_7) ?_
    refine wl_new (ze_148) (fun b5 w53 hbb5 h5 F53 => ?_)
    have hbsb5 := Nat.le_trans hF.size hbb5
    have hbsb5 := Nat.le_trans hL.size hbb5
    have hnebb5 : b < b5 := Nat.lt_of_lt_of_le hB.lt hbb5
    replace hF := hF.thenDrew.thenN F53
    replace hL := hL.thenDrew.thenN F53
    replace hB := F53.blkN hB
    refine wl_puta rfl rfl ((by (try exact vlc_cells _); all_goals simp [Value.oneCell', i64c, icv, u64c, u8c, ptr, S])) sz_148 (rfl) h5 ((by simp)) (rfl) (fun w54 h5 F54 => ?_)
    replace hF := hF.thenDrew.thenO F54 (by first | exact .inr (by omega) | exact .inl rfl | exact .inl (by assumption) | assumption)
    replace hL := hL.thenDrew.thenO F54 (by first | exact .inr (by omega) | exact .inl rfl | exact .inl (by assumption) | assumption)
    replace hB := F54.blkO hB (by omega)
    refine wl_nil (x_then (hK140 _ _ ?_))
    clear hK140 K140
    refine c_seq (fun K141 hK141 => ?_)
    refine c_seq (fun K142 hK142 => ?_)
    have hAf : ArF b5 _ ow sb c0 c1 U G := ⟨hA.farN hL, fun q => by
      rcases q with q | q
      · omega
      · have := hA.own.lt q; omega⟩
    have hQ : Cy b5 ow (fun u : World => TrM u ow 0 a [x] ∧ TrM u ow 0 a2 [y]) _ := ⟨⟨hTa.far hL (fun _ _ _ h => h) (Xt.refl _ _), hTb.far hL (fun _ _ _ h => h) (Xt.refl _ _)⟩, hA.n3 b5 hbsb5, fun u u1 S ⟨q0, q1⟩ f hn => ⟨q0.far f hn (Xt.refl _ _), q1.far f hn (Xt.refl _ _)⟩⟩
    refine c_reg ?_ -- region 2 flat.go:99
    refine wl (ro_move rfl) ?_
    refine wl_nil (x_then (hK142 _ _ ?_))
    clear hK142 K142
    refine c_block ?_
    refine forget [(0, _), (5, _), (19, _)] ⟨rfl, rfl, rfl, trivial⟩ (fun e => ?_)
    refine c_seq (fun K143 hK143 => ?_)
    refine c_reg ?_ -- region 3 flat.go:99
    refine wl (ro_taN rfl nif_381 rfl zi_381) ?_
    refine wl (ro_extract rfl rfl) ?_
    refine wl (ro_extract rfl rfl) ?_
    refine wl_nil (x_then (hK143 _ _ ?_))
    clear hK143 K143
    refine wc_condF rfl ?_
    refine c_seq (fun K144 hK144 => ?_)
    refine c_reg ?_ -- region 6 flat.go:99
    refine wl (ro_taN rfl nif_384 rfl zi_384) ?_
    refine wl (ro_extract rfl rfl) ?_
    refine wl (ro_extract rfl rfl) ?_
    refine wl_nil (x_then (hK144 _ _ ?_))
    clear hK144 K144
    refine wc_condF rfl ?_
    refine c_seq (fun K145 hK145 => ?_)
    refine c_reg ?_ -- region 10 flat.go:99
    refine wl (ro_taN rfl nif_374 rfl zi_374) ?_
    refine wl (ro_extract rfl rfl) ?_
    refine wl (ro_extract rfl rfl) ?_
    refine wl_nil (x_then (hK145 _ _ ?_))
    clear hK145 K145
    refine wc_condF rfl ?_
    refine c_seq (fun K146 hK146 => ?_)
    refine c_reg ?_ -- region 14 flat.go:99
    refine wl (ro_taN rfl nif_305 rfl zi_305) ?_
    refine wl (ro_extract rfl rfl) ?_
    refine wl (ro_extract rfl rfl) ?_
    refine wl_nil (x_then (hK146 _ _ ?_))
    clear hK146 K146
    refine wc_condF rfl ?_
    refine c_seq (fun K147 hK147 => ?_)
    refine c_reg ?_ -- region 18 flat.go:99
    refine wl (ro_taN rfl nif_306 rfl zi_306) ?_
    refine wl (ro_extract rfl rfl) ?_
    refine wl (ro_extract rfl rfl) ?_
    refine wl_nil (x_then (hK147 _ _ ?_))
    clear hK147 K147
    refine wc_condF rfl ?_
    refine c_seq (fun K148 hK148 => ?_)
    refine c_reg ?_ -- region 23 flat.go:99
    refine wl (ro_taN rfl nif_300 rfl zi_300) ?_
    refine wl (ro_extract rfl rfl) ?_
    refine wl (ro_extract rfl rfl) ?_
    refine wl_nil (x_then (hK148 _ _ ?_))
    clear hK148 K148
    refine wc_condF rfl ?_
    refine c_seq (fun K149 hK149 => ?_)
    refine c_reg ?_ -- region 28 flat.go:99
    refine wl (ro_taN rfl nif_346 rfl zi_346) ?_
    refine wl (ro_extract rfl rfl) ?_
    refine wl (ro_extract rfl rfl) ?_
    refine wl_nil (x_then (hK149 _ _ ?_))
    clear hK149 K149
    refine wc_condF rfl ?_
    refine c_seq (fun K150 hK150 => ?_)
    refine c_reg ?_ -- region 34 flat.go:99
    refine wl (ro_taN rfl nif_389 rfl zi_389) ?_
    refine wl (ro_extract rfl rfl) ?_
    refine wl (ro_extract rfl rfl) ?_
    refine wl_nil (x_then (hK150 _ _ ?_))
    clear hK150 K150
    refine wc_condF rfl ?_
    refine c_seq (fun K151 hK151 => ?_)
    refine c_reg ?_ -- region 38 flat.go:99
    refine wl (ro_taY rfl nif_369) ?_
    refine wl (ro_extract rfl rfl) ?_
    refine wl (ro_extract rfl rfl) ?_
    refine wl_nil (x_then (hK151 _ _ ?_))
    clear hK151 K151
    refine wc_condT rfl ?_
    refine c_seq (fun K152 hK152 => ?_)
    refine c_reg ?_ -- region 39 flat.go:99
    refine wl (ro_assign rfl) ?_
    refine wl_nil (x_then (hK152 _ _ ?_))
    clear hK152 K152
    refine forget [(0, _), (5, _), (14, _)] ⟨rfl, rfl, rfl, trivial⟩ (fun e => ?_)
    refine c_seq (fun K153 hK153 => ?_)
    refine c_reg ?_ -- region 40 flat.go:128
    refine wl (ro_move rfl) ?_
    refine wl (ro_nilCheck rfl) ?_
    refine wl (ro_fieldAddr (k := 1) rfl fo_371_1) ?_
    refine wl (ro_loadB rfl sc_3 (by assumption) rfl) ?_
    refine wl (ro_fieldAddr (k := 0) rfl fo_148_0) ?_
    refine wl_put rfl rfl rfl sz_3 h5 (by simp) (rfl) (fun w55 h5 F55 => ?_)
    have hcx_ := trivial
    replace hF := hF.thenDrew.thenO F55 (by first | exact .inr (by omega) | exact .inl rfl | exact .inl (by assumption) | assumption)
    replace hB := F55.blkO hB (by omega)
    replace hAf := hAf.hbput ((Fram.refl (one b5) _).thenDrew.thenO F55 (.inl rfl))
    replace hQ := hQ.hbput ((Fram.refl (one b5) _).thenDrew.thenO F55 (.inl rfl))
    refine wl_nil (x_then (hK153 _ _ ?_))
    clear hK153 K153
    refine forget [(0, _), (5, _), (14, _)] ⟨rfl, rfl, rfl, trivial⟩ (fun e => ?_)
    refine c_seq (fun K154 hK154 => ?_)
    refine c_reg ?_ -- region 41 flat.go:129
    refine wl (ro_move rfl) ?_
    refine wl (ro_nilCheck rfl) ?_
    refine wl (ro_fieldAddr (k := 2) rfl fo_371_2) ?_
    refine wl (ro_loadB rfl sc_117 (by assumption) rfl) ?_
    refine wl (ro_fieldAddr (k := 5) rfl fo_148_5) ?_
    refine wl_put rfl rfl rfl sz_117 h5 (by simp) (rfl) (fun w56 h5 F56 => ?_)
    have hcx_ := trivial
    replace hF := hF.thenDrew.thenO F56 (by first | exact .inr (by omega) | exact .inl rfl | exact .inl (by assumption) | assumption)
    replace hB := F56.blkO hB (by omega)
    replace hAf := hAf.hbput ((Fram.refl (one b5) _).thenDrew.thenO F56 (.inl rfl))
    replace hQ := hQ.hbput ((Fram.refl (one b5) _).thenDrew.thenO F56 (.inl rfl))
    refine wl_nil (x_then (hK154 _ _ ?_))
    clear hK154 K154
    refine forget [(0, _), (5, _), (14, _)] ⟨rfl, rfl, rfl, trivial⟩ (fun e => ?_)
    refine c_seq (fun K155 hK155 => ?_)
    refine c_reg ?_ -- region 42 flat.go:130
    refine wl (ro_move rfl) ?_
    refine wl (ro_move rfl) ?_
    refine wl (ro_nilCheck rfl) ?_
    refine wl (ro_fieldAddr (k := 3) rfl fo_371_3) ?_
    refine wl (ro_loadB rfl sc_290 (by assumption) rfl) ?_
    refine wl_call rfl en_185 (ih.e hAf.1 hQ.1.1 hb1 (by omega) (by omega) (by omega)) ?_
    rintro _ u1 ⟨rfl, U1, G1, hA1, hm1, hl1, hn1, F9⟩
    have h5l := h5.lt
    replace h5 := h5.fram F9 hAf.2
    replace hB := hB.fram F9 (hAf.1.no hb3)
    replace hQ := hQ.ar hAf F9
    have hz := hF.size
    replace hF := ar_trans hF hnb F9
    replace hnb := nob_trans hnb hz hn1
    replace hAf := hAf.next hA1 hn1 h5l
    refine wl (ro_fieldAddr (k := 1) rfl fo_148_1) ?_
    refine wl_put rfl rfl rfl sz_3 h5 (by simp) (rfl) (fun w57 h5 F57 => ?_)
    have hcx_ := trivial
    replace hF := hF.thenDrew.thenO F57 (by first | exact .inr (by omega) | exact .inl rfl | exact .inl (by assumption) | assumption)
    replace hB := F57.blkO hB (by omega)
    replace hAf := hAf.hbput ((Fram.refl (one b5) _).thenDrew.thenO F57 (.inl rfl))
    replace hQ := hQ.hbput ((Fram.refl (one b5) _).thenDrew.thenO F57 (.inl rfl))
    refine wl_nil (x_then (hK155 _ _ ?_))
    clear hK155 K155
    refine c_reg ?_ -- region 43 flat.go:131
    refine wl (ro_move rfl) ?_
    refine wl (ro_move rfl) ?_
    refine wl (ro_nilCheck rfl) ?_
    refine wl (ro_fieldAddr (k := 4) rfl fo_371_4) ?_
    refine wl (ro_loadB rfl sc_290 (by assumption) rfl) ?_
    refine wl_call rfl en_185 (ih.e hAf.1 hQ.1.2 hb2 (by omega) (by omega) (by omega)) ?_
    rintro _ u2 ⟨rfl, U2, G2, hA2, hm2, hl2, hn2, F9⟩
    have h5l := h5.lt
    replace h5 := h5.fram F9 hAf.2
    replace hB := hB.fram F9 (hAf.1.no hb3)
    replace hQ := hQ.ar hAf F9
    have hz := hF.size
    replace hF := ar_trans hF hnb F9
    replace hnb := nob_trans hnb hz hn2
    replace hAf := hAf.next hA2 hn2 h5l
    refine wl (ro_fieldAddr (k := 2) rfl fo_148_2) ?_
    refine wl_put rfl rfl rfl sz_3 h5 (by simp) (rfl) (fun w58 h5 F58 => ?_)
    have hcx_ := trivial
    replace hF := hF.thenDrew.thenO F58 (by first | exact .inr (by omega) | exact .inl rfl | exact .inl (by assumption) | assumption)
    replace hB := F58.blkO hB (by omega)
    replace hAf := hAf.hbput ((Fram.refl (one b5) _).thenDrew.thenO F58 (.inl rfl))
    replace hQ := hQ.hbput ((Fram.refl (one b5) _).thenDrew.thenO F58 (.inl rfl))
    refine wl_nil (x_blk (x_then (hK141 _ _ ?_)))
    clear hK141 K141
    refine forget [(0, _), (5, _)] ⟨rfl, rfl, trivial⟩ (fun e => ?_)
    refine c_seq (fun K156 hK156 => ?_)
    refine c_reg ?_ -- region 49 flat.go:137
    refine wl (ro_move rfl) ?_
    refine wl (ro_loadAggB rfl ag_148 (by assumption) rfl rfl) ?_
    refine wl_call rfl en_227 (add227 (x := (⟨25, G.length + ndT a - 1, G1.length + ndT a2 - 1, 0, 0, 0, []⟩, p)) hAf.1 (by omega)) ?_
    rintro _ u9 ⟨rfl, U9, G9, hA9, hm9, hl9, hn9, F9⟩
    refine wl (ro_assign rfl) ?_
    refine wl_nil (x_then (hK156 _ _ ?_))
    clear hK156 K156
    refine c_ret ?_
    refine bp_ret Tryz.results185 rfl ?_
    refine ⟨congrArg (fun z : Nat => i64c z) (by omega), U9, G9, hA9, ?_, by omega, nob_trans hnb hF.size hn9, ar_trans hF hnb F9⟩
    show _ = G.map Prod.fst ++ (lay a G.length ++ lay a2 (G.length + ndT a) ++ [⟨25, rt a G.length, rt a2 (G.length + ndT a), 0, 0, 0, []⟩])
    rw [hTa.lx0.rt, hTb.lx0.rt, hm9, hm2, hm1, hl1]
    try simp only [List.append_assoc]
end Go.Proofs.Qxb6500568aGreatDoor
