import Derived.Test.Qxb6500570aGreatMg
/- The real tower. -/
namespace Go.Proofs.Qxb6500570aGreat
set_option linter.unusedVariables false
set_option linter.unusedSimpArgs false

theorem FmR.lts {w : World} {B : FB7} (h : FmR w B) : B.f < w.heap.size ∧ B.t < w.heap.size ∧ B.a < w.heap.size ∧ B.v < w.heap.size ∧ B.o < w.heap.size ∧ B.n < w.heap.size ∧ B.u < w.heap.size := by
  obtain ⟨k, pos, er, bd, wi, hv, dn, ft, fa, fv, fo, fn, fu, h1, h2, h3, h4, h5, h6, h7⟩ := h
  exact ⟨h1.lt, h2.lt, h3.lt, h4.lt, h5.lt, h6.lt, h7.lt⟩
theorem New27 {w : World} {lo m : Nat} {B : FB7} {C : CB} {SL : List Vl} (hcb : CaB lo m C) (hfo : FBo B) (hg : m ≤ B.f ∧ m ≤ B.t ∧ m ≤ B.a ∧ m ≤ B.v ∧ m ≤ B.o ∧ m ≤ B.n ∧ m ≤ B.u) (hfm : FmR w B) (hcv : CaV w C zL SL) :
    Ret Tryz.prog 27 [ptr B.f, ptr C.k] w (fun v w' => (∃ D : DB, v = ptr D.e ∧ DaB lo w'.heap.size D ∧ DaV w' D zL zL SL) ∧ Fram none' w w') := by
  have hF : Fram none' w w := Fram.refl _ _
  have hl := hfm.lts
  refine ret_of Tryz.func27 rfl Tryz.ntmps27 rfl ?_
  refine c_seq (fun K1 hK1 => ?_)
  refine c_reg ?_ -- region 0 edit.go:20
  refine wl (ro_assign rfl) ?_
  refine wl_nil (x_then (hK1 _ _ ?_))
  clear hK1 K1
  refine forget [(0, _), (1, _)] ⟨rfl, rfl, trivial⟩ (fun e => ?_)
  refine c_seq (fun K2 hK2 => ?_)
  refine c_reg ?_ -- region 1 edit.go:21
  refine wl (ro_move rfl) ?_
  refine wl (ro_move rfl) ?_
  refine wl_make (len := 24) (cap := 24) rfl rfl se_56 ze_9 (by simp) (by omega) (by omega) rfl bb_9 (fun bb w1 hbbb hU F1 => ?_)
  have hbsbb := Nat.le_trans hF.size hbbb
  replace hF := hF.thenDrew.thenN F1
  replace hfm := hfm.far F1 (fun _ _ q ↦ q)
  replace hcv := hcv.far hcb F1 (fun _ _ _ q ↦ q)
  refine wl (ro_build rfl bld_95_0_1_2) ?_
  refine wl_box rfl rfl (fun eb w2 hbeb hE F2 => ?_)
  have hbseb := Nat.le_trans hF.size hbeb
  have hnebbeb : bb < eb := Nat.lt_of_lt_of_le hU.lt hbeb
  replace hF := hF.thenDrew.thenN F2
  replace hU := F2.blkN hU
  replace hfm := hfm.far F2 (fun _ _ q ↦ q)
  replace hcv := hcv.far hcb F2 (fun _ _ _ q ↦ q)
  refine wl (ro_assign rfl) ?_
  refine wl_nil (x_then (hK2 _ _ ?_))
  clear hK2 K2
  refine c_ret ?_
  refine bp_ret Tryz.results27 rfl ?_
  have hEl := hE.lt
  have hne : bb < eb := by assumption
  refine ⟨⟨⟨eb, bb, m, B, C⟩, rfl, ⟨hcb, hfo, hg, ?_, hne, hEl⟩, hE, ?_, List.length_replicate, hfm, hcv⟩, hF⟩
  · show B.f < bb ∧ B.t < bb ∧ B.a < bb ∧ B.v < bb ∧ B.o < bb ∧ B.n < bb ∧ B.u < bb
    omega
  · rw [← zc_rws (enc := stc) (x0 := []) rfl stc_len 24]; exact hU
set_option maxHeartbeats 4000000 in
theorem New28 {w : World} {lo h : Nat} {D : DB} {SL : List Vl} (hdb : DaB lo h D) (hh : h ≤ w.heap.size) (hd : DaV w D zL zL SL) :
    Ret Tryz.prog 28 [ptr D.e] w (fun v w' => (∃ X : BB, v = ptr X.k ∧ BaB lo w'.heap.size X ∧ BaV w' X zL [] []) ∧ Fram none' w w') := by
  have hF : Fram none' w w := Fram.refl _ _
  refine ret_of Tryz.func28 rfl Tryz.ntmps28 rfl ?_
  refine c_seq (fun K1 hK1 => ?_)
  refine c_reg ?_ -- region 0 book.go:24
  refine wl (ro_assign rfl) ?_
  refine wl_nil (x_then (hK1 _ _ ?_))
  clear hK1 K1
  refine forget [(0, _)] ⟨rfl, trivial⟩ (fun e => ?_)
  refine c_seq (fun K2 hK2 => ?_)
  refine c_reg ?_ -- region 1 book.go:25
  refine wl (ro_move rfl) ?_
  refine wl (ro_build rfl bld_60_0) ?_
  refine wl_box rfl rfl (fun kb w1 hbkb hK F1 => ?_)
  have hbskb := Nat.le_trans hF.size hbkb
  replace hF := hF.thenDrew.thenN F1
  replace hd := hd.far hdb F1 (fun _ _ _ q ↦ q)
  refine wl (ro_assign rfl) ?_
  refine wl_nil (x_then (hK2 _ _ ?_))
  clear hK2 K2
  refine forget [(3, _)] ⟨rfl, trivial⟩ (fun e => ?_)
  refine c_seq (fun K3 hK3 => ?_)
  refine c_reg ?_ -- region 2 book.go:26
  refine wl (ro_move rfl) ?_
  refine wl_make (len := 288) (cap := 288) rfl rfl se_56 ze_9 (by simp) (by omega) (by omega) rfl bb_9 (fun pb w2 hbpb hP F2 => ?_)
  have hbspb := Nat.le_trans hF.size hbpb
  have hnekbpb : kb < pb := Nat.lt_of_lt_of_le hK.lt hbpb
  replace hF := hF.thenDrew.thenN F2
  replace hK := F2.blkN hK
  replace hd := hd.far hdb F2 (fun _ _ _ q ↦ q)
  refine wl (ro_nilCheck rfl) ?_
  refine wl (ro_fieldAddr (k := 1) rfl fo_60_1) ?_
  refine wl_put rfl rfl rfl sz_56 hK ((by simp)) ((show _ = [ptr D.e, sl pb 288, .slice none 0 0, i64c 0, i64c 0, i64c 0, .slice none 0 0, .slice none 0 0] from rfl)) (fun w3 hK F3 => ?_)
  replace hF := hF.thenDrew.thenO F3 (by first | exact .inr (by omega) | exact .inl rfl | exact .inl (by assumption))
  replace hP := F3.blkO hP (by omega)
  replace hd := hd.far hdb F3 (fun b q1 q2 q ↦ absurd (show b = kb from q) (by omega))
  refine wl_nil (x_then (hK3 _ _ ?_))
  clear hK3 K3
  refine forget [(3, _)] ⟨rfl, trivial⟩ (fun e => ?_)
  refine c_seq (fun K4 hK4 => ?_)
  refine c_reg ?_ -- region 3 book.go:27
  refine wl (ro_move rfl) ?_
  refine wl_make (len := 6) (cap := 6) rfl rfl se_57 ze_85 (by simp) (by omega) (by omega) rfl bb_85 (fun tb w4 hbtb hM F4 => ?_)
  have hbstb := Nat.le_trans hF.size hbtb
  have hnekbtb : kb < tb := Nat.lt_of_lt_of_le hK.lt hbtb
  have hnepbtb : pb < tb := Nat.lt_of_lt_of_le hP.lt hbtb
  replace hF := hF.thenDrew.thenN F4
  replace hK := F4.blkN hK
  replace hP := F4.blkN hP
  replace hd := hd.far hdb F4 (fun _ _ _ q ↦ q)
  refine wl (ro_nilCheck rfl) ?_
  refine wl (ro_fieldAddr (k := 2) rfl fo_60_2) ?_
  refine wl_put rfl rfl rfl sz_57 hK ((by simp)) ((show _ = [ptr D.e, sl pb 288, sl tb 6, i64c 0, i64c 0, i64c 0, .slice none 0 0, .slice none 0 0] from rfl)) (fun w5 hK F5 => ?_)
  replace hF := hF.thenDrew.thenO F5 (by first | exact .inr (by omega) | exact .inl rfl | exact .inl (by assumption))
  replace hP := F5.blkO hP (by omega)
  replace hM := F5.blkO hM (by omega)
  replace hd := hd.far hdb F5 (fun b q1 q2 q ↦ absurd (show b = kb from q) (by omega))
  refine wl_nil (x_then (hK4 _ _ ?_))
  clear hK4 K4
  refine forget [(3, _)] ⟨rfl, trivial⟩ (fun e => ?_)
  refine c_seq (fun K5 hK5 => ?_)
  refine c_reg ?_ -- region 4 book.go:28
  refine wl (ro_move rfl) ?_
  refine wl_make (len := 24) (cap := 24) rfl rfl se_56 ze_9 (by simp) (by omega) (by omega) rfl bb_9 (fun sb w6 hbsb hW F6 => ?_)
  have hbssb := Nat.le_trans hF.size hbsb
  have hnekbsb : kb < sb := Nat.lt_of_lt_of_le hK.lt hbsb
  have hnepbsb : pb < sb := Nat.lt_of_lt_of_le hP.lt hbsb
  have hnetbsb : tb < sb := Nat.lt_of_lt_of_le hM.lt hbsb
  replace hF := hF.thenDrew.thenN F6
  replace hK := F6.blkN hK
  replace hP := F6.blkN hP
  replace hM := F6.blkN hM
  replace hd := hd.far hdb F6 (fun _ _ _ q ↦ q)
  refine wl (ro_nilCheck rfl) ?_
  refine wl (ro_fieldAddr (k := 6) rfl fo_60_6) ?_
  refine wl_put rfl rfl rfl sz_56 hK ((by simp)) ((show _ = [ptr D.e, sl pb 288, sl tb 6, i64c 0, i64c 0, i64c 0, sl sb 24, .slice none 0 0] from rfl)) (fun w7 hK F7 => ?_)
  replace hF := hF.thenDrew.thenO F7 (by first | exact .inr (by omega) | exact .inl rfl | exact .inl (by assumption))
  replace hP := F7.blkO hP (by omega)
  replace hM := F7.blkO hM (by omega)
  replace hW := F7.blkO hW (by omega)
  replace hd := hd.far hdb F7 (fun b q1 q2 q ↦ absurd (show b = kb from q) (by omega))
  refine wl_nil (x_then (hK5 _ _ ?_))
  clear hK5 K5
  refine forget [(3, _)] ⟨rfl, trivial⟩ (fun e => ?_)
  refine c_seq (fun K6 hK6 => ?_)
  refine c_reg ?_ -- region 5 book.go:29
  refine wl (ro_move rfl) ?_
  refine wl_make (len := 1056) (cap := 1056) rfl rfl se_58 ze_5 (by simp) (by omega) (by omega) rfl bb_5 (fun ob w8 hbob hO F8 => ?_)
  have hbsob := Nat.le_trans hF.size hbob
  have hnekbob : kb < ob := Nat.lt_of_lt_of_le hK.lt hbob
  have hnepbob : pb < ob := Nat.lt_of_lt_of_le hP.lt hbob
  have hnetbob : tb < ob := Nat.lt_of_lt_of_le hM.lt hbob
  have hnesbob : sb < ob := Nat.lt_of_lt_of_le hW.lt hbob
  replace hF := hF.thenDrew.thenN F8
  replace hK := F8.blkN hK
  replace hP := F8.blkN hP
  replace hM := F8.blkN hM
  replace hW := F8.blkN hW
  replace hd := hd.far hdb F8 (fun _ _ _ q ↦ q)
  refine wl (ro_nilCheck rfl) ?_
  refine wl (ro_fieldAddr (k := 7) rfl fo_60_7) ?_
  refine wl_put rfl rfl rfl sz_58 hK ((by simp)) ((show _ = [ptr D.e, sl pb 288, sl tb 6, i64c 0, i64c 0, i64c 0, sl sb 24, sl ob 1056] from rfl)) (fun w9 hK F9 => ?_)
  replace hF := hF.thenDrew.thenO F9 (by first | exact .inr (by omega) | exact .inl rfl | exact .inl (by assumption))
  replace hP := F9.blkO hP (by omega)
  replace hM := F9.blkO hM (by omega)
  replace hW := F9.blkO hW (by omega)
  replace hO := F9.blkO hO (by omega)
  replace hd := hd.far hdb F9 (fun b q1 q2 q ↦ absurd (show b = kb from q) (by omega))
  refine wl_nil (x_then (hK6 _ _ ?_))
  clear hK6 K6
  refine forget [(3, _)] ⟨rfl, trivial⟩ (fun e => ?_)
  refine c_seq (fun K7 hK7 => ?_)
  refine c_reg ?_ -- region 6 book.go:30
  refine wl (ro_move rfl) ?_
  refine wl (ro_assign rfl) ?_
  refine wl_nil (x_then (hK7 _ _ ?_))
  clear hK7 K7
  refine c_ret ?_
  refine bp_ret Tryz.results28 rfl ?_
  have hOl := hO.lt
  refine ⟨⟨⟨kb, pb, tb, sb, ob, h, D⟩, rfl, ⟨hdb, by show h ≤ kb; omega, by assumption, by assumption, by assumption, by assumption, hOl⟩, 0, List.replicate 288 [], List.replicate 6 0, zL, _, SL, hK, ?_, ?_, ?_, hO, List.length_replicate, Rg.new.congr (fun k hk => (decide_eq_false (by simp)).symm) (fun _ _ q => by cases q), by simp, hd, (fun S hS => (by cases hS)), (fun S hS => (by cases hS))⟩, hF⟩
  · rw [← zc_rws (enc := stc) (x0 := []) rfl stc_len 288]; exact hP
  · rw [← zc_rws (enc := msc) (x0 := 0) rfl msc_len 6]; exact hM
  · rw [← zc_rws (enc := stc) (x0 := []) rfl stc_len 24]; exact hW

set_option maxHeartbeats 4000000 in
theorem tower5 {w : World} : Ret Tryz.prog 5 [] w (fun v w' => (∃ X : BB, v = ptr X.k ∧ BaB w.heap.size w'.heap.size X ∧ BaV w' X zL [] []) ∧ Fram none' w w') := by
  refine ret_of Tryz.func5 rfl Tryz.ntmps5 rfl ?_
  refine c_seq (fun K1 hK1 => ?_)
  refine c_reg ?_ -- region 0 tower.go:14
  refine wl (ro_assign rfl) ?_
  refine wl_nil (x_then (hK1 _ _ ?_))
  clear hK1 K1
  refine forget [] trivial (fun e => ?_)
  refine c_seq (fun K2 hK2 => ?_)
  refine c_reg ?_ -- region 1 tower.go:15
  refine wl_call rfl en_23 (New23) ?_
  rintro _ u1 ⟨X, rfl, hXo, hXm, hXl, G1⟩
  have hX1 := hXm.lts
  refine wl (ro_assign rfl) ?_
  refine wl_nil (x_then (hK2 _ _ ?_))
  clear hK2 K2
  refine forget [(1, _)] ⟨rfl, trivial⟩ (fun e => ?_)
  refine c_seq (fun K3 hK3 => ?_)
  refine c_reg ?_ -- region 2 tower.go:16
  refine wl (ro_move rfl) ?_
  refine wl_call rfl en_24 (New24) ?_
  rintro _ u2 ⟨E, rfl, hEf, hEo, hEe, hEt, hEx, G2⟩
  replace hXm := hXm.far G2 (fun _ _ q => q)
  have hev0 := hEx X hXm
  have hz2 := G2.size
  refine wl (ro_assign rfl) ?_
  refine wl_nil (x_then (hK3 _ _ ?_))
  clear hK3 K3
  refine forget [(2, _)] ⟨rfl, trivial⟩ (fun e => ?_)
  refine c_seq (fun K4 hK4 => ?_)
  refine c_reg ?_ -- region 3 tower.go:17
  refine wl_call rfl en_25 (New25) ?_
  rintro _ u3 ⟨G, rfl, hGo, hGg, hGn, hgr, G3⟩
  have hEB : EvB w.heap.size G.g E X := ⟨hEo, hEf, hXo, by omega, hXl, by omega⟩
  have hev : EvR u3 E X := EvR.far hEB ⟨0, _, by decide, hev0⟩ G3 (fun _ _ _ q => q)
  refine wl (ro_assign rfl) ?_
  refine wl_nil (x_then (hK4 _ _ ?_))
  clear hK4 K4
  refine forget [(2, _), (3, _)] ⟨rfl, rfl, trivial⟩ (fun e => ?_)
  refine c_seq (fun K5 hK5 => ?_)
  refine c_reg ?_ -- region 4 tower.go:18
  refine wl (ro_move rfl) ?_
  refine wl (ro_move rfl) ?_
  refine wl_call rfl en_26 (New26 hEB hGo hGn hev hgr) ?_
  rintro _ u4 ⟨⟨C, rfl, hCb, hCk, hcv⟩, G4⟩
  refine wl (ro_assign rfl) ?_
  refine wl_nil (x_then (hK5 _ _ ?_))
  clear hK5 K5
  refine forget [(4, _)] ⟨rfl, trivial⟩ (fun e => ?_)
  refine c_seq (fun K6 hK6 => ?_)
  refine c_reg ?_ -- region 5 tower.go:19
  refine wl_call rfl en_23 (New23) ?_
  rintro _ u5 ⟨B, rfl, hBo, hBm, hBl, G5⟩
  replace hcv := hcv.far hCb G5 (fun _ _ _ q => q)
  refine wl (ro_assign rfl) ?_
  refine wl_nil (x_then (hK6 _ _ ?_))
  clear hK6 K6
  refine forget [(4, _), (5, _)] ⟨rfl, rfl, trivial⟩ (fun e => ?_)
  refine c_seq (fun K7 hK7 => ?_)
  refine c_reg ?_ -- region 6 tower.go:20
  refine wl (ro_move rfl) ?_
  refine wl (ro_move rfl) ?_
  refine wl_call rfl en_27 (New27 hCb hBo hBl hBm hcv) ?_
  rintro _ u6 ⟨⟨D, rfl, hDb, hd⟩, G6⟩
  refine wl (ro_assign rfl) ?_
  refine wl_nil (x_then (hK7 _ _ ?_))
  clear hK7 K7
  refine forget [(6, _)] ⟨rfl, trivial⟩ (fun e => ?_)
  refine c_seq (fun K8 hK8 => ?_)
  refine c_reg ?_ -- region 7 tower.go:21
  refine wl (ro_move rfl) ?_
  refine wl_call rfl en_28 (New28 hDb (Nat.le_refl _) hd) ?_
  rintro _ u7 ⟨⟨Y, rfl, hYb, hY⟩, G7⟩
  refine wl (ro_assign rfl) ?_
  refine wl_nil (x_then (hK8 _ _ ?_))
  clear hK8 K8
  refine c_ret ?_
  refine bp_ret Tryz.results5 rfl ?_
  exact ⟨⟨Y, rfl, hYb, hY⟩, (((((G1.trans G2).trans G3).trans G4).trans G5).trans G6).trans G7⟩

end Go.Proofs.Qxb6500570aGreat
