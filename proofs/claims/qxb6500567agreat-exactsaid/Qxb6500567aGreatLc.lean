import Derived.Test.Qxb6500567aGreatLb
/- The engine: Match, New. -/
namespace Go.Proofs.Qxb6500567aGreat
set_option linter.unusedVariables false
set_option linter.unusedSimpArgs false

set_option maxHeartbeats 8000000 in
theorem Match37 {w : World} {E : EB} {cn i : Nat} {pat s : List UInt8} (ho : EBo E) (V : EGV w E cn) (hi : i ≤ s.length) (hpm : pat.length ≤ 9223372036854775807) (hsm : s.length ≤ 9223372036854775807) :
    Ret Tryz.prog 37 [ptr E.eb, S pat, S s, i64c i] w (fun v w' => v = .agg (engc pat s i).toArray ∧ EGV w' E cn ∧ Fram (eset E) w w') := by
  have hF : Fram (eset E) w w := Fram.refl _ _
  obtain ⟨m0, m1, V⟩ := V
  have lt0 := V.blk.lt
  refine ret_of Tryz.func37 rfl Tryz.ntmps37 rfl ?_
  refine c_seq (fun K1 hK1 => ?_)
  refine c_reg ?_ -- region 0 prog.go:27
  refine wl_new (ze_57) (fun mb w1 hbmb hM F1 => ?_)
  have hbsmb := Nat.le_trans hF.size hbmb
  replace hF := hF.thenDrew.thenN F1
  replace V := V.framN (d := World.drawn _) F1
  have hemb : E.eb < mb := by omega
  have hM0 := hM
  refine wl_nil (x_then (hK1 _ _ ?_))
  clear hK1 K1
  refine c_seq (fun K2 hK2 => ?_)
  refine c_seq (fun K3 hK3 => ?_)
  have hql : 128 < pat.length ∨ (pat.length ≤ 128 ∧ 256 < s.length) ∨ (pat.length ≤ 128 ∧ s.length ≤ 256) := by omega
  rcases hql with q | q | q
  · skip
    have hE : engT pat s = .error (12, 0) := by unfold engT; rw [if_pos (by omega)]
    refine c_reg ?_ -- region 1 prog.go:28
    refine wl (ro_move rfl) ?_
    refine wl (ro_lenS rfl st_9) ?_
    refine wl (ro_cmp (r := true) rfl rfl (congrArg some (decide_eq_true (by omega)))) ?_
    refine wl (ro_move rfl) ?_
    refine wlg_no rfl ?_
    refine wlg_no rfl ?_
    refine wlg_no rfl ?_
    refine wl (ro_pick rfl rfl rfl) ?_
    refine wl_nil (x_then (hK3 _ _ ?_))
    clear hK3 K3
    refine wc_condT rfl ?_
    refine c_seq (fun K4 hK4 => ?_)
    refine c_reg ?_ -- region 2 prog.go:29
    refine wl_call rfl en_35 (Refused35 (er := 12) (p := 0)) ?_
    rintro _ w2 ⟨rfl, F2⟩
    replace V := V.framN (d := World.drawn _) F2
    replace hF := hF.transG F2 (by intro k hk h; simp only [one, two, none'] at h ⊢ <;> omega)
    replace hM := F2.blkF hM (by intro h; simp only [one, two, none'] at h <;> omega)
    have hM2 := hM
    refine wl_puta rfl rfl ((fdc_cells 12 0 false nocaps)) sz_57 (rfl) hM ((by simp)) (rfl) (fun w2 hM F2 => ?_)
    replace hF := hF.thenDrew.thenO F2 (by first | exact .inr (by omega) | exact .inl rfl | exact .inl (by assumption))
    replace V := V.framB (d := World.drawn _) ho F2 hM2 (by decide) hemb
    refine wl_nil (x_then (hK4 _ _ ?_))
    clear hK4 K4
    refine c_ret (x_thenR ?_)
    refine bq_ret (res1 Tryz.results37 (rv_c rfl ag_57 (hM) rfl)) ?_
    unfold engc; rw [hE]; exact ⟨rfl, ⟨_, _, V.blk, V.sm, V.a, V.b, V.pk, V.df⟩, hF⟩
  · skip
    have hE : engT pat s = .error (12, 0) := by unfold engT; rw [if_pos (by omega)]
    refine c_reg ?_ -- region 1 prog.go:28
    refine wl (ro_move rfl) ?_
    refine wl (ro_lenS rfl st_9) ?_
    refine wl (ro_cmp (r := false) rfl rfl (congrArg some (decide_eq_false (by omega)))) ?_
    refine wl (ro_move rfl) ?_
    refine wlg_yes rfl (ro_move rfl) ?_
    refine wlg_yes rfl (ro_lenS rfl st_9) ?_
    refine wlg_yes rfl (ro_cmp (r := true) rfl rfl (congrArg some (decide_eq_true (by omega)))) ?_
    refine wl (ro_pick rfl rfl rfl) ?_
    refine wl_nil (x_then (hK3 _ _ ?_))
    clear hK3 K3
    refine wc_condT rfl ?_
    refine c_seq (fun K5 hK5 => ?_)
    refine c_reg ?_ -- region 2 prog.go:29
    refine wl_call rfl en_35 (Refused35 (er := 12) (p := 0)) ?_
    rintro _ w2 ⟨rfl, F2⟩
    replace V := V.framN (d := World.drawn _) F2
    replace hF := hF.transG F2 (by intro k hk h; simp only [one, two, none'] at h ⊢ <;> omega)
    replace hM := F2.blkF hM (by intro h; simp only [one, two, none'] at h <;> omega)
    have hM2 := hM
    refine wl_puta rfl rfl ((fdc_cells 12 0 false nocaps)) sz_57 (rfl) hM ((by simp)) (rfl) (fun w3 hM F3 => ?_)
    replace hF := hF.thenDrew.thenO F3 (by first | exact .inr (by omega) | exact .inl rfl | exact .inl (by assumption))
    replace V := V.framB (d := World.drawn _) ho F3 hM2 (by decide) hemb
    refine wl_nil (x_then (hK5 _ _ ?_))
    clear hK5 K5
    refine c_ret (x_thenR ?_)
    refine bq_ret (res1 Tryz.results37 (rv_c rfl ag_57 (hM) rfl)) ?_
    unfold engc; rw [hE]; exact ⟨rfl, ⟨_, _, V.blk, V.sm, V.a, V.b, V.pk, V.df⟩, hF⟩
  · skip
    refine c_reg ?_ -- region 1 prog.go:28
    refine wl (ro_move rfl) ?_
    refine wl (ro_lenS rfl st_9) ?_
    refine wl (ro_cmp (r := false) rfl rfl (congrArg some (decide_eq_false (by omega)))) ?_
    refine wl (ro_move rfl) ?_
    refine wlg_yes rfl (ro_move rfl) ?_
    refine wlg_yes rfl (ro_lenS rfl st_9) ?_
    refine wlg_yes rfl (ro_cmp (r := false) rfl rfl (congrArg some (decide_eq_false (by omega)))) ?_
    refine wl (ro_pick rfl rfl rfl) ?_
    refine wl_nil (x_then (hK3 _ _ ?_))
    clear hK3 K3
    refine wc_condF rfl ?_
    refine c_skip (x_then (hK2 _ _ ?_))
    clear hK2 K2
    refine forget [(0, _), (1, _), (2, _), (3, _), (8, _)] ⟨rfl, rfl, rfl, rfl, rfl, trivial⟩ (fun e => ?_)
    refine c_seq (fun K6 hK6 => ?_)
    rcases hct : coreT pat with ec | ⟨rc, gc⟩
    · skip
      have hne := coreT_er hct
      have hE := engT_e q.1 q.2 hct
      refine c_reg ?_ -- region 3 prog.go:31
      refine wl (ro_move rfl) ?_
      refine wl (ro_move rfl) ?_
      refine wl_call rfl en_48 (recall48 ho V.blk V.sm V.a V.b q.1) ?_
      rintro _ w3 ⟨rfl, ⟨⟨u, p, a, l, c, e5, q5⟩, m1', hB, hEC, hEN⟩, hSM, F3⟩
      replace V := V.byR (d := World.drawn _) ho F3 hB hSM hEC.en hEN
      replace hM := F3.blkF hM (fun h => by have := ho.all (rset_e h); omega)
      have hM0 := hM
      replace hF := hF.trans' F3 (fun k _ h ↦ rset_e h)
      obtain ⟨hu5, hp5, hEC⟩ := hEC
      obtain rfl : true = u := hu5.symm
      obtain rfl : pat = p := hp5.symm
      rw [hct] at hEC
      first
        | (obtain ⟨rfl, rfl⟩ := hEC)
        | (obtain ⟨rfl, rfl, qb, rfl, rfl, rfl, hG⟩ := hEC)
      refine wl_nil (x_then (hK6 _ _ ?_))
      clear hK6 K6
      refine c_seq (fun K7 hK7 => ?_)
      refine c_seq (fun K8 hK8 => ?_)
      refine c_reg ?_ -- region 4 prog.go:32
      refine wl (ro_move rfl) ?_
      refine wl (ro_nilCheck rfl) ?_
      refine wl (ro_fieldAddr (k := 3) rfl fo_117_3) ?_
      refine wl (ro_indexAddrA (et := 114) (k := 5) rfl rfl ar_115 ((show (0 : Int) = ((0 : Nat) : Int) from rfl)) ((by omega : 0 < 2))) ?_
      refine wl (ro_fieldAddr (k := 3) rfl fo_114_3) ?_
      refine wl (ro_loadB rfl sc_53 (hB) (rfl)) ?_
      refine wl (ro_cmp (r := true) rfl rfl (congrArg some ((bnec ec.1 0).trans (decide_eq_true hne)))) ?_
      refine wl_nil (x_then (hK8 _ _ ?_))
      clear hK8 K8
      refine wc_condT rfl ?_
      refine c_seq (fun K9 hK9 => ?_)
      refine c_piL 13 [(0, false), (1, false), (2, false), (3, false), (4, false), (5, false), (6, false), (7, false), (8, false), (9, false), (10, false), (11, false), (12, true)] (fun w' => Blk w'.heap E.eb (ecl E ⟨true, pat, a, l, c, ec.1, ec.2⟩ m1') 117) mixed (by kernel_rfl) rfl (by kernel_rfl) (po_then (po_then (po_bp))) (hB) ?_ -- region 5 prog.go:33
      refine ql_ro rfl (fun w hS => ro_move rfl) ?_
      refine ql_ro rfl (fun w hS => ro_nilCheck rfl) ?_
      refine ql_ro rfl (fun w hS => ro_fieldAddr (k := 3) rfl fo_117_3) ?_
      refine ql_ro rfl (fun w hS => ro_indexAddrA (et := 114) (k := 5) rfl rfl ar_115 ((show (0 : Int) = ((0 : Nat) : Int) from rfl)) ((by omega : 0 < 2))) ?_
      refine ql_ro rfl (fun w hS => ro_fieldAddr (k := 3) rfl fo_114_3) ?_
      refine ql_ro rfl (fun w hS => ro_loadB rfl sc_53 (hS) (rfl)) ?_
      refine ql_ro rfl (fun w hS => ro_move rfl) ?_
      refine ql_ro rfl (fun w hS => ro_nilCheck rfl) ?_
      refine ql_ro rfl (fun w hS => ro_fieldAddr (k := 3) rfl fo_117_3) ?_
      refine ql_ro rfl (fun w hS => ro_indexAddrA (et := 114) (k := 5) rfl rfl ar_115 ((show (0 : Int) = ((0 : Nat) : Int) from rfl)) ((by omega : 0 < 2))) ?_
      refine ql_ro rfl (fun w hS => ro_fieldAddr (k := 4) rfl fo_114_4) ?_
      refine ql_ro rfl (fun w hS => ro_loadB rfl sc_3 (hS) (rfl)) ?_
      refine ql_call rfl rfl en_35 (Refused35 (er := ec.1) (p := ec.2)) ?_
      rintro _ w4 ⟨rfl, F4⟩
      replace V := V.framN F4
      replace hF := hF.transG F4 (by intro k hk h; simp only [one, two, none'] at h ⊢ <;> omega)
      replace hM := F4.blkF hM (by intro h; simp only [one, two, none'] at h <;> omega)
      replace hB := F4.blkF hB (by intro h; simp only [one, two, none'] at h <;> omega)
      have hM0 := hM
      refine ⟨hB, ?_⟩
      refine ql_puta rfl rfl rfl ((fdc_cells ec.1 ec.2 false nocaps)) sz_57 (rfl) hM ((by simp)) (rfl) (fun w4 hM F4 => ?_)
      replace hF := hF.thenDrew.thenO F4 (by first | exact .inr (by omega) | exact .inl rfl | exact .inl (by assumption))
      replace hB := F4.blkO hB (by omega)
      replace V := V.framB (d := World.drawn _) ho F4 hM0 (by decide) hemb
      refine x_then (hK9 _ _ ?_)
      clear hK9 K9
      refine c_ret (x_thenR ?_)
      refine bq_ret (res1 Tryz.results37 (rv_c rfl ag_57 (hM) rfl)) ?_
      unfold engc; rw [hE]; exact ⟨rfl, ⟨_, _, V⟩, hF⟩
    · skip
      obtain ⟨hpt, hwf, hn24, hn31⟩ := coreT_ok hct
      have hE := engT_o q.1 q.2 hct
      have hpok := codeOf_prg hwf hn31
      have hset := codeOf_set hwf
      refine c_reg ?_ -- region 3 prog.go:31
      refine wl (ro_move rfl) ?_
      refine wl (ro_move rfl) ?_
      refine wl_call rfl en_48 (recall48 ho V.blk V.sm V.a V.b q.1) ?_
      rintro _ w3 ⟨rfl, ⟨⟨u, p, a, l, c, e5, q5⟩, m1', hB, hEC, hEN⟩, hSM, F3⟩
      replace V := V.byR (d := World.drawn _) ho F3 hB hSM hEC.en hEN
      replace hM := F3.blkF hM (fun h => by have := ho.all (rset_e h); omega)
      have hM0 := hM
      replace hF := hF.trans' F3 (fun k _ h ↦ rset_e h)
      obtain ⟨hu5, hp5, hEC⟩ := hEC
      obtain rfl : true = u := hu5.symm
      obtain rfl : pat = p := hp5.symm
      rw [hct] at hEC
      first
        | (obtain ⟨rfl, rfl⟩ := hEC)
        | (obtain ⟨rfl, rfl, qb, rfl, rfl, rfl, hG⟩ := hEC)
      refine wl_nil (x_then (hK6 _ _ ?_))
      clear hK6 K6
      refine c_seq (fun K10 hK10 => ?_)
      refine c_seq (fun K11 hK11 => ?_)
      refine c_reg ?_ -- region 4 prog.go:32
      refine wl (ro_move rfl) ?_
      refine wl (ro_nilCheck rfl) ?_
      refine wl (ro_fieldAddr (k := 3) rfl fo_117_3) ?_
      refine wl (ro_indexAddrA (et := 114) (k := 5) rfl rfl ar_115 ((show (0 : Int) = ((0 : Nat) : Int) from rfl)) ((by omega : 0 < 2))) ?_
      refine wl (ro_fieldAddr (k := 3) rfl fo_114_3) ?_
      refine wl (ro_loadB rfl sc_53 (hB) (rfl)) ?_
      refine wl (ro_cmp (r := false) rfl rfl rfl) ?_
      refine wl_nil (x_then (hK11 _ _ ?_))
      clear hK11 K11
      refine wc_condF rfl ?_
      refine c_skip (x_then (hK10 _ _ ?_))
      clear hK10 K10
      refine forget [(0, _), (2, _), (3, _), (8, _)] ⟨rfl, rfl, rfl, rfl, trivial⟩ (fun e => ?_)
      refine c_seq (fun K12 hK12 => ?_)
      refine c_piL 13 [(0, false), (1, false), (2, false), (3, false), (4, false), (5, false), (6, false), (7, false), (8, false), (9, false), (10, false), (11, false), (12, true)] (fun w' => Blk w'.heap E.eb (ecl E ⟨true, pat, some ⟨qb, 0, none⟩, (codeOf (child rc)).length, (codeOf (child rc)).length, 0, 0⟩ m1') 117) mixed (by kernel_rfl) rfl (by kernel_rfl) (po_then (po_bp)) (hB) ?_ -- region 6 prog.go:35
      refine ql_ro rfl (fun w hS => ro_move rfl) ?_
      refine ql_ro rfl (fun w hS => ro_nilCheck rfl) ?_
      refine ql_ro rfl (fun w hS => ro_fieldAddr (k := 1) rfl fo_117_1) ?_
      refine ql_ro rfl (fun w hS => ro_loadB rfl sc_46 (hS) (rfl)) ?_
      refine ql_ro rfl (fun w hS => ro_move rfl) ?_
      refine ql_ro rfl (fun w hS => ro_nilCheck rfl) ?_
      refine ql_ro rfl (fun w hS => ro_fieldAddr (k := 3) rfl fo_117_3) ?_
      refine ql_ro rfl (fun w hS => ro_indexAddrA (et := 114) (k := 5) rfl rfl ar_115 ((show (0 : Int) = ((0 : Nat) : Int) from rfl)) ((by omega : 0 < 2))) ?_
      refine ql_ro rfl (fun w hS => ro_fieldAddr (k := 2) rfl fo_114_2) ?_
      refine ql_ro rfl (fun w hS => ro_loadB rfl sc_109 (hS) (rfl)) ?_
      refine ql_ro rfl (fun w hS => ro_move rfl) ?_
      refine ql_ro rfl (fun w hS => ro_move rfl) ?_
      refine ql_call rfl rfl en_51 (Search51 (p := codeOf (child rc)) (res := lft s rc i) ho.pk (V.pk.fram (d := w3.drawn) (Fram.drew none' w3 (w3.drawn + 1)) (fun _ _ h ↦ h)) hG hpok q.2 hi (scan_lft hwf hi)) ?_
      rintro _ w5 ⟨rfl, hP5, hG5, F5⟩
      replace V := V.byP ho F5 hP5
      replace hB := V.blk
      replace hM := F5.blkF hM (fun h => by have := ho.pk' (.inl h); have := ho.nn'; omega)
      have hM0 := hM
      replace hF := hF.transG F5 (fun k _ h ↦ .inr (.inr (.inl h)))
      refine ⟨hB, ?_⟩
      refine ql_puta rfl rfl rfl ((fdc_cells 0 0 _ _)) sz_57 (rfl) hM ((by simp)) (rfl) (fun w5 hM F5 => ?_)
      replace hF := hF.thenDrew.thenO F5 (by first | exact .inr (by omega) | exact .inl rfl | exact .inl (by assumption))
      replace hB := F5.blkO hB (by omega)
      replace V := V.framB (d := World.drawn _) ho F5 hM0 (by decide) hemb
      refine x_then (hK12 _ _ ?_)
      clear hK12 K12
      refine c_ret ?_
      refine bq_ret (res1 Tryz.results37 (rv_c rfl ag_57 (hM) rfl)) ?_
      unfold engc; rw [hE]; exact ⟨rfl, ⟨_, _, V⟩, hF⟩

theorem New18 {w : World} {B : SB} {P : PK} {D : DF} (hs : SMV w.heap B) (hp : PKV w P) (hd : DVO w D 0) : Ret Tryz.prog 18 [ptr B.sb, ptr P.pb, ptr D.db] w (fun v w' => ∃ eb, v = ptr eb ∧ w.heap.size ≤ eb ∧ EGV w' ⟨eb, B, P, D⟩ 0 ∧ Fram none' w w') := by
  have hF : Fram none' w w := Fram.refl _ _
  refine ret_of Tryz.func18 rfl Tryz.ntmps18 rfl ?_
  refine c_seq (fun K1 hK1 => ?_)
  refine c_reg ?_ -- region 0 prog.go:22
  refine wl (ro_assign rfl) ?_
  refine wl_nil (x_then (hK1 _ _ ?_))
  clear hK1 K1
  refine forget [(0, _), (1, _), (2, _)] ⟨rfl, rfl, rfl, trivial⟩ (fun e => ?_)
  refine c_seq (fun K2 hK2 => ?_)
  refine c_reg ?_ -- region 1 prog.go:23
  refine wl (ro_move rfl) ?_
  refine wl (ro_move rfl) ?_
  refine wl (ro_move rfl) ?_
  refine wl (ro_build rfl bld_117_0_1_2) ?_
  refine wl_box (cs := ([ptr B.sb, ptr P.pb, ptr D.db] ++ (mec ⟨false, [], none, 0, 0, 0, 0⟩ ++ mec ⟨false, [], none, 0, 0, 0, 0⟩))) rfl rfl (fun eb w1 hbeb hB F1 => ?_)
  have hbseb := Nat.le_trans hF.size hbeb
  replace hF := hF.thenDrew.thenN F1
  replace hs := hs.framN F1
  replace hp := hp.fram (d := World.drawn _) F1 (fun _ _ h ↦ h)
  replace hd := hd.framN F1
  refine wl (ro_assign rfl) ?_
  refine wl_nil (x_then (hK2 _ _ ?_))
  clear hK2 K2
  refine c_ret ?_
  refine bp_ret Tryz.results18 rfl ?_
  exact ⟨eb, rfl, hbeb, ⟨⟨false, [], none, 0, 0, 0, 0⟩, ⟨false, [], none, 0, 0, 0, 0⟩, hB, hs, (fun h => by cases h), (fun h => by cases h), hp, hd⟩, hF⟩

end Go.Proofs.Qxb6500567aGreat
