import Derived.Test.Qxb6500567aGreatMe
import Derived.Test.Qxb6500567aGreatFl
/- The finder: Find, FindAll. -/
namespace Go.Proofs.Qxb6500567aGreat
set_option linter.unusedVariables false
set_option linter.unusedSimpArgs false

/-- The finder in memory. -/
structure FRr (w : World) (F : FK) (cn : Nat) (L : List (List Int)) (P : List PC) (sf pf : Nat → Value) : Prop where
  blk : Blk w.heap F.fb (fcl F L.length P.length) 120
  sp : FB w.heap F.xs 2056 sf 55
  pc : FB w.heap F.ps 96 pf 146
  sv : SpV sf L
  pv : PcV pf P
  en : EGV w F.E cn
  ch : ∃ n, n ≤ 256 ∧ ChainOK n 0 L
  pk : PcF P
  pn : P.length ≤ 32

def FRV (w : World) (F : FK) (cn : Nat) : Prop := ∃ L P sf pf, FRr w F cn L P sf pf

theorem FRr.ln {w : World} {F : FK} {cn : Nat} {L : List (List Int)} {P : List PC} {sf pf : Nat → Value} (V : FRr w F cn L P sf pf) : L.length ≤ 257 := by
  obtain ⟨n, hn, hc⟩ := V.ch
  have := chain_len L 0 hc (by omega)
  omega

theorem engc_er {p s : List UInt8} {e : Er} (h : engT p s = .error e) (i : Nat) : engc p s i = fdc e.1 e.2 false nocaps := by unfold engc; rw [h]
theorem hasc_er {p s : List UInt8} {e : Er} (h : engT p s = .error e) (i : Nat) : hasc p s i = fdc e.1 e.2 false nocaps := by unfold hasc; rw [h]

set_option maxHeartbeats 4000000 in
theorem Find20 {w : World} {F : FK} {cn : Nat} {p s : List UInt8} (ho : FKo F) (V : FRV w F cn) (hcn : cn ≤ 60000000000000000) (hpm : p.length ≤ 9223372036854775807) (hsm : s.length ≤ 9223372036854775807) :
    Ret Tryz.prog 20 [ptr F.fb, S p, S s] w (fun v w' => v = .agg (engc p s 0).toArray ∧ FRV w' F (cn + 300000) ∧ Fram (kset F) w w') := by
  have hF : Fram (kset F) w w := Fram.refl _ _
  obtain ⟨L, P, sf, pf, hB, hX, hP, hsv, hpv, V, hch, hpk, hpn⟩ := V
  have oef := ho.ef
  have ofx := ho.fx
  have oxp := ho.xp
  have hall : ∀ k, eset F.E k → k ≤ F.E.eb := fun k hk => ho.eo.all hk
  refine ret_of Tryz.func20 rfl Tryz.ntmps20 rfl ?_
  refine c_seq (fun K1 hK1 => ?_)
  refine c_reg ?_ -- region 0 find.go:33
  refine wl_new (ze_57) (fun mb w1 hbmb hM F1 => ?_)
  have hbsmb := Nat.le_trans hF.size hbmb
  have hneF.fbmb : F.fb < mb := Nat.lt_of_lt_of_le hB.lt hbmb
  have hneF.xsmb : F.xs < mb := Nat.lt_of_lt_of_le hX.lt hbmb
  have hneF.psmb : F.ps < mb := Nat.lt_of_lt_of_le hP.lt hbmb
  replace hF := hF.thenDrew.thenN F1
  replace hB := F1.blkN hB
  replace hX := F1.blkN hX
  replace hP := F1.blkN hP
  replace V := V.framN (d := World.drawn _) F1
  refine wl_nil (x_then (hK1 _ _ ?_))
  clear hK1 K1
  refine c_seq (fun K2 hK2 => ?_)
  refine c_seq (fun K3 hK3 => ?_)
  have hql : 128 < p.length ∨ (p.length ≤ 128 ∧ 256 < s.length) ∨ (p.length ≤ 128 ∧ s.length ≤ 256) := by omega
  rcases hql with q | q | q
  · skip
    have hE := engT_long (p := p) (s := s) (by omega)
    refine c_reg ?_ -- region 1 find.go:34
    refine wl (ro_move rfl) ?_
    refine wl (ro_lenS rfl st_9) ?_
    refine wl (ro_cmp (r := true) rfl rfl (congrArg some (decide_eq_true (by omega)))) ?_
    refine wl (ro_move rfl) ?_
    refine wlg_no rfl ?_
    refine wlg_no rfl ?_
    refine wlg_no rfl ?_
    refine wl (ro_pick rfl rfl rfl) ?_
    refine wl_nil (x_then (hK3 _ _ ?_))
    clear hK3 K3
    refine wc_condT rfl ?_
    refine c_seq (fun K4 hK4 => ?_)
    refine c_reg ?_ -- region 2 find.go:35
    refine wl_call rfl en_35 (Refused35 (er := 12) (p := 0)) ?_
    rintro _ w2 ⟨rfl, F2⟩
    replace V := V.framN (d := World.drawn _) F2
    replace hF := hF.transG F2 (by intro k hk h; simp only [one, two, none'] at h ⊢ <;> omega)
    replace hB := F2.blkF hB (by intro h; simp only [one, two, none'] at h <;> omega)
    replace hX := F2.blkF hX (by intro h; simp only [one, two, none'] at h <;> omega)
    replace hP := F2.blkF hP (by intro h; simp only [one, two, none'] at h <;> omega)
    replace hM := F2.blkF hM (by intro h; simp only [one, two, none'] at h <;> omega)
    have hM2 := hM
    refine wl_puta rfl rfl ((fdc_cells 12 0 false nocaps)) sz_57 (rfl) hM ((by simp)) (rfl) (fun w2 hM F2 => ?_)
    replace hF := hF.thenDrew.thenO F2 (by first | exact .inr (by omega) | exact .inl rfl | exact .inl (by assumption))
    replace hB := F2.blkO hB (by omega)
    replace hX := F2.blkO hX (by omega)
    replace hP := F2.blkO hP (by omega)
    replace V := V.framB (d := World.drawn _) ho.eo F2 hM2 (by decide) (by omega)
    refine wl_nil (x_then (hK4 _ _ ?_))
    clear hK4 K4
    refine c_ret (x_thenR ?_)
    refine bq_ret (res1 Tryz.results20 (rv_c rfl ag_57 (hM) rfl)) ?_
    rw [engc_er hE]; exact ⟨rfl, ⟨L, P, sf, pf, hB, hX, hP, hsv, hpv, V.up (by omega), hch, hpk, hpn⟩, hF⟩
  · skip
    have hE := engT_long (p := p) (s := s) (by omega)
    refine c_reg ?_ -- region 1 find.go:34
    refine wl (ro_move rfl) ?_
    refine wl (ro_lenS rfl st_9) ?_
    refine wl (ro_cmp (r := false) rfl rfl (congrArg some (decide_eq_false (by omega)))) ?_
    refine wl (ro_move rfl) ?_
    refine wlg_yes rfl (ro_move rfl) ?_
    refine wlg_yes rfl (ro_lenS rfl st_9) ?_
    refine wlg_yes rfl (ro_cmp (r := true) rfl rfl (congrArg some (decide_eq_true (by omega)))) ?_
    refine wl (ro_pick rfl rfl rfl) ?_
    refine wl_nil (x_then (hK3 _ _ ?_))
    clear hK3 K3
    refine wc_condT rfl ?_
    refine c_seq (fun K5 hK5 => ?_)
    refine c_reg ?_ -- region 2 find.go:35
    refine wl_call rfl en_35 (Refused35 (er := 12) (p := 0)) ?_
    rintro _ w2 ⟨rfl, F2⟩
    replace V := V.framN (d := World.drawn _) F2
    replace hF := hF.transG F2 (by intro k hk h; simp only [one, two, none'] at h ⊢ <;> omega)
    replace hB := F2.blkF hB (by intro h; simp only [one, two, none'] at h <;> omega)
    replace hX := F2.blkF hX (by intro h; simp only [one, two, none'] at h <;> omega)
    replace hP := F2.blkF hP (by intro h; simp only [one, two, none'] at h <;> omega)
    replace hM := F2.blkF hM (by intro h; simp only [one, two, none'] at h <;> omega)
    have hM2 := hM
    refine wl_puta rfl rfl ((fdc_cells 12 0 false nocaps)) sz_57 (rfl) hM ((by simp)) (rfl) (fun w3 hM F3 => ?_)
    replace hF := hF.thenDrew.thenO F3 (by first | exact .inr (by omega) | exact .inl rfl | exact .inl (by assumption))
    replace hB := F3.blkO hB (by omega)
    replace hX := F3.blkO hX (by omega)
    replace hP := F3.blkO hP (by omega)
    replace V := V.framB (d := World.drawn _) ho.eo F3 hM2 (by decide) (by omega)
    refine wl_nil (x_then (hK5 _ _ ?_))
    clear hK5 K5
    refine c_ret (x_thenR ?_)
    refine bq_ret (res1 Tryz.results20 (rv_c rfl ag_57 (hM) rfl)) ?_
    rw [engc_er hE]; exact ⟨rfl, ⟨L, P, sf, pf, hB, hX, hP, hsv, hpv, V.up (by omega), hch, hpk, hpn⟩, hF⟩
  · skip
    refine c_reg ?_ -- region 1 find.go:34
    refine wl (ro_move rfl) ?_
    refine wl (ro_lenS rfl st_9) ?_
    refine wl (ro_cmp (r := false) rfl rfl (congrArg some (decide_eq_false (by omega)))) ?_
    refine wl (ro_move rfl) ?_
    refine wlg_yes rfl (ro_move rfl) ?_
    refine wlg_yes rfl (ro_lenS rfl st_9) ?_
    refine wlg_yes rfl (ro_cmp (r := false) rfl rfl (congrArg some (decide_eq_false (by omega)))) ?_
    refine wl (ro_pick rfl rfl rfl) ?_
    refine wl_nil (x_then (hK3 _ _ ?_))
    clear hK3 K3
    refine wc_condF rfl ?_
    refine c_skip (x_then (hK2 _ _ ?_))
    clear hK2 K2
    refine forget [(0, _), (1, _), (2, _), (6, _)] ⟨rfl, rfl, rfl, rfl, trivial⟩ (fun e => ?_)
    refine c_seq (fun K6 hK6 => ?_)
    have hq3 : (∃ e, engT p s = .error e) ∨ (∃ r, engT p s = .ok r ∧ lft s r 0 = none) ∨ (∃ r c, engT p s = .ok r ∧ lft s r 0 = some c) := by
      rcases hE : engT p s with e | r
      · exact .inl ⟨e, rfl⟩
      · cases hl : lft s r 0 with
        | none => exact .inr (.inl ⟨r, rfl, hl⟩)
        | some c => exact .inr (.inr ⟨r, c, rfl, hl⟩)
    have hcal1 := Has36 (pat := p) (s := s) (i := 0) ho.eo V (by omega) (by omega) hpm hsm
    rcases hq3 with ⟨e3, hE⟩ | ⟨r, hE, hl⟩ | ⟨r, cc, hE, hl⟩
    · skip
      have hne := engT_er hE
      rw [hasc_er hE] at hcal1
      refine c_reg ?_ -- region 3 find.go:37
      refine wl (ro_move rfl) ?_
      refine wl (ro_nilCheck rfl) ?_
      refine wl (ro_fieldAddr (k := 0) rfl fo_120_0) ?_
      refine wl (ro_loadB rfl sc_50 (hB) (rfl)) ?_
      refine wl (ro_move rfl) ?_
      refine wl (ro_move rfl) ?_
      refine wl_call rfl en_36 (hcal1) ?_
      rintro _ w3 ⟨rfl, V, F3⟩
      replace hB := F3.blkF hB (fun h => by have := hall _ h; omega)
      replace hX := F3.blkF hX (fun h => by have := hall _ h; omega)
      replace hP := F3.blkF hP (fun h => by have := hall _ h; omega)
      replace hM := F3.blkF hM (fun h => by have := hall _ h; omega)
      replace hF := hF.transG F3 (fun k _ h ↦ .inr (.inr (.inr h)))
      refine wl_new (ze_57) (fun hb w4 hbhb hH F4 => ?_)
      have hbshb := Nat.le_trans hF.size hbhb
      have hneF.fbhb : F.fb < hb := Nat.lt_of_lt_of_le hB.lt hbhb
      have hneF.xshb : F.xs < hb := Nat.lt_of_lt_of_le hX.lt hbhb
      have hneF.pshb : F.ps < hb := Nat.lt_of_lt_of_le hP.lt hbhb
      have hnembhb : mb < hb := Nat.lt_of_lt_of_le hM.lt hbhb
      replace hF := hF.thenDrew.thenN F4
      replace hB := F4.blkN hB
      replace hX := F4.blkN hX
      replace hP := F4.blkN hP
      replace hM := F4.blkN hM
      replace V := V.framN (d := World.drawn _) F4
      have hH0 := hH
      refine wl_puta rfl rfl ((fdc_cells _ _ _ _)) sz_57 (rfl) hH ((by simp)) (rfl) (fun w5 hH F5 => ?_)
      replace hF := hF.thenDrew.thenO F5 (by first | exact .inr (by omega) | exact .inl rfl | exact .inl (by assumption))
      replace hB := F5.blkO hB (by omega)
      replace hX := F5.blkO hX (by omega)
      replace hP := F5.blkO hP (by omega)
      replace hM := F5.blkO hM (by omega)
      replace V := V.framB (d := World.drawn _) ho.eo F5 hH0 (by decide) (by omega)
      refine wl_nil (x_then (hK6 _ _ ?_))
      clear hK6 K6
      refine c_seq (fun K7 hK7 => ?_)
      refine c_seq (fun K8 hK8 => ?_)
      refine c_reg ?_ -- region 4 find.go:38
      refine wl (ro_fieldAddr (k := 0) rfl fo_57_0) ?_
      refine wl (ro_loadB rfl sc_53 (hH) (rfl)) ?_
      refine wl (ro_cmp (r := true) rfl rfl (congrArg some ((bnec e3.1 0).trans (decide_eq_true hne)))) ?_
      refine wl (ro_move rfl) ?_
      refine wlg_no rfl ?_
      refine wlg_no rfl ?_
      refine wlg_no rfl ?_
      refine wl (ro_pick rfl rfl rfl) ?_
      refine wl_nil (x_then (hK8 _ _ ?_))
      clear hK8 K8
      refine wc_condT rfl ?_
      refine c_seq (fun K9 hK9 => ?_)
      have hM2 := hM
      refine c_reg ?_ -- region 5 find.go:39
      refine wl (ro_loadAggB rfl ag_57 (hH) (rfl) (rfl)) ?_
      refine wl_puta rfl rfl ((fdc_cells _ _ _ _)) sz_57 (rfl) hM ((by simp)) (rfl) (fun w6 hM F6 => ?_)
      replace hF := hF.thenDrew.thenO F6 (by first | exact .inr (by omega) | exact .inl rfl | exact .inl (by assumption))
      replace hB := F6.blkO hB (by omega)
      replace hX := F6.blkO hX (by omega)
      replace hP := F6.blkO hP (by omega)
      replace hH := F6.blkO hH (by omega)
      replace V := V.framB (d := World.drawn _) ho.eo F6 hM2 (by decide) (by omega)
      refine wl_nil (x_then (hK9 _ _ ?_))
      clear hK9 K9
      refine c_ret (x_thenR ?_)
      refine bq_ret (res1 Tryz.results20 (rv_c rfl ag_57 (hM) rfl)) ?_
      rw [engc_er hE]; exact ⟨rfl, ⟨L, P, sf, pf, hB, hX, hP, hsv, hpv, V.up (by omega), hch, hpk, hpn⟩, hF⟩
    · skip
      rw [lft_hasc hE, hl] at hcal1
      simp only [Option.isSome_none] at hcal1
      refine c_reg ?_ -- region 3 find.go:37
      refine wl (ro_move rfl) ?_
      refine wl (ro_nilCheck rfl) ?_
      refine wl (ro_fieldAddr (k := 0) rfl fo_120_0) ?_
      refine wl (ro_loadB rfl sc_50 (hB) (rfl)) ?_
      refine wl (ro_move rfl) ?_
      refine wl (ro_move rfl) ?_
      refine wl_call rfl en_36 (hcal1) ?_
      rintro _ w3 ⟨rfl, V, F3⟩
      replace hB := F3.blkF hB (fun h => by have := hall _ h; omega)
      replace hX := F3.blkF hX (fun h => by have := hall _ h; omega)
      replace hP := F3.blkF hP (fun h => by have := hall _ h; omega)
      replace hM := F3.blkF hM (fun h => by have := hall _ h; omega)
      replace hF := hF.transG F3 (fun k _ h ↦ .inr (.inr (.inr h)))
      refine wl_new (ze_57) (fun hb w7 hbhb hH F7 => ?_)
      have hbshb := Nat.le_trans hF.size hbhb
      have hneF.fbhb : F.fb < hb := Nat.lt_of_lt_of_le hB.lt hbhb
      have hneF.xshb : F.xs < hb := Nat.lt_of_lt_of_le hX.lt hbhb
      have hneF.pshb : F.ps < hb := Nat.lt_of_lt_of_le hP.lt hbhb
      have hnembhb : mb < hb := Nat.lt_of_lt_of_le hM.lt hbhb
      replace hF := hF.thenDrew.thenN F7
      replace hB := F7.blkN hB
      replace hX := F7.blkN hX
      replace hP := F7.blkN hP
      replace hM := F7.blkN hM
      replace V := V.framN (d := World.drawn _) F7
      have hH0 := hH
      refine wl_puta rfl rfl ((fdc_cells _ _ _ _)) sz_57 (rfl) hH ((by simp)) (rfl) (fun w8 hH F8 => ?_)
      replace hF := hF.thenDrew.thenO F8 (by first | exact .inr (by omega) | exact .inl rfl | exact .inl (by assumption))
      replace hB := F8.blkO hB (by omega)
      replace hX := F8.blkO hX (by omega)
      replace hP := F8.blkO hP (by omega)
      replace hM := F8.blkO hM (by omega)
      replace V := V.framB (d := World.drawn _) ho.eo F8 hH0 (by decide) (by omega)
      refine wl_nil (x_then (hK6 _ _ ?_))
      clear hK6 K6
      refine c_seq (fun K10 hK10 => ?_)
      refine c_seq (fun K11 hK11 => ?_)
      refine c_reg ?_ -- region 4 find.go:38
      refine wl (ro_fieldAddr (k := 0) rfl fo_57_0) ?_
      refine wl (ro_loadB rfl sc_53 (hH) (rfl)) ?_
      refine wl (ro_cmp (r := false) rfl rfl rfl) ?_
      refine wl (ro_move rfl) ?_
      refine wlg_yes rfl (ro_fieldAddr (k := 2) rfl fo_57_2) ?_
      refine wlg_yes rfl (ro_loadB rfl sc_4 (hH) (rfl)) ?_
      refine wlg_yes rfl (ro_not rfl) ?_
      refine wl (ro_pick rfl rfl rfl) ?_
      refine wl_nil (x_then (hK11 _ _ ?_))
      clear hK11 K11
      refine wc_condT rfl ?_
      refine c_seq (fun K12 hK12 => ?_)
      have hM2 := hM
      refine c_reg ?_ -- region 5 find.go:39
      refine wl (ro_loadAggB rfl ag_57 (hH) (rfl) (rfl)) ?_
      refine wl_puta rfl rfl ((fdc_cells _ _ _ _)) sz_57 (rfl) hM ((by simp)) (rfl) (fun w9 hM F9 => ?_)
      replace hF := hF.thenDrew.thenO F9 (by first | exact .inr (by omega) | exact .inl rfl | exact .inl (by assumption))
      replace hB := F9.blkO hB (by omega)
      replace hX := F9.blkO hX (by omega)
      replace hP := F9.blkO hP (by omega)
      replace hH := F9.blkO hH (by omega)
      replace V := V.framB (d := World.drawn _) ho.eo F9 hM2 (by decide) (by omega)
      refine wl_nil (x_then (hK12 _ _ ?_))
      clear hK12 K12
      refine c_ret (x_thenR ?_)
      refine bq_ret (res1 Tryz.results20 (rv_c rfl ag_57 (hM) rfl)) ?_
      rw [lft_engc hE, hl]; exact ⟨rfl, ⟨L, P, sf, pf, hB, hX, hP, hsv, hpv, V.up (by omega), hch, hpk, hpn⟩, hF⟩
    · skip
      rw [lft_hasc hE, hl] at hcal1
      simp only [Option.isSome_some] at hcal1
      refine c_reg ?_ -- region 3 find.go:37
      refine wl (ro_move rfl) ?_
      refine wl (ro_nilCheck rfl) ?_
      refine wl (ro_fieldAddr (k := 0) rfl fo_120_0) ?_
      refine wl (ro_loadB rfl sc_50 (hB) (rfl)) ?_
      refine wl (ro_move rfl) ?_
      refine wl (ro_move rfl) ?_
      refine wl_call rfl en_36 (hcal1) ?_
      rintro _ w3 ⟨rfl, V, F3⟩
      replace hB := F3.blkF hB (fun h => by have := hall _ h; omega)
      replace hX := F3.blkF hX (fun h => by have := hall _ h; omega)
      replace hP := F3.blkF hP (fun h => by have := hall _ h; omega)
      replace hM := F3.blkF hM (fun h => by have := hall _ h; omega)
      replace hF := hF.transG F3 (fun k _ h ↦ .inr (.inr (.inr h)))
      refine wl_new (ze_57) (fun hb w10 hbhb hH F10 => ?_)
      have hbshb := Nat.le_trans hF.size hbhb
      have hneF.fbhb : F.fb < hb := Nat.lt_of_lt_of_le hB.lt hbhb
      have hneF.xshb : F.xs < hb := Nat.lt_of_lt_of_le hX.lt hbhb
      have hneF.pshb : F.ps < hb := Nat.lt_of_lt_of_le hP.lt hbhb
      have hnembhb : mb < hb := Nat.lt_of_lt_of_le hM.lt hbhb
      replace hF := hF.thenDrew.thenN F10
      replace hB := F10.blkN hB
      replace hX := F10.blkN hX
      replace hP := F10.blkN hP
      replace hM := F10.blkN hM
      replace V := V.framN (d := World.drawn _) F10
      have hH0 := hH
      refine wl_puta rfl rfl ((fdc_cells _ _ _ _)) sz_57 (rfl) hH ((by simp)) (rfl) (fun w11 hH F11 => ?_)
      replace hF := hF.thenDrew.thenO F11 (by first | exact .inr (by omega) | exact .inl rfl | exact .inl (by assumption))
      replace hB := F11.blkO hB (by omega)
      replace hX := F11.blkO hX (by omega)
      replace hP := F11.blkO hP (by omega)
      replace hM := F11.blkO hM (by omega)
      replace V := V.framB (d := World.drawn _) ho.eo F11 hH0 (by decide) (by omega)
      refine wl_nil (x_then (hK6 _ _ ?_))
      clear hK6 K6
      refine c_seq (fun K13 hK13 => ?_)
      refine c_seq (fun K14 hK14 => ?_)
      refine c_reg ?_ -- region 4 find.go:38
      refine wl (ro_fieldAddr (k := 0) rfl fo_57_0) ?_
      refine wl (ro_loadB rfl sc_53 (hH) (rfl)) ?_
      refine wl (ro_cmp (r := false) rfl rfl rfl) ?_
      refine wl (ro_move rfl) ?_
      refine wlg_yes rfl (ro_fieldAddr (k := 2) rfl fo_57_2) ?_
      refine wlg_yes rfl (ro_loadB rfl sc_4 (hH) (rfl)) ?_
      refine wlg_yes rfl (ro_not rfl) ?_
      refine wl (ro_pick rfl rfl rfl) ?_
      refine wl_nil (x_then (hK14 _ _ ?_))
      clear hK14 K14
      refine wc_condF rfl ?_
      refine c_skip (x_then (hK13 _ _ ?_))
      clear hK13 K13
      refine forget [(0, _), (1, _), (2, _), (6, _)] ⟨rfl, rfl, rfl, rfl, trivial⟩ (fun e => ?_)
      refine c_seq (fun K15 hK15 => ?_)
      have hcal2 := Match37 (pat := p) (s := s) (i := 0) ho.eo V (by omega) hpm hsm
      rw [lft_engc hE, hl] at hcal2
      simp only [Option.isSome_some, capO] at hcal2
      refine c_reg ?_ -- region 6 find.go:41
      refine wl (ro_move rfl) ?_
      refine wl (ro_nilCheck rfl) ?_
      refine wl (ro_fieldAddr (k := 0) rfl fo_120_0) ?_
      refine wl (ro_loadB rfl sc_50 (hB) (rfl)) ?_
      refine wl (ro_move rfl) ?_
      refine wl (ro_move rfl) ?_
      refine wl_call rfl en_37 (hcal2) ?_
      rintro _ w4 ⟨rfl, V, F4⟩
      replace hB := F4.blkF hB (fun h => by have := hall _ h; omega)
      replace hX := F4.blkF hX (fun h => by have := hall _ h; omega)
      replace hP := F4.blkF hP (fun h => by have := hall _ h; omega)
      replace hM := F4.blkF hM (fun h => by have := hall _ h; omega)
      replace hF := hF.transG F4 (fun k _ h ↦ .inr (.inr (.inr h)))
      have hM2 := hM
      refine wl_puta rfl rfl ((fdc_cells _ _ _ _)) sz_57 (rfl) hM ((by simp)) (rfl) (fun w12 hM F12 => ?_)
      replace hF := hF.thenDrew.thenO F12 (by first | exact .inr (by omega) | exact .inl rfl | exact .inl (by assumption))
      replace hB := F12.blkO hB (by omega)
      replace hX := F12.blkO hX (by omega)
      replace hP := F12.blkO hP (by omega)
      replace V := V.framB (d := World.drawn _) ho.eo F12 hM2 (by decide) (by omega)
      refine wl_nil (x_then (hK15 _ _ ?_))
      clear hK15 K15
      refine c_ret ?_
      refine bq_ret (res1 Tryz.results20 (rv_c rfl ag_57 (hM) rfl)) ?_
      rw [lft_engc hE, hl]; exact ⟨rfl, ⟨L, P, sf, pf, hB, hX, hP, hsv, hpv, V.up (by omega), hch, hpk, hpn⟩, hF⟩

theorem SpV.rows {g : Nat → Value} {L : List (List Int)} (h : SpV g L) : cel (L.length * 8) g = rws capc L := by
  have key : ∀ (M : List (List Int)) (o : Nat), (∀ (k : Nat) (c : List Int), M[k]? = some c → ∀ j, j < 8 → g (o + (k * 8 + j)) = icv (c.getD j 0)) → cel (M.length * 8) (fun j => g (o + j)) = rws capc M := by
    intro M
    induction M with
    | nil => intro o _; rfl
    | cons c M ih =>
      intro o hM
      rw [List.length_cons, show (M.length + 1) * 8 = 8 + M.length * 8 by omega, cel_add]
      have h1 : cel 8 (fun j => g (o + j)) = capc c := cel_congr (fun j hj => by have := hM 0 c rfl j hj; simpa using this)
      have h2 := ih (o + 8) (fun k d hk j hj => by have := hM (k + 1) d (by simpa using hk) j hj; rw [← this]; congr 1; omega)
      rw [h1, show (fun j => g (o + (8 + j))) = (fun j => g (o + 8 + j)) from funext (fun j => by congr 1; omega), h2]
      rfl
  have := key L 0 (fun k c hk j hj => by rw [Nat.zero_add]; exact h k c hk j hj)
  rw [← this]
  congr 1
  funext j
  rw [Nat.zero_add]

theorem take_snoc {α : Type} {L : List α} {k : Nat} {x : α} (h : L[k]? = some x) : L.take (k + 1) = L.take k ++ [x] := by
  obtain ⟨h1, h2⟩ := List.getElem?_eq_some_iff.1 h
  rw [← h2, List.take_append_getElem]

end Go.Proofs.Qxb6500567aGreat
