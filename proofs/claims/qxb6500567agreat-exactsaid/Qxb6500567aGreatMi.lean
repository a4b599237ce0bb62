import Derived.Test.Qxb6500567aGreatMh
/- The finder: Replace, New. -/
namespace Go.Proofs.Qxb6500567aGreat
set_option linter.unusedVariables false
set_option linter.unusedSimpArgs false

theorem BfV.load {bf : Nat → Value} {o : List UInt8} {N : Nat} (h : BfV bf o) (hN : o.length ≤ N) : ∀ (k : Nat) (y : UInt8), o[k]? = some y → (cel N bf)[k]? = some (u8c y) := fun k y hk =>
  cel_get' (by have := (List.getElem?_eq_some_iff.1 hk).1; omega) (h k y hk)

theorem under5 : Tryz.prog.underlying 5 = some (.int .u8) := by kernel_rfl

set_option maxHeartbeats 8000000 in
theorem Replace26 {w : World} {F : FK} {cn : Nat} {p s t : List UInt8} (ho : FKo F) (V : FRV w F cn) (hcn : cn ≤ 50000000000000000) (hpm : p.length ≤ 9223372036854775807) (hsm : s.length ≤ 9223372036854775807) (htm : t.length ≤ 9223372036854775807) :
    Ret Tryz.prog 26 [ptr F.fb, S p, S s, S t] w (fun v w' => v = repV (repT p s t) ∧ FRV w' F (cn + 300000) ∧ Fram (kset F) w w') := by
  have hF : Fram (kset F) w w := Fram.refl _ _
  obtain ⟨L, P, sf, pf, hB, hX, hP, hsv, hpv, V, hch, hpk, hpn⟩ := V
  have oef := ho.ef
  have ofx := ho.fx
  have oxp := ho.xp
  have hall : ∀ k, eset F.E k → k ≤ F.E.eb := fun k hk => ho.eo.all hk
  have bp := hP.lt
  refine ret_of Tryz.func26 rfl Tryz.ntmps26 rfl ?_
  refine c_seq (fun K1 hK1 => ?_)
  refine c_reg ?_ -- region 0 find.go:82
  refine wl (ro_assign rfl) ?_
  refine wl (ro_assign rfl) ?_
  refine wl (ro_assign rfl) ?_
  refine wl_nil (x_then (hK1 _ _ ?_))
  clear hK1 K1
  refine c_seq (fun K2 hK2 => ?_)
  refine c_seq (fun K3 hK3 => ?_)
  have hql : 128 < p.length ∨ (p.length ≤ 128 ∧ 256 < s.length) ∨ (p.length ≤ 128 ∧ s.length ≤ 256 ∧ 32 < t.length) ∨ (p.length ≤ 128 ∧ s.length ≤ 256 ∧ t.length ≤ 32) := by omega
  rcases hql with q | q | q | q
  · skip
    have hR : repT p s t = ([], 12, 0) := by unfold repT; rw [if_pos (by omega)]
    refine c_reg ?_ -- region 1 find.go:83
    refine wl (ro_move rfl) ?_
    refine wl (ro_lenS rfl st_9) ?_
    refine wl (ro_cmp (r := true) rfl rfl (congrArg some (decide_eq_true (by omega)))) ?_
    refine wl (ro_move rfl) ?_
    refine wlg_no rfl ?_
    refine wlg_no rfl ?_
    refine wlg_no rfl ?_
    refine wl (ro_pick rfl rfl rfl) ?_
    refine wl (ro_move rfl) ?_
    refine wlg_no rfl ?_
    refine wlg_no rfl ?_
    refine wlg_no rfl ?_
    refine wl (ro_pick rfl rfl rfl) ?_
    refine wl_nil (x_then (hK3 _ _ ?_))
    clear hK3 K3
    refine wc_condT rfl ?_
    refine c_seq (fun K4 hK4 => ?_)
    refine c_reg ?_ -- region 2 find.go:84
    refine wl (ro_assign rfl) ?_
    refine wl (ro_assign rfl) ?_
    refine wl (ro_assign rfl) ?_
    refine wl_nil (x_then (hK4 _ _ ?_))
    clear hK4 K4
    refine c_ret (x_thenR ?_)
    refine bp_ret Tryz.results26 rfl ?_
    rw [hR]; exact ⟨rfl, ⟨L, P, sf, pf, hB, hX, hP, hsv, hpv, V.up (by omega), hch, hpk, hpn⟩, hF⟩
  · skip
    have hR : repT p s t = ([], 12, 0) := by unfold repT; rw [if_pos (by omega)]
    refine c_reg ?_ -- region 1 find.go:83
    refine wl (ro_move rfl) ?_
    refine wl (ro_lenS rfl st_9) ?_
    refine wl (ro_cmp (r := false) rfl rfl (congrArg some (decide_eq_false (by omega)))) ?_
    refine wl (ro_move rfl) ?_
    refine wlg_yes rfl (ro_move rfl) ?_
    refine wlg_yes rfl (ro_lenS rfl st_9) ?_
    refine wlg_yes rfl (ro_cmp (r := true) rfl rfl (congrArg some (decide_eq_true (by omega)))) ?_
    refine wl (ro_pick rfl rfl rfl) ?_
    refine wl (ro_move rfl) ?_
    refine wlg_no rfl ?_
    refine wlg_no rfl ?_
    refine wlg_no rfl ?_
    refine wl (ro_pick rfl rfl rfl) ?_
    refine wl_nil (x_then (hK3 _ _ ?_))
    clear hK3 K3
    refine wc_condT rfl ?_
    refine c_seq (fun K5 hK5 => ?_)
    refine c_reg ?_ -- region 2 find.go:84
    refine wl (ro_assign rfl) ?_
    refine wl (ro_assign rfl) ?_
    refine wl (ro_assign rfl) ?_
    refine wl_nil (x_then (hK5 _ _ ?_))
    clear hK5 K5
    refine c_ret (x_thenR ?_)
    refine bp_ret Tryz.results26 rfl ?_
    rw [hR]; exact ⟨rfl, ⟨L, P, sf, pf, hB, hX, hP, hsv, hpv, V.up (by omega), hch, hpk, hpn⟩, hF⟩
  · skip
    have hR : repT p s t = ([], 12, 0) := by unfold repT; rw [if_pos (by omega)]
    refine c_reg ?_ -- region 1 find.go:83
    refine wl (ro_move rfl) ?_
    refine wl (ro_lenS rfl st_9) ?_
    refine wl (ro_cmp (r := false) rfl rfl (congrArg some (decide_eq_false (by omega)))) ?_
    refine wl (ro_move rfl) ?_
    refine wlg_yes rfl (ro_move rfl) ?_
    refine wlg_yes rfl (ro_lenS rfl st_9) ?_
    refine wlg_yes rfl (ro_cmp (r := false) rfl rfl (congrArg some (decide_eq_false (by omega)))) ?_
    refine wl (ro_pick rfl rfl rfl) ?_
    refine wl (ro_move rfl) ?_
    refine wlg_yes rfl (ro_move rfl) ?_
    refine wlg_yes rfl (ro_lenS rfl st_9) ?_
    refine wlg_yes rfl (ro_cmp (r := true) rfl rfl (congrArg some (decide_eq_true (by omega)))) ?_
    refine wl (ro_pick rfl rfl rfl) ?_
    refine wl_nil (x_then (hK3 _ _ ?_))
    clear hK3 K3
    refine wc_condT rfl ?_
    refine c_seq (fun K6 hK6 => ?_)
    refine c_reg ?_ -- region 2 find.go:84
    refine wl (ro_assign rfl) ?_
    refine wl (ro_assign rfl) ?_
    refine wl (ro_assign rfl) ?_
    refine wl_nil (x_then (hK6 _ _ ?_))
    clear hK6 K6
    refine c_ret (x_thenR ?_)
    refine bp_ret Tryz.results26 rfl ?_
    rw [hR]; exact ⟨rfl, ⟨L, P, sf, pf, hB, hX, hP, hsv, hpv, V.up (by omega), hch, hpk, hpn⟩, hF⟩
  · skip
    have hnl : ¬ (128 < p.length ∨ 256 < s.length ∨ 32 < t.length) := by omega
    refine c_reg ?_ -- region 1 find.go:83
    refine wl (ro_move rfl) ?_
    refine wl (ro_lenS rfl st_9) ?_
    refine wl (ro_cmp (r := false) rfl rfl (congrArg some (decide_eq_false (by omega)))) ?_
    refine wl (ro_move rfl) ?_
    refine wlg_yes rfl (ro_move rfl) ?_
    refine wlg_yes rfl (ro_lenS rfl st_9) ?_
    refine wlg_yes rfl (ro_cmp (r := false) rfl rfl (congrArg some (decide_eq_false (by omega)))) ?_
    refine wl (ro_pick rfl rfl rfl) ?_
    refine wl (ro_move rfl) ?_
    refine wlg_yes rfl (ro_move rfl) ?_
    refine wlg_yes rfl (ro_lenS rfl st_9) ?_
    refine wlg_yes rfl (ro_cmp (r := false) rfl rfl (congrArg some (decide_eq_false (by omega)))) ?_
    refine wl (ro_pick rfl rfl rfl) ?_
    refine wl_nil (x_then (hK3 _ _ ?_))
    clear hK3 K3
    refine wc_condF rfl ?_
    refine c_skip (x_then (hK2 _ _ ?_))
    clear hK2 K2
    refine forget [(0, _), (1, _), (2, _), (3, _)] ⟨rfl, rfl, rfl, rfl, trivial⟩ (fun e => ?_)
    refine c_seq (fun K7 hK7 => ?_)
    have hcal1 := Has36 (pat := p) (s := s) (i := 0) ho.eo V (by omega) (by omega) hpm hsm
    rcases hE : engT p s with e3 | r
    · skip
      have hne := engT_er hE
      rw [hasc_er hE] at hcal1
      have hR : repT p s t = ([], e3.1, e3.2) := by unfold repT; rw [if_neg hnl, hE]
      refine c_reg ?_ -- region 3 find.go:86
      refine wl (ro_move rfl) ?_
      refine wl (ro_nilCheck rfl) ?_
      refine wl (ro_fieldAddr (k := 0) rfl fo_120_0) ?_
      refine wl (ro_loadB rfl sc_50 (hB) (rfl)) ?_
      refine wl (ro_move rfl) ?_
      refine wl (ro_move rfl) ?_
      refine wl_call rfl en_36 (hcal1) ?_
      rintro _ w3 ⟨rfl, V, F3⟩
      replace hB := F3.blkF hB (fun h => by have := hall _ h; omega)
      replace hX := F3.blkF hX (fun h => by have := hall _ h; omega)
      replace hP := F3.blkF hP (fun h => by have := hall _ h; omega)
      replace hF := hF.transG F3 (fun k _ h ↦ .inr (.inr (.inr h)))
      refine wl_new (ze_57) (fun hb w1 hbhb hH F1 => ?_)
      have hbshb := Nat.le_trans hF.size hbhb
      have hneF.fbhb : F.fb < hb := Nat.lt_of_lt_of_le hB.lt hbhb
      have hneF.xshb : F.xs < hb := Nat.lt_of_lt_of_le hX.lt hbhb
      have hneF.pshb : F.ps < hb := Nat.lt_of_lt_of_le hP.lt hbhb
      replace hF := hF.thenDrew.thenN F1
      replace hB := F1.blkN hB
      replace hX := F1.blkN hX
      replace hP := F1.blkN hP
      replace V := V.framN (d := World.drawn _) F1
      have hH0 := hH
      refine wl_puta rfl rfl ((fdc_cells _ _ _ _)) sz_57 (rfl) hH ((by simp)) (rfl) (fun w2 hH F2 => ?_)
      replace hF := hF.thenDrew.thenO F2 (by first | exact .inr (by omega) | exact .inl rfl | exact .inl (by assumption))
      replace hB := F2.blkO hB (by omega)
      replace hX := F2.blkO hX (by omega)
      replace hP := F2.blkO hP (by omega)
      replace V := V.framB (d := World.drawn _) ho.eo F2 hH0 (by decide) (by omega)
      refine wl_nil (x_then (hK7 _ _ ?_))
      clear hK7 K7
      refine c_seq (fun K8 hK8 => ?_)
      refine c_seq (fun K9 hK9 => ?_)
      refine c_reg ?_ -- region 4 find.go:87
      refine wl (ro_fieldAddr (k := 0) rfl fo_57_0) ?_
      refine wl (ro_loadB rfl sc_53 (hH) (rfl)) ?_
      refine wl (ro_cmp (r := true) rfl rfl (congrArg some ((bnec e3.1 0).trans (decide_eq_true hne)))) ?_
      refine wl_nil (x_then (hK9 _ _ ?_))
      clear hK9 K9
      refine wc_condT rfl ?_
      refine c_seq (fun K10 hK10 => ?_)
      refine c_pi [(0, false), (1, false), (2, false), (3, false), (4, false), (5, false), (6, false)] (SameH _) mixed (by kernel_rfl) rfl (by kernel_rfl) (po_then (po_then (po_bp))) (sameH_now _ _) ?_ -- region 5 find.go:88
      refine pi_ro rfl (fun w hS => ro_fieldAddr (k := 0) rfl fo_57_0) ?_
      refine pi_ro rfl (fun w hS => ro_loadB rfl sc_53 (Blk.of_heap hH hS) (rfl)) ?_
      refine pi_ro rfl (fun w hS => ro_fieldAddr (k := 1) rfl fo_57_1) ?_
      refine pi_ro rfl (fun w hS => ro_loadB rfl sc_3 (Blk.of_heap hH hS) (rfl)) ?_
      refine pi_ro rfl (fun w hS => ro_assign rfl) ?_
      refine pi_ro rfl (fun w hS => ro_assign rfl) ?_
      refine pi_ro rfl (fun w hS => ro_assign rfl) ?_
      refine pi_nil (x_then (hK10 _ _ ?_))
      clear hK10 K10
      refine c_ret (x_thenR ?_)
      refine bp_ret Tryz.results26 rfl ?_
      rw [hR]; exact ⟨rfl, ⟨L, P, sf, pf, hB, hX, hP, hsv, hpv, V.drew.up (by omega), hch, hpk, hpn⟩, hF.thenDrew⟩
    · skip
      rw [lft_hasc hE] at hcal1
      obtain ⟨hw, -, -, -, -⟩ := engT_ok hE
      have hchn := scanAll_chain (s := s) hw 0
      have hln := chain_len _ 0 hchn (by omega)
      have hcm := fun c => cmp_ok (t := t) (s := s) (c := c) t.length 0 [] rfl (by omega) (pcok_nil _)
      simp only [List.drop_zero] at hcm
      generalize hLL : scanAll s r 0 = LL at hchn hln
      refine c_reg ?_ -- region 3 find.go:86
      refine wl (ro_move rfl) ?_
      refine wl (ro_nilCheck rfl) ?_
      refine wl (ro_fieldAddr (k := 0) rfl fo_120_0) ?_
      refine wl (ro_loadB rfl sc_50 (hB) (rfl)) ?_
      refine wl (ro_move rfl) ?_
      refine wl (ro_move rfl) ?_
      refine wl_call rfl en_36 (hcal1) ?_
      rintro _ w3 ⟨rfl, V, F3⟩
      replace hB := F3.blkF hB (fun h => by have := hall _ h; omega)
      replace hX := F3.blkF hX (fun h => by have := hall _ h; omega)
      replace hP := F3.blkF hP (fun h => by have := hall _ h; omega)
      replace hF := hF.transG F3 (fun k _ h ↦ .inr (.inr (.inr h)))
      refine wl_new (ze_57) (fun hb w3 hbhb hH F3 => ?_)
      have hbshb := Nat.le_trans hF.size hbhb
      have hneF.fbhb : F.fb < hb := Nat.lt_of_lt_of_le hB.lt hbhb
      have hneF.xshb : F.xs < hb := Nat.lt_of_lt_of_le hX.lt hbhb
      have hneF.pshb : F.ps < hb := Nat.lt_of_lt_of_le hP.lt hbhb
      replace hF := hF.thenDrew.thenN F3
      replace hB := F3.blkN hB
      replace hX := F3.blkN hX
      replace hP := F3.blkN hP
      replace V := V.framN (d := World.drawn _) F3
      have hH0 := hH
      refine wl_puta rfl rfl ((fdc_cells _ _ _ _)) sz_57 (rfl) hH ((by simp)) (rfl) (fun w4 hH F4 => ?_)
      replace hF := hF.thenDrew.thenO F4 (by first | exact .inr (by omega) | exact .inl rfl | exact .inl (by assumption))
      replace hB := F4.blkO hB (by omega)
      replace hX := F4.blkO hX (by omega)
      replace hP := F4.blkO hP (by omega)
      replace V := V.framB (d := World.drawn _) ho.eo F4 hH0 (by decide) (by omega)
      refine wl_nil (x_then (hK7 _ _ ?_))
      clear hK7 K7
      refine c_seq (fun K11 hK11 => ?_)
      refine c_seq (fun K12 hK12 => ?_)
      refine c_reg ?_ -- region 4 find.go:87
      refine wl (ro_fieldAddr (k := 0) rfl fo_57_0) ?_
      refine wl (ro_loadB rfl sc_53 (hH) (rfl)) ?_
      refine wl (ro_cmp (r := false) rfl rfl rfl) ?_
      refine wl_nil (x_then (hK12 _ _ ?_))
      clear hK12 K12
      refine wc_condF rfl ?_
      refine c_skip (x_then (hK11 _ _ ?_))
      clear hK11 K11
      refine forget [(0, _), (1, _), (2, _), (3, _), (11, _)] ⟨rfl, rfl, rfl, rfl, rfl, trivial⟩ (fun e => ?_)
      refine c_seq (fun K13 hK13 => ?_)
      have hB6 := hB
      have hP6 := hP
      have hcv := (hcm nocaps).1
      refine c_reg ?_ -- region 6 find.go:90
      refine wl (ro_move rfl) ?_
      refine wl (ro_move rfl) ?_
      refine wl_call rfl en_40 (compile40 (t := t) hB hP (by omega) q.2.2) ?_
      rintro v6 w6 ⟨hv6, hB, ⟨pf6, hP, hpv6⟩, hpk6, hpn6, F6⟩
      rw [hcv] at hv6
      replace V : EGV w6 F.E (cn + 400) := by
        obtain ⟨m0, m1, VV⟩ := V
        refine ⟨m0, m1, VV.framS (d := World.drawn _) F6 ?_ ?_⟩
        · rintro b (hb | rfl) h
          · have := hall b hb
            simp only [two] at h
            omega
          · have := ho.eo.nn'
            simp only [two] at h
            omega
        · intro b l hb h
          simp only [two] at h
          rcases h with rfl | rfl
          · exact absurd (hb.uniq hB6).2 (by decide)
          · exact absurd (hb.uniq hP6).2 (by decide)
      replace hX := F6.blkF hX (fun h => by simp only [two] at h; omega)
      replace hH := F6.blkF hH (fun h => by simp only [two] at h; omega)
      replace hF := hF.trans' F6 (fun k _ h ↦ by simp only [two] at h; rcases h with h | h; exact .inl h; exact .inr (.inr (.inl h)))
      generalize hPP : (cmpP t 0 []).1 = PP at hB hpv6 hpk6 hpn6 hcm
      refine wl (ro_assign rfl) ?_
      refine wl_nil (x_then (hK13 _ _ ?_))
      clear hK13 K13
      refine c_seq (fun K14 hK14 => ?_)
      refine c_seq (fun K15 hK15 => ?_)
      rcases hbd : badF t 0 with _ | i7
      · skip
        rw [hbd] at hv6
        obtain rfl : v6 = icv (-1) := hv6
        have hR : repT p s t = (repF s t LL 0, 0, 0) := by unfold repT; rw [if_neg hnl, hE]; simp only; rw [hbd, hLL]
        have hpo := ((hcm nocaps).2 hbd).1
        have hpt : ∀ c, pcsT t s c PP = exF s c t := fun c => by have := ((hcm c).2 hbd).2; rw [this]; rfl
        have hpw : ∀ p ∈ PP, PcW t.length p := fun p hp => by
          rcases hpo.ok p hp with h | h
          · exact .inl h
          · exact .inr ⟨h.1, h.2.1⟩
        have hrl := repF_len (s := s) (t := t) (by omega) (by omega) LL 0
        rw [← filF_rep LL 0 hpt] at hrl
        have hrN : (filF s t PP LL 0).length ≤ 10000000 := by
          have h9 : (LL.length + 1) * 10000 ≤ 258 * 10000 := Nat.mul_le_mul_right _ (by omega)
          omega
        refine c_reg ?_ -- region 7 find.go:91
        refine wl (ro_move rfl) ?_
        refine wl (ro_cmp (r := false) rfl rfl rfl) ?_
        refine wl_nil (x_then (hK15 _ _ ?_))
        clear hK15 K15
        refine wc_condF rfl ?_
        refine c_skip (x_then (hK14 _ _ ?_))
        clear hK14 K14
        refine forget [(0, _), (1, _), (2, _), (3, _), (11, _)] ⟨rfl, rfl, rfl, rfl, rfl, trivial⟩ (fun e => ?_)
        refine c_seq (fun K16 hK16 => ?_)
        have hcal2 := scan39o (pat := p) (s := s) ho hB hX V (by omega) hE
        rw [lft_hasc hE, hLL] at hcal2
        refine c_reg ?_ -- region 9 find.go:94
        refine wl (ro_move rfl) ?_
        refine wl (ro_move rfl) ?_
        refine wl (ro_move rfl) ?_
        refine wl (ro_loadAggB rfl ag_57 (hH) (rfl) (rfl)) ?_
        refine wl_call rfl en_39 (hcal2) ?_
        rintro _ w8 ⟨rfl, hB, ⟨sf8, hX, hsv8⟩, V, F8⟩
        replace hP := F8.blkF hP (fun h => by rcases h with h | h | h; omega; omega; have := hall _ h; omega)
        replace hH := F8.blkF hH (fun h => by rcases h with h | h | h; omega; omega; have := hall _ h; omega)
        replace hF := hF.trans' F8 (fun k _ h ↦ by rcases h with h | h | h; exact .inl h; exact .inr (.inl h); exact .inr (.inr (.inr h)))
        refine wl (ro_move rfl) ?_
        refine wl (ro_extract rfl rfl) ?_
        refine wl (ro_extract rfl rfl) ?_
        refine wl (ro_assign rfl) ?_
        refine wl (ro_assign rfl) ?_
        refine wl_nil (x_then (hK16 _ _ ?_))
        clear hK16 K16
        refine c_seq (fun K17 hK17 => ?_)
        refine c_seq (fun K18 hK18 => ?_)
        refine c_reg ?_ -- region 10 find.go:95
        refine wl (ro_move rfl) ?_
        refine wl (ro_cmp (r := false) rfl rfl rfl) ?_
        refine wl_nil (x_then (hK18 _ _ ?_))
        clear hK18 K18
        refine wc_condF rfl ?_
        refine c_skip (x_then (hK17 _ _ ?_))
        clear hK17 K17
        refine forget [(0, _), (2, _), (3, _)] ⟨rfl, rfl, rfl, trivial⟩ (fun e => ?_)
        refine c_seq (fun K19 hK19 => ?_)
        refine c_reg ?_ -- region 12 find.go:98
        refine wl (ro_move rfl) ?_
        refine wl (ro_move rfl) ?_
        refine wl_call rfl en_41 (size41 hB hX hP hsv8 hpv6 hchn hpw q.2.1 q.2.2 (by omega) hpn6 hrN) ?_
        rintro _ w9 ⟨rfl, F9⟩
        replace V := V.framN (d := World.drawn _) F9
        replace hF := hF.transG F9 (by intro k hk h; simp only [one, two, none'] at h ⊢ <;> omega)
        replace hB := F9.blkF hB (by intro h; simp only [one, two, none'] at h <;> omega)
        replace hX := F9.blkF hX (by intro h; simp only [one, two, none'] at h <;> omega)
        replace hP := F9.blkF hP (by intro h; simp only [one, two, none'] at h <;> omega)
        replace hH := F9.blkF hH (by intro h; simp only [one, two, none'] at h <;> omega)
        refine wl (ro_assign rfl) ?_
        refine wl_nil (x_then (hK19 _ _ ?_))
        clear hK19 K19
        refine forget [(0, _), (2, _), (3, _), (15, _)] ⟨rfl, rfl, rfl, rfl, trivial⟩ (fun e => ?_)
        refine c_seq (fun K20 hK20 => ?_)
        refine c_reg ?_ -- region 13 find.go:99
        refine wl (ro_move rfl) ?_
        refine wl_makeB (len := (filF s t PP LL 0).length) (cap := (filF s t PP LL 0).length) rfl rfl se_126 ze_5 (by simp) (by omega) (by omega) rfl bb_5 (fun bb w10 hbbb hb F10 ↦ ?_)
        replace V := V.framN (d := World.drawn _) F10
        have hl1 := hB.lt
        have hl2 := hX.lt
        have hl3 := hP.lt
        have hl4 := hH.lt
        have hbw : w.heap.size ≤ bb := Nat.le_trans hF.size hbbb
        replace hF := hF.transG F10 (by intro k hk h; simp only [one, two, none'] at h ⊢ <;> omega)
        replace hB := F10.blkF hB (by intro h; simp only [one, two, none'] at h <;> omega)
        replace hX := F10.blkF hX (by intro h; simp only [one, two, none'] at h <;> omega)
        replace hP := F10.blkF hP (by intro h; simp only [one, two, none'] at h <;> omega)
        replace hH := F10.blkF hH (by intro h; simp only [one, two, none'] at h <;> omega)
        rw [Nat.mul_one] at hb
        have hb0 := hb
        refine wl (ro_assign rfl) ?_
        refine wl_nil (x_then (hK20 _ _ ?_))
        clear hK20 K20
        refine forget [(0, _), (2, _), (3, _), (16, _)] ⟨rfl, rfl, rfl, rfl, trivial⟩ (fun e => ?_)
        refine c_seq (fun K21 hK21 => ?_)
        refine c_reg ?_ -- region 14 find.go:100
        refine wl (ro_move rfl) ?_
        refine wl (ro_move rfl) ?_
        refine wl (ro_move rfl) ?_
        refine wl (ro_move rfl) ?_
        refine wl_call rfl en_42 (fill42 hB hX hP hb (by omega) (by omega) (by omega) hsv8 hpv6 hchn hpw q.2.1 q.2.2 (by omega) hpn6 rfl hrN) ?_
        rintro _ w11 ⟨rfl, ⟨bf, hb, hbv⟩, F11⟩
        replace V := V.framB (d := World.drawn _) ho.eo F11 hb0 (by decide) (by omega)
        replace hF := hF.transG F11 (by intro k hk h; simp only [one, two, none'] at h ⊢ <;> omega)
        replace hB := F11.blkF hB (by intro h; simp only [one, two, none'] at h <;> omega)
        replace hX := F11.blkF hX (by intro h; simp only [one, two, none'] at h <;> omega)
        replace hP := F11.blkF hP (by intro h; simp only [one, two, none'] at h <;> omega)
        replace hH := F11.blkF hH (by intro h; simp only [one, two, none'] at h <;> omega)
        refine wl_nil (x_then (hK21 _ _ ?_))
        clear hK21 K21
        refine forget [(16, _)] ⟨rfl, trivial⟩ (fun e => ?_)
        refine c_seq (fun K22 hK22 => ?_)
        refine c_reg ?_ -- region 15 find.go:101
        refine wl (ro_move rfl) ?_
        refine wl (ro_toS (o := filF s t PP LL 0) rfl se_126 under5 st_9 hb rfl (hbv.load (Nat.le_refl _))) ?_
        refine wl (ro_assign rfl) ?_
        refine wl (ro_assign rfl) ?_
        refine wl (ro_assign rfl) ?_
        refine wl_nil (x_then (hK22 _ _ ?_))
        clear hK22 K22
        refine c_ret ?_
        refine bp_ret Tryz.results26 rfl ?_
        rw [hR, filF_rep LL 0 hpt]; exact ⟨rfl, ⟨LL, PP, sf8, pf6, hB, hX, hP, hsv8, hpv6, V.up (by omega), ⟨s.length, by omega, hchn⟩, hpk6, hpn6⟩, hF⟩
      · skip
        rw [hbd] at hv6
        obtain rfl : v6 = i64c i7 := hv6
        have hR : repT p s t = ([], 11, i7) := by unfold repT; rw [if_neg hnl, hE]; simp only; rw [hbd]
        refine c_reg ?_ -- region 7 find.go:91
        refine wl (ro_move rfl) ?_
        refine wl (ro_cmp (r := true) rfl rfl (congrArg some (decide_eq_true (by show ((i7 : Nat) : Int) ≥ 0; omega)))) ?_
        refine wl_nil (x_then (hK15 _ _ ?_))
        clear hK15 K15
        refine wc_condT rfl ?_
        refine c_seq (fun K23 hK23 => ?_)
        refine c_reg ?_ -- region 8 find.go:92
        refine wl (ro_move rfl) ?_
        refine wl (ro_assign rfl) ?_
        refine wl (ro_assign rfl) ?_
        refine wl (ro_assign rfl) ?_
        refine wl_nil (x_then (hK23 _ _ ?_))
        clear hK23 K23
        refine c_ret (x_thenR ?_)
        refine bp_ret Tryz.results26 rfl ?_
        rw [hR]; exact ⟨rfl, ⟨L, PP, sf, pf6, hB, hX, hP, hsv, hpv6, V.up (by omega), hch, hpk6, hpn6⟩, hF⟩

theorem New19 {w : World} {E : EB} (ho : EBo E) (V : EGV w E 0) : Ret Tryz.prog 19 [ptr E.eb] w (fun v w' => ∃ F : FK, F.E = E ∧ v = ptr F.fb ∧ w.heap.size ≤ F.fb ∧ FKo F ∧ FRV w' F 0 ∧ Fram none' w w') := by
  have hF : Fram none' w w := Fram.refl _ _
  have hlt : E.eb < w.heap.size := by obtain ⟨m0, m1, VV⟩ := V; exact VV.blk.lt
  refine ret_of Tryz.func19 rfl Tryz.ntmps19 rfl ?_
  refine c_seq (fun K1 hK1 => ?_)
  refine c_reg ?_ -- region 0 find.go:25
  refine wl (ro_assign rfl) ?_
  refine wl_nil (x_then (hK1 _ _ ?_))
  clear hK1 K1
  refine forget [(0, _)] ⟨rfl, trivial⟩ (fun e => ?_)
  refine c_seq (fun K2 hK2 => ?_)
  refine c_reg ?_ -- region 1 find.go:26
  refine wl (ro_move rfl) ?_
  refine wl (ro_build rfl bld_120_0) ?_
  refine wl_box (cs := [ptr E.eb, .slice none 0 0, icv 0, .slice none 0 0, icv 0]) rfl rfl (fun fb w1 hbfb hB F1 => ?_)
  have hbsfb := Nat.le_trans hF.size hbfb
  replace hF := hF.thenDrew.thenN F1
  replace V := V.framN (d := World.drawn _) F1
  refine wl (ro_assign rfl) ?_
  refine wl_nil (x_then (hK2 _ _ ?_))
  clear hK2 K2
  refine forget [(3, _)] ⟨rfl, trivial⟩ (fun e => ?_)
  refine c_seq (fun K3 hK3 => ?_)
  refine c_reg ?_ -- region 2 find.go:27
  refine wl (ro_move rfl) ?_
  refine wl_make (len := 257) (cap := 257) rfl rfl se_27 ze_55 (by simp) (by omega) (by omega) rfl bb_55 (fun xs w2 hbxs hX F2 => ?_)
  have hbsxs := Nat.le_trans hF.size hbxs
  have hnefbxs : fb < xs := Nat.lt_of_lt_of_le hB.lt hbxs
  replace hF := hF.thenDrew.thenN F2
  replace hB := F2.blkN hB
  replace V := V.framN (d := World.drawn _) F2
  have hB1 := hB
  refine wl (ro_nilCheck rfl) ?_
  refine wl (ro_fieldAddr (k := 1) rfl fo_120_1) ?_
  refine wl_put rfl rfl rfl sz_27 hB ((by simp)) (rfl) (fun w3 hB F3 => ?_)
  replace hF := hF.thenDrew.thenO F3 (by first | exact .inr (by omega) | exact .inl rfl | exact .inl (by assumption))
  replace hX := F3.blkO hX (by omega)
  replace V := V.framB (d := World.drawn _) ho F3 hB1 (by decide) (by omega)
  refine wl_nil (x_then (hK3 _ _ ?_))
  clear hK3 K3
  refine forget [(3, _)] ⟨rfl, trivial⟩ (fun e => ?_)
  refine c_seq (fun K4 hK4 => ?_)
  refine c_reg ?_ -- region 3 find.go:28
  refine wl (ro_move rfl) ?_
  refine wl_make (len := 32) (cap := 32) rfl rfl se_118 ze_146 (by simp) (by omega) (by omega) rfl bb_146 (fun ps w4 hbps hP F4 => ?_)
  have hbsps := Nat.le_trans hF.size hbps
  have hnefbps : fb < ps := Nat.lt_of_lt_of_le hB.lt hbps
  have hnexsps : xs < ps := Nat.lt_of_lt_of_le hX.lt hbps
  replace hF := hF.thenDrew.thenN F4
  replace hB := F4.blkN hB
  replace hX := F4.blkN hX
  replace V := V.framN (d := World.drawn _) F4
  have hB1 := hB
  refine wl (ro_nilCheck rfl) ?_
  refine wl (ro_fieldAddr (k := 3) rfl fo_120_3) ?_
  refine wl_put rfl rfl rfl sz_118 hB ((by simp)) (rfl) (fun w5 hB F5 => ?_)
  replace hF := hF.thenDrew.thenO F5 (by first | exact .inr (by omega) | exact .inl rfl | exact .inl (by assumption))
  replace hX := F5.blkO hX (by omega)
  replace hP := F5.blkO hP (by omega)
  replace V := V.framB (d := World.drawn _) ho F5 hB1 (by decide) (by omega)
  refine wl_nil (x_then (hK4 _ _ ?_))
  clear hK4 K4
  refine forget [(3, _)] ⟨rfl, trivial⟩ (fun e => ?_)
  refine c_seq (fun K5 hK5 => ?_)
  refine c_reg ?_ -- region 4 find.go:29
  refine wl (ro_move rfl) ?_
  refine wl (ro_assign rfl) ?_
  refine wl_nil (x_then (hK5 _ _ ?_))
  clear hK5 K5
  refine c_ret ?_
  refine bp_ret Tryz.results19 rfl ?_
  exact ⟨⟨fb, xs, ps, E⟩, rfl, rfl, hbfb, ⟨ho, by show E.eb < fb; omega, by show fb < xs; omega, by show xs < ps; omega⟩, ⟨[], [], _, _, hB, hX, hP, SpV.nil _, PcV.nil _, V, ⟨0, by omega, trivial⟩, PcF.nil, by simp⟩, hF⟩

theorem New6 {w : World} : Ret Tryz.prog 6 [] w (fun v w' => ∃ F : FK, v = ptr F.fb ∧ w.heap.size ≤ F.E.B.xb ∧ FKo F ∧ FRV w' F 0 ∧ Fram none' w w') := by
  have hF : Fram none' w w := Fram.refl _ _
  refine ret_of Tryz.func6 rfl Tryz.ntmps6 rfl ?_
  refine c_seq (fun K1 hK1 => ?_)
  refine c_reg ?_ -- region 0 tower.go:14
  refine wl (ro_assign rfl) ?_
  refine wl_nil (x_then (hK1 _ _ ?_))
  clear hK1 K1
  refine forget [] trivial (fun e => ?_)
  refine c_seq (fun K2 hK2 => ?_)
  refine c_reg ?_ -- region 1 tower.go:15
  refine wl_call rfl en_14 (New14) ?_
  rintro _ w1 ⟨xb, fx, rfl, hxb, hX, F1⟩
  replace hF := hF.trans F1
  refine wl (ro_assign rfl) ?_
  refine wl_nil (x_then (hK2 _ _ ?_))
  clear hK2 K2
  refine forget [(1, _)] ⟨rfl, trivial⟩ (fun e => ?_)
  refine c_seq (fun K3 hK3 => ?_)
  refine c_reg ?_ -- region 2 tower.go:16
  refine wl (ro_move rfl) ?_
  refine wl_call rfl en_15 (New15 hX) ?_
  rintro _ w2 ⟨B, rfl, hBx, hsb, D, V2, F2⟩
  replace hF := hF.trans F2
  have hrb : B.rb < w2.heap.size := by obtain ⟨no, nw, nr, fo, fw, fr, fh, fz, fx, hB, hO, hK, hR, hH, hZ, hP⟩ := V2; exact hR.lt
  refine wl (ro_assign rfl) ?_
  refine wl_nil (x_then (hK3 _ _ ?_))
  clear hK3 K3
  refine forget [(2, _)] ⟨rfl, trivial⟩ (fun e => ?_)
  refine c_seq (fun K4 hK4 => ?_)
  refine c_reg ?_ -- region 3 tower.go:17
  refine wl_call rfl en_16 (New16) ?_
  rintro _ w3 ⟨P, rfl, hpb, hPo, V3, F3⟩
  replace hF := hF.trans F3
  replace V2 := V2.framN F3
  have hnn : P.nn < w3.heap.size := by obtain ⟨f, h, h2, sf, reg, best, z, hB, hC, hO, hK, hR, hE, hN, hA, hr8, hb8⟩ := V3; exact hN.lt
  refine wl (ro_assign rfl) ?_
  refine wl_nil (x_then (hK4 _ _ ?_))
  clear hK4 K4
  refine forget [(2, _), (3, _)] ⟨rfl, rfl, trivial⟩ (fun e => ?_)
  refine c_seq (fun K5 hK5 => ?_)
  refine c_reg ?_ -- region 4 tower.go:18
  refine wl_call rfl en_17 (New17) ?_
  rintro _ w4 ⟨Dd, rfl, hdb, hDo, V4, F4⟩
  replace hF := hF.trans F4
  replace V2 := V2.framN F4
  replace V3 := V3.fram (d := World.drawn _) F4 (fun _ _ h ↦ h)
  have hsk : Dd.sk < w4.heap.size := by obtain ⟨kv, N, g, hB, hN, ⟨gs, hK⟩, -⟩ := V4; exact hK.lt
  refine wl (ro_assign rfl) ?_
  refine wl_nil (x_then (hK5 _ _ ?_))
  clear hK5 K5
  refine forget [(2, _), (3, _), (4, _)] ⟨rfl, rfl, rfl, trivial⟩ (fun e => ?_)
  refine c_seq (fun K6 hK6 => ?_)
  refine c_reg ?_ -- region 5 tower.go:19
  refine wl (ro_move rfl) ?_
  refine wl (ro_move rfl) ?_
  refine wl (ro_move rfl) ?_
  refine wl_call rfl en_18 (New18 V2 V3 V4) ?_
  rintro _ w5 ⟨eb, rfl, heb, V5, F5⟩
  replace hF := hF.trans F5
  have ho : EBo ⟨eb, B, P, Dd⟩ := ⟨D, by show B.rb < P.pb; omega, hPo, by show P.nn < Dd.db; omega, hDo, by show Dd.sk < eb; omega⟩
  refine wl (ro_assign rfl) ?_
  refine wl_nil (x_then (hK6 _ _ ?_))
  clear hK6 K6
  refine forget [(5, _)] ⟨rfl, trivial⟩ (fun e => ?_)
  refine c_seq (fun K7 hK7 => ?_)
  refine c_reg ?_ -- region 6 tower.go:20
  refine wl (ro_move rfl) ?_
  refine wl_call rfl en_19 (New19 (E := ⟨eb, B, P, Dd⟩) ho V5) ?_
  rintro _ w6 ⟨F, hFE, rfl, hfb, hFo, V6, F6⟩
  replace hF := hF.trans F6
  refine wl (ro_assign rfl) ?_
  refine wl_nil (x_then (hK7 _ _ ?_))
  clear hK7 K7
  refine c_ret ?_
  refine bp_ret Tryz.results6 rfl ?_
  exact ⟨F, rfl, by rw [hFE]; show w.heap.size ≤ B.xb; omega, hFo, V6, hF⟩

end Go.Proofs.Qxb6500567aGreat
