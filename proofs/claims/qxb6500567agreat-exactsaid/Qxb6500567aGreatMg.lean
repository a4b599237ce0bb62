import Derived.Test.Qxb6500567aGreatMf
/- The finder: FindAll. -/
namespace Go.Proofs.Qxb6500567aGreat
set_option linter.unusedVariables false
set_option linter.unusedSimpArgs false

theorem Own.made {H : Array Obj} {b et k n : Nat} {l xs : List Value} (hB : Blk H b l et) (hl : l = xs) (hx : xs.length = n * k) (hn : n ≤ 9223372036854775807) : Own H (sl b n) et k n xs := by
  subst hl
  exact ⟨hx, .inr ⟨b, n, l, rfl, hB, Nat.le_refl _, hn, hx, by rw [List.take_of_length_le (by omega)]⟩⟩

/-- What the real FindAll answers: the list is made for it alone. -/
def FaX (w w' : World) (p s : List UInt8) (v : Value) : Prop := ∃ (V : Value) (e q : Nat), v = .tuple #[V, i64c e, i64c q] ∧ match engT p s with
  | .error er => V = .slice none 0 0 ∧ e = er.1 ∧ q = er.2
  | .ok r => e = 0 ∧ q = 0 ∧ ∃ ob, V = sl ob (scanAll s r 0).length ∧ w.heap.size ≤ ob ∧ Blk w'.heap ob (rws capc (scanAll s r 0)) 55

theorem CL.made {w : World} {ob lo : Nat} {L : List (List Int)} (h : Blk w.heap ob (rws capc L) 55) (hl : L.length ≤ 1000000) (hlo : lo ≤ ob) : CL w (sl ob L.length) L lo w.heap.size :=
  ⟨Own.made h rfl (by rw [rws_len capc_len]) (by omega), fun b hb => by cases hb; exact hlo, fun b hb => by cases hb; exact h.lt⟩
theorem TL.made {w : World} {ob lo : Nat} {L : List (List UInt8)} (h : Blk w.heap ob (rws (fun t => [S t]) L) 9) (hl : L.length ≤ 1000000) (hlo : lo ≤ ob) : TL w (sl ob L.length) L lo w.heap.size :=
  ⟨Own.made h rfl (by rw [rws_len (k := 1) (fun _ => rfl)]) (by omega), fun b hb => by cases hb; exact hlo, fun b hb => by cases hb; exact h.lt⟩

set_option maxHeartbeats 8000000 in
theorem FindAll23 {w : World} {F : FK} {cn : Nat} {p s : List UInt8} (ho : FKo F) (V : FRV w F cn) (hcn : cn ≤ 50000000000000000) (hpm : p.length ≤ 9223372036854775807) (hsm : s.length ≤ 9223372036854775807) :
    Ret Tryz.prog 23 [ptr F.fb, S p, S s] w (fun v w' => FaX w w' p s v ∧ FRV w' F (cn + 300000) ∧ Fram (kset F) w w') := by
  have hF : Fram (kset F) w w := Fram.refl _ _
  obtain ⟨L, P, sf, pf, hB, hX, hP, hsv, hpv, V, hch, hpk, hpn⟩ := V
  have oef := ho.ef
  have ofx := ho.fx
  have oxp := ho.xp
  have hall : ∀ k, eset F.E k → k ≤ F.E.eb := fun k hk => ho.eo.all hk
  have bp := hP.lt
  refine ret_of Tryz.func23 rfl Tryz.ntmps23 rfl ?_
  refine c_seq (fun K1 hK1 => ?_)
  refine c_reg ?_ -- region 0 find.go:45
  refine wl (ro_assign rfl) ?_
  refine wl (ro_assign rfl) ?_
  refine wl (ro_assign rfl) ?_
  refine wl_nil (x_then (hK1 _ _ ?_))
  clear hK1 K1
  refine c_seq (fun K2 hK2 => ?_)
  refine c_seq (fun K3 hK3 => ?_)
  have hql : 128 < p.length ∨ (p.length ≤ 128 ∧ 256 < s.length) ∨ (p.length ≤ 128 ∧ s.length ≤ 256) := by omega
  rcases hql with q | q | q
  · skip
    have hE := engT_long (p := p) (s := s) (by omega)
    refine c_reg ?_ -- region 1 find.go:46
    refine wl (ro_move rfl) ?_
    refine wl (ro_lenS rfl st_9) ?_
    refine wl (ro_cmp (r := true) rfl rfl (congrArg some (decide_eq_true (by omega)))) ?_
    refine wl (ro_move rfl) ?_
    refine wlg_no rfl ?_
    refine wlg_no rfl ?_
    refine wlg_no rfl ?_
    refine wl (ro_pick rfl rfl rfl) ?_
    refine wl_nil (x_then (hK3 _ _ ?_))
    clear hK3 K3
    refine wc_condT rfl ?_
    refine c_seq (fun K4 hK4 => ?_)
    refine c_reg ?_ -- region 2 find.go:47
    refine wl (ro_assign rfl) ?_
    refine wl (ro_assign rfl) ?_
    refine wl (ro_assign rfl) ?_
    refine wl_nil (x_then (hK4 _ _ ?_))
    clear hK4 K4
    refine c_ret (x_thenR ?_)
    refine bp_ret Tryz.results23 rfl ?_
    exact ⟨⟨_, 12, 0, rfl, by rw [hE]; exact ⟨rfl, rfl, rfl⟩⟩, ⟨L, P, sf, pf, hB, hX, hP, hsv, hpv, V.up (by omega), hch, hpk, hpn⟩, hF⟩
  · skip
    have hE := engT_long (p := p) (s := s) (by omega)
    refine c_reg ?_ -- region 1 find.go:46
    refine wl (ro_move rfl) ?_
    refine wl (ro_lenS rfl st_9) ?_
    refine wl (ro_cmp (r := false) rfl rfl (congrArg some (decide_eq_false (by omega)))) ?_
    refine wl (ro_move rfl) ?_
    refine wlg_yes rfl (ro_move rfl) ?_
    refine wlg_yes rfl (ro_lenS rfl st_9) ?_
    refine wlg_yes rfl (ro_cmp (r := true) rfl rfl (congrArg some (decide_eq_true (by omega)))) ?_
    refine wl (ro_pick rfl rfl rfl) ?_
    refine wl_nil (x_then (hK3 _ _ ?_))
    clear hK3 K3
    refine wc_condT rfl ?_
    refine c_seq (fun K5 hK5 => ?_)
    refine c_reg ?_ -- region 2 find.go:47
    refine wl (ro_assign rfl) ?_
    refine wl (ro_assign rfl) ?_
    refine wl (ro_assign rfl) ?_
    refine wl_nil (x_then (hK5 _ _ ?_))
    clear hK5 K5
    refine c_ret (x_thenR ?_)
    refine bp_ret Tryz.results23 rfl ?_
    exact ⟨⟨_, 12, 0, rfl, by rw [hE]; exact ⟨rfl, rfl, rfl⟩⟩, ⟨L, P, sf, pf, hB, hX, hP, hsv, hpv, V.up (by omega), hch, hpk, hpn⟩, hF⟩
  · skip
    refine c_reg ?_ -- region 1 find.go:46
    refine wl (ro_move rfl) ?_
    refine wl (ro_lenS rfl st_9) ?_
    refine wl (ro_cmp (r := false) rfl rfl (congrArg some (decide_eq_false (by omega)))) ?_
    refine wl (ro_move rfl) ?_
    refine wlg_yes rfl (ro_move rfl) ?_
    refine wlg_yes rfl (ro_lenS rfl st_9) ?_
    refine wlg_yes rfl (ro_cmp (r := false) rfl rfl (congrArg some (decide_eq_false (by omega)))) ?_
    refine wl (ro_pick rfl rfl rfl) ?_
    refine wl_nil (x_then (hK3 _ _ ?_))
    clear hK3 K3
    refine wc_condF rfl ?_
    refine c_skip (x_then (hK2 _ _ ?_))
    clear hK2 K2
    refine forget [(0, _), (1, _), (2, _)] ⟨rfl, rfl, rfl, trivial⟩ (fun e => ?_)
    refine c_seq (fun K6 hK6 => ?_)
    have hcal1 := Has36 (pat := p) (s := s) (i := 0) ho.eo V (by omega) (by omega) hpm hsm
    rcases hE : engT p s with e3 | r
    · skip
      have hne := engT_er hE
      rw [hasc_er hE] at hcal1
      refine c_reg ?_ -- region 3 find.go:49
      refine wl (ro_move rfl) ?_
      refine wl (ro_nilCheck rfl) ?_
      refine wl (ro_fieldAddr (k := 0) rfl fo_120_0) ?_
      refine wl (ro_loadB rfl sc_50 (hB) (rfl)) ?_
      refine wl (ro_move rfl) ?_
      refine wl (ro_move rfl) ?_
      refine wl_call rfl en_36 (hcal1) ?_
      rintro _ w3 ⟨rfl, V, F3⟩
      have hs3 := F3.size
      replace hB := F3.blkF hB (fun h => by have := hall _ h; omega)
      replace hX := F3.blkF hX (fun h => by have := hall _ h; omega)
      replace hP := F3.blkF hP (fun h => by have := hall _ h; omega)
      replace hF := hF.transG F3 (fun k _ h ↦ .inr (.inr (.inr h)))
      refine wl_new (ze_57) (fun hb w1 hbhb hH F1 => ?_)
      have hbshb := Nat.le_trans hF.size hbhb
      have hneF.fbhb : F.fb < hb := Nat.lt_of_lt_of_le hB.lt hbhb
      have hneF.xshb : F.xs < hb := Nat.lt_of_lt_of_le hX.lt hbhb
      have hneF.pshb : F.ps < hb := Nat.lt_of_lt_of_le hP.lt hbhb
      replace hF := hF.thenDrew.thenN F1
      replace hB := F1.blkN hB
      replace hX := F1.blkN hX
      replace hP := F1.blkN hP
      replace V := V.framN (d := World.drawn _) F1
      have hH0 := hH
      refine wl_puta rfl rfl ((fdc_cells _ _ _ _)) sz_57 (rfl) hH ((by simp)) (rfl) (fun w2 hH F2 => ?_)
      replace hF := hF.thenDrew.thenO F2 (by first | exact .inr (by omega) | exact .inl rfl | exact .inl (by assumption))
      replace hB := F2.blkO hB (by omega)
      replace hX := F2.blkO hX (by omega)
      replace hP := F2.blkO hP (by omega)
      replace V := V.framB (d := World.drawn _) ho.eo F2 hH0 (by decide) (by omega)
      refine wl_nil (x_then (hK6 _ _ ?_))
      clear hK6 K6
      refine forget [(0, _), (1, _), (2, _), (9, _)] ⟨rfl, rfl, rfl, rfl, trivial⟩ (fun e => ?_)
      refine c_seq (fun K7 hK7 => ?_)
      have hcal2 := scan39e (sf := sf) (pat := p) (s := s) (b := false) (c := nocaps) (q := e3.2) ho hB V hne
      refine c_reg ?_ -- region 4 find.go:50
      refine wl (ro_move rfl) ?_
      refine wl (ro_move rfl) ?_
      refine wl (ro_move rfl) ?_
      refine wl (ro_loadAggB rfl ag_57 (hH) (rfl) (rfl)) ?_
      refine wl_call rfl en_39 (hcal2) ?_
      rintro _ w4 ⟨rfl, hB, V, F4⟩
      replace hX := F4.blkF hX (by intro h; simp only [one, two, none'] at h <;> omega)
      replace hP := F4.blkF hP (by intro h; simp only [one, two, none'] at h <;> omega)
      replace hH := F4.blkF hH (by intro h; simp only [one, two, none'] at h <;> omega)
      replace hF := hF.trans' F4 (fun k _ h ↦ .inl h)
      refine wl (ro_move rfl) ?_
      refine wl (ro_extract rfl rfl) ?_
      refine wl (ro_extract rfl rfl) ?_
      refine wl (ro_assign rfl) ?_
      refine wl (ro_assign rfl) ?_
      refine wl_nil (x_then (hK7 _ _ ?_))
      clear hK7 K7
      refine c_seq (fun K8 hK8 => ?_)
      refine c_seq (fun K9 hK9 => ?_)
      refine c_reg ?_ -- region 5 find.go:51
      refine wl (ro_move rfl) ?_
      refine wl (ro_cmp (r := true) rfl rfl (congrArg some ((bnec e3.1 0).trans (decide_eq_true hne)))) ?_
      refine wl_nil (x_then (hK9 _ _ ?_))
      clear hK9 K9
      refine wc_condT rfl ?_
      refine c_seq (fun K10 hK10 => ?_)
      refine c_reg ?_ -- region 6 find.go:52
      refine wl (ro_move rfl) ?_
      refine wl (ro_move rfl) ?_
      refine wl (ro_assign rfl) ?_
      refine wl (ro_assign rfl) ?_
      refine wl (ro_assign rfl) ?_
      refine wl_nil (x_then (hK10 _ _ ?_))
      clear hK10 K10
      refine c_ret (x_thenR ?_)
      refine bp_ret Tryz.results23 rfl ?_
      exact ⟨⟨_, e3.1, e3.2, rfl, by rw [hE]; exact ⟨rfl, rfl, rfl⟩⟩, ⟨[], P, sf, pf, hB, hX, hP, SpV.nil _, hpv, V.up (by omega), ⟨0, by omega, trivial⟩, hpk, hpn⟩, hF⟩
    · skip
      rw [lft_hasc hE] at hcal1
      obtain ⟨hw, -, -, -, -⟩ := engT_ok hE
      have hchn := scanAll_chain (s := s) hw 0
      have hln := chain_len _ 0 hchn (by omega)
      generalize hLL : scanAll s r 0 = LL at hchn hln
      refine c_reg ?_ -- region 3 find.go:49
      refine wl (ro_move rfl) ?_
      refine wl (ro_nilCheck rfl) ?_
      refine wl (ro_fieldAddr (k := 0) rfl fo_120_0) ?_
      refine wl (ro_loadB rfl sc_50 (hB) (rfl)) ?_
      refine wl (ro_move rfl) ?_
      refine wl (ro_move rfl) ?_
      refine wl_call rfl en_36 (hcal1) ?_
      rintro _ w3 ⟨rfl, V, F3⟩
      have hs3 := F3.size
      replace hB := F3.blkF hB (fun h => by have := hall _ h; omega)
      replace hX := F3.blkF hX (fun h => by have := hall _ h; omega)
      replace hP := F3.blkF hP (fun h => by have := hall _ h; omega)
      replace hF := hF.transG F3 (fun k _ h ↦ .inr (.inr (.inr h)))
      refine wl_new (ze_57) (fun hb w3 hbhb hH F3 => ?_)
      have hbshb := Nat.le_trans hF.size hbhb
      have hneF.fbhb : F.fb < hb := Nat.lt_of_lt_of_le hB.lt hbhb
      have hneF.xshb : F.xs < hb := Nat.lt_of_lt_of_le hX.lt hbhb
      have hneF.pshb : F.ps < hb := Nat.lt_of_lt_of_le hP.lt hbhb
      replace hF := hF.thenDrew.thenN F3
      replace hB := F3.blkN hB
      replace hX := F3.blkN hX
      replace hP := F3.blkN hP
      replace V := V.framN (d := World.drawn _) F3
      have hH0 := hH
      refine wl_puta rfl rfl ((fdc_cells _ _ _ _)) sz_57 (rfl) hH ((by simp)) (rfl) (fun w4 hH F4 => ?_)
      replace hF := hF.thenDrew.thenO F4 (by first | exact .inr (by omega) | exact .inl rfl | exact .inl (by assumption))
      replace hB := F4.blkO hB (by omega)
      replace hX := F4.blkO hX (by omega)
      replace hP := F4.blkO hP (by omega)
      replace V := V.framB (d := World.drawn _) ho.eo F4 hH0 (by decide) (by omega)
      refine wl_nil (x_then (hK6 _ _ ?_))
      clear hK6 K6
      refine forget [(0, _), (1, _), (2, _), (9, _)] ⟨rfl, rfl, rfl, rfl, trivial⟩ (fun e => ?_)
      refine c_seq (fun K11 hK11 => ?_)
      have hcal2 := scan39o (pat := p) (s := s) ho hB hX V (by omega) hE
      rw [lft_hasc hE, hLL] at hcal2
      refine c_reg ?_ -- region 4 find.go:50
      refine wl (ro_move rfl) ?_
      refine wl (ro_move rfl) ?_
      refine wl (ro_move rfl) ?_
      refine wl (ro_loadAggB rfl ag_57 (hH) (rfl) (rfl)) ?_
      refine wl_call rfl en_39 (hcal2) ?_
      rintro _ w4 ⟨rfl, hB, ⟨sf4, hX, hsv4⟩, V, F4⟩
      replace hP := F4.blkF hP (fun h => by rcases h with h | h | h; omega; omega; have := hall _ h; omega)
      replace hH := F4.blkF hH (fun h => by rcases h with h | h | h; omega; omega; have := hall _ h; omega)
      replace hF := hF.trans' F4 (fun k _ h ↦ by rcases h with h | h | h; exact .inl h; exact .inr (.inl h); exact .inr (.inr (.inr h)))
      refine wl (ro_move rfl) ?_
      refine wl (ro_extract rfl rfl) ?_
      refine wl (ro_extract rfl rfl) ?_
      refine wl (ro_assign rfl) ?_
      refine wl (ro_assign rfl) ?_
      refine wl_nil (x_then (hK11 _ _ ?_))
      clear hK11 K11
      refine c_seq (fun K12 hK12 => ?_)
      refine c_seq (fun K13 hK13 => ?_)
      refine c_reg ?_ -- region 5 find.go:51
      refine wl (ro_move rfl) ?_
      refine wl (ro_cmp (r := false) rfl rfl rfl) ?_
      refine wl_nil (x_then (hK13 _ _ ?_))
      clear hK13 K13
      refine wc_condF rfl ?_
      refine c_skip (x_then (hK12 _ _ ?_))
      clear hK12 K12
      refine forget [(0, _)] ⟨rfl, trivial⟩ (fun e => ?_)
      refine c_seq (fun K14 hK14 => ?_)
      refine c_reg ?_ -- region 7 find.go:54
      refine wl (ro_move rfl) ?_
      refine wl (ro_nilCheck rfl) ?_
      refine wl (ro_fieldAddr (k := 2) rfl fo_120_2) ?_
      refine wl (ro_loadB rfl sc_3 (hB) (rfl)) ?_
      refine wl_make (len := LL.length) (cap := LL.length) rfl rfl se_27 ze_55 (by simp) (by omega) (by omega) rfl bb_55 (fun ob w5 hbob hO F5 => ?_)
      have hbsob := Nat.le_trans hF.size hbob
      have hneFfbob : F.fb < ob := Nat.lt_of_lt_of_le hB.lt hbob
      have hneFxsob : F.xs < ob := Nat.lt_of_lt_of_le hX.lt hbob
      have hneFpsob : F.ps < ob := Nat.lt_of_lt_of_le hP.lt hbob
      have hnehbob : hb < ob := Nat.lt_of_lt_of_le hH.lt hbob
      replace hF := hF.thenDrew.thenN F5
      replace hB := F5.blkN hB
      replace hX := F5.blkN hX
      replace hP := F5.blkN hP
      replace hH := F5.blkN hH
      replace V := V.framN (d := World.drawn _) F5
      have hobw : w.heap.size ≤ ob := hbsob
      refine wl (ro_assign rfl) ?_
      refine wl_nil (x_then (hK14 _ _ ?_))
      clear hK14 K14
      refine c_seq (fun K15 hK15 => ?_)
      refine c_seq (fun K16 hK16 => ?_)
      refine c_reg ?_ -- region 8 find.go:55
      refine wl (ro_assign rfl) ?_
      refine wl_nil (x_then (hK16 _ _ ?_))
      clear hK16 K16
      refine c_block ?_
      -- loop@r9: live slots [0, 12, 13]
      refine c_loopG (fun m a' w' => ∃ (k : Nat) (g : Nat → Value), m = LL.length - k ∧ k ≤ LL.length ∧ SpV g (LL.take k) ∧ Blk w'.heap F.fb (fcl F LL.length P.length) 120 ∧ FB w'.heap F.xs 2056 sf4 55 ∧ FB w'.heap F.ps 96 pf 146 ∧ FB w'.heap ob (LL.length * 8) g 55 ∧ EGV w' F.E (cn + 400 + 200000) ∧ Fram (kset F) w w' ∧ ∃ e, a' = Fr 65 (upds e [(0, ptr F.fb), (12, sl ob LL.length), (13, i64c k)]) []) LL.length ⟨0, _, rfl, by omega, SpV.nil _, hB, hX, hP, hO, V, hF, kp _ ⟨rfl, rfl, rfl, trivial⟩⟩ ?_
      clear hB hX hP hO V hF
      rintro m a' w5 ⟨k, g, rfl, hk, hg, hB, hX, hP, hO, V, hF, e, rfl⟩
      have hO0 := hO
      refine c_seq (fun K17 hK17 => ?_)
      refine c_seq (fun K18 hK18 => ?_)
      refine c_reg ?_ -- region 9 find.go:55
      refine wl (ro_move rfl) ?_
      refine wl (ro_move rfl) ?_
      refine wl (ro_nilCheck rfl) ?_
      refine wl (ro_fieldAddr (k := 2) rfl fo_120_2) ?_
      refine wl (ro_loadB rfl sc_3 (hB) (rfl)) ?_
      refine wl (ro_cmp (r := decide (k < LL.length)) rfl rfl (congrArg some (decide_eq_decide.2 (by omega)))) ?_
      refine wl_nil (x_then (hK18 _ _ ?_))
      clear hK18 K18
      refine wc_cond rfl (fun hc51 => ?_) (fun hc51 => ?_)
      · try simp only [decide_eq_true_eq, decide_eq_false_iff_not, Bool.not_eq_true', Bool.not_eq_false', Bool.not_eq_eq_eq_not, Bool.not_true, Bool.not_false, beq_iff_eq, bne_iff_ne, ne_eq, beq_eq_false_iff_ne, bne_eq_false_iff_eq, gt_iff_lt, ge_iff_le, Int.not_lt, Int.not_le] at hc51
        obtain ⟨c, hc⟩ : ∃ c, LL[k]? = some c := ⟨_, List.getElem?_eq_getElem hc51⟩
        have hrow := hsv4.row hc (by omega)
        have htk : (LL.take k).length = k := by rw [List.length_take]; omega
        refine c_skip (x_then (hK17 _ _ ?_))
        clear hK17 K17
        refine forget [(0, _), (12, _), (13, _)] ⟨rfl, rfl, rfl, trivial⟩ (fun e => ?_)
        refine c_seq (fun K19 hK19 => ?_)
        refine c_block ?_
        refine c_reg ?_ -- region 11 find.go:56
        refine wl (ro_move rfl) ?_
        refine wl (ro_move rfl) ?_
        refine wl (ro_move rfl) ?_
        refine wl (ro_nilCheck rfl) ?_
        refine wl (ro_fieldAddr (k := 1) rfl fo_120_1) ?_
        refine wl (ro_loadB rfl sc_27 (hB) (rfl)) ?_
        refine wl (ro_move rfl) ?_
        refine wl (ro_indexAddr (et := 55) (k := 8) rfl rfl se_27 (rfl) ((by omega : k < 257))) ?_
        refine wl (ro_loadAggB rfl ag_55 (hX) (rfl) (hrow)) ?_
        refine wl (ro_indexAddr (et := 55) (k := 8) rfl rfl se_27 (rfl) (hc51)) ?_
        refine wl_puta rfl rfl ((capc_cells c)) sz_55 (rfl) hO ((by rw [cel_len]; show _ + 8 ≤ _; omega)) ((cel_puts ((LL.take k).length * 8) (by omega) rfl (by show _ + 8 ≤ _; omega))) (fun w6 hO F6 => ?_)
        replace hF := hF.thenDrew.thenO F6 (by first | exact .inr (by omega) | exact .inl rfl | exact .inl (by assumption))
        replace hB := F6.blkO hB (by omega)
        replace hX := F6.blkO hX (by omega)
        replace hP := F6.blkO hP (by omega)
        replace V := V.framB (d := World.drawn _) ho.eo F6 hO0 (by decide) (by omega)
        refine wl_nil (x_blk (x_then (hK19 _ _ ?_)))
        clear hK19 K19
        refine c_reg ?_ -- region 10 find.go:55
        refine wl (ro_move rfl) ?_
        refine wl (ro_arith rfl rfl rfl (Go.IntWalk.i64_in _ (by omega))) ?_
        refine wl (ro_assign rfl) ?_
        refine wl_nil (x_then ?_)
        exact ⟨LL.length - (k + 1), by omega, k + 1, _, rfl, by omega, by rw [take_snoc hc]; exact hg.app c, hB, hX, hP, hO, V, hF, kp _ ⟨rfl, rfl, rfl, trivial⟩⟩
      · try simp only [decide_eq_true_eq, decide_eq_false_iff_not, Bool.not_eq_true', Bool.not_eq_false', Bool.not_eq_eq_eq_not, Bool.not_true, Bool.not_false, beq_iff_eq, bne_iff_ne, ne_eq, beq_eq_false_iff_ne, bne_eq_false_iff_eq, gt_iff_lt, ge_iff_le, Int.not_lt, Int.not_le] at hc51
        refine c_exit (x_thenX (x_thenX (x_blkX (x_then (hK15 _ _ ?_)))))
        clear hK17 K17 hK15 K15
        refine forget [(12, _)] ⟨rfl, trivial⟩ (fun e => ?_)
        refine c_seq (fun K20 hK20 => ?_)
        refine c_reg ?_ -- region 12 find.go:58
        refine wl (ro_move rfl) ?_
        refine wl (ro_assign rfl) ?_
        refine wl (ro_assign rfl) ?_
        refine wl (ro_assign rfl) ?_
        refine wl_nil (x_then (hK20 _ _ ?_))
        clear hK20 K20
        refine c_ret ?_
        refine bp_ret Tryz.results23 rfl ?_
        rw [List.take_of_length_le (by omega)] at hg
        exact ⟨⟨_, 0, 0, rfl, by rw [hE]; exact ⟨rfl, rfl, by rw [hLL]; exact ⟨ob, rfl, hobw, by rw [← hg.rows]; exact hO⟩⟩⟩, ⟨LL, P, sf4, pf, hB, hX, hP, hsv4, hpv, V.up (by omega), ⟨s.length, by omega, hchn⟩, hpk, hpn⟩, hF⟩

end Go.Proofs.Qxb6500567aGreat
