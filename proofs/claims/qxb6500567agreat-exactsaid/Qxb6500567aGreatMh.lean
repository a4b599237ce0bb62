import Derived.Test.Qxb6500567aGreatMg
/- The finder: Split. -/
namespace Go.Proofs.Qxb6500567aGreat
set_option linter.unusedVariables false
set_option linter.unusedSimpArgs false

/-- Texts in cells. -/
def TxV (g : Nat → Value) (T : List (List UInt8)) : Prop := ∀ (k : Nat) (t : List UInt8), T[k]? = some t → g k = S t
theorem TxV.nil (g : Nat → Value) : TxV g [] := fun k t h => by simp at h
theorem TxV.app {g : Nat → Value} {T : List (List UInt8)} (h : TxV g T) (x : List UInt8) : TxV (pt g T.length (S x)) (T ++ [x]) := by
  intro k t hk
  by_cases hkl : k < T.length
  · rw [List.getElem?_append_left hkl] at hk
    rw [pt_ne (by omega)]
    exact h k t hk
  · rw [List.getElem?_append_right (by omega)] at hk
    have hk0 : k = T.length := by
      have := (List.getElem?_eq_some_iff.1 hk).1
      simp at this
      omega
    subst hk0
    simp at hk
    subst hk
    exact pt_same
theorem TxV.rows {g : Nat → Value} {T : List (List UInt8)} (h : TxV g T) : cel T.length g = rws (fun t => [S t]) T := by
  have h2 : ∀ T : List (List UInt8), rws (fun t => [S t]) T = T.map S := by
    intro T
    induction T with
    | nil => rfl
    | cons x T ih =>
      have : rws (fun t => [S t]) (x :: T) = S x :: rws (fun t => [S t]) T := by simp [rws]
      rw [this, ih]
      rfl
  rw [h2]
  apply List.ext_getElem?
  intro i
  by_cases hi : i < T.length
  · rw [cel_get hi, List.getElem?_map, List.getElem?_eq_getElem hi]
    exact congrArg some (h i _ (List.getElem?_eq_getElem hi))
  · rw [List.getElem?_eq_none (by rw [cel_len]; omega), List.getElem?_eq_none (by rw [List.length_map]; omega)]

theorem spl_len (s : List UInt8) : ∀ (L : List (List Int)) (last : Nat), (splF s L last).length = L.length + 1
  | [], _ => rfl
  | c :: L, last => by simp only [splF, List.length_cons, spl_len s L]

/-- What the real Split answers: the list is made for it alone. -/
def SpX (w w' : World) (p s : List UInt8) (v : Value) : Prop := ∃ (V : Value) (e q : Nat), v = .tuple #[V, i64c e, i64c q] ∧ match engT p s with
  | .error er => V = .slice none 0 0 ∧ e = er.1 ∧ q = er.2
  | .ok r => e = 0 ∧ q = 0 ∧ ∃ ob, V = sl ob (splF s (scanAll s r 0) 0).length ∧ w.heap.size ≤ ob ∧ Blk w'.heap ob (rws (fun t => [S t]) (splF s (scanAll s r 0) 0)) 9

set_option maxHeartbeats 8000000 in
theorem Split28 {w : World} {F : FK} {cn : Nat} {p s : List UInt8} (ho : FKo F) (V : FRV w F cn) (hcn : cn ≤ 50000000000000000) (hpm : p.length ≤ 9223372036854775807) (hsm : s.length ≤ 9223372036854775807) :
    Ret Tryz.prog 28 [ptr F.fb, S p, S s] w (fun v w' => SpX w w' p s v ∧ FRV w' F (cn + 300000) ∧ Fram (kset F) w w') := by
  have hF : Fram (kset F) w w := Fram.refl _ _
  obtain ⟨L, P, sf, pf, hB, hX, hP, hsv, hpv, V, hch, hpk, hpn⟩ := V
  have oef := ho.ef
  have ofx := ho.fx
  have oxp := ho.xp
  have hall : ∀ k, eset F.E k → k ≤ F.E.eb := fun k hk => ho.eo.all hk
  have bp := hP.lt
  refine ret_of Tryz.func28 rfl Tryz.ntmps28 rfl ?_
  refine c_seq (fun K1 hK1 => ?_)
  refine c_reg ?_ -- region 0 find.go:62
  refine wl (ro_assign rfl) ?_
  refine wl (ro_assign rfl) ?_
  refine wl (ro_assign rfl) ?_
  refine wl_nil (x_then (hK1 _ _ ?_))
  clear hK1 K1
  refine c_seq (fun K2 hK2 => ?_)
  refine c_seq (fun K3 hK3 => ?_)
  have hql : 128 < p.length ∨ (p.length ≤ 128 ∧ 256 < s.length) ∨ (p.length ≤ 128 ∧ s.length ≤ 256) := by omega
  rcases hql with q | q | q
  · skip
    have hE := engT_long (p := p) (s := s) (by omega)
    refine c_reg ?_ -- region 1 find.go:63
    refine wl (ro_move rfl) ?_
    refine wl (ro_lenS rfl st_9) ?_
    refine wl (ro_cmp (r := true) rfl rfl (congrArg some (decide_eq_true (by omega)))) ?_
    refine wl (ro_move rfl) ?_
    refine wlg_no rfl ?_
    refine wlg_no rfl ?_
    refine wlg_no rfl ?_
    refine wl (ro_pick rfl rfl rfl) ?_
    refine wl_nil (x_then (hK3 _ _ ?_))
    clear hK3 K3
    refine wc_condT rfl ?_
    refine c_seq (fun K4 hK4 => ?_)
    refine c_reg ?_ -- region 2 find.go:64
    refine wl (ro_assign rfl) ?_
    refine wl (ro_assign rfl) ?_
    refine wl (ro_assign rfl) ?_
    refine wl_nil (x_then (hK4 _ _ ?_))
    clear hK4 K4
    refine c_ret (x_thenR ?_)
    refine bp_ret Tryz.results28 rfl ?_
    exact ⟨⟨_, 12, 0, rfl, by rw [hE]; exact ⟨rfl, rfl, rfl⟩⟩, ⟨L, P, sf, pf, hB, hX, hP, hsv, hpv, V.up (by omega), hch, hpk, hpn⟩, hF⟩
  · skip
    have hE := engT_long (p := p) (s := s) (by omega)
    refine c_reg ?_ -- region 1 find.go:63
    refine wl (ro_move rfl) ?_
    refine wl (ro_lenS rfl st_9) ?_
    refine wl (ro_cmp (r := false) rfl rfl (congrArg some (decide_eq_false (by omega)))) ?_
    refine wl (ro_move rfl) ?_
    refine wlg_yes rfl (ro_move rfl) ?_
    refine wlg_yes rfl (ro_lenS rfl st_9) ?_
    refine wlg_yes rfl (ro_cmp (r := true) rfl rfl (congrArg some (decide_eq_true (by omega)))) ?_
    refine wl (ro_pick rfl rfl rfl) ?_
    refine wl_nil (x_then (hK3 _ _ ?_))
    clear hK3 K3
    refine wc_condT rfl ?_
    refine c_seq (fun K5 hK5 => ?_)
    refine c_reg ?_ -- region 2 find.go:64
    refine wl (ro_assign rfl) ?_
    refine wl (ro_assign rfl) ?_
    refine wl (ro_assign rfl) ?_
    refine wl_nil (x_then (hK5 _ _ ?_))
    clear hK5 K5
    refine c_ret (x_thenR ?_)
    refine bp_ret Tryz.results28 rfl ?_
    exact ⟨⟨_, 12, 0, rfl, by rw [hE]; exact ⟨rfl, rfl, rfl⟩⟩, ⟨L, P, sf, pf, hB, hX, hP, hsv, hpv, V.up (by omega), hch, hpk, hpn⟩, hF⟩
  · skip
    refine c_reg ?_ -- region 1 find.go:63
    refine wl (ro_move rfl) ?_
    refine wl (ro_lenS rfl st_9) ?_
    refine wl (ro_cmp (r := false) rfl rfl (congrArg some (decide_eq_false (by omega)))) ?_
    refine wl (ro_move rfl) ?_
    refine wlg_yes rfl (ro_move rfl) ?_
    refine wlg_yes rfl (ro_lenS rfl st_9) ?_
    refine wlg_yes rfl (ro_cmp (r := false) rfl rfl (congrArg some (decide_eq_false (by omega)))) ?_
    refine wl (ro_pick rfl rfl rfl) ?_
    refine wl_nil (x_then (hK3 _ _ ?_))
    clear hK3 K3
    refine wc_condF rfl ?_
    refine c_skip (x_then (hK2 _ _ ?_))
    clear hK2 K2
    refine forget [(0, _), (1, _), (2, _)] ⟨rfl, rfl, rfl, trivial⟩ (fun e => ?_)
    refine c_seq (fun K6 hK6 => ?_)
    have hcal1 := Has36 (pat := p) (s := s) (i := 0) ho.eo V (by omega) (by omega) hpm hsm
    rcases hE : engT p s with e3 | r
    · skip
      have hne := engT_er hE
      rw [hasc_er hE] at hcal1
      refine c_reg ?_ -- region 3 find.go:66
      refine wl (ro_move rfl) ?_
      refine wl (ro_nilCheck rfl) ?_
      refine wl (ro_fieldAddr (k := 0) rfl fo_120_0) ?_
      refine wl (ro_loadB rfl sc_50 (hB) (rfl)) ?_
      refine wl (ro_move rfl) ?_
      refine wl (ro_move rfl) ?_
      refine wl_call rfl en_36 (hcal1) ?_
      rintro _ w3 ⟨rfl, V, F3⟩
      have hs3 := F3.size
      replace hB := F3.blkF hB (fun h => by have := hall _ h; omega)
      replace hX := F3.blkF hX (fun h => by have := hall _ h; omega)
      replace hP := F3.blkF hP (fun h => by have := hall _ h; omega)
      replace hF := hF.transG F3 (fun k _ h ↦ .inr (.inr (.inr h)))
      refine wl_new (ze_57) (fun hb w1 hbhb hH F1 => ?_)
      have hbshb := Nat.le_trans hF.size hbhb
      have hneF.fbhb : F.fb < hb := Nat.lt_of_lt_of_le hB.lt hbhb
      have hneF.xshb : F.xs < hb := Nat.lt_of_lt_of_le hX.lt hbhb
      have hneF.pshb : F.ps < hb := Nat.lt_of_lt_of_le hP.lt hbhb
      replace hF := hF.thenDrew.thenN F1
      replace hB := F1.blkN hB
      replace hX := F1.blkN hX
      replace hP := F1.blkN hP
      replace V := V.framN (d := World.drawn _) F1
      have hH0 := hH
      refine wl_puta rfl rfl ((fdc_cells _ _ _ _)) sz_57 (rfl) hH ((by simp)) (rfl) (fun w2 hH F2 => ?_)
      replace hF := hF.thenDrew.thenO F2 (by first | exact .inr (by omega) | exact .inl rfl | exact .inl (by assumption))
      replace hB := F2.blkO hB (by omega)
      replace hX := F2.blkO hX (by omega)
      replace hP := F2.blkO hP (by omega)
      replace V := V.framB (d := World.drawn _) ho.eo F2 hH0 (by decide) (by omega)
      refine wl_nil (x_then (hK6 _ _ ?_))
      clear hK6 K6
      refine forget [(0, _), (1, _), (2, _), (9, _)] ⟨rfl, rfl, rfl, rfl, trivial⟩ (fun e => ?_)
      refine c_seq (fun K7 hK7 => ?_)
      have hcal2 := scan39e (sf := sf) (pat := p) (s := s) (b := false) (c := nocaps) (q := e3.2) ho hB V hne
      refine c_reg ?_ -- region 4 find.go:67
      refine wl (ro_move rfl) ?_
      refine wl (ro_move rfl) ?_
      refine wl (ro_move rfl) ?_
      refine wl (ro_loadAggB rfl ag_57 (hH) (rfl) (rfl)) ?_
      refine wl_call rfl en_39 (hcal2) ?_
      rintro _ w4 ⟨rfl, hB, V, F4⟩
      replace hX := F4.blkF hX (by intro h; simp only [one, two, none'] at h <;> omega)
      replace hP := F4.blkF hP (by intro h; simp only [one, two, none'] at h <;> omega)
      replace hH := F4.blkF hH (by intro h; simp only [one, two, none'] at h <;> omega)
      replace hF := hF.trans' F4 (fun k _ h ↦ .inl h)
      refine wl (ro_move rfl) ?_
      refine wl (ro_extract rfl rfl) ?_
      refine wl (ro_extract rfl rfl) ?_
      refine wl (ro_assign rfl) ?_
      refine wl (ro_assign rfl) ?_
      refine wl_nil (x_then (hK7 _ _ ?_))
      clear hK7 K7
      refine c_seq (fun K8 hK8 => ?_)
      refine c_seq (fun K9 hK9 => ?_)
      refine c_reg ?_ -- region 5 find.go:68
      refine wl (ro_move rfl) ?_
      refine wl (ro_cmp (r := true) rfl rfl (congrArg some ((bnec e3.1 0).trans (decide_eq_true hne)))) ?_
      refine wl_nil (x_then (hK9 _ _ ?_))
      clear hK9 K9
      refine wc_condT rfl ?_
      refine c_seq (fun K10 hK10 => ?_)
      refine c_reg ?_ -- region 6 find.go:69
      refine wl (ro_move rfl) ?_
      refine wl (ro_move rfl) ?_
      refine wl (ro_assign rfl) ?_
      refine wl (ro_assign rfl) ?_
      refine wl (ro_assign rfl) ?_
      refine wl_nil (x_then (hK10 _ _ ?_))
      clear hK10 K10
      refine c_ret (x_thenR ?_)
      refine bp_ret Tryz.results28 rfl ?_
      exact ⟨⟨_, e3.1, e3.2, rfl, by rw [hE]; exact ⟨rfl, rfl, rfl⟩⟩, ⟨[], P, sf, pf, hB, hX, hP, SpV.nil _, hpv, V.up (by omega), ⟨0, by omega, trivial⟩, hpk, hpn⟩, hF⟩
    · skip
      rw [lft_hasc hE] at hcal1
      obtain ⟨hw, -, -, -, -⟩ := engT_ok hE
      have hchn := scanAll_chain (s := s) hw 0
      have hln := chain_len _ 0 hchn (by omega)
      generalize hLL : scanAll s r 0 = LL at hchn hln
      refine c_reg ?_ -- region 3 find.go:66
      refine wl (ro_move rfl) ?_
      refine wl (ro_nilCheck rfl) ?_
      refine wl (ro_fieldAddr (k := 0) rfl fo_120_0) ?_
      refine wl (ro_loadB rfl sc_50 (hB) (rfl)) ?_
      refine wl (ro_move rfl) ?_
      refine wl (ro_move rfl) ?_
      refine wl_call rfl en_36 (hcal1) ?_
      rintro _ w3 ⟨rfl, V, F3⟩
      have hs3 := F3.size
      replace hB := F3.blkF hB (fun h => by have := hall _ h; omega)
      replace hX := F3.blkF hX (fun h => by have := hall _ h; omega)
      replace hP := F3.blkF hP (fun h => by have := hall _ h; omega)
      replace hF := hF.transG F3 (fun k _ h ↦ .inr (.inr (.inr h)))
      refine wl_new (ze_57) (fun hb w3 hbhb hH F3 => ?_)
      have hbshb := Nat.le_trans hF.size hbhb
      have hneF.fbhb : F.fb < hb := Nat.lt_of_lt_of_le hB.lt hbhb
      have hneF.xshb : F.xs < hb := Nat.lt_of_lt_of_le hX.lt hbhb
      have hneF.pshb : F.ps < hb := Nat.lt_of_lt_of_le hP.lt hbhb
      replace hF := hF.thenDrew.thenN F3
      replace hB := F3.blkN hB
      replace hX := F3.blkN hX
      replace hP := F3.blkN hP
      replace V := V.framN (d := World.drawn _) F3
      have hH0 := hH
      refine wl_puta rfl rfl ((fdc_cells _ _ _ _)) sz_57 (rfl) hH ((by simp)) (rfl) (fun w4 hH F4 => ?_)
      replace hF := hF.thenDrew.thenO F4 (by first | exact .inr (by omega) | exact .inl rfl | exact .inl (by assumption))
      replace hB := F4.blkO hB (by omega)
      replace hX := F4.blkO hX (by omega)
      replace hP := F4.blkO hP (by omega)
      replace V := V.framB (d := World.drawn _) ho.eo F4 hH0 (by decide) (by omega)
      refine wl_nil (x_then (hK6 _ _ ?_))
      clear hK6 K6
      refine forget [(0, _), (1, _), (2, _), (9, _)] ⟨rfl, rfl, rfl, rfl, trivial⟩ (fun e => ?_)
      refine c_seq (fun K11 hK11 => ?_)
      have hcal2 := scan39o (pat := p) (s := s) ho hB hX V (by omega) hE
      rw [lft_hasc hE, hLL] at hcal2
      refine c_reg ?_ -- region 4 find.go:67
      refine wl (ro_move rfl) ?_
      refine wl (ro_move rfl) ?_
      refine wl (ro_move rfl) ?_
      refine wl (ro_loadAggB rfl ag_57 (hH) (rfl) (rfl)) ?_
      refine wl_call rfl en_39 (hcal2) ?_
      rintro _ w4 ⟨rfl, hB, ⟨sf4, hX, hsv4⟩, V, F4⟩
      replace hP := F4.blkF hP (fun h => by rcases h with h | h | h; omega; omega; have := hall _ h; omega)
      replace hH := F4.blkF hH (fun h => by rcases h with h | h | h; omega; omega; have := hall _ h; omega)
      replace hF := hF.trans' F4 (fun k _ h ↦ by rcases h with h | h | h; exact .inl h; exact .inr (.inl h); exact .inr (.inr (.inr h)))
      refine wl (ro_move rfl) ?_
      refine wl (ro_extract rfl rfl) ?_
      refine wl (ro_extract rfl rfl) ?_
      refine wl (ro_assign rfl) ?_
      refine wl (ro_assign rfl) ?_
      refine wl_nil (x_then (hK11 _ _ ?_))
      clear hK11 K11
      refine c_seq (fun K12 hK12 => ?_)
      refine c_seq (fun K13 hK13 => ?_)
      refine c_reg ?_ -- region 5 find.go:68
      refine wl (ro_move rfl) ?_
      refine wl (ro_cmp (r := false) rfl rfl rfl) ?_
      refine wl_nil (x_then (hK13 _ _ ?_))
      clear hK13 K13
      refine wc_condF rfl ?_
      refine c_skip (x_then (hK12 _ _ ?_))
      clear hK12 K12
      refine forget [(0, _), (2, _)] ⟨rfl, rfl, trivial⟩ (fun e => ?_)
      refine c_seq (fun K14 hK14 => ?_)
      refine c_reg ?_ -- region 7 find.go:71
      refine wl (ro_move rfl) ?_
      refine wl (ro_nilCheck rfl) ?_
      refine wl (ro_fieldAddr (k := 2) rfl fo_120_2) ?_
      refine wl (ro_loadB rfl sc_3 (hB) (rfl)) ?_
      refine wl (ro_arith (r := ((LL.length + 1 : Nat) : Int)) rfl rfl rfl (Go.IntWalk.i64_in _ (by omega))) ?_
      refine wl_make (len := (LL.length + 1)) (cap := (LL.length + 1)) rfl rfl se_31 ze_9 (by simp) (by omega) (by omega) rfl bb_9 (fun ob w5 hbob hO F5 => ?_)
      have hbsob := Nat.le_trans hF.size hbob
      have hneFfbob : F.fb < ob := Nat.lt_of_lt_of_le hB.lt hbob
      have hneFxsob : F.xs < ob := Nat.lt_of_lt_of_le hX.lt hbob
      have hneFpsob : F.ps < ob := Nat.lt_of_lt_of_le hP.lt hbob
      have hnehbob : hb < ob := Nat.lt_of_lt_of_le hH.lt hbob
      replace hF := hF.thenDrew.thenN F5
      replace hB := F5.blkN hB
      replace hX := F5.blkN hX
      replace hP := F5.blkN hP
      replace hH := F5.blkN hH
      replace V := V.framN (d := World.drawn _) F5
      have hobw : w.heap.size ≤ ob := hbsob
      refine wl (ro_assign rfl) ?_
      refine wl_nil (x_then (hK14 _ _ ?_))
      clear hK14 K14
      refine forget [(0, _), (2, _), (12, _)] ⟨rfl, rfl, rfl, trivial⟩ (fun e => ?_)
      refine c_seq (fun K15 hK15 => ?_)
      refine c_reg ?_ -- region 8 find.go:72
      refine wl (ro_assign rfl) ?_
      refine wl_nil (x_then (hK15 _ _ ?_))
      clear hK15 K15
      refine c_seq (fun K16 hK16 => ?_)
      refine c_seq (fun K17 hK17 => ?_)
      refine c_reg ?_ -- region 9 find.go:73
      refine wl (ro_assign rfl) ?_
      refine wl_nil (x_then (hK17 _ _ ?_))
      clear hK17 K17
      refine c_block ?_
      -- loop@r10: live slots [0, 2, 12, 13, 14]
      refine c_loopG (fun m a' w' => ∃ (k last j : Nat) (D : List (List UInt8)) (g : Nat → Value), m = LL.length - k ∧ k ≤ LL.length ∧ D.length = k ∧ D ++ splF s (LL.drop k) last = splF s LL 0 ∧ last ≤ s.length ∧ last ≤ j ∧ ChainOK s.length j (LL.drop k) ∧ TxV g D ∧ Blk w'.heap F.fb (fcl F LL.length P.length) 120 ∧ FB w'.heap F.xs 2056 sf4 55 ∧ FB w'.heap F.ps 96 pf 146 ∧ FB w'.heap ob (LL.length + 1) g 9 ∧ EGV w' F.E (cn + 400 + 200000) ∧ Fram (kset F) w w' ∧ ∃ e, a' = Fr 88 (upds e [(0, ptr F.fb), (2, S s), (12, sl ob (LL.length + 1)), (13, i64c last), (14, i64c k)]) []) LL.length ⟨0, 0, 0, [], _, rfl, by omega, rfl, rfl, by omega, by omega, hchn, TxV.nil _, hB, hX, hP, (by have := hO; rw [Nat.mul_one] at this; exact this), V, hF, kp _ ⟨rfl, rfl, rfl, rfl, rfl, trivial⟩⟩ ?_
      clear hB hX hP hO V hF
      rintro m a' w5 ⟨k, last, j, D, g, rfl, hk, hDk, hspl, hlast, hlj, hck, hg, hB, hX, hP, hO, V, hF, e, rfl⟩
      have hO0 := hO
      refine c_seq (fun K18 hK18 => ?_)
      refine c_seq (fun K19 hK19 => ?_)
      refine c_reg ?_ -- region 10 find.go:73
      refine wl (ro_move rfl) ?_
      refine wl (ro_move rfl) ?_
      refine wl (ro_nilCheck rfl) ?_
      refine wl (ro_fieldAddr (k := 2) rfl fo_120_2) ?_
      refine wl (ro_loadB rfl sc_3 (hB) (rfl)) ?_
      refine wl (ro_cmp (r := decide (k < LL.length)) rfl rfl (congrArg some (decide_eq_decide.2 (by omega)))) ?_
      refine wl_nil (x_then (hK19 _ _ ?_))
      clear hK19 K19
      refine wc_cond rfl (fun hc53 => ?_) (fun hc53 => ?_)
      · try simp only [decide_eq_true_eq, decide_eq_false_iff_not, Bool.not_eq_true', Bool.not_eq_false', Bool.not_eq_eq_eq_not, Bool.not_true, Bool.not_false, beq_iff_eq, bne_iff_ne, ne_eq, beq_eq_false_iff_ne, bne_eq_false_iff_eq, gt_iff_lt, ge_iff_le, Int.not_lt, Int.not_le] at hc53
        obtain ⟨c, hc⟩ : ∃ c, LL[k]? = some c := ⟨_, List.getElem?_eq_getElem hc53⟩
        rw [drop_consA hc] at hck hspl
        obtain ⟨hm, hck⟩ := hck
        obtain ⟨hg0, hg1⟩ := caps_get hm
        obtain ⟨-, -, hk2, hk3, hk4, hk5, hk6⟩ := hm.cap
        refine c_skip (x_then (hK18 _ _ ?_))
        clear hK18 K18
        refine forget [(0, _), (2, _), (12, _), (13, _), (14, _)] ⟨rfl, rfl, rfl, rfl, rfl, trivial⟩ (fun e => ?_)
        refine c_seq (fun K20 hK20 => ?_)
        refine c_block ?_
        refine c_seq (fun K21 hK21 => ?_)
        refine c_reg ?_ -- region 12 find.go:74
        refine wl (ro_move rfl) ?_
        refine wl (ro_move rfl) ?_
        refine wl (ro_move rfl) ?_
        refine wl (ro_move rfl) ?_
        refine wl (ro_move rfl) ?_
        refine wl (ro_nilCheck rfl) ?_
        refine wl (ro_fieldAddr (k := 1) rfl fo_120_1) ?_
        refine wl (ro_loadB rfl sc_27 (hB) (rfl)) ?_
        refine wl (ro_move rfl) ?_
        refine wl (ro_indexAddr (et := 55) (k := 8) rfl rfl se_27 (rfl) ((by omega : k < 257))) ?_
        refine wl (ro_indexAddrA (et := 3) (k := 1) rfl rfl ar_55 ((show (0 : Int) = ((0 : Nat) : Int) from rfl)) ((by omega : 0 < 8))) ?_
        refine wl (ro_loadB rfl sc_3 (hX) (cel_at (k := k * 8 + 0) (by omega) (by omega) ((hsv4 k c hc 0 (by omega)).trans (congrArg icv hg0)))) ?_
        refine wl (ro_sliceSLH (l := last) (h := capB c) rfl rfl rfl st_9 rfl rfl (by omega) (by omega)) ?_
        refine wl (ro_indexAddr (et := 9) (k := 1) rfl rfl se_31 (rfl) ((by omega : k < LL.length + 1))) ?_
        refine wl_put rfl rfl rfl sz_9 hO ((cel_lt (by omega))) ((cel_put D.length (by omega))) (fun w6 hO F6 => ?_)
        replace hF := hF.thenDrew.thenO F6 (by first | exact .inr (by omega) | exact .inl rfl | exact .inl (by assumption))
        replace hB := F6.blkO hB (by omega)
        replace hX := F6.blkO hX (by omega)
        replace hP := F6.blkO hP (by omega)
        replace V := V.framB (d := World.drawn _) ho.eo F6 hO0 (by decide) (by omega)
        refine wl_nil (x_then (hK21 _ _ ?_))
        clear hK21 K21
        refine c_reg ?_ -- region 13 find.go:75
        refine wl (ro_move rfl) ?_
        refine wl (ro_nilCheck rfl) ?_
        refine wl (ro_fieldAddr (k := 1) rfl fo_120_1) ?_
        refine wl (ro_loadB rfl sc_27 (hB) (rfl)) ?_
        refine wl (ro_move rfl) ?_
        refine wl (ro_indexAddr (et := 55) (k := 8) rfl rfl se_27 (rfl) ((by omega : k < 257))) ?_
        refine wl (ro_indexAddrA (et := 3) (k := 1) rfl rfl ar_55 ((show (1 : Int) = ((1 : Nat) : Int) from rfl)) ((by omega : 1 < 8))) ?_
        refine wl (ro_loadB rfl sc_3 (hX) (cel_at (k := k * 8 + 1) (by omega) (by omega) ((hsv4 k c hc 1 (by omega)).trans (congrArg icv hg1)))) ?_
        refine wl (ro_assign rfl) ?_
        refine wl_nil (x_blk (x_then (hK20 _ _ ?_)))
        clear hK20 K20
        refine c_reg ?_ -- region 11 find.go:73
        refine wl (ro_move rfl) ?_
        refine wl (ro_arith rfl rfl rfl (Go.IntWalk.i64_in _ (by omega))) ?_
        refine wl (ro_assign rfl) ?_
        refine wl_nil (x_then ?_)
        exact ⟨LL.length - (k + 1), by omega, k + 1, capE c, nextF c, D ++ [cut s last (capB c)], _, rfl, by omega, by rw [List.length_append]; show D.length + 1 = _; omega, by rw [← hspl]; simp [splF], by omega, by omega, hck, hg.app _, hB, hX, hP, hO, V, hF, kp _ ⟨rfl, rfl, rfl, rfl, rfl, trivial⟩⟩
      · try simp only [decide_eq_true_eq, decide_eq_false_iff_not, Bool.not_eq_true', Bool.not_eq_false', Bool.not_eq_eq_eq_not, Bool.not_true, Bool.not_false, beq_iff_eq, bne_iff_ne, ne_eq, beq_eq_false_iff_ne, bne_eq_false_iff_eq, gt_iff_lt, ge_iff_le, Int.not_lt, Int.not_le] at hc53
        refine c_exit (x_thenX (x_thenX (x_blkX (x_then (hK16 _ _ ?_)))))
        clear hK18 K18 hK16 K16
        refine forget [(0, _), (2, _), (12, _), (13, _)] ⟨rfl, rfl, rfl, rfl, trivial⟩ (fun e => ?_)
        refine c_seq (fun K22 hK22 => ?_)
        refine c_piL 9 [(0, false), (1, false), (2, false), (3, false), (4, false), (5, false), (6, false), (7, false), (8, false)] (SameH _) mixed (by kernel_rfl) rfl (by kernel_rfl) (po_then (po_bp)) (sameH_now _ _) ?_ -- region 14 find.go:77
        refine ql_ro rfl (fun w hS => ro_move rfl) ?_
        refine ql_ro rfl (fun w hS => ro_move rfl) ?_
        refine ql_ro rfl (fun w hS => ro_nilCheck rfl) ?_
        refine ql_ro rfl (fun w hS => ro_fieldAddr (k := 2) rfl fo_120_2) ?_
        refine ql_ro rfl (fun w hS => ro_loadB rfl sc_3 (Blk.of_heap hB hS) (rfl)) ?_
        refine ql_ro rfl (fun w hS => ro_move rfl) ?_
        refine ql_ro rfl (fun w hS => ro_move rfl) ?_
        refine ql_ro rfl (fun w hS => ro_sliceSL (l := last) rfl rfl st_9 rfl hlast) ?_
        refine ql_ro rfl (fun w hS => ro_indexAddr (et := 9) (k := 1) rfl rfl se_31 (rfl) ((by omega : LL.length < LL.length + 1))) ?_
        refine ql_put rfl rfl rfl rfl sz_9 hO ((cel_lt (by omega))) ((cel_put D.length (by omega))) (fun w7 hO F7 => ?_)
        replace hF := hF.thenDrew.thenO F7 (by first | exact .inr (by omega) | exact .inl rfl | exact .inl (by assumption))
        replace hB := F7.blkO hB (by omega)
        replace hX := F7.blkO hX (by omega)
        replace hP := F7.blkO hP (by omega)
        replace V := V.framB ho.eo F7 hO0 (by decide) (by omega)
        refine x_then (hK22 _ _ ?_)
        clear hK22 K22
        refine forget [(12, _)] ⟨rfl, trivial⟩ (fun e => ?_)
        refine c_seq (fun K23 hK23 => ?_)
        refine c_reg ?_ -- region 15 find.go:78
        refine wl (ro_move rfl) ?_
        refine wl (ro_assign rfl) ?_
        refine wl (ro_assign rfl) ?_
        refine wl (ro_assign rfl) ?_
        refine wl_nil (x_then (hK23 _ _ ?_))
        clear hK23 K23
        refine c_ret ?_
        refine bp_ret Tryz.results28 rfl ?_
        rw [show LL.drop k = [] from List.drop_eq_nil_of_le (by omega)] at hspl
        have hg2 := hg.app (s.drop last)
        have hsl : D ++ [s.drop last] = splF s LL 0 := hspl
        rw [hsl] at hg2
        have hspn := spl_len s LL 0
        have hrows := hg2.rows
        rw [hspn] at hrows
        exact ⟨⟨_, 0, 0, rfl, by rw [hE]; exact ⟨rfl, rfl, by rw [hLL]; exact ⟨ob, by rw [hspn], hobw, by rw [← hrows]; exact hO⟩⟩⟩, ⟨LL, P, sf4, pf, hB, hX, hP, hsv4, hpv, V.up (by omega), ⟨s.length, by omega, hchn⟩, hpk, hpn⟩, hF⟩

end Go.Proofs.Qxb6500567aGreat
