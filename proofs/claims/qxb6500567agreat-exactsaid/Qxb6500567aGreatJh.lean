import Derived.Test.Qxb6500567aGreatJg
/- The automaton: Any, New. -/
namespace Go.Proofs.Qxb6500567aGreat
set_option linter.unusedVariables false
set_option linter.unusedSimpArgs false

theorem DVO.framS {w w' : World} {D : DF} {cn d : Nat} {F : Nat → Prop} (h : DVO w D cn) (f : Fram F { w with drawn := d } w') (h1 : ∀ b, dset D b → ¬ F b) (h2 : ∀ b l, Blk w.heap b l 175 → ¬ F b) : DVO w' D cn := by
  obtain ⟨kv, N, g, hB, hN, ⟨gs, hK⟩, a4, a5, a6, a7, a8, a9, a10, hkv⟩ := h
  refine ⟨kv, N, g, Blk.fram (w := { w with drawn := d }) hB f (h1 _ (.inl rfl)), Blk.fram (w := { w with drawn := d }) hN f (h1 _ (.inr (.inl rfl))), ⟨gs, Blk.fram (w := { w with drawn := d }) hK f (h1 _ (.inr (.inr rfl)))⟩, a4, a5, a6, a7, a8, a9, a10, ?_⟩
  rcases hkv with h | ⟨kb, p, rfl, hG, hr⟩
  · exact .inl h
  · exact .inr ⟨kb, p, rfl, Blk.fram (w := { w with drawn := d }) hG f (h2 _ _ hG), hr⟩
theorem DVO.framN {w w' : World} {D : DF} {cn : Nat} (h : DVO w D cn) (f : Fram none' w w') : DVO w' D cn := h.framS (d := w.drawn) f (fun _ _ h => h) (fun _ _ _ h => h)

set_option maxHeartbeats 4000000 in
theorem Any49 {w : World} {D : DF} {pb cn i : Nat} {p : List Ins} {s : List UInt8} (V : DVO w D cn) (hcn : cn ≤ 80000000000000000) (hP : PGB w.heap pb (insL p)) (hp : PrgOK p) (hso : SetOK p) (hs : s.length ≤ 256) (hi : i ≤ s.length) :
    Ret Tryz.prog 49 [ptr D.db, pgs pb p.length, S s, i64c i] w (fun v w' => (∃ b Q, v = .tuple #[.bool b, icv 0] ∧ Clo p (decide (i = 0)) false 1 Q ∧ RunD p s (s.length - i) i Q b) ∧ DVO w' D (cn + 400) ∧ PGB w'.heap pb (insL p) ∧ Fram (dset D) w w') := by
  have hF : Fram (dset D) w w := Fram.refl _ _
  refine ret_of Tryz.func49 rfl Tryz.ntmps49 rfl ?_
  refine c_seq (fun K1 hK1 => ?_)
  refine c_reg ?_ -- region 0 dfa.go:52
  refine wl (ro_assign rfl) ?_
  refine wl (ro_assign rfl) ?_
  refine wl_nil (x_then (hK1 _ _ ?_))
  clear hK1 K1
  refine c_seq (fun K2 hK2 => ?_)
  refine c_seq (fun K3 hK3 => ?_)
  refine c_reg ?_ -- region 1 dfa.go:53
  refine wl (ro_move rfl) ?_
  refine wl (ro_lenS rfl st_9) ?_
  refine wl (ro_cmp (r := false) rfl rfl (congrArg some (decide_eq_false (by omega)))) ?_
  refine wl_nil (x_then (hK3 _ _ ?_))
  clear hK3 K3
  refine wc_condF rfl ?_
  refine c_skip (x_then (hK2 _ _ ?_))
  clear hK2 K2
  refine c_seq (fun K4 hK4 => ?_)
  refine c_seq (fun K5 hK5 => ?_)
  refine c_reg ?_ -- region 3 dfa.go:56
  refine wl (ro_move rfl) ?_
  refine wl_call rfl en_59 (ProgOK59 hP hp) ?_
  rintro _ w1 ⟨rfl, F1⟩
  replace V := V.framN F1
  replace hP := F1.blkN hP
  replace hF := hF.transG F1 (fun _ _ h ↦ h.elim)
  refine wl (ro_not rfl) ?_
  refine wl_nil (x_then (hK5 _ _ ?_))
  clear hK5 K5
  refine wc_condF rfl ?_
  refine c_skip (x_then (hK4 _ _ ?_))
  clear hK4 K4
  refine c_seq (fun K6 hK6 => ?_)
  refine c_seq (fun K7 hK7 => ?_)
  refine c_reg ?_ -- region 5 dfa.go:59
  refine wl (ro_move rfl) ?_
  refine wl (ro_cmp (r := false) rfl rfl (congrArg some (decide_eq_false (by omega)))) ?_
  refine wl (ro_move rfl) ?_
  refine wlg_yes rfl (ro_move rfl) ?_
  refine wlg_yes rfl (ro_move rfl) ?_
  refine wlg_yes rfl (ro_lenS rfl st_9) ?_
  refine wlg_yes rfl (ro_cmp (r := false) rfl rfl (congrArg some (decide_eq_false (by omega)))) ?_
  refine wl (ro_pick rfl rfl rfl) ?_
  refine wl_nil (x_then (hK7 _ _ ?_))
  clear hK7 K7
  refine wc_condF rfl ?_
  refine c_skip (x_then (hK6 _ _ ?_))
  clear hK6 K6
  refine forget [(0, _), (1, _), (2, _), (3, _)] ⟨rfl, rfl, rfl, rfl, trivial⟩ (fun e => ?_)
  refine c_seq (fun K8 hK8 => ?_)
  refine c_reg ?_ -- region 7 dfa.go:62
  refine wl (ro_move rfl) ?_
  refine wl (ro_move rfl) ?_
  refine wl_call rfl en_60 (adopt60 V (by omega) hP hp hso) ?_
  rintro _ w2 ⟨rfl, ⟨kb, N, g, V2⟩, hP, F2⟩
  replace hF := hF.trans F2
  obtain ⟨hkd, hkn, hks⟩ := V2.ne
  obtain ⟨hB, hN, ⟨gs, hK⟩, hG, -, -, hmk, hci, hkl, hu, hbu, hfl, hwo, ⟨o1, o2⟩⟩ := V2
  have hpd : pb ≠ D.db := fun e => by rw [e] at hP; exact absurd (hP.uniq hB).2 (by decide)
  have hpn : pb ≠ D.nx := fun e => by rw [e] at hP; exact absurd (hP.uniq hN).2 (by decide)
  have hps : pb ≠ D.sk := fun e => by rw [e] at hP; exact absurd (hP.uniq hK).2 (by decide)
  refine wl_nil (x_then (hK8 _ _ ?_))
  clear hK8 K8
  refine forget [(0, _), (2, _), (3, _)] ⟨rfl, rfl, rfl, trivial⟩ (fun e => ?_)
  refine c_seq (fun K9 hK9 => ?_)
  refine c_reg ?_ -- region 8 dfa.go:63
  refine wl (ro_move rfl) ?_
  refine wl (ro_move rfl) ?_
  refine wl (ro_cmp (r := decide (i = 0)) rfl rfl (congrArg some (beqc i 0))) ?_
  refine wl_call rfl en_61 (closure61 (Z := 1) hB hK hG (by omega) hkd hks hp (by omega) (by omega)) ?_
  rintro _ w4 ⟨⟨R, rfl, hR64, hclo⟩, hB, ⟨g4, hK⟩, hG, F4⟩
  replace hF := hF.transG F4 (by intro k hk h; simp only [one, two, none', dset] at h ⊢ <;> omega)
  replace hN := F4.blkF hN (by intro h; simp only [one, two, none', dset] at h <;> omega)
  replace hP := F4.blkF hP (by intro h; simp only [one, two, none', dset] at h <;> omega)
  refine wl (ro_assign rfl) ?_
  refine wl_nil (x_then (hK9 _ _ ?_))
  clear hK9 K9
  refine forget [(0, _), (2, _), (3, _), (10, _)] ⟨rfl, rfl, rfl, rfl, trivial⟩ (fun e => ?_)
  refine c_seq (fun K10 hK10 => ?_)
  have hci4 : CTI p { N with wo := N.wo + 1 } g := hci
  have hkl4 : KL { N with wo := N.wo + 1 } := hkl
  refine c_reg ?_ -- region 9 dfa.go:64
  refine wl (ro_move rfl) ?_
  refine wl (ro_move rfl) ?_
  refine wl_call rfl en_62 (cellOf62 (p := p) (N := { N with wo := N.wo + 1 }) hB hN o1 hu (by show N.fl ≤ _; omega) (by show N.bu ≤ _; omega) hci4 hkl4 hR64) ?_
  rintro _ w5 ⟨N', g', t, rfl, hco5, hB, hN, F5⟩
  replace hF := hF.transG F5 (by intro k hk h; simp only [one, two, none', dset] at h ⊢ <;> omega)
  replace hK := F5.blkF hK (by intro h; simp only [one, two, none', dset] at h <;> omega)
  replace hG := F5.blkF hG (by intro h; simp only [one, two, none', dset] at h <;> omega)
  replace hP := F5.blkF hP (by intro h; simp only [one, two, none', dset] at h <;> omega)
  obtain ⟨q1, q2, q3, q4, q5, q6, q7, q8, q9, q10, q11, q12⟩ := hco5
  have q9' : N'.bu ≤ N.bu + 1 := q9
  have q10' : N'.fl ≤ N.fl + 1 := q10
  have q11' : N'.wo = N.wo + 1 := q11
  have hmk' : MK p N' := ⟨by rw [q6]; exact hmk.ch, by rw [q7]; exact hmk.en, by rw [q8]; exact hmk.hi, by rw [q6]; exact hmk.c64, by rw [q7]; exact hmk.e64, by rw [q8]; exact hmk.h64⟩
  refine wl (ro_assign rfl) ?_
  refine wl_nil (x_then (hK10 _ _ ?_))
  clear hK10 K10
  refine forget [(0, _), (2, _), (3, _), (11, _)] ⟨rfl, rfl, rfl, rfl, trivial⟩ (fun e => ?_)
  refine c_seq (fun K11 hK11 => ?_)
  have V5 : DV w5 D kb p N' g' (cn + 3) := ⟨hB, hN, ⟨_, hK⟩, hG, hp, hso, hmk', q1, q2, q3, by omega, by omega, by omega, ⟨o1, o2⟩⟩
  refine c_reg ?_ -- region 10 dfa.go:65
  refine wl (ro_move rfl) ?_
  refine wl (ro_move rfl) ?_
  refine wl (ro_move rfl) ?_
  refine wl (ro_move rfl) ?_
  refine wl_call rfl en_63 (run63 V5 (by omega) q4 hs hi) ?_
  rintro _ w6 ⟨⟨b, rfl, hrun⟩, ⟨N6, g6, V6⟩, F6⟩
  replace hF := hF.transG F6 (by intro k hk h; simp only [one, two, none', dset] at h ⊢ <;> omega)
  replace hP := F6.blkF hP (by intro h; simp only [one, two, none', dset] at h <;> omega)
  rw [q5] at hrun
  refine wl (ro_assign rfl) ?_
  refine wl (ro_assign rfl) ?_
  refine wl_nil (x_then (hK11 _ _ ?_))
  clear hK11 K11
  refine c_ret ?_
  refine bp_ret Tryz.results49 rfl ?_
  exact ⟨⟨b, R, rfl, hclo, hrun⟩, V6.out.up (by omega), hP, hF⟩

set_option maxHeartbeats 4000000 in
theorem New17 {w : World} : Ret Tryz.prog 17 [] w (fun v w' => ∃ D : DF, v = ptr D.db ∧ w.heap.size ≤ D.db ∧ DFo D ∧ DVO w' D 0 ∧ Fram none' w w') := by
  have hF : Fram none' w w := Fram.refl _ _
  refine ret_of Tryz.func17 rfl Tryz.ntmps17 rfl ?_
  refine c_seq (fun K1 hK1 => ?_)
  refine c_reg ?_ -- region 0 dfa.go:28
  refine wl (ro_assign rfl) ?_
  refine wl_nil (x_then (hK1 _ _ ?_))
  clear hK1 K1
  refine forget [] trivial (fun e => ?_)
  refine c_seq (fun K2 hK2 => ?_)
  refine c_reg ?_ -- region 1 dfa.go:29
  refine wl (ro_build rfl bld_112) ?_
  refine wl_box (cs := [.slice none 0 0, u64c 0, u64c 0, u64c 0, u64c 0, u64c 0, u64c 0, u64c 0, u64c 0, u64c 0, icv 0, .slice none 0 0, .slice none 0 0, icv 0, icv 0, icv 0]) rfl rfl (fun db w1 hbdb hB F1 => ?_)
  have hbsdb := Nat.le_trans hF.size hbdb
  replace hF := hF.thenDrew.thenN F1
  refine wl (ro_assign rfl) ?_
  refine wl_nil (x_then (hK2 _ _ ?_))
  clear hK2 K2
  refine forget [(1, _)] ⟨rfl, trivial⟩ (fun e => ?_)
  refine c_seq (fun K3 hK3 => ?_)
  refine c_reg ?_ -- region 2 dfa.go:30
  refine wl (ro_move rfl) ?_
  refine wl_make (len := 1536) (cap := 1536) rfl rfl se_97 ze_3 (by simp) (by omega) (by omega) rfl bb_3 (fun nx w2 hbnx hN F2 => ?_)
  have hbsnx := Nat.le_trans hF.size hbnx
  have hnedbnx : db < nx := Nat.lt_of_lt_of_le hB.lt hbnx
  replace hF := hF.thenDrew.thenN F2
  replace hB := F2.blkN hB
  refine wl (ro_nilCheck rfl) ?_
  refine wl (ro_fieldAddr (k := 11) rfl fo_112_6) ?_
  refine wl_put rfl rfl rfl sz_97 hB ((by simp)) (rfl) (fun w3 hB F3 => ?_)
  replace hF := hF.thenDrew.thenO F3 (by first | exact .inr (by omega) | exact .inl rfl | exact .inl (by assumption))
  replace hN := F3.blkO hN (by omega)
  refine wl_nil (x_then (hK3 _ _ ?_))
  clear hK3 K3
  refine c_seq (fun K4 hK4 => ?_)
  refine c_seq (fun K5 hK5 => ?_)
  refine c_reg ?_ -- region 3 dfa.go:31
  refine wl (ro_assign rfl) ?_
  refine wl_nil (x_then (hK5 _ _ ?_))
  clear hK5 K5
  refine c_block ?_
  -- loop@r4: live slots [1, 2]
  refine c_loopG (fun m a' w' => ∃ (k : Nat) (g : Nat → Value), m = 1536 - k ∧ k ≤ 1536 ∧ (∀ j, j < k → g j = icv (-1)) ∧ Blk w'.heap db [.slice none 0 0, u64c 0, u64c 0, u64c 0, u64c 0, u64c 0, u64c 0, u64c 0, u64c 0, u64c 0, icv 0, sl nx 1536, .slice none 0 0, icv 0, icv 0, icv 0] 112 ∧ FB w'.heap nx 1536 g 3 ∧ Fram none' w w' ∧ ∃ e, a' = Fr 29 (upds e [(1, ptr db), (2, i64c k)]) []) 1536 ⟨0, _, rfl, by omega, fun j h ↦ by omega, hB, hN, hF, kp _ ⟨rfl, rfl, trivial⟩⟩ ?_
  clear hB hN hF
  rintro m a' w1 ⟨k, g, rfl, hk, hg, hB, hN, hF, e, rfl⟩
  refine c_seq (fun K6 hK6 => ?_)
  refine c_seq (fun K7 hK7 => ?_)
  refine c_reg ?_ -- region 4 dfa.go:31
  refine wl (ro_move rfl) ?_
  refine wl (ro_move rfl) ?_
  refine wl (ro_nilCheck rfl) ?_
  refine wl (ro_fieldAddr (k := 11) rfl fo_112_6) ?_
  refine wl (ro_loadB rfl sc_97 (hB) (rfl)) ?_
  refine wl (ro_lenL rfl se_97) ?_
  refine wl (ro_cmp (r := decide (k < 1536)) rfl rfl (congrArg some (decide_eq_decide.2 (by omega)))) ?_
  refine wl_nil (x_then (hK7 _ _ ?_))
  clear hK7 K7
  refine wc_cond rfl (fun hc15 => ?_) (fun hc15 => ?_)
  · try simp only [decide_eq_true_eq, decide_eq_false_iff_not, Bool.not_eq_true', Bool.not_eq_false', Bool.not_eq_eq_eq_not, Bool.not_true, Bool.not_false, beq_iff_eq, bne_iff_ne, ne_eq, beq_eq_false_iff_ne, bne_eq_false_iff_eq, gt_iff_lt, ge_iff_le, Int.not_lt, Int.not_le] at hc15
    refine c_skip (x_then (hK6 _ _ ?_))
    clear hK6 K6
    refine forget [(1, _), (2, _)] ⟨rfl, rfl, trivial⟩ (fun e => ?_)
    refine c_seq (fun K8 hK8 => ?_)
    refine c_block ?_
    refine c_reg ?_ -- region 6 dfa.go:32
    refine wl (ro_move rfl) ?_
    refine wl (ro_nilCheck rfl) ?_
    refine wl (ro_fieldAddr (k := 11) rfl fo_112_6) ?_
    refine wl (ro_loadB rfl sc_97 (hB) (rfl)) ?_
    refine wl (ro_move rfl) ?_
    refine wl (ro_indexAddr (et := 3) (k := 1) rfl rfl se_97 (rfl) ((by omega : k < 1536))) ?_
    refine wl_put rfl rfl rfl sz_3 hN ((cel_lt (by omega))) ((cel_put k (by omega))) (fun w4 hN F4 => ?_)
    replace hF := hF.thenDrew.thenO F4 (by first | exact .inr (by omega) | exact .inl rfl | exact .inl (by assumption))
    replace hB := F4.blkO hB (by omega)
    refine wl_nil (x_blk (x_then (hK8 _ _ ?_)))
    clear hK8 K8
    refine c_reg ?_ -- region 5 dfa.go:31
    refine wl (ro_move rfl) ?_
    refine wl (ro_arith rfl rfl rfl (Go.IntWalk.i64_in _ (by omega))) ?_
    refine wl (ro_assign rfl) ?_
    refine wl_nil (x_then ?_)
    refine ⟨1536 - (k + 1), by omega, k + 1, _, rfl, by omega, ?_, hB, hN, hF, kp _ ⟨rfl, rfl, trivial⟩⟩
    intro j hj
    by_cases h : j = k
    · subst h; rw [pt_same]
    · rw [pt_ne h]; exact hg j (by omega)
  · try simp only [decide_eq_true_eq, decide_eq_false_iff_not, Bool.not_eq_true', Bool.not_eq_false', Bool.not_eq_eq_eq_not, Bool.not_true, Bool.not_false, beq_iff_eq, bne_iff_ne, ne_eq, beq_eq_false_iff_ne, bne_eq_false_iff_eq, gt_iff_lt, ge_iff_le, Int.not_lt, Int.not_le] at hc15
    refine c_exit (x_thenX (x_thenX (x_blkX (x_then (hK4 _ _ ?_)))))
    clear hK6 K6 hK4 K4
    refine forget [(1, _)] ⟨rfl, trivial⟩ (fun e => ?_)
    refine c_seq (fun K9 hK9 => ?_)
    refine c_reg ?_ -- region 7 dfa.go:34
    refine wl (ro_move rfl) ?_
    refine wl_make (len := 64) (cap := 64) rfl rfl se_97 ze_3 (by simp) (by omega) (by omega) rfl bb_3 (fun sk w5 hbsk hK F5 => ?_)
    have hbssk := Nat.le_trans hF.size hbsk
    have hnedbsk : db < sk := Nat.lt_of_lt_of_le hB.lt hbsk
    have hnenxsk : nx < sk := Nat.lt_of_lt_of_le hN.lt hbsk
    replace hF := hF.thenDrew.thenN F5
    replace hB := F5.blkN hB
    replace hN := F5.blkN hN
    refine wl (ro_nilCheck rfl) ?_
    refine wl (ro_fieldAddr (k := 12) rfl fo_112_7) ?_
    refine wl_put rfl rfl rfl sz_97 hB ((by simp)) (rfl) (fun w6 hB F6 => ?_)
    replace hF := hF.thenDrew.thenO F6 (by first | exact .inr (by omega) | exact .inl rfl | exact .inl (by assumption))
    replace hN := F6.blkO hN (by omega)
    replace hK := F6.blkO hK (by omega)
    refine wl_nil (x_then (hK9 _ _ ?_))
    clear hK9 K9
    refine forget [(1, _)] ⟨rfl, trivial⟩ (fun e => ?_)
    refine c_seq (fun K10 hK10 => ?_)
    refine c_reg ?_ -- region 8 dfa.go:35
    refine wl (ro_move rfl) ?_
    refine wl (ro_assign rfl) ?_
    refine wl_nil (x_then (hK10 _ _ ?_))
    clear hK10 K10
    refine c_ret ?_
    refine bp_ret Tryz.results17 rfl ?_
    exact ⟨⟨db, nx, sk⟩, rfl, by show w.heap.size ≤ db; omega, ⟨by show db < nx; omega, by show nx < sk; omega⟩, ⟨_, ⟨0, 0, 0, fun _ => 0, 0, 0, 0, 0⟩, g, hB, hN, ⟨_, hK⟩, fun i _ => by show 0 < 2 ^ 64; omega, by show 0 ≤ 6; omega, by show 0 ≤ 0; omega, by show 0 ≤ 0; omega, by show 0 ≤ 0; omega, ⟨by show db < nx; omega, by show nx < sk; omega⟩, fun c b hc hb _ => hg _ (by omega), .inl rfl⟩, hF⟩

end Go.Proofs.Qxb6500567aGreat
