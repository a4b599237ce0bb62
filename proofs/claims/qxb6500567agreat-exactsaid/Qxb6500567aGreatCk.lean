import Derived.Test.Qxb6500567aGreatCj
/- The model's parser: choices; the whole descent. -/
namespace Go.Proofs.Qxb6500567aGreat
set_option linter.unusedVariables false
set_option linter.unusedSimpArgs false

theorem PM.li' {w w' : World} {rb : Nat} {p : List UInt8} {B m : Nat} {T : List RE} {VN v : Value} {X X1 : PRes} {Y : Nat → RE → Nat → Nat → Nat → Prop} (h : PM w rb p B T VN X1 v w') (he : ∀ e, X1 = .error e → X = .error e ∧ e.1 ≠ 0) (ho : ∀ x j n g, X1 = .ok (x, j, n, g) → Y m x j n g) : ∃ m0, m0 ≤ m ∧ LI w rb p B T VN X Y m0 v w' := by
  cases X1 with
  | error e => obtain ⟨⟨z, hz⟩, h2⟩ := h; exact ⟨0, Nat.zero_le _, .inr ⟨rfl, e, z, (he e rfl).1, (he e rfl).2, hz, h2⟩⟩
  | ok r =>
    obtain ⟨x, j, n, g⟩ := r
    obtain ⟨T', VN', xs', k, h1, h2, h3, h4, h5⟩ := h
    exact ⟨m, Nat.le_refl _, .inl ⟨x, j, n, g, T', VN', xs', k, h1, h2, h3, h4, h5, ho x j n g rfl⟩⟩

set_option maxHeartbeats 4000000 in
theorem alt89 {w : World} {rb : Nat} {p : List UInt8} {f d i n g : Nat} {T : List RE} {VN : Value} {xs : List Value} {X : PRes} (hA : ∀ f', f' < f → CatC p f') (M : MV w rb p i n g T VN xs) (hd : d ≤ 5) (hX : pd p f (.alt d) i n g = X) (hE : ∀ e, X = .error e → e.1 ≠ 0) :
    Ret Tryz.prog 89 [ptr rb, i64c d] w (fun v w' => PM w rb p (p.length + 10 - d) T VN X v w' ∧ Fram (mfr rb VN) w w') := by
  have hpl := M.pl
  have hmr : mfr rb VN rb := .inl rfl
  obtain ⟨f, rfl⟩ : ∃ k, f = k + 1 := pd_pos hX hE
  rw [pd_alt] at hX
  have hE2 : ∀ e, pd p f (.catL d none) i n g = .error e → e.1 ≠ 0 := fun e h => hE e (by rw [← hX, h])
  refine ret_of Tryz.func89 rfl Tryz.ntmps89 rfl ?_
  refine c_seq (fun K1 hK1 => ?_)
  refine c_reg ?_ -- region 0 syntaxm.go:48
  refine wl (ro_assign rfl) ?_
  refine wl_nil (x_then (hK1 _ _ ?_))
  clear hK1 K1
  refine forget [(0, _), (1, _)] ⟨rfl, rfl, trivial⟩ (fun e => ?_)
  refine c_seq (fun K2 hK2 => ?_)
  refine c_reg ?_ -- region 1 syntaxm.go:49
  refine wl (ro_move rfl) ?_
  refine wl (ro_move rfl) ?_
  refine wl_call rfl en_114 (hA f (by omega) w rb d i n g T VN xs _ M hd rfl hE2) ?_
  rintro v w1 ⟨hP, hF⟩
  obtain ⟨m0, hm0, hI⟩ := hP.li' (X := X) (m := f) (Y := fun m x j n g => pd p m (.altL d x) j n g = X) (fun e h => ⟨by rw [← hX, h], hE2 e h⟩) (fun x j n g h => by rw [← hX, h])
  clear hP hX
  refine wl (ro_assign rfl) ?_
  refine wl_nil (x_then (hK2 _ _ ?_))
  clear hK2 K2
  refine forget [(0, _), (1, _), (5, _)] ⟨rfl, rfl, rfl, trivial⟩ (fun e => ?_)
  refine c_seq (fun K3 hK3 => ?_)
  refine c_block ?_
  -- loop@r2: live slots [0, 1, 5]
  refine c_loopG (fun m a' w' => m ≤ f ∧ ∃ v, LI w rb p (p.length + 10 - d) T VN X (fun m x j n g => pd p m (.altL d x) j n g = X) m v w' ∧ Fram (mfr rb VN) w w' ∧ ∃ e, a' = Fr 35 (upds e [(0, ptr rb), (1, i64c d), (5, v)]) []) m0 ⟨hm0, v, hI, hF, kp _ ⟨rfl, rfl, rfl, trivial⟩⟩ ?_
  clear hI hF v
  rintro m a' w2 ⟨hmf, v, hI, hF, e, rfl⟩
  refine c_seq (fun K4 hK4 => ?_)
  refine c_seq (fun K5 hK5 => ?_)
  rcases hI with ⟨x, j, n1, g1, T1, VN1, xs1, k, rfl, hTk, M1, hn1, hU1, hX⟩ | ⟨rfl, e1, z, hX, he1, rfl, k1, a1, l1, c1, gg1, hk1, hB⟩
  · skip
    have hB := M1.blk
    have hG : Fram (one rb) w2 w2 := Fram.refl _ _
    have hjl := M1.il
    obtain ⟨m, rfl⟩ : ∃ k, m = k + 1 := pd_pos hX hE
    rw [pd_altL] at hX
    refine c_reg ?_ -- region 2 syntaxm.go:50
    refine wl (ro_move rfl) ?_
    refine wl (ro_nilCheck rfl) ?_
    refine wl (ro_fieldAddr (k := 4) rfl fo_187_4) ?_
    refine wl (ro_loadB rfl sc_53 (hB) (rfl)) ?_
    refine wl (ro_cmp (r := true) rfl rfl rfl) ?_
    refine wl (ro_move rfl) ?_
    refine wlg_yes rfl (ro_move rfl) ?_
    refine wlg_call rfl rfl en_115 (is115 (c := 124) hB) ?_
    rintro _ w5 ⟨rfl, F5⟩
    replace hF := hF.thenN F5
    replace hG := hG.thenN F5
    replace hB := F5.blkN hB
    refine wl (ro_pick rfl rfl rfl) ?_
    refine wl_nil (x_then (hK5 _ _ ?_))
    clear hK5 K5
    refine wc_cond rfl (fun hc18 => ?_) (fun hc18 => ?_)
    · try simp only [decide_eq_true_eq, decide_eq_false_iff_not, Bool.not_eq_true', Bool.not_eq_false', Bool.not_eq_eq_eq_not, Bool.not_true, Bool.not_false, beq_iff_eq, bne_iff_ne, ne_eq, beq_eq_false_iff_ne, bne_eq_false_iff_eq, gt_iff_lt, ge_iff_le, Int.not_lt, Int.not_le] at hc18
      have h124 : p[j]? = some 124 := hc18
      have hlt := get_lt h124
      rw [if_pos h124] at hX
      have hE4 : ∀ e, pd p m (.catL d none) (j + 1) n1 g1 = .error e → e.1 ≠ 0 := fun e h => hE e (by rw [← hX, h])
      refine c_skip (x_then (hK4 _ _ ?_))
      clear hK4 K4
      refine c_block ?_
      refine forget [(0, _), (1, _), (5, _), (16, _), (17, _)] ⟨rfl, rfl, rfl, rfl, rfl, trivial⟩ (fun e => ?_)
      refine c_seq (fun K6 hK6 => ?_)
      refine c_reg ?_ -- region 3 syntaxm.go:51
      refine wl (ro_move rfl) ?_
      refine wl (ro_nilCheck rfl) ?_
      refine wl (ro_fieldAddr (k := 1) rfl fo_187_1) ?_
      refine wl (ro_loadB rfl sc_3 (hB) (rfl)) ?_
      refine wl (ro_arith rfl rfl rfl (Go.IntWalk.i64_in _ (by omega))) ?_
      refine wl (ro_nilCheck rfl) ?_
      refine wl (ro_fieldAddr (k := 1) rfl fo_187_1) ?_
      refine wl_put rfl rfl rfl sz_3 hB ((by simp)) (rfl) (fun w1 hB F1 => ?_)
      replace hF := hF.thenDrew.thenO F1 (by first | exact .inr (by omega) | exact .inl rfl | exact .inl (by assumption))
      replace hG := hG.thenDrew.thenO F1 (by first | exact .inr (by omega) | exact .inl rfl | exact .inl (by assumption))
      refine wl_nil (x_then (hK6 _ _ ?_))
      clear hK6 K6
      refine forget [(0, _), (1, _), (5, _), (16, _), (17, _)] ⟨rfl, rfl, rfl, rfl, rfl, trivial⟩ (fun e => ?_)
      refine c_seq (fun K7 hK7 => ?_)
      refine c_reg ?_ -- region 4 syntaxm.go:52
      refine wl (ro_move rfl) ?_
      refine wl (ro_move rfl) ?_
      refine wl_call rfl en_114 (hA m (by omega) _ rb d (j + 1) n1 g1 T1 VN1 xs1 _ (M1.at (i' := j + 1) hB hG (by omega)) hd rfl hE4) ?_
      rintro v4 w4 ⟨hP4, F4⟩
      have hF3 := hF
      replace hF := hF3.mfrM F4 hn1
      clear hB
      refine wl (ro_assign rfl) ?_
      refine wl_nil (x_then (hK7 _ _ ?_))
      clear hK7 K7
      rcases hR4 : pd p m (.catL d none) (j + 1) n1 g1 with e4 | ⟨x4, j4, n4, g4⟩
      · skip
        rw [hR4] at hP4 hX
        obtain ⟨⟨z4, rfl⟩, k4, a4, l4, c4, gg4, hk4, hB⟩ := hP4
        clear hG
        have hG : Fram (one rb) w4 w4 := Fram.refl _ _
        refine c_reg ?_ -- region 5 syntaxm.go:53
        refine wl (ro_move rfl) ?_
        refine wl (ro_move rfl) ?_
        refine wl (ro_move rfl) ?_
        refine wl (ro_build rfl bld_89_0_1_2) ?_
        rw [nd0]
        refine wl_call rfl en_116 (add116e (e := e4) (B := p.length + 10 - d) ⟨k4, a4, l4, c4, gg4, by omega, hB⟩ (hE4 e4 hR4)) ?_
        rintro _ w9 ⟨rfl, hE9, F9⟩
        replace hF := hF.mfrN F9
        refine wl (ro_assign rfl) ?_
        refine wl_nil (x_blk (x_then ?_))
        exact ⟨0, by omega, by omega, _, .inr ⟨rfl, e4, -1, hX.symm, hE4 e4 hR4, rfl, hE9⟩, hF, kp _ ⟨rfl, rfl, rfl, trivial⟩⟩
      · skip
        rw [hR4] at hP4 hX
        obtain ⟨T4, VN4, xs4, k4, rfl, hTk4, M4, hn4, U4, rfl⟩ := hP4
        clear hG
        have hG : Fram (one rb) w4 w4 := Fram.refl _ _
        have hB := M4.blk
        have hl1 := ND.u (cs := []) hTk
        have hTl4 : (T1 ++ U4)[k]? = some x := by rw [List.getElem?_append_left hl1]; exact hTk
        have htl := M4.tl
        have hlk := ND.u (cs := []) hTk4
        have hll := ND.u (cs := []) hTl4
        have hj4 := M4.il
        refine c_reg ?_ -- region 5 syntaxm.go:53
        refine wl (ro_move rfl) ?_
        refine wl (ro_move rfl) ?_
        refine wl (ro_move rfl) ?_
        refine wl (ro_build rfl bld_89_0_1_2) ?_
        rw [nd0]
        refine wl_call rfl en_116 (add116 (r := .alt x x4) M4 ⟨k, k4, by omega, by omega, hTl4, hTk4, rfl⟩) ?_
        rintro v9 w9 ⟨hA9, F9⟩
        obtain ⟨m9, hm9, hI9⟩ := hA9.li (w := w) (T := T) (B := p.length + 10 - d) (X := X) (m := m) (Y := fun m x j n g => pd p m (.altL d x) j n g = X) htl (hn1.trans hn4 hF3) hF (by obtain ⟨U1, rfl⟩ := hU1; exact ⟨U1 ++ U4, by simp⟩) (by omega) (fun h => by simp only [if_pos h] at hX; exact hX.symm) (fun h => by simp only [if_neg (show ¬ 24 ≤ n4 by omega)] at hX; exact hX)
        replace hF := hF.mfrM F9 (hn1.trans hn4 hF3)
        refine wl (ro_assign rfl) ?_
        refine wl_nil (x_blk (x_then ?_))
        exact ⟨m9, by omega, by omega, _, hI9, hF, kp _ ⟨rfl, rfl, rfl, trivial⟩⟩
    · try simp only [decide_eq_true_eq, decide_eq_false_iff_not, Bool.not_eq_true', Bool.not_eq_false', Bool.not_eq_eq_eq_not, Bool.not_true, Bool.not_false, beq_iff_eq, bne_iff_ne, ne_eq, beq_eq_false_iff_ne, bne_eq_false_iff_eq, gt_iff_lt, ge_iff_le, Int.not_lt, Int.not_le] at hc18
      have h124 : ¬ p[j]? = some 124 := hc18
      rw [if_neg h124] at hX
      refine c_exit (x_thenX (x_thenX (x_blkX (x_then (hK3 _ _ ?_)))))
      clear hK4 K4 hK3 K3
      refine forget [(5, _)] ⟨rfl, trivial⟩ (fun e => ?_)
      refine c_seq (fun K8 hK8 => ?_)
      refine c_reg ?_ -- region 6 syntaxm.go:55
      refine wl (ro_move rfl) ?_
      refine wl (ro_assign rfl) ?_
      refine wl_nil (x_then (hK8 _ _ ?_))
      clear hK8 K8
      refine c_ret ?_
      refine bp_ret Tryz.results89 rfl ?_
      exact ⟨by rw [← hX]; exact ⟨T1, VN1, xs1, k, rfl, hTk, M1.at hB hG hjl, hn1, hU1⟩, hF⟩
  · skip
    have hG : Fram (one rb) w2 w2 := Fram.refl _ _
    refine c_reg ?_ -- region 2 syntaxm.go:50
    refine wl (ro_move rfl) ?_
    refine wl (ro_nilCheck rfl) ?_
    refine wl (ro_fieldAddr (k := 4) rfl fo_187_4) ?_
    refine wl (ro_loadB rfl sc_53 (hB) (rfl)) ?_
    refine wl (ro_cmp (r := false) rfl rfl (congrArg some ((beqc e1.1 0).trans (decide_eq_false he1)))) ?_
    refine wl (ro_move rfl) ?_
    refine wlg_no rfl ?_
    refine wlg_no rfl ?_
    refine wl (ro_pick rfl rfl rfl) ?_
    refine wl_nil (x_then (hK5 _ _ ?_))
    clear hK5 K5
    refine wc_condF rfl ?_
    refine c_exit (x_thenX (x_thenX (x_blkX (x_then (hK3 _ _ ?_)))))
    clear hK4 K4 hK3 K3
    refine forget [(5, _)] ⟨rfl, trivial⟩ (fun e => ?_)
    refine c_seq (fun K9 hK9 => ?_)
    refine c_reg ?_ -- region 6 syntaxm.go:55
    refine wl (ro_move rfl) ?_
    refine wl (ro_assign rfl) ?_
    refine wl_nil (x_then (hK9 _ _ ?_))
    clear hK9 K9
    refine c_ret ?_
    refine bp_ret Tryz.results89 rfl ?_
    exact ⟨PM.er hX ⟨z, rfl⟩ ⟨k1, a1, l1, c1, gg1, by omega, hB⟩, hF⟩

theorem altC (p : List UInt8) : ∀ f, AltC p f := by
  intro f
  induction f using Nat.strongRecOn with
  | ind f ih =>
  have hAtom : ∀ f', f' < f + 1 → AtomC p f' := by
    intro f' hf'
    intro w rb d i n g T VN xs X b M hb hd hX hE
    obtain ⟨k, rfl⟩ : ∃ k, f' = k + 1 := pd_pos hX hE
    exact atom144 (ih k (by omega)) M hb hd hX hE
  have hRep : ∀ f', f' < f + 1 → RepC p f' := fun f' hf' w rb d i n g T VN xs X b M hb hd hX hE => rep133 (hAtom f' hf') M hb hd hX hE
  have hCat : ∀ f', f' < f + 1 → CatC p f' := fun f' hf' w rb d i n g T VN xs X M hd hX hE => cat114 (fun k hk => hRep k (by omega)) M hd hX hE
  intro w rb d i n g T VN xs X M hd hX hE
  exact alt89 (fun k hk => hCat k (by omega)) M hd hX hE

end Go.Proofs.Qxb6500567aGreat
