import Derived.Test.Qxb6500568aGreatDoorXe
/- The model's parser: expressions rank by rank. -/
namespace Go.Proofs.Qxb6500568aGreatDoor
open Ieee
set_option linter.unusedVariables false
set_option linter.unusedSimpArgs false

section
variable {lv ρ : Nat} {s s1 s2 : PS} {x y : Tr} {R : PO}
theorem run_expr {f : Nat} {o : PO} (h : Run 2 lv 0 0 dumT s o) : (∀ e, o = .inl e → Run 0 lv ρ 0 dumT s (.inl e)) ∧ ∀ x s1 R, o = .inr (x, s1) → Run 1 lv ρ 0 x s1 R → Run 0 lv ρ 0 dumT s R := by
  obtain ⟨g, h⟩ := h
  constructor
  · rintro e rfl
    refine run_step.2 ⟨g, ?_⟩
    show pExpr (parP g) lv ρ s = _
    unfold pExpr
    rw [h]
    rfl
  · rintro x s1 R rfl ⟨k, h2⟩
    refine run_step.2 ⟨max g k, ?_⟩
    show pExpr (parP (max g k)) lv ρ s = _
    unfold pExpr
    rw [par_mono (Nat.le_max_left g k) _ _ _ _ _ _ _ h]
    exact par_mono (Nat.le_max_right g k) _ _ _ _ _ _ _ h2
theorem run_expr' (h : Run 0 lv ρ 0 dumT s R) : ∃ o, Run 2 lv 0 0 dumT s o ∧ match o with | .inl e => R = .inl e | .inr (x, s1) => Run 1 lv ρ 0 x s1 R := by
  obtain ⟨f, h⟩ := run_step.1 h
  replace h : pExpr (parP f) lv ρ s = some R := h
  unfold pExpr at h
  rcases bdP_some h with ⟨e, hq, rfl⟩ | ⟨x0, s0, hq, h⟩
  · exact ⟨_, ⟨f, hq⟩, rfl⟩
  · exact ⟨_, ⟨f, hq⟩, f, h⟩
theorem run_rank (h : Run 0 lv ρ 0 dumT s R) : ∃ R1, Run 0 lv (ρ + 1) 0 dumT s R1 ∧ match R1 with | .inl e => R = .inl e | .inr (x, s1) => Run 1 lv ρ 0 x s1 R ∧ ¬ (isBin s1.k = true ∧ ρ + 1 ≤ rankK s1.k) := by
  obtain ⟨o, h2, h3⟩ := run_expr' h
  have h4 := run_expr (f := 0) (ρ := ρ + 1) h2
  rcases o with e | ⟨x0, s0⟩
  · exact ⟨_, h4.1 e rfl, h3⟩
  · obtain ⟨R1, g, hg⟩ := Run.total 1 lv (ρ + 1) 0 x0 s0 (fun e => absurd e (by decide)) (fun e => absurd e (by decide))
    refine ⟨R1, h4.2 x0 s0 R1 rfl ⟨g, hg⟩, ?_⟩
    obtain ⟨g1, g2⟩ := climb_comp g hg
    rcases R1 with e | ⟨x1, s1⟩
    · exact Run.uniq h3 (g1 e rfl)
    · obtain ⟨R2, hR2⟩ := Run.total 1 lv ρ 0 x1 s1 (fun e => absurd e (by decide)) (fun e => absurd e (by decide))
      have h5 := g2 x1 s1 R2 rfl hR2
      have h6 := Run.uniq h3 h5
      subst h6
      exact ⟨hR2, climb_end g hg⟩
theorem run_end (h : Run 0 lv ρ 0 dumT s (.inr (y, s2))) : ¬ (isBin s2.k = true ∧ ρ ≤ rankK s2.k) := by
  obtain ⟨o, h2, h3⟩ := run_expr' h
  rcases o with e | ⟨x0, s0⟩
  · cases h3
  · obtain ⟨g, h3⟩ := h3
    exact climb_end g h3
theorem rank_go (h : Run 1 lv ρ 0 x s1 R) (hno : ¬ (isBin s1.k = true ∧ ρ + 1 ≤ rankK s1.k)) (h4 : ρ ≠ 4) : if isBin s1.k = true ∧ rankK s1.k = ρ then ∃ R1, Run 0 lv (ρ + 1) 0 dumT s1.adv R1 ∧ (match R1 with | .inl e => R = .inl e | .inr (y, s2) => Run 1 lv ρ 0 (binT s1.k x y) s2 R ∧ ¬ (isBin s2.k = true ∧ ρ + 1 ≤ rankK s2.k)) else R = .inr (x, s1) := by
  rw [run_climb] at h
  by_cases hc : isBin s1.k = true ∧ rankK s1.k = ρ
  · rw [if_pos hc]
    rw [if_pos ⟨hc.1, by omega⟩] at h
    unfold RunY at h
    rw [hc.2] at h
    simp only [if_neg h4] at h
    rcases h with ⟨e, h1, h2⟩ | ⟨y, s2, h1, h2⟩
    · exact ⟨_, h1, h2⟩
    · exact ⟨_, h1, h2, run_end h1⟩
  · rw [if_neg hc]
    rw [if_neg (fun q => by
      have : ¬ ρ + 1 ≤ rankK s1.k := fun z => hno ⟨q.1, z⟩
      exact hc ⟨q.1, by omega⟩)] at h
    exact h
theorem run_7 (h : Run 0 lv 7 0 dumT s R) : Run 2 lv 0 0 dumT s R := by
  obtain ⟨o, h2, h3⟩ := run_expr' h
  rcases o with e | ⟨x0, s0⟩
  · have h3 : R = .inl e := h3
    rw [h3]; exact h2
  · have h3 : Run 1 lv 7 0 x0 s0 R := h3
    rw [run_climb, if_neg (fun q => by have := rankK_le s0.k; omega)] at h3
    rw [h3]; exact h2
theorem isBin_iff (k : Nat) : isBin k = true ↔ 22 ≤ k ∧ k ≤ 36 := by unfold isBin; simp
theorem rank_and (k : Nat) : (isBin k = true ∧ rankK k = 2) ↔ k = 23 := by
  rw [isBin_iff]
  unfold rankK
  repeat' split
  all_goals omega
theorem rank_or (k : Nat) : (isBin k = true ∧ rankK k = 1) ↔ k = 22 := by
  rw [isBin_iff]
  unfold rankK
  repeat' split
  all_goals omega
theorem rank_cat (k : Nat) : (isBin k = true ∧ rankK k = 4) ↔ k = 30 := by
  rw [isBin_iff]
  unfold rankK
  repeat' split
  all_goals omega
theorem bop_rank {k r : Nat} (hr : r = 1 ∨ r = 3 ∨ r = 4) : bopR k = r ↔ isBin k = true ∧ rankK k = r + 2 := by
  rw [isBin_iff]
  unfold bopR rankK
  repeat' split
  all_goals omega
theorem bop_ne {k r : Nat} (hr : r = 1 ∨ r = 3 ∨ r = 4) (h : bopR k = r) : bopO k ≠ 0 ∧ bopO k ≤ 16 ∧ binT k x y = Ex.bin (bopO k) x y := by
  unfold bopR at h
  unfold bopO binT
  by_cases h1 : 24 ≤ k ∧ k ≤ 29
  · rw [if_pos h1, if_neg (by omega), if_neg (by omega), if_pos (by omega)]
    exact ⟨by omega, by omega, rfl⟩
  · rw [if_neg h1] at h
    have h2 : 31 ≤ k ∧ k ≤ 36 := by
      by_cases h2 : 31 ≤ k ∧ k ≤ 32
      · omega
      · rw [if_neg h2] at h
        by_cases h3 : 33 ≤ k ∧ k ≤ 36
        · omega
        · rw [if_neg h3] at h; omega
    rw [if_neg h1, if_pos h2, if_neg (by omega), if_neg (by omega), if_neg (by omega), if_neg (by omega)]
    exact ⟨by omega, by omega, rfl⟩
end
set_option maxHeartbeats 8000000 in
theorem andE212 {n : Nat} {w : World} {mp : Nat} {np : Value} {src : Str} {U : Value} {G : List (Nd × Nat)} {s : PS} {lv : Nat} {R : PO} (ih : MAll n) (hG : MG w mp np src U G s lv) (hlv12 : lv ≤ 12) (hn : 20 * s.len + 9 ≤ n + 1) (hR : Run 0 lv 2 0 dumT s R) : Ret Tryz.prog 212 [ptr mp, i64c lv] w (MR w mp np src lv U G R) := by
  have hA := hG.a
  have hM := hA.v
  have hl13 := hG.l13
  have hlo := hG.lo
  have hbd := hG.bd
  have hF : Fram (arS mp U) w w := Fram.refl _ _
  obtain ⟨R0, hR0, hRR⟩ := run_rank hR
  refine ret_of Tryz.func212 rfl Tryz.ntmps212 rfl ?_
  refine c_seq (fun K1 hK1 => ?_)
  refine c_reg ?_ -- region 0 syntaxm.go:754
  refine wl (ro_assign rfl) ?_
  refine wl_nil (x_then (hK1 _ _ ?_))
  clear hK1 K1
  refine forget [(0, _), (1, _)] ⟨rfl, rfl, trivial⟩ (fun e => ?_)
  refine c_seq (fun K2 hK2 => ?_)
  rcases R0 with ⟨ee, pp⟩ | ⟨x0, s0⟩
  · skip
    refine c_reg ?_ -- region 1 syntaxm.go:755
    refine wl (ro_move rfl) ?_
    refine wl (ro_move rfl) ?_
    refine wl_call rfl en_252 (ih.lf (r := 1) hG (.inl hlv12) (by decide) (by decide) (by omega) hR0) ?_
    rintro v u3 ⟨F3, ⟨z, rfl⟩, hE⟩
    replace hF := ar_trans hF (fun b q => .inl q) F3
    have hE0 := hE
    obtain ⟨np', src', pos', t', U', al', lo', fu', hXe, h1, h2, h3, h4⟩ := hE
    unfold mpc at hXe
    refine wl (ro_assign rfl) ?_
    refine wl_nil (x_then (hK2 _ _ ?_))
    clear hK2 K2
    refine forget [(0, _), (1, _), (5, _)] ⟨rfl, rfl, rfl, trivial⟩ (fun e => ?_)
    refine c_seq (fun K3 hK3 => ?_)
    refine c_block ?_
    -- loop@r2: live slots [0, 1, 5]
    refine c_loopG (fun n a' w' => n = 0 ∧ w' = u3 ∧ ∃ e, a' = Fr 42 (upds e [(0, ptr mp), (5, .int .i64 z)]) []) 0 ⟨rfl, rfl, kp _ ⟨rfl, rfl, trivial⟩⟩ ?_
    rintro n a' w1 ⟨rfl, e9, e, rfl⟩
    replace e9 := e9.symm
    subst e9
    refine c_seq (fun K4 hK4 => ?_)
    refine c_seq (fun K5 hK5 => ?_)
    refine c_reg ?_ -- region 2 syntaxm.go:756
    refine wl (ro_move rfl) ?_
    refine wl (ro_nilCheck rfl) ?_
    refine wl (ro_fieldAddr (k := 9) rfl fo_146_5) ?_
    refine wl (ro_loadB rfl sc_54 (by assumption) rfl) ?_
    refine wl (ro_cmp (r := false) rfl rfl (congrArg some (beq_eq_false_iff_ne.2 (by omega)))) ?_
    refine wl (ro_move rfl) ?_
    refine wlg_no rfl ?_
    refine wlg_no rfl ?_
    refine wl (ro_pick rfl rfl rfl) ?_
    refine wl_nil (x_then (hK5 _ _ ?_))
    clear hK5 K5
    refine wc_condF rfl ?_
    refine c_exit (x_thenX (x_thenX (x_blkX (x_then (hK3 _ _ ?_)))))
    clear hK4 K4 hK3 K3
    refine forget [(5, _)] ⟨rfl, trivial⟩ (fun e => ?_)
    refine c_seq (fun K6 hK6 => ?_)
    refine c_reg ?_ -- region 9 syntaxm.go:765
    refine wl (ro_move rfl) ?_
    refine wl (ro_assign rfl) ?_
    refine wl_nil (x_then (hK6 _ _ ?_))
    clear hK6 K6
    refine c_ret ?_
    refine bp_ret Tryz.results212 rfl ?_
    cases hRR
    exact ⟨hF, ⟨_, rfl⟩, hE0⟩
  · skip
    refine c_reg ?_ -- region 1 syntaxm.go:755
    refine wl (ro_move rfl) ?_
    refine wl (ro_move rfl) ?_
    refine wl_call rfl en_252 (ih.lf (r := 1) hG (.inl hlv12) (by decide) (by decide) (by omega) hR0) ?_
    rintro v u3 ⟨F3, rfl, U3, G3, hA3, hn3, hm3, hl3⟩
    replace hF := ar_trans hF (fun b q => .inl q) F3
    obtain ⟨hQE, hSm, hlv, hIB⟩ := MG.run0 hR0 hG.pe
    have hlo0 := hSm.lo
    refine wl (ro_assign rfl) ?_
    refine wl_nil (x_then (hK2 _ _ ?_))
    clear hK2 K2
    refine forget [(0, _), (1, _), (5, _)] ⟨rfl, rfl, rfl, trivial⟩ (fun e => ?_)
    refine c_seq (fun K7 hK7 => ?_)
    refine c_block ?_
    -- loop@r2: live slots [0, 1, 5]
    refine c_loopG (fun m a' w' => ∃ (x : Tr) (U1 : Value) (G1 : List (Nd × Nat)) (s1 : PS), m = s1.len ∧ Run 1 lv 2 0 x s1 R ∧ ¬ (isBin s1.k = true ∧ 2 + 1 ≤ rankK s1.k) ∧ MA w' mp np src U1 G1 s1 ∧ nob U U1 w ∧ G1.map Prod.fst = G.map Prod.fst ++ lay x G.length ∧ G1.length = G.length + ndT x ∧ 1 ≤ ndT x ∧ Pe s1 ∧ s1.lo ≤ lv ∧ G1.length + 3 * s1.len ≤ 10000 ∧ s1.len < s.len ∧ Fram (arS mp U) w w' ∧ ∃ e, a' = Fr 42 (upds e [(0, ptr mp), (1, i64c lv), (5, i64c (rt x G.length))]) []) s0.len ⟨x0, U3, G3, s0, rfl, hRR.1, hRR.2, hA3, hn3, hm3, hl3, hQE.ly.pos, hG.pe.cm hSm.toCm, by omega, by omega, by omega, hF, kp _ ⟨rfl, rfl, rfl, trivial⟩⟩ ?_
    clear hF hA hM hA3 hn3 hm3 hl3 hRR hR0 hR F3 hIB hQE hSm hlo0 hlv
    rintro m a' u1 ⟨x, U1, G1, s1, rfl, hR, hno, hA, hnb, hm, hl, hxp, hpe, hlo1, hbd1, hlen, hF, e, rfl⟩
    obtain ⟨pos, hX, hpos⟩ := hA.v.ex
    unfold mpc at hX
    refine c_seq (fun K8 hK8 => ?_)
    refine c_seq (fun K9 hK9 => ?_)
    refine c_reg ?_ -- region 2 syntaxm.go:756
    refine wl (ro_move rfl) ?_
    refine wl (ro_nilCheck rfl) ?_
    refine wl (ro_fieldAddr (k := 9) rfl fo_146_5) ?_
    refine wl (ro_loadB rfl sc_54 (by assumption) rfl) ?_
    refine wl (ro_cmp rfl rfl rfl) ?_
    refine wl (ro_move rfl) ?_
    refine wlg_yes rfl (ro_move rfl) ?_
    refine wlg_call rfl rfl en_156 (is156 (k := 23) hA.v (by decide) (by decide)) ?_
    rintro _ w9 ⟨rfl, e9⟩
    replace e9 := e9.symm
    subst e9
    have hgo := rank_go hR hno (by decide)
    refine wl (ro_pick rfl rfl rfl) ?_
    refine wl_nil (x_then (hK9 _ _ ?_))
    clear hK9 K9
    refine wc_cond rfl (fun hc19 => ?_) (fun hc19 => ?_)
    · try simp only [decide_eq_true_eq, decide_eq_false_iff_not, Bool.not_eq_true', Bool.not_eq_false', Bool.not_eq_eq_eq_not, Bool.not_true, Bool.not_false, beq_iff_eq, bne_iff_ne, ne_eq, beq_eq_false_iff_ne, bne_eq_false_iff_eq, gt_iff_lt, ge_iff_le, Int.not_lt, Int.not_le] at hc19
      rw [if_pos (by rw [show s1.k = 23 by omega]; decide)] at hgo
      obtain ⟨RY, hY, hRY⟩ := hgo
      refine c_skip (x_then (hK8 _ _ ?_))
      clear hK8 K8
      refine c_block ?_
      refine forget [(0, _), (1, _), (5, _), (17, _), (18, _)] ⟨rfl, rfl, rfl, rfl, rfl, trivial⟩ (fun e => ?_)
      refine c_seq (fun K10 hK10 => ?_)
      refine c_reg ?_ -- region 3 syntaxm.go:757
      refine wl (ro_move rfl) ?_
      refine wl (ro_nilCheck rfl) ?_
      refine wl (ro_fieldAddr (k := 3) rfl fo_146_3) ?_
      refine wl (ro_fieldAddr (k := 3) rfl fo_144_3) ?_
      refine wl (ro_loadB rfl sc_3 (by assumption) rfl) ?_
      refine wl (ro_assign rfl) ?_
      refine wl_nil (x_then (hK10 _ _ ?_))
      clear hK10 K10
      refine forget [(0, _), (1, _), (5, _), (6, _), (17, _), (18, _)] ⟨rfl, rfl, rfl, rfl, rfl, rfl, trivial⟩ (fun e => ?_)
      refine c_seq (fun K11 hK11 => ?_)
      refine c_reg ?_ -- region 4 syntaxm.go:758
      refine wl (ro_move rfl) ?_
      refine wl_call rfl en_48 (nextM hA.v (by omega)) ?_
      rintro _ u2 ⟨rfl, hM2, F2⟩
      replace hF := ar_one hF F2
      have hA2 := hA.turn hM2 F2
      have ha1 := adv_len' (s := s1) (by omega)
      have hpe2 := hpe.cm (Cm.adv hpe)
      have hG2 := hG.at (lv1 := lv) hA2 hpe2 hlo1 (by omega) (by omega) hl13
      refine wl_nil (x_then (hK11 _ _ ?_))
      clear hK11 K11
      refine forget [(0, _), (1, _), (5, _), (6, _), (17, _), (18, _)] ⟨rfl, rfl, rfl, rfl, rfl, rfl, trivial⟩ (fun e => ?_)
      refine c_seq (fun K12 hK12 => ?_)
      rcases RY with ⟨ee, pp⟩ | ⟨y, s2⟩
      · skip
        refine c_reg ?_ -- region 5 syntaxm.go:759
        refine wl (ro_move rfl) ?_
        refine wl (ro_move rfl) ?_
        refine wl_call rfl en_252 (ih.lf (r := 1) hG2 (.inl hlv12) (by decide) (by decide) (by omega) hY) ?_
        rintro v u3 ⟨F3, ⟨z, rfl⟩, hE⟩
        replace hF := ar_trans hF hnb F3
        have hE0 := hE
        obtain ⟨np', src', pos', t', U', al', lo', fu', hXe, h1, h2, h3, h4⟩ := hE
        unfold mpc at hXe
        refine wl (ro_assign rfl) ?_
        refine wl_nil (x_then (hK12 _ _ ?_))
        clear hK12 K12
        refine c_seq (fun K13 hK13 => ?_)
        refine c_seq (fun K14 hK14 => ?_)
        refine c_reg ?_ -- region 6 syntaxm.go:760
        refine wl (ro_move rfl) ?_
        refine wl (ro_nilCheck rfl) ?_
        refine wl (ro_fieldAddr (k := 9) rfl fo_146_5) ?_
        refine wl (ro_loadB rfl sc_54 (by assumption) rfl) ?_
        refine wl (ro_cmp rfl rfl rfl) ?_
        refine wl_nil (x_then (hK14 _ _ ?_))
        clear hK14 K14
        refine wc_cond rfl (fun hc34 => ?_) (fun hc34 => ?_)
        · try simp only [decide_eq_true_eq, decide_eq_false_iff_not, Bool.not_eq_true', Bool.not_eq_false', Bool.not_eq_eq_eq_not, Bool.not_true, Bool.not_false, beq_iff_eq, bne_iff_ne, ne_eq, beq_eq_false_iff_ne, bne_eq_false_iff_eq, gt_iff_lt, ge_iff_le, Int.not_lt, Int.not_le] at hc34
          refine c_seq (fun K15 hK15 => ?_)
          refine c_reg ?_ -- region 7 syntaxm.go:761
          refine wl (ro_assign rfl) ?_
          refine wl_nil (x_then (hK15 _ _ ?_))
          clear hK15 K15
          refine c_ret (x_thenR (x_blkR (x_thenR (x_blkR (x_thenR ?_)))))
          refine bp_ret Tryz.results212 rfl ?_
          cases hRY
          exact ⟨hF, ⟨_, rfl⟩, hE0⟩
        · try simp only [decide_eq_true_eq, decide_eq_false_iff_not, Bool.not_eq_true', Bool.not_eq_false', Bool.not_eq_eq_eq_not, Bool.not_true, Bool.not_false, beq_iff_eq, bne_iff_ne, ne_eq, beq_eq_false_iff_ne, bne_eq_false_iff_eq, gt_iff_lt, ge_iff_le, Int.not_lt, Int.not_le] at hc34
          omega
      · skip
        refine c_reg ?_ -- region 5 syntaxm.go:759
        refine wl (ro_move rfl) ?_
        refine wl (ro_move rfl) ?_
        refine wl_call rfl en_252 (ih.lf (r := 1) hG2 (.inl hlv12) (by decide) (by decide) (by omega) hY) ?_
        rintro v u3 ⟨F3, rfl, U3, G3, hA3, hn3, hm3, hl3⟩
        have hz2 : w.heap.size ≤ u2.heap.size := hF.size
        replace hF := ar_trans hF hnb F3
        replace hnb := nob_trans hnb hz2 hn3
        obtain ⟨hQE, hSm, hlv, hIB⟩ := MG.run0 hY hpe2
        have hlo2 : s2.lo = s1.lo := hSm.lo
        obtain ⟨pos3, hX3, hp3⟩ := hA3.v.ex
        unfold mpc at hX3
        refine wl (ro_assign rfl) ?_
        refine wl_nil (x_then (hK12 _ _ ?_))
        clear hK12 K12
        refine c_seq (fun K16 hK16 => ?_)
        refine c_seq (fun K17 hK17 => ?_)
        refine c_reg ?_ -- region 6 syntaxm.go:760
        refine wl (ro_move rfl) ?_
        refine wl (ro_nilCheck rfl) ?_
        refine wl (ro_fieldAddr (k := 9) rfl fo_146_5) ?_
        refine wl (ro_loadB rfl sc_54 (by assumption) rfl) ?_
        refine wl (ro_cmp rfl rfl rfl) ?_
        refine wl_nil (x_then (hK17 _ _ ?_))
        clear hK17 K17
        refine wc_cond rfl (fun hc34 => ?_) (fun hc34 => ?_)
        · try simp only [decide_eq_true_eq, decide_eq_false_iff_not, Bool.not_eq_true', Bool.not_eq_false', Bool.not_eq_eq_eq_not, Bool.not_true, Bool.not_false, beq_iff_eq, bne_iff_ne, ne_eq, beq_eq_false_iff_ne, bne_eq_false_iff_eq, gt_iff_lt, ge_iff_le, Int.not_lt, Int.not_le] at hc34
          exact absurd rfl hc34
        · try simp only [decide_eq_true_eq, decide_eq_false_iff_not, Bool.not_eq_true', Bool.not_eq_false', Bool.not_eq_eq_eq_not, Bool.not_true, Bool.not_false, beq_iff_eq, bne_iff_ne, ne_eq, beq_eq_false_iff_ne, bne_eq_false_iff_eq, gt_iff_lt, ge_iff_le, Int.not_lt, Int.not_le] at hc34
          refine c_skip (x_then (hK16 _ _ ?_))
          clear hK16 K16
          refine c_reg ?_ -- region 8 syntaxm.go:763
          refine wl (ro_move rfl) ?_
          refine wl (ro_move rfl) ?_
          refine wl (ro_move rfl) ?_
          refine wl (ro_move rfl) ?_
          refine wl (ro_build rfl bld_148_0_1_2_7) ?_
          refine wl_call rfl en_162 (addM (x := (⟨24, rt x G.length, rt y G1.length, 0, 0, 0, []⟩, s1.cur.pl)) hA3 (by omega)) ?_
          rintro _ u4 ⟨rfl, U4, hA4, hn4, F4⟩
          refine wl (ro_assign rfl) ?_
          refine wl_nil (x_blk (x_then ?_))
          have hnd : ndT (binT s1.k x y) = 1 + ndT x + ndT y := nd_bin _ _ _
          have hbt : binT s1.k x y = Ex.land x y := by rw [show s1.k = 23 by omega]; rfl
          replace hRY : Run 1 lv 2 0 (binT s1.k x y) s2 R ∧ ¬ (isBin s2.k = true ∧ 2 + 1 ≤ rankK s2.k) := hRY
          rw [hbt] at hRY hnd
          refine ⟨s2.len, by omega, Ex.land x y, U4, _, s2, rfl, hRY.1, hRY.2, hA4, nob_trans hnb hF.size hn4, ?_, ?_, by omega, hpe2.cm hSm.toCm, by omega, ?_, by omega, ar_trans hF hnb F4, kp _ ⟨rfl, rfl, congrArg (fun z : Nat => some (i64c z)) ?_, trivial⟩⟩
          · rw [List.map_append, hm3, hm, hl, List.append_assoc, List.append_assoc]
            rw [show lay (Ex.land x y) G.length = lay x G.length ++ lay y (G.length + ndT x) ++ [⟨24, rt x G.length, rt y (G.length + ndT x), 0, 0, 0, []⟩] from rfl, List.append_assoc]
            rfl
          · rw [List.length_append]
            simp only [List.length_cons, List.length_nil]
            omega
          · rw [List.length_append]
            simp only [List.length_cons, List.length_nil]
            omega
          · show _ = G.length + ndT (Ex.land x y) - 1
            omega
    · try simp only [decide_eq_true_eq, decide_eq_false_iff_not, Bool.not_eq_true', Bool.not_eq_false', Bool.not_eq_eq_eq_not, Bool.not_true, Bool.not_false, beq_iff_eq, bne_iff_ne, ne_eq, beq_eq_false_iff_ne, bne_eq_false_iff_eq, gt_iff_lt, ge_iff_le, Int.not_lt, Int.not_le] at hc19
      rw [if_neg (fun q => by have := (rank_and _).1 q; omega)] at hgo
      refine c_exit (x_thenX (x_thenX (x_blkX (x_then (hK7 _ _ ?_)))))
      clear hK8 K8 hK7 K7
      refine forget [(5, _)] ⟨rfl, trivial⟩ (fun e => ?_)
      refine c_seq (fun K18 hK18 => ?_)
      refine c_reg ?_ -- region 9 syntaxm.go:765
      refine wl (ro_move rfl) ?_
      refine wl (ro_assign rfl) ?_
      refine wl_nil (x_then (hK18 _ _ ?_))
      clear hK18 K18
      refine c_ret ?_
      refine bp_ret Tryz.results212 rfl ?_
      cases hgo
      exact ⟨hF, rfl, U1, G1, hA, hnb, hm, hl⟩
theorem run_deep {lv ρ : Nat} {s : PS} {R : PO} (hl : 12 < lv) (h : Run 0 lv ρ 0 dumT s R) : R = .inl (if s.k = 1 then s.cur.e else 16, s.cur.pl) := by
  obtain ⟨o, h2, h3⟩ := run_expr' h
  obtain ⟨f, h2⟩ := run_step.1 h2
  replace h2 : pUnary (parP f) lv s = some o := h2
  unfold pUnary at h2
  rw [if_pos hl] at h2
  cases failP_inj h2
  exact h3
theorem cat_go {lv : Nat} {s1 : PS} {x : Tr} {R : PO} (h : Run 1 lv 4 0 x s1 R) (hno : ¬ (isBin s1.k = true ∧ 4 + 1 ≤ rankK s1.k)) : if s1.k = 30 then ∃ RY, Run 0 (lv + 1) 4 0 dumT s1.adv RY ∧ (match RY with | .inl e => R = .inl e | .inr (y, s2) => R = .inr (Ex.bin 20 x y, s2)) else R = .inr (x, s1) := by
  rw [run_climb] at h
  by_cases hc : s1.k = 30
  · have hr := (rank_cat s1.k).2 hc
    rw [if_pos hc]
    rw [if_pos ⟨hr.1, by omega⟩] at h
    unfold RunY at h
    simp only [if_pos hr.2] at h
    rcases h with ⟨e, h1, h2⟩ | ⟨y, s2, h1, h2⟩
    · exact ⟨_, h1, h2⟩
    · refine ⟨_, h1, ?_⟩
      rw [run_climb, if_neg (run_end h1)] at h2
      show R = .inr (Ex.bin 20 x y, s2)
      rw [h2, hc]
      rfl
  · rw [if_neg hc]
    rw [if_neg (fun q => by
      have : ¬ 4 + 1 ≤ rankK s1.k := fun z => hno ⟨q.1, z⟩
      exact hc ((rank_cat _).1 ⟨q.1, by omega⟩))] at h
    exact h
set_option maxHeartbeats 8000000 in
theorem expr160 {n : Nat} {w : World} {mp : Nat} {np : Value} {src : Str} {U : Value} {G : List (Nd × Nat)} {s : PS} {lv : Nat} {R : PO} (ih : MAll n) (hG : MG w mp np src U G s lv) (hn : 20 * s.len + 10 ≤ n + 1) (hR : Run 0 lv 1 0 dumT s R) : Ret Tryz.prog 160 [ptr mp, i64c lv] w (MR w mp np src lv U G R) := by
  have hA := hG.a
  have hM := hA.v
  have hl13 := hG.l13
  have hlo := hG.lo
  have hbd := hG.bd
  have hF : Fram (arS mp U) w w := Fram.refl _ _
  obtain ⟨R0, hR0, hRR⟩ := run_rank hR
  obtain ⟨pos0, hX0, _⟩ := hM.ex
  unfold mpc at hX0
  refine ret_of Tryz.func160 rfl Tryz.ntmps160 rfl ?_
  refine c_seq (fun K1 hK1 => ?_)
  refine c_reg ?_ -- region 0 syntaxm.go:768
  refine wl (ro_assign rfl) ?_
  refine wl_nil (x_then (hK1 _ _ ?_))
  clear hK1 K1
  refine c_seq (fun K2 hK2 => ?_)
  refine c_seq (fun K3 hK3 => ?_)
  refine c_reg ?_ -- region 1 syntaxm.go:769
  refine wl (ro_move rfl) ?_
  refine wl (ro_nilCheck rfl) ?_
  refine wl (ro_fieldAddr (k := 9) rfl fo_146_5) ?_
  refine wl (ro_loadB rfl sc_54 (by assumption) rfl) ?_
  refine wl (ro_cmp rfl rfl rfl) ?_
  refine wl_nil (x_then (hK3 _ _ ?_))
  clear hK3 K3
  refine wc_cond rfl (fun hc12 => ?_) (fun hc12 => ?_)
  · try simp only [decide_eq_true_eq, decide_eq_false_iff_not, Bool.not_eq_true', Bool.not_eq_false', Bool.not_eq_eq_eq_not, Bool.not_true, Bool.not_false, beq_iff_eq, bne_iff_ne, ne_eq, beq_eq_false_iff_ne, bne_eq_false_iff_eq, gt_iff_lt, ge_iff_le, Int.not_lt, Int.not_le] at hc12
    exact absurd rfl hc12
  · try simp only [decide_eq_true_eq, decide_eq_false_iff_not, Bool.not_eq_true', Bool.not_eq_false', Bool.not_eq_eq_eq_not, Bool.not_true, Bool.not_false, beq_iff_eq, bne_iff_ne, ne_eq, beq_eq_false_iff_ne, bne_eq_false_iff_eq, gt_iff_lt, ge_iff_le, Int.not_lt, Int.not_le] at hc12
    refine c_skip (x_then (hK2 _ _ ?_))
    clear hK2 K2
    refine c_seq (fun K4 hK4 => ?_)
    refine c_seq (fun K5 hK5 => ?_)
    refine c_reg ?_ -- region 3 syntaxm.go:772
    refine wl (ro_move rfl) ?_
    refine wl (ro_move rfl) ?_
    refine wl_call rfl en_104 (deepM (lv := lv) hM (n := lv) (by omega) (by omega)) ?_
    rintro _ u1 ⟨rfl, hq1, F1⟩
    replace hF := ar_one hF F1
    refine wl_nil (x_then (hK5 _ _ ?_))
    clear hK5 K5
    refine wc_cond rfl (fun hc15 => ?_) (fun hc15 => ?_)
    · try simp only [decide_eq_true_eq, decide_eq_false_iff_not, Bool.not_eq_true', Bool.not_eq_false', Bool.not_eq_eq_eq_not, Bool.not_true, Bool.not_false, beq_iff_eq, bne_iff_ne, ne_eq, beq_eq_false_iff_ne, bne_eq_false_iff_eq, gt_iff_lt, ge_iff_le, Int.not_lt, Int.not_le] at hc15
      refine c_seq (fun K6 hK6 => ?_)
      refine c_reg ?_ -- region 4 syntaxm.go:773
      refine wl (ro_assign rfl) ?_
      refine wl_nil (x_then (hK6 _ _ ?_))
      clear hK6 K6
      refine c_ret (x_thenR ?_)
      refine bp_ret Tryz.results160 rfl ?_
      rw [if_pos (by omega)] at hq1
      cases run_deep (by omega) hR
      exact ⟨hF, ⟨0, rfl⟩, hq1⟩
    · try simp only [decide_eq_true_eq, decide_eq_false_iff_not, Bool.not_eq_true', Bool.not_eq_false', Bool.not_eq_eq_eq_not, Bool.not_true, Bool.not_false, beq_iff_eq, bne_iff_ne, ne_eq, beq_eq_false_iff_ne, bne_eq_false_iff_eq, gt_iff_lt, ge_iff_le, Int.not_lt, Int.not_le] at hc15
      rw [if_neg (by omega)] at hq1
      replace hq1 := hq1.symm
      subst hq1
      have hlv12 : lv ≤ 12 := by omega
      refine c_skip (x_then (hK4 _ _ ?_))
      clear hK4 K4
      refine forget [(0, _), (1, _)] ⟨rfl, rfl, trivial⟩ (fun e => ?_)
      refine c_seq (fun K7 hK7 => ?_)
      rcases R0 with ⟨ee, pp⟩ | ⟨x0, s0⟩
      · skip
        refine c_reg ?_ -- region 5 syntaxm.go:775
        refine wl (ro_move rfl) ?_
        refine wl (ro_move rfl) ?_
        refine wl_call rfl en_212 (ih.an hG hlv12 (by omega) hR0) ?_
        rintro v u3 ⟨F3, ⟨z, rfl⟩, hE⟩
        replace hF := ar_trans hF (fun b q => .inl q) F3
        have hE0 := hE
        obtain ⟨np', src', pos', t', U', al', lo', fu', hXe, h1, h2, h3, h4⟩ := hE
        unfold mpc at hXe
        refine wl (ro_assign rfl) ?_
        refine wl_nil (x_then (hK7 _ _ ?_))
        clear hK7 K7
        refine forget [(0, _), (1, _), (5, _)] ⟨rfl, rfl, rfl, trivial⟩ (fun e => ?_)
        refine c_seq (fun K8 hK8 => ?_)
        refine c_block ?_
        -- loop@r6: live slots [0, 1, 5]
        refine c_loopG (fun n a' w' => n = 0 ∧ w' = u3 ∧ ∃ e, a' = Fr 50 (upds e [(0, ptr mp), (5, .int .i64 z)]) []) 0 ⟨rfl, rfl, kp _ ⟨rfl, rfl, trivial⟩⟩ ?_
        rintro n a' w1 ⟨rfl, e9, e, rfl⟩
        replace e9 := e9.symm
        subst e9
        refine c_seq (fun K9 hK9 => ?_)
        refine c_seq (fun K10 hK10 => ?_)
        refine c_reg ?_ -- region 6 syntaxm.go:776
        refine wl (ro_move rfl) ?_
        refine wl (ro_nilCheck rfl) ?_
        refine wl (ro_fieldAddr (k := 9) rfl fo_146_5) ?_
        refine wl (ro_loadB rfl sc_54 (by assumption) rfl) ?_
        refine wl (ro_cmp (r := false) rfl rfl (congrArg some (beq_eq_false_iff_ne.2 (by omega)))) ?_
        refine wl (ro_move rfl) ?_
        refine wlg_no rfl ?_
        refine wlg_no rfl ?_
        refine wl (ro_pick rfl rfl rfl) ?_
        refine wl_nil (x_then (hK10 _ _ ?_))
        clear hK10 K10
        refine wc_condF rfl ?_
        refine c_exit (x_thenX (x_thenX (x_blkX (x_then (hK8 _ _ ?_)))))
        clear hK9 K9 hK8 K8
        refine forget [(5, _)] ⟨rfl, trivial⟩ (fun e => ?_)
        refine c_seq (fun K11 hK11 => ?_)
        refine c_reg ?_ -- region 13 syntaxm.go:785
        refine wl (ro_move rfl) ?_
        refine wl (ro_assign rfl) ?_
        refine wl_nil (x_then (hK11 _ _ ?_))
        clear hK11 K11
        refine c_ret ?_
        refine bp_ret Tryz.results160 rfl ?_
        cases hRR
        exact ⟨hF, ⟨_, rfl⟩, hE0⟩
      · skip
        refine c_reg ?_ -- region 5 syntaxm.go:775
        refine wl (ro_move rfl) ?_
        refine wl (ro_move rfl) ?_
        refine wl_call rfl en_212 (ih.an hG hlv12 (by omega) hR0) ?_
        rintro v u3 ⟨F3, rfl, U3, G3, hA3, hn3, hm3, hl3⟩
        replace hF := ar_trans hF (fun b q => .inl q) F3
        obtain ⟨hQE, hSm, hlv, hIB⟩ := MG.run0 hR0 hG.pe
        have hlo0 := hSm.lo
        refine wl (ro_assign rfl) ?_
        refine wl_nil (x_then (hK7 _ _ ?_))
        clear hK7 K7
        refine forget [(0, _), (1, _), (5, _)] ⟨rfl, rfl, rfl, trivial⟩ (fun e => ?_)
        refine c_seq (fun K12 hK12 => ?_)
        refine c_block ?_
        -- loop@r6: live slots [0, 1, 5]
        refine c_loopG (fun m a' w' => ∃ (x : Tr) (U1 : Value) (G1 : List (Nd × Nat)) (s1 : PS), m = s1.len ∧ Run 1 lv 1 0 x s1 R ∧ ¬ (isBin s1.k = true ∧ 1 + 1 ≤ rankK s1.k) ∧ MA w' mp np src U1 G1 s1 ∧ nob U U1 w ∧ G1.map Prod.fst = G.map Prod.fst ++ lay x G.length ∧ G1.length = G.length + ndT x ∧ 1 ≤ ndT x ∧ Pe s1 ∧ s1.lo ≤ lv ∧ G1.length + 3 * s1.len ≤ 10000 ∧ s1.len < s.len ∧ Fram (arS mp U) w w' ∧ ∃ e, a' = Fr 50 (upds e [(0, ptr mp), (1, i64c lv), (5, i64c (rt x G.length))]) []) s0.len ⟨x0, U3, G3, s0, rfl, hRR.1, hRR.2, hA3, hn3, hm3, hl3, hQE.ly.pos, hG.pe.cm hSm.toCm, by omega, by omega, by omega, hF, kp _ ⟨rfl, rfl, rfl, trivial⟩⟩ ?_
        clear hF hA hM hA3 hn3 hm3 hl3 hRR hR0 hR F3 hIB hQE hSm hlo0 hlv
        rintro m a' u1 ⟨x, U1, G1, s1, rfl, hR, hno, hA, hnb, hm, hl, hxp, hpe, hlo1, hbd1, hlen, hF, e, rfl⟩
        obtain ⟨pos, hX, hpos⟩ := hA.v.ex
        unfold mpc at hX
        refine c_seq (fun K13 hK13 => ?_)
        refine c_seq (fun K14 hK14 => ?_)
        refine c_reg ?_ -- region 6 syntaxm.go:776
        refine wl (ro_move rfl) ?_
        refine wl (ro_nilCheck rfl) ?_
        refine wl (ro_fieldAddr (k := 9) rfl fo_146_5) ?_
        refine wl (ro_loadB rfl sc_54 (by assumption) rfl) ?_
        refine wl (ro_cmp rfl rfl rfl) ?_
        refine wl (ro_move rfl) ?_
        refine wlg_yes rfl (ro_move rfl) ?_
        refine wlg_call rfl rfl en_156 (is156 (k := 22) hA.v (by decide) (by decide)) ?_
        rintro _ w9 ⟨rfl, e9⟩
        replace e9 := e9.symm
        subst e9
        have hgo := rank_go hR hno (by decide)
        refine wl (ro_pick rfl rfl rfl) ?_
        refine wl_nil (x_then (hK14 _ _ ?_))
        clear hK14 K14
        refine wc_cond rfl (fun hc27 => ?_) (fun hc27 => ?_)
        · try simp only [decide_eq_true_eq, decide_eq_false_iff_not, Bool.not_eq_true', Bool.not_eq_false', Bool.not_eq_eq_eq_not, Bool.not_true, Bool.not_false, beq_iff_eq, bne_iff_ne, ne_eq, beq_eq_false_iff_ne, bne_eq_false_iff_eq, gt_iff_lt, ge_iff_le, Int.not_lt, Int.not_le] at hc27
          rw [if_pos (by rw [show s1.k = 22 by omega]; decide)] at hgo
          obtain ⟨RY, hY, hRY⟩ := hgo
          refine c_skip (x_then (hK13 _ _ ?_))
          clear hK13 K13
          refine c_block ?_
          refine forget [(0, _), (1, _), (5, _), (25, _), (26, _)] ⟨rfl, rfl, rfl, rfl, rfl, trivial⟩ (fun e => ?_)
          refine c_seq (fun K15 hK15 => ?_)
          refine c_reg ?_ -- region 7 syntaxm.go:777
          refine wl (ro_move rfl) ?_
          refine wl (ro_nilCheck rfl) ?_
          refine wl (ro_fieldAddr (k := 3) rfl fo_146_3) ?_
          refine wl (ro_fieldAddr (k := 3) rfl fo_144_3) ?_
          refine wl (ro_loadB rfl sc_3 (by assumption) rfl) ?_
          refine wl (ro_assign rfl) ?_
          refine wl_nil (x_then (hK15 _ _ ?_))
          clear hK15 K15
          refine forget [(0, _), (1, _), (5, _), (6, _), (25, _), (26, _)] ⟨rfl, rfl, rfl, rfl, rfl, rfl, trivial⟩ (fun e => ?_)
          refine c_seq (fun K16 hK16 => ?_)
          refine c_reg ?_ -- region 8 syntaxm.go:778
          refine wl (ro_move rfl) ?_
          refine wl_call rfl en_48 (nextM hA.v (by omega)) ?_
          rintro _ u2 ⟨rfl, hM2, F2⟩
          replace hF := ar_one hF F2
          have hA2 := hA.turn hM2 F2
          have ha1 := adv_len' (s := s1) (by omega)
          have hpe2 := hpe.cm (Cm.adv hpe)
          have hG2 := hG.at (lv1 := lv) hA2 hpe2 hlo1 (by omega) (by omega) hl13
          refine wl_nil (x_then (hK16 _ _ ?_))
          clear hK16 K16
          refine forget [(0, _), (1, _), (5, _), (6, _), (25, _), (26, _)] ⟨rfl, rfl, rfl, rfl, rfl, rfl, trivial⟩ (fun e => ?_)
          refine c_seq (fun K17 hK17 => ?_)
          rcases RY with ⟨ee, pp⟩ | ⟨y, s2⟩
          · skip
            refine c_reg ?_ -- region 9 syntaxm.go:779
            refine wl (ro_move rfl) ?_
            refine wl (ro_move rfl) ?_
            refine wl_call rfl en_212 (ih.an hG2 hlv12 (by omega) hY) ?_
            rintro v u3 ⟨F3, ⟨z, rfl⟩, hE⟩
            replace hF := ar_trans hF hnb F3
            have hE0 := hE
            obtain ⟨np', src', pos', t', U', al', lo', fu', hXe, h1, h2, h3, h4⟩ := hE
            unfold mpc at hXe
            refine wl (ro_assign rfl) ?_
            refine wl_nil (x_then (hK17 _ _ ?_))
            clear hK17 K17
            refine c_seq (fun K18 hK18 => ?_)
            refine c_seq (fun K19 hK19 => ?_)
            refine c_reg ?_ -- region 10 syntaxm.go:780
            refine wl (ro_move rfl) ?_
            refine wl (ro_nilCheck rfl) ?_
            refine wl (ro_fieldAddr (k := 9) rfl fo_146_5) ?_
            refine wl (ro_loadB rfl sc_54 (by assumption) rfl) ?_
            refine wl (ro_cmp rfl rfl rfl) ?_
            refine wl_nil (x_then (hK19 _ _ ?_))
            clear hK19 K19
            refine wc_cond rfl (fun hc42 => ?_) (fun hc42 => ?_)
            · try simp only [decide_eq_true_eq, decide_eq_false_iff_not, Bool.not_eq_true', Bool.not_eq_false', Bool.not_eq_eq_eq_not, Bool.not_true, Bool.not_false, beq_iff_eq, bne_iff_ne, ne_eq, beq_eq_false_iff_ne, bne_eq_false_iff_eq, gt_iff_lt, ge_iff_le, Int.not_lt, Int.not_le] at hc42
              refine c_seq (fun K20 hK20 => ?_)
              refine c_reg ?_ -- region 11 syntaxm.go:781
              refine wl (ro_assign rfl) ?_
              refine wl_nil (x_then (hK20 _ _ ?_))
              clear hK20 K20
              refine c_ret (x_thenR (x_blkR (x_thenR (x_blkR (x_thenR ?_)))))
              refine bp_ret Tryz.results160 rfl ?_
              cases hRY
              exact ⟨hF, ⟨_, rfl⟩, hE0⟩
            · try simp only [decide_eq_true_eq, decide_eq_false_iff_not, Bool.not_eq_true', Bool.not_eq_false', Bool.not_eq_eq_eq_not, Bool.not_true, Bool.not_false, beq_iff_eq, bne_iff_ne, ne_eq, beq_eq_false_iff_ne, bne_eq_false_iff_eq, gt_iff_lt, ge_iff_le, Int.not_lt, Int.not_le] at hc42
              omega
          · skip
            refine c_reg ?_ -- region 9 syntaxm.go:779
            refine wl (ro_move rfl) ?_
            refine wl (ro_move rfl) ?_
            refine wl_call rfl en_212 (ih.an hG2 hlv12 (by omega) hY) ?_
            rintro v u3 ⟨F3, rfl, U3, G3, hA3, hn3, hm3, hl3⟩
            have hz2 : w.heap.size ≤ u2.heap.size := hF.size
            replace hF := ar_trans hF hnb F3
            replace hnb := nob_trans hnb hz2 hn3
            obtain ⟨hQE, hSm, hlv, hIB⟩ := MG.run0 hY hpe2
            have hlo2 : s2.lo = s1.lo := hSm.lo
            obtain ⟨pos3, hX3, hp3⟩ := hA3.v.ex
            unfold mpc at hX3
            refine wl (ro_assign rfl) ?_
            refine wl_nil (x_then (hK17 _ _ ?_))
            clear hK17 K17
            refine c_seq (fun K21 hK21 => ?_)
            refine c_seq (fun K22 hK22 => ?_)
            refine c_reg ?_ -- region 10 syntaxm.go:780
            refine wl (ro_move rfl) ?_
            refine wl (ro_nilCheck rfl) ?_
            refine wl (ro_fieldAddr (k := 9) rfl fo_146_5) ?_
            refine wl (ro_loadB rfl sc_54 (by assumption) rfl) ?_
            refine wl (ro_cmp rfl rfl rfl) ?_
            refine wl_nil (x_then (hK22 _ _ ?_))
            clear hK22 K22
            refine wc_cond rfl (fun hc42 => ?_) (fun hc42 => ?_)
            · try simp only [decide_eq_true_eq, decide_eq_false_iff_not, Bool.not_eq_true', Bool.not_eq_false', Bool.not_eq_eq_eq_not, Bool.not_true, Bool.not_false, beq_iff_eq, bne_iff_ne, ne_eq, beq_eq_false_iff_ne, bne_eq_false_iff_eq, gt_iff_lt, ge_iff_le, Int.not_lt, Int.not_le] at hc42
              exact absurd rfl hc42
            · try simp only [decide_eq_true_eq, decide_eq_false_iff_not, Bool.not_eq_true', Bool.not_eq_false', Bool.not_eq_eq_eq_not, Bool.not_true, Bool.not_false, beq_iff_eq, bne_iff_ne, ne_eq, beq_eq_false_iff_ne, bne_eq_false_iff_eq, gt_iff_lt, ge_iff_le, Int.not_lt, Int.not_le] at hc42
              refine c_skip (x_then (hK21 _ _ ?_))
              clear hK21 K21
              refine c_reg ?_ -- region 12 syntaxm.go:783
              refine wl (ro_move rfl) ?_
              refine wl (ro_move rfl) ?_
              refine wl (ro_move rfl) ?_
              refine wl (ro_move rfl) ?_
              refine wl (ro_build rfl bld_148_0_1_2_7) ?_
              refine wl_call rfl en_162 (addM (x := (⟨25, rt x G.length, rt y G1.length, 0, 0, 0, []⟩, s1.cur.pl)) hA3 (by omega)) ?_
              rintro _ u4 ⟨rfl, U4, hA4, hn4, F4⟩
              refine wl (ro_assign rfl) ?_
              refine wl_nil (x_blk (x_then ?_))
              have hnd : ndT (binT s1.k x y) = 1 + ndT x + ndT y := nd_bin _ _ _
              have hbt : binT s1.k x y = Ex.lor x y := by rw [show s1.k = 22 by omega]; rfl
              replace hRY : Run 1 lv 1 0 (binT s1.k x y) s2 R ∧ ¬ (isBin s2.k = true ∧ 1 + 1 ≤ rankK s2.k) := hRY
              rw [hbt] at hRY hnd
              refine ⟨s2.len, by omega, Ex.lor x y, U4, _, s2, rfl, hRY.1, hRY.2, hA4, nob_trans hnb hF.size hn4, ?_, ?_, by omega, hpe2.cm hSm.toCm, by omega, ?_, by omega, ar_trans hF hnb F4, kp _ ⟨rfl, rfl, congrArg (fun z : Nat => some (i64c z)) ?_, trivial⟩⟩
              · rw [List.map_append, hm3, hm, hl, List.append_assoc, List.append_assoc]
                rw [show lay (Ex.lor x y) G.length = lay x G.length ++ lay y (G.length + ndT x) ++ [⟨25, rt x G.length, rt y (G.length + ndT x), 0, 0, 0, []⟩] from rfl, List.append_assoc]
                rfl
              · rw [List.length_append]
                simp only [List.length_cons, List.length_nil]
                omega
              · rw [List.length_append]
                simp only [List.length_cons, List.length_nil]
                omega
              · show _ = G.length + ndT (Ex.lor x y) - 1
                omega
        · try simp only [decide_eq_true_eq, decide_eq_false_iff_not, Bool.not_eq_true', Bool.not_eq_false', Bool.not_eq_eq_eq_not, Bool.not_true, Bool.not_false, beq_iff_eq, bne_iff_ne, ne_eq, beq_eq_false_iff_ne, bne_eq_false_iff_eq, gt_iff_lt, ge_iff_le, Int.not_lt, Int.not_le] at hc27
          rw [if_neg (fun q => by have := (rank_or _).1 q; omega)] at hgo
          refine c_exit (x_thenX (x_thenX (x_blkX (x_then (hK12 _ _ ?_)))))
          clear hK13 K13 hK12 K12
          refine forget [(5, _)] ⟨rfl, trivial⟩ (fun e => ?_)
          refine c_seq (fun K23 hK23 => ?_)
          refine c_reg ?_ -- region 13 syntaxm.go:785
          refine wl (ro_move rfl) ?_
          refine wl (ro_assign rfl) ?_
          refine wl_nil (x_then (hK23 _ _ ?_))
          clear hK23 K23
          refine c_ret ?_
          refine bp_ret Tryz.results160 rfl ?_
          cases hgo
          exact ⟨hF, rfl, U1, G1, hA, hnb, hm, hl⟩
set_option maxHeartbeats 8000000 in
theorem left252 {n : Nat} {w : World} {mp : Nat} {np : Value} {src : Str} {U : Value} {G : List (Nd × Nat)} {s : PS} {lv r : Nat} {R : PO} (ih : MAll n) (hG : MG w mp np src U G s lv) (hlr : lv ≤ 12 ∨ r = 2) (hr1 : 1 ≤ r) (hr5 : r ≤ 5) (hn : 20 * s.len + (9 - r) ≤ n + 1) (hR : Run 0 lv (r + 2) 0 dumT s R) : Ret Tryz.prog 252 [ptr mp, i64c lv, i64c r] w (MR w mp np src lv U G R) := by
  have hA := hG.a
  have hM := hA.v
  have hl13 := hG.l13
  have hlo := hG.lo
  have hbd := hG.bd
  have hF : Fram (arS mp U) w w := Fram.refl _ _
  obtain ⟨R0, hR0, hRR⟩ := run_rank hR
  refine ret_of Tryz.func252 rfl Tryz.ntmps252 rfl ?_
  refine c_seq (fun K1 hK1 => ?_)
  refine c_reg ?_ -- region 0 syntaxm.go:717
  refine wl (ro_assign rfl) ?_
  refine wl_nil (x_then (hK1 _ _ ?_))
  clear hK1 K1
  refine c_seq (fun K2 hK2 => ?_)
  refine c_seq (fun K3 hK3 => ?_)
  refine c_reg ?_ -- region 1 syntaxm.go:718
  refine wl (ro_move rfl) ?_
  refine wl (ro_cmp rfl rfl rfl) ?_
  refine wl_nil (x_then (hK3 _ _ ?_))
  clear hK3 K3
  refine wc_cond rfl (fun hc15 => ?_) (fun hc15 => ?_)
  · try simp only [decide_eq_true_eq, decide_eq_false_iff_not, Bool.not_eq_true', Bool.not_eq_false', Bool.not_eq_eq_eq_not, Bool.not_true, Bool.not_false, beq_iff_eq, bne_iff_ne, ne_eq, beq_eq_false_iff_ne, bne_eq_false_iff_eq, gt_iff_lt, ge_iff_le, Int.not_lt, Int.not_le] at hc15
    obtain rfl : r = 5 := by omega
    have hR7 := run_7 hR
    refine c_seq (fun K4 hK4 => ?_)
    refine c_reg ?_ -- region 2 syntaxm.go:719
    refine wl (ro_move rfl) ?_
    refine wl (ro_move rfl) ?_
    refine wl_call rfl en_279 (ih.un hG (by omega) hR7) ?_
    rintro v u2 hr
    refine wl (ro_assign rfl) ?_
    refine wl_nil (x_then (hK4 _ _ ?_))
    clear hK4 K4
    refine c_ret (x_thenR ?_)
    refine bp_ret Tryz.results252 rfl ?_
    exact hr
  · try simp only [decide_eq_true_eq, decide_eq_false_iff_not, Bool.not_eq_true', Bool.not_eq_false', Bool.not_eq_eq_eq_not, Bool.not_true, Bool.not_false, beq_iff_eq, bne_iff_ne, ne_eq, beq_eq_false_iff_ne, bne_eq_false_iff_eq, gt_iff_lt, ge_iff_le, Int.not_lt, Int.not_le] at hc15
    refine c_skip (x_then (hK2 _ _ ?_))
    clear hK2 K2
    refine c_seq (fun K5 hK5 => ?_)
    refine c_seq (fun K6 hK6 => ?_)
    refine c_reg ?_ -- region 3 syntaxm.go:721
    refine wl (ro_move rfl) ?_
    refine wl (ro_cmp rfl rfl rfl) ?_
    refine wl_nil (x_then (hK6 _ _ ?_))
    clear hK6 K6
    refine wc_cond rfl (fun hc20 => ?_) (fun hc20 => ?_)
    · try simp only [decide_eq_true_eq, decide_eq_false_iff_not, Bool.not_eq_true', Bool.not_eq_false', Bool.not_eq_eq_eq_not, Bool.not_true, Bool.not_false, beq_iff_eq, bne_iff_ne, ne_eq, beq_eq_false_iff_ne, bne_eq_false_iff_eq, gt_iff_lt, ge_iff_le, Int.not_lt, Int.not_le] at hc20
      obtain rfl : r = 2 := by omega
      refine c_seq (fun K7 hK7 => ?_)
      refine c_seq (fun K8 hK8 => ?_)
      refine c_reg ?_ -- region 4 syntaxm.go:722
      refine wl (ro_move rfl) ?_
      refine wl (ro_move rfl) ?_
      refine wl_call rfl en_104 (deepM (lv := lv) hM (n := lv) (by omega) (by omega)) ?_
      rintro _ u1 ⟨rfl, hq1, F1⟩
      replace hF := ar_one hF F1
      refine wl_nil (x_then (hK8 _ _ ?_))
      clear hK8 K8
      refine wc_cond rfl (fun hc23 => ?_) (fun hc23 => ?_)
      · try simp only [decide_eq_true_eq, decide_eq_false_iff_not, Bool.not_eq_true', Bool.not_eq_false', Bool.not_eq_eq_eq_not, Bool.not_true, Bool.not_false, beq_iff_eq, bne_iff_ne, ne_eq, beq_eq_false_iff_ne, bne_eq_false_iff_eq, gt_iff_lt, ge_iff_le, Int.not_lt, Int.not_le] at hc23
        refine c_seq (fun K9 hK9 => ?_)
        refine c_reg ?_ -- region 5 syntaxm.go:723
        refine wl (ro_assign rfl) ?_
        refine wl_nil (x_then (hK9 _ _ ?_))
        clear hK9 K9
        refine c_ret (x_thenR (x_thenR ?_))
        refine bp_ret Tryz.results252 rfl ?_
        rw [if_pos (by omega)] at hq1
        cases run_deep (by omega) hR
        exact ⟨hF, ⟨0, rfl⟩, hq1⟩
      · try simp only [decide_eq_true_eq, decide_eq_false_iff_not, Bool.not_eq_true', Bool.not_eq_false', Bool.not_eq_eq_eq_not, Bool.not_true, Bool.not_false, beq_iff_eq, bne_iff_ne, ne_eq, beq_eq_false_iff_ne, bne_eq_false_iff_eq, gt_iff_lt, ge_iff_le, Int.not_lt, Int.not_le] at hc23
        rw [if_neg (by omega)] at hq1
        replace hq1 := hq1.symm
        subst hq1
        have hlv12 : lv ≤ 12 := by omega
        refine c_skip (x_then (hK7 _ _ ?_))
        clear hK7 K7
        refine forget [(0, _), (1, _)] ⟨rfl, rfl, trivial⟩ (fun e => ?_)
        refine c_seq (fun K10 hK10 => ?_)
        rcases R0 with ⟨ee, pp⟩ | ⟨x0, s0⟩
        · skip
          refine c_reg ?_ -- region 6 syntaxm.go:725
          refine wl (ro_move rfl) ?_
          refine wl (ro_move rfl) ?_
          refine wl_call rfl en_252 (ih.lf (r := 3) hG (.inl hlv12) (by decide) (by decide) (by omega) hR0) ?_
          rintro v u3 ⟨F3, ⟨z, rfl⟩, hE⟩
          replace hF := ar_trans hF (fun b q => .inl q) F3
          have hE0 := hE
          obtain ⟨np', src', pos', t', U', al', lo', fu', hXe, h1, h2, h3, h4⟩ := hE
          unfold mpc at hXe
          refine wl (ro_assign rfl) ?_
          refine wl_nil (x_then (hK10 _ _ ?_))
          clear hK10 K10
          refine c_seq (fun K11 hK11 => ?_)
          refine c_seq (fun K12 hK12 => ?_)
          refine c_reg ?_ -- region 7 syntaxm.go:726
          refine wl (ro_move rfl) ?_
          refine wl (ro_nilCheck rfl) ?_
          refine wl (ro_fieldAddr (k := 9) rfl fo_146_5) ?_
          refine wl (ro_loadB rfl sc_54 (by assumption) rfl) ?_
          refine wl (ro_cmp (r := true) rfl rfl (congrArg some (bne_iff_ne.2 (by omega)))) ?_
          refine wl (ro_move rfl) ?_
          refine wlg_no rfl ?_
          refine wlg_no rfl ?_
          refine wlg_no rfl ?_
          refine wl (ro_pick rfl rfl rfl) ?_
          refine wl_nil (x_then (hK12 _ _ ?_))
          clear hK12 K12
          refine wc_condT rfl ?_
          refine c_seq (fun K13 hK13 => ?_)
          refine c_reg ?_ -- region 8 syntaxm.go:727
          refine wl (ro_move rfl) ?_
          refine wl (ro_assign rfl) ?_
          refine wl_nil (x_then (hK13 _ _ ?_))
          clear hK13 K13
          refine c_ret (x_thenR (x_thenR ?_))
          refine bp_ret Tryz.results252 rfl ?_
          cases hRR
          exact ⟨hF, ⟨_, rfl⟩, hE0⟩
        · skip
          refine c_reg ?_ -- region 6 syntaxm.go:725
          refine wl (ro_move rfl) ?_
          refine wl (ro_move rfl) ?_
          refine wl_call rfl en_252 (ih.lf (r := 3) hG (.inl hlv12) (by decide) (by decide) (by omega) hR0) ?_
          rintro v u3 ⟨F3, rfl, U3, G3, hA3, hn3, hm3, hl3⟩
          replace hF := ar_trans hF (fun b q => .inl q) F3
          obtain ⟨hQE, hSm, hlv, hIB⟩ := MG.run0 hR0 hG.pe
          have hlo0 := hSm.lo
          have hpe0 := hG.pe.cm hSm.toCm
          have hgo := cat_go hRR.1 hRR.2
          obtain ⟨pos, hX, hpos⟩ := hA3.v.ex
          unfold mpc at hX
          refine wl (ro_assign rfl) ?_
          refine wl_nil (x_then (hK10 _ _ ?_))
          clear hK10 K10
          refine c_seq (fun K14 hK14 => ?_)
          refine c_seq (fun K15 hK15 => ?_)
          refine c_reg ?_ -- region 7 syntaxm.go:726
          refine wl (ro_move rfl) ?_
          refine wl (ro_nilCheck rfl) ?_
          refine wl (ro_fieldAddr (k := 9) rfl fo_146_5) ?_
          refine wl (ro_loadB rfl sc_54 (by assumption) rfl) ?_
          refine wl (ro_cmp rfl rfl rfl) ?_
          refine wl (ro_move rfl) ?_
          refine wlg_yes rfl (ro_move rfl) ?_
          refine wlg_call rfl rfl en_156 (is156 (k := 30) hA3.v (by decide) (by decide)) ?_
          rintro _ w9 ⟨rfl, e9⟩
          replace e9 := e9.symm
          subst e9
          refine wlg_yes rfl (ro_not rfl) ?_
          refine wl (ro_pick rfl rfl rfl) ?_
          refine wl_nil (x_then (hK15 _ _ ?_))
          clear hK15 K15
          refine wc_cond rfl (fun hc36 => ?_) (fun hc36 => ?_)
          · try simp only [decide_eq_true_eq, decide_eq_false_iff_not, Bool.not_eq_true', Bool.not_eq_false', Bool.not_eq_eq_eq_not, Bool.not_true, Bool.not_false, beq_iff_eq, bne_iff_ne, ne_eq, beq_eq_false_iff_ne, bne_eq_false_iff_eq, gt_iff_lt, ge_iff_le, Int.not_lt, Int.not_le] at hc36
            refine c_seq (fun K16 hK16 => ?_)
            refine c_reg ?_ -- region 8 syntaxm.go:727
            refine wl (ro_move rfl) ?_
            refine wl (ro_assign rfl) ?_
            refine wl_nil (x_then (hK16 _ _ ?_))
            clear hK16 K16
            refine c_ret (x_thenR (x_thenR ?_))
            refine bp_ret Tryz.results252 rfl ?_
            rw [if_neg (by omega)] at hgo
            cases hgo
            exact ⟨hF, rfl, U3, G3, hA3, hn3, hm3, hl3⟩
          · try simp only [decide_eq_true_eq, decide_eq_false_iff_not, Bool.not_eq_true', Bool.not_eq_false', Bool.not_eq_eq_eq_not, Bool.not_true, Bool.not_false, beq_iff_eq, bne_iff_ne, ne_eq, beq_eq_false_iff_ne, bne_eq_false_iff_eq, gt_iff_lt, ge_iff_le, Int.not_lt, Int.not_le] at hc36
            refine c_skip (x_then (hK14 _ _ ?_))
            clear hK14 K14
            refine forget [(0, _), (1, _), (7, _)] ⟨rfl, rfl, rfl, trivial⟩ (fun e => ?_)
            refine c_seq (fun K17 hK17 => ?_)
            rw [if_pos (by omega)] at hgo
            obtain ⟨RY, hY, hRY⟩ := hgo
            refine c_reg ?_ -- region 9 syntaxm.go:729
            refine wl (ro_move rfl) ?_
            refine wl (ro_nilCheck rfl) ?_
            refine wl (ro_fieldAddr (k := 3) rfl fo_146_3) ?_
            refine wl (ro_fieldAddr (k := 3) rfl fo_144_3) ?_
            refine wl (ro_loadB rfl sc_3 (by assumption) rfl) ?_
            refine wl (ro_assign rfl) ?_
            refine wl_nil (x_then (hK17 _ _ ?_))
            clear hK17 K17
            refine forget [(0, _), (1, _), (7, _), (8, _)] ⟨rfl, rfl, rfl, rfl, trivial⟩ (fun e => ?_)
            refine c_seq (fun K18 hK18 => ?_)
            refine c_reg ?_ -- region 10 syntaxm.go:730
            refine wl (ro_move rfl) ?_
            refine wl_call rfl en_48 (nextM hA3.v (by omega)) ?_
            rintro _ u4 ⟨rfl, hM4, F4⟩
            replace hF := ar_one hF F4
            have hA4 := hA3.turn hM4 F4
            have ha1 := adv_len' (s := s0) (by omega)
            have hpe2 := hpe0.cm (Cm.adv hpe0)
            have hG4 := hG.at (lv1 := lv + 1) hA4 hpe2 (by show s0.lo ≤ lv + 1; omega) (by omega) (by omega) (by omega)
            refine wl_nil (x_then (hK18 _ _ ?_))
            clear hK18 K18
            refine forget [(0, _), (1, _), (7, _), (8, _)] ⟨rfl, rfl, rfl, rfl, trivial⟩ (fun e => ?_)
            refine c_seq (fun K19 hK19 => ?_)
            rcases RY with ⟨ee, pp⟩ | ⟨y, s2⟩
            · skip
              refine c_reg ?_ -- region 11 syntaxm.go:731
              refine wl (ro_move rfl) ?_
              refine wl (ro_move rfl) ?_
              refine wl (ro_arith rfl rfl rfl (Go.IntWalk.i64_in _ (by omega))) ?_
              refine wl_call rfl en_252 (ih.lf (r := 2) hG4 (.inr rfl) (by decide) (by decide) (by omega) hY) ?_
              rintro v u5 ⟨F5, ⟨z, rfl⟩, hE⟩
              replace hF := ar_trans hF hn3 F5
              have hE0 := hE.le (lv' := lv) (by omega)
              obtain ⟨np', src', pos', t', U', al', lo', fu', hXe, h1, h2, h3, h4⟩ := hE
              unfold mpc at hXe
              refine wl (ro_assign rfl) ?_
              refine wl_nil (x_then (hK19 _ _ ?_))
              clear hK19 K19
              refine c_seq (fun K20 hK20 => ?_)
              refine c_seq (fun K21 hK21 => ?_)
              refine c_reg ?_ -- region 12 syntaxm.go:732
              refine wl (ro_move rfl) ?_
              refine wl (ro_nilCheck rfl) ?_
              refine wl (ro_fieldAddr (k := 9) rfl fo_146_5) ?_
              refine wl (ro_loadB rfl sc_54 (by assumption) rfl) ?_
              refine wl (ro_cmp rfl rfl rfl) ?_
              refine wl_nil (x_then (hK21 _ _ ?_))
              clear hK21 K21
              refine wc_cond rfl (fun hc53 => ?_) (fun hc53 => ?_)
              · try simp only [decide_eq_true_eq, decide_eq_false_iff_not, Bool.not_eq_true', Bool.not_eq_false', Bool.not_eq_eq_eq_not, Bool.not_true, Bool.not_false, beq_iff_eq, bne_iff_ne, ne_eq, beq_eq_false_iff_ne, bne_eq_false_iff_eq, gt_iff_lt, ge_iff_le, Int.not_lt, Int.not_le] at hc53
                refine c_seq (fun K22 hK22 => ?_)
                refine c_reg ?_ -- region 13 syntaxm.go:733
                refine wl (ro_assign rfl) ?_
                refine wl_nil (x_then (hK22 _ _ ?_))
                clear hK22 K22
                refine c_ret (x_thenR (x_thenR ?_))
                refine bp_ret Tryz.results252 rfl ?_
                cases hRY
                exact ⟨hF, ⟨_, rfl⟩, hE0⟩
              · try simp only [decide_eq_true_eq, decide_eq_false_iff_not, Bool.not_eq_true', Bool.not_eq_false', Bool.not_eq_eq_eq_not, Bool.not_true, Bool.not_false, beq_iff_eq, bne_iff_ne, ne_eq, beq_eq_false_iff_ne, bne_eq_false_iff_eq, gt_iff_lt, ge_iff_le, Int.not_lt, Int.not_le] at hc53
                omega
            · skip
              refine c_reg ?_ -- region 11 syntaxm.go:731
              refine wl (ro_move rfl) ?_
              refine wl (ro_move rfl) ?_
              refine wl (ro_arith rfl rfl rfl (Go.IntWalk.i64_in _ (by omega))) ?_
              refine wl_call rfl en_252 (ih.lf (r := 2) hG4 (.inr rfl) (by decide) (by decide) (by omega) hY) ?_
              rintro v u5 ⟨F5, rfl, U5, G5, hA5, hn5, hm5, hl5⟩
              have hz2 := hF.size
              replace hF := ar_trans hF hn3 F5
              have hnb := nob_trans hn3 hz2 hn5
              obtain ⟨hQE2, hSm2, hlv2, hIB2⟩ := MG.run0 hY hpe2
              obtain ⟨pos5, hX5, hp5⟩ := hA5.v.ex
              unfold mpc at hX5
              refine wl (ro_assign rfl) ?_
              refine wl_nil (x_then (hK19 _ _ ?_))
              clear hK19 K19
              refine c_seq (fun K23 hK23 => ?_)
              refine c_seq (fun K24 hK24 => ?_)
              refine c_reg ?_ -- region 12 syntaxm.go:732
              refine wl (ro_move rfl) ?_
              refine wl (ro_nilCheck rfl) ?_
              refine wl (ro_fieldAddr (k := 9) rfl fo_146_5) ?_
              refine wl (ro_loadB rfl sc_54 (by assumption) rfl) ?_
              refine wl (ro_cmp rfl rfl rfl) ?_
              refine wl_nil (x_then (hK24 _ _ ?_))
              clear hK24 K24
              refine wc_cond rfl (fun hc53 => ?_) (fun hc53 => ?_)
              · try simp only [decide_eq_true_eq, decide_eq_false_iff_not, Bool.not_eq_true', Bool.not_eq_false', Bool.not_eq_eq_eq_not, Bool.not_true, Bool.not_false, beq_iff_eq, bne_iff_ne, ne_eq, beq_eq_false_iff_ne, bne_eq_false_iff_eq, gt_iff_lt, ge_iff_le, Int.not_lt, Int.not_le] at hc53
                exact absurd rfl hc53
              · try simp only [decide_eq_true_eq, decide_eq_false_iff_not, Bool.not_eq_true', Bool.not_eq_false', Bool.not_eq_eq_eq_not, Bool.not_true, Bool.not_false, beq_iff_eq, bne_iff_ne, ne_eq, beq_eq_false_iff_ne, bne_eq_false_iff_eq, gt_iff_lt, ge_iff_le, Int.not_lt, Int.not_le] at hc53
                refine c_skip (x_then (hK23 _ _ ?_))
                clear hK23 K23
                refine forget [(0, _), (7, _), (8, _), (9, _)] ⟨rfl, rfl, rfl, rfl, trivial⟩ (fun e => ?_)
                refine c_seq (fun K25 hK25 => ?_)
                refine c_reg ?_ -- region 14 syntaxm.go:735
                refine wl (ro_move rfl) ?_
                refine wl (ro_move rfl) ?_
                refine wl (ro_move rfl) ?_
                refine wl (ro_move rfl) ?_
                refine wl (ro_build rfl bld_148_0_5_1_2_7) ?_
                refine wl_call rfl en_162 (addM (x := (⟨22, rt x0 G.length, rt y G3.length, 0, 0, 20, []⟩, s0.cur.pl)) hA5 (by omega)) ?_
                rintro _ u6 ⟨rfl, U6, hA6, hn6, F6⟩
                refine wl (ro_assign rfl) ?_
                refine wl_nil (x_then (hK25 _ _ ?_))
                clear hK25 K25
                refine c_ret (x_thenR ?_)
                refine bp_ret Tryz.results252 rfl ?_
                cases hRY
                refine ⟨ar_trans hF hnb F6, ?_, U6, _, hA6, nob_trans hnb hF.size hn6, ?_, ?_⟩
                · show _ = i64c (G.length + ndT (Ex.bin 20 x0 y) - 1)
                  have : ndT (Ex.bin 20 x0 y) = 1 + ndT x0 + ndT y := rfl
                  exact congrArg (fun z : Nat => i64c z) (by omega)
                · rw [List.map_append, hm5, hm3, hl3, List.append_assoc, List.append_assoc]
                  rw [show lay (Ex.bin 20 x0 y) G.length = lay x0 G.length ++ lay y (G.length + ndT x0) ++ [⟨22, rt x0 G.length, rt y (G.length + ndT x0), 0, 0, 20, []⟩] from rfl, List.append_assoc]
                  rfl
                · rw [List.length_append]
                  show _ = G.length + (1 + ndT x0 + ndT y)
                  simp only [List.length_cons, List.length_nil]
                  omega
    · try simp only [decide_eq_true_eq, decide_eq_false_iff_not, Bool.not_eq_true', Bool.not_eq_false', Bool.not_eq_eq_eq_not, Bool.not_true, Bool.not_false, beq_iff_eq, bne_iff_ne, ne_eq, beq_eq_false_iff_ne, bne_eq_false_iff_eq, gt_iff_lt, ge_iff_le, Int.not_lt, Int.not_le] at hc20
      have hr134 : r = 1 ∨ r = 3 ∨ r = 4 := by omega
      have hlv12 : lv ≤ 12 := by omega
      refine c_skip (x_then (hK5 _ _ ?_))
      clear hK5 K5
      refine forget [(0, _), (1, _), (2, _)] ⟨rfl, rfl, rfl, trivial⟩ (fun e => ?_)
      refine c_seq (fun K26 hK26 => ?_)
      rcases R0 with ⟨ee, pp⟩ | ⟨x0, s0⟩
      · skip
        refine c_reg ?_ -- region 15 syntaxm.go:737
        refine wl (ro_move rfl) ?_
        refine wl (ro_move rfl) ?_
        refine wl (ro_move rfl) ?_
        refine wl (ro_arith rfl rfl rfl (Go.IntWalk.i64_in _ (by omega))) ?_
        refine wl_call rfl en_252 (ih.lf (r := r + 1) hG (.inl hlv12) (by omega) (by omega) (by omega) hR0) ?_
        rintro v u3 ⟨F3, ⟨z, rfl⟩, hE⟩
        replace hF := ar_trans hF (fun b q => .inl q) F3
        have hE0 := hE
        obtain ⟨np', src', pos', t', U', al', lo', fu', hXe, h1, h2, h3, h4⟩ := hE
        unfold mpc at hXe
        refine wl (ro_assign rfl) ?_
        refine wl_nil (x_then (hK26 _ _ ?_))
        clear hK26 K26
        refine forget [(0, _), (1, _), (2, _), (10, _)] ⟨rfl, rfl, rfl, rfl, trivial⟩ (fun e => ?_)
        refine c_seq (fun K27 hK27 => ?_)
        refine c_block ?_
        -- loop@r16: live slots [0, 1, 2, 10]
        refine c_loopG (fun n a' w' => n = 0 ∧ w' = u3 ∧ ∃ e, a' = Fr 101 (upds e [(0, ptr mp), (10, .int .i64 z)]) []) 0 ⟨rfl, rfl, kp _ ⟨rfl, rfl, trivial⟩⟩ ?_
        rintro n a' w1 ⟨rfl, e9, e, rfl⟩
        replace e9 := e9.symm
        subst e9
        refine c_seq (fun K28 hK28 => ?_)
        refine c_seq (fun K29 hK29 => ?_)
        refine c_reg ?_ -- region 16 syntaxm.go:738
        refine wl (ro_move rfl) ?_
        refine wl (ro_nilCheck rfl) ?_
        refine wl (ro_fieldAddr (k := 9) rfl fo_146_5) ?_
        refine wl (ro_loadB rfl sc_54 (by assumption) rfl) ?_
        refine wl (ro_cmp (r := false) rfl rfl (congrArg some (beq_eq_false_iff_ne.2 (by omega)))) ?_
        refine wl_nil (x_then (hK29 _ _ ?_))
        clear hK29 K29
        refine wc_condF rfl ?_
        refine c_exit (x_thenX (x_thenX (x_blkX (x_then (hK27 _ _ ?_)))))
        clear hK28 K28 hK27 K27
        refine forget [] trivial (fun e => ?_)
        refine c_seq (fun K30 hK30 => ?_)
        refine c_reg ?_ -- region 26 syntaxm.go:751
        refine wl (ro_assign rfl) ?_
        refine wl_nil (x_then (hK30 _ _ ?_))
        clear hK30 K30
        refine c_ret ?_
        refine bp_ret Tryz.results252 rfl ?_
        cases hRR
        exact ⟨hF, ⟨_, rfl⟩, hE0⟩
      · skip
        refine c_reg ?_ -- region 15 syntaxm.go:737
        refine wl (ro_move rfl) ?_
        refine wl (ro_move rfl) ?_
        refine wl (ro_move rfl) ?_
        refine wl (ro_arith rfl rfl rfl (Go.IntWalk.i64_in _ (by omega))) ?_
        refine wl_call rfl en_252 (ih.lf (r := r + 1) hG (.inl hlv12) (by omega) (by omega) (by omega) hR0) ?_
        rintro v u3 ⟨F3, rfl, U3, G3, hA3, hn3, hm3, hl3⟩
        replace hF := ar_trans hF (fun b q => .inl q) F3
        obtain ⟨hQE, hSm, hlv, hIB⟩ := MG.run0 hR0 hG.pe
        have hlo0 := hSm.lo
        refine wl (ro_assign rfl) ?_
        refine wl_nil (x_then (hK26 _ _ ?_))
        clear hK26 K26
        refine forget [(0, _), (1, _), (2, _), (10, _)] ⟨rfl, rfl, rfl, rfl, trivial⟩ (fun e => ?_)
        refine c_seq (fun K31 hK31 => ?_)
        refine c_block ?_
        -- loop@r16: live slots [0, 1, 2, 10]
        refine c_loopG (fun m a' w' => ∃ (x : Tr) (U1 : Value) (G1 : List (Nd × Nat)) (s1 : PS), m = s1.len ∧ Run 1 lv (r + 2) 0 x s1 R ∧ ¬ (isBin s1.k = true ∧ r + 2 + 1 ≤ rankK s1.k) ∧ MA w' mp np src U1 G1 s1 ∧ nob U U1 w ∧ G1.map Prod.fst = G.map Prod.fst ++ lay x G.length ∧ G1.length = G.length + ndT x ∧ 1 ≤ ndT x ∧ Pe s1 ∧ s1.lo ≤ lv ∧ G1.length + 3 * s1.len ≤ 10000 ∧ s1.len < s.len ∧ Fram (arS mp U) w w' ∧ ∃ e, a' = Fr 101 (upds e [(0, ptr mp), (1, i64c lv), (2, i64c r), (10, i64c (rt x G.length))]) []) s0.len ⟨x0, U3, G3, s0, rfl, hRR.1, hRR.2, hA3, hn3, hm3, hl3, hQE.ly.pos, hG.pe.cm hSm.toCm, by omega, by omega, by omega, hF, kp _ ⟨rfl, rfl, rfl, rfl, trivial⟩⟩ ?_
        clear hF hA hM hA3 hn3 hm3 hl3 hRR hR0 hR F3 hIB hQE hSm hlo0 hlv
        rintro m a' u1 ⟨x, U1, G1, s1, rfl, hR, hno, hA, hnb, hm, hl, hxp, hpe, hlo1, hbd1, hlen, hF, e, rfl⟩
        obtain ⟨pos, hX, hpos⟩ := hA.v.ex
        unfold mpc at hX
        refine c_seq (fun K32 hK32 => ?_)
        refine c_seq (fun K33 hK33 => ?_)
        refine c_reg ?_ -- region 16 syntaxm.go:738
        refine wl (ro_move rfl) ?_
        refine wl (ro_nilCheck rfl) ?_
        refine wl (ro_fieldAddr (k := 9) rfl fo_146_5) ?_
        refine wl (ro_loadB rfl sc_54 (by assumption) rfl) ?_
        refine wl (ro_cmp rfl rfl rfl) ?_
        refine wl_nil (x_then (hK33 _ _ ?_))
        clear hK33 K33
        refine wc_condT rfl ?_
        refine c_skip (x_then (hK32 _ _ ?_))
        clear hK32 K32
        refine c_block ?_
        refine forget [(0, _), (1, _), (2, _), (10, _)] ⟨rfl, rfl, rfl, rfl, trivial⟩ (fun e => ?_)
        refine c_seq (fun K34 hK34 => ?_)
        refine c_reg ?_ -- region 17 syntaxm.go:739
        refine wl (ro_move rfl) ?_
        refine wl (ro_move rfl) ?_
        refine wl_call rfl en_280 (binOpM (r := r) hA.v hr134) ?_
        rintro _ w9 ⟨rfl, e9⟩
        replace e9 := e9.symm
        subst e9
        have hgo := rank_go hR hno (by omega)
        refine wl (ro_assign rfl) ?_
        refine wl_nil (x_then (hK34 _ _ ?_))
        clear hK34 K34
        refine c_seq (fun K35 hK35 => ?_)
        refine c_seq (fun K36 hK36 => ?_)
        refine c_reg ?_ -- region 18 syntaxm.go:740
        refine wl (ro_move rfl) ?_
        refine wl (ro_cmp rfl rfl rfl) ?_
        refine wl_nil (x_then (hK36 _ _ ?_))
        clear hK36 K36
        refine wc_cond rfl (fun hc74 => ?_) (fun hc74 => ?_)
        · try simp only [decide_eq_true_eq, decide_eq_false_iff_not, Bool.not_eq_true', Bool.not_eq_false', Bool.not_eq_eq_eq_not, Bool.not_true, Bool.not_false, beq_iff_eq, bne_iff_ne, ne_eq, beq_eq_false_iff_ne, bne_eq_false_iff_eq, gt_iff_lt, ge_iff_le, Int.not_lt, Int.not_le] at hc74
          have hb : ¬ bopR s1.k = r := fun q => by rw [if_pos q] at hc74; exact (bop_ne (x := x) (y := x) hr134 q).1 (by omega)
          rw [if_neg (fun q => hb ((bop_rank hr134).2 q))] at hgo
          refine c_seq (fun K37 hK37 => ?_)
          refine c_reg ?_ -- region 19 syntaxm.go:741
          refine wl (ro_move rfl) ?_
          refine wl (ro_assign rfl) ?_
          refine wl_nil (x_then (hK37 _ _ ?_))
          clear hK37 K37
          refine c_ret (x_thenR (x_blkR (x_thenR (x_blkR (x_thenR ?_)))))
          refine bp_ret Tryz.results252 rfl ?_
          cases hgo
          exact ⟨hF, rfl, U1, G1, hA, hnb, hm, hl⟩
        · try simp only [decide_eq_true_eq, decide_eq_false_iff_not, Bool.not_eq_true', Bool.not_eq_false', Bool.not_eq_eq_eq_not, Bool.not_true, Bool.not_false, beq_iff_eq, bne_iff_ne, ne_eq, beq_eq_false_iff_ne, bne_eq_false_iff_eq, gt_iff_lt, ge_iff_le, Int.not_lt, Int.not_le] at hc74
          have hb : bopR s1.k = r := by
            apply Classical.byContradiction
            intro q
            rw [if_neg q] at hc74
            exact hc74 rfl
          have hbb := (bop_rank hr134).1 hb
          have hbn := (isBin_iff _).1 hbb.1
          have hb16 := (bop_ne (x := x) (y := x) hr134 hb).2.1
          rw [if_pos hbb] at hgo
          obtain ⟨RY, hY, hRY⟩ := hgo
          rw [if_pos hb]
          refine c_skip (x_then (hK35 _ _ ?_))
          clear hK35 K35
          refine forget [(0, _), (1, _), (2, _), (10, _), (11, _)] ⟨rfl, rfl, rfl, rfl, rfl, trivial⟩ (fun e => ?_)
          refine c_seq (fun K38 hK38 => ?_)
          refine c_reg ?_ -- region 20 syntaxm.go:743
          refine wl (ro_move rfl) ?_
          refine wl (ro_nilCheck rfl) ?_
          refine wl (ro_fieldAddr (k := 3) rfl fo_146_3) ?_
          refine wl (ro_fieldAddr (k := 3) rfl fo_144_3) ?_
          refine wl (ro_loadB rfl sc_3 (by assumption) rfl) ?_
          refine wl (ro_assign rfl) ?_
          refine wl_nil (x_then (hK38 _ _ ?_))
          clear hK38 K38
          refine forget [(0, _), (1, _), (2, _), (10, _), (11, _), (12, _)] ⟨rfl, rfl, rfl, rfl, rfl, rfl, trivial⟩ (fun e => ?_)
          refine c_seq (fun K39 hK39 => ?_)
          refine c_reg ?_ -- region 21 syntaxm.go:744
          refine wl (ro_move rfl) ?_
          refine wl_call rfl en_48 (nextM hA.v (by omega)) ?_
          rintro _ u2 ⟨rfl, hM2, F2⟩
          replace hF := ar_one hF F2
          have hA2 := hA.turn hM2 F2
          have ha1 := adv_len' (s := s1) (by omega)
          have hpe2 := hpe.cm (Cm.adv hpe)
          have hG2 := hG.at (lv1 := lv) hA2 hpe2 hlo1 (by omega) (by omega) hl13
          refine wl_nil (x_then (hK39 _ _ ?_))
          clear hK39 K39
          refine forget [(0, _), (1, _), (2, _), (10, _), (11, _), (12, _)] ⟨rfl, rfl, rfl, rfl, rfl, rfl, trivial⟩ (fun e => ?_)
          refine c_seq (fun K40 hK40 => ?_)
          rcases RY with ⟨ee, pp⟩ | ⟨y, s2⟩
          · skip
            refine c_reg ?_ -- region 22 syntaxm.go:745
            refine wl (ro_move rfl) ?_
            refine wl (ro_move rfl) ?_
            refine wl (ro_move rfl) ?_
            refine wl (ro_arith rfl rfl rfl (Go.IntWalk.i64_in _ (by omega))) ?_
            refine wl_call rfl en_252 (ih.lf (r := r + 1) hG2 (.inl hlv12) (by omega) (by omega) (by omega) hY) ?_
            rintro v u3 ⟨F3, ⟨z, rfl⟩, hE⟩
            replace hF := ar_trans hF hnb F3
            have hE0 := hE
            obtain ⟨np', src', pos', t', U', al', lo', fu', hXe, h1, h2, h3, h4⟩ := hE
            unfold mpc at hXe
            refine wl (ro_assign rfl) ?_
            refine wl_nil (x_then (hK40 _ _ ?_))
            clear hK40 K40
            refine c_seq (fun K41 hK41 => ?_)
            refine c_seq (fun K42 hK42 => ?_)
            refine c_reg ?_ -- region 23 syntaxm.go:746
            refine wl (ro_move rfl) ?_
            refine wl (ro_nilCheck rfl) ?_
            refine wl (ro_fieldAddr (k := 9) rfl fo_146_5) ?_
            refine wl (ro_loadB rfl sc_54 (by assumption) rfl) ?_
            refine wl (ro_cmp rfl rfl rfl) ?_
            refine wl_nil (x_then (hK42 _ _ ?_))
            clear hK42 K42
            refine wc_cond rfl (fun hc92 => ?_) (fun hc92 => ?_)
            · try simp only [decide_eq_true_eq, decide_eq_false_iff_not, Bool.not_eq_true', Bool.not_eq_false', Bool.not_eq_eq_eq_not, Bool.not_true, Bool.not_false, beq_iff_eq, bne_iff_ne, ne_eq, beq_eq_false_iff_ne, bne_eq_false_iff_eq, gt_iff_lt, ge_iff_le, Int.not_lt, Int.not_le] at hc92
              refine c_seq (fun K43 hK43 => ?_)
              refine c_reg ?_ -- region 24 syntaxm.go:747
              refine wl (ro_assign rfl) ?_
              refine wl_nil (x_then (hK43 _ _ ?_))
              clear hK43 K43
              refine c_ret (x_thenR (x_blkR (x_thenR (x_blkR (x_thenR ?_)))))
              refine bp_ret Tryz.results252 rfl ?_
              cases hRY
              exact ⟨hF, ⟨_, rfl⟩, hE0⟩
            · try simp only [decide_eq_true_eq, decide_eq_false_iff_not, Bool.not_eq_true', Bool.not_eq_false', Bool.not_eq_eq_eq_not, Bool.not_true, Bool.not_false, beq_iff_eq, bne_iff_ne, ne_eq, beq_eq_false_iff_ne, bne_eq_false_iff_eq, gt_iff_lt, ge_iff_le, Int.not_lt, Int.not_le] at hc92
              omega
          · skip
            refine c_reg ?_ -- region 22 syntaxm.go:745
            refine wl (ro_move rfl) ?_
            refine wl (ro_move rfl) ?_
            refine wl (ro_move rfl) ?_
            refine wl (ro_arith rfl rfl rfl (Go.IntWalk.i64_in _ (by omega))) ?_
            refine wl_call rfl en_252 (ih.lf (r := r + 1) hG2 (.inl hlv12) (by omega) (by omega) (by omega) hY) ?_
            rintro v u3 ⟨F3, rfl, U3, G3, hA3, hn3, hm3, hl3⟩
            have hz2 : w.heap.size ≤ u2.heap.size := hF.size
            replace hF := ar_trans hF hnb F3
            replace hnb := nob_trans hnb hz2 hn3
            obtain ⟨hQE, hSm, hlv, hIB⟩ := MG.run0 hY hpe2
            have hlo2 : s2.lo = s1.lo := hSm.lo
            obtain ⟨pos3, hX3, hp3⟩ := hA3.v.ex
            unfold mpc at hX3
            refine wl (ro_assign rfl) ?_
            refine wl_nil (x_then (hK40 _ _ ?_))
            clear hK40 K40
            refine c_seq (fun K44 hK44 => ?_)
            refine c_seq (fun K45 hK45 => ?_)
            refine c_reg ?_ -- region 23 syntaxm.go:746
            refine wl (ro_move rfl) ?_
            refine wl (ro_nilCheck rfl) ?_
            refine wl (ro_fieldAddr (k := 9) rfl fo_146_5) ?_
            refine wl (ro_loadB rfl sc_54 (by assumption) rfl) ?_
            refine wl (ro_cmp rfl rfl rfl) ?_
            refine wl_nil (x_then (hK45 _ _ ?_))
            clear hK45 K45
            refine wc_cond rfl (fun hc92 => ?_) (fun hc92 => ?_)
            · try simp only [decide_eq_true_eq, decide_eq_false_iff_not, Bool.not_eq_true', Bool.not_eq_false', Bool.not_eq_eq_eq_not, Bool.not_true, Bool.not_false, beq_iff_eq, bne_iff_ne, ne_eq, beq_eq_false_iff_ne, bne_eq_false_iff_eq, gt_iff_lt, ge_iff_le, Int.not_lt, Int.not_le] at hc92
              exact absurd rfl hc92
            · try simp only [decide_eq_true_eq, decide_eq_false_iff_not, Bool.not_eq_true', Bool.not_eq_false', Bool.not_eq_eq_eq_not, Bool.not_true, Bool.not_false, beq_iff_eq, bne_iff_ne, ne_eq, beq_eq_false_iff_ne, bne_eq_false_iff_eq, gt_iff_lt, ge_iff_le, Int.not_lt, Int.not_le] at hc92
              refine c_skip (x_then (hK44 _ _ ?_))
              clear hK44 K44
              refine c_reg ?_ -- region 25 syntaxm.go:749
              refine wl (ro_move rfl) ?_
              refine wl (ro_move rfl) ?_
              refine wl (ro_conv rfl sc_3 in_117 (Go.IntWalk.u64_in _ (by omega))) ?_
              refine wl (ro_move rfl) ?_
              refine wl (ro_move rfl) ?_
              refine wl (ro_move rfl) ?_
              refine wl (ro_build rfl bld_148_0_5_1_2_7) ?_
              refine wl_call rfl en_162 (addM (x := (⟨22, rt x G.length, rt y G1.length, 0, 0, bopO s1.k, []⟩, s1.cur.pl)) hA3 (by omega)) ?_
              rintro _ u4 ⟨rfl, U4, hA4, hn4, F4⟩
              refine wl (ro_assign rfl) ?_
              refine wl_nil (x_blk (x_then ?_))
              have hnd : ndT (binT s1.k x y) = 1 + ndT x + ndT y := nd_bin _ _ _
              have hbt : binT s1.k x y = Ex.bin (bopO s1.k) x y := (bop_ne hr134 hb).2.2
              replace hRY : Run 1 lv (r + 2) 0 (binT s1.k x y) s2 R ∧ ¬ (isBin s2.k = true ∧ r + 2 + 1 ≤ rankK s2.k) := hRY
              rw [hbt] at hRY hnd
              refine ⟨s2.len, by omega, Ex.bin (bopO s1.k) x y, U4, _, s2, rfl, hRY.1, hRY.2, hA4, nob_trans hnb hF.size hn4, ?_, ?_, by omega, hpe2.cm hSm.toCm, by omega, ?_, by omega, ar_trans hF hnb F4, kp _ ⟨rfl, rfl, rfl, congrArg (fun z : Nat => some (i64c z)) ?_, trivial⟩⟩
              · rw [List.map_append, hm3, hm, hl, List.append_assoc, List.append_assoc]
                rw [show lay (Ex.bin (bopO s1.k) x y) G.length = lay x G.length ++ lay y (G.length + ndT x) ++ [⟨22, rt x G.length, rt y (G.length + ndT x), 0, 0, bopO s1.k, []⟩] from rfl, List.append_assoc]
                rfl
              · rw [List.length_append]
                simp only [List.length_cons, List.length_nil]
                omega
              · rw [List.length_append]
                simp only [List.length_cons, List.length_nil]
                omega
              · show _ = G.length + ndT (Ex.bin (bopO s1.k) x y) - 1
                omega
end Go.Proofs.Qxb6500568aGreatDoor
