import Derived.Test.Qxb6500568aGreatDoorXc
/- The model's parser: small functions, the arena. -/
namespace Go.Proofs.Qxb6500568aGreatDoor
open Ieee
set_option linter.unusedVariables false
set_option linter.unusedSimpArgs false

section
variable {w w' : World} {mp : Nat} {np : Value} {src : Str} {U : Value} {s : PS} {lv e p : Nat}
theorem wantM {k : Nat} (hM : MV w mp np src U s) (hk : 5 ≤ k) (hk2 : k ≤ 46) (hl : lv ≤ 14) : Ret Tryz.prog 211 [ptr mp, S (txt k)] w (fun r w' => r = .tuple #[] ∧ (if s.k = k then MV w' mp np src U s.adv else ME w' mp lv (if s.k = 1 then s.cur.e else 15) s.cur.pl) ∧ Fram (one mp) w w') := by
  refine ret_of Tryz.func211 rfl Tryz.ntmps211 rfl ?_
  refine c_seq (fun K1 hK1 => ?_)
  refine c_seq (fun K2 hK2 => ?_)
  refine c_reg ?_ -- region 0 syntaxm.go:183
  refine wl (ro_move rfl) ?_
  refine wl (ro_move rfl) ?_
  refine wl_call rfl en_156 (is156 hM hk hk2) ?_
  rintro _ _ ⟨rfl, rfl⟩
  refine wl (ro_not rfl) ?_
  refine wl_nil (x_then (hK2 _ _ ?_))
  clear hK2 K2
  refine wc_cond rfl (fun hc7 => ?_) (fun hc7 => ?_)
  · try simp only [decide_eq_true_eq, decide_eq_false_iff_not, Bool.not_eq_true', Bool.not_eq_false', Bool.not_eq_eq_eq_not, Bool.not_true, Bool.not_false, beq_iff_eq, bne_iff_ne, ne_eq, beq_eq_false_iff_ne, bne_eq_false_iff_eq, gt_iff_lt, ge_iff_le, Int.not_lt, Int.not_le] at hc7
    refine c_seq (fun K3 hK3 => ?_)
    refine c_reg ?_ -- region 1 syntaxm.go:184
    refine wl (ro_move rfl) ?_
    refine wl_call rfl en_50 (failM (lv := lv) (c := 15) hM (by decide) hl) ?_
    rintro _ u1 ⟨rfl, hE, F1⟩
    refine wl_nil (x_then (hK3 _ _ ?_))
    clear hK3 K3
    refine c_ret (x_thenR ?_)
    refine bp_ret Tryz.results211 rfl ?_
    exact ⟨rfl, by rw [if_neg (by simpa using hc7)]; exact hE, F1⟩
  · try simp only [decide_eq_true_eq, decide_eq_false_iff_not, Bool.not_eq_true', Bool.not_eq_false', Bool.not_eq_eq_eq_not, Bool.not_true, Bool.not_false, beq_iff_eq, bne_iff_ne, ne_eq, beq_eq_false_iff_ne, bne_eq_false_iff_eq, gt_iff_lt, ge_iff_le, Int.not_lt, Int.not_le] at hc7
    refine c_skip (x_then (hK1 _ _ ?_))
    clear hK1 K1
    refine c_reg ?_ -- region 2 syntaxm.go:187
    refine wl (ro_move rfl) ?_
    refine wl_call rfl en_48 (nextM hM (by omega)) ?_
    rintro _ u1 ⟨rfl, hM1, F1⟩
    refine wl_nil ?_
    refine bp_end Tryz.results211 rfl ?_
    exact ⟨rfl, by rw [if_pos (by simpa using hc7)]; exact hM1, F1⟩
theorem wantE {z : Str} (hM : ME w mp lv e p) : Ret Tryz.prog 211 [ptr mp, S z] w (fun r w' => r = .tuple #[] ∧ ME w' mp lv e p ∧ Fram (one mp) w w') := by
  refine ret_of Tryz.func211 rfl Tryz.ntmps211 rfl ?_
  refine c_seq (fun K1 hK1 => ?_)
  refine c_seq (fun K2 hK2 => ?_)
  refine c_reg ?_ -- region 0 syntaxm.go:183
  refine wl (ro_move rfl) ?_
  refine wl (ro_move rfl) ?_
  refine wl_call rfl en_156 (isE156 hM) ?_
  rintro _ _ ⟨⟨b, rfl⟩, rfl⟩
  refine wl (ro_not rfl) ?_
  refine wl_nil (x_then (hK2 _ _ ?_))
  clear hK2 K2
  refine wc_cond rfl (fun hc7 => ?_) (fun hc7 => ?_)
  · try simp only [decide_eq_true_eq, decide_eq_false_iff_not, Bool.not_eq_true', Bool.not_eq_false', Bool.not_eq_eq_eq_not, Bool.not_true, Bool.not_false, beq_iff_eq, bne_iff_ne, ne_eq, beq_eq_false_iff_ne, bne_eq_false_iff_eq, gt_iff_lt, ge_iff_le, Int.not_lt, Int.not_le] at hc7
    refine c_seq (fun K3 hK3 => ?_)
    refine c_reg ?_ -- region 1 syntaxm.go:184
    refine wl (ro_move rfl) ?_
    refine wl_call rfl en_50 (failE (c := 15) hM) ?_
    rintro _ _ ⟨rfl, rfl⟩
    refine wl_nil (x_then (hK3 _ _ ?_))
    clear hK3 K3
    refine c_ret (x_thenR ?_)
    refine bp_ret Tryz.results211 rfl ?_
    exact ⟨rfl, hM, Fram.refl _ _⟩
  · try simp only [decide_eq_true_eq, decide_eq_false_iff_not, Bool.not_eq_true', Bool.not_eq_false', Bool.not_eq_eq_eq_not, Bool.not_true, Bool.not_false, beq_iff_eq, bne_iff_ne, ne_eq, beq_eq_false_iff_ne, bne_eq_false_iff_eq, gt_iff_lt, ge_iff_le, Int.not_lt, Int.not_le] at hc7
    refine c_skip (x_then (hK1 _ _ ?_))
    clear hK1 K1
    refine c_reg ?_ -- region 2 syntaxm.go:187
    refine wl (ro_move rfl) ?_
    refine wl_call rfl en_48 (nextE hM) ?_
    rintro _ u1 ⟨rfl, hM1, F1⟩
    refine wl_nil ?_
    refine bp_end Tryz.results211 rfl ?_
    exact ⟨rfl, hM1, F1⟩
theorem mK_1 {t : Tok} : mK t = 1 ↔ t.k = 2 := by
  unfold mK
  repeat' split
  all_goals omega
theorem mK_0 {t : Tok} : mK t = 0 ↔ t.k = 0 := by
  unfold mK
  repeat' split
  all_goals omega
theorem mK_4 {t : Tok} : mK t = 4 ↔ 5 ≤ t.k := by
  unfold mK
  repeat' split
  all_goals omega
theorem nameMF {x : Nat} (h : NmF x s e p) (hM : MV w mp np src U s) (hx : x ≤ 4) (hl : lv ≤ 14) : Ret Tryz.prog 209 [ptr mp, i64c x] w (fun r w' => Fram (one mp) w w' ∧ (∃ (a : Str) (b : Int), r = .tuple #[S a, .int .i64 b]) ∧ ME w' mp lv e p) := by
  obtain ⟨pos, hX, h2, h3⟩ := hM.ex
  have hal := hM.al
  have hkk : s.k = s.cur.k := rfl
  have hk1 := mK_1 (t := s.cur)
  unfold mpc at hX
  refine ret_of Tryz.func209 rfl Tryz.ntmps209 rfl ?_
  refine c_seq (fun K1 hK1 => ?_)
  refine c_reg ?_ -- region 0 syntaxm.go:204
  refine wl (ro_assign rfl) ?_
  refine wl (ro_assign rfl) ?_
  refine wl_nil (x_then (hK1 _ _ ?_))
  clear hK1 K1
  refine c_seq (fun K2 hK2 => ?_)
  refine c_seq (fun K3 hK3 => ?_)
  refine c_reg ?_ -- region 1 syntaxm.go:205
  refine wl (ro_move rfl) ?_
  refine wl (ro_nilCheck rfl) ?_
  refine wl (ro_fieldAddr (k := 3) rfl fo_146_3) ?_
  refine wl (ro_fieldAddr (k := 0) rfl fo_144_0) ?_
  refine wl (ro_loadB rfl sc_3 (by assumption) rfl) ?_
  refine wl (ro_cmp rfl rfl rfl) ?_
  refine wl_nil (x_then (hK3 _ _ ?_))
  clear hK3 K3
  refine wc_cond rfl (fun hc13 => ?_) (fun hc13 => ?_)
  · try simp only [decide_eq_true_eq, decide_eq_false_iff_not, Bool.not_eq_true', Bool.not_eq_false', Bool.not_eq_eq_eq_not, Bool.not_true, Bool.not_false, beq_iff_eq, bne_iff_ne, ne_eq, beq_eq_false_iff_ne, bne_eq_false_iff_eq, gt_iff_lt, ge_iff_le, Int.not_lt, Int.not_le] at hc13
    refine c_seq (fun K4 hK4 => ?_)
    refine c_reg ?_ -- region 2 syntaxm.go:206
    refine wl (ro_move rfl) ?_
    refine wl_call rfl en_50 (failM (lv := lv) (c := 15) hM (by decide) hl) ?_
    rintro _ u1 ⟨rfl, hE, F1⟩
    refine wl_nil (x_then (hK4 _ _ ?_))
    clear hK4 K4
    refine forget [] trivial (fun e => ?_)
    refine c_seq (fun K5 hK5 => ?_)
    refine c_reg ?_ -- region 3 syntaxm.go:207
    refine wl (ro_assign rfl) ?_
    refine wl (ro_assign rfl) ?_
    refine wl_nil (x_then (hK5 _ _ ?_))
    clear hK5 K5
    refine c_ret (x_thenR ?_)
    refine bp_ret Tryz.results209 rfl ?_
    rcases h with ⟨q1, q2⟩ | ⟨q1, _⟩
    · cases q2; exact ⟨F1, ⟨[], 0, rfl⟩, hE⟩
    · omega
  · try simp only [decide_eq_true_eq, decide_eq_false_iff_not, Bool.not_eq_true', Bool.not_eq_false', Bool.not_eq_eq_eq_not, Bool.not_true, Bool.not_false, beq_iff_eq, bne_iff_ne, ne_eq, beq_eq_false_iff_ne, bne_eq_false_iff_eq, gt_iff_lt, ge_iff_le, Int.not_lt, Int.not_le] at hc13
    rcases h with ⟨q1, q2⟩ | ⟨q1, q3, q2⟩
    · omega
    refine c_skip (x_then (hK2 _ _ ?_))
    clear hK2 K2
    refine c_seq (fun K6 hK6 => ?_)
    refine c_seq (fun K7 hK7 => ?_)
    refine c_reg ?_ -- region 4 syntaxm.go:209
    refine wl (ro_move rfl) ?_
    refine wl (ro_cmp rfl rfl rfl) ?_
    refine wl_fork rfl (fun hg18 => ?_) (fun hg18 => ?_)
    · try simp only [decide_eq_true_eq, decide_eq_false_iff_not, Bool.not_eq_true', Bool.not_eq_false', Bool.not_eq_eq_eq_not, Bool.not_true, Bool.not_false, beq_iff_eq, bne_iff_ne, ne_eq, beq_eq_false_iff_ne, bne_eq_false_iff_eq, gt_iff_lt, ge_iff_le, Int.not_lt, Int.not_le] at hg18
      refine wlg_yes rfl (ro_move rfl) ?_
      refine wlg_yes rfl (ro_nilCheck rfl) ?_
      refine wlg_yes rfl (ro_fieldAddr (k := 11) rfl fo_146_7) ?_
      refine wlg_yes rfl (ro_loadB rfl sc_3 (by assumption) rfl) ?_
      refine wlg_yes rfl (ro_move rfl) ?_
      refine wlg_yes rfl (ro_arith rfl rfl rfl (Go.IntWalk.i64_in _ (by omega))) ?_
      refine wlg_yes rfl (ro_cmp rfl rfl rfl) ?_
      refine wl (ro_pick rfl rfl rfl) ?_
      refine wl_nil (x_then (hK7 _ _ ?_))
      clear hK7 K7
      refine wc_cond rfl (fun hc26 => ?_) (fun hc26 => ?_)
      · try simp only [decide_eq_true_eq, decide_eq_false_iff_not, Bool.not_eq_true', Bool.not_eq_false', Bool.not_eq_eq_eq_not, Bool.not_true, Bool.not_false, beq_iff_eq, bne_iff_ne, ne_eq, beq_eq_false_iff_ne, bne_eq_false_iff_eq, gt_iff_lt, ge_iff_le, Int.not_lt, Int.not_le] at hc26
        refine c_seq (fun K8 hK8 => ?_)
        refine c_reg ?_ -- region 5 syntaxm.go:210
        refine wl (ro_move rfl) ?_
        refine wl_call rfl en_50 (failM (lv := lv) (c := 18) hM (by decide) hl) ?_
        rintro _ u1 ⟨rfl, hE, F1⟩
        refine wl_nil (x_then (hK8 _ _ ?_))
        clear hK8 K8
        refine forget [] trivial (fun e => ?_)
        refine c_seq (fun K9 hK9 => ?_)
        refine c_reg ?_ -- region 6 syntaxm.go:211
        refine wl (ro_assign rfl) ?_
        refine wl (ro_assign rfl) ?_
        refine wl_nil (x_then (hK9 _ _ ?_))
        clear hK9 K9
        refine c_ret (x_thenR ?_)
        refine bp_ret Tryz.results209 rfl ?_
        cases q2; exact ⟨F1, ⟨[], 0, rfl⟩, hE⟩
      · try simp only [decide_eq_true_eq, decide_eq_false_iff_not, Bool.not_eq_true', Bool.not_eq_false', Bool.not_eq_eq_eq_not, Bool.not_true, Bool.not_false, beq_iff_eq, bne_iff_ne, ne_eq, beq_eq_false_iff_ne, bne_eq_false_iff_eq, gt_iff_lt, ge_iff_le, Int.not_lt, Int.not_le] at hc26
        omega
    · try simp only [decide_eq_true_eq, decide_eq_false_iff_not, Bool.not_eq_true', Bool.not_eq_false', Bool.not_eq_eq_eq_not, Bool.not_true, Bool.not_false, beq_iff_eq, bne_iff_ne, ne_eq, beq_eq_false_iff_ne, bne_eq_false_iff_eq, gt_iff_lt, ge_iff_le, Int.not_lt, Int.not_le] at hg18
      refine wlg_no rfl ?_
      refine wlg_no rfl ?_
      refine wlg_no rfl ?_
      refine wlg_no rfl ?_
      refine wlg_no rfl ?_
      refine wlg_no rfl ?_
      refine wlg_no rfl ?_
      refine wl (ro_pick rfl rfl rfl) ?_
      refine wl_nil (x_then (hK7 _ _ ?_))
      clear hK7 K7
      refine wc_condF rfl ?_
      refine c_skip (x_then (hK6 _ _ ?_))
      clear hK6 K6
      refine forget [(0, _)] ⟨rfl, trivial⟩ (fun e => ?_)
      refine c_seq (fun K10 hK10 => ?_)
      refine c_reg ?_ -- region 7 syntaxm.go:213
      omega
theorem nameMK {x : Nat} (h : NmK x s) (hM : MV w mp np src U s) (hx : x ≤ 4) : Ret Tryz.prog 209 [ptr mp, i64c x] w (fun r w' => Fram (one mp) w w' ∧ r = .tuple #[S s.cur.s, i64c s.cur.pl] ∧ MV w' mp np src U s.adv) := by
  obtain ⟨pos, hX, h2, h3⟩ := hM.ex
  have hal := hM.al
  have hkk : s.k = s.cur.k := rfl
  have hk1 := mK_1 (t := s.cur)
  obtain ⟨q1, q2⟩ := h
  have hmS : mS s.cur = s.cur.s := by unfold mS; rw [if_pos (.inl (by omega))]
  unfold mpc at hX
  rw [hmS] at hX
  refine ret_of Tryz.func209 rfl Tryz.ntmps209 rfl ?_
  refine c_seq (fun K1 hK1 => ?_)
  refine c_reg ?_ -- region 0 syntaxm.go:204
  refine wl (ro_assign rfl) ?_
  refine wl (ro_assign rfl) ?_
  refine wl_nil (x_then (hK1 _ _ ?_))
  clear hK1 K1
  refine c_seq (fun K2 hK2 => ?_)
  refine c_seq (fun K3 hK3 => ?_)
  refine c_reg ?_ -- region 1 syntaxm.go:205
  refine wl (ro_move rfl) ?_
  refine wl (ro_nilCheck rfl) ?_
  refine wl (ro_fieldAddr (k := 3) rfl fo_146_3) ?_
  refine wl (ro_fieldAddr (k := 0) rfl fo_144_0) ?_
  refine wl (ro_loadB rfl sc_3 (by assumption) rfl) ?_
  refine wl (ro_cmp rfl rfl rfl) ?_
  refine wl_nil (x_then (hK3 _ _ ?_))
  clear hK3 K3
  refine wc_cond rfl (fun hc13 => ?_) (fun hc13 => ?_)
  · try simp only [decide_eq_true_eq, decide_eq_false_iff_not, Bool.not_eq_true', Bool.not_eq_false', Bool.not_eq_eq_eq_not, Bool.not_true, Bool.not_false, beq_iff_eq, bne_iff_ne, ne_eq, beq_eq_false_iff_ne, bne_eq_false_iff_eq, gt_iff_lt, ge_iff_le, Int.not_lt, Int.not_le] at hc13
    omega
  · try simp only [decide_eq_true_eq, decide_eq_false_iff_not, Bool.not_eq_true', Bool.not_eq_false', Bool.not_eq_eq_eq_not, Bool.not_true, Bool.not_false, beq_iff_eq, bne_iff_ne, ne_eq, beq_eq_false_iff_ne, bne_eq_false_iff_eq, gt_iff_lt, ge_iff_le, Int.not_lt, Int.not_le] at hc13
    refine c_skip (x_then (hK2 _ _ ?_))
    clear hK2 K2
    refine c_seq (fun K4 hK4 => ?_)
    refine c_seq (fun K5 hK5 => ?_)
    refine c_reg ?_ -- region 4 syntaxm.go:209
    refine wl (ro_move rfl) ?_
    refine wl (ro_cmp rfl rfl rfl) ?_
    refine wl_fork rfl (fun hg18 => ?_) (fun hg18 => ?_)
    · try simp only [decide_eq_true_eq, decide_eq_false_iff_not, Bool.not_eq_true', Bool.not_eq_false', Bool.not_eq_eq_eq_not, Bool.not_true, Bool.not_false, beq_iff_eq, bne_iff_ne, ne_eq, beq_eq_false_iff_ne, bne_eq_false_iff_eq, gt_iff_lt, ge_iff_le, Int.not_lt, Int.not_le] at hg18
      refine wlg_yes rfl (ro_move rfl) ?_
      refine wlg_yes rfl (ro_nilCheck rfl) ?_
      refine wlg_yes rfl (ro_fieldAddr (k := 11) rfl fo_146_7) ?_
      refine wlg_yes rfl (ro_loadB rfl sc_3 (by assumption) rfl) ?_
      refine wlg_yes rfl (ro_move rfl) ?_
      refine wlg_yes rfl (ro_arith rfl rfl rfl (Go.IntWalk.i64_in _ (by omega))) ?_
      refine wlg_yes rfl (ro_cmp rfl rfl rfl) ?_
      refine wl (ro_pick rfl rfl rfl) ?_
      refine wl_nil (x_then (hK5 _ _ ?_))
      clear hK5 K5
      refine wc_cond rfl (fun hc26 => ?_) (fun hc26 => ?_)
      · try simp only [decide_eq_true_eq, decide_eq_false_iff_not, Bool.not_eq_true', Bool.not_eq_false', Bool.not_eq_eq_eq_not, Bool.not_true, Bool.not_false, beq_iff_eq, bne_iff_ne, ne_eq, beq_eq_false_iff_ne, bne_eq_false_iff_eq, gt_iff_lt, ge_iff_le, Int.not_lt, Int.not_le] at hc26
        omega
      · try simp only [decide_eq_true_eq, decide_eq_false_iff_not, Bool.not_eq_true', Bool.not_eq_false', Bool.not_eq_eq_eq_not, Bool.not_true, Bool.not_false, beq_iff_eq, bne_iff_ne, ne_eq, beq_eq_false_iff_ne, bne_eq_false_iff_eq, gt_iff_lt, ge_iff_le, Int.not_lt, Int.not_le] at hc26
        refine c_skip (x_then (hK4 _ _ ?_))
        clear hK4 K4
        refine forget [(0, _)] ⟨rfl, trivial⟩ (fun e => ?_)
        refine c_seq (fun K6 hK6 => ?_)
        refine c_reg ?_ -- region 7 syntaxm.go:213
        refine wl (ro_move rfl) ?_
        refine wl (ro_nilCheck rfl) ?_
        refine wl (ro_fieldAddr (k := 3) rfl fo_146_3) ?_
        refine wl (ro_fieldAddr (k := 1) rfl fo_144_1) ?_
        refine wl (ro_loadB rfl sc_9 (by assumption) rfl) ?_
        refine wl (ro_assign rfl) ?_
        refine wl_nil (x_then (hK6 _ _ ?_))
        clear hK6 K6
        refine forget [(0, _), (6, _)] ⟨rfl, rfl, trivial⟩ (fun e => ?_)
        refine c_seq (fun K7 hK7 => ?_)
        refine c_reg ?_ -- region 8 syntaxm.go:214
        refine wl (ro_move rfl) ?_
        refine wl (ro_nilCheck rfl) ?_
        refine wl (ro_fieldAddr (k := 3) rfl fo_146_3) ?_
        refine wl (ro_fieldAddr (k := 3) rfl fo_144_3) ?_
        refine wl (ro_loadB rfl sc_3 (by assumption) rfl) ?_
        refine wl (ro_assign rfl) ?_
        refine wl_nil (x_then (hK7 _ _ ?_))
        clear hK7 K7
        refine forget [(0, _), (6, _), (7, _)] ⟨rfl, rfl, rfl, trivial⟩ (fun e => ?_)
        refine c_seq (fun K8 hK8 => ?_)
        refine c_reg ?_ -- region 9 syntaxm.go:215
        refine wl (ro_move rfl) ?_
        refine wl_call rfl en_48 (nextM hM (by omega)) ?_
        rintro _ u1 ⟨rfl, hM1, F1⟩
        refine wl_nil (x_then (hK8 _ _ ?_))
        clear hK8 K8
        refine forget [(6, _), (7, _)] ⟨rfl, rfl, trivial⟩ (fun e => ?_)
        refine c_seq (fun K9 hK9 => ?_)
        refine c_reg ?_ -- region 10 syntaxm.go:216
        refine wl (ro_move rfl) ?_
        refine wl (ro_move rfl) ?_
        refine wl (ro_assign rfl) ?_
        refine wl (ro_assign rfl) ?_
        refine wl_nil (x_then (hK9 _ _ ?_))
        clear hK9 K9
        refine c_ret ?_
        refine bp_ret Tryz.results209 rfl ?_
        exact ⟨F1, rfl, hM1⟩
    · try simp only [decide_eq_true_eq, decide_eq_false_iff_not, Bool.not_eq_true', Bool.not_eq_false', Bool.not_eq_eq_eq_not, Bool.not_true, Bool.not_false, beq_iff_eq, bne_iff_ne, ne_eq, beq_eq_false_iff_ne, bne_eq_false_iff_eq, gt_iff_lt, ge_iff_le, Int.not_lt, Int.not_le] at hg18
      refine wlg_no rfl ?_
      refine wlg_no rfl ?_
      refine wlg_no rfl ?_
      refine wlg_no rfl ?_
      refine wlg_no rfl ?_
      refine wlg_no rfl ?_
      refine wlg_no rfl ?_
      refine wl (ro_pick rfl rfl rfl) ?_
      refine wl_nil (x_then (hK5 _ _ ?_))
      clear hK5 K5
      refine wc_condF rfl ?_
      refine c_skip (x_then (hK4 _ _ ?_))
      clear hK4 K4
      refine forget [(0, _)] ⟨rfl, trivial⟩ (fun e => ?_)
      refine c_seq (fun K10 hK10 => ?_)
      refine c_reg ?_ -- region 7 syntaxm.go:213
      refine wl (ro_move rfl) ?_
      refine wl (ro_nilCheck rfl) ?_
      refine wl (ro_fieldAddr (k := 3) rfl fo_146_3) ?_
      refine wl (ro_fieldAddr (k := 1) rfl fo_144_1) ?_
      refine wl (ro_loadB rfl sc_9 (by assumption) rfl) ?_
      refine wl (ro_assign rfl) ?_
      refine wl_nil (x_then (hK10 _ _ ?_))
      clear hK10 K10
      refine forget [(0, _), (6, _)] ⟨rfl, rfl, trivial⟩ (fun e => ?_)
      refine c_seq (fun K11 hK11 => ?_)
      refine c_reg ?_ -- region 8 syntaxm.go:214
      refine wl (ro_move rfl) ?_
      refine wl (ro_nilCheck rfl) ?_
      refine wl (ro_fieldAddr (k := 3) rfl fo_146_3) ?_
      refine wl (ro_fieldAddr (k := 3) rfl fo_144_3) ?_
      refine wl (ro_loadB rfl sc_3 (by assumption) rfl) ?_
      refine wl (ro_assign rfl) ?_
      refine wl_nil (x_then (hK11 _ _ ?_))
      clear hK11 K11
      refine forget [(0, _), (6, _), (7, _)] ⟨rfl, rfl, rfl, trivial⟩ (fun e => ?_)
      refine c_seq (fun K12 hK12 => ?_)
      refine c_reg ?_ -- region 9 syntaxm.go:215
      refine wl (ro_move rfl) ?_
      refine wl_call rfl en_48 (nextM hM (by omega)) ?_
      rintro _ u1 ⟨rfl, hM1, F1⟩
      refine wl_nil (x_then (hK12 _ _ ?_))
      clear hK12 K12
      refine forget [(6, _), (7, _)] ⟨rfl, rfl, trivial⟩ (fun e => ?_)
      refine c_seq (fun K13 hK13 => ?_)
      refine c_reg ?_ -- region 10 syntaxm.go:216
      refine wl (ro_move rfl) ?_
      refine wl (ro_move rfl) ?_
      refine wl (ro_assign rfl) ?_
      refine wl (ro_assign rfl) ?_
      refine wl_nil (x_then (hK13 _ _ ?_))
      clear hK13 K13
      refine c_ret ?_
      refine bp_ret Tryz.results209 rfl ?_
      exact ⟨F1, rfl, hM1⟩
theorem nameE {x : Nat} (hM : ME w mp lv e p) (hx : x ≤ 4) (hl : lv ≤ 14) : Ret Tryz.prog 209 [ptr mp, i64c x] w (fun r w' => Fram (one mp) w w' ∧ (∃ (a : Str) (b : Int), r = .tuple #[S a, .int .i64 b]) ∧ ME w' mp lv e p) := by
  have hM0 := hM
  obtain ⟨np, src, pos, t, U, al, lo, fu, hX, h2, h3, h4, h5, h6, h7, h8, h9⟩ := hM
  unfold mpc at hX
  refine ret_of Tryz.func209 rfl Tryz.ntmps209 rfl ?_
  refine c_seq (fun K1 hK1 => ?_)
  refine c_reg ?_ -- region 0 syntaxm.go:204
  refine wl (ro_assign rfl) ?_
  refine wl (ro_assign rfl) ?_
  refine wl_nil (x_then (hK1 _ _ ?_))
  clear hK1 K1
  refine c_seq (fun K2 hK2 => ?_)
  refine c_seq (fun K3 hK3 => ?_)
  refine c_reg ?_ -- region 1 syntaxm.go:205
  refine wl (ro_move rfl) ?_
  refine wl (ro_nilCheck rfl) ?_
  refine wl (ro_fieldAddr (k := 3) rfl fo_146_3) ?_
  refine wl (ro_fieldAddr (k := 0) rfl fo_144_0) ?_
  refine wl (ro_loadB rfl sc_3 (by assumption) rfl) ?_
  refine wl (ro_cmp rfl rfl rfl) ?_
  refine wl_nil (x_then (hK3 _ _ ?_))
  clear hK3 K3
  refine wc_cond rfl (fun hc13 => ?_) (fun hc13 => ?_)
  · try simp only [decide_eq_true_eq, decide_eq_false_iff_not, Bool.not_eq_true', Bool.not_eq_false', Bool.not_eq_eq_eq_not, Bool.not_true, Bool.not_false, beq_iff_eq, bne_iff_ne, ne_eq, beq_eq_false_iff_ne, bne_eq_false_iff_eq, gt_iff_lt, ge_iff_le, Int.not_lt, Int.not_le] at hc13
    refine c_seq (fun K4 hK4 => ?_)
    refine c_reg ?_ -- region 2 syntaxm.go:206
    refine wl (ro_move rfl) ?_
    refine wl_call rfl en_50 (failE (c := 15) hM0) ?_
    rintro _ _ ⟨rfl, rfl⟩
    refine wl_nil (x_then (hK4 _ _ ?_))
    clear hK4 K4
    refine forget [] trivial (fun e => ?_)
    refine c_seq (fun K5 hK5 => ?_)
    refine c_reg ?_ -- region 3 syntaxm.go:207
    refine wl (ro_assign rfl) ?_
    refine wl (ro_assign rfl) ?_
    refine wl_nil (x_then (hK5 _ _ ?_))
    clear hK5 K5
    refine c_ret (x_thenR ?_)
    refine bp_ret Tryz.results209 rfl ?_
    exact ⟨Fram.refl _ _, ⟨_, _, rfl⟩, hM0⟩
  · try simp only [decide_eq_true_eq, decide_eq_false_iff_not, Bool.not_eq_true', Bool.not_eq_false', Bool.not_eq_eq_eq_not, Bool.not_true, Bool.not_false, beq_iff_eq, bne_iff_ne, ne_eq, beq_eq_false_iff_ne, bne_eq_false_iff_eq, gt_iff_lt, ge_iff_le, Int.not_lt, Int.not_le] at hc13
    refine c_skip (x_then (hK2 _ _ ?_))
    clear hK2 K2
    refine c_seq (fun K6 hK6 => ?_)
    refine c_seq (fun K7 hK7 => ?_)
    refine c_reg ?_ -- region 4 syntaxm.go:209
    refine wl (ro_move rfl) ?_
    refine wl (ro_cmp rfl rfl rfl) ?_
    refine wl_fork rfl (fun hg18 => ?_) (fun hg18 => ?_)
    · try simp only [decide_eq_true_eq, decide_eq_false_iff_not, Bool.not_eq_true', Bool.not_eq_false', Bool.not_eq_eq_eq_not, Bool.not_true, Bool.not_false, beq_iff_eq, bne_iff_ne, ne_eq, beq_eq_false_iff_ne, bne_eq_false_iff_eq, gt_iff_lt, ge_iff_le, Int.not_lt, Int.not_le] at hg18
      refine wlg_yes rfl (ro_move rfl) ?_
      refine wlg_yes rfl (ro_nilCheck rfl) ?_
      refine wlg_yes rfl (ro_fieldAddr (k := 11) rfl fo_146_7) ?_
      refine wlg_yes rfl (ro_loadB rfl sc_3 (by assumption) rfl) ?_
      refine wlg_yes rfl (ro_move rfl) ?_
      refine wlg_yes rfl (ro_arith rfl rfl rfl (Go.IntWalk.i64_in _ (by omega))) ?_
      refine wlg_yes rfl (ro_cmp rfl rfl rfl) ?_
      refine wl (ro_pick rfl rfl rfl) ?_
      refine wl_nil (x_then (hK7 _ _ ?_))
      clear hK7 K7
      refine wc_cond rfl (fun hc26 => ?_) (fun hc26 => ?_)
      · try simp only [decide_eq_true_eq, decide_eq_false_iff_not, Bool.not_eq_true', Bool.not_eq_false', Bool.not_eq_eq_eq_not, Bool.not_true, Bool.not_false, beq_iff_eq, bne_iff_ne, ne_eq, beq_eq_false_iff_ne, bne_eq_false_iff_eq, gt_iff_lt, ge_iff_le, Int.not_lt, Int.not_le] at hc26
        refine c_seq (fun K8 hK8 => ?_)
        refine c_reg ?_ -- region 5 syntaxm.go:210
        refine wl (ro_move rfl) ?_
        refine wl_call rfl en_50 (failE (c := 18) hM0) ?_
        rintro _ _ ⟨rfl, rfl⟩
        refine wl_nil (x_then (hK8 _ _ ?_))
        clear hK8 K8
        refine forget [] trivial (fun e => ?_)
        refine c_seq (fun K9 hK9 => ?_)
        refine c_reg ?_ -- region 6 syntaxm.go:211
        refine wl (ro_assign rfl) ?_
        refine wl (ro_assign rfl) ?_
        refine wl_nil (x_then (hK9 _ _ ?_))
        clear hK9 K9
        refine c_ret (x_thenR ?_)
        refine bp_ret Tryz.results209 rfl ?_
        exact ⟨Fram.refl _ _, ⟨_, _, rfl⟩, hM0⟩
      · try simp only [decide_eq_true_eq, decide_eq_false_iff_not, Bool.not_eq_true', Bool.not_eq_false', Bool.not_eq_eq_eq_not, Bool.not_true, Bool.not_false, beq_iff_eq, bne_iff_ne, ne_eq, beq_eq_false_iff_ne, bne_eq_false_iff_eq, gt_iff_lt, ge_iff_le, Int.not_lt, Int.not_le] at hc26
        refine c_skip (x_then (hK6 _ _ ?_))
        clear hK6 K6
        refine forget [(0, _)] ⟨rfl, trivial⟩ (fun e => ?_)
        refine c_seq (fun K10 hK10 => ?_)
        refine c_reg ?_ -- region 7 syntaxm.go:213
        refine wl (ro_move rfl) ?_
        refine wl (ro_nilCheck rfl) ?_
        refine wl (ro_fieldAddr (k := 3) rfl fo_146_3) ?_
        refine wl (ro_fieldAddr (k := 1) rfl fo_144_1) ?_
        refine wl (ro_loadB rfl sc_9 (by assumption) rfl) ?_
        refine wl (ro_assign rfl) ?_
        refine wl_nil (x_then (hK10 _ _ ?_))
        clear hK10 K10
        refine forget [(0, _), (6, _)] ⟨rfl, rfl, trivial⟩ (fun e => ?_)
        refine c_seq (fun K11 hK11 => ?_)
        refine c_reg ?_ -- region 8 syntaxm.go:214
        refine wl (ro_move rfl) ?_
        refine wl (ro_nilCheck rfl) ?_
        refine wl (ro_fieldAddr (k := 3) rfl fo_146_3) ?_
        refine wl (ro_fieldAddr (k := 3) rfl fo_144_3) ?_
        refine wl (ro_loadB rfl sc_3 (by assumption) rfl) ?_
        refine wl (ro_assign rfl) ?_
        refine wl_nil (x_then (hK11 _ _ ?_))
        clear hK11 K11
        refine forget [(0, _), (6, _), (7, _)] ⟨rfl, rfl, rfl, trivial⟩ (fun e => ?_)
        refine c_seq (fun K12 hK12 => ?_)
        refine c_reg ?_ -- region 9 syntaxm.go:215
        refine wl (ro_move rfl) ?_
        refine wl_call rfl en_48 (nextE hM0) ?_
        rintro _ u1 ⟨rfl, hM1, F1⟩
        refine wl_nil (x_then (hK12 _ _ ?_))
        clear hK12 K12
        refine forget [(6, _), (7, _)] ⟨rfl, rfl, trivial⟩ (fun e => ?_)
        refine c_seq (fun K13 hK13 => ?_)
        refine c_reg ?_ -- region 10 syntaxm.go:216
        refine wl (ro_move rfl) ?_
        refine wl (ro_move rfl) ?_
        refine wl (ro_assign rfl) ?_
        refine wl (ro_assign rfl) ?_
        refine wl_nil (x_then (hK13 _ _ ?_))
        clear hK13 K13
        refine c_ret ?_
        refine bp_ret Tryz.results209 rfl ?_
        exact ⟨F1, ⟨_, _, rfl⟩, hM1⟩
    · try simp only [decide_eq_true_eq, decide_eq_false_iff_not, Bool.not_eq_true', Bool.not_eq_false', Bool.not_eq_eq_eq_not, Bool.not_true, Bool.not_false, beq_iff_eq, bne_iff_ne, ne_eq, beq_eq_false_iff_ne, bne_eq_false_iff_eq, gt_iff_lt, ge_iff_le, Int.not_lt, Int.not_le] at hg18
      refine wlg_no rfl ?_
      refine wlg_no rfl ?_
      refine wlg_no rfl ?_
      refine wlg_no rfl ?_
      refine wlg_no rfl ?_
      refine wlg_no rfl ?_
      refine wlg_no rfl ?_
      refine wl (ro_pick rfl rfl rfl) ?_
      refine wl_nil (x_then (hK7 _ _ ?_))
      clear hK7 K7
      refine wc_condF rfl ?_
      refine c_skip (x_then (hK6 _ _ ?_))
      clear hK6 K6
      refine forget [(0, _)] ⟨rfl, trivial⟩ (fun e => ?_)
      refine c_seq (fun K14 hK14 => ?_)
      refine c_reg ?_ -- region 7 syntaxm.go:213
      refine wl (ro_move rfl) ?_
      refine wl (ro_nilCheck rfl) ?_
      refine wl (ro_fieldAddr (k := 3) rfl fo_146_3) ?_
      refine wl (ro_fieldAddr (k := 1) rfl fo_144_1) ?_
      refine wl (ro_loadB rfl sc_9 (by assumption) rfl) ?_
      refine wl (ro_assign rfl) ?_
      refine wl_nil (x_then (hK14 _ _ ?_))
      clear hK14 K14
      refine forget [(0, _), (6, _)] ⟨rfl, rfl, trivial⟩ (fun e => ?_)
      refine c_seq (fun K15 hK15 => ?_)
      refine c_reg ?_ -- region 8 syntaxm.go:214
      refine wl (ro_move rfl) ?_
      refine wl (ro_nilCheck rfl) ?_
      refine wl (ro_fieldAddr (k := 3) rfl fo_146_3) ?_
      refine wl (ro_fieldAddr (k := 3) rfl fo_144_3) ?_
      refine wl (ro_loadB rfl sc_3 (by assumption) rfl) ?_
      refine wl (ro_assign rfl) ?_
      refine wl_nil (x_then (hK15 _ _ ?_))
      clear hK15 K15
      refine forget [(0, _), (6, _), (7, _)] ⟨rfl, rfl, rfl, trivial⟩ (fun e => ?_)
      refine c_seq (fun K16 hK16 => ?_)
      refine c_reg ?_ -- region 9 syntaxm.go:215
      refine wl (ro_move rfl) ?_
      refine wl_call rfl en_48 (nextE hM0) ?_
      rintro _ u1 ⟨rfl, hM1, F1⟩
      refine wl_nil (x_then (hK16 _ _ ?_))
      clear hK16 K16
      refine forget [(6, _), (7, _)] ⟨rfl, rfl, trivial⟩ (fun e => ?_)
      refine c_seq (fun K17 hK17 => ?_)
      refine c_reg ?_ -- region 10 syntaxm.go:216
      refine wl (ro_move rfl) ?_
      refine wl (ro_move rfl) ?_
      refine wl (ro_assign rfl) ?_
      refine wl (ro_assign rfl) ?_
      refine wl_nil (x_then (hK17 _ _ ?_))
      clear hK17 K17
      refine c_ret ?_
      refine bp_ret Tryz.results209 rfl ?_
      exact ⟨F1, ⟨_, _, rfl⟩, hM1⟩
theorem deepM (hM : MV w mp np src U s) {n : Nat} (hl : lv ≤ 14) (hn : n ≤ 100) : Ret Tryz.prog 104 [ptr mp, i64c n] w (fun r w' => r = .bool (decide (12 < n)) ∧ (if 12 < n then ME w' mp lv (if s.k = 1 then s.cur.e else 16) s.cur.pl else w' = w) ∧ Fram (one mp) w w') := by
  refine ret_of Tryz.func104 rfl Tryz.ntmps104 rfl ?_
  refine c_seq (fun K1 hK1 => ?_)
  refine c_reg ?_ -- region 0 syntaxm.go:190
  refine wl (ro_assign rfl) ?_
  refine wl_nil (x_then (hK1 _ _ ?_))
  clear hK1 K1
  refine c_seq (fun K2 hK2 => ?_)
  refine c_seq (fun K3 hK3 => ?_)
  refine c_reg ?_ -- region 1 syntaxm.go:191
  refine wl (ro_move rfl) ?_
  refine wl (ro_cmp rfl rfl rfl) ?_
  refine wl_nil (x_then (hK3 _ _ ?_))
  clear hK3 K3
  refine wc_cond rfl (fun hc6 => ?_) (fun hc6 => ?_)
  · try simp only [decide_eq_true_eq, decide_eq_false_iff_not, Bool.not_eq_true', Bool.not_eq_false', Bool.not_eq_eq_eq_not, Bool.not_true, Bool.not_false, beq_iff_eq, bne_iff_ne, ne_eq, beq_eq_false_iff_ne, bne_eq_false_iff_eq, gt_iff_lt, ge_iff_le, Int.not_lt, Int.not_le] at hc6
    refine c_seq (fun K4 hK4 => ?_)
    refine c_reg ?_ -- region 2 syntaxm.go:192
    refine wl (ro_move rfl) ?_
    refine wl_call rfl en_50 (failM (lv := lv) (c := 16) hM (by decide) hl) ?_
    rintro _ u1 ⟨rfl, hE, F1⟩
    refine wl_nil (x_then (hK4 _ _ ?_))
    clear hK4 K4
    refine forget [] trivial (fun e => ?_)
    refine c_seq (fun K5 hK5 => ?_)
    refine c_reg ?_ -- region 3 syntaxm.go:193
    refine wl (ro_assign rfl) ?_
    refine wl_nil (x_then (hK5 _ _ ?_))
    clear hK5 K5
    refine c_ret (x_thenR ?_)
    refine bp_ret Tryz.results104 rfl ?_
    exact ⟨by rw [decide_eq_true (by omega)], by rw [if_pos (by omega)]; exact hE, F1⟩
  · try simp only [decide_eq_true_eq, decide_eq_false_iff_not, Bool.not_eq_true', Bool.not_eq_false', Bool.not_eq_eq_eq_not, Bool.not_true, Bool.not_false, beq_iff_eq, bne_iff_ne, ne_eq, beq_eq_false_iff_ne, bne_eq_false_iff_eq, gt_iff_lt, ge_iff_le, Int.not_lt, Int.not_le] at hc6
    refine c_skip (x_then (hK2 _ _ ?_))
    clear hK2 K2
    refine forget [] trivial (fun e => ?_)
    refine c_seq (fun K6 hK6 => ?_)
    refine c_reg ?_ -- region 4 syntaxm.go:195
    refine wl (ro_assign rfl) ?_
    refine wl_nil (x_then (hK6 _ _ ?_))
    clear hK6 K6
    refine c_ret ?_
    refine bp_ret Tryz.results104 rfl ?_
    exact ⟨by rw [decide_eq_false (by omega)], by rw [if_neg (by omega)], Fram.refl _ _⟩
theorem blockEndM (hM : MV w mp np src U s) : Ret Tryz.prog 105 [ptr mp] w (fun r w' => r = .bool (endsB s) ∧ w' = w) := by
  obtain ⟨pos, hX, h2, h3⟩ := hM.ex
  have hkk : s.k = s.cur.k := rfl
  have hk0 := mK_0 (t := s.cur)
  have hk4 := mK_4 (t := s.cur)
  have h46 := hM.k46
  have m9 := m_is (t := s.cur) (k := 9) h46 (by decide) (by decide)
  have m7 := m_is (t := s.cur) (k := 7) h46 (by decide) (by decide)
  have m8 := m_is (t := s.cur) (k := 8) h46 (by decide) (by decide)
  have t9 : txt 9 = [101, 110, 100] := rfl
  have t7 : txt 7 = [101, 108, 115, 101] := rfl
  have t8 : txt 8 = [101, 108, 115, 101, 105, 102] := rfl
  rw [t9] at m9
  rw [t7] at m7
  rw [t8] at m8
  unfold mpc at hX
  refine ret_of Tryz.func105 rfl Tryz.ntmps105 rfl ?_
  refine c_seq (fun K1 hK1 => ?_)
  refine c_reg ?_ -- region 0 syntaxm.go:219
  refine wl (ro_assign rfl) ?_
  refine wl_nil (x_then (hK1 _ _ ?_))
  clear hK1 K1
  refine c_seq (fun K2 hK2 => ?_)
  refine c_seq (fun K3 hK3 => ?_)
  refine c_reg ?_ -- region 1 syntaxm.go:220
  refine wl (ro_move rfl) ?_
  refine wl (ro_nilCheck rfl) ?_
  refine wl (ro_fieldAddr (k := 3) rfl fo_146_3) ?_
  refine wl (ro_fieldAddr (k := 0) rfl fo_144_0) ?_
  refine wl (ro_loadB rfl sc_3 (by assumption) rfl) ?_
  refine wl (ro_cmp rfl rfl rfl) ?_
  refine wl_nil (x_then (hK3 _ _ ?_))
  clear hK3 K3
  refine wc_cond rfl (fun hc8 => ?_) (fun hc8 => ?_)
  · try simp only [decide_eq_true_eq, decide_eq_false_iff_not, Bool.not_eq_true', Bool.not_eq_false', Bool.not_eq_eq_eq_not, Bool.not_true, Bool.not_false, beq_iff_eq, bne_iff_ne, ne_eq, beq_eq_false_iff_ne, bne_eq_false_iff_eq, gt_iff_lt, ge_iff_le, Int.not_lt, Int.not_le] at hc8
    refine c_seq (fun K4 hK4 => ?_)
    refine c_reg ?_ -- region 2 syntaxm.go:221
    refine wl (ro_assign rfl) ?_
    refine wl_nil (x_then (hK4 _ _ ?_))
    clear hK4 K4
    refine c_ret (x_thenR ?_)
    refine bp_ret Tryz.results105 rfl ?_
    refine ⟨congrArg Value.bool ?_, rfl⟩
    have h : s.cur.k = 0 := hk0.1 (by omega)
    unfold endsB
    rw [hkk, h]
    rfl
  · try simp only [decide_eq_true_eq, decide_eq_false_iff_not, Bool.not_eq_true', Bool.not_eq_false', Bool.not_eq_eq_eq_not, Bool.not_true, Bool.not_false, beq_iff_eq, bne_iff_ne, ne_eq, beq_eq_false_iff_ne, bne_eq_false_iff_eq, gt_iff_lt, ge_iff_le, Int.not_lt, Int.not_le] at hc8
    refine c_skip (x_then (hK2 _ _ ?_))
    clear hK2 K2
    refine forget [(0, _)] ⟨rfl, trivial⟩ (fun e => ?_)
    refine c_seq (fun K5 hK5 => ?_)
    refine c_reg ?_ -- region 3 syntaxm.go:223
    refine wl (ro_move rfl) ?_
    refine wl (ro_nilCheck rfl) ?_
    refine wl (ro_fieldAddr (k := 3) rfl fo_146_3) ?_
    refine wl (ro_fieldAddr (k := 0) rfl fo_144_0) ?_
    refine wl (ro_loadB rfl sc_3 (by assumption) rfl) ?_
    refine wl (ro_cmp rfl rfl rfl) ?_
    refine wl_fork rfl (fun hg15 => ?_) (fun hg15 => ?_)
    · try simp only [decide_eq_true_eq, decide_eq_false_iff_not, Bool.not_eq_true', Bool.not_eq_false', Bool.not_eq_eq_eq_not, Bool.not_true, Bool.not_false, beq_iff_eq, bne_iff_ne, ne_eq, beq_eq_false_iff_ne, bne_eq_false_iff_eq, gt_iff_lt, ge_iff_le, Int.not_lt, Int.not_le] at hg15
      refine wlg_yes rfl (ro_move rfl) ?_
      refine wlg_yes rfl (ro_nilCheck rfl) ?_
      refine wlg_yes rfl (ro_fieldAddr (k := 3) rfl fo_146_3) ?_
      refine wlg_yes rfl (ro_fieldAddr (k := 1) rfl fo_144_1) ?_
      refine wlg_yes rfl (ro_loadB rfl sc_9 (by assumption) rfl) ?_
      refine wlg_yes rfl (ro_eqS rfl rfl rfl) ?_
      refine wlg_fork rfl rfl (fun hg22 => ?_) (fun hg22 => ?_)
      · try simp only [decide_eq_true_eq, decide_eq_false_iff_not, Bool.not_eq_true', Bool.not_eq_false', Bool.not_eq_eq_eq_not, Bool.not_true, Bool.not_false, beq_iff_eq, bne_iff_ne, ne_eq, beq_eq_false_iff_ne, bne_eq_false_iff_eq, gt_iff_lt, ge_iff_le, Int.not_lt, Int.not_le] at hg22
        refine wlg_no rfl ?_
        refine wlg_no rfl ?_
        refine wlg_no rfl ?_
        refine wlg_no rfl ?_
        refine wlg_no rfl ?_
        refine wlg_no rfl ?_
        refine wlg_yes rfl (ro_pick rfl rfl rfl) ?_
        refine wlg_yes rfl (ro_move rfl) ?_
        refine wlg_no rfl ?_
        refine wlg_no rfl ?_
        refine wlg_no rfl ?_
        refine wlg_no rfl ?_
        refine wlg_no rfl ?_
        refine wlg_no rfl ?_
        refine wlg_yes rfl (ro_pick rfl rfl rfl) ?_
        refine wl (ro_pick rfl rfl rfl) ?_
        refine wl (ro_assign rfl) ?_
        refine wl_nil (x_then (hK5 _ _ ?_))
        clear hK5 K5
        refine c_ret ?_
        refine bp_ret Tryz.results105 rfl ?_
        refine ⟨congrArg Value.bool ?_, rfl⟩
        have h : s.cur.k = 9 := m9.1 ⟨by omega, hg22⟩
        unfold endsB
        rw [hkk, h]
        rfl
      · try simp only [decide_eq_true_eq, decide_eq_false_iff_not, Bool.not_eq_true', Bool.not_eq_false', Bool.not_eq_eq_eq_not, Bool.not_true, Bool.not_false, beq_iff_eq, bne_iff_ne, ne_eq, beq_eq_false_iff_ne, bne_eq_false_iff_eq, gt_iff_lt, ge_iff_le, Int.not_lt, Int.not_le] at hg22
        refine wlg_yes rfl (ro_move rfl) ?_
        refine wlg_yes rfl (ro_nilCheck rfl) ?_
        refine wlg_yes rfl (ro_fieldAddr (k := 3) rfl fo_146_3) ?_
        refine wlg_yes rfl (ro_fieldAddr (k := 1) rfl fo_144_1) ?_
        refine wlg_yes rfl (ro_loadB rfl sc_9 (by assumption) rfl) ?_
        refine wlg_yes rfl (ro_eqS rfl rfl rfl) ?_
        refine wlg_yes rfl (ro_pick rfl rfl rfl) ?_
        refine wlg_fork rfl rfl (fun hg30 => ?_) (fun hg30 => ?_)
        · try simp only [decide_eq_true_eq, decide_eq_false_iff_not, Bool.not_eq_true', Bool.not_eq_false', Bool.not_eq_eq_eq_not, Bool.not_true, Bool.not_false, beq_iff_eq, bne_iff_ne, ne_eq, beq_eq_false_iff_ne, bne_eq_false_iff_eq, gt_iff_lt, ge_iff_le, Int.not_lt, Int.not_le] at hg30
          refine wlg_no rfl ?_
          refine wlg_no rfl ?_
          refine wlg_no rfl ?_
          refine wlg_no rfl ?_
          refine wlg_no rfl ?_
          refine wlg_no rfl ?_
          refine wlg_yes rfl (ro_pick rfl rfl rfl) ?_
          refine wl (ro_pick rfl rfl rfl) ?_
          refine wl (ro_assign rfl) ?_
          refine wl_nil (x_then (hK5 _ _ ?_))
          clear hK5 K5
          refine c_ret ?_
          refine bp_ret Tryz.results105 rfl ?_
          refine ⟨congrArg Value.bool ?_, rfl⟩
          have h : s.cur.k = 7 := m7.1 ⟨by omega, hg30⟩
          unfold endsB
          rw [hkk, h]
          rfl
        · try simp only [decide_eq_true_eq, decide_eq_false_iff_not, Bool.not_eq_true', Bool.not_eq_false', Bool.not_eq_eq_eq_not, Bool.not_true, Bool.not_false, beq_iff_eq, bne_iff_ne, ne_eq, beq_eq_false_iff_ne, bne_eq_false_iff_eq, gt_iff_lt, ge_iff_le, Int.not_lt, Int.not_le] at hg30
          refine wlg_yes rfl (ro_move rfl) ?_
          refine wlg_yes rfl (ro_nilCheck rfl) ?_
          refine wlg_yes rfl (ro_fieldAddr (k := 3) rfl fo_146_3) ?_
          refine wlg_yes rfl (ro_fieldAddr (k := 1) rfl fo_144_1) ?_
          refine wlg_yes rfl (ro_loadB rfl sc_9 (by assumption) rfl) ?_
          refine wlg_yes rfl (ro_eqS rfl rfl rfl) ?_
          refine wlg_yes rfl (ro_pick rfl rfl rfl) ?_
          refine wl (ro_pick rfl rfl rfl) ?_
          refine wl (ro_assign rfl) ?_
          refine wl_nil (x_then (hK5 _ _ ?_))
          clear hK5 K5
          refine c_ret ?_
          refine bp_ret Tryz.results105 rfl ?_
          refine ⟨congrArg Value.bool ?_, rfl⟩
          have h4 : mK s.cur = 4 := by omega
          by_cases h8 : mS s.cur = [101, 108, 115, 101, 105, 102]
          · have h : s.cur.k = 8 := m8.1 ⟨h4, h8⟩
            rw [beq_iff_eq.2 h8]
            unfold endsB
            rw [hkk, h]
            rfl
          · rw [beq_eq_false_iff_ne.2 h8]
            have n9 : s.cur.k ≠ 9 := fun h => hg22 (m9.2 h).2
            have n7 : s.cur.k ≠ 7 := fun h => hg30 (m7.2 h).2
            have n8 : s.cur.k ≠ 8 := fun h => h8 (m8.2 h).2
            have n0 : s.cur.k ≠ 0 := by have := hk4.1 h4; omega
            unfold endsB
            rw [hkk]
            simp [n9, n7, n8, n0]
    · try simp only [decide_eq_true_eq, decide_eq_false_iff_not, Bool.not_eq_true', Bool.not_eq_false', Bool.not_eq_eq_eq_not, Bool.not_true, Bool.not_false, beq_iff_eq, bne_iff_ne, ne_eq, beq_eq_false_iff_ne, bne_eq_false_iff_eq, gt_iff_lt, ge_iff_le, Int.not_lt, Int.not_le] at hg15
      refine wlg_no rfl ?_
      refine wlg_no rfl ?_
      refine wlg_no rfl ?_
      refine wlg_no rfl ?_
      refine wlg_no rfl ?_
      refine wlg_no rfl ?_
      refine wlg_no rfl ?_
      refine wlg_no rfl ?_
      refine wlg_no rfl ?_
      refine wlg_no rfl ?_
      refine wlg_no rfl ?_
      refine wlg_no rfl ?_
      refine wlg_no rfl ?_
      refine wlg_no rfl ?_
      refine wlg_no rfl ?_
      refine wlg_no rfl ?_
      refine wlg_no rfl ?_
      refine wlg_no rfl ?_
      refine wlg_no rfl ?_
      refine wlg_no rfl ?_
      refine wlg_no rfl ?_
      refine wlg_no rfl ?_
      refine wl (ro_pick rfl rfl rfl) ?_
      refine wl (ro_assign rfl) ?_
      refine wl_nil (x_then (hK5 _ _ ?_))
      clear hK5 K5
      refine c_ret ?_
      refine bp_ret Tryz.results105 rfl ?_
      refine ⟨congrArg Value.bool ?_, rfl⟩
      have h4 : ¬ 5 ≤ s.cur.k := fun h => by have := hk4.2 h; omega
      have n0 : s.cur.k ≠ 0 := fun h => by have := hk0.2 h; omega
      unfold endsB
      rw [hkk]
      simp
      omega
end
/-- The model's parser and its arena. -/
structure MA (w : World) (mp : Nat) (np : Value) (src : Str) (U : Value) (G : List (Nd × Nat)) (s : PS) : Prop where
  v : MV w mp np src U s
  own : Own w.heap U 148 8 G.length (rws ndc G)
  ne : ¬ own1 U mp
set_option maxHeartbeats 4000000 in
theorem addM {w : World} {mp : Nat} {np : Value} {src : Str} {U : Value} {G : List (Nd × Nat)} {s : PS} {x : Nd × Nat} (hA : MA w mp np src U G s) (hl : G.length < 1000000000) :
    Ret Tryz.prog 162 [ptr mp, .agg (ndc x).toArray] w (fun r w' => r = i64c G.length ∧ ∃ U', MA w' mp np src U' (G ++ [x]) s ∧ nob U U' w ∧ Fram (arS mp U) w w') := by
  obtain ⟨ua, uc, rfl⟩ := hA.own.form
  obtain ⟨pos, hX, h2, h3⟩ := hA.v.ex
  have hXl := hX.lt
  have hF : Fram none' w w := Fram.refl _ _
  have hob : ∀ b, own1 (.slice ua G.length uc) b → b ≠ mp ∧ b < w.heap.size := fun b hb => ⟨fun e => hA.ne (e ▸ hb), hA.own.lt hb⟩
  unfold mpc at hX
  refine ret_of Tryz.func162 rfl Tryz.ntmps162 rfl ?_
  refine c_seq (fun K1 hK1 => ?_)
  refine c_reg ?_ -- region 0 syntaxm.go:198
  refine wl_box (cs := (ndc x)) rfl rfl (fun b3 w1 hbb3 h3' F1 => ?_)
  have hnempb3 : mp < b3 := Nat.lt_of_lt_of_le hX.lt hbb3
  have hbsb3 := Nat.le_trans hF.size hbb3
  replace hX := F1.blkN hX
  replace hF := hF.thenDrew.thenN F1
  refine wl (ro_assign rfl) ?_
  refine wl_nil (x_then (hK1 _ _ ?_))
  clear hK1 K1
  refine forget [(0, _), (3, _)] ⟨rfl, rfl, trivial⟩ (fun e => ?_)
  refine c_seq (fun K2 hK2 => ?_)
  refine c_piL 10 [(0, false), (1, false), (2, false), (3, false), (4, false), (5, false), (6, true), (7, true), (8, false), (9, false)] (fun u => Blk u.heap mp [np, S src, i64c pos, i64c (mK s.cur), S (mS s.cur), u64c (mN s.cur), i64c s.cur.pl, i64c (mE s.cur), .slice ua G.length uc, i64c 0, i64c 0, i64c s.al, i64c s.lo, i64c s.fu] 146 ∧ Blk u.heap b3 (ndc x) 148) mixed (by kernel_rfl) rfl (by kernel_rfl) (po_then (po_bp)) (⟨hX, h3'⟩) ?_ -- region 1 syntaxm.go:199
  refine ql_ro rfl (fun w hS => ro_move rfl) ?_
  refine ql_ro rfl (fun w hS => ro_move rfl) ?_
  refine ql_ro rfl (fun w hS => ro_nilCheck rfl) ?_
  refine ql_ro rfl (fun w hS => ro_fieldAddr (k := 8) rfl fo_146_4) ?_
  refine ql_ro rfl (fun w hS => ro_loadB rfl sc_77 (hS.1) rfl) ?_
  refine ql_ro rfl (fun w hS => ro_loadAggB rfl ag_148 (hS.2) (rfl) (rfl)) ?_
  refine ql_bsapp (t := 77) (et := 148) (k := 8) (m := G.length) (cs := ndc x) rfl rfl rfl rfl rfl rfl se_77 zx_148 by_148 rfl rfl rfl (ndc_one _) (hA.own.fram hF.thenDrew (fun _ _ h => h)) (by omega) (by omega) (fun w1 F ↦ ⟨F.blkN hX, F.blkN h3'⟩) (fun w1 F ↦ ⟨F.blkF hX (fun q ↦ (hob _ q).1 rfl), F.blkF h3' (fun q ↦ by have := hob _ q; omega)⟩) ?_
  intro v' u1 hon G1 hnb
  obtain ⟨a3, c3, rfl⟩ := hon.form
  replace hX := G1.blkF hX (fun q => (hob _ q).1 rfl)
  have hz := hF.size
  have hFt : Fram (arS mp (.slice ua G.length uc)) w u1 := hF.wide.thenDrew.trans' G1 (fun b _ q => .inr q)
  have hmsb : arS mp (.slice ua G.length uc) mp := .inl rfl
  have hnb' : ∀ b, own1 (.slice a3 (G.length + 1) c3) b → own1 (.slice ua G.length uc) b ∨ w.heap.size ≤ b := fun b q => by
    rcases hnb b q with q | q
    · exact .inl q
    · exact .inr (Nat.le_trans hz q)
  have hon2 : Own u1.heap (.slice a3 (G.length + 1) c3) 148 8 (G ++ [x]).length (rws ndc (G ++ [x])) := by
    have e : rws ndc (G ++ [x]) = rws ndc G ++ ndc x := by unfold rws; simp
    rw [e, List.length_append]; exact hon
  have hne3 : ¬ own1 (.slice a3 (G.length + 1) c3) mp := fun q => by
    rcases hnb' _ q with q | q
    · exact (hob _ q).1 rfl
    · omega
  skip
  refine ql_ro rfl (fun w hS => ro_nilCheck rfl) ?_
  refine ql_ro rfl (fun w hS => ro_fieldAddr (k := 8) rfl fo_146_4) ?_
  refine ql_put rfl rfl rfl rfl sz_77 hX (by simp) (rfl) (fun w2 hX F2 => ?_)
  replace hFt := hFt.thenDrew.thenO F2 (by first | exact .inr (by omega) | exact .inl rfl | exact .inl (by assumption) | assumption)
  have hA2 : Own (w2).heap (.slice a3 (G.length + 1) c3) 148 8 (G ++ [x]).length (rws ndc (G ++ [x])) := hon2.fram ((Fram.refl (one mp) _).thenDrew.thenO F2 (.inl rfl)) (fun b q e => hne3 (by have e : b = mp := e; rw [← e]; exact q))
  refine x_then (hK2 _ _ ?_)
  clear hK2 K2
  refine forget [(0, _)] ⟨rfl, trivial⟩ (fun e => ?_)
  refine c_seq (fun K3 hK3 => ?_)
  refine c_reg ?_ -- region 2 syntaxm.go:200
  refine wl (ro_move rfl) ?_
  refine wl (ro_nilCheck rfl) ?_
  refine wl (ro_fieldAddr (k := 8) rfl fo_146_4) ?_
  refine wl (ro_loadB rfl sc_77 (by assumption) rfl) ?_
  refine wl (ro_lenL rfl se_77) ?_
  refine wl (ro_arith (r := (G.length : Int)) rfl rfl (congrArg some (by show ((G.length + 1 : Nat) : Int) - 1 = _; omega)) (Go.IntWalk.i64_in _ (by omega))) ?_
  refine wl (ro_assign rfl) ?_
  refine wl_nil (x_then (hK3 _ _ ?_))
  clear hK3 K3
  refine c_ret ?_
  refine bp_ret Tryz.results162 rfl ?_
  exact ⟨rfl, _, ⟨⟨⟨pos, hX, h2, h3⟩, hA.v.sx, hA.v.ne, hA.v.al, hA.v.lo, hA.v.fu, hA.v.sl⟩, hA2, hne3⟩, hnb', hFt⟩
/-- Rank (of the model) and number of a binary operator. -/
def bopR (k : Nat) : Nat := if 24 ≤ k ∧ k ≤ 29 then 1 else if 31 ≤ k ∧ k ≤ 32 then 3 else if 33 ≤ k ∧ k ≤ 36 then 4 else 0
def bopO (k : Nat) : Nat := if 24 ≤ k ∧ k ≤ 29 then k - 13 else if 31 ≤ k ∧ k ≤ 36 then k - 30 else 0
theorem binOpM {w : World} {mp : Nat} {np : Value} {src : Str} {U : Value} {s : PS} {r : Nat} (hM : MV w mp np src U s) (hr : r = 1 ∨ r = 3 ∨ r = 4) : Ret Tryz.prog 280 [ptr mp, i64c r] w (fun v w' => v = i64c (if bopR s.k = r then bopO s.k else 0) ∧ w' = w) := by
  obtain ⟨pos, hX, h2, h3⟩ := hM.ex
  have hkk : s.k = s.cur.k := rfl
  have hk4 := mK_4 (t := s.cur)
  have h46 := hM.k46
  have hall : True := trivial
  unfold mpc at hX
  refine ret_of Tryz.func280 rfl Tryz.ntmps280 rfl ?_
  refine c_seq (fun K1 hK1 => ?_)
  refine c_reg ?_ -- region 0 syntaxm.go:678
  refine wl (ro_assign rfl) ?_
  refine wl_nil (x_then (hK1 _ _ ?_))
  clear hK1 K1
  refine c_seq (fun K2 hK2 => ?_)
  refine c_seq (fun K3 hK3 => ?_)
  refine c_reg ?_ -- region 1 syntaxm.go:679
  refine wl (ro_move rfl) ?_
  refine wl (ro_nilCheck rfl) ?_
  refine wl (ro_fieldAddr (k := 3) rfl fo_146_3) ?_
  refine wl (ro_fieldAddr (k := 0) rfl fo_144_0) ?_
  refine wl (ro_loadB rfl sc_3 (by assumption) rfl) ?_
  refine wl (ro_cmp rfl rfl rfl) ?_
  refine wl_nil (x_then (hK3 _ _ ?_))
  clear hK3 K3
  refine wc_cond rfl (fun hc12 => ?_) (fun hc12 => ?_)
  · try simp only [decide_eq_true_eq, decide_eq_false_iff_not, Bool.not_eq_true', Bool.not_eq_false', Bool.not_eq_eq_eq_not, Bool.not_true, Bool.not_false, beq_iff_eq, bne_iff_ne, ne_eq, beq_eq_false_iff_ne, bne_eq_false_iff_eq, gt_iff_lt, ge_iff_le, Int.not_lt, Int.not_le] at hc12
    refine c_seq (fun K4 hK4 => ?_)
    refine c_reg ?_ -- region 2 syntaxm.go:680
    refine wl (ro_assign rfl) ?_
    refine wl_nil (x_then (hK4 _ _ ?_))
    clear hK4 K4
    refine c_ret (x_thenR ?_)
    refine bp_ret Tryz.results280 rfl ?_
    refine ⟨?_, rfl⟩
    rw [if_neg]
    · rfl
    · unfold bopR
      rw [if_neg (by omega), if_neg (by omega), if_neg (by omega)]
      omega
  · try simp only [decide_eq_true_eq, decide_eq_false_iff_not, Bool.not_eq_true', Bool.not_eq_false', Bool.not_eq_eq_eq_not, Bool.not_true, Bool.not_false, beq_iff_eq, bne_iff_ne, ne_eq, beq_eq_false_iff_ne, bne_eq_false_iff_eq, gt_iff_lt, ge_iff_le, Int.not_lt, Int.not_le] at hc12
    have hm4 : mK s.cur = 4 := by omega
    have hk5 : 5 ≤ s.cur.k := hk4.1 hm4
    refine c_skip (x_then (hK2 _ _ ?_))
    clear hK2 K2
    refine forget [(0, _), (1, _)] ⟨rfl, rfl, trivial⟩ (fun e => ?_)
    refine c_seq (fun K5 hK5 => ?_)
    refine c_reg ?_ -- region 3 syntaxm.go:682
    refine wl (ro_assign rfl) ?_
    refine wl_nil (x_then (hK5 _ _ ?_))
    clear hK5 K5
    refine forget [(0, _), (1, _), (5, _)] ⟨rfl, rfl, rfl, trivial⟩ (fun e => ?_)
    refine c_seq (fun K6 hK6 => ?_)
    refine c_reg ?_ -- region 4 syntaxm.go:683
    refine wl (ro_assign rfl) ?_
    refine wl_nil (x_then (hK6 _ _ ?_))
    clear hK6 K6
    refine c_mid (fun a' w' => w' = w ∧ ∃ e, a' = Fr 46 (upds e [(1, i64c r), (5, i64c (bopR s.k)), (6, i64c (bopO s.k))]) []) ?_ ?_
    · skip
      refine c_seq (fun K7 hK7 => ?_)
      refine c_reg ?_ -- region 5 syntaxm.go:684
      refine wl (ro_move rfl) ?_
      refine wl (ro_nilCheck rfl) ?_
      refine wl (ro_fieldAddr (k := 3) rfl fo_146_3) ?_
      refine wl (ro_fieldAddr (k := 1) rfl fo_144_1) ?_
      refine wl (ro_loadB rfl sc_9 (by assumption) rfl) ?_
      refine wl_nil (x_then (hK7 _ _ ?_))
      clear hK7 K7
      refine c_block ?_
      refine forget [(1, _), (5, _), (6, _), (17, _)] ⟨rfl, rfl, rfl, rfl, trivial⟩ (fun e => ?_)
      refine c_seq (fun K8 hK8 => ?_)
      refine c_reg ?_ -- region 6 syntaxm.go:685
      refine wl (ro_eqS rfl rfl rfl) ?_
      refine wl (ro_assign rfl) ?_
      refine wl_nil (x_then (hK8 _ _ ?_))
      clear hK8 K8
      refine wc_cond rfl (fun hc18 => ?_) (fun hc18 => ?_)
      · try simp only [decide_eq_true_eq, decide_eq_false_iff_not, Bool.not_eq_true', Bool.not_eq_false', Bool.not_eq_eq_eq_not, Bool.not_true, Bool.not_false, beq_iff_eq, bne_iff_ne, ne_eq, beq_eq_false_iff_ne, bne_eq_false_iff_eq, gt_iff_lt, ge_iff_le, Int.not_lt, Int.not_le] at hc18
        refine c_reg ?_ -- region 7 syntaxm.go:686
        refine wl (ro_assign rfl) ?_
        refine wl (ro_assign rfl) ?_
        refine wl_nil (x_blk (x_then ?_))
        have hk : s.cur.k = 24 := (m_is (t := s.cur) (k := 24) h46 (by decide) (by decide)).1 ⟨hm4, hc18⟩
        exact ⟨rfl, kp _ ⟨rfl, by rw [hkk, hk]; rfl, by rw [hkk, hk]; rfl, trivial⟩⟩
      · try simp only [decide_eq_true_eq, decide_eq_false_iff_not, Bool.not_eq_true', Bool.not_eq_false', Bool.not_eq_eq_eq_not, Bool.not_true, Bool.not_false, beq_iff_eq, bne_iff_ne, ne_eq, beq_eq_false_iff_ne, bne_eq_false_iff_eq, gt_iff_lt, ge_iff_le, Int.not_lt, Int.not_le] at hc18
        replace hall := And.intro hc18 hall
        refine c_seq (fun K9 hK9 => ?_)
        refine c_reg ?_ -- region 8 syntaxm.go:687
        refine wl (ro_eqS rfl rfl rfl) ?_
        refine wl (ro_assign rfl) ?_
        refine wl_nil (x_then (hK9 _ _ ?_))
        clear hK9 K9
        refine wc_cond rfl (fun hc20 => ?_) (fun hc20 => ?_)
        · try simp only [decide_eq_true_eq, decide_eq_false_iff_not, Bool.not_eq_true', Bool.not_eq_false', Bool.not_eq_eq_eq_not, Bool.not_true, Bool.not_false, beq_iff_eq, bne_iff_ne, ne_eq, beq_eq_false_iff_ne, bne_eq_false_iff_eq, gt_iff_lt, ge_iff_le, Int.not_lt, Int.not_le] at hc20
          refine c_reg ?_ -- region 9 syntaxm.go:688
          refine wl (ro_assign rfl) ?_
          refine wl (ro_assign rfl) ?_
          refine wl_nil (x_blk (x_then ?_))
          have hk : s.cur.k = 25 := (m_is (t := s.cur) (k := 25) h46 (by decide) (by decide)).1 ⟨hm4, hc20⟩
          exact ⟨rfl, kp _ ⟨rfl, by rw [hkk, hk]; rfl, by rw [hkk, hk]; rfl, trivial⟩⟩
        · try simp only [decide_eq_true_eq, decide_eq_false_iff_not, Bool.not_eq_true', Bool.not_eq_false', Bool.not_eq_eq_eq_not, Bool.not_true, Bool.not_false, beq_iff_eq, bne_iff_ne, ne_eq, beq_eq_false_iff_ne, bne_eq_false_iff_eq, gt_iff_lt, ge_iff_le, Int.not_lt, Int.not_le] at hc20
          replace hall := And.intro hc20 hall
          refine c_seq (fun K10 hK10 => ?_)
          refine c_reg ?_ -- region 10 syntaxm.go:689
          refine wl (ro_eqS rfl rfl rfl) ?_
          refine wl (ro_assign rfl) ?_
          refine wl_nil (x_then (hK10 _ _ ?_))
          clear hK10 K10
          refine wc_cond rfl (fun hc22 => ?_) (fun hc22 => ?_)
          · try simp only [decide_eq_true_eq, decide_eq_false_iff_not, Bool.not_eq_true', Bool.not_eq_false', Bool.not_eq_eq_eq_not, Bool.not_true, Bool.not_false, beq_iff_eq, bne_iff_ne, ne_eq, beq_eq_false_iff_ne, bne_eq_false_iff_eq, gt_iff_lt, ge_iff_le, Int.not_lt, Int.not_le] at hc22
            refine c_reg ?_ -- region 11 syntaxm.go:690
            refine wl (ro_assign rfl) ?_
            refine wl (ro_assign rfl) ?_
            refine wl_nil (x_blk (x_then ?_))
            have hk : s.cur.k = 26 := (m_is (t := s.cur) (k := 26) h46 (by decide) (by decide)).1 ⟨hm4, hc22⟩
            exact ⟨rfl, kp _ ⟨rfl, by rw [hkk, hk]; rfl, by rw [hkk, hk]; rfl, trivial⟩⟩
          · try simp only [decide_eq_true_eq, decide_eq_false_iff_not, Bool.not_eq_true', Bool.not_eq_false', Bool.not_eq_eq_eq_not, Bool.not_true, Bool.not_false, beq_iff_eq, bne_iff_ne, ne_eq, beq_eq_false_iff_ne, bne_eq_false_iff_eq, gt_iff_lt, ge_iff_le, Int.not_lt, Int.not_le] at hc22
            replace hall := And.intro hc22 hall
            refine c_seq (fun K11 hK11 => ?_)
            refine c_reg ?_ -- region 12 syntaxm.go:691
            refine wl (ro_eqS rfl rfl rfl) ?_
            refine wl (ro_assign rfl) ?_
            refine wl_nil (x_then (hK11 _ _ ?_))
            clear hK11 K11
            refine wc_cond rfl (fun hc24 => ?_) (fun hc24 => ?_)
            · try simp only [decide_eq_true_eq, decide_eq_false_iff_not, Bool.not_eq_true', Bool.not_eq_false', Bool.not_eq_eq_eq_not, Bool.not_true, Bool.not_false, beq_iff_eq, bne_iff_ne, ne_eq, beq_eq_false_iff_ne, bne_eq_false_iff_eq, gt_iff_lt, ge_iff_le, Int.not_lt, Int.not_le] at hc24
              refine c_reg ?_ -- region 13 syntaxm.go:692
              refine wl (ro_assign rfl) ?_
              refine wl (ro_assign rfl) ?_
              refine wl_nil (x_blk (x_then ?_))
              have hk : s.cur.k = 27 := (m_is (t := s.cur) (k := 27) h46 (by decide) (by decide)).1 ⟨hm4, hc24⟩
              exact ⟨rfl, kp _ ⟨rfl, by rw [hkk, hk]; rfl, by rw [hkk, hk]; rfl, trivial⟩⟩
            · try simp only [decide_eq_true_eq, decide_eq_false_iff_not, Bool.not_eq_true', Bool.not_eq_false', Bool.not_eq_eq_eq_not, Bool.not_true, Bool.not_false, beq_iff_eq, bne_iff_ne, ne_eq, beq_eq_false_iff_ne, bne_eq_false_iff_eq, gt_iff_lt, ge_iff_le, Int.not_lt, Int.not_le] at hc24
              replace hall := And.intro hc24 hall
              refine c_seq (fun K12 hK12 => ?_)
              refine c_reg ?_ -- region 14 syntaxm.go:693
              refine wl (ro_eqS rfl rfl rfl) ?_
              refine wl (ro_assign rfl) ?_
              refine wl_nil (x_then (hK12 _ _ ?_))
              clear hK12 K12
              refine wc_cond rfl (fun hc26 => ?_) (fun hc26 => ?_)
              · try simp only [decide_eq_true_eq, decide_eq_false_iff_not, Bool.not_eq_true', Bool.not_eq_false', Bool.not_eq_eq_eq_not, Bool.not_true, Bool.not_false, beq_iff_eq, bne_iff_ne, ne_eq, beq_eq_false_iff_ne, bne_eq_false_iff_eq, gt_iff_lt, ge_iff_le, Int.not_lt, Int.not_le] at hc26
                refine c_reg ?_ -- region 15 syntaxm.go:694
                refine wl (ro_assign rfl) ?_
                refine wl (ro_assign rfl) ?_
                refine wl_nil (x_blk (x_then ?_))
                have hk : s.cur.k = 28 := (m_is (t := s.cur) (k := 28) h46 (by decide) (by decide)).1 ⟨hm4, hc26⟩
                exact ⟨rfl, kp _ ⟨rfl, by rw [hkk, hk]; rfl, by rw [hkk, hk]; rfl, trivial⟩⟩
              · try simp only [decide_eq_true_eq, decide_eq_false_iff_not, Bool.not_eq_true', Bool.not_eq_false', Bool.not_eq_eq_eq_not, Bool.not_true, Bool.not_false, beq_iff_eq, bne_iff_ne, ne_eq, beq_eq_false_iff_ne, bne_eq_false_iff_eq, gt_iff_lt, ge_iff_le, Int.not_lt, Int.not_le] at hc26
                replace hall := And.intro hc26 hall
                refine c_seq (fun K13 hK13 => ?_)
                refine c_reg ?_ -- region 16 syntaxm.go:695
                refine wl (ro_eqS rfl rfl rfl) ?_
                refine wl (ro_assign rfl) ?_
                refine wl_nil (x_then (hK13 _ _ ?_))
                clear hK13 K13
                refine wc_cond rfl (fun hc28 => ?_) (fun hc28 => ?_)
                · try simp only [decide_eq_true_eq, decide_eq_false_iff_not, Bool.not_eq_true', Bool.not_eq_false', Bool.not_eq_eq_eq_not, Bool.not_true, Bool.not_false, beq_iff_eq, bne_iff_ne, ne_eq, beq_eq_false_iff_ne, bne_eq_false_iff_eq, gt_iff_lt, ge_iff_le, Int.not_lt, Int.not_le] at hc28
                  refine c_reg ?_ -- region 17 syntaxm.go:696
                  refine wl (ro_assign rfl) ?_
                  refine wl (ro_assign rfl) ?_
                  refine wl_nil (x_blk (x_then ?_))
                  have hk : s.cur.k = 29 := (m_is (t := s.cur) (k := 29) h46 (by decide) (by decide)).1 ⟨hm4, hc28⟩
                  exact ⟨rfl, kp _ ⟨rfl, by rw [hkk, hk]; rfl, by rw [hkk, hk]; rfl, trivial⟩⟩
                · try simp only [decide_eq_true_eq, decide_eq_false_iff_not, Bool.not_eq_true', Bool.not_eq_false', Bool.not_eq_eq_eq_not, Bool.not_true, Bool.not_false, beq_iff_eq, bne_iff_ne, ne_eq, beq_eq_false_iff_ne, bne_eq_false_iff_eq, gt_iff_lt, ge_iff_le, Int.not_lt, Int.not_le] at hc28
                  replace hall := And.intro hc28 hall
                  refine c_seq (fun K14 hK14 => ?_)
                  refine c_reg ?_ -- region 18 syntaxm.go:697
                  refine wl (ro_eqS rfl rfl rfl) ?_
                  refine wl (ro_assign rfl) ?_
                  refine wl_nil (x_then (hK14 _ _ ?_))
                  clear hK14 K14
                  refine wc_cond rfl (fun hc30 => ?_) (fun hc30 => ?_)
                  · try simp only [decide_eq_true_eq, decide_eq_false_iff_not, Bool.not_eq_true', Bool.not_eq_false', Bool.not_eq_eq_eq_not, Bool.not_true, Bool.not_false, beq_iff_eq, bne_iff_ne, ne_eq, beq_eq_false_iff_ne, bne_eq_false_iff_eq, gt_iff_lt, ge_iff_le, Int.not_lt, Int.not_le] at hc30
                    refine c_reg ?_ -- region 19 syntaxm.go:698
                    refine wl (ro_assign rfl) ?_
                    refine wl (ro_assign rfl) ?_
                    refine wl_nil (x_blk (x_then ?_))
                    have hk : s.cur.k = 31 := (m_is (t := s.cur) (k := 31) h46 (by decide) (by decide)).1 ⟨hm4, hc30⟩
                    exact ⟨rfl, kp _ ⟨rfl, by rw [hkk, hk]; rfl, by rw [hkk, hk]; rfl, trivial⟩⟩
                  · try simp only [decide_eq_true_eq, decide_eq_false_iff_not, Bool.not_eq_true', Bool.not_eq_false', Bool.not_eq_eq_eq_not, Bool.not_true, Bool.not_false, beq_iff_eq, bne_iff_ne, ne_eq, beq_eq_false_iff_ne, bne_eq_false_iff_eq, gt_iff_lt, ge_iff_le, Int.not_lt, Int.not_le] at hc30
                    replace hall := And.intro hc30 hall
                    refine c_seq (fun K15 hK15 => ?_)
                    refine c_reg ?_ -- region 20 syntaxm.go:699
                    refine wl (ro_eqS rfl rfl rfl) ?_
                    refine wl (ro_assign rfl) ?_
                    refine wl_nil (x_then (hK15 _ _ ?_))
                    clear hK15 K15
                    refine wc_cond rfl (fun hc32 => ?_) (fun hc32 => ?_)
                    · try simp only [decide_eq_true_eq, decide_eq_false_iff_not, Bool.not_eq_true', Bool.not_eq_false', Bool.not_eq_eq_eq_not, Bool.not_true, Bool.not_false, beq_iff_eq, bne_iff_ne, ne_eq, beq_eq_false_iff_ne, bne_eq_false_iff_eq, gt_iff_lt, ge_iff_le, Int.not_lt, Int.not_le] at hc32
                      refine c_reg ?_ -- region 21 syntaxm.go:700
                      refine wl (ro_assign rfl) ?_
                      refine wl (ro_assign rfl) ?_
                      refine wl_nil (x_blk (x_then ?_))
                      have hk : s.cur.k = 32 := (m_is (t := s.cur) (k := 32) h46 (by decide) (by decide)).1 ⟨hm4, hc32⟩
                      exact ⟨rfl, kp _ ⟨rfl, by rw [hkk, hk]; rfl, by rw [hkk, hk]; rfl, trivial⟩⟩
                    · try simp only [decide_eq_true_eq, decide_eq_false_iff_not, Bool.not_eq_true', Bool.not_eq_false', Bool.not_eq_eq_eq_not, Bool.not_true, Bool.not_false, beq_iff_eq, bne_iff_ne, ne_eq, beq_eq_false_iff_ne, bne_eq_false_iff_eq, gt_iff_lt, ge_iff_le, Int.not_lt, Int.not_le] at hc32
                      replace hall := And.intro hc32 hall
                      refine c_seq (fun K16 hK16 => ?_)
                      refine c_reg ?_ -- region 22 syntaxm.go:701
                      refine wl (ro_eqS rfl rfl rfl) ?_
                      refine wl (ro_assign rfl) ?_
                      refine wl_nil (x_then (hK16 _ _ ?_))
                      clear hK16 K16
                      refine wc_cond rfl (fun hc34 => ?_) (fun hc34 => ?_)
                      · try simp only [decide_eq_true_eq, decide_eq_false_iff_not, Bool.not_eq_true', Bool.not_eq_false', Bool.not_eq_eq_eq_not, Bool.not_true, Bool.not_false, beq_iff_eq, bne_iff_ne, ne_eq, beq_eq_false_iff_ne, bne_eq_false_iff_eq, gt_iff_lt, ge_iff_le, Int.not_lt, Int.not_le] at hc34
                        refine c_reg ?_ -- region 23 syntaxm.go:702
                        refine wl (ro_assign rfl) ?_
                        refine wl (ro_assign rfl) ?_
                        refine wl_nil (x_blk (x_then ?_))
                        have hk : s.cur.k = 33 := (m_is (t := s.cur) (k := 33) h46 (by decide) (by decide)).1 ⟨hm4, hc34⟩
                        exact ⟨rfl, kp _ ⟨rfl, by rw [hkk, hk]; rfl, by rw [hkk, hk]; rfl, trivial⟩⟩
                      · try simp only [decide_eq_true_eq, decide_eq_false_iff_not, Bool.not_eq_true', Bool.not_eq_false', Bool.not_eq_eq_eq_not, Bool.not_true, Bool.not_false, beq_iff_eq, bne_iff_ne, ne_eq, beq_eq_false_iff_ne, bne_eq_false_iff_eq, gt_iff_lt, ge_iff_le, Int.not_lt, Int.not_le] at hc34
                        replace hall := And.intro hc34 hall
                        refine c_seq (fun K17 hK17 => ?_)
                        refine c_reg ?_ -- region 24 syntaxm.go:703
                        refine wl (ro_eqS rfl rfl rfl) ?_
                        refine wl (ro_assign rfl) ?_
                        refine wl_nil (x_then (hK17 _ _ ?_))
                        clear hK17 K17
                        refine wc_cond rfl (fun hc36 => ?_) (fun hc36 => ?_)
                        · try simp only [decide_eq_true_eq, decide_eq_false_iff_not, Bool.not_eq_true', Bool.not_eq_false', Bool.not_eq_eq_eq_not, Bool.not_true, Bool.not_false, beq_iff_eq, bne_iff_ne, ne_eq, beq_eq_false_iff_ne, bne_eq_false_iff_eq, gt_iff_lt, ge_iff_le, Int.not_lt, Int.not_le] at hc36
                          refine c_reg ?_ -- region 25 syntaxm.go:704
                          refine wl (ro_assign rfl) ?_
                          refine wl (ro_assign rfl) ?_
                          refine wl_nil (x_blk (x_then ?_))
                          have hk : s.cur.k = 34 := (m_is (t := s.cur) (k := 34) h46 (by decide) (by decide)).1 ⟨hm4, hc36⟩
                          exact ⟨rfl, kp _ ⟨rfl, by rw [hkk, hk]; rfl, by rw [hkk, hk]; rfl, trivial⟩⟩
                        · try simp only [decide_eq_true_eq, decide_eq_false_iff_not, Bool.not_eq_true', Bool.not_eq_false', Bool.not_eq_eq_eq_not, Bool.not_true, Bool.not_false, beq_iff_eq, bne_iff_ne, ne_eq, beq_eq_false_iff_ne, bne_eq_false_iff_eq, gt_iff_lt, ge_iff_le, Int.not_lt, Int.not_le] at hc36
                          replace hall := And.intro hc36 hall
                          refine c_seq (fun K18 hK18 => ?_)
                          refine c_reg ?_ -- region 26 syntaxm.go:705
                          refine wl (ro_eqS rfl rfl rfl) ?_
                          refine wl (ro_assign rfl) ?_
                          refine wl_nil (x_then (hK18 _ _ ?_))
                          clear hK18 K18
                          refine wc_cond rfl (fun hc38 => ?_) (fun hc38 => ?_)
                          · try simp only [decide_eq_true_eq, decide_eq_false_iff_not, Bool.not_eq_true', Bool.not_eq_false', Bool.not_eq_eq_eq_not, Bool.not_true, Bool.not_false, beq_iff_eq, bne_iff_ne, ne_eq, beq_eq_false_iff_ne, bne_eq_false_iff_eq, gt_iff_lt, ge_iff_le, Int.not_lt, Int.not_le] at hc38
                            refine c_reg ?_ -- region 27 syntaxm.go:706
                            refine wl (ro_assign rfl) ?_
                            refine wl (ro_assign rfl) ?_
                            refine wl_nil (x_blk (x_then ?_))
                            have hk : s.cur.k = 35 := (m_is (t := s.cur) (k := 35) h46 (by decide) (by decide)).1 ⟨hm4, hc38⟩
                            exact ⟨rfl, kp _ ⟨rfl, by rw [hkk, hk]; rfl, by rw [hkk, hk]; rfl, trivial⟩⟩
                          · try simp only [decide_eq_true_eq, decide_eq_false_iff_not, Bool.not_eq_true', Bool.not_eq_false', Bool.not_eq_eq_eq_not, Bool.not_true, Bool.not_false, beq_iff_eq, bne_iff_ne, ne_eq, beq_eq_false_iff_ne, bne_eq_false_iff_eq, gt_iff_lt, ge_iff_le, Int.not_lt, Int.not_le] at hc38
                            replace hall := And.intro hc38 hall
                            refine c_seq (fun K19 hK19 => ?_)
                            refine c_reg ?_ -- region 28 syntaxm.go:707
                            refine wl (ro_eqS rfl rfl rfl) ?_
                            refine wl (ro_assign rfl) ?_
                            refine wl_nil (x_then (hK19 _ _ ?_))
                            clear hK19 K19
                            refine wc_cond rfl (fun hc40 => ?_) (fun hc40 => ?_)
                            · try simp only [decide_eq_true_eq, decide_eq_false_iff_not, Bool.not_eq_true', Bool.not_eq_false', Bool.not_eq_eq_eq_not, Bool.not_true, Bool.not_false, beq_iff_eq, bne_iff_ne, ne_eq, beq_eq_false_iff_ne, bne_eq_false_iff_eq, gt_iff_lt, ge_iff_le, Int.not_lt, Int.not_le] at hc40
                              refine c_reg ?_ -- region 29 syntaxm.go:708
                              refine wl (ro_assign rfl) ?_
                              refine wl (ro_assign rfl) ?_
                              refine wl_nil (x_blk (x_then ?_))
                              have hk : s.cur.k = 36 := (m_is (t := s.cur) (k := 36) h46 (by decide) (by decide)).1 ⟨hm4, hc40⟩
                              exact ⟨rfl, kp _ ⟨rfl, by rw [hkk, hk]; rfl, by rw [hkk, hk]; rfl, trivial⟩⟩
                            · try simp only [decide_eq_true_eq, decide_eq_false_iff_not, Bool.not_eq_true', Bool.not_eq_false', Bool.not_eq_eq_eq_not, Bool.not_true, Bool.not_false, beq_iff_eq, bne_iff_ne, ne_eq, beq_eq_false_iff_ne, bne_eq_false_iff_eq, gt_iff_lt, ge_iff_le, Int.not_lt, Int.not_le] at hc40
                              replace hall := And.intro hc40 hall
                              refine c_skip (x_blk (x_then ?_))
                              obtain ⟨n36, n35, n34, n33, n32, n31, n29, n28, n27, n26, n25, n24, _⟩ := hall
                              have j24 : s.cur.k ≠ 24 := fun h => n24 ((m_is (t := s.cur) (k := 24) h46 (by decide) (by decide)).2 h).2
                              have j25 : s.cur.k ≠ 25 := fun h => n25 ((m_is (t := s.cur) (k := 25) h46 (by decide) (by decide)).2 h).2
                              have j26 : s.cur.k ≠ 26 := fun h => n26 ((m_is (t := s.cur) (k := 26) h46 (by decide) (by decide)).2 h).2
                              have j27 : s.cur.k ≠ 27 := fun h => n27 ((m_is (t := s.cur) (k := 27) h46 (by decide) (by decide)).2 h).2
                              have j28 : s.cur.k ≠ 28 := fun h => n28 ((m_is (t := s.cur) (k := 28) h46 (by decide) (by decide)).2 h).2
                              have j29 : s.cur.k ≠ 29 := fun h => n29 ((m_is (t := s.cur) (k := 29) h46 (by decide) (by decide)).2 h).2
                              have j31 : s.cur.k ≠ 31 := fun h => n31 ((m_is (t := s.cur) (k := 31) h46 (by decide) (by decide)).2 h).2
                              have j32 : s.cur.k ≠ 32 := fun h => n32 ((m_is (t := s.cur) (k := 32) h46 (by decide) (by decide)).2 h).2
                              have j33 : s.cur.k ≠ 33 := fun h => n33 ((m_is (t := s.cur) (k := 33) h46 (by decide) (by decide)).2 h).2
                              have j34 : s.cur.k ≠ 34 := fun h => n34 ((m_is (t := s.cur) (k := 34) h46 (by decide) (by decide)).2 h).2
                              have j35 : s.cur.k ≠ 35 := fun h => n35 ((m_is (t := s.cur) (k := 35) h46 (by decide) (by decide)).2 h).2
                              have j36 : s.cur.k ≠ 36 := fun h => n36 ((m_is (t := s.cur) (k := 36) h46 (by decide) (by decide)).2 h).2
                              have e1 : bopR s.k = 0 := by unfold bopR; rw [hkk, if_neg (by omega), if_neg (by omega), if_neg (by omega)]
                              have e2 : bopO s.k = 0 := by unfold bopO; rw [hkk, if_neg (by omega), if_neg (by omega)]
                              exact ⟨rfl, kp _ ⟨rfl, by rw [e1]; rfl, by rw [e2]; rfl, trivial⟩⟩
    rintro a' w' ⟨rfl, e, rfl⟩
    refine c_seq (fun K20 hK20 => ?_)
    refine c_seq (fun K21 hK21 => ?_)
    refine c_reg ?_ -- region 30 syntaxm.go:710
    refine wl (ro_move rfl) ?_
    refine wl (ro_move rfl) ?_
    refine wl (ro_cmp rfl rfl rfl) ?_
    refine wl_nil (x_then (hK21 _ _ ?_))
    clear hK21 K21
    refine wc_cond rfl (fun hc44 => ?_) (fun hc44 => ?_)
    · try simp only [decide_eq_true_eq, decide_eq_false_iff_not, Bool.not_eq_true', Bool.not_eq_false', Bool.not_eq_eq_eq_not, Bool.not_true, Bool.not_false, beq_iff_eq, bne_iff_ne, ne_eq, beq_eq_false_iff_ne, bne_eq_false_iff_eq, gt_iff_lt, ge_iff_le, Int.not_lt, Int.not_le] at hc44
      refine c_seq (fun K22 hK22 => ?_)
      refine c_reg ?_ -- region 31 syntaxm.go:711
      refine wl (ro_assign rfl) ?_
      refine wl_nil (x_then (hK22 _ _ ?_))
      clear hK22 K22
      refine c_ret (x_thenR ?_)
      refine bp_ret Tryz.results280 rfl ?_
      exact ⟨by rw [if_neg (by omega)]; rfl, rfl⟩
    · try simp only [decide_eq_true_eq, decide_eq_false_iff_not, Bool.not_eq_true', Bool.not_eq_false', Bool.not_eq_eq_eq_not, Bool.not_true, Bool.not_false, beq_iff_eq, bne_iff_ne, ne_eq, beq_eq_false_iff_ne, bne_eq_false_iff_eq, gt_iff_lt, ge_iff_le, Int.not_lt, Int.not_le] at hc44
      refine c_skip (x_then (hK20 _ _ ?_))
      clear hK20 K20
      refine forget [(6, _)] ⟨rfl, trivial⟩ (fun e => ?_)
      refine c_seq (fun K23 hK23 => ?_)
      refine c_reg ?_ -- region 32 syntaxm.go:713
      refine wl (ro_move rfl) ?_
      refine wl (ro_assign rfl) ?_
      refine wl_nil (x_then (hK23 _ _ ?_))
      clear hK23 K23
      refine c_ret ?_
      refine bp_ret Tryz.results280 rfl ?_
      exact ⟨by rw [if_pos (by omega)], rfl⟩
end Go.Proofs.Qxb6500568aGreatDoor
