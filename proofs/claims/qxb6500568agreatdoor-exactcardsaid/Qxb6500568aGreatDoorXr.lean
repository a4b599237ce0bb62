import Derived.Test.Qxb6500568aGreatDoorXq
import Derived.Test.Qxb6500568aGreatDoorVc
/- The model's parser's door: Parse. -/
namespace Go.Proofs.Qxb6500568aGreatDoor
open Ieee
set_option linter.unusedVariables false
set_option linter.unusedSimpArgs false

set_option maxHeartbeats 8000000 in
theorem Parse27 {w : World} {ow : Nat → Nat} {sb nb : Nat} {s : Str} (hX0 : Blk w.heap sb [ptr nb] 101) : Ret Tryz.prog 27 [ptr sb, S s] w (fun r w' => Fram none' w w' ∧ PrsR s w' (nw ow w.heap.size 67) r) := by
  have hF : Fram none' w w := Fram.refl _ _
  have hXl := hX0.lt
  refine ret_of Tryz.func27 rfl Tryz.ntmps27 rfl ?_
  refine c_seq (fun K1 hK1 => ?_)
  refine c_reg ?_ -- region 0 syntaxm.go:790
  refine wl (ro_assign rfl) ?_
  refine wl (ro_assign rfl) ?_
  refine wl (ro_assign rfl) ?_
  refine wl_nil (x_then (hK1 _ _ ?_))
  clear hK1 K1
  refine c_seq (fun K2 hK2 => ?_)
  refine c_seq (fun K3 hK3 => ?_)
  refine c_reg ?_ -- region 1 syntaxm.go:791
  refine wl (ro_move rfl) ?_
  refine wl (ro_lenS rfl st_9) ?_
  refine wl (ro_cmp rfl rfl rfl) ?_
  refine wl_nil (x_then (hK3 _ _ ?_))
  clear hK3 K3
  refine wc_cond rfl (fun hc11 => ?_) (fun hc11 => ?_)
  · try simp only [decide_eq_true_eq, decide_eq_false_iff_not, Bool.not_eq_true', Bool.not_eq_false', Bool.not_eq_eq_eq_not, Bool.not_true, Bool.not_false, beq_iff_eq, bne_iff_ne, ne_eq, beq_eq_false_iff_ne, bne_eq_false_iff_eq, gt_iff_lt, ge_iff_le, Int.not_lt, Int.not_le] at hc11
    refine c_seq (fun K4 hK4 => ?_)
    refine c_reg ?_ -- region 2 syntaxm.go:792
    refine wl (ro_assign rfl) ?_
    refine wl (ro_assign rfl) ?_
    refine wl (ro_assign rfl) ?_
    refine wl_nil (x_then (hK4 _ _ ?_))
    clear hK4 K4
    refine c_ret (x_thenR ?_)
    refine bp_ret Tryz.results27 rfl ?_
    refine ⟨hF, ?_⟩
    unfold PrsR prsV
    rw [if_pos (by omega)]
    rfl
  · try simp only [decide_eq_true_eq, decide_eq_false_iff_not, Bool.not_eq_true', Bool.not_eq_false', Bool.not_eq_eq_eq_not, Bool.not_true, Bool.not_false, beq_iff_eq, bne_iff_ne, ne_eq, beq_eq_false_iff_ne, bne_eq_false_iff_eq, gt_iff_lt, ge_iff_le, Int.not_lt, Int.not_le] at hc11
    refine c_skip (x_then (hK2 _ _ ?_))
    clear hK2 K2
    refine forget [(0, _), (1, _)] ⟨rfl, rfl, trivial⟩ (fun e => ?_)
    refine c_seq (fun K5 hK5 => ?_)
    refine c_reg ?_ -- region 3 syntaxm.go:794
    refine wl (ro_move rfl) ?_
    refine wl (ro_nilCheck rfl) ?_
    refine wl (ro_fieldAddr (k := 0) rfl fo_101_0) ?_
    refine wl (ro_loadB rfl sc_46 (by assumption) rfl) ?_
    refine wl (ro_move rfl) ?_
    refine wl (ro_build rfl bld_146_0_1) ?_
    refine wl_box rfl rfl (fun b18 w1 hbb18 h18 F1 => ?_)
    have hbsb18 := Nat.le_trans hF.size hbb18
    have hnesbb18 : sb < b18 := Nat.lt_of_lt_of_le hX0.lt hbb18
    replace hF := hF.thenDrew.thenN F1
    replace hX0 := F1.blkN hX0
    have hs48 : s.length ≤ 2048 := by omega
    have hlen := toks_len s
    refine wl (ro_assign rfl) ?_
    refine wl_nil (x_then (hK5 _ _ ?_))
    clear hK5 K5
    refine forget [(1, _), (7, _)] ⟨rfl, rfl, trivial⟩ (fun e => ?_)
    refine c_seq (fun K6 hK6 => ?_)
    refine c_reg ?_ -- region 4 syntaxm.go:795
    refine wl (ro_move rfl) ?_
    refine wl (ro_move rfl) ?_
    refine wl (ro_nilCheck rfl) ?_
    refine wl (ro_fieldAddr (k := 8) rfl fo_146_4) ?_
    refine wl (ro_loadB rfl sc_77 (by assumption) rfl) ?_
    refine wl (ro_build rfl bld_148) ?_
    refine wl_bsapp (t := 77) (et := 148) (k := 8) (m := 0) (cs := ndc (Nd.zero, 0)) rfl rfl rfl rfl se_77 zx_148 by_148 rfl rfl rfl (ndc_one _) (Own.nil _ _ _) (by decide) (by decide) ?_
    intro U4 u4 hon4 G4 hnb4
    obtain ⟨a4, c4, rfl⟩ := hon4.form
    have hno : ∀ b, ¬ own1 (.slice none 0 0) b := fun b q => by cases q
    have hz18 := h18.lt
    replace h18 := G4.blkF h18 (hno _)
    replace hF := hF.trans' G4 (fun b hb q => (hno _ q).elim)
    have hU4 : ∀ b, own1 (.slice a4 (0 + 1) c4) b → w.heap.size ≤ b ∧ b ≠ b18 := fun b q => by
      rcases hnb4 b q with q | q
      · exact (hno _ q).elim
      · omega
    skip
    refine wl (ro_nilCheck rfl) ?_
    refine wl (ro_fieldAddr (k := 8) rfl fo_146_4) ?_
    refine wl_put rfl rfl rfl sz_77 h18 (by simp) (rfl) (fun w2 h18 F2 => ?_)
    replace hF := hF.thenDrew.thenO F2 (by first | exact .inr (by omega) | exact .inl rfl | exact .inl (by assumption) | assumption)
    have hO4 : Own (w2).heap (.slice a4 (0 + 1) c4) 148 8 1 (rws ndc [(Nd.zero, 0)]) := hon4.fram ((Fram.refl (one b18) _).thenDrew.thenO F2 (.inl rfl)) (fun b q e => by have e : b = b18 := e; exact (hU4 b q).2 e)
    refine wl_nil (x_then (hK6 _ _ ?_))
    clear hK6 K6
    refine forget [(1, _), (7, _)] ⟨rfl, rfl, trivial⟩ (fun e => ?_)
    refine c_seq (fun K7 hK7 => ?_)
    refine c_reg ?_ -- region 5 syntaxm.go:796
    refine wl (ro_move rfl) ?_
    refine wl_call rfl en_48 (next48 h18 (Nat.zero_le _) hs48) ?_
    rintro _ u5 ⟨rfl, F5, pos', t0, h5, hp5, ⟨r5, ht5⟩, hk5⟩
    have hq := prs_eq s
    unfold chunkP at hq
    refine wl_nil (x_then (hK7 _ _ ?_))
    clear hK7 K7
    refine forget [(1, _), (7, _)] ⟨rfl, rfl, trivial⟩ (fun e => ?_)
    refine c_seq (fun K8 hK8 => ?_)
    rcases bdP_some hq with ⟨⟨ee, pp⟩, hq6, hR⟩ | ⟨t1, s1, hq6, hR⟩
    · skip
      have hcur : PS.cur ⟨toks s, 0, 0, 0⟩ = t0 := by unfold PS.cur; rw [← tkF_zero, ht5]; rfl
      obtain ⟨U0, hU0⟩ : ∃ U0 : Value, U0 = .slice a4 (0 + 1) c4 := ⟨_, rfl⟩
      have hU5 : ∀ b, own1 U0 b → w.heap.size ≤ b ∧ b ≠ b18 := fun b q => hU4 b (by rw [← hU0]; exact q)
      have hM : MV u5 b18 (ptr nb) s U0 ⟨toks s, 0, 0, 0⟩ := ⟨⟨pos', by rw [hcur, hU0]; exact h5, hp5, fun hk => by
        have hk : 1 < t0.k := by have h := hk; unfold PS.k at h; rw [hcur] at h; exact h
        rw [hcur]
        exact hk5 hk⟩, List.suffix_refl _, toks_ne s, Nat.zero_le _, Nat.zero_le _, Nat.zero_le _, hs48⟩
      have hO5 : Own u5.heap U0 148 8 1 (rws ndc [(Nd.zero, 0)]) := by rw [hU0]; exact hO4.fram F5 (fun b q e => by have e : b = b18 := e; exact (hU4 b q).2 e)
      have hA : MA u5 b18 (ptr nb) s U0 [(Nd.zero, 0)] ⟨toks s, 0, 0, 0⟩ := ⟨hM, hO5, fun q => (hU5 b18 q).2 rfl⟩
      have hpe : Pe ⟨toks s, 0, 0, 0⟩ := ⟨toksF_ok _ _ _, Nat.zero_le _⟩
      have hG : MG u5 b18 (ptr nb) s U0 [(Nd.zero, 0)] ⟨toks s, 0, 0, 0⟩ 1 := ⟨hA, hpe, Nat.zero_le _, by show 1 + 3 * (toks s).length ≤ 10000; omega, Nat.le_refl _, by decide⟩
      replace hF := hF.trans' F5 (fun b hb q => by have q : b = b18 := q; omega)
      have hz5 := hF.size
      refine c_reg ?_ -- region 6 syntaxm.go:797
      refine wl (ro_move rfl) ?_
      refine wl_call rfl en_49 ((MAll.all (20 * (toks s).length + 15)).bl hG (Nat.le_refl _) ⟨_, hq6⟩) ?_
      rintro v u6 ⟨F6, ⟨z, rfl⟩, hE⟩
      replace hF := hF.trans' F6 (fun b hb q => by
        rcases q with q | q
        · omega
        · have := (hU5 b q).1; omega)
      obtain ⟨np', src', pos'', t', U', al', lo', fu', hXe, h1, h2, h3, h4⟩ := hE
      unfold mpc at hXe
      refine wl (ro_assign rfl) ?_
      refine wl_nil (x_then (hK8 _ _ ?_))
      clear hK8 K8
      refine c_seq (fun K9 hK9 => ?_)
      refine c_seq (fun K10 hK10 => ?_)
      refine c_reg ?_ -- region 7 syntaxm.go:798
      refine wl (ro_move rfl) ?_
      refine wl (ro_nilCheck rfl) ?_
      refine wl (ro_fieldAddr (k := 9) rfl fo_146_5) ?_
      refine wl (ro_loadB rfl sc_54 (by assumption) rfl) ?_
      refine wl (ro_cmp (r := false) rfl rfl (congrArg some (beq_eq_false_iff_ne.2 (by omega)))) ?_
      refine wl (ro_move rfl) ?_
      refine wlg_no rfl ?_
      refine wlg_no rfl ?_
      refine wlg_no rfl ?_
      refine wlg_no rfl ?_
      refine wlg_no rfl ?_
      refine wlg_no rfl ?_
      refine wl (ro_pick rfl rfl rfl) ?_
      refine wl_nil (x_then (hK10 _ _ ?_))
      clear hK10 K10
      refine wc_condF rfl ?_
      refine c_skip (x_then (hK9 _ _ ?_))
      clear hK9 K9
      refine c_seq (fun K11 hK11 => ?_)
      refine c_seq (fun K12 hK12 => ?_)
      refine c_reg ?_ -- region 9 syntaxm.go:801
      refine wl (ro_move rfl) ?_
      refine wl (ro_nilCheck rfl) ?_
      refine wl (ro_fieldAddr (k := 9) rfl fo_146_5) ?_
      refine wl (ro_loadB rfl sc_54 (by assumption) rfl) ?_
      refine wl (ro_cmp rfl rfl rfl) ?_
      refine wl_nil (x_then (hK12 _ _ ?_))
      clear hK12 K12
      refine wc_cond rfl (fun hc52 => ?_) (fun hc52 => ?_)
      · try simp only [decide_eq_true_eq, decide_eq_false_iff_not, Bool.not_eq_true', Bool.not_eq_false', Bool.not_eq_eq_eq_not, Bool.not_true, Bool.not_false, beq_iff_eq, bne_iff_ne, ne_eq, beq_eq_false_iff_ne, bne_eq_false_iff_eq, gt_iff_lt, ge_iff_le, Int.not_lt, Int.not_le] at hc52
        refine c_seq (fun K13 hK13 => ?_)
        refine c_pi [(0, false), (1, false), (2, false), (3, false), (4, false), (5, false), (6, false), (7, false), (8, false), (9, false), (10, false)] (SameH _) mixed (by kernel_rfl) rfl (by kernel_rfl) (po_then (po_then (po_bp))) (sameH_now _ _) ?_ -- region 10 syntaxm.go:802
        refine pi_ro rfl (fun w hS => ro_move rfl) ?_
        refine pi_ro rfl (fun w hS => ro_nilCheck rfl) ?_
        refine pi_ro rfl (fun w hS => ro_fieldAddr (k := 9) rfl fo_146_5) ?_
        refine pi_ro rfl (fun w hS => ro_loadB rfl sc_54 (Blk.of_heap (by assumption) hS) rfl) ?_
        refine pi_ro rfl (fun w hS => ro_move rfl) ?_
        refine pi_ro rfl (fun w hS => ro_nilCheck rfl) ?_
        refine pi_ro rfl (fun w hS => ro_fieldAddr (k := 10) rfl fo_146_6) ?_
        refine pi_ro rfl (fun w hS => ro_loadB rfl sc_3 (Blk.of_heap (by assumption) hS) rfl) ?_
        refine pi_ro rfl (fun w hS => ro_assign rfl) ?_
        refine pi_ro rfl (fun w hS => ro_assign rfl) ?_
        refine pi_ro rfl (fun w hS => ro_assign rfl) ?_
        refine pi_nil (x_then (hK13 _ _ ?_))
        clear hK13 K13
        refine c_ret (x_thenR ?_)
        refine bp_ret Tryz.results27 rfl ?_
        refine ⟨hF.thenDrew, ?_⟩
        unfold PrsR prsV
        rw [if_neg (by omega), hR]
      · try simp only [decide_eq_true_eq, decide_eq_false_iff_not, Bool.not_eq_true', Bool.not_eq_false', Bool.not_eq_eq_eq_not, Bool.not_true, Bool.not_false, beq_iff_eq, bne_iff_ne, ne_eq, beq_eq_false_iff_ne, bne_eq_false_iff_eq, gt_iff_lt, ge_iff_le, Int.not_lt, Int.not_le] at hc52
        omega
    · skip
      have hcur : PS.cur ⟨toks s, 0, 0, 0⟩ = t0 := by unfold PS.cur; rw [← tkF_zero, ht5]; rfl
      obtain ⟨U0, hU0⟩ : ∃ U0 : Value, U0 = .slice a4 (0 + 1) c4 := ⟨_, rfl⟩
      have hU5 : ∀ b, own1 U0 b → w.heap.size ≤ b ∧ b ≠ b18 := fun b q => hU4 b (by rw [← hU0]; exact q)
      have hM : MV u5 b18 (ptr nb) s U0 ⟨toks s, 0, 0, 0⟩ := ⟨⟨pos', by rw [hcur, hU0]; exact h5, hp5, fun hk => by
        have hk : 1 < t0.k := by have h := hk; unfold PS.k at h; rw [hcur] at h; exact h
        rw [hcur]
        exact hk5 hk⟩, List.suffix_refl _, toks_ne s, Nat.zero_le _, Nat.zero_le _, Nat.zero_le _, hs48⟩
      have hO5 : Own u5.heap U0 148 8 1 (rws ndc [(Nd.zero, 0)]) := by rw [hU0]; exact hO4.fram F5 (fun b q e => by have e : b = b18 := e; exact (hU4 b q).2 e)
      have hA : MA u5 b18 (ptr nb) s U0 [(Nd.zero, 0)] ⟨toks s, 0, 0, 0⟩ := ⟨hM, hO5, fun q => (hU5 b18 q).2 rfl⟩
      have hpe : Pe ⟨toks s, 0, 0, 0⟩ := ⟨toksF_ok _ _ _, Nat.zero_le _⟩
      have hG : MG u5 b18 (ptr nb) s U0 [(Nd.zero, 0)] ⟨toks s, 0, 0, 0⟩ 1 := ⟨hA, hpe, Nat.zero_le _, by show 1 + 3 * (toks s).length ≤ 10000; omega, Nat.le_refl _, by decide⟩
      replace hF := hF.trans' F5 (fun b hb q => by have q : b = b18 := q; omega)
      have hz5 := hF.size
      refine c_reg ?_ -- region 6 syntaxm.go:797
      refine wl (ro_move rfl) ?_
      refine wl_call rfl en_49 ((MAll.all (20 * (toks s).length + 15)).bl hG (Nat.le_refl _) ⟨_, hq6⟩) ?_
      rintro v u6 ⟨F6, rfl, U6, G6, hA6, hn6, hm6, hl6⟩
      replace hF := hF.trans' F6 (fun b hb q => by
        rcases q with q | q
        · omega
        · have := (hU5 b q).1; omega)
      have hU6 : ∀ b, own1 U6 b → w.heap.size ≤ b := fun b q => by
        rcases hn6 b q with q | q
        · exact (hU5 b q).1
        · omega
      replace hl6 : G6.length = 1 + ndT t1 := hl6
      obtain ⟨g6, cap6, l6, e6, hO6⟩ := hA6.open (by omega)
      subst e6
      obtain ⟨pos6, hX6, hp6⟩ := hA6.v.ex
      unfold mpc at hX6
      have hk0' := mK_0 (t := s1.cur)
      have hkk : s1.k = s1.cur.k := rfl
      have hB6 := hO6.b
      have hne6 := hO6.ne
      refine wl (ro_assign rfl) ?_
      refine wl_nil (x_then (hK8 _ _ ?_))
      clear hK8 K8
      refine c_seq (fun K14 hK14 => ?_)
      refine c_seq (fun K15 hK15 => ?_)
      by_cases hk0 : s1.k = 0
      · skip
        rw [if_pos hk0] at hR
        replace hR := okP_inj hR
        refine c_reg ?_ -- region 7 syntaxm.go:798
        refine wl (ro_move rfl) ?_
        refine wl (ro_nilCheck rfl) ?_
        refine wl (ro_fieldAddr (k := 9) rfl fo_146_5) ?_
        refine wl (ro_loadB rfl sc_54 (by assumption) rfl) ?_
        refine wl (ro_cmp (r := true) rfl rfl rfl) ?_
        refine wl (ro_move rfl) ?_
        refine wlg_yes rfl (ro_move rfl) ?_
        refine wlg_yes rfl (ro_nilCheck rfl) ?_
        refine wlg_yes rfl (ro_fieldAddr (k := 3) rfl fo_146_3) ?_
        refine wlg_yes rfl (ro_fieldAddr (k := 0) rfl fo_144_0) ?_
        refine wlg_yes rfl (ro_loadB rfl sc_3 (by assumption) rfl) ?_
        refine wlg_yes rfl (ro_cmp rfl rfl rfl) ?_
        refine wl (ro_pick rfl rfl rfl) ?_
        refine wl_nil (x_then (hK15 _ _ ?_))
        clear hK15 K15
        refine wc_cond rfl (fun hc45 => ?_) (fun hc45 => ?_)
        · try simp only [decide_eq_true_eq, decide_eq_false_iff_not, Bool.not_eq_true', Bool.not_eq_false', Bool.not_eq_eq_eq_not, Bool.not_true, Bool.not_false, beq_iff_eq, bne_iff_ne, ne_eq, beq_eq_false_iff_ne, bne_eq_false_iff_eq, gt_iff_lt, ge_iff_le, Int.not_lt, Int.not_le] at hc45
          omega
        · try simp only [decide_eq_true_eq, decide_eq_false_iff_not, Bool.not_eq_true', Bool.not_eq_false', Bool.not_eq_eq_eq_not, Bool.not_true, Bool.not_false, beq_iff_eq, bne_iff_ne, ne_eq, beq_eq_false_iff_ne, bne_eq_false_iff_eq, gt_iff_lt, ge_iff_le, Int.not_lt, Int.not_le] at hc45
          refine c_skip (x_then (hK14 _ _ ?_))
          clear hK14 K14
          refine c_seq (fun K16 hK16 => ?_)
          refine c_seq (fun K17 hK17 => ?_)
          refine c_reg ?_ -- region 9 syntaxm.go:801
          refine wl (ro_move rfl) ?_
          refine wl (ro_nilCheck rfl) ?_
          refine wl (ro_fieldAddr (k := 9) rfl fo_146_5) ?_
          refine wl (ro_loadB rfl sc_54 (by assumption) rfl) ?_
          refine wl (ro_cmp rfl rfl rfl) ?_
          refine wl_nil (x_then (hK17 _ _ ?_))
          clear hK17 K17
          refine wc_cond rfl (fun hc52 => ?_) (fun hc52 => ?_)
          · try simp only [decide_eq_true_eq, decide_eq_false_iff_not, Bool.not_eq_true', Bool.not_eq_false', Bool.not_eq_eq_eq_not, Bool.not_true, Bool.not_false, beq_iff_eq, bne_iff_ne, ne_eq, beq_eq_false_iff_ne, bne_eq_false_iff_eq, gt_iff_lt, ge_iff_le, Int.not_lt, Int.not_le] at hc52
            exact absurd rfl hc52
          · try simp only [decide_eq_true_eq, decide_eq_false_iff_not, Bool.not_eq_true', Bool.not_eq_false', Bool.not_eq_eq_eq_not, Bool.not_true, Bool.not_false, beq_iff_eq, bne_iff_ne, ne_eq, beq_eq_false_iff_ne, bne_eq_false_iff_eq, gt_iff_lt, ge_iff_le, Int.not_lt, Int.not_le] at hc52
            refine c_skip (x_then (hK16 _ _ ?_))
            clear hK16 K16
            refine c_seq (fun K18 hK18 => ?_)
            refine c_seq (fun K19 hK19 => ?_)
            refine c_reg ?_ -- region 11 syntaxm.go:804
            refine wl (ro_move rfl) ?_
            refine wl (ro_nilCheck rfl) ?_
            refine wl (ro_fieldAddr (k := 8) rfl fo_146_4) ?_
            refine wl (ro_loadB rfl sc_77 (by assumption) rfl) ?_
            refine wl (ro_lenL rfl se_77) ?_
            refine wl (ro_arith (r := (ndT t1 : Int)) rfl rfl (congrArg some (by show ((G6.length : Nat) : Int) - 1 = _; omega)) (Go.IntWalk.i64_in _ (by have := hO6.k1; have := hO6.k2; omega))) ?_
            refine wl (ro_cmp rfl rfl rfl) ?_
            refine wl_nil (x_then (hK19 _ _ ?_))
            clear hK19 K19
            refine wc_cond rfl (fun hc67 => ?_) (fun hc67 => ?_)
            · try simp only [decide_eq_true_eq, decide_eq_false_iff_not, Bool.not_eq_true', Bool.not_eq_false', Bool.not_eq_eq_eq_not, Bool.not_true, Bool.not_false, beq_iff_eq, bne_iff_ne, ne_eq, beq_eq_false_iff_ne, bne_eq_false_iff_eq, gt_iff_lt, ge_iff_le, Int.not_lt, Int.not_le] at hc67
              refine c_seq (fun K20 hK20 => ?_)
              refine c_reg ?_ -- region 12 syntaxm.go:805
              refine wl (ro_move rfl) ?_
              refine wl (ro_lenS rfl st_9) ?_
              refine wl (ro_assign rfl) ?_
              refine wl (ro_assign rfl) ?_
              refine wl (ro_assign rfl) ?_
              refine wl_nil (x_then (hK20 _ _ ?_))
              clear hK20 K20
              refine c_ret (x_thenR ?_)
              refine bp_ret Tryz.results27 rfl ?_
              refine ⟨hF, ?_⟩
              unfold PrsR prsV
              rw [if_neg (by omega), hR]
              simp only
              rw [if_pos (by omega)]
              rfl
            · try simp only [decide_eq_true_eq, decide_eq_false_iff_not, Bool.not_eq_true', Bool.not_eq_false', Bool.not_eq_eq_eq_not, Bool.not_true, Bool.not_false, beq_iff_eq, bne_iff_ne, ne_eq, beq_eq_false_iff_ne, bne_eq_false_iff_eq, gt_iff_lt, ge_iff_le, Int.not_lt, Int.not_le] at hc67
              refine c_skip (x_then (hK18 _ _ ?_))
              clear hK18 K18
              refine forget [(7, _), (8, _)] ⟨rfl, rfl, trivial⟩ (fun e => ?_)
              refine c_seq (fun K21 hK21 => ?_)
              refine c_reg ?_ -- region 13 syntaxm.go:807
              refine wl (ro_move rfl) ?_
              refine wl (ro_nilCheck rfl) ?_
              refine wl (ro_fieldAddr (k := 8) rfl fo_146_4) ?_
              refine wl (ro_loadB rfl sc_77 (by assumption) rfl) ?_
              refine wl (ro_move rfl) ?_
              refine wl (ro_build rfl bld_107_0_1) ?_
              refine wl_box rfl rfl (fun b76 w3 hbb76 h76 F3 => ?_)
              have hbsb76 := Nat.le_trans hF.size hbb76
              have hneb18b76 : b18 < b76 := Nat.lt_of_lt_of_le hX6.lt hbb76
              have hneg6b76 : g6 < b76 := Nat.lt_of_lt_of_le hB6.lt hbb76
              replace hF := hF.thenDrew.thenN F3
              replace hX6 := F3.blkN hX6
              replace hB6 := F3.blkN hB6
              refine wl (ro_assign rfl) ?_
              refine wl (ro_assign rfl) ?_
              refine wl (ro_assign rfl) ?_
              refine wl_nil (x_then (hK21 _ _ ?_))
              clear hK21 K21
              refine c_ret ?_
              refine bp_ret Tryz.results27 rfl ?_
              refine ⟨hF, ?_⟩
              unfold PrsR prsV
              rw [if_neg (by omega), hR]
              simp only
              rw [if_neg (by omega)]
              refine ⟨b76, rfl, ⟨_, G6, h76, ?_, hm6, by omega⟩, nw_new (by omega)⟩
              rw [show ndT t1 + 1 = G6.length by omega]
              exact OwT.mk' ndc_len hB6 hO6.k1 hO6.k2 hO6.k3 hO6.k4 (nw_new (hU6 g6 rfl))
      · skip
        rw [if_neg hk0] at hR
        replace hR := failP_inj hR
        refine c_reg ?_ -- region 7 syntaxm.go:798
        refine wl (ro_move rfl) ?_
        refine wl (ro_nilCheck rfl) ?_
        refine wl (ro_fieldAddr (k := 9) rfl fo_146_5) ?_
        refine wl (ro_loadB rfl sc_54 (by assumption) rfl) ?_
        refine wl (ro_cmp (r := true) rfl rfl rfl) ?_
        refine wl (ro_move rfl) ?_
        refine wlg_yes rfl (ro_move rfl) ?_
        refine wlg_yes rfl (ro_nilCheck rfl) ?_
        refine wlg_yes rfl (ro_fieldAddr (k := 3) rfl fo_146_3) ?_
        refine wlg_yes rfl (ro_fieldAddr (k := 0) rfl fo_144_0) ?_
        refine wlg_yes rfl (ro_loadB rfl sc_3 (by assumption) rfl) ?_
        refine wlg_yes rfl (ro_cmp rfl rfl rfl) ?_
        refine wl (ro_pick rfl rfl rfl) ?_
        refine wl_nil (x_then (hK15 _ _ ?_))
        clear hK15 K15
        refine wc_cond rfl (fun hc45 => ?_) (fun hc45 => ?_)
        · try simp only [decide_eq_true_eq, decide_eq_false_iff_not, Bool.not_eq_true', Bool.not_eq_false', Bool.not_eq_eq_eq_not, Bool.not_true, Bool.not_false, beq_iff_eq, bne_iff_ne, ne_eq, beq_eq_false_iff_ne, bne_eq_false_iff_eq, gt_iff_lt, ge_iff_le, Int.not_lt, Int.not_le] at hc45
          refine c_reg ?_ -- region 8 syntaxm.go:799
          refine wl (ro_move rfl) ?_
          refine wl_call rfl en_50 (failM (lv := 1) (c := 15) hA6.v (by decide) (by decide)) ?_
          rintro _ u7 ⟨rfl, hE, F7⟩
          obtain ⟨ee, hee0⟩ : ∃ ee, ee = if s1.k = 1 then s1.cur.e else 15 := ⟨_, rfl⟩
          rw [← hee0] at hE hR
          replace hF := hF.trans' F7 (fun b hb q => by have q : b = b18 := q; omega)
          obtain ⟨np', src', pos'', t', U', al', lo', fu', hXe, h1, h2, h3, h4⟩ := hE
          unfold mpc at hXe
          refine wl_nil (x_then (hK14 _ _ ?_))
          clear hK14 K14
          refine c_seq (fun K22 hK22 => ?_)
          refine c_seq (fun K23 hK23 => ?_)
          refine c_reg ?_ -- region 9 syntaxm.go:801
          refine wl (ro_move rfl) ?_
          refine wl (ro_nilCheck rfl) ?_
          refine wl (ro_fieldAddr (k := 9) rfl fo_146_5) ?_
          refine wl (ro_loadB rfl sc_54 (by assumption) rfl) ?_
          refine wl (ro_cmp rfl rfl rfl) ?_
          refine wl_nil (x_then (hK23 _ _ ?_))
          clear hK23 K23
          refine wc_cond rfl (fun hc52 => ?_) (fun hc52 => ?_)
          · try simp only [decide_eq_true_eq, decide_eq_false_iff_not, Bool.not_eq_true', Bool.not_eq_false', Bool.not_eq_eq_eq_not, Bool.not_true, Bool.not_false, beq_iff_eq, bne_iff_ne, ne_eq, beq_eq_false_iff_ne, bne_eq_false_iff_eq, gt_iff_lt, ge_iff_le, Int.not_lt, Int.not_le] at hc52
            refine c_seq (fun K24 hK24 => ?_)
            refine c_pi [(0, false), (1, false), (2, false), (3, false), (4, false), (5, false), (6, false), (7, false), (8, false), (9, false), (10, false)] (SameH _) mixed (by kernel_rfl) rfl (by kernel_rfl) (po_then (po_then (po_bp))) (sameH_now _ _) ?_ -- region 10 syntaxm.go:802
            refine pi_ro rfl (fun w hS => ro_move rfl) ?_
            refine pi_ro rfl (fun w hS => ro_nilCheck rfl) ?_
            refine pi_ro rfl (fun w hS => ro_fieldAddr (k := 9) rfl fo_146_5) ?_
            refine pi_ro rfl (fun w hS => ro_loadB rfl sc_54 (Blk.of_heap (by assumption) hS) rfl) ?_
            refine pi_ro rfl (fun w hS => ro_move rfl) ?_
            refine pi_ro rfl (fun w hS => ro_nilCheck rfl) ?_
            refine pi_ro rfl (fun w hS => ro_fieldAddr (k := 10) rfl fo_146_6) ?_
            refine pi_ro rfl (fun w hS => ro_loadB rfl sc_3 (Blk.of_heap (by assumption) hS) rfl) ?_
            refine pi_ro rfl (fun w hS => ro_assign rfl) ?_
            refine pi_ro rfl (fun w hS => ro_assign rfl) ?_
            refine pi_ro rfl (fun w hS => ro_assign rfl) ?_
            refine pi_nil (x_then (hK24 _ _ ?_))
            clear hK24 K24
            refine c_ret (x_thenR ?_)
            refine bp_ret Tryz.results27 rfl ?_
            refine ⟨hF.thenDrew, ?_⟩
            unfold PrsR prsV
            rw [if_neg (by omega), hR]
          · try simp only [decide_eq_true_eq, decide_eq_false_iff_not, Bool.not_eq_true', Bool.not_eq_false', Bool.not_eq_eq_eq_not, Bool.not_true, Bool.not_false, beq_iff_eq, bne_iff_ne, ne_eq, beq_eq_false_iff_ne, bne_eq_false_iff_eq, gt_iff_lt, ge_iff_le, Int.not_lt, Int.not_le] at hc52
            omega
        · try simp only [decide_eq_true_eq, decide_eq_false_iff_not, Bool.not_eq_true', Bool.not_eq_false', Bool.not_eq_eq_eq_not, Bool.not_true, Bool.not_false, beq_iff_eq, bne_iff_ne, ne_eq, beq_eq_false_iff_ne, bne_eq_false_iff_eq, gt_iff_lt, ge_iff_le, Int.not_lt, Int.not_le] at hc45
          omega
end Go.Proofs.Qxb6500568aGreatDoor
